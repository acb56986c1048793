/- Registers on several nodes: each move keeps what holds. Nothing of the program's code. -/
import Derived.Test.YtglioflpblpmpaaStoS
namespace Go.Proofs.Ytglioflpblpmpaa
set_option linter.unusedVariables false
set_option linter.unusedSimpArgs false
theorem nodupS : ∀ (l r : List Nat), l.Nodup → (∀ x ∈ l, x ∈ r) → l.length ≤ r.length
  | [], r, _, _ => Nat.zero_le _
  | a :: l, r, hn, hs => by
    have ha : a ∈ r := hs a (List.mem_cons_self ..)
    rw [List.nodup_cons] at hn
    have h1 := nodupS l (r.erase a) hn.2 fun x hx => by
      have hne : x ≠ a := fun h => hn.1 (h ▸ hx)
      exact (List.mem_erase_of_ne hne).2 (hs x (List.mem_cons_of_mem _ hx))
    rw [List.length_erase_of_mem ha] at h1
    have h2 : 0 < r.length := List.length_pos_of_mem ha
    show l.length + 1 ≤ r.length
    omega
theorem countT_range (l : List Bool) : countT l = (List.range l.length).countP fun q => l.getD q false := by
  have h : l = (List.range l.length).map fun q => l.getD q false := by
    apply List.ext_getElem?
    intro i
    by_cases hi : i < l.length
    · rw [List.getElem?_map, List.getElem?_range hi, List.getElem?_eq_getElem hi]
      simp [List.getD, hi]
    · rw [List.getElem?_eq_none (by omega), List.getElem?_eq_none (by simp; omega)]
  unfold countT
  conv => lhs; rw [h]
  rw [List.countP_map]
  rfl
theorem getD_some {l : List Bool} {q : Nat} (h : l.getD q false = true) : l[q]? = some true := by
  rw [List.getD_eq_getElem?_getD] at h
  cases hq : l[q]? with
  | none => rw [hq] at h; cases h
  | some b => rw [hq] at h; rw [show b = true from h]
/-- Two heaps of nodes that are together more than all meet. -/
theorem meetQ {n : Nat} {Q : List Nat} {l : List Bool} (hnd : Q.Nodup) (hlt : ∀ q ∈ Q, q < n) (hl : l.length = n) (h : n < countT l + Q.length) : ∃ q ∈ Q, l[q]? = some true := by
  refine Classical.byContradiction fun hno => ?_
  have h1 := nodupS Q ((List.range n).filter fun q => !(l.getD q false)) hnd fun q hq => by
    rw [List.mem_filter]
    refine ⟨List.mem_range.2 (hlt q hq), ?_⟩
    cases hg : l.getD q false with
    | true => exact absurd ⟨q, hq, getD_some hg⟩ hno
    | false => rfl
  rw [← List.countP_eq_length_filter] at h1
  have h2 := List.length_eq_countP_add_countP (fun q => l.getD q false) (l := List.range n)
  rw [List.length_range] at h2
  rw [countT_range, hl] at h
  have h3 : (List.range n).countP (fun q => !(l.getD q false)) = (List.range n).countP (fun q => decide ¬ l.getD q false = true) := by
    congr 1
    funext q
    cases l.getD q false <;> rfl
  omega
theorem QOk.meets {s : SSt} (h : SInv s) {i : Nat} {e : Ev} {st : SEnt} {Q : List Nat} (q : QOk s i e st Q) {l : List Bool} (hl : l.length = s.n) (ha : s.ask ≤ countT l) : ∃ r ∈ Q, l[r]? = some true :=
  meetQ q.nd q.lt hl (by have := h.quo; have := q.len; omega)
theorem Wr.up {s s' : SSt} {c : Nat} {o : Option (Ev × SEnt)} (hf : ∀ i, i ≠ c → s'.cl i = s.cl i) (he : s'.evs = s.evs ++ oE o) (hs : s'.sts = s.sts ++ oS o) (hw : actC (s.cl c) → (s.cl c).telling = true → (s.cl c).began.kind = 2 → Wr s' (keyC s c) (s.cl c).best) {key : Nat} {e : SEnt} (h : Wr s key e) : Wr s' key e := by
  rcases h with ⟨i, ev, st, h1, h2, h3⟩ | ⟨d, h1, h2, h3, h4, h5⟩
  · exact .inl ⟨i, ev, st, by rw [he]; exact get_app h1 _, by rw [hs]; exact get_app h2 _, h3⟩
  · by_cases hd : d = c
    · subst hd
      have := hw h1 h2 h3
      unfold keyC at this
      rw [h4, h5] at this
      exact this
    · exact .inr ⟨d, by rw [hf d hd]; exact h1, by rw [hf d hd]; exact h2, by rw [hf d hd]; exact h3, by rw [hf d hd]; exact h4, by rw [hf d hd]; exact h5⟩
theorem heard_same (x : SCl) (j : Nat) (m : SMsg) : (heardC x j m).busy = x.busy ∧ (heardC x j m).gone = x.gone ∧ (heardC x j m).began = x.began ∧ (heardC x j m).telling = x.telling ∧ (heardC x j m).round = x.round ∧ (heardC x j m).counted = x.counted.set j true := by
  unfold heardC
  split
  · exact ⟨rfl, rfl, rfl, rfl, rfl, rfl⟩
  · split <;> exact ⟨rfl, rfl, rfl, rfl, rfl, rfl⟩
theorem heard_tells (x : SCl) (j : Nat) (m : SMsg) (h : x.telling = true) : (heardC x j m).best = x.best := by
  unfold heardC
  rw [if_pos h]
theorem heard_asks (x : SCl) (j : Nat) (m : SMsg) : x.telling = false → ((heardC x j m).best = m.e ∨ (heardC x j m).best = x.best) ∧ x.best.le (heardC x j m).best ∧ m.e.le (heardC x j m).best := by
  intro h
  unfold heardC
  rw [if_neg (by rw [h]; exact Bool.false_ne_true)]
  split
  · rename_i hl
    exact ⟨.inl rfl, SEnt.less_imp hl, SEnt.le_refl _⟩
  · rename_i hl
    exact ⟨.inr rfl, SEnt.le_refl _, SEnt.le_of_not hl⟩
/-- One more node was heard. -/
theorem SInv.count {s s' : SSt} (h : SInv s) {x : SMail} (hx : x ∈ s.mails) (hw : x.m.what = 3) (hcur : Cur s x)
    (hn : s'.n = s.n) (ha : s'.ask = s.ask) (ht : s'.tell = s.tell) (hb : s'.back = s.back) (hent : s'.ent = s.ent) (hf : ∀ i, i ≠ x.m.client → s'.cl i = s.cl i) (hy : s'.cl x.m.client = heardC (s.cl x.m.client) x.src x.m) (he : s'.evs = s.evs) (hs : s'.sts = s.sts) (hms : ∀ m ∈ s'.mails, m ∈ s.mails) : SInv s' := by
  obtain ⟨y1, y2, y3, y4, y5, y6⟩ := heard_same (s.cl x.m.client) x.src x.m
  have ytl := heard_tells (s.cl x.m.client) x.src x.m
  have yas := heard_asks (s.cl x.m.client) x.src x.m
  obtain ⟨y, hyd⟩ : ∃ y, heardC (s.cl x.m.client) x.src x.m = y := ⟨_, rfl⟩
  rw [hyd] at y1 y2 y3 y4 y5 y6 ytl yas hy
  obtain ⟨c, hc⟩ : ∃ c, x.m.client = c := ⟨_, rfl⟩
  rw [hc] at y1 y2 y3 y4 y5 y6 ytl yas hy hf
  have hbusy : (s.cl c).busy = true := by rw [← hc]; exact hcur.1
  have hact : actC (s.cl c) := .inl hbusy
  have hbk := h.bkey c hact
  have he' : s'.evs = s.evs ++ oE none := by rw [he]; exact (List.append_nil _).symm
  have hs' : s'.sts = s.sts ++ oS none := by rw [hs]; exact (List.append_nil _).symm
  have hwr : actC (s.cl c) → (s.cl c).telling = true → (s.cl c).began.kind = 2 → Wr s' (keyC s c) (s.cl c).best := fun g1 g2 g3 =>
    .inr ⟨c, by rw [hy]; exact .inl (y1.trans hbusy), by rw [hy, y4]; exact g2, by rw [hy, y3]; exact g3, by rw [hy, y3]; unfold keyC; omega, by rw [hy]; exact ytl g2⟩
  have hA : ∀ i d, After (s.evs ++ oE none) i d → After s.evs i d := fun i d hd => by
    rw [show oE none = [] from rfl, List.append_nil] at hd; exact hd
  have hkey : x.m.key = (s.cl c).began.key.toNat := by
    have := h.key x hx hcur
    rw [hc] at this
    omega
  refine h.upd c y none hn ha ht hb hent hf hy he' hs' (fun m hm => .inl (hms m hm)) ?_
  exact {
    round := by omega
    old := fun _ => .inr ⟨rfl, hbusy, y5, y3, y4, fun g => ytl (y4.symm.trans g)⟩
    proc := fun e st g => by cases g
    clen := fun _ => by rw [y6, List.length_set]; exact h.clen c hbusy
    ng := fun _ => by rw [y2]; exact h.ng c hbusy
    bkey := fun _ => by rw [y3]; exact hbk
    b := fun i e st Q g1 q g2 g3 g4 g5 r hr g6 => by
      rw [y4] at g3
      rw [y3] at g4
      obtain ⟨_, k1, k2⟩ := yas g3
      rw [y6] at g6
      by_cases hrj : r = x.src
      · have h1 := q.c x hx hw (by rw [← hrj]; exact hr) hcur (by rw [hc]; exact g3) (by rw [hc]; exact g4) (by rw [hc]; exact hA _ _ g5)
        exact SEnt.le_trans h1 k2
      · rw [List.getElem?_set_ne (fun e => hrj e.symm)] at g6
        exact SEnt.le_trans (q.b c hbusy g3 g4 (hA _ _ g5) r hr g6) k1
    d := fun i e st Q g1 q g2 g3 g4 g5 => by
      rw [y4] at g3
      rw [y3] at g4 ⊢
      rw [ytl g3]
      exact q.d c hact g3 g4 (hA _ _ g5)
    new := fun e st g => by cases g
    f := fun g1 g2 r g3 => by
      rw [y4] at g2
      rw [y6] at g3
      rw [ytl g2, y3]
      by_cases hrj : r = x.src
      · have h1 := h.g x hx hw hcur (by rw [hc]; exact g2)
        rw [hc] at h1
        rw [hrj]
        exact h1
      · rw [List.getElem?_set_ne (fun e => hrj e.symm)] at g3
        exact h.f c hbusy g2 r g3
    aft := fun _ i e g1 g2 g3 => by
      rw [← he'] at g1 ⊢
      rw [he] at g1 ⊢
      exact h.aft c hact i e g1 g2 g3
    pro := fun e st g => by cases g
    fresh := fun e st g => by cases g
    two := fun e st g => by cases g
    wr := hwr
    s3 := fun _ g0 => by
      rw [y3]
      cases htl : (s.cl c).telling with
      | true =>
        rw [ytl htl] at g0 ⊢
        exact Wr.up hf he' hs' hwr (h.s3 c hact g0)
      | false =>
        rcases (yas htl).1 with k | k
        · rw [k] at g0 ⊢
          rw [← hkey]
          exact Wr.up hf he' hs' hwr (h.s2 x hx (by omega) g0)
        · rw [k] at g0 ⊢
          exact Wr.up hf he' hs' hwr (h.s3 c hact g0)
    s4 := fun e st g => by cases g
    s5 := fun e st g => by cases g
    s6 := fun _ g2 g3 => by
      rw [y4] at g2
      rw [y3] at g3 ⊢
      rw [ytl g2]
      exact h.s6 c hact g2 g3 }
/-- An op is over. -/
theorem SInv.done {s s' : SSt} (h : SInv s) (c : Nat) (hbusy : (s.cl c).busy = true) (hq : ((s.cl c).telling = true ∧ s.tell ≤ countT (s.cl c).counted) ∨ ((s.cl c).telling = false ∧ (s.cl c).began.kind = 1 ∧ s.back = false ∧ s.ask ≤ countT (s.cl c).counted))
    (hn : s'.n = s.n) (ha : s'.ask = s.ask) (ht : s'.tell = s.tell) (hb : s'.back = s.back) (hent : s'.ent = s.ent) (hf : ∀ i, i ≠ c → s'.cl i = s.cl i) (hy : s'.cl c = { s.cl c with busy := false }) (he : s'.evs = s.evs ++ [evD (s.cl c)]) (hs : s'.sts = s.sts ++ [⟨(s.cl c).best.t, (s.cl c).best.c, 0⟩]) (hms : ∀ m ∈ s'.mails, m ∈ s.mails) : SInv s' := by
  have hact : actC (s.cl c) := .inl hbusy
  have hbk := h.bkey c hact
  have hcl := h.clen c hbusy
  obtain ⟨o, ho⟩ : ∃ o, o = some (evD (s.cl c), (⟨(s.cl c).best.t, (s.cl c).best.c, 0⟩ : SEnt)) := ⟨_, rfl⟩
  have he' : s'.evs = s.evs ++ oE o := by rw [ho]; exact he
  have hs' : s'.sts = s.sts ++ oS o := by rw [ho]; exact hs
  have hinj : ∀ e st, o = some (e, st) → evD (s.cl c) = e ∧ (⟨(s.cl c).best.t, (s.cl c).best.c, 0⟩ : SEnt) = st := fun e st g => by
    rw [ho] at g
    injection g with g
    injection g with g1 g2
    exact ⟨g1, g2⟩
  have hna : ∀ {P : Prop}, actC { s.cl c with busy := false } → P := fun g => by
    rcases g with g | g
    · cases g
    · have := h.ng c hbusy
      rw [show (s.cl c).gone = true from g] at this
      cases this
  have hwr : actC (s.cl c) → (s.cl c).telling = true → (s.cl c).began.kind = 2 → Wr s' (keyC s c) (s.cl c).best := fun g1 g2 g3 => by
    refine .inl ⟨s.evs.length, evD (s.cl c), ⟨(s.cl c).best.t, (s.cl c).best.c, 0⟩, by rw [he]; exact List.getElem?_concat_length, by rw [hs, h.len]; exact List.getElem?_concat_length, rfl, g3, ?_, rfl, rfl, (h.s6 c hact g2 g3).2.symm⟩
    show (s.cl c).began.key = _
    unfold keyC
    omega
  refine h.upd c _ o hn ha ht hb hent hf hy he' hs' (fun m hm => .inl (hms m hm)) ?_
  exact {
    round := Nat.le_refl _
    old := fun g => by cases g
    proc := fun e st g => by
      obtain ⟨rfl, rfl⟩ := hinj e st g
      exact hbk.2.2.1
    clen := fun g => by cases g
    ng := fun g => by cases g
    bkey := fun g => hna g
    b := fun i e st Q g1 q g2 => by cases g2
    d := fun i e st Q g1 q g2 => hna g2
    new := fun e st g hst => by
      obtain ⟨rfl, rfl⟩ := hinj e st g
      have htl : (s.cl c).telling = true ∧ s.tell ≤ countT (s.cl c).counted := by
        rcases hq with hq | ⟨_, hk, hbk, _⟩
        · exact hq
        · rcases hst.2 with g1 | g1
          · have : (s.cl c).began.kind = 2 := g1
            omega
          · rw [hbk] at g1; cases g1
      refine ⟨(List.range s.n).filter fun q => (s.cl c).counted.getD q false, List.Pairwise.filter _ List.nodup_range, fun q hq => List.mem_range.1 (List.mem_filter.1 hq).1, ?_, fun q hq => ?_⟩
      · rw [← List.countP_eq_length_filter, ← hcl, ← countT_range]
        exact htl.2
      · exact h.f c hbusy htl.1 q (getD_some (List.mem_filter.1 hq).2)
    f := fun g => by cases g
    aft := fun g => hna g
    pro := fun e st g _ => by
      obtain ⟨rfl, rfl⟩ := hinj e st g
      refine ⟨?_, hbk.1, hbk.2.2.2.2⟩
      show 0 ≤ (s.cl c).began.proc
      have := hbk.2.2.1
      omega
    fresh := fun e st g g1 i e0 st0 Q g2 q g3 g4 => by
      obtain ⟨rfl, rfl⟩ := hinj e st g
      rcases hq with ⟨k1, _⟩ | ⟨k1, k2, _, k3⟩
      · exact q.d c hact k1 g3 g4
      · obtain ⟨r, hr, hc⟩ := q.meets h hcl k3
        refine ⟨q.b c hbusy k1 g3 g4 r hr hc, fun g5 => ?_⟩
        have : (s.cl c).began.kind = 2 := g5
        omega
    two := fun _ _ _ _ => hact
    wr := hwr
    s3 := fun g => hna g
    s4 := fun e st g g1 g2 g3 => by
      obtain ⟨rfl, rfl⟩ := hinj e st g
      have hres : (evD (s.cl c)).res = (s.cl c).best.v := if_pos g2
      rw [hres]
      exact Wr.up hf he' hs' hwr (h.s3 c hact g3)
    s5 := fun e st g g1 g2 => by
      obtain ⟨rfl, rfl⟩ := hinj e st g
      rcases hq with ⟨k1, _⟩ | ⟨k1, k2, _, k3⟩
      · exact (h.s6 c hact k1 g2).1
      · have : (s.cl c).began.kind = 2 := g2
        omega
    s6 := fun g => hna g }
/-- What was heard goes out. -/
theorem SInv.tells2 {s s' : SSt} (h : SInv s) (c : Nat) (hbusy : (s.cl c).busy = true) (htl : (s.cl c).telling = false) (hq : s.ask ≤ countT (s.cl c).counted)
    (hn : s'.n = s.n) (ha : s'.ask = s.ask) (ht : s'.tell = s.tell) (hb : s'.back = s.back) (hent : s'.ent = s.ent) (hf : ∀ i, i ≠ c → s'.cl i = s.cl i) (hy : s'.cl c = { newC (s.cl c) c with round := (s.cl c).round + 1, telling := true, counted := List.replicate s.n false }) (he : s'.evs = s.evs) (hs : s'.sts = s.sts)
    (hms : ∀ m ∈ s'.mails, m ∈ s.mails ∨ ∃ i, i < s.n ∧ m = ⟨s.n + c, i, ⟨2, c, (s.cl c).round + 1, keyC s c, (newC (s.cl c) c).best⟩⟩) : SInv s' := by
  have hact : actC (s.cl c) := .inl hbusy
  have hbk := h.bkey c hact
  have hcl := h.clen c hbusy
  have hnb : (newC (s.cl c) c).busy = (s.cl c).busy ∧ (newC (s.cl c) c).gone = (s.cl c).gone ∧ (newC (s.cl c) c).began = (s.cl c).began := by
    unfold newC; split <;> exact ⟨rfl, rfl, rfl⟩
  have hle : (s.cl c).best.le (newC (s.cl c) c).best ∧ ((s.cl c).began.kind = 2 → (s.cl c).best.less (newC (s.cl c) c).best ∧ (newC (s.cl c) c).best.c = (c : Int) ∧ (newC (s.cl c) c).best.v = (s.cl c).began.a) ∧ ((s.cl c).began.kind ≠ 2 → (newC (s.cl c) c).best = (s.cl c).best) := by
    unfold newC
    split
    · rename_i hk
      have hl : (s.cl c).best.less ⟨(s.cl c).best.t + 1, (c : Int), (s.cl c).began.a⟩ := .inl (Nat.lt_succ_self _)
      exact ⟨SEnt.less_imp hl, fun _ => ⟨hl, rfl, rfl⟩, fun g => absurd hk g⟩
    · rename_i hk
      exact ⟨SEnt.le_refl _, fun g => absurd g hk, fun _ => rfl⟩
  obtain ⟨z, hz⟩ : ∃ z, newC (s.cl c) c = z := ⟨_, rfl⟩
  rw [hz] at hnb hle hy hms
  obtain ⟨n1, n2, n3⟩ := hnb
  obtain ⟨l1, l2, l3⟩ := hle
  have he' : s'.evs = s.evs ++ oE none := by rw [he]; exact (List.append_nil _).symm
  have hs' : s'.sts = s.sts ++ oS none := by rw [hs]; exact (List.append_nil _).symm
  have hwr : actC (s.cl c) → (s.cl c).telling = true → (s.cl c).began.kind = 2 → Wr s' (keyC s c) (s.cl c).best := fun _ g _ => by rw [htl] at g; cases g
  have hA : ∀ i d, After (s.evs ++ oE none) i d → After s.evs i d := fun i d hd => by
    rw [show oE none = [] from rfl, List.append_nil] at hd; exact hd
  refine h.upd c _ none hn ha ht hb hent hf hy he' hs' (fun m hm => ?_) ?_
  · rcases hms m hm with g | ⟨i, hi, rfl⟩
    · exact .inl g
    · refine .inr ⟨n1.trans hbusy, Nat.lt_succ_self _, hi, rfl, rfl, ?_, .inr ⟨rfl, rfl, rfl⟩⟩
      show ((keyC s c : Nat) : Int) = z.began.key
      rw [n3]
      unfold keyC
      omega
  exact {
    round := Nat.le_succ _
    old := fun _ => .inl (Nat.lt_succ_self _)
    proc := fun e st g => by cases g
    clen := fun _ => List.length_replicate
    ng := fun _ => by show z.gone = false; rw [n2]; exact h.ng c hbusy
    bkey := fun _ => by show 0 ≤ z.began.key ∧ _; rw [n3]; exact hbk
    b := fun i e st Q g1 q g2 g3 => by cases g3
    d := fun i e st Q g1 q g2 g3 g4 g5 => by
      have g4' : (s.cl c).began.key = e.key := by rw [← n3]; exact g4
      obtain ⟨r, hr, hc⟩ := q.meets h hcl hq
      have k := q.b c hbusy htl g4' (hA _ _ g5) r hr hc
      refine ⟨SEnt.le_trans k l1, fun g6 => ?_⟩
      have g6' : (s.cl c).began.kind = 2 := by rw [← n3]; exact g6
      exact SEnt.le_less k (l2 g6').1
    new := fun e st g => by cases g
    f := fun g1 g2 r g3 => by
      have g3 : (List.replicate s.n false)[r]? = some true := g3
      have := List.eq_of_mem_replicate (List.mem_of_getElem? g3)
      cases this
    aft := fun _ i e g1 g2 g3 => by
      rw [← he'] at g1 ⊢
      rw [he] at g1 ⊢
      exact h.aft c hact i e g1 g2 g3
    pro := fun e st g => by cases g
    fresh := fun e st g => by cases g
    two := fun e st g => by cases g
    wr := hwr
    s3 := fun _ g0 => by
      show Wr s' z.began.key.toNat z.best
      by_cases hk : (s.cl c).began.kind = 2
      · refine .inr ⟨c, by rw [hy]; exact .inl (n1.trans hbusy), by rw [hy], by rw [hy]; show z.began.kind = 2; rw [n3]; exact hk, by rw [hy]; show z.began.key = _; rw [n3]; omega, by rw [hy]⟩
      · have g0 : 0 ≤ z.best.c := g0
        rw [l3 hk] at g0 ⊢
        rw [n3]
        exact Wr.up hf he' hs' hwr (h.s3 c hact g0)
    s4 := fun e st g => by cases g
    s5 := fun e st g => by cases g
    s6 := fun _ g2 g3 => by
      have g3' : (s.cl c).began.kind = 2 := by rw [← n3]; exact g3
      refine ⟨(l2 g3').2.1, ?_⟩
      show z.best.v = z.began.a
      rw [n3]
      exact (l2 g3').2.2 }
/-- An op begins. -/
theorem SInv.begin {s s' : SSt} (h : SInv s) (c key : Nat) (write : Bool) (value : Int) (hbusy : (s.cl c).busy = false) (hgone : (s.cl c).gone = false)
    (hn : s'.n = s.n) (ha : s'.ask = s.ask) (ht : s'.tell = s.tell) (hb : s'.back = s.back) (hent : s'.ent = s.ent) (hf : ∀ i, i ≠ c → s'.cl i = s.cl i) (hy : s'.cl c = { s.cl c with busy := true, began := evB c key write value, best := ⟨0, -2, 0⟩, round := (s.cl c).round + 1, telling := false, counted := List.replicate s.n false }) (he : s'.evs = s.evs ++ [evB c key write value]) (hs : s'.sts = s.sts ++ [⟨0, 0, 0⟩])
    (hms : ∀ m ∈ s'.mails, m ∈ s.mails ∨ ∃ i, i < s.n ∧ m = ⟨s.n + c, i, ⟨1, c, (s.cl c).round + 1, key, ⟨0, 0, 0⟩⟩⟩) : SInv s' := by
  have hna : ∀ {P : Prop}, actC (s.cl c) → P := fun g => by
    rcases g with g | g
    · rw [hbusy] at g; cases g
    · rw [hgone] at g; cases g
  obtain ⟨o, ho⟩ : ∃ o, o = some (evB c key write value, (⟨0, 0, 0⟩ : SEnt)) := ⟨_, rfl⟩
  have he' : s'.evs = s.evs ++ oE o := by rw [ho]; exact he
  have hs' : s'.sts = s.sts ++ oS o := by rw [ho]; exact hs
  have hinj : ∀ e st, o = some (e, st) → evB c key write value = e ∧ (⟨0, 0, 0⟩ : SEnt) = st := fun e st g => by
    rw [ho] at g
    injection g with g
    injection g with g1 g2
    exact ⟨g1, g2⟩
  have hno : ∀ {P : Prop} {e st}, o = some (e, st) → e.ty = 2 → P := fun g g2 => by
    obtain ⟨rfl, rfl⟩ := hinj _ _ g
    have g2 : (1 : Int) = 2 := g2
    omega
  refine h.upd c _ o hn ha ht hb hent hf hy he' hs' (fun m hm => ?_) ?_
  · rcases hms m hm with g | ⟨i, hi, rfl⟩
    · exact .inl g
    · exact .inr ⟨rfl, Nat.lt_succ_self _, hi, rfl, rfl, rfl, .inl ⟨rfl, rfl⟩⟩
  exact {
    round := Nat.le_succ _
    old := fun _ => .inl (Nat.lt_succ_self _)
    proc := fun e st g => by
      obtain ⟨rfl, rfl⟩ := hinj e st g
      rfl
    clen := fun _ => List.length_replicate
    ng := fun _ => hgone
    bkey := fun _ => by
      refine ⟨Int.natCast_nonneg _, rfl, rfl, rfl, ?_⟩
      cases write
      · exact .inl rfl
      · exact .inr rfl
    b := fun i e st Q g1 q g2 g3 g4 g5 r hr g6 => by
      have g6 : (List.replicate s.n false)[r]? = some true := g6
      have := List.eq_of_mem_replicate (List.mem_of_getElem? g6)
      cases this
    d := fun i e st Q g1 q g2 g3 => by cases g3
    new := fun e st g hst => hno g hst.1
    f := fun g1 g2 => by cases g2
    aft := fun _ i e g1 g2 g3 => by
      rcases oE_get g1 with g4 | ⟨_, st, g4⟩
      · refine ⟨s.evs.length, evB c key write value, (List.getElem?_eq_some_iff.1 g4).1, ?_, rfl, rfl⟩
        rw [ho]
        exact List.getElem?_concat_length
      · exact hno g4 g2
    pro := fun e st g g2 => hno g g2
    fresh := fun e st g g2 => hno g g2
    two := fun e st g g2 => hno g g2
    wr := fun g => hna g
    s3 := fun _ g0 => by
      have g0 : (0 : Int) ≤ -2 := g0
      omega
    s4 := fun e st g g2 => hno g g2
    s5 := fun e st g g2 => hno g g2
    s6 := fun _ g2 => by cases g2 }
/-- A client gives up. -/
theorem SInv.give {s s' : SSt} (h : SInv s) (c : Nat) (hbusy : (s.cl c).busy = true)
    (hn : s'.n = s.n) (ha : s'.ask = s.ask) (ht : s'.tell = s.tell) (hb : s'.back = s.back) (hent : s'.ent = s.ent) (hf : ∀ i, i ≠ c → s'.cl i = s.cl i) (hy : s'.cl c = { s.cl c with busy := false, gone := true }) (he : s'.evs = s.evs ++ [{ (s.cl c).began with ty := 4 }]) (hs : s'.sts = s.sts ++ [⟨0, 0, 0⟩])
    (hms : ∀ m ∈ s'.mails, m ∈ s.mails) : SInv s' := by
  have hact : actC (s.cl c) := .inl hbusy
  have hbk := h.bkey c hact
  obtain ⟨o, ho⟩ : ∃ o, o = some (({ (s.cl c).began with ty := 4 } : Ev), (⟨0, 0, 0⟩ : SEnt)) := ⟨_, rfl⟩
  have he' : s'.evs = s.evs ++ oE o := by rw [ho]; exact he
  have hs' : s'.sts = s.sts ++ oS o := by rw [ho]; exact hs
  have hinj : ∀ e st, o = some (e, st) → ({ (s.cl c).began with ty := 4 } : Ev) = e ∧ (⟨0, 0, 0⟩ : SEnt) = st := fun e st g => by
    rw [ho] at g
    injection g with g
    injection g with g1 g2
    exact ⟨g1, g2⟩
  have hno : ∀ {P : Prop} {e st}, o = some (e, st) → e.ty = 2 → P := fun g g2 => by
    obtain ⟨rfl, rfl⟩ := hinj _ _ g
    have g2 : (4 : Int) = 2 := g2
    omega
  have hA : ∀ i d, After (s.evs ++ oE o) i d → After s.evs i d := fun i d hd => by
    rcases hd.of_app with g | ⟨e, st, g1, g2, _⟩
    · exact g
    · obtain ⟨rfl, rfl⟩ := hinj _ _ g1
      have g2 : (4 : Int) = 1 := g2
      omega
  have hwr : actC (s.cl c) → (s.cl c).telling = true → (s.cl c).began.kind = 2 → Wr s' (keyC s c) (s.cl c).best := fun g1 g2 g3 =>
    .inr ⟨c, by rw [hy]; exact .inr rfl, by rw [hy]; exact g2, by rw [hy]; exact g3, by rw [hy]; show (s.cl c).began.key = _; unfold keyC; omega, by rw [hy]⟩
  refine h.upd c _ o hn ha ht hb hent hf hy he' hs' (fun m hm => .inl (hms m hm)) ?_
  exact {
    round := Nat.le_refl _
    old := fun g => by cases g
    proc := fun e st g => by
      obtain ⟨rfl, rfl⟩ := hinj e st g
      exact hbk.2.2.1
    clen := fun g => by cases g
    ng := fun g => by cases g
    bkey := fun _ => hbk
    b := fun i e st Q g1 q g2 => by cases g2
    d := fun i e st Q g1 q g2 g3 g4 g5 => q.d c hact g3 g4 (hA _ _ g5)
    new := fun e st g hst => hno g hst.1
    f := fun g => by cases g
    aft := fun _ i e g1 g2 g3 => by
      rcases oE_get g1 with g4 | ⟨_, st, g4⟩
      · exact (h.aft c hact i e g4 g2 g3).app _
      · exact hno g4 g2
    pro := fun e st g g2 => hno g g2
    fresh := fun e st g g2 => hno g g2
    two := fun e st g g2 => hno g g2
    wr := hwr
    s3 := fun _ g0 => Wr.up hf he' hs' hwr (h.s3 c hact g0)
    s4 := fun e st g g2 => hno g g2
    s5 := fun e st g g2 => hno g g2
    s6 := fun _ g2 g3 => h.s6 c hact g2 g3 }
end Go.Proofs.Ytglioflpblpmpaa
