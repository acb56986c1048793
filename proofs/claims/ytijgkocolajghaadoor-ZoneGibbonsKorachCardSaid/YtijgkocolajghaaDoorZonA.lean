/- ZonLaw, Zon1, Zon2, Zon3, in one text. -/
import Derived.Test.YtijgkocolajghaaDoorRegH
import Derived.Test.YtijgkocolajghaaDoorQueA
/-! ZonLaw: Zones of registers whose values are written once: an order is found just if no two of them are both ahead of each other. Plain. -/
namespace Go.Proofs.YtijgkocolajghaaDoor
set_option linter.unusedVariables false
set_option linter.unusedSimpArgs false
structure OkZ (l : List Op8) : Prop where
  ops : OkOps l
  kind : ∀ i, i < l.length → (oAt l i).kind = 1 ∨ (oAt l i).kind = 2
  ret : ∀ i, i < l.length → 0 ≤ (oAt l i).ret
  key : ∀ i, i < l.length → (oAt l i).key = (oAt l 0).key
  wr : ∀ i, i < l.length → (oAt l i).kind = 2 → (oAt l i).a ≠ 0 ∧ (oAt l i).res = 0
  once : ∀ i j, i < j → j < l.length → (oAt l i).kind = 2 → (oAt l j).kind = 2 → (oAt l i).a ≠ (oAt l j).a
/-- The value of an op. -/
def zvl (l : List Op8) (i : Nat) : Int := if (oAt l i).kind = 2 then (oAt l i).a else (oAt l i).res
def wrB (l : List Op8) (v : Int) (j : Nat) : Bool := decide ((oAt l j).kind = 2) && decide ((oAt l j).a = v)
def rdB (l : List Op8) (v : Int) (j : Nat) : Bool := decide ((oAt l j).kind = 1) && decide ((oAt l j).res = v)
def wcF (l : List Op8) (m : Nat) (v : Int) : Int := match fdN (wrB l v) m with | some j => (oAt l j).call | none => -2
def wrtF (l : List Op8) (m : Nat) (v : Int) : Int := match fdN (wrB l v) m with | some j => (oAt l j).ret | none => -1
def lsF (l : List Op8) (m : Nat) (v : Int) : Nat → Int
  | 0 => wrtF l m v
  | k + 1 => if rdB l v k then min (lsF l m v k) (oAt l k).ret else lsF l m v k
def grF (l : List Op8) (m : Nat) (v : Int) : Nat → Int
  | 0 => wcF l m v
  | k + 1 => if rdB l v k then max (grF l m v k) (oAt l k).call else grF l m v k
def LZ (l : List Op8) (v : Int) : Int := lsF l l.length v l.length
def GZ (l : List Op8) (v : Int) : Int := grF l l.length v l.length
def domZ (l : List Op8) (v : Int) : Prop := v = 0 ∨ ∃ j, j < l.length ∧ (oAt l j).kind = 2 ∧ (oAt l j).a = v
structure FineZ (l : List Op8) : Prop where
  thin : ∀ i, i < l.length → (oAt l i).kind = 1 → domZ l (oAt l i).res ∧ wcF l l.length (oAt l i).res ≤ (oAt l i).ret
  anti : ∀ v w, domZ l v → domZ l w → v ≠ w → ¬ (LZ l v < GZ l w ∧ LZ l w < GZ l v)
section
variable {l : List Op8}
theorem OkZ.okC (h : OkZ l) : OkC l := ⟨h.ops, h.kind, h.ret, h.wr, fun i j hij hj ki kj hh => h.once i j hij hj ki kj hh.2⟩
theorem OkZ.uniq (h : OkZ l) {i j : Nat} (hi : i < l.length) (hj : j < l.length) (ki : (oAt l i).kind = 2) (kj : (oAt l j).kind = 2) (ha : (oAt l i).a = (oAt l j).a) : i = j := by
  rcases Nat.lt_trichotomy i j with h1 | h1 | h1
  · exact absurd ha (h.once i j h1 hj ki kj)
  · exact h1
  · exact absurd ha.symm (h.once j i h1 hi kj ki)
theorem OkZ.num (hQ : OkZ l) {i : Nat} (hi : i < l.length) : 0 ≤ (oAt l i).call ∧ (oAt l i).call < (oAt l i).ret ∧ (oAt l i).ret ≤ 1000000 := by
  have h1 := (hQ.ops.2 i hi).1
  have h2 := (hQ.ops.2 i hi).2.2.1
  have h3 := hQ.ret i hi
  have h4 := told_num h1 (oAt l i).ret (by simp)
  have h5 := h2.2.2.1
  have h6 := h2.1
  refine ⟨by omega, ?_, h4.2⟩
  rcases Int.lt_or_le (oAt l i).call (oAt l i).ret with h7 | h7
  · exact h7
  · exact absurd ⟨by omega, h7⟩ h5
theorem okLin_zon {l : List Op8} (h : OkZ l) {b : Int} (h0 : 0 ≤ b) (h1 : b ≤ 1000000) : OkLin 1 l b := by
  refine ⟨by decide, by decide, h0, h1, h.ops, fun k hk => ?_⟩
  rcases h.kind k hk with h2 | h2 <;> rw [h2] <;> decide
theorem wr_some {v : Int} {m j : Nat} (h : fdN (wrB l v) m = some j) : j < m ∧ (oAt l j).kind = 2 ∧ (oAt l j).a = v := by
  obtain ⟨h1, h2⟩ := fdN_some h
  unfold wrB at h2
  simp only [Bool.and_eq_true, decide_eq_true_eq] at h2
  exact ⟨h1, h2⟩
theorem OkZ.wr_eq (hZ : OkZ l) {j : Nat} (hj : j < l.length) (hk : (oAt l j).kind = 2) : fdN (wrB l (oAt l j).a) l.length = some j := by
  cases hw : fdN (wrB l (oAt l j).a) l.length with
  | none =>
    have := fdN_none.1 hw j hj
    unfold wrB at this
    simp [hk] at this
  | some i =>
    obtain ⟨h1, h2, h3⟩ := wr_some hw
    rw [hZ.uniq h1 hj h2 hk h3]
theorem OkZ.wr_zero (hZ : OkZ l) : fdN (wrB l 0) l.length = none := by
  cases hw : fdN (wrB l 0) l.length with
  | none => rfl
  | some i =>
    obtain ⟨h1, h2, h3⟩ := wr_some hw
    exact absurd h3 (hZ.wr i h1 h2).1
theorem rd_iff {v : Int} {j : Nat} : rdB l v j = true ↔ (oAt l j).kind = 1 ∧ (oAt l j).res = v := by
  unfold rdB
  simp
theorem lsF_base (m : Nat) (v : Int) : ∀ k, lsF l m v k ≤ wrtF l m v
  | 0 => Int.le_refl _
  | k + 1 => by
    have := lsF_base m v k
    unfold lsF
    split <;> omega
theorem lsF_read {m : Nat} {v : Int} {i : Nat} (hr : rdB l v i = true) : ∀ k, i < k → lsF l m v k ≤ (oAt l i).ret
  | 0, h => by omega
  | k + 1, h => by
    unfold lsF
    by_cases hik : i = k
    · subst hik; rw [if_pos hr]; omega
    · have := lsF_read (m := m) hr k (by omega)
      split <;> omega
theorem lsF_at (m : Nat) (v : Int) : ∀ k, lsF l m v k = wrtF l m v ∨ ∃ i, i < k ∧ rdB l v i = true ∧ lsF l m v k = (oAt l i).ret
  | 0 => .inl rfl
  | k + 1 => by
    have ih := lsF_at m v k
    unfold lsF
    split
    · rename_i hr
      by_cases hm : lsF l m v k ≤ (oAt l k).ret
      · rw [Int.min_eq_left hm]
        rcases ih with h | ⟨i, h1, h2, h3⟩
        · exact .inl h
        · exact .inr ⟨i, by omega, h2, h3⟩
      · rw [Int.min_eq_right (by omega)]
        exact .inr ⟨k, by omega, hr, rfl⟩
    · rcases ih with h | ⟨i, h1, h2, h3⟩
      · exact .inl h
      · exact .inr ⟨i, by omega, h2, h3⟩
theorem grF_base (m : Nat) (v : Int) : ∀ k, wcF l m v ≤ grF l m v k
  | 0 => Int.le_refl _
  | k + 1 => by
    have := grF_base m v k
    unfold grF
    split <;> omega
theorem grF_read {m : Nat} {v : Int} {i : Nat} (hr : rdB l v i = true) : ∀ k, i < k → (oAt l i).call ≤ grF l m v k
  | 0, h => by omega
  | k + 1, h => by
    unfold grF
    by_cases hik : i = k
    · subst hik; rw [if_pos hr]; omega
    · have := grF_read (m := m) hr k (by omega)
      split <;> omega
theorem grF_at (m : Nat) (v : Int) : ∀ k, grF l m v k = wcF l m v ∨ ∃ i, i < k ∧ rdB l v i = true ∧ grF l m v k = (oAt l i).call
  | 0 => .inl rfl
  | k + 1 => by
    have ih := grF_at m v k
    unfold grF
    split
    · rename_i hr
      by_cases hm : (oAt l k).call ≤ grF l m v k
      · rw [Int.max_eq_left hm]
        rcases ih with h | ⟨i, h1, h2, h3⟩
        · exact .inl h
        · exact .inr ⟨i, by omega, h2, h3⟩
      · rw [Int.max_eq_right (by omega)]
        exact .inr ⟨k, by omega, hr, rfl⟩
    · rcases ih with h | ⟨i, h1, h2, h3⟩
      · exact .inl h
      · exact .inr ⟨i, by omega, h2, h3⟩
theorem OkZ.mem (hZ : OkZ l) {i : Nat} (hi : i < l.length) : LZ l (zvl l i) ≤ (oAt l i).ret ∧ (oAt l i).call ≤ GZ l (zvl l i) := by
  unfold LZ GZ zvl
  rcases hZ.kind i hi with hk | hk
  · rw [if_neg (by omega)]
    have hr : rdB l (oAt l i).res i = true := rd_iff.2 ⟨hk, rfl⟩
    exact ⟨lsF_read hr _ hi, grF_read hr _ hi⟩
  · rw [if_pos hk]
    have h1 := lsF_base (l := l) l.length (oAt l i).a l.length
    have h2 := grF_base (l := l) l.length (oAt l i).a l.length
    unfold wrtF at h1
    unfold wcF at h2
    rw [hZ.wr_eq hi hk] at h1 h2
    exact ⟨h1, h2⟩
theorem zvl_read {i : Nat} {v : Int} (h : rdB l v i = true) : zvl l i = v := by
  obtain ⟨h1, h2⟩ := rd_iff.1 h
  unfold zvl
  rw [if_neg (by omega), h2]
theorem OkZ.least (hZ : OkZ l) {v : Int} (hd : domZ l v) : (v = 0 ∧ LZ l v = -1) ∨ ∃ i, i < l.length ∧ zvl l i = v ∧ LZ l v = (oAt l i).ret := by
  unfold LZ
  rcases lsF_at (l := l) l.length v l.length with h | ⟨i, h1, h2, h3⟩
  · rw [h]
    unfold wrtF
    rcases hd with rfl | ⟨j, hj, hk, rfl⟩
    · rw [hZ.wr_zero]; exact .inl ⟨rfl, rfl⟩
    · rw [hZ.wr_eq hj hk]; exact .inr ⟨j, hj, if_pos hk, rfl⟩
  · exact .inr ⟨i, h1, zvl_read h2, h3⟩
theorem OkZ.greatest (hZ : OkZ l) {v : Int} (hd : domZ l v) : (v = 0 ∧ GZ l v = -2) ∨ ∃ i, i < l.length ∧ zvl l i = v ∧ GZ l v = (oAt l i).call := by
  unfold GZ
  rcases grF_at (l := l) l.length v l.length with h | ⟨i, h1, h2, h3⟩
  · rw [h]
    unfold wcF
    rcases hd with rfl | ⟨j, hj, hk, rfl⟩
    · rw [hZ.wr_zero]; exact .inl ⟨rfl, rfl⟩
    · rw [hZ.wr_eq hj hk]; exact .inr ⟨j, hj, if_pos hk, rfl⟩
  · exact .inr ⟨i, h1, zvl_read h2, h3⟩
/-! ### An order that is found -/
theorem RegOrd.bef_pos {ord : List Int} (h : RegOrd l ord) (hb : ord.Pairwise fun a b => befB (oAt l b.toNat) (oAt l a.toNat) = false) {i k : Nat} (hi : i < l.length) (hk : k < l.length) (hp : befB (oAt l i) (oAt l k) = true) (hne : i ≠ k) : posO ord i < posO ord k := by
  obtain ⟨h1, h2⟩ := h.pos hi
  obtain ⟨h3, h4⟩ := h.pos hk
  rcases Nat.lt_trichotomy (posO ord i) (posO ord k) with h5 | h5 | h5
  · exact h5
  · exact absurd (h.pos_inj hi hk h5) hne
  · have := List.pairwise_iff_getElem.1 hb _ _ h3 h1 h5
    rw [h2, h4, Int.toNat_natCast, Int.toNat_natCast, hp] at this
    cases this
/-- The write of an op's value, and where it stands. -/
theorem RegOrd.own {ord : List Int} (h : RegOrd l ord) (hZ : OkZ l) (hA : ArgsOk l) {i : Nat} (hi : i < l.length) :
    (zvl l i = 0 ∧ ∀ w, w < l.length → (oAt l w).kind = 2 → ¬ posO ord w < posO ord i) ∨
    (zvl l i ≠ 0 ∧ ∃ w, w < l.length ∧ (oAt l w).kind = 2 ∧ (oAt l w).a = zvl l i ∧ posO ord w ≤ posO ord i ∧ ∀ w', w' < l.length → (oAt l w').kind = 2 → posO ord w < posO ord w' → ¬ posO ord w' < posO ord i) := by
  rcases hZ.kind i hi with hk | hk
  · have e : zvl l i = (oAt l i).res := if_neg (by omega)
    rw [e]
    rcases h.reads hA hi hk with ⟨h1, h2⟩ | ⟨w, w1, w2, w3, w4, w5, w6⟩
    · exact .inl ⟨h1, fun w hw hkw => h2 w hw hkw (by rw [hZ.key w hw, hZ.key i hi])⟩
    · exact .inr ⟨by rw [← w4]; exact (hZ.wr w w1 w2).1, w, w1, w2, w4, by omega, fun w' hw' hk' => w6 w' hw' hk' (by rw [hZ.key w' hw', hZ.key i hi])⟩
  · have e : zvl l i = (oAt l i).a := if_pos hk
    rw [e]
    exact .inr ⟨(hZ.wr i hi hk).1, i, hi, hk, rfl, Nat.le_refl _, fun w' _ _ h1 => by omega⟩
theorem RegOrd.apart {ord : List Int} (h : RegOrd l ord) (hZ : OkZ l) (hA : ArgsOk l) {i i2 j j2 : Nat} (hi : i < l.length) (hi2 : i2 < l.length) (hj : j < l.length) (hj2 : j2 < l.length) (e1 : zvl l i = zvl l i2) (e2 : zvl l j = zvl l j2) (hne : zvl l i ≠ zvl l j) (h1 : posO ord i < posO ord j) (h2 : posO ord j2 < posO ord i2) : False := by
  rcases h.own hZ hA hi with ⟨a1, a2⟩ | ⟨a1, V, a2, a3, a4, a5, a6⟩
  · rcases h.own hZ hA hj2 with ⟨b1, b2⟩ | ⟨b1, W, b2, b3, b4, b5, b6⟩
    · exact hne (by rw [a1, e2, b1])
    · rcases h.own hZ hA hi2 with ⟨c1, c2⟩ | ⟨c1, _⟩
      · exact c2 W b2 b3 (by omega)
      · exact c1 (e1 ▸ a1)
  · rcases h.own hZ hA hj with ⟨b1, b2⟩ | ⟨b1, W, b2, b3, b4, b5, b6⟩
    · exact b2 V a2 a3 (by omega)
    · rcases h.own hZ hA hi2 with ⟨c1, c2⟩ | ⟨c1, V', c2, c3, c4, c5, c6⟩
      · exact a1 (e1.trans c1)
      · rcases h.own hZ hA hj2 with ⟨d1, d2⟩ | ⟨d1, W', d2, d3, d4, d5, d6⟩
        · exact b1 (e2.trans d1)
        · obtain rfl : V = V' := hZ.uniq a2 c2 a3 c3 (by rw [a4, c4, e1])
          obtain rfl : W = W' := hZ.uniq b2 d2 b3 d3 (by rw [b4, d4, e2])
          have hVW : V ≠ W := fun e => hne (by subst e; rw [← a4, ← b4])
          rcases Nat.lt_trichotomy (posO ord V) (posO ord W) with h5 | h5 | h5
          · have := c6 W b2 b3 h5; omega
          · exact hVW (h.pos_inj a2 b2 h5)
          · have := b6 V a2 a3 h5; omega
theorem befB_of (hZ : OkZ l) {i j : Nat} (hi : i < l.length) (h : (oAt l i).ret < (oAt l j).call) : befB (oAt l i) (oAt l j) = true := by
  have := hZ.num hi
  unfold befB
  simp [h]; omega
theorem RegOrd.fineZ {ord : List Int} (h : RegOrd l ord) (hb : ord.Pairwise fun a b => befB (oAt l b.toNat) (oAt l a.toNat) = false) (hZ : OkZ l) (hA : ArgsOk l) : FineZ l := by
  have hpos : ∀ {i k : Nat}, i < l.length → k < l.length → (oAt l i).ret < (oAt l k).call → posO ord i < posO ord k := fun {i k} hi hk hlt => h.bef_pos hb hi hk (befB_of hZ hi hlt) (fun e => by subst e; have := hZ.num hi; omega)
  refine ⟨fun i hi hk => ?_, fun v w hv hw hne hh => ?_⟩
  · rcases h.reads hA hi hk with ⟨h1, h2⟩ | ⟨w, w1, w2, w3, w4, w5, w6⟩
    · rw [h1]
      refine ⟨.inl rfl, ?_⟩
      unfold wcF
      rw [hZ.wr_zero]
      have := hZ.ret i hi
      show (-2 : Int) ≤ _
      omega
    · rw [← w4]
      refine ⟨.inr ⟨w, w1, w2, rfl⟩, ?_⟩
      unfold wcF
      rw [hZ.wr_eq w1 w2]
      show (oAt l w).call ≤ _
      rcases Int.lt_or_le (oAt l i).ret (oAt l w).call with h3 | h3
      · have := hpos hi w1 h3; omega
      · exact h3
  · obtain ⟨g1, g2⟩ := hh
    have key : ∀ {v w : Int}, v ≠ w → ∀ {i j j2 i2 : Nat}, i < l.length → j < l.length → j2 < l.length → i2 < l.length → zvl l i = v → zvl l i2 = v → zvl l j = w → zvl l j2 = w → (oAt l i).ret < (oAt l j).call → (oAt l j2).ret < (oAt l i2).call → False := fun {v w} hne {i j j2 i2} hi hj hj2 hi2 e1 e2 e3 e4 q1 q2 =>
      h.apart hZ hA hi hi2 hj hj2 (e1.trans e2.symm) (e3.trans e4.symm) (by rw [e1, e3]; exact hne) (hpos hi hj q1) (hpos hj2 hi2 q2)
    have zer : ∀ {j2 i2 : Nat}, j2 < l.length → i2 < l.length → zvl l j2 ≠ 0 → zvl l i2 = 0 → (oAt l j2).ret < (oAt l i2).call → False := fun {j2 i2} hj2 hi2 e1 e2 q => by
      have q1 := hpos hj2 hi2 q
      rcases h.own hZ hA hi2 with ⟨_, c2⟩ | ⟨c1, _⟩
      · rcases h.own hZ hA hj2 with ⟨d1, _⟩ | ⟨_, W, d2, d3, _, d5, _⟩
        · exact e1 d1
        · exact c2 W d2 d3 (by omega)
      · exact c1 e2
    rcases hZ.least hv with ⟨rfl, a1⟩ | ⟨i, i1, i2, i3⟩
    · rcases hZ.least hw with ⟨rfl, _⟩ | ⟨j2, j3, j4, j5⟩
      · exact hne rfl
      · have := hZ.num j3
        rcases hZ.greatest hv with ⟨_, b1⟩ | ⟨k, k1, k2, k3⟩
        · omega
        · exact zer j3 k1 (by rw [j4]; exact fun e => hne e.symm) k2 (by omega)
    · have := hZ.num i1
      rcases hZ.greatest hw with ⟨rfl, b1⟩ | ⟨j, j1, j2, j3⟩
      · omega
      · by_cases hw0 : w = 0
        · subst hw0
          exact zer i1 j1 (by rw [i2]; exact hne) j2 (by omega)
        · rcases hZ.least hw with ⟨e, _⟩ | ⟨k, k1, k2, k3⟩
          · exact hw0 e
          · have := hZ.num k1
            rcases hZ.greatest hv with ⟨e, b1⟩ | ⟨m, m1, m2, m3⟩
            · omega
            · exact key hne i1 j1 k1 m1 i2 m2 j2 k2 (by omega) (by omega)
/-! ### An order that is made -/
theorem topoI {R : Int → Int → Prop} {P : Int → Prop} (hmin : ∀ E : List Int, E ≠ [] → (∀ x ∈ E, P x) → ∃ m ∈ E, ∀ z ∈ E, ¬ R z m) : ∀ (k : Nat) (E : List Int), E.length = k → (∀ x ∈ E, P x) → ∃ V : List Int, V.Perm E ∧ V.Pairwise (fun v w => ¬ R w v)
  | 0, E, hE, _ => ⟨[], by rw [List.length_eq_zero_iff.1 hE], .nil⟩
  | k + 1, E, hE, hP => by
    obtain ⟨m, hm, hz⟩ := hmin E (by intro e; rw [e] at hE; cases hE) hP
    obtain ⟨V, h1, h2⟩ := topoI hmin k (E.erase m) (by rw [List.length_erase_of_mem hm]; omega) (fun x hx => hP x (List.mem_of_mem_erase hx))
    refine ⟨m :: V, (h1.cons m).trans (List.perm_cons_erase hm).symm, List.pairwise_cons.2 ⟨fun w hw => hz w (List.mem_of_mem_erase (h1.mem_iff.1 hw)), h2⟩⟩
theorem argminI {f : Int → Int} : ∀ (E : List Int), E ≠ [] → ∃ x ∈ E, ∀ z ∈ E, f x ≤ f z
  | [], h => absurd rfl h
  | [a], _ => ⟨a, by simp, fun z hz => by rw [List.mem_singleton.1 hz]; exact Int.le_refl _⟩
  | a :: b :: E, _ => by
    obtain ⟨x, hx, hm⟩ := argminI (f := f) (b :: E) (by simp)
    by_cases h : f a ≤ f x
    · refine ⟨a, by simp, fun z hz => ?_⟩
      rcases List.mem_cons.1 hz with rfl | hz
      · exact Int.le_refl _
      · exact Int.le_trans h (hm z hz)
    · refine ⟨x, by simp [hx], fun z hz => ?_⟩
      rcases List.mem_cons.1 hz with rfl | hz
      · omega
      · exact hm z hz
theorem FineZ.min (h : FineZ l) (E : List Int) (hE : E ≠ []) (hP : ∀ x ∈ E, domZ l x) : ∃ m ∈ E, ∀ z ∈ E, ¬ (z ≠ m ∧ LZ l z < GZ l m) := by
  obtain ⟨x, hx, hm⟩ := argminI (f := LZ l) E hE
  by_cases hc : ∀ z ∈ E, ¬ (z ≠ x ∧ LZ l z < GZ l x)
  · exact ⟨x, hx, hc⟩
  · have : ∃ z, z ∈ E ∧ z ≠ x ∧ LZ l z < GZ l x := Classical.byContradiction fun hn => hc fun z hz hzz => hn ⟨z, hz, hzz⟩
    obtain ⟨z, z1, z2, z3⟩ := this
    refine ⟨z, z1, fun y hy hyy => ?_⟩
    have h1 := h.anti x z (hP x hx) (hP z z1) (fun e => z2 e.symm)
    have h2 := hm y hy
    omega
def valsZ (l : List Op8) : List Int := 0 :: ((List.range l.length).filter fun i => decide ((oAt l i).kind = 2)).map fun i => (oAt l i).a
theorem mem_valsZ {v : Int} : v ∈ valsZ l ↔ domZ l v := by
  unfold valsZ domZ
  rw [List.mem_cons, List.mem_map]
  constructor
  · rintro (h | ⟨i, h1, h2⟩)
    · exact .inl h
    · rw [List.mem_filter, List.mem_range] at h1
      exact .inr ⟨i, h1.1, by simpa using h1.2, h2⟩
  · rintro (h | ⟨i, h1, h2, h3⟩)
    · exact .inl h
    · exact .inr ⟨i, by rw [List.mem_filter, List.mem_range]; exact ⟨h1, by simpa using h2⟩, h3⟩
theorem OkZ.valsNodup (hZ : OkZ l) : (valsZ l).Nodup := by
  unfold valsZ
  rw [List.nodup_cons]
  constructor
  · rw [List.mem_map]
    rintro ⟨i, h1, h2⟩
    rw [List.mem_filter, List.mem_range] at h1
    exact (hZ.wr i h1.1 (by simpa using h1.2)).1 h2
  · have h1 : ((List.range l.length).filter fun i => decide ((oAt l i).kind = 2)).Nodup := List.nodup_range.filter _
    unfold List.Nodup
    rw [List.pairwise_map]
    refine List.Pairwise.imp_of_mem (fun {a b} ha hb hab e => ?_) h1
    rw [List.mem_filter, List.mem_range] at ha hb
    exact hab (hZ.uniq ha.1 hb.1 (by simpa using ha.2) (by simpa using hb.2) e)
def keyZ (l : List Op8) (V : List Int) (i : Nat) : Int := (V.idxOf (zvl l i) : Int) * 2000002 + if (oAt l i).kind = 2 then 0 else (oAt l i).call + 1
/-- What is asked of keys. -/
structure KeyedZ (l : List Op8) (V : List Int) : Prop where
  inj : ∀ v w, domZ l v → domZ l w → V.idxOf v = V.idxOf w → v = w
  zero : ∀ v, domZ l v → ∀ i, i < l.length → zvl l i = v → V.idxOf 0 ≤ V.idxOf v
  bef : ∀ i k, i < l.length → k < l.length → befB (oAt l i) (oAt l k) = true → keyZ l V i < keyZ l V k
theorem FineZ.keyed (h : FineZ l) (hZ : OkZ l) : ∃ V, KeyedZ l V := by
  obtain ⟨V, h1, h2⟩ := topoI (R := fun z m => z ≠ m ∧ LZ l z < GZ l m) (P := domZ l) (fun E hE hP => h.min E hE hP) _ (valsZ l) rfl (fun x hx => mem_valsZ.1 hx)
  have hnd : V.Nodup := h1.nodup_iff.2 hZ.valsNodup
  have hV : ∀ x, x ∈ V ↔ domZ l x := fun x => by rw [h1.mem_iff, mem_valsZ]
  have hidx : ∀ {x}, domZ l x → ∃ h : V.idxOf x < V.length, V[V.idxOf x] = x := fun {x} hx => ⟨List.idxOf_lt_length_iff.2 ((hV x).2 hx), List.getElem_idxOf _⟩
  have hinj : ∀ v w, domZ l v → domZ l w → V.idxOf v = V.idxOf w → v = w := fun v w hv hw e => by
    obtain ⟨q1, q2⟩ := hidx hv
    obtain ⟨q3, q4⟩ := hidx hw
    rw [← q2, ← q4]
    congr 1
  have hlt : ∀ {v w}, domZ l v → domZ l w → v ≠ w → LZ l v < GZ l w → V.idxOf v < V.idxOf w := fun {v w} hv hw hne hh => by
    obtain ⟨q1, q2⟩ := hidx hv
    obtain ⟨q3, q4⟩ := hidx hw
    rcases Nat.lt_trichotomy (V.idxOf v) (V.idxOf w) with h5 | h5 | h5
    · exact h5
    · exact absurd (hinj v w hv hw h5) hne
    · have := List.pairwise_iff_getElem.1 h2 _ _ q3 q1 h5
      rw [q2, q4] at this
      exact absurd ⟨hne, hh⟩ this
  have hdom : ∀ {i}, i < l.length → domZ l (zvl l i) := fun {i} hi => by
    unfold zvl
    rcases hZ.kind i hi with hk | hk
    · rw [if_neg (by omega)]; exact (h.thin i hi hk).1
    · rw [if_pos hk]; exact .inr ⟨i, hi, hk, rfl⟩
  refine ⟨V, hinj, fun v hv i hi e => ?_, fun i k hi hk hb => ?_⟩
  · by_cases h0 : v = 0
    · rw [h0]; exact Nat.le_refl _
    · subst e
      have g1 := (hZ.mem hi).2
      have g2 := hZ.num hi
      have g3 := lsF_base (l := l) l.length 0 l.length
      unfold wrtF at g3
      rw [hZ.wr_zero] at g3
      have := hlt (.inl rfl) hv (fun e => h0 e.symm) (by show lsF l l.length 0 l.length < _; simp only at g3; omega)
      omega
  · unfold befB at hb
    simp only [Bool.and_eq_true, decide_eq_true_eq] at hb
    have g1 := hZ.mem hi
    have g2 := hZ.mem hk
    have n1 := hZ.num hi
    have n2 := hZ.num hk
    unfold keyZ
    by_cases he : zvl l i = zvl l k
    · rw [he]
      rcases hZ.kind i hi with ki | ki <;> rcases hZ.kind k hk with kk | kk
      · rw [if_neg (by omega), if_neg (by omega)]; omega
      · exfalso
        have t := (h.thin i hi ki).2
        have e : (oAt l i).res = (oAt l k).a := by
          unfold zvl at he
          rw [if_neg (by omega), if_pos kk] at he
          exact he
        rw [e] at t
        unfold wcF at t
        rw [hZ.wr_eq hk kk] at t
        simp only at t
        omega
      · rw [if_pos ki, if_neg (by omega)]; omega
      · exfalso
        unfold zvl at he
        rw [if_pos ki, if_pos kk] at he
        have := hZ.uniq hi hk ki kk he
        subst this
        omega
    · have := hlt (hdom hi) (hdom hk) he (by omega)
      split <;> split <;> omega
theorem goF_write {sts : Nat → List Int} {i : Nat} {c : Int} (hk : (oAt l i).kind = 2) (hr : (oAt l i).res = 0) (hs : sts (keyN l i) = [c]) : goF 1 l sts i = some [(oAt l i).a] := by
  have h1 : stepF 1 (sts (keyN l i)) (oAt l i).kind (oAt l i).a (oAt l i).b = some ([(oAt l i).a], 0) := by
    rw [hk, hs]
    unfold stepF
    rw [if_neg (by rintro (h | h); exact absurd h (by decide); exact absurd rfl h.2), if_pos rfl]
    unfold regF
    rw [if_neg (by decide), if_pos rfl]
  unfold goF
  rw [h1]
  simp only
  rw [if_neg (by rw [hr]; rintro ⟨_, h⟩; exact h rfl)]
theorem goF_read {sts : Nat → List Int} {i : Nat} (hk : (oAt l i).kind = 1) (hs : sts (keyN l i) = [(oAt l i).res]) : goF 1 l sts i = some [(oAt l i).res] := by
  have h1 : stepF 1 (sts (keyN l i)) (oAt l i).kind (oAt l i).a (oAt l i).b = some ([(oAt l i).res], (oAt l i).res) := by
    rw [hk, hs]
    unfold stepF
    rw [if_neg (by rintro (h | h); exact absurd h (by decide); exact absurd rfl h.2), if_pos rfl]
    unfold regF
    rw [if_pos rfl]
    rfl
  unfold goF
  rw [h1]
  simp only
  rw [if_neg (by rintro ⟨_, h⟩; exact h rfl)]
theorem KeyedZ.wit {V : List Int} (h : KeyedZ l V) (hZ : OkZ l) (hF : FineZ l) : ∀ (s p : List Nat) (sts : Nat → List Int) (c : Int), (∀ x, x ∈ p ++ s ↔ x < l.length) → (p ++ s).Nodup → ((p ++ s).Pairwise fun a b => keyZ l V a ≤ keyZ l V b) →
    sts (keyN l 0) = [c] → ((c = 0 ∧ ∀ w ∈ p, (oAt l w).kind ≠ 2) ∨ ∃ w ∈ p, (oAt l w).kind = 2 ∧ (oAt l w).a = c ∧ ∀ w' ∈ p, (oAt l w').kind = 2 → V.idxOf (oAt l w').a ≤ V.idxOf c) →
    Wit 1 l befB s (fun i => decide (i ∈ p)) sts
  | [], p, sts, c, hall, _, _, _, _ => by
    show allF l _ = true
    unfold allF
    rw [List.all_eq_true]
    intro i hi
    have := (hall i).2 (List.mem_range.1 hi)
    rw [List.append_nil] at this
    simp [this]
  | i :: s, p, sts, c, hall, hnd, hs, hst, hinv => by
    have hi : i < l.length := (hall i).1 (by simp)
    have hip : i ∉ p := fun hm => (List.nodup_append.1 hnd).2.2 i hm i (by simp) rfl
    have hkey : keyN l i = keyN l 0 := by unfold keyN; rw [hZ.key _ hi]
    have hin : ∀ k, k < l.length → keyZ l V k < keyZ l V i → k ∈ p := fun k hk hlt => by
      rcases List.mem_append.1 ((hall k).2 hk) with h1 | h1
      · exact h1
      · exfalso
        rcases List.mem_cons.1 h1 with rfl | h1
        · omega
        · have := (List.pairwise_cons.1 (List.pairwise_append.1 hs).2.1).1 k h1
          omega
    have hpl : ∀ y ∈ p, y < l.length := fun y hy => (hall y).1 (by simp [hy])
    have hpk : ∀ y ∈ p, keyZ l V y ≤ keyZ l V i := fun y hy => (List.pairwise_append.1 hs).2.2 y hy i (by simp)
    have hrk : ∀ y ∈ p, (oAt l y).kind = 2 → V.idxOf (oAt l y).a ≤ V.idxOf (zvl l i) := fun y hy ky => by
      have := hpk y hy
      have n := hZ.num hi
      unfold keyZ at this
      rw [if_pos ky, show zvl l y = (oAt l y).a from if_pos ky] at this
      split at this <;> omega
    have hnext : nextF l befB (fun i => decide (i ∈ p)) i = true := by
      unfold nextF
      simp only [Bool.and_eq_true, List.all_eq_true, Bool.not_eq_true', decide_eq_false_iff_not]
      refine ⟨hip, fun k hk => ?_⟩
      cases hb : befB (oAt l k) (oAt l i) with
      | false => simp
      | true => simp [hin k (List.mem_range.1 hk) (h.bef k i (List.mem_range.1 hk) hi hb)]
    have edn : dnSet (fun j => decide (j ∈ p)) i true = fun j => decide (j ∈ p ++ [i]) := by
      funext j
      unfold dnSet
      by_cases hj : j = i
      · subst hj; simp
      · simp [hj]
    have eap : p ++ i :: s = p ++ [i] ++ s := by simp
    have go : ∀ c', goF 1 l sts i = some [c'] → ((c' = 0 ∧ ∀ w ∈ p ++ [i], (oAt l w).kind ≠ 2) ∨ ∃ w ∈ p ++ [i], (oAt l w).kind = 2 ∧ (oAt l w).a = c' ∧ ∀ w' ∈ p ++ [i], (oAt l w').kind = 2 → V.idxOf (oAt l w').a ≤ V.idxOf c') → Wit 1 l befB (i :: s) (fun i => decide (i ∈ p)) sts := fun c' hg hinv' => by
      refine ⟨hi, hnext, [c'], hg, ?_⟩
      rw [edn]
      rw [eap] at hall hnd hs
      refine h.wit hZ hF s (p ++ [i]) _ c' hall hnd hs ?_ hinv'
      unfold stSet
      rw [if_pos hkey.symm]
    rcases hZ.kind i hi with hk | hk
    · have ez : zvl l i = (oAt l i).res := if_neg (by omega)
      have hc : c = (oAt l i).res := by
        obtain ⟨t1, t2⟩ := hF.thin i hi hk
        by_cases h0 : (oAt l i).res = 0
        · rcases hinv with ⟨q1, _⟩ | ⟨w, w1, w2, w3, w4⟩
          · rw [q1, h0]
          · exfalso
            have q1 := hrk w w1 w2
            have hd : domZ l (oAt l w).a := .inr ⟨w, hpl w w1, w2, rfl⟩
            have q2 := h.zero (oAt l w).a hd w (hpl w w1) (if_pos w2)
            rw [ez, h0] at q1
            have := h.inj _ _ hd (.inl rfl) (by omega)
            exact (hZ.wr w (hpl w w1) w2).1 this
        · rcases t1 with t1 | ⟨j, j1, j2, j3⟩
          · exact absurd t1 h0
          · have hjp : j ∈ p := hin j j1 (by
              have n := hZ.num hi
              unfold keyZ
              rw [if_pos j2, if_neg (by omega), ez, show zvl l j = (oAt l j).a from if_pos j2, j3]
              omega)
            rcases hinv with ⟨_, q2⟩ | ⟨w, w1, w2, w3, w4⟩
            · exact absurd j2 (q2 j hjp)
            · have q1 := hrk w w1 w2
              have q2 := w4 j hjp j2
              rw [ez, w3] at q1
              rw [j3] at q2
              exact h.inj _ _ (.inr ⟨w, hpl w w1, w2, w3⟩) (.inr ⟨j, j1, j2, j3⟩) (by omega)
      refine go (oAt l i).res (goF_read hk (by rw [hkey, hst, hc])) ?_
      rw [← hc]
      rcases hinv with ⟨q1, q2⟩ | ⟨w, w1, w2, w3, w4⟩
      · refine .inl ⟨q1, fun w hw => ?_⟩
        rcases List.mem_append.1 hw with hw | hw
        · exact q2 w hw
        · rw [List.mem_singleton.1 hw]; omega
      · refine .inr ⟨w, by simp [w1], w2, w3, fun w' hw' kw' => ?_⟩
        rcases List.mem_append.1 hw' with hw' | hw'
        · exact w4 w' hw' kw'
        · rw [List.mem_singleton.1 hw'] at kw'; omega
    · refine go (oAt l i).a (goF_write hk (hZ.wr i hi hk).2 (hkey ▸ hst)) (.inr ⟨i, by simp, hk, rfl, fun w' hw' kw' => ?_⟩)
      rcases List.mem_append.1 hw' with hw' | hw'
      · have := hrk w' hw' kw'
        rwa [show zvl l i = (oAt l i).a from if_pos hk] at this
      · rw [List.mem_singleton.1 hw']; exact Nat.le_refl _
theorem zone_law (hZ : OkZ l) (h8 : l.length ≤ 8) : (verdF 1 l befB 1000000).1 = 1 ↔ FineZ l := by
  have hA := argsOk (okLin_zon hZ (b := 0) (by omega) (by omega))
  constructor
  · intro hv
    obtain ⟨h1, h2⟩ := verd_sound hv
    refine RegOrd.fineZ (regOrd_of hZ.okC (okLin_zon hZ (b := 0) (by omega) (by omega)) (fun p q hp hpm hqm => ?_) hv) h2.ahead hZ hA
    obtain ⟨i, hi, rfl⟩ := List.getElem_of_mem hpm
    obtain ⟨k, hk, rfl⟩ := List.getElem_of_mem hqm
    have e : ∀ {j : Nat} (hj : j < l.length), oAt l j = l[j] := fun {j} hj => by unfold oAt; rw [List.getD_eq_getElem?_getD, List.getElem?_eq_getElem hj]; rfl
    have := proc_bef hZ.ops hi hk (by rw [e hi, e hk]; exact hp)
    rwa [e hi, e hk] at this
  · intro hF
    obtain ⟨V, hK⟩ := hF.keyed hZ
    have hw : ∃ r, Wit 1 l befB r (fun _ => false) (startS 1).sts := by
      refine ⟨(List.range l.length).mergeSort fun i k => decide (keyZ l V i ≤ keyZ l V k), ?_⟩
      have hp := List.mergeSort_perm (List.range l.length) (fun i k => decide (keyZ l V i ≤ keyZ l V k))
      have hs := List.pairwise_mergeSort (le := fun i k => decide (keyZ l V i ≤ keyZ l V k)) (fun a b c h1 h2 => by simp at h1 h2 ⊢; omega) (fun a b => by simp; omega) (List.range l.length)
      have e0 : (fun _ : Nat => false) = fun i => decide (i ∈ ([] : List Nat)) := by funext i; simp
      rw [e0]
      by_cases hl : l.length = 0
      · simp only [hl, List.range_zero, List.mergeSort_nil]
        show allF l _ = true
        unfold allF
        rw [hl]
        rfl
      refine hK.wit hZ hF _ [] _ 0 (fun x => ?_) ?_ ?_ ?_ (.inl ⟨rfl, by simp⟩)
      · rw [List.nil_append, hp.mem_iff, List.mem_range]
      · rw [List.nil_append]; exact hp.nodup_iff.2 List.nodup_range
      · rw [List.nil_append]; exact hs.imp (fun h => by simpa using h)
      · show (if keyN l 0 < 8 then startF 1 else []) = _
        rw [if_pos (hA.keyN (by omega))]
        rfl
    obtain ⟨r, hr⟩ := hw
    have h2 : (verdF 1 l befB 1000000).1 ≠ 2 := fun h2 => verd_complete hA h2 r hr
    have h3 := verd_known (o := 1) (ab := befB) (bud := 1000000) h8 (by omega)
    rcases enter_code (o := 1) (l := l) (ab := befB) (bud := 1000000) (l.length + 1) (startS 1) with h4 | h4 | h4
    · exact h4
    · exact absurd h4 h2
    · exact absurd h4 h3
end
end Go.Proofs.YtijgkocolajghaaDoor

/-! Zon1: zone.Check. -/
namespace Go.Proofs.YtijgkocolajghaaDoor
open Go.RowKit
set_option linter.unusedVariables false
set_option linter.unusedSimpArgs false
def OkZ1 (k0 : Int) (p : Op8) : Prop := (p.kind = 1 ∨ p.kind = 2) ∧ 0 ≤ p.ret ∧ p.key = k0 ∧ (p.kind = 2 → p.a ≠ 0 ∧ p.res = 0)
def OkZk (l : List Op8) (k : Nat) : Prop := (∀ i, i < k → OkZ1 (oAt l 0).key (oAt l i)) ∧ ∀ i j, i < j → j < k → (oAt l i).kind = 2 → (oAt l j).kind = 2 → (oAt l i).a ≠ (oAt l j).a
theorem OkZk.succ {l : List Op8} {k : Nat} (h : OkZk l k) (h1 : OkZ1 (oAt l 0).key (oAt l k)) (h2 : (oAt l k).kind = 2 → fdN (wrB l (oAt l k).a) k = none) : OkZk l (k + 1) := by
  refine ⟨fun i hi => ?_, fun i j hij hj ki kj => ?_⟩
  · rcases Nat.lt_or_ge i k with h3 | h3
    · exact h.1 i h3
    · obtain rfl : i = k := by omega
      exact h1
  · rcases Nat.lt_or_ge j k with h3 | h3
    · exact h.2 i j hij h3 ki kj
    · obtain rfl : j = k := by omega
      have := fdN_none.1 (h2 kj) i hij
      intro e
      unfold wrB at this
      simp [ki, e] at this
theorem okZ_of {l : List Op8} (h1 : OkOps l) (h2 : OkZk l l.length) : OkZ l := ⟨h1, fun i hi => (h2.1 i hi).1, fun i hi => (h2.1 i hi).2.1, fun i hi => (h2.1 i hi).2.2.1, fun i hi => (h2.1 i hi).2.2.2, fun i j hij hj => h2.2 i j hij hj⟩
theorem OkZ.one {l : List Op8} (h : OkZ l) {i : Nat} (hi : i < l.length) : OkZ1 (oAt l 0).key (oAt l i) := ⟨h.kind i hi, h.ret i hi, h.key i hi, h.wr i hi⟩
def CzPost (l : List Op8) (w0 : World) (en : Ending) (w' : World) : Prop := Pure w0 w' ∧ ((OkZ l ∧ en = .returned .nilIface) ∨ (¬ OkZ l ∧ ∃ x, IsErr8 x ∧ en = .returned x))
theorem CzPost.bad {l : List Op8} {w0 w' : World} {z : Int} (h : ¬ OkZ l) (hp : Pure w0 w') (hz : z ≠ 8 := by decide) : CzPost l w0 (.returned (.iface 36 (.int .i64 z))) w' := ⟨hp, .inr ⟨h, _, ⟨z, rfl, hz⟩, rfl⟩⟩
set_option maxHeartbeats 8000000 in
theorem zcheck_any (A : Option Addr) (n c : Nat) (l : List Op8) (D : Nat → Prop) (w0 : World) (h : OpsR w0 D (.slice A n c) l) : Calls Tryd.prog 26 #[.slice A n c] w0 (CzPost l w0) := by
  obtain ⟨hn, hc1, hc2⟩ := h.len
  subst hn
  have hI := Inv.start (fun _ => False) w0
  refine calls_of_W (N := Tryd.f26.ntmps) Tryd.func26 rfl rfl rfl ?_
  refine W_seq ?_
  refine W_region ?_
  refine WL_val rfl rfl rfl (by first | exact rAsgnN rfl rfl | exact rAsgnE rfl rfl | exact rAsgn rfl) ?_
  refine WL_nil ?_
  by_cases hok : OkOps l
  rotate_left
  · refine W_seq ?_
    refine W_seq ?_
    refine W_region ?_
    refine WL_val rfl rfl rfl (by first | exact rMoveS rfl rfl | exact rMove rfl) ?_
    refine WL_call rfl rfl rfl (rCall (vs := [.slice _ _ _]) rfl Tryd.func22 rfl rfl rfl) ?_
    refine (checkOps8_any A l.length c l D _ (h.pure hI.pu)).mono ?_
    rintro e w1 ⟨hp, ⟨h1, _⟩ | ⟨_, x, ⟨z, rfl, hz8⟩, rfl⟩⟩
    · exact absurd h1 hok
    refine ⟨_, rfl, ?_⟩
    replace hI := hI.pure hp
    refine WL_val rfl rfl rfl (by first | exact rAsgnN rfl rfl | exact rAsgnE rfl rfl | exact rAsgn rfl) ?_
    refine WL_nil ?_
    refine W_seq ?_
    refine W_region ?_
    refine WL_val rfl rfl rfl (by first | exact rMoveN rfl rfl | exact rMoveE rfl rfl | exact rMove rfl) ?_
    refine WL_val rfl rfl rfl (by first | exact rIfaceNe rfl Tryd.underlying24 rfl rfl | exact rNilNe rfl Tryd.underlying24 rfl) ?_
    refine WL_nil ?_
    refine W_cond true rfl ?_
    refine W_seq ?_
    refine W_region ?_
    refine WL_val rfl rfl rfl (by first | exact rMoveN rfl rfl | exact rMoveE rfl rfl | exact rMove rfl) ?_
    refine WL_val rfl rfl rfl (by first | exact rAsgnN rfl rfl | exact rAsgnE rfl rfl | exact rAsgn rfl) ?_
    refine WL_nil ?_
    refine W_ret ?_
    exact ret1 2 (.inr rfl) rfl (CzPost.bad (fun hh => hok hh.ops) hI.pu hz8)
  refine W_seq ?_
  refine W_seq ?_
  refine W_region ?_
  refine WL_val rfl rfl rfl (by first | exact rMoveS rfl rfl | exact rMove rfl) ?_
  refine WL_call rfl rfl rfl (rCall (vs := [.slice _ _ _]) rfl Tryd.func22 rfl rfl rfl) ?_
  refine (checkOps8_any A l.length c l D _ (h.pure hI.pu)).mono ?_
  rintro e w1 ⟨hp, ⟨_, rfl⟩ | ⟨h1, _⟩⟩
  rotate_left
  · exact absurd hok h1
  refine ⟨_, rfl, ?_⟩
  replace hI := hI.pure hp
  refine WL_val rfl rfl rfl (by first | exact rAsgnN rfl rfl | exact rAsgnE rfl rfl | exact rAsgn rfl) ?_
  refine WL_nil ?_
  refine W_seq ?_
  refine W_region ?_
  refine WL_val rfl rfl rfl (by first | exact rMoveN rfl rfl | exact rMoveE rfl rfl | exact rMove rfl) ?_
  refine WL_val rfl rfl rfl (by first | exact rIfaceNe rfl Tryd.underlying24 rfl rfl | exact rNilNe rfl Tryd.underlying24 rfl) ?_
  refine WL_nil ?_
  refine W_cond false rfl ?_
  refine W_skip ?_
  refine W_seq ?_
  refine W_region ?_
  refine WL_mkMapK okI kI hI rfl rfl rfl rfl ?_
  clear hI; rintro b15 w hI
  refine WL_val rfl rfl rfl (by first | exact rAsgnM rfl rfl | exact rAsgn rfl) ?_
  refine WL_nil ?_
  have h40 := hok.1
  rw [mpF_zero (wrB l)] at hI
  refine W_seq ?_
  refine W_seq ?_
  refine W_region ?_
  refine WL_val rfl rfl rfl (by first | exact rMoveS rfl rfl | exact rMove rfl) ?_
  refine WL_val rfl rfl rfl (rLen rfl Tryd.underlying22 rfl) ?_
  refine WL_val rfl rfl rfl (by first | exact rMoveI rfl rfl | exact rMove rfl) ?_
  refine WL_nil ?_
  refine W_block ?_
  refine W_loopN (fun mu ρ w => ∃ k : Nat, mu = l.length - k ∧ k ≤ l.length ∧ OkZk l k ∧ Has ρ [(18, .int .i64 (k : Int)), (17, .int .i64 (l.length : Int)), (16, .slice A l.length c), (4, .map (some b15)), (0, .slice A l.length c)] ∧ Inv (fun _ => False) w0 w [MapKE okI kI b15 (mpF (wrB l) k)]) l.length
    ⟨0, rfl, by omega, ⟨fun i hi => by omega, fun i j _ hj => by omega⟩, ⟨rfl, rfl, rfl, rfl, rfl, trivial⟩, hI⟩ ?_
  clear hI
  rintro mu ρ w ⟨k, rfl, hk, hall, hH, hI⟩
  obtain ⟨σ, rfl⟩ := hH.open
  by_cases hkl : k < l.length
  rotate_left
  · obtain rfl : k = l.length := by omega
    refine W_seq ?_
    refine W_region ?_
    refine WL_val rfl rfl rfl (by first | exact rLssT rfl rfl rfl (by omega) | exact rLssF rfl rfl rfl (by omega) | exact rLss rfl rfl rfl) ?_
    refine WL_nil ?_
    refine W_seq ?_
    refine W_cond false rfl ?_
    refine W_exit ?_
    refine W_seq ?_
    refine W_region ?_
    refine WL_val rfl rfl rfl (by first | exact rAsgnN rfl rfl | exact rAsgnE rfl rfl | exact rAsgn rfl) ?_
    refine WL_nil ?_
    refine W_ret ?_
    exact ret1 2 (.inr rfl) rfl ⟨hI.pu, .inl ⟨okZ_of hok hall, rfl⟩⟩
  obtain ⟨bA, oA, hAe, hoc⟩ := (h.pure hI.pu).at hkl
  subst hAe
  have ho0 : ∀ W : World, Pure w0 W → ∀ (j : Nat) (u : Value), (opV (oAt l 0))[j]? = some u → W.cell? ⟨bA, oA + j, none⟩ = some u := fun W hp j u hj => by
    obtain ⟨b', o', e, hc⟩ := (h.pure hp).at (show 0 < l.length by omega)
    injection e with e
    injection e with e1 e2
    subst e1 e2
    simpa using hc j u hj
  have hone := fun (hh : OkZ l) => hh.one hkl
  have hsucc := hall.succ
  have hsame := mpF_same (f := wrB l) (k := k)
  have hnew := mpF_new (f := wrB l) (k := k) (a := (oAt l k).a)
  have htw : ∀ j, fdN (wrB l (oAt l k).a) k = some j → (oAt l k).kind = 2 → ¬ OkZ l := fun j hj hk9 hh => by
    obtain ⟨q1, q2, q3⟩ := wr_some hj
    exact hh.once j k q1 hkl q2 hk9 q3
  have hpb : ∀ v, wrB l v k = (decide ((oAt l k).kind = 2) && decide ((oAt l k).a = v)) := fun v => rfl
  generalize hpk : oAt l k = pk at hoc hone hsucc hnew htw hpb
  obtain ⟨p0, p1, p2, p3, p4, p5, p6, p7⟩ := pk
  generalize hk0 : (oAt l 0) = z0 at ho0 hone hsucc
  obtain ⟨z0, z1, z2, z3, z4, z5, z6, z7⟩ := z0
  simp only at hnew htw hpb hsucc hone
  have hz1 := fun (W : World) (hp : Pure w0 W) => ho0 W hp 1 _ rfl
  refine W_seq ?_
  refine W_region ?_
  refine WL_val rfl rfl rfl (by first | exact rLssT rfl rfl rfl (by omega) | exact rLssF rfl rfl rfl (by omega) | exact rLss rfl rfl rfl) ?_
  refine WL_nil ?_
  refine W_seq ?_
  refine W_cond true rfl ?_
  refine W_skip ?_
  refine W_seq ?_
  refine W_block ?_
  refine W_seq ?_
  refine W_region ?_
  refine WL_val rfl rfl rfl (by first | exact rMoveI rfl rfl | exact rMove rfl) ?_
  refine WL_val rfl rfl rfl (rIdx (sz := 8) rfl Tryd.underlying22 (by kernel_rfl) rfl rfl (by omega)) ?_
  refine WL_val rfl rfl rfl (by first | exact rLdB (n := 8) rfl (by kernel_rfl) (by kernel_rfl) rfl rfl hI.g0 | exact rLdA (n := 8) rfl (by kernel_rfl) (by kernel_rfl) rfl (by rfl) (fun k u hk => hI.oldp (hoc k u hk)) | exact rLdA (n := 8) rfl (by kernel_rfl) (by kernel_rfl) rfl (by rfl) hoc) ?_
  refine WL_alloc (u := .agg #[.int .i64 0, .int .i64 0, .int .i64 0, .int .i64 0, .int .i64 0, .int .i64 0, .int .i64 0, .int .i64 0]) (vs := #[.int .i64 0, .int .i64 0, .int .i64 0, .int .i64 0, .int .i64 0, .int .i64 0, .int .i64 0, .int .i64 0]) hI rfl rfl rfl rfl (by kernel_rfl) rfl ?_
  clear hI; rintro b6 w - - hI
  refine WL_val rfl rfl rfl (by first | exact rAsgnI rfl rfl | exact rAsgn rfl) ?_
  first | refine WL_stw0 (u := .agg _) (vs := #[_, _, _, _, _, _, _, _]) (n := 8) hI rfl rfl rfl rfl rfl rfl (by kernel_rfl) rfl rfl rfl ?_
  clear hI; intro w hI
  refine WL_nil ?_
  simp only [opV] at hI
  have bad : ∀ (w : World), ¬ OkZ1 z1 ⟨p0, p1, p2, p3, p4, p5, p6, p7⟩ → Pure w0 w → CzPost l w0 (.returned (.iface 36 (.int .i64 3))) w := fun w hb hp => CzPost.bad (fun hh => hb (hone hh)) hp
  by_cases k9 : p2 = 2
  · have k10 : ¬ p2 = 1 := by omega
    refine W_seq ?_
    refine W_region ?_
    refine WL_val rfl rfl rfl (by first | exact rFldN (off := 2) rfl (by kernel_rfl) rfl | exact rFld (off := 2) rfl (by kernel_rfl) rfl) ?_
    refine WL_val rfl rfl rfl (by first | exact rLd (v := .int .i64 _) rfl (by kernel_rfl) rfl (by first | exact hI.c0 rfl | exact hI.c1 rfl | exact hI.c2 rfl | exact hI.c3 rfl | exact hI.c4 rfl | exact hI.c5 rfl) | exact rLd rfl (by kernel_rfl) rfl (by first | exact hI.c0 rfl | exact hI.c1 rfl | exact hI.c2 rfl | exact hI.c3 rfl | exact hI.c4 rfl | exact hI.c5 rfl)) ?_
    refine WL_val rfl rfl rfl (by first | exact rEqlT rfl rfl rfl (by omega) | exact rEqlF rfl rfl rfl (by omega) | exact rEql rfl rfl rfl) ?_
    refine WL_val rfl rfl rfl (by first | exact rAsgnB rfl rfl | exact rAsgn rfl) ?_
    refine WL_nil ?_
    by_cases hr : 0 ≤ p7
    rotate_left
    · refine W_seq ?_
      refine W_seq ?_
      refine W_draw (by kernel_rfl) ?_
      refine WA_inv (T := []) hI.drew ?_
      intro Sx hSx hXS
      replace hI := hI.drew
      refine WT_take 0 rfl rfl (by kernel_rfl) (hXS _ hI) rfl (fun W hW => have hI := hSx W hW; (by first | exact rFldN (off := 2) rfl (by kernel_rfl) rfl | exact rFld (off := 2) rfl (by kernel_rfl) rfl)) ?_
      refine WT_take 1 rfl rfl (by kernel_rfl) (hXS _ hI) rfl (fun W hW => have hI := hSx W hW; (by first | exact rLd (v := .int .i64 _) rfl (by kernel_rfl) rfl (by first | exact hI.c0 rfl | exact hI.c1 rfl | exact hI.c2 rfl | exact hI.c3 rfl | exact hI.c4 rfl | exact hI.c5 rfl) | exact rLd rfl (by kernel_rfl) rfl (by first | exact hI.c0 rfl | exact hI.c1 rfl | exact hI.c2 rfl | exact hI.c3 rfl | exact hI.c4 rfl | exact hI.c5 rfl))) ?_
      refine WT_take 2 rfl rfl (by kernel_rfl) (hXS _ hI) rfl (fun W hW => have hI := hSx W hW; (by first | exact rNeqT rfl rfl rfl (by omega) | exact rNeqF rfl rfl rfl (by omega) | exact rNeq rfl rfl rfl)) ?_
      refine WT_take 3 rfl rfl (by kernel_rfl) (hXS _ hI) rfl (fun W hW => have hI := hSx W hW; (by first | exact rMoveB rfl rfl | exact rMove rfl)) ?_
      first | refine WT_take 4 rfl rfl (by kernel_rfl) (hXS _ hI) rfl (fun W hW => have hI := hSx W hW; (by first | exact rMoveB rfl rfl | exact rMove rfl)) ?_ | refine WT_skip 4 rfl rfl (by kernel_rfl) (hXS _ hI) rfl ?_
      first | refine WT_take 5 rfl rfl (by kernel_rfl) (hXS _ hI) rfl (fun W hW => have hI := hSx W hW; (by first | exact rNotT rfl rfl | exact rNotF rfl rfl | exact rNot rfl rfl)) ?_ | refine WT_skip 5 rfl rfl (by kernel_rfl) (hXS _ hI) rfl ?_
      refine WT_take 6 rfl rfl (by kernel_rfl) (hXS _ hI) rfl (fun W hW => have hI := hSx W hW; (by first | exact rPickTB rfl rfl rfl | exact rPickFB rfl rfl rfl | exact rPickB rfl rfl rfl rfl)) ?_
      refine WT_take 7 rfl rfl (by kernel_rfl) (hXS _ hI) rfl (fun W hW => have hI := hSx W hW; (by first | exact rMoveB rfl rfl | exact rMove rfl)) ?_
      first | refine WT_take 8 rfl rfl (by kernel_rfl) (hXS _ hI) rfl (fun W hW => have hI := hSx W hW; (by first | exact rFldN (off := 7) rfl (by kernel_rfl) rfl | exact rFld (off := 7) rfl (by kernel_rfl) rfl)) ?_ | refine WT_skip 8 rfl rfl (by kernel_rfl) (hXS _ hI) rfl ?_
      first | refine WT_take 9 rfl rfl (by kernel_rfl) (hXS _ hI) rfl (fun W hW => have hI := hSx W hW; (by first | exact rLd (v := .int .i64 _) rfl (by kernel_rfl) rfl (by first | exact hI.c0 rfl | exact hI.c1 rfl | exact hI.c2 rfl | exact hI.c3 rfl | exact hI.c4 rfl | exact hI.c5 rfl) | exact rLd rfl (by kernel_rfl) rfl (by first | exact hI.c0 rfl | exact hI.c1 rfl | exact hI.c2 rfl | exact hI.c3 rfl | exact hI.c4 rfl | exact hI.c5 rfl))) ?_ | refine WT_skip 9 rfl rfl (by kernel_rfl) (hXS _ hI) rfl ?_
      first | refine WT_take 10 rfl rfl (by kernel_rfl) (hXS _ hI) rfl (fun W hW => have hI := hSx W hW; (by first | exact rLssT rfl rfl rfl (by omega) | exact rLssF rfl rfl rfl (by omega) | exact rLss rfl rfl rfl)) ?_ | refine WT_skip 10 rfl rfl (by kernel_rfl) (hXS _ hI) rfl ?_
      refine WT_take 11 rfl rfl (by kernel_rfl) (hXS _ hI) rfl (fun W hW => have hI := hSx W hW; (by first | exact rPickTB rfl rfl rfl | exact rPickFB rfl rfl rfl | exact rPickB rfl rfl rfl rfl)) ?_
      refine WT_take 12 rfl rfl (by kernel_rfl) (hXS _ hI) rfl (fun W hW => have hI := hSx W hW; (by first | exact rMoveB rfl rfl | exact rMove rfl)) ?_
      refine WT_skip 13 rfl rfl (by kernel_rfl) (hXS _ hI) rfl ?_
      refine WT_skip 14 rfl rfl (by kernel_rfl) (hXS _ hI) rfl ?_
      refine WT_skip 15 rfl rfl (by kernel_rfl) (hXS _ hI) rfl ?_
      refine WT_skip 16 rfl rfl (by kernel_rfl) (hXS _ hI) rfl ?_
      refine WT_skip 17 rfl rfl (by kernel_rfl) (hXS _ hI) rfl ?_
      refine WT_skip 18 rfl rfl (by kernel_rfl) (hXS _ hI) rfl ?_
      refine WT_skip 19 rfl rfl (by kernel_rfl) (hXS _ hI) rfl ?_
      refine WT_take 20 rfl rfl (by kernel_rfl) (hXS _ hI) rfl (fun W hW => have hI := hSx W hW; (by first | exact rPickTB rfl rfl rfl | exact rPickFB rfl rfl rfl | exact rPickB rfl rfl rfl rfl)) ?_
      refine WT_take 21 rfl rfl (by kernel_rfl) (hXS _ hI) rfl (fun W hW => have hI := hSx W hW; (by first | exact rMoveB rfl rfl | exact rMove rfl)) ?_
      refine WT_skip 22 rfl rfl (by kernel_rfl) (hXS _ hI) rfl ?_
      refine WT_skip 23 rfl rfl (by kernel_rfl) (hXS _ hI) rfl ?_
      refine WT_skip 24 rfl rfl (by kernel_rfl) (hXS _ hI) rfl ?_
      refine WT_skip 25 rfl rfl (by kernel_rfl) (hXS _ hI) rfl ?_
      refine WT_skip 26 rfl rfl (by kernel_rfl) (hXS _ hI) rfl ?_
      refine WT_skip 27 rfl rfl (by kernel_rfl) (hXS _ hI) rfl ?_
      refine WT_skip 28 rfl rfl (by kernel_rfl) (hXS _ hI) rfl ?_
      refine WT_skip 29 rfl rfl (by kernel_rfl) (hXS _ hI) rfl ?_
      refine WT_skip 30 rfl rfl (by kernel_rfl) (hXS _ hI) rfl ?_
      refine WT_skip 31 rfl rfl (by kernel_rfl) (hXS _ hI) rfl ?_
      first | refine WT_take 32 rfl rfl (by kernel_rfl) (hXS _ hI) rfl (fun W hW => have hI := hSx W hW; (by first | exact rPickTB rfl rfl rfl | exact rPickFB rfl rfl rfl | exact rPickB rfl rfl rfl rfl)) ?_ | refine WT_skip 32 rfl rfl (by kernel_rfl) (hXS _ hI) rfl ?_
      refine WT_take 33 rfl rfl (by kernel_rfl) (hXS _ hI) rfl (fun W hW => have hI := hSx W hW; (by first | exact rPickTB rfl rfl rfl | exact rPickFB rfl rfl rfl | exact rPickB rfl rfl rfl rfl)) ?_
      refine WT_end (by kernel_rfl) ?_
      refine W_cond true rfl ?_
      refine W_seq ?_
      refine W_region ?_
      refine WL_val rfl rfl rfl (rIface rfl Tryd.underlying36 rfl rfl) ?_
      refine WL_val rfl rfl rfl (by first | exact rAsgnN rfl rfl | exact rAsgnE rfl rfl | exact rAsgn rfl) ?_
      refine WL_nil ?_
      refine W_ret ?_
      exact ret1 2 (.inr rfl) rfl (bad _ (fun hb => hr hb.2.1) hI.pu)
    by_cases hkey : p1 = z1
    rotate_left
    · refine W_seq ?_
      refine W_seq ?_
      refine W_draw (by kernel_rfl) ?_
      refine WA_inv (T := []) hI.drew ?_
      intro Sx hSx hXS
      replace hI := hI.drew
      refine WT_take 0 rfl rfl (by kernel_rfl) (hXS _ hI) rfl (fun W hW => have hI := hSx W hW; (by first | exact rFldN (off := 2) rfl (by kernel_rfl) rfl | exact rFld (off := 2) rfl (by kernel_rfl) rfl)) ?_
      refine WT_take 1 rfl rfl (by kernel_rfl) (hXS _ hI) rfl (fun W hW => have hI := hSx W hW; (by first | exact rLd (v := .int .i64 _) rfl (by kernel_rfl) rfl (by first | exact hI.c0 rfl | exact hI.c1 rfl | exact hI.c2 rfl | exact hI.c3 rfl | exact hI.c4 rfl | exact hI.c5 rfl | exact (hz1 _ hI.pu) | exact (hI.c0 rfl)) | exact rLd rfl (by kernel_rfl) rfl (by first | exact hI.c0 rfl | exact hI.c1 rfl | exact hI.c2 rfl | exact hI.c3 rfl | exact hI.c4 rfl | exact hI.c5 rfl | exact (hz1 _ hI.pu) | exact (hI.c0 rfl)))) ?_
      refine WT_take 2 rfl rfl (by kernel_rfl) (hXS _ hI) rfl (fun W hW => have hI := hSx W hW; (by first | exact rNeqT rfl rfl rfl (by omega) | exact rNeqF rfl rfl rfl (by omega) | exact rNeq rfl rfl rfl)) ?_
      refine WT_take 3 rfl rfl (by kernel_rfl) (hXS _ hI) rfl (fun W hW => have hI := hSx W hW; (by first | exact rMoveB rfl rfl | exact rMove rfl)) ?_
      first | refine WT_take 4 rfl rfl (by kernel_rfl) (hXS _ hI) rfl (fun W hW => have hI := hSx W hW; (by first | exact rMoveB rfl rfl | exact rMove rfl)) ?_ | refine WT_skip 4 rfl rfl (by kernel_rfl) (hXS _ hI) rfl ?_
      first | refine WT_take 5 rfl rfl (by kernel_rfl) (hXS _ hI) rfl (fun W hW => have hI := hSx W hW; (by first | exact rNotT rfl rfl | exact rNotF rfl rfl | exact rNot rfl rfl)) ?_ | refine WT_skip 5 rfl rfl (by kernel_rfl) (hXS _ hI) rfl ?_
      refine WT_take 6 rfl rfl (by kernel_rfl) (hXS _ hI) rfl (fun W hW => have hI := hSx W hW; (by first | exact rPickTB rfl rfl rfl | exact rPickFB rfl rfl rfl | exact rPickB rfl rfl rfl rfl)) ?_
      refine WT_take 7 rfl rfl (by kernel_rfl) (hXS _ hI) rfl (fun W hW => have hI := hSx W hW; (by first | exact rMoveB rfl rfl | exact rMove rfl)) ?_
      first | refine WT_take 8 rfl rfl (by kernel_rfl) (hXS _ hI) rfl (fun W hW => have hI := hSx W hW; (by first | exact rFldN (off := 7) rfl (by kernel_rfl) rfl | exact rFld (off := 7) rfl (by kernel_rfl) rfl)) ?_ | refine WT_skip 8 rfl rfl (by kernel_rfl) (hXS _ hI) rfl ?_
      first | refine WT_take 9 rfl rfl (by kernel_rfl) (hXS _ hI) rfl (fun W hW => have hI := hSx W hW; (by first | exact rLd (v := .int .i64 _) rfl (by kernel_rfl) rfl (by first | exact hI.c0 rfl | exact hI.c1 rfl | exact hI.c2 rfl | exact hI.c3 rfl | exact hI.c4 rfl | exact hI.c5 rfl | exact (hz1 _ hI.pu) | exact (hI.c0 rfl)) | exact rLd rfl (by kernel_rfl) rfl (by first | exact hI.c0 rfl | exact hI.c1 rfl | exact hI.c2 rfl | exact hI.c3 rfl | exact hI.c4 rfl | exact hI.c5 rfl | exact (hz1 _ hI.pu) | exact (hI.c0 rfl)))) ?_ | refine WT_skip 9 rfl rfl (by kernel_rfl) (hXS _ hI) rfl ?_
      first | refine WT_take 10 rfl rfl (by kernel_rfl) (hXS _ hI) rfl (fun W hW => have hI := hSx W hW; (by first | exact rLssT rfl rfl rfl (by omega) | exact rLssF rfl rfl rfl (by omega) | exact rLss rfl rfl rfl)) ?_ | refine WT_skip 10 rfl rfl (by kernel_rfl) (hXS _ hI) rfl ?_
      refine WT_take 11 rfl rfl (by kernel_rfl) (hXS _ hI) rfl (fun W hW => have hI := hSx W hW; (by first | exact rPickTB rfl rfl rfl | exact rPickFB rfl rfl rfl | exact rPickB rfl rfl rfl rfl)) ?_
      refine WT_take 12 rfl rfl (by kernel_rfl) (hXS _ hI) rfl (fun W hW => have hI := hSx W hW; (by first | exact rMoveB rfl rfl | exact rMove rfl)) ?_
      first | refine WT_take 13 rfl rfl (by kernel_rfl) (hXS _ hI) rfl (fun W hW => have hI := hSx W hW; (by first | exact rFldN (off := 1) rfl (by kernel_rfl) rfl | exact rFld (off := 1) rfl (by kernel_rfl) rfl)) ?_ | refine WT_skip 13 rfl rfl (by kernel_rfl) (hXS _ hI) rfl ?_
      first | refine WT_take 14 rfl rfl (by kernel_rfl) (hXS _ hI) rfl (fun W hW => have hI := hSx W hW; (by first | exact rLd (v := .int .i64 _) rfl (by kernel_rfl) rfl (by first | exact hI.c0 rfl | exact hI.c1 rfl | exact hI.c2 rfl | exact hI.c3 rfl | exact hI.c4 rfl | exact hI.c5 rfl | exact (hz1 _ hI.pu) | exact (hI.c0 rfl)) | exact rLd rfl (by kernel_rfl) rfl (by first | exact hI.c0 rfl | exact hI.c1 rfl | exact hI.c2 rfl | exact hI.c3 rfl | exact hI.c4 rfl | exact hI.c5 rfl | exact (hz1 _ hI.pu) | exact (hI.c0 rfl)))) ?_ | refine WT_skip 14 rfl rfl (by kernel_rfl) (hXS _ hI) rfl ?_
      first | refine WT_take 15 rfl rfl (by kernel_rfl) (hXS _ hI) rfl (fun W hW => have hI := hSx W hW; (by first | exact rMoveS rfl rfl | exact rMove rfl)) ?_ | refine WT_skip 15 rfl rfl (by kernel_rfl) (hXS _ hI) rfl ?_
      first | refine WT_take 16 rfl rfl (by kernel_rfl) (hXS _ hI) rfl (fun W hW => have hI := hSx W hW; (rIdx (sz := 8) (i := 0) rfl Tryd.underlying22 (by kernel_rfl) rfl rfl (by omega))) ?_ | refine WT_skip 16 rfl rfl (by kernel_rfl) (hXS _ hI) rfl ?_
      first | refine WT_take 17 rfl rfl (by kernel_rfl) (hXS _ hI) rfl (fun W hW => have hI := hSx W hW; (by first | exact rFldN (off := 1) rfl (by kernel_rfl) rfl | exact rFld (off := 1) rfl (by kernel_rfl) rfl)) ?_ | refine WT_skip 17 rfl rfl (by kernel_rfl) (hXS _ hI) rfl ?_
      first | refine WT_take 18 rfl rfl (by kernel_rfl) (hXS _ hI) rfl (fun W hW => have hI := hSx W hW; (by first | exact rLd (v := .int .i64 _) rfl (by kernel_rfl) rfl (by first | exact hI.c0 rfl | exact hI.c1 rfl | exact hI.c2 rfl | exact hI.c3 rfl | exact hI.c4 rfl | exact hI.c5 rfl | exact (hz1 _ hI.pu) | exact (hI.c0 rfl)) | exact rLd rfl (by kernel_rfl) rfl (by first | exact hI.c0 rfl | exact hI.c1 rfl | exact hI.c2 rfl | exact hI.c3 rfl | exact hI.c4 rfl | exact hI.c5 rfl | exact (hz1 _ hI.pu) | exact (hI.c0 rfl)))) ?_ | refine WT_skip 18 rfl rfl (by kernel_rfl) (hXS _ hI) rfl ?_
      first | refine WT_take 19 rfl rfl (by kernel_rfl) (hXS _ hI) rfl (fun W hW => have hI := hSx W hW; (by first | exact rNeqT rfl rfl rfl (by omega) | exact rNeqF rfl rfl rfl (by omega) | exact rNeq rfl rfl rfl)) ?_ | refine WT_skip 19 rfl rfl (by kernel_rfl) (hXS _ hI) rfl ?_
      refine WT_take 20 rfl rfl (by kernel_rfl) (hXS _ hI) rfl (fun W hW => have hI := hSx W hW; (by first | exact rPickTB rfl rfl rfl | exact rPickFB rfl rfl rfl | exact rPickB rfl rfl rfl rfl)) ?_
      refine WT_take 21 rfl rfl (by kernel_rfl) (hXS _ hI) rfl (fun W hW => have hI := hSx W hW; (by first | exact rMoveB rfl rfl | exact rMove rfl)) ?_
      refine WT_skip 22 rfl rfl (by kernel_rfl) (hXS _ hI) rfl ?_
      refine WT_skip 23 rfl rfl (by kernel_rfl) (hXS _ hI) rfl ?_
      refine WT_skip 24 rfl rfl (by kernel_rfl) (hXS _ hI) rfl ?_
      refine WT_skip 25 rfl rfl (by kernel_rfl) (hXS _ hI) rfl ?_
      refine WT_skip 26 rfl rfl (by kernel_rfl) (hXS _ hI) rfl ?_
      refine WT_skip 27 rfl rfl (by kernel_rfl) (hXS _ hI) rfl ?_
      refine WT_skip 28 rfl rfl (by kernel_rfl) (hXS _ hI) rfl ?_
      refine WT_skip 29 rfl rfl (by kernel_rfl) (hXS _ hI) rfl ?_
      refine WT_skip 30 rfl rfl (by kernel_rfl) (hXS _ hI) rfl ?_
      refine WT_skip 31 rfl rfl (by kernel_rfl) (hXS _ hI) rfl ?_
      refine WT_skip 32 rfl rfl (by kernel_rfl) (hXS _ hI) rfl ?_
      refine WT_take 33 rfl rfl (by kernel_rfl) (hXS _ hI) rfl (fun W hW => have hI := hSx W hW; (by first | exact rPickTB rfl rfl rfl | exact rPickFB rfl rfl rfl | exact rPickB rfl rfl rfl rfl)) ?_
      refine WT_end (by kernel_rfl) ?_
      refine W_cond true rfl ?_
      refine W_seq ?_
      refine W_region ?_
      refine WL_val rfl rfl rfl (rIface rfl Tryd.underlying36 rfl rfl) ?_
      refine WL_val rfl rfl rfl (by first | exact rAsgnN rfl rfl | exact rAsgnE rfl rfl | exact rAsgn rfl) ?_
      refine WL_nil ?_
      refine W_ret ?_
      exact ret1 2 (.inr rfl) rfl (bad _ (fun hb => hkey hb.2.2.1) hI.pu)
    by_cases ha : p3 = 0
    · refine W_seq ?_
      refine W_seq ?_
      refine W_draw (by kernel_rfl) ?_
      refine WA_inv (T := []) hI.drew ?_
      intro Sx hSx hXS
      replace hI := hI.drew
      refine WT_take 0 rfl rfl (by kernel_rfl) (hXS _ hI) rfl (fun W hW => have hI := hSx W hW; (by first | exact rFldN (off := 2) rfl (by kernel_rfl) rfl | exact rFld (off := 2) rfl (by kernel_rfl) rfl)) ?_
      refine WT_take 1 rfl rfl (by kernel_rfl) (hXS _ hI) rfl (fun W hW => have hI := hSx W hW; (by first | exact rLd (v := .int .i64 _) rfl (by kernel_rfl) rfl (by first | exact hI.c0 rfl | exact hI.c1 rfl | exact hI.c2 rfl | exact hI.c3 rfl | exact hI.c4 rfl | exact hI.c5 rfl | exact (hz1 _ hI.pu) | exact (hI.c0 rfl)) | exact rLd rfl (by kernel_rfl) rfl (by first | exact hI.c0 rfl | exact hI.c1 rfl | exact hI.c2 rfl | exact hI.c3 rfl | exact hI.c4 rfl | exact hI.c5 rfl | exact (hz1 _ hI.pu) | exact (hI.c0 rfl)))) ?_
      refine WT_take 2 rfl rfl (by kernel_rfl) (hXS _ hI) rfl (fun W hW => have hI := hSx W hW; (by first | exact rNeqT rfl rfl rfl (by omega) | exact rNeqF rfl rfl rfl (by omega) | exact rNeq rfl rfl rfl)) ?_
      refine WT_take 3 rfl rfl (by kernel_rfl) (hXS _ hI) rfl (fun W hW => have hI := hSx W hW; (by first | exact rMoveB rfl rfl | exact rMove rfl)) ?_
      first | refine WT_take 4 rfl rfl (by kernel_rfl) (hXS _ hI) rfl (fun W hW => have hI := hSx W hW; (by first | exact rMoveB rfl rfl | exact rMove rfl)) ?_ | refine WT_skip 4 rfl rfl (by kernel_rfl) (hXS _ hI) rfl ?_
      first | refine WT_take 5 rfl rfl (by kernel_rfl) (hXS _ hI) rfl (fun W hW => have hI := hSx W hW; (by first | exact rNotT rfl rfl | exact rNotF rfl rfl | exact rNot rfl rfl)) ?_ | refine WT_skip 5 rfl rfl (by kernel_rfl) (hXS _ hI) rfl ?_
      refine WT_take 6 rfl rfl (by kernel_rfl) (hXS _ hI) rfl (fun W hW => have hI := hSx W hW; (by first | exact rPickTB rfl rfl rfl | exact rPickFB rfl rfl rfl | exact rPickB rfl rfl rfl rfl)) ?_
      refine WT_take 7 rfl rfl (by kernel_rfl) (hXS _ hI) rfl (fun W hW => have hI := hSx W hW; (by first | exact rMoveB rfl rfl | exact rMove rfl)) ?_
      first | refine WT_take 8 rfl rfl (by kernel_rfl) (hXS _ hI) rfl (fun W hW => have hI := hSx W hW; (by first | exact rFldN (off := 7) rfl (by kernel_rfl) rfl | exact rFld (off := 7) rfl (by kernel_rfl) rfl)) ?_ | refine WT_skip 8 rfl rfl (by kernel_rfl) (hXS _ hI) rfl ?_
      first | refine WT_take 9 rfl rfl (by kernel_rfl) (hXS _ hI) rfl (fun W hW => have hI := hSx W hW; (by first | exact rLd (v := .int .i64 _) rfl (by kernel_rfl) rfl (by first | exact hI.c0 rfl | exact hI.c1 rfl | exact hI.c2 rfl | exact hI.c3 rfl | exact hI.c4 rfl | exact hI.c5 rfl | exact (hz1 _ hI.pu) | exact (hI.c0 rfl)) | exact rLd rfl (by kernel_rfl) rfl (by first | exact hI.c0 rfl | exact hI.c1 rfl | exact hI.c2 rfl | exact hI.c3 rfl | exact hI.c4 rfl | exact hI.c5 rfl | exact (hz1 _ hI.pu) | exact (hI.c0 rfl)))) ?_ | refine WT_skip 9 rfl rfl (by kernel_rfl) (hXS _ hI) rfl ?_
      first | refine WT_take 10 rfl rfl (by kernel_rfl) (hXS _ hI) rfl (fun W hW => have hI := hSx W hW; (by first | exact rLssT rfl rfl rfl (by omega) | exact rLssF rfl rfl rfl (by omega) | exact rLss rfl rfl rfl)) ?_ | refine WT_skip 10 rfl rfl (by kernel_rfl) (hXS _ hI) rfl ?_
      refine WT_take 11 rfl rfl (by kernel_rfl) (hXS _ hI) rfl (fun W hW => have hI := hSx W hW; (by first | exact rPickTB rfl rfl rfl | exact rPickFB rfl rfl rfl | exact rPickB rfl rfl rfl rfl)) ?_
      refine WT_take 12 rfl rfl (by kernel_rfl) (hXS _ hI) rfl (fun W hW => have hI := hSx W hW; (by first | exact rMoveB rfl rfl | exact rMove rfl)) ?_
      first | refine WT_take 13 rfl rfl (by kernel_rfl) (hXS _ hI) rfl (fun W hW => have hI := hSx W hW; (by first | exact rFldN (off := 1) rfl (by kernel_rfl) rfl | exact rFld (off := 1) rfl (by kernel_rfl) rfl)) ?_ | refine WT_skip 13 rfl rfl (by kernel_rfl) (hXS _ hI) rfl ?_
      first | refine WT_take 14 rfl rfl (by kernel_rfl) (hXS _ hI) rfl (fun W hW => have hI := hSx W hW; (by first | exact rLd (v := .int .i64 _) rfl (by kernel_rfl) rfl (by first | exact hI.c0 rfl | exact hI.c1 rfl | exact hI.c2 rfl | exact hI.c3 rfl | exact hI.c4 rfl | exact hI.c5 rfl | exact (hz1 _ hI.pu) | exact (hI.c0 rfl)) | exact rLd rfl (by kernel_rfl) rfl (by first | exact hI.c0 rfl | exact hI.c1 rfl | exact hI.c2 rfl | exact hI.c3 rfl | exact hI.c4 rfl | exact hI.c5 rfl | exact (hz1 _ hI.pu) | exact (hI.c0 rfl)))) ?_ | refine WT_skip 14 rfl rfl (by kernel_rfl) (hXS _ hI) rfl ?_
      first | refine WT_take 15 rfl rfl (by kernel_rfl) (hXS _ hI) rfl (fun W hW => have hI := hSx W hW; (by first | exact rMoveS rfl rfl | exact rMove rfl)) ?_ | refine WT_skip 15 rfl rfl (by kernel_rfl) (hXS _ hI) rfl ?_
      first | refine WT_take 16 rfl rfl (by kernel_rfl) (hXS _ hI) rfl (fun W hW => have hI := hSx W hW; (rIdx (sz := 8) (i := 0) rfl Tryd.underlying22 (by kernel_rfl) rfl rfl (by omega))) ?_ | refine WT_skip 16 rfl rfl (by kernel_rfl) (hXS _ hI) rfl ?_
      first | refine WT_take 17 rfl rfl (by kernel_rfl) (hXS _ hI) rfl (fun W hW => have hI := hSx W hW; (by first | exact rFldN (off := 1) rfl (by kernel_rfl) rfl | exact rFld (off := 1) rfl (by kernel_rfl) rfl)) ?_ | refine WT_skip 17 rfl rfl (by kernel_rfl) (hXS _ hI) rfl ?_
      first | refine WT_take 18 rfl rfl (by kernel_rfl) (hXS _ hI) rfl (fun W hW => have hI := hSx W hW; (by first | exact rLd (v := .int .i64 _) rfl (by kernel_rfl) rfl (by first | exact hI.c0 rfl | exact hI.c1 rfl | exact hI.c2 rfl | exact hI.c3 rfl | exact hI.c4 rfl | exact hI.c5 rfl | exact (hz1 _ hI.pu) | exact (hI.c0 rfl)) | exact rLd rfl (by kernel_rfl) rfl (by first | exact hI.c0 rfl | exact hI.c1 rfl | exact hI.c2 rfl | exact hI.c3 rfl | exact hI.c4 rfl | exact hI.c5 rfl | exact (hz1 _ hI.pu) | exact (hI.c0 rfl)))) ?_ | refine WT_skip 18 rfl rfl (by kernel_rfl) (hXS _ hI) rfl ?_
      first | refine WT_take 19 rfl rfl (by kernel_rfl) (hXS _ hI) rfl (fun W hW => have hI := hSx W hW; (by first | exact rNeqT rfl rfl rfl (by omega) | exact rNeqF rfl rfl rfl (by omega) | exact rNeq rfl rfl rfl)) ?_ | refine WT_skip 19 rfl rfl (by kernel_rfl) (hXS _ hI) rfl ?_
      refine WT_take 20 rfl rfl (by kernel_rfl) (hXS _ hI) rfl (fun W hW => have hI := hSx W hW; (by first | exact rPickTB rfl rfl rfl | exact rPickFB rfl rfl rfl | exact rPickB rfl rfl rfl rfl)) ?_
      refine WT_take 21 rfl rfl (by kernel_rfl) (hXS _ hI) rfl (fun W hW => have hI := hSx W hW; (by first | exact rMoveB rfl rfl | exact rMove rfl)) ?_
      first | refine WT_take 22 rfl rfl (by kernel_rfl) (hXS _ hI) rfl (fun W hW => have hI := hSx W hW; (by first | exact rMoveB rfl rfl | exact rMove rfl)) ?_ | refine WT_skip 22 rfl rfl (by kernel_rfl) (hXS _ hI) rfl ?_
      first | refine WT_take 23 rfl rfl (by kernel_rfl) (hXS _ hI) rfl (fun W hW => have hI := hSx W hW; (by first | exact rMoveB rfl rfl | exact rMove rfl)) ?_ | refine WT_skip 23 rfl rfl (by kernel_rfl) (hXS _ hI) rfl ?_
      first | refine WT_take 24 rfl rfl (by kernel_rfl) (hXS _ hI) rfl (fun W hW => have hI := hSx W hW; (by first | exact rFldN (off := 3) rfl (by kernel_rfl) rfl | exact rFld (off := 3) rfl (by kernel_rfl) rfl)) ?_ | refine WT_skip 24 rfl rfl (by kernel_rfl) (hXS _ hI) rfl ?_
      first | refine WT_take 25 rfl rfl (by kernel_rfl) (hXS _ hI) rfl (fun W hW => have hI := hSx W hW; (by first | exact rLd (v := .int .i64 _) rfl (by kernel_rfl) rfl (by first | exact hI.c0 rfl | exact hI.c1 rfl | exact hI.c2 rfl | exact hI.c3 rfl | exact hI.c4 rfl | exact hI.c5 rfl | exact (hz1 _ hI.pu) | exact (hI.c0 rfl)) | exact rLd rfl (by kernel_rfl) rfl (by first | exact hI.c0 rfl | exact hI.c1 rfl | exact hI.c2 rfl | exact hI.c3 rfl | exact hI.c4 rfl | exact hI.c5 rfl | exact (hz1 _ hI.pu) | exact (hI.c0 rfl)))) ?_ | refine WT_skip 25 rfl rfl (by kernel_rfl) (hXS _ hI) rfl ?_
      first | refine WT_take 26 rfl rfl (by kernel_rfl) (hXS _ hI) rfl (fun W hW => have hI := hSx W hW; (by first | exact rEqlT rfl rfl rfl (by omega) | exact rEqlF rfl rfl rfl (by omega) | exact rEql rfl rfl rfl)) ?_ | refine WT_skip 26 rfl rfl (by kernel_rfl) (hXS _ hI) rfl ?_
      first | refine WT_take 27 rfl rfl (by kernel_rfl) (hXS _ hI) rfl (fun W hW => have hI := hSx W hW; (by first | exact rMoveB rfl rfl | exact rMove rfl)) ?_ | refine WT_skip 27 rfl rfl (by kernel_rfl) (hXS _ hI) rfl ?_
      refine WT_skip 28 rfl rfl (by kernel_rfl) (hXS _ hI) rfl ?_
      refine WT_skip 29 rfl rfl (by kernel_rfl) (hXS _ hI) rfl ?_
      refine WT_skip 30 rfl rfl (by kernel_rfl) (hXS _ hI) rfl ?_
      first | refine WT_take 31 rfl rfl (by kernel_rfl) (hXS _ hI) rfl (fun W hW => have hI := hSx W hW; (by first | exact rPickTB rfl rfl rfl | exact rPickFB rfl rfl rfl | exact rPickB rfl rfl rfl rfl)) ?_ | refine WT_skip 31 rfl rfl (by kernel_rfl) (hXS _ hI) rfl ?_
      first | refine WT_take 32 rfl rfl (by kernel_rfl) (hXS _ hI) rfl (fun W hW => have hI := hSx W hW; (by first | exact rPickTB rfl rfl rfl | exact rPickFB rfl rfl rfl | exact rPickB rfl rfl rfl rfl)) ?_ | refine WT_skip 32 rfl rfl (by kernel_rfl) (hXS _ hI) rfl ?_
      refine WT_take 33 rfl rfl (by kernel_rfl) (hXS _ hI) rfl (fun W hW => have hI := hSx W hW; (by first | exact rPickTB rfl rfl rfl | exact rPickFB rfl rfl rfl | exact rPickB rfl rfl rfl rfl)) ?_
      refine WT_end (by kernel_rfl) ?_
      refine W_cond true rfl ?_
      refine W_seq ?_
      refine W_region ?_
      refine WL_val rfl rfl rfl (rIface rfl Tryd.underlying36 rfl rfl) ?_
      refine WL_val rfl rfl rfl (by first | exact rAsgnN rfl rfl | exact rAsgnE rfl rfl | exact rAsgn rfl) ?_
      refine WL_nil ?_
      refine W_ret ?_
      exact ret1 2 (.inr rfl) rfl (bad _ (fun hb => (hb.2.2.2 k9).1 ha) hI.pu)
    by_cases hs : p5 = 0
    rotate_left
    · refine W_seq ?_
      refine W_seq ?_
      refine W_draw (by kernel_rfl) ?_
      refine WA_inv (T := []) hI.drew ?_
      intro Sx hSx hXS
      replace hI := hI.drew
      refine WT_take 0 rfl rfl (by kernel_rfl) (hXS _ hI) rfl (fun W hW => have hI := hSx W hW; (by first | exact rFldN (off := 2) rfl (by kernel_rfl) rfl | exact rFld (off := 2) rfl (by kernel_rfl) rfl)) ?_
      refine WT_take 1 rfl rfl (by kernel_rfl) (hXS _ hI) rfl (fun W hW => have hI := hSx W hW; (by first | exact rLd (v := .int .i64 _) rfl (by kernel_rfl) rfl (by first | exact hI.c0 rfl | exact hI.c1 rfl | exact hI.c2 rfl | exact hI.c3 rfl | exact hI.c4 rfl | exact hI.c5 rfl | exact (hz1 _ hI.pu) | exact (hI.c0 rfl)) | exact rLd rfl (by kernel_rfl) rfl (by first | exact hI.c0 rfl | exact hI.c1 rfl | exact hI.c2 rfl | exact hI.c3 rfl | exact hI.c4 rfl | exact hI.c5 rfl | exact (hz1 _ hI.pu) | exact (hI.c0 rfl)))) ?_
      refine WT_take 2 rfl rfl (by kernel_rfl) (hXS _ hI) rfl (fun W hW => have hI := hSx W hW; (by first | exact rNeqT rfl rfl rfl (by omega) | exact rNeqF rfl rfl rfl (by omega) | exact rNeq rfl rfl rfl)) ?_
      refine WT_take 3 rfl rfl (by kernel_rfl) (hXS _ hI) rfl (fun W hW => have hI := hSx W hW; (by first | exact rMoveB rfl rfl | exact rMove rfl)) ?_
      first | refine WT_take 4 rfl rfl (by kernel_rfl) (hXS _ hI) rfl (fun W hW => have hI := hSx W hW; (by first | exact rMoveB rfl rfl | exact rMove rfl)) ?_ | refine WT_skip 4 rfl rfl (by kernel_rfl) (hXS _ hI) rfl ?_
      first | refine WT_take 5 rfl rfl (by kernel_rfl) (hXS _ hI) rfl (fun W hW => have hI := hSx W hW; (by first | exact rNotT rfl rfl | exact rNotF rfl rfl | exact rNot rfl rfl)) ?_ | refine WT_skip 5 rfl rfl (by kernel_rfl) (hXS _ hI) rfl ?_
      refine WT_take 6 rfl rfl (by kernel_rfl) (hXS _ hI) rfl (fun W hW => have hI := hSx W hW; (by first | exact rPickTB rfl rfl rfl | exact rPickFB rfl rfl rfl | exact rPickB rfl rfl rfl rfl)) ?_
      refine WT_take 7 rfl rfl (by kernel_rfl) (hXS _ hI) rfl (fun W hW => have hI := hSx W hW; (by first | exact rMoveB rfl rfl | exact rMove rfl)) ?_
      first | refine WT_take 8 rfl rfl (by kernel_rfl) (hXS _ hI) rfl (fun W hW => have hI := hSx W hW; (by first | exact rFldN (off := 7) rfl (by kernel_rfl) rfl | exact rFld (off := 7) rfl (by kernel_rfl) rfl)) ?_ | refine WT_skip 8 rfl rfl (by kernel_rfl) (hXS _ hI) rfl ?_
      first | refine WT_take 9 rfl rfl (by kernel_rfl) (hXS _ hI) rfl (fun W hW => have hI := hSx W hW; (by first | exact rLd (v := .int .i64 _) rfl (by kernel_rfl) rfl (by first | exact hI.c0 rfl | exact hI.c1 rfl | exact hI.c2 rfl | exact hI.c3 rfl | exact hI.c4 rfl | exact hI.c5 rfl | exact (hz1 _ hI.pu) | exact (hI.c0 rfl)) | exact rLd rfl (by kernel_rfl) rfl (by first | exact hI.c0 rfl | exact hI.c1 rfl | exact hI.c2 rfl | exact hI.c3 rfl | exact hI.c4 rfl | exact hI.c5 rfl | exact (hz1 _ hI.pu) | exact (hI.c0 rfl)))) ?_ | refine WT_skip 9 rfl rfl (by kernel_rfl) (hXS _ hI) rfl ?_
      first | refine WT_take 10 rfl rfl (by kernel_rfl) (hXS _ hI) rfl (fun W hW => have hI := hSx W hW; (by first | exact rLssT rfl rfl rfl (by omega) | exact rLssF rfl rfl rfl (by omega) | exact rLss rfl rfl rfl)) ?_ | refine WT_skip 10 rfl rfl (by kernel_rfl) (hXS _ hI) rfl ?_
      refine WT_take 11 rfl rfl (by kernel_rfl) (hXS _ hI) rfl (fun W hW => have hI := hSx W hW; (by first | exact rPickTB rfl rfl rfl | exact rPickFB rfl rfl rfl | exact rPickB rfl rfl rfl rfl)) ?_
      refine WT_take 12 rfl rfl (by kernel_rfl) (hXS _ hI) rfl (fun W hW => have hI := hSx W hW; (by first | exact rMoveB rfl rfl | exact rMove rfl)) ?_
      first | refine WT_take 13 rfl rfl (by kernel_rfl) (hXS _ hI) rfl (fun W hW => have hI := hSx W hW; (by first | exact rFldN (off := 1) rfl (by kernel_rfl) rfl | exact rFld (off := 1) rfl (by kernel_rfl) rfl)) ?_ | refine WT_skip 13 rfl rfl (by kernel_rfl) (hXS _ hI) rfl ?_
      first | refine WT_take 14 rfl rfl (by kernel_rfl) (hXS _ hI) rfl (fun W hW => have hI := hSx W hW; (by first | exact rLd (v := .int .i64 _) rfl (by kernel_rfl) rfl (by first | exact hI.c0 rfl | exact hI.c1 rfl | exact hI.c2 rfl | exact hI.c3 rfl | exact hI.c4 rfl | exact hI.c5 rfl | exact (hz1 _ hI.pu) | exact (hI.c0 rfl)) | exact rLd rfl (by kernel_rfl) rfl (by first | exact hI.c0 rfl | exact hI.c1 rfl | exact hI.c2 rfl | exact hI.c3 rfl | exact hI.c4 rfl | exact hI.c5 rfl | exact (hz1 _ hI.pu) | exact (hI.c0 rfl)))) ?_ | refine WT_skip 14 rfl rfl (by kernel_rfl) (hXS _ hI) rfl ?_
      first | refine WT_take 15 rfl rfl (by kernel_rfl) (hXS _ hI) rfl (fun W hW => have hI := hSx W hW; (by first | exact rMoveS rfl rfl | exact rMove rfl)) ?_ | refine WT_skip 15 rfl rfl (by kernel_rfl) (hXS _ hI) rfl ?_
      first | refine WT_take 16 rfl rfl (by kernel_rfl) (hXS _ hI) rfl (fun W hW => have hI := hSx W hW; (rIdx (sz := 8) (i := 0) rfl Tryd.underlying22 (by kernel_rfl) rfl rfl (by omega))) ?_ | refine WT_skip 16 rfl rfl (by kernel_rfl) (hXS _ hI) rfl ?_
      first | refine WT_take 17 rfl rfl (by kernel_rfl) (hXS _ hI) rfl (fun W hW => have hI := hSx W hW; (by first | exact rFldN (off := 1) rfl (by kernel_rfl) rfl | exact rFld (off := 1) rfl (by kernel_rfl) rfl)) ?_ | refine WT_skip 17 rfl rfl (by kernel_rfl) (hXS _ hI) rfl ?_
      first | refine WT_take 18 rfl rfl (by kernel_rfl) (hXS _ hI) rfl (fun W hW => have hI := hSx W hW; (by first | exact rLd (v := .int .i64 _) rfl (by kernel_rfl) rfl (by first | exact hI.c0 rfl | exact hI.c1 rfl | exact hI.c2 rfl | exact hI.c3 rfl | exact hI.c4 rfl | exact hI.c5 rfl | exact (hz1 _ hI.pu) | exact (hI.c0 rfl)) | exact rLd rfl (by kernel_rfl) rfl (by first | exact hI.c0 rfl | exact hI.c1 rfl | exact hI.c2 rfl | exact hI.c3 rfl | exact hI.c4 rfl | exact hI.c5 rfl | exact (hz1 _ hI.pu) | exact (hI.c0 rfl)))) ?_ | refine WT_skip 18 rfl rfl (by kernel_rfl) (hXS _ hI) rfl ?_
      first | refine WT_take 19 rfl rfl (by kernel_rfl) (hXS _ hI) rfl (fun W hW => have hI := hSx W hW; (by first | exact rNeqT rfl rfl rfl (by omega) | exact rNeqF rfl rfl rfl (by omega) | exact rNeq rfl rfl rfl)) ?_ | refine WT_skip 19 rfl rfl (by kernel_rfl) (hXS _ hI) rfl ?_
      refine WT_take 20 rfl rfl (by kernel_rfl) (hXS _ hI) rfl (fun W hW => have hI := hSx W hW; (by first | exact rPickTB rfl rfl rfl | exact rPickFB rfl rfl rfl | exact rPickB rfl rfl rfl rfl)) ?_
      refine WT_take 21 rfl rfl (by kernel_rfl) (hXS _ hI) rfl (fun W hW => have hI := hSx W hW; (by first | exact rMoveB rfl rfl | exact rMove rfl)) ?_
      first | refine WT_take 22 rfl rfl (by kernel_rfl) (hXS _ hI) rfl (fun W hW => have hI := hSx W hW; (by first | exact rMoveB rfl rfl | exact rMove rfl)) ?_ | refine WT_skip 22 rfl rfl (by kernel_rfl) (hXS _ hI) rfl ?_
      first | refine WT_take 23 rfl rfl (by kernel_rfl) (hXS _ hI) rfl (fun W hW => have hI := hSx W hW; (by first | exact rMoveB rfl rfl | exact rMove rfl)) ?_ | refine WT_skip 23 rfl rfl (by kernel_rfl) (hXS _ hI) rfl ?_
      first | refine WT_take 24 rfl rfl (by kernel_rfl) (hXS _ hI) rfl (fun W hW => have hI := hSx W hW; (by first | exact rFldN (off := 3) rfl (by kernel_rfl) rfl | exact rFld (off := 3) rfl (by kernel_rfl) rfl)) ?_ | refine WT_skip 24 rfl rfl (by kernel_rfl) (hXS _ hI) rfl ?_
      first | refine WT_take 25 rfl rfl (by kernel_rfl) (hXS _ hI) rfl (fun W hW => have hI := hSx W hW; (by first | exact rLd (v := .int .i64 _) rfl (by kernel_rfl) rfl (by first | exact hI.c0 rfl | exact hI.c1 rfl | exact hI.c2 rfl | exact hI.c3 rfl | exact hI.c4 rfl | exact hI.c5 rfl | exact (hz1 _ hI.pu) | exact (hI.c0 rfl)) | exact rLd rfl (by kernel_rfl) rfl (by first | exact hI.c0 rfl | exact hI.c1 rfl | exact hI.c2 rfl | exact hI.c3 rfl | exact hI.c4 rfl | exact hI.c5 rfl | exact (hz1 _ hI.pu) | exact (hI.c0 rfl)))) ?_ | refine WT_skip 25 rfl rfl (by kernel_rfl) (hXS _ hI) rfl ?_
      first | refine WT_take 26 rfl rfl (by kernel_rfl) (hXS _ hI) rfl (fun W hW => have hI := hSx W hW; (by first | exact rEqlT rfl rfl rfl (by omega) | exact rEqlF rfl rfl rfl (by omega) | exact rEql rfl rfl rfl)) ?_ | refine WT_skip 26 rfl rfl (by kernel_rfl) (hXS _ hI) rfl ?_
      first | refine WT_take 27 rfl rfl (by kernel_rfl) (hXS _ hI) rfl (fun W hW => have hI := hSx W hW; (by first | exact rMoveB rfl rfl | exact rMove rfl)) ?_ | refine WT_skip 27 rfl rfl (by kernel_rfl) (hXS _ hI) rfl ?_
      first | refine WT_take 28 rfl rfl (by kernel_rfl) (hXS _ hI) rfl (fun W hW => have hI := hSx W hW; (by first | exact rFldN (off := 5) rfl (by kernel_rfl) rfl | exact rFld (off := 5) rfl (by kernel_rfl) rfl)) ?_ | refine WT_skip 28 rfl rfl (by kernel_rfl) (hXS _ hI) rfl ?_
      first | refine WT_take 29 rfl rfl (by kernel_rfl) (hXS _ hI) rfl (fun W hW => have hI := hSx W hW; (by first | exact rLd (v := .int .i64 _) rfl (by kernel_rfl) rfl (by first | exact hI.c0 rfl | exact hI.c1 rfl | exact hI.c2 rfl | exact hI.c3 rfl | exact hI.c4 rfl | exact hI.c5 rfl | exact (hz1 _ hI.pu) | exact (hI.c0 rfl)) | exact rLd rfl (by kernel_rfl) rfl (by first | exact hI.c0 rfl | exact hI.c1 rfl | exact hI.c2 rfl | exact hI.c3 rfl | exact hI.c4 rfl | exact hI.c5 rfl | exact (hz1 _ hI.pu) | exact (hI.c0 rfl)))) ?_ | refine WT_skip 29 rfl rfl (by kernel_rfl) (hXS _ hI) rfl ?_
      first | refine WT_take 30 rfl rfl (by kernel_rfl) (hXS _ hI) rfl (fun W hW => have hI := hSx W hW; (by first | exact rNeqT rfl rfl rfl (by omega) | exact rNeqF rfl rfl rfl (by omega) | exact rNeq rfl rfl rfl)) ?_ | refine WT_skip 30 rfl rfl (by kernel_rfl) (hXS _ hI) rfl ?_
      first | refine WT_take 31 rfl rfl (by kernel_rfl) (hXS _ hI) rfl (fun W hW => have hI := hSx W hW; (by first | exact rPickTB rfl rfl rfl | exact rPickFB rfl rfl rfl | exact rPickB rfl rfl rfl rfl)) ?_ | refine WT_skip 31 rfl rfl (by kernel_rfl) (hXS _ hI) rfl ?_
      first | refine WT_take 32 rfl rfl (by kernel_rfl) (hXS _ hI) rfl (fun W hW => have hI := hSx W hW; (by first | exact rPickTB rfl rfl rfl | exact rPickFB rfl rfl rfl | exact rPickB rfl rfl rfl rfl)) ?_ | refine WT_skip 32 rfl rfl (by kernel_rfl) (hXS _ hI) rfl ?_
      refine WT_take 33 rfl rfl (by kernel_rfl) (hXS _ hI) rfl (fun W hW => have hI := hSx W hW; (by first | exact rPickTB rfl rfl rfl | exact rPickFB rfl rfl rfl | exact rPickB rfl rfl rfl rfl)) ?_
      refine WT_end (by kernel_rfl) ?_
      refine W_cond true rfl ?_
      refine W_seq ?_
      refine W_region ?_
      refine WL_val rfl rfl rfl (rIface rfl Tryd.underlying36 rfl rfl) ?_
      refine WL_val rfl rfl rfl (by first | exact rAsgnN rfl rfl | exact rAsgnE rfl rfl | exact rAsgn rfl) ?_
      refine WL_nil ?_
      refine W_ret ?_
      exact ret1 2 (.inr rfl) rfl (bad _ (fun hb => hs (hb.2.2.2 k9).2) hI.pu)
    have hg : OkZ1 z1 ⟨p0, p1, p2, p3, p4, p5, p6, p7⟩ := ⟨.inr k9, hr, hkey, fun _ => ⟨ha, hs⟩⟩
    refine W_seq ?_
    refine W_seq ?_
    refine W_draw (by kernel_rfl) ?_
    refine WA_inv (T := []) hI.drew ?_
    intro Sx hSx hXS
    replace hI := hI.drew
    refine WT_take 0 rfl rfl (by kernel_rfl) (hXS _ hI) rfl (fun W hW => have hI := hSx W hW; (by first | exact rFldN (off := 2) rfl (by kernel_rfl) rfl | exact rFld (off := 2) rfl (by kernel_rfl) rfl)) ?_
    refine WT_take 1 rfl rfl (by kernel_rfl) (hXS _ hI) rfl (fun W hW => have hI := hSx W hW; (by first | exact rLd (v := .int .i64 _) rfl (by kernel_rfl) rfl (by first | exact hI.c0 rfl | exact hI.c1 rfl | exact hI.c2 rfl | exact hI.c3 rfl | exact hI.c4 rfl | exact hI.c5 rfl | exact (hz1 _ hI.pu) | exact (hI.c0 rfl)) | exact rLd rfl (by kernel_rfl) rfl (by first | exact hI.c0 rfl | exact hI.c1 rfl | exact hI.c2 rfl | exact hI.c3 rfl | exact hI.c4 rfl | exact hI.c5 rfl | exact (hz1 _ hI.pu) | exact (hI.c0 rfl)))) ?_
    refine WT_take 2 rfl rfl (by kernel_rfl) (hXS _ hI) rfl (fun W hW => have hI := hSx W hW; (by first | exact rNeqT rfl rfl rfl (by omega) | exact rNeqF rfl rfl rfl (by omega) | exact rNeq rfl rfl rfl)) ?_
    refine WT_take 3 rfl rfl (by kernel_rfl) (hXS _ hI) rfl (fun W hW => have hI := hSx W hW; (by first | exact rMoveB rfl rfl | exact rMove rfl)) ?_
    first | refine WT_take 4 rfl rfl (by kernel_rfl) (hXS _ hI) rfl (fun W hW => have hI := hSx W hW; (by first | exact rMoveB rfl rfl | exact rMove rfl)) ?_ | refine WT_skip 4 rfl rfl (by kernel_rfl) (hXS _ hI) rfl ?_
    first | refine WT_take 5 rfl rfl (by kernel_rfl) (hXS _ hI) rfl (fun W hW => have hI := hSx W hW; (by first | exact rNotT rfl rfl | exact rNotF rfl rfl | exact rNot rfl rfl)) ?_ | refine WT_skip 5 rfl rfl (by kernel_rfl) (hXS _ hI) rfl ?_
    refine WT_take 6 rfl rfl (by kernel_rfl) (hXS _ hI) rfl (fun W hW => have hI := hSx W hW; (by first | exact rPickTB rfl rfl rfl | exact rPickFB rfl rfl rfl | exact rPickB rfl rfl rfl rfl)) ?_
    refine WT_take 7 rfl rfl (by kernel_rfl) (hXS _ hI) rfl (fun W hW => have hI := hSx W hW; (by first | exact rMoveB rfl rfl | exact rMove rfl)) ?_
    first | refine WT_take 8 rfl rfl (by kernel_rfl) (hXS _ hI) rfl (fun W hW => have hI := hSx W hW; (by first | exact rFldN (off := 7) rfl (by kernel_rfl) rfl | exact rFld (off := 7) rfl (by kernel_rfl) rfl)) ?_ | refine WT_skip 8 rfl rfl (by kernel_rfl) (hXS _ hI) rfl ?_
    first | refine WT_take 9 rfl rfl (by kernel_rfl) (hXS _ hI) rfl (fun W hW => have hI := hSx W hW; (by first | exact rLd (v := .int .i64 _) rfl (by kernel_rfl) rfl (by first | exact hI.c0 rfl | exact hI.c1 rfl | exact hI.c2 rfl | exact hI.c3 rfl | exact hI.c4 rfl | exact hI.c5 rfl | exact (hz1 _ hI.pu) | exact (hI.c0 rfl)) | exact rLd rfl (by kernel_rfl) rfl (by first | exact hI.c0 rfl | exact hI.c1 rfl | exact hI.c2 rfl | exact hI.c3 rfl | exact hI.c4 rfl | exact hI.c5 rfl | exact (hz1 _ hI.pu) | exact (hI.c0 rfl)))) ?_ | refine WT_skip 9 rfl rfl (by kernel_rfl) (hXS _ hI) rfl ?_
    first | refine WT_take 10 rfl rfl (by kernel_rfl) (hXS _ hI) rfl (fun W hW => have hI := hSx W hW; (by first | exact rLssT rfl rfl rfl (by omega) | exact rLssF rfl rfl rfl (by omega) | exact rLss rfl rfl rfl)) ?_ | refine WT_skip 10 rfl rfl (by kernel_rfl) (hXS _ hI) rfl ?_
    refine WT_take 11 rfl rfl (by kernel_rfl) (hXS _ hI) rfl (fun W hW => have hI := hSx W hW; (by first | exact rPickTB rfl rfl rfl | exact rPickFB rfl rfl rfl | exact rPickB rfl rfl rfl rfl)) ?_
    refine WT_take 12 rfl rfl (by kernel_rfl) (hXS _ hI) rfl (fun W hW => have hI := hSx W hW; (by first | exact rMoveB rfl rfl | exact rMove rfl)) ?_
    first | refine WT_take 13 rfl rfl (by kernel_rfl) (hXS _ hI) rfl (fun W hW => have hI := hSx W hW; (by first | exact rFldN (off := 1) rfl (by kernel_rfl) rfl | exact rFld (off := 1) rfl (by kernel_rfl) rfl)) ?_ | refine WT_skip 13 rfl rfl (by kernel_rfl) (hXS _ hI) rfl ?_
    first | refine WT_take 14 rfl rfl (by kernel_rfl) (hXS _ hI) rfl (fun W hW => have hI := hSx W hW; (by first | exact rLd (v := .int .i64 _) rfl (by kernel_rfl) rfl (by first | exact hI.c0 rfl | exact hI.c1 rfl | exact hI.c2 rfl | exact hI.c3 rfl | exact hI.c4 rfl | exact hI.c5 rfl | exact (hz1 _ hI.pu) | exact (hI.c0 rfl)) | exact rLd rfl (by kernel_rfl) rfl (by first | exact hI.c0 rfl | exact hI.c1 rfl | exact hI.c2 rfl | exact hI.c3 rfl | exact hI.c4 rfl | exact hI.c5 rfl | exact (hz1 _ hI.pu) | exact (hI.c0 rfl)))) ?_ | refine WT_skip 14 rfl rfl (by kernel_rfl) (hXS _ hI) rfl ?_
    first | refine WT_take 15 rfl rfl (by kernel_rfl) (hXS _ hI) rfl (fun W hW => have hI := hSx W hW; (by first | exact rMoveS rfl rfl | exact rMove rfl)) ?_ | refine WT_skip 15 rfl rfl (by kernel_rfl) (hXS _ hI) rfl ?_
    first | refine WT_take 16 rfl rfl (by kernel_rfl) (hXS _ hI) rfl (fun W hW => have hI := hSx W hW; (rIdx (sz := 8) (i := 0) rfl Tryd.underlying22 (by kernel_rfl) rfl rfl (by omega))) ?_ | refine WT_skip 16 rfl rfl (by kernel_rfl) (hXS _ hI) rfl ?_
    first | refine WT_take 17 rfl rfl (by kernel_rfl) (hXS _ hI) rfl (fun W hW => have hI := hSx W hW; (by first | exact rFldN (off := 1) rfl (by kernel_rfl) rfl | exact rFld (off := 1) rfl (by kernel_rfl) rfl)) ?_ | refine WT_skip 17 rfl rfl (by kernel_rfl) (hXS _ hI) rfl ?_
    first | refine WT_take 18 rfl rfl (by kernel_rfl) (hXS _ hI) rfl (fun W hW => have hI := hSx W hW; (by first | exact rLd (v := .int .i64 _) rfl (by kernel_rfl) rfl (by first | exact hI.c0 rfl | exact hI.c1 rfl | exact hI.c2 rfl | exact hI.c3 rfl | exact hI.c4 rfl | exact hI.c5 rfl | exact (hz1 _ hI.pu) | exact (hI.c0 rfl)) | exact rLd rfl (by kernel_rfl) rfl (by first | exact hI.c0 rfl | exact hI.c1 rfl | exact hI.c2 rfl | exact hI.c3 rfl | exact hI.c4 rfl | exact hI.c5 rfl | exact (hz1 _ hI.pu) | exact (hI.c0 rfl)))) ?_ | refine WT_skip 18 rfl rfl (by kernel_rfl) (hXS _ hI) rfl ?_
    first | refine WT_take 19 rfl rfl (by kernel_rfl) (hXS _ hI) rfl (fun W hW => have hI := hSx W hW; (by first | exact rNeqT rfl rfl rfl (by omega) | exact rNeqF rfl rfl rfl (by omega) | exact rNeq rfl rfl rfl)) ?_ | refine WT_skip 19 rfl rfl (by kernel_rfl) (hXS _ hI) rfl ?_
    refine WT_take 20 rfl rfl (by kernel_rfl) (hXS _ hI) rfl (fun W hW => have hI := hSx W hW; (by first | exact rPickTB rfl rfl rfl | exact rPickFB rfl rfl rfl | exact rPickB rfl rfl rfl rfl)) ?_
    refine WT_take 21 rfl rfl (by kernel_rfl) (hXS _ hI) rfl (fun W hW => have hI := hSx W hW; (by first | exact rMoveB rfl rfl | exact rMove rfl)) ?_
    first | refine WT_take 22 rfl rfl (by kernel_rfl) (hXS _ hI) rfl (fun W hW => have hI := hSx W hW; (by first | exact rMoveB rfl rfl | exact rMove rfl)) ?_ | refine WT_skip 22 rfl rfl (by kernel_rfl) (hXS _ hI) rfl ?_
    first | refine WT_take 23 rfl rfl (by kernel_rfl) (hXS _ hI) rfl (fun W hW => have hI := hSx W hW; (by first | exact rMoveB rfl rfl | exact rMove rfl)) ?_ | refine WT_skip 23 rfl rfl (by kernel_rfl) (hXS _ hI) rfl ?_
    first | refine WT_take 24 rfl rfl (by kernel_rfl) (hXS _ hI) rfl (fun W hW => have hI := hSx W hW; (by first | exact rFldN (off := 3) rfl (by kernel_rfl) rfl | exact rFld (off := 3) rfl (by kernel_rfl) rfl)) ?_ | refine WT_skip 24 rfl rfl (by kernel_rfl) (hXS _ hI) rfl ?_
    first | refine WT_take 25 rfl rfl (by kernel_rfl) (hXS _ hI) rfl (fun W hW => have hI := hSx W hW; (by first | exact rLd (v := .int .i64 _) rfl (by kernel_rfl) rfl (by first | exact hI.c0 rfl | exact hI.c1 rfl | exact hI.c2 rfl | exact hI.c3 rfl | exact hI.c4 rfl | exact hI.c5 rfl | exact (hz1 _ hI.pu) | exact (hI.c0 rfl)) | exact rLd rfl (by kernel_rfl) rfl (by first | exact hI.c0 rfl | exact hI.c1 rfl | exact hI.c2 rfl | exact hI.c3 rfl | exact hI.c4 rfl | exact hI.c5 rfl | exact (hz1 _ hI.pu) | exact (hI.c0 rfl)))) ?_ | refine WT_skip 25 rfl rfl (by kernel_rfl) (hXS _ hI) rfl ?_
    first | refine WT_take 26 rfl rfl (by kernel_rfl) (hXS _ hI) rfl (fun W hW => have hI := hSx W hW; (by first | exact rEqlT rfl rfl rfl (by omega) | exact rEqlF rfl rfl rfl (by omega) | exact rEql rfl rfl rfl)) ?_ | refine WT_skip 26 rfl rfl (by kernel_rfl) (hXS _ hI) rfl ?_
    first | refine WT_take 27 rfl rfl (by kernel_rfl) (hXS _ hI) rfl (fun W hW => have hI := hSx W hW; (by first | exact rMoveB rfl rfl | exact rMove rfl)) ?_ | refine WT_skip 27 rfl rfl (by kernel_rfl) (hXS _ hI) rfl ?_
    first | refine WT_take 28 rfl rfl (by kernel_rfl) (hXS _ hI) rfl (fun W hW => have hI := hSx W hW; (by first | exact rFldN (off := 5) rfl (by kernel_rfl) rfl | exact rFld (off := 5) rfl (by kernel_rfl) rfl)) ?_ | refine WT_skip 28 rfl rfl (by kernel_rfl) (hXS _ hI) rfl ?_
    first | refine WT_take 29 rfl rfl (by kernel_rfl) (hXS _ hI) rfl (fun W hW => have hI := hSx W hW; (by first | exact rLd (v := .int .i64 _) rfl (by kernel_rfl) rfl (by first | exact hI.c0 rfl | exact hI.c1 rfl | exact hI.c2 rfl | exact hI.c3 rfl | exact hI.c4 rfl | exact hI.c5 rfl | exact (hz1 _ hI.pu) | exact (hI.c0 rfl)) | exact rLd rfl (by kernel_rfl) rfl (by first | exact hI.c0 rfl | exact hI.c1 rfl | exact hI.c2 rfl | exact hI.c3 rfl | exact hI.c4 rfl | exact hI.c5 rfl | exact (hz1 _ hI.pu) | exact (hI.c0 rfl)))) ?_ | refine WT_skip 29 rfl rfl (by kernel_rfl) (hXS _ hI) rfl ?_
    first | refine WT_take 30 rfl rfl (by kernel_rfl) (hXS _ hI) rfl (fun W hW => have hI := hSx W hW; (by first | exact rNeqT rfl rfl rfl (by omega) | exact rNeqF rfl rfl rfl (by omega) | exact rNeq rfl rfl rfl)) ?_ | refine WT_skip 30 rfl rfl (by kernel_rfl) (hXS _ hI) rfl ?_
    first | refine WT_take 31 rfl rfl (by kernel_rfl) (hXS _ hI) rfl (fun W hW => have hI := hSx W hW; (by first | exact rPickTB rfl rfl rfl | exact rPickFB rfl rfl rfl | exact rPickB rfl rfl rfl rfl)) ?_ | refine WT_skip 31 rfl rfl (by kernel_rfl) (hXS _ hI) rfl ?_
    first | refine WT_take 32 rfl rfl (by kernel_rfl) (hXS _ hI) rfl (fun W hW => have hI := hSx W hW; (by first | exact rPickTB rfl rfl rfl | exact rPickFB rfl rfl rfl | exact rPickB rfl rfl rfl rfl)) ?_ | refine WT_skip 32 rfl rfl (by kernel_rfl) (hXS _ hI) rfl ?_
    refine WT_take 33 rfl rfl (by kernel_rfl) (hXS _ hI) rfl (fun W hW => have hI := hSx W hW; (by first | exact rPickTB rfl rfl rfl | exact rPickFB rfl rfl rfl | exact rPickB rfl rfl rfl rfl)) ?_
    refine WT_end (by kernel_rfl) ?_
    refine W_cond false rfl ?_
    refine W_skip ?_
    cases hwm : fdN (wrB l p3) k with
    | some j =>
      have hv : mpF (wrB l) k p3 = some (.int .i64 (j : Int)) := by unfold mpF; rw [hwm]; rfl
      refine W_seq ?_
      refine W_seq ?_
      refine W_region ?_
      refine WL_val rfl rfl rfl (by first | exact rMoveM rfl rfl | exact rMove rfl) ?_
      refine WL_val rfl rfl rfl (by first | exact rFldN (off := 3) rfl (by kernel_rfl) rfl | exact rFld (off := 3) rfl (by kernel_rfl) rfl) ?_
      refine WL_val rfl rfl rfl (by first | exact rLd (v := .int .i64 _) rfl (by kernel_rfl) rfl (by first | exact hI.c0 rfl | exact hI.c1 rfl | exact hI.c2 rfl | exact hI.c3 rfl | exact hI.c4 rfl | exact hI.c5 rfl) | exact rLd rfl (by kernel_rfl) rfl (by first | exact hI.c0 rfl | exact hI.c1 rfl | exact hI.c2 rfl | exact hI.c3 rfl | exact hI.c4 rfl | exact hI.c5 rfl)) ?_
      refine WL_val rfl rfl rfl (rLookKY (a := p3) keyI hv rfl Tryd.underlying39 rfl rfl trivial hI.g1) ?_
      refine WL_val rfl rfl rfl (by first | exact rMoveT rfl rfl | exact rMove rfl) ?_
      refine WL_val rfl rfl rfl (rExtr rfl rfl rfl) ?_
      refine WL_val rfl rfl rfl (rExtr rfl rfl rfl) ?_
      refine WL_val rfl rfl rfl (by first | exact rAsgnI rfl rfl | exact rAsgn rfl) ?_
      refine WL_val rfl rfl rfl (by first | exact rAsgnB rfl rfl | exact rAsgn rfl) ?_
      refine WL_nil ?_
      refine W_seq ?_
      refine W_region ?_
      refine WL_val rfl rfl rfl (by first | exact rMoveB rfl rfl | exact rMove rfl) ?_
      refine WL_val rfl rfl rfl (by first | exact rMoveB rfl rfl | exact rMove rfl) ?_
      first | refine WL_val rfl rfl rfl (by first | exact rMoveB rfl rfl | exact rMove rfl) ?_ | refine WL_skip rfl rfl rfl ?_
      refine WL_val rfl rfl rfl (by first | exact rPickTB rfl rfl rfl | exact rPickFB rfl rfl rfl | exact rPickB rfl rfl rfl rfl) ?_
      refine WL_nil ?_
      refine W_cond true rfl ?_
      refine W_seq ?_
      refine W_region ?_
      refine WL_val rfl rfl rfl (rIface rfl Tryd.underlying36 rfl rfl) ?_
      refine WL_val rfl rfl rfl (by first | exact rAsgnN rfl rfl | exact rAsgnE rfl rfl | exact rAsgn rfl) ?_
      refine WL_nil ?_
      refine W_ret ?_
      exact ret1 2 (.inr rfl) rfl (CzPost.bad (htw j hwm k9) hI.pu)
    | none =>
      have hv : mpF (wrB l) k p3 = none := by unfold mpF; rw [hwm]; rfl
      refine W_seq ?_
      refine W_seq ?_
      refine W_region ?_
      refine WL_val rfl rfl rfl (by first | exact rMoveM rfl rfl | exact rMove rfl) ?_
      refine WL_val rfl rfl rfl (by first | exact rFldN (off := 3) rfl (by kernel_rfl) rfl | exact rFld (off := 3) rfl (by kernel_rfl) rfl) ?_
      refine WL_val rfl rfl rfl (by first | exact rLd (v := .int .i64 _) rfl (by kernel_rfl) rfl (by first | exact hI.c0 rfl | exact hI.c1 rfl | exact hI.c2 rfl | exact hI.c3 rfl | exact hI.c4 rfl | exact hI.c5 rfl) | exact rLd rfl (by kernel_rfl) rfl (by first | exact hI.c0 rfl | exact hI.c1 rfl | exact hI.c2 rfl | exact hI.c3 rfl | exact hI.c4 rfl | exact hI.c5 rfl)) ?_
      refine WL_val rfl rfl rfl (rLookKN (a := p3) (zv := .int .i64 0) keyI hv rfl Tryd.underlying39 (by kernel_rfl) rfl rfl trivial hI.g1) ?_
      refine WL_val rfl rfl rfl (by first | exact rMoveT rfl rfl | exact rMove rfl) ?_
      refine WL_val rfl rfl rfl (rExtr rfl rfl rfl) ?_
      refine WL_val rfl rfl rfl (rExtr rfl rfl rfl) ?_
      refine WL_val rfl rfl rfl (by first | exact rAsgnI rfl rfl | exact rAsgn rfl) ?_
      refine WL_val rfl rfl rfl (by first | exact rAsgnB rfl rfl | exact rAsgn rfl) ?_
      refine WL_nil ?_
      refine W_seq ?_
      refine W_region ?_
      refine WL_val rfl rfl rfl (by first | exact rMoveB rfl rfl | exact rMove rfl) ?_
      refine WL_val rfl rfl rfl (by first | exact rMoveB rfl rfl | exact rMove rfl) ?_
      first | refine WL_val rfl rfl rfl (by first | exact rMoveB rfl rfl | exact rMove rfl) ?_ | refine WL_skip rfl rfl rfl ?_
      refine WL_val rfl rfl rfl (by first | exact rPickTB rfl rfl rfl | exact rPickFB rfl rfl rfl | exact rPickB rfl rfl rfl rfl) ?_
      refine WL_nil ?_
      refine W_cond false rfl ?_
      refine W_skip ?_
      refine W_seq ?_
      refine W_region ?_
      refine WL_val rfl rfl rfl (by first | exact rMoveB rfl rfl | exact rMove rfl) ?_
      refine WL_nil ?_
      refine W_cond true rfl ?_
      refine W_region ?_
      refine WL_val rfl rfl rfl (by first | exact rMoveM rfl rfl | exact rMove rfl) ?_
      refine WL_val rfl rfl rfl (by first | exact rFldN (off := 3) rfl (by kernel_rfl) rfl | exact rFld (off := 3) rfl (by kernel_rfl) rfl) ?_
      refine WL_val rfl rfl rfl (by first | exact rLd (v := .int .i64 _) rfl (by kernel_rfl) rfl (by first | exact hI.c0 rfl | exact hI.c1 rfl | exact hI.c2 rfl | exact hI.c3 rfl | exact hI.c4 rfl | exact hI.c5 rfl) | exact rLd rfl (by kernel_rfl) rfl (by first | exact hI.c0 rfl | exact hI.c1 rfl | exact hI.c2 rfl | exact hI.c3 rfl | exact hI.c4 rfl | exact hI.c5 rfl)) ?_
      refine WL_val rfl rfl rfl (by first | exact rMoveI rfl rfl | exact rMove rfl) ?_
      refine WL_mapSetK (a := p3) (v := .int .i64 (k : Int)) keyI 1 rfl hI rfl rfl rfl Tryd.underlying39 rfl rfl rfl trivial ?_
      clear hI; intro w hI
      simp only [List.set_cons_succ, List.set_cons_zero] at hI
      refine WL_nil ?_
      rw [hnew (fun v => by rw [hpb]; simp [k9, eq_comm]) hwm] at hI
      replace hI := hI.d0
      refine W_region ?_
      refine WL_val rfl rfl rfl (by first | exact rInc rfl rfl rfl (by omega) | exact rAdd rfl rfl rfl (by omega) | exact rAddW rfl rfl rfl) ?_
      refine WL_val rfl rfl rfl (by first | exact rMoveI rfl rfl | exact rMove rfl) ?_
      refine WL_nil ?_
      exact ⟨l.length - (k + 1), by omega, k + 1, rfl, by omega, hsucc hg (fun _ => hwm), ⟨rfl, rfl, rfl, rfl, rfl, trivial⟩, hI⟩
  by_cases k10 : p2 = 1
  rotate_left
  · refine W_seq ?_
    refine W_region ?_
    refine WL_val rfl rfl rfl (by first | exact rFldN (off := 2) rfl (by kernel_rfl) rfl | exact rFld (off := 2) rfl (by kernel_rfl) rfl) ?_
    refine WL_val rfl rfl rfl (by first | exact rLd (v := .int .i64 _) rfl (by kernel_rfl) rfl (by first | exact hI.c0 rfl | exact hI.c1 rfl | exact hI.c2 rfl | exact hI.c3 rfl | exact hI.c4 rfl | exact hI.c5 rfl) | exact rLd rfl (by kernel_rfl) rfl (by first | exact hI.c0 rfl | exact hI.c1 rfl | exact hI.c2 rfl | exact hI.c3 rfl | exact hI.c4 rfl | exact hI.c5 rfl)) ?_
    refine WL_val rfl rfl rfl (by first | exact rEqlT rfl rfl rfl (by omega) | exact rEqlF rfl rfl rfl (by omega) | exact rEql rfl rfl rfl) ?_
    refine WL_val rfl rfl rfl (by first | exact rAsgnB rfl rfl | exact rAsgn rfl) ?_
    refine WL_nil ?_
    refine W_seq ?_
    refine W_seq ?_
    refine W_draw (by kernel_rfl) ?_
    refine WA_inv (T := []) hI.drew ?_
    intro Sx hSx hXS
    replace hI := hI.drew
    refine WT_take 0 rfl rfl (by kernel_rfl) (hXS _ hI) rfl (fun W hW => have hI := hSx W hW; (by first | exact rFldN (off := 2) rfl (by kernel_rfl) rfl | exact rFld (off := 2) rfl (by kernel_rfl) rfl)) ?_
    refine WT_take 1 rfl rfl (by kernel_rfl) (hXS _ hI) rfl (fun W hW => have hI := hSx W hW; (by first | exact rLd (v := .int .i64 _) rfl (by kernel_rfl) rfl (by first | exact hI.c0 rfl | exact hI.c1 rfl | exact hI.c2 rfl | exact hI.c3 rfl | exact hI.c4 rfl | exact hI.c5 rfl) | exact rLd rfl (by kernel_rfl) rfl (by first | exact hI.c0 rfl | exact hI.c1 rfl | exact hI.c2 rfl | exact hI.c3 rfl | exact hI.c4 rfl | exact hI.c5 rfl))) ?_
    refine WT_take 2 rfl rfl (by kernel_rfl) (hXS _ hI) rfl (fun W hW => have hI := hSx W hW; (by first | exact rNeqT rfl rfl rfl (by omega) | exact rNeqF rfl rfl rfl (by omega) | exact rNeq rfl rfl rfl)) ?_
    refine WT_take 3 rfl rfl (by kernel_rfl) (hXS _ hI) rfl (fun W hW => have hI := hSx W hW; (by first | exact rMoveB rfl rfl | exact rMove rfl)) ?_
    first | refine WT_take 4 rfl rfl (by kernel_rfl) (hXS _ hI) rfl (fun W hW => have hI := hSx W hW; (by first | exact rMoveB rfl rfl | exact rMove rfl)) ?_ | refine WT_skip 4 rfl rfl (by kernel_rfl) (hXS _ hI) rfl ?_
    first | refine WT_take 5 rfl rfl (by kernel_rfl) (hXS _ hI) rfl (fun W hW => have hI := hSx W hW; (by first | exact rNotT rfl rfl | exact rNotF rfl rfl | exact rNot rfl rfl)) ?_ | refine WT_skip 5 rfl rfl (by kernel_rfl) (hXS _ hI) rfl ?_
    refine WT_take 6 rfl rfl (by kernel_rfl) (hXS _ hI) rfl (fun W hW => have hI := hSx W hW; (by first | exact rPickTB rfl rfl rfl | exact rPickFB rfl rfl rfl | exact rPickB rfl rfl rfl rfl)) ?_
    refine WT_take 7 rfl rfl (by kernel_rfl) (hXS _ hI) rfl (fun W hW => have hI := hSx W hW; (by first | exact rMoveB rfl rfl | exact rMove rfl)) ?_
    refine WT_skip 8 rfl rfl (by kernel_rfl) (hXS _ hI) rfl ?_
    refine WT_skip 9 rfl rfl (by kernel_rfl) (hXS _ hI) rfl ?_
    refine WT_skip 10 rfl rfl (by kernel_rfl) (hXS _ hI) rfl ?_
    refine WT_take 11 rfl rfl (by kernel_rfl) (hXS _ hI) rfl (fun W hW => have hI := hSx W hW; (by first | exact rPickTB rfl rfl rfl | exact rPickFB rfl rfl rfl | exact rPickB rfl rfl rfl rfl)) ?_
    refine WT_take 12 rfl rfl (by kernel_rfl) (hXS _ hI) rfl (fun W hW => have hI := hSx W hW; (by first | exact rMoveB rfl rfl | exact rMove rfl)) ?_
    refine WT_skip 13 rfl rfl (by kernel_rfl) (hXS _ hI) rfl ?_
    refine WT_skip 14 rfl rfl (by kernel_rfl) (hXS _ hI) rfl ?_
    refine WT_skip 15 rfl rfl (by kernel_rfl) (hXS _ hI) rfl ?_
    refine WT_skip 16 rfl rfl (by kernel_rfl) (hXS _ hI) rfl ?_
    refine WT_skip 17 rfl rfl (by kernel_rfl) (hXS _ hI) rfl ?_
    refine WT_skip 18 rfl rfl (by kernel_rfl) (hXS _ hI) rfl ?_
    refine WT_skip 19 rfl rfl (by kernel_rfl) (hXS _ hI) rfl ?_
    refine WT_take 20 rfl rfl (by kernel_rfl) (hXS _ hI) rfl (fun W hW => have hI := hSx W hW; (by first | exact rPickTB rfl rfl rfl | exact rPickFB rfl rfl rfl | exact rPickB rfl rfl rfl rfl)) ?_
    refine WT_take 21 rfl rfl (by kernel_rfl) (hXS _ hI) rfl (fun W hW => have hI := hSx W hW; (by first | exact rMoveB rfl rfl | exact rMove rfl)) ?_
    refine WT_skip 22 rfl rfl (by kernel_rfl) (hXS _ hI) rfl ?_
    refine WT_skip 23 rfl rfl (by kernel_rfl) (hXS _ hI) rfl ?_
    refine WT_skip 24 rfl rfl (by kernel_rfl) (hXS _ hI) rfl ?_
    refine WT_skip 25 rfl rfl (by kernel_rfl) (hXS _ hI) rfl ?_
    refine WT_skip 26 rfl rfl (by kernel_rfl) (hXS _ hI) rfl ?_
    refine WT_skip 27 rfl rfl (by kernel_rfl) (hXS _ hI) rfl ?_
    refine WT_skip 28 rfl rfl (by kernel_rfl) (hXS _ hI) rfl ?_
    refine WT_skip 29 rfl rfl (by kernel_rfl) (hXS _ hI) rfl ?_
    refine WT_skip 30 rfl rfl (by kernel_rfl) (hXS _ hI) rfl ?_
    refine WT_skip 31 rfl rfl (by kernel_rfl) (hXS _ hI) rfl ?_
    first | refine WT_take 32 rfl rfl (by kernel_rfl) (hXS _ hI) rfl (fun W hW => have hI := hSx W hW; (by first | exact rPickTB rfl rfl rfl | exact rPickFB rfl rfl rfl | exact rPickB rfl rfl rfl rfl)) ?_ | refine WT_skip 32 rfl rfl (by kernel_rfl) (hXS _ hI) rfl ?_
    refine WT_take 33 rfl rfl (by kernel_rfl) (hXS _ hI) rfl (fun W hW => have hI := hSx W hW; (by first | exact rPickTB rfl rfl rfl | exact rPickFB rfl rfl rfl | exact rPickB rfl rfl rfl rfl)) ?_
    refine WT_end (by kernel_rfl) ?_
    refine W_cond true rfl ?_
    refine W_seq ?_
    refine W_region ?_
    refine WL_val rfl rfl rfl (rIface rfl Tryd.underlying36 rfl rfl) ?_
    refine WL_val rfl rfl rfl (by first | exact rAsgnN rfl rfl | exact rAsgnE rfl rfl | exact rAsgn rfl) ?_
    refine WL_nil ?_
    refine W_ret ?_
    exact ret1 2 (.inr rfl) rfl (bad _ (fun hb => by rcases hb.1 with h1 | h1; exact k10 h1; exact k9 h1) hI.pu)
  refine W_seq ?_
  refine W_region ?_
  refine WL_val rfl rfl rfl (by first | exact rFldN (off := 2) rfl (by kernel_rfl) rfl | exact rFld (off := 2) rfl (by kernel_rfl) rfl) ?_
  refine WL_val rfl rfl rfl (by first | exact rLd (v := .int .i64 _) rfl (by kernel_rfl) rfl (by first | exact hI.c0 rfl | exact hI.c1 rfl | exact hI.c2 rfl | exact hI.c3 rfl | exact hI.c4 rfl | exact hI.c5 rfl) | exact rLd rfl (by kernel_rfl) rfl (by first | exact hI.c0 rfl | exact hI.c1 rfl | exact hI.c2 rfl | exact hI.c3 rfl | exact hI.c4 rfl | exact hI.c5 rfl)) ?_
  refine WL_val rfl rfl rfl (by first | exact rEqlT rfl rfl rfl (by omega) | exact rEqlF rfl rfl rfl (by omega) | exact rEql rfl rfl rfl) ?_
  refine WL_val rfl rfl rfl (by first | exact rAsgnB rfl rfl | exact rAsgn rfl) ?_
  refine WL_nil ?_
  by_cases hr : 0 ≤ p7
  rotate_left
  · refine W_seq ?_
    refine W_seq ?_
    refine W_draw (by kernel_rfl) ?_
    refine WA_inv (T := []) hI.drew ?_
    intro Sx hSx hXS
    replace hI := hI.drew
    refine WT_take 0 rfl rfl (by kernel_rfl) (hXS _ hI) rfl (fun W hW => have hI := hSx W hW; (by first | exact rFldN (off := 2) rfl (by kernel_rfl) rfl | exact rFld (off := 2) rfl (by kernel_rfl) rfl)) ?_
    refine WT_take 1 rfl rfl (by kernel_rfl) (hXS _ hI) rfl (fun W hW => have hI := hSx W hW; (by first | exact rLd (v := .int .i64 _) rfl (by kernel_rfl) rfl (by first | exact hI.c0 rfl | exact hI.c1 rfl | exact hI.c2 rfl | exact hI.c3 rfl | exact hI.c4 rfl | exact hI.c5 rfl) | exact rLd rfl (by kernel_rfl) rfl (by first | exact hI.c0 rfl | exact hI.c1 rfl | exact hI.c2 rfl | exact hI.c3 rfl | exact hI.c4 rfl | exact hI.c5 rfl))) ?_
    refine WT_take 2 rfl rfl (by kernel_rfl) (hXS _ hI) rfl (fun W hW => have hI := hSx W hW; (by first | exact rNeqT rfl rfl rfl (by omega) | exact rNeqF rfl rfl rfl (by omega) | exact rNeq rfl rfl rfl)) ?_
    refine WT_take 3 rfl rfl (by kernel_rfl) (hXS _ hI) rfl (fun W hW => have hI := hSx W hW; (by first | exact rMoveB rfl rfl | exact rMove rfl)) ?_
    refine WT_skip 4 rfl rfl (by kernel_rfl) (hXS _ hI) rfl ?_
    refine WT_skip 5 rfl rfl (by kernel_rfl) (hXS _ hI) rfl ?_
    refine WT_take 6 rfl rfl (by kernel_rfl) (hXS _ hI) rfl (fun W hW => have hI := hSx W hW; (by first | exact rPickTB rfl rfl rfl | exact rPickFB rfl rfl rfl | exact rPickB rfl rfl rfl rfl)) ?_
    refine WT_take 7 rfl rfl (by kernel_rfl) (hXS _ hI) rfl (fun W hW => have hI := hSx W hW; (by first | exact rMoveB rfl rfl | exact rMove rfl)) ?_
    first | refine WT_take 8 rfl rfl (by kernel_rfl) (hXS _ hI) rfl (fun W hW => have hI := hSx W hW; (by first | exact rFldN (off := 7) rfl (by kernel_rfl) rfl | exact rFld (off := 7) rfl (by kernel_rfl) rfl)) ?_ | refine WT_skip 8 rfl rfl (by kernel_rfl) (hXS _ hI) rfl ?_
    first | refine WT_take 9 rfl rfl (by kernel_rfl) (hXS _ hI) rfl (fun W hW => have hI := hSx W hW; (by first | exact rLd (v := .int .i64 _) rfl (by kernel_rfl) rfl (by first | exact hI.c0 rfl | exact hI.c1 rfl | exact hI.c2 rfl | exact hI.c3 rfl | exact hI.c4 rfl | exact hI.c5 rfl) | exact rLd rfl (by kernel_rfl) rfl (by first | exact hI.c0 rfl | exact hI.c1 rfl | exact hI.c2 rfl | exact hI.c3 rfl | exact hI.c4 rfl | exact hI.c5 rfl))) ?_ | refine WT_skip 9 rfl rfl (by kernel_rfl) (hXS _ hI) rfl ?_
    first | refine WT_take 10 rfl rfl (by kernel_rfl) (hXS _ hI) rfl (fun W hW => have hI := hSx W hW; (by first | exact rLssT rfl rfl rfl (by omega) | exact rLssF rfl rfl rfl (by omega) | exact rLss rfl rfl rfl)) ?_ | refine WT_skip 10 rfl rfl (by kernel_rfl) (hXS _ hI) rfl ?_
    refine WT_take 11 rfl rfl (by kernel_rfl) (hXS _ hI) rfl (fun W hW => have hI := hSx W hW; (by first | exact rPickTB rfl rfl rfl | exact rPickFB rfl rfl rfl | exact rPickB rfl rfl rfl rfl)) ?_
    refine WT_take 12 rfl rfl (by kernel_rfl) (hXS _ hI) rfl (fun W hW => have hI := hSx W hW; (by first | exact rMoveB rfl rfl | exact rMove rfl)) ?_
    refine WT_skip 13 rfl rfl (by kernel_rfl) (hXS _ hI) rfl ?_
    refine WT_skip 14 rfl rfl (by kernel_rfl) (hXS _ hI) rfl ?_
    refine WT_skip 15 rfl rfl (by kernel_rfl) (hXS _ hI) rfl ?_
    refine WT_skip 16 rfl rfl (by kernel_rfl) (hXS _ hI) rfl ?_
    refine WT_skip 17 rfl rfl (by kernel_rfl) (hXS _ hI) rfl ?_
    refine WT_skip 18 rfl rfl (by kernel_rfl) (hXS _ hI) rfl ?_
    refine WT_skip 19 rfl rfl (by kernel_rfl) (hXS _ hI) rfl ?_
    refine WT_take 20 rfl rfl (by kernel_rfl) (hXS _ hI) rfl (fun W hW => have hI := hSx W hW; (by first | exact rPickTB rfl rfl rfl | exact rPickFB rfl rfl rfl | exact rPickB rfl rfl rfl rfl)) ?_
    refine WT_take 21 rfl rfl (by kernel_rfl) (hXS _ hI) rfl (fun W hW => have hI := hSx W hW; (by first | exact rMoveB rfl rfl | exact rMove rfl)) ?_
    refine WT_skip 22 rfl rfl (by kernel_rfl) (hXS _ hI) rfl ?_
    refine WT_skip 23 rfl rfl (by kernel_rfl) (hXS _ hI) rfl ?_
    refine WT_skip 24 rfl rfl (by kernel_rfl) (hXS _ hI) rfl ?_
    refine WT_skip 25 rfl rfl (by kernel_rfl) (hXS _ hI) rfl ?_
    refine WT_skip 26 rfl rfl (by kernel_rfl) (hXS _ hI) rfl ?_
    refine WT_skip 27 rfl rfl (by kernel_rfl) (hXS _ hI) rfl ?_
    refine WT_skip 28 rfl rfl (by kernel_rfl) (hXS _ hI) rfl ?_
    refine WT_skip 29 rfl rfl (by kernel_rfl) (hXS _ hI) rfl ?_
    refine WT_skip 30 rfl rfl (by kernel_rfl) (hXS _ hI) rfl ?_
    refine WT_skip 31 rfl rfl (by kernel_rfl) (hXS _ hI) rfl ?_
    first | refine WT_take 32 rfl rfl (by kernel_rfl) (hXS _ hI) rfl (fun W hW => have hI := hSx W hW; (by first | exact rPickTB rfl rfl rfl | exact rPickFB rfl rfl rfl | exact rPickB rfl rfl rfl rfl)) ?_ | refine WT_skip 32 rfl rfl (by kernel_rfl) (hXS _ hI) rfl ?_
    refine WT_take 33 rfl rfl (by kernel_rfl) (hXS _ hI) rfl (fun W hW => have hI := hSx W hW; (by first | exact rPickTB rfl rfl rfl | exact rPickFB rfl rfl rfl | exact rPickB rfl rfl rfl rfl)) ?_
    refine WT_end (by kernel_rfl) ?_
    refine W_cond true rfl ?_
    refine W_seq ?_
    refine W_region ?_
    refine WL_val rfl rfl rfl (rIface rfl Tryd.underlying36 rfl rfl) ?_
    refine WL_val rfl rfl rfl (by first | exact rAsgnN rfl rfl | exact rAsgnE rfl rfl | exact rAsgn rfl) ?_
    refine WL_nil ?_
    refine W_ret ?_
    exact ret1 2 (.inr rfl) rfl (bad _ (fun hb => hr hb.2.1) hI.pu)
  by_cases hkey : p1 = z1
  rotate_left
  · refine W_seq ?_
    refine W_seq ?_
    refine W_draw (by kernel_rfl) ?_
    refine WA_inv (T := []) hI.drew ?_
    intro Sx hSx hXS
    replace hI := hI.drew
    refine WT_take 0 rfl rfl (by kernel_rfl) (hXS _ hI) rfl (fun W hW => have hI := hSx W hW; (by first | exact rFldN (off := 2) rfl (by kernel_rfl) rfl | exact rFld (off := 2) rfl (by kernel_rfl) rfl)) ?_
    refine WT_take 1 rfl rfl (by kernel_rfl) (hXS _ hI) rfl (fun W hW => have hI := hSx W hW; (by first | exact rLd (v := .int .i64 _) rfl (by kernel_rfl) rfl (by first | exact hI.c0 rfl | exact hI.c1 rfl | exact hI.c2 rfl | exact hI.c3 rfl | exact hI.c4 rfl | exact hI.c5 rfl | exact (hz1 _ hI.pu) | exact (hI.c0 rfl)) | exact rLd rfl (by kernel_rfl) rfl (by first | exact hI.c0 rfl | exact hI.c1 rfl | exact hI.c2 rfl | exact hI.c3 rfl | exact hI.c4 rfl | exact hI.c5 rfl | exact (hz1 _ hI.pu) | exact (hI.c0 rfl)))) ?_
    refine WT_take 2 rfl rfl (by kernel_rfl) (hXS _ hI) rfl (fun W hW => have hI := hSx W hW; (by first | exact rNeqT rfl rfl rfl (by omega) | exact rNeqF rfl rfl rfl (by omega) | exact rNeq rfl rfl rfl)) ?_
    refine WT_take 3 rfl rfl (by kernel_rfl) (hXS _ hI) rfl (fun W hW => have hI := hSx W hW; (by first | exact rMoveB rfl rfl | exact rMove rfl)) ?_
    refine WT_skip 4 rfl rfl (by kernel_rfl) (hXS _ hI) rfl ?_
    refine WT_skip 5 rfl rfl (by kernel_rfl) (hXS _ hI) rfl ?_
    refine WT_take 6 rfl rfl (by kernel_rfl) (hXS _ hI) rfl (fun W hW => have hI := hSx W hW; (by first | exact rPickTB rfl rfl rfl | exact rPickFB rfl rfl rfl | exact rPickB rfl rfl rfl rfl)) ?_
    refine WT_take 7 rfl rfl (by kernel_rfl) (hXS _ hI) rfl (fun W hW => have hI := hSx W hW; (by first | exact rMoveB rfl rfl | exact rMove rfl)) ?_
    first | refine WT_take 8 rfl rfl (by kernel_rfl) (hXS _ hI) rfl (fun W hW => have hI := hSx W hW; (by first | exact rFldN (off := 7) rfl (by kernel_rfl) rfl | exact rFld (off := 7) rfl (by kernel_rfl) rfl)) ?_ | refine WT_skip 8 rfl rfl (by kernel_rfl) (hXS _ hI) rfl ?_
    first | refine WT_take 9 rfl rfl (by kernel_rfl) (hXS _ hI) rfl (fun W hW => have hI := hSx W hW; (by first | exact rLd (v := .int .i64 _) rfl (by kernel_rfl) rfl (by first | exact hI.c0 rfl | exact hI.c1 rfl | exact hI.c2 rfl | exact hI.c3 rfl | exact hI.c4 rfl | exact hI.c5 rfl | exact (hz1 _ hI.pu) | exact (hI.c0 rfl)) | exact rLd rfl (by kernel_rfl) rfl (by first | exact hI.c0 rfl | exact hI.c1 rfl | exact hI.c2 rfl | exact hI.c3 rfl | exact hI.c4 rfl | exact hI.c5 rfl | exact (hz1 _ hI.pu) | exact (hI.c0 rfl)))) ?_ | refine WT_skip 9 rfl rfl (by kernel_rfl) (hXS _ hI) rfl ?_
    first | refine WT_take 10 rfl rfl (by kernel_rfl) (hXS _ hI) rfl (fun W hW => have hI := hSx W hW; (by first | exact rLssT rfl rfl rfl (by omega) | exact rLssF rfl rfl rfl (by omega) | exact rLss rfl rfl rfl)) ?_ | refine WT_skip 10 rfl rfl (by kernel_rfl) (hXS _ hI) rfl ?_
    refine WT_take 11 rfl rfl (by kernel_rfl) (hXS _ hI) rfl (fun W hW => have hI := hSx W hW; (by first | exact rPickTB rfl rfl rfl | exact rPickFB rfl rfl rfl | exact rPickB rfl rfl rfl rfl)) ?_
    refine WT_take 12 rfl rfl (by kernel_rfl) (hXS _ hI) rfl (fun W hW => have hI := hSx W hW; (by first | exact rMoveB rfl rfl | exact rMove rfl)) ?_
    first | refine WT_take 13 rfl rfl (by kernel_rfl) (hXS _ hI) rfl (fun W hW => have hI := hSx W hW; (by first | exact rFldN (off := 1) rfl (by kernel_rfl) rfl | exact rFld (off := 1) rfl (by kernel_rfl) rfl)) ?_ | refine WT_skip 13 rfl rfl (by kernel_rfl) (hXS _ hI) rfl ?_
    first | refine WT_take 14 rfl rfl (by kernel_rfl) (hXS _ hI) rfl (fun W hW => have hI := hSx W hW; (by first | exact rLd (v := .int .i64 _) rfl (by kernel_rfl) rfl (by first | exact hI.c0 rfl | exact hI.c1 rfl | exact hI.c2 rfl | exact hI.c3 rfl | exact hI.c4 rfl | exact hI.c5 rfl | exact (hz1 _ hI.pu) | exact (hI.c0 rfl)) | exact rLd rfl (by kernel_rfl) rfl (by first | exact hI.c0 rfl | exact hI.c1 rfl | exact hI.c2 rfl | exact hI.c3 rfl | exact hI.c4 rfl | exact hI.c5 rfl | exact (hz1 _ hI.pu) | exact (hI.c0 rfl)))) ?_ | refine WT_skip 14 rfl rfl (by kernel_rfl) (hXS _ hI) rfl ?_
    first | refine WT_take 15 rfl rfl (by kernel_rfl) (hXS _ hI) rfl (fun W hW => have hI := hSx W hW; (by first | exact rMoveS rfl rfl | exact rMove rfl)) ?_ | refine WT_skip 15 rfl rfl (by kernel_rfl) (hXS _ hI) rfl ?_
    first | refine WT_take 16 rfl rfl (by kernel_rfl) (hXS _ hI) rfl (fun W hW => have hI := hSx W hW; (rIdx (sz := 8) (i := 0) rfl Tryd.underlying22 (by kernel_rfl) rfl rfl (by omega))) ?_ | refine WT_skip 16 rfl rfl (by kernel_rfl) (hXS _ hI) rfl ?_
    first | refine WT_take 17 rfl rfl (by kernel_rfl) (hXS _ hI) rfl (fun W hW => have hI := hSx W hW; (by first | exact rFldN (off := 1) rfl (by kernel_rfl) rfl | exact rFld (off := 1) rfl (by kernel_rfl) rfl)) ?_ | refine WT_skip 17 rfl rfl (by kernel_rfl) (hXS _ hI) rfl ?_
    first | refine WT_take 18 rfl rfl (by kernel_rfl) (hXS _ hI) rfl (fun W hW => have hI := hSx W hW; (by first | exact rLd (v := .int .i64 _) rfl (by kernel_rfl) rfl (by first | exact hI.c0 rfl | exact hI.c1 rfl | exact hI.c2 rfl | exact hI.c3 rfl | exact hI.c4 rfl | exact hI.c5 rfl | exact (hz1 _ hI.pu) | exact (hI.c0 rfl)) | exact rLd rfl (by kernel_rfl) rfl (by first | exact hI.c0 rfl | exact hI.c1 rfl | exact hI.c2 rfl | exact hI.c3 rfl | exact hI.c4 rfl | exact hI.c5 rfl | exact (hz1 _ hI.pu) | exact (hI.c0 rfl)))) ?_ | refine WT_skip 18 rfl rfl (by kernel_rfl) (hXS _ hI) rfl ?_
    first | refine WT_take 19 rfl rfl (by kernel_rfl) (hXS _ hI) rfl (fun W hW => have hI := hSx W hW; (by first | exact rNeqT rfl rfl rfl (by omega) | exact rNeqF rfl rfl rfl (by omega) | exact rNeq rfl rfl rfl)) ?_ | refine WT_skip 19 rfl rfl (by kernel_rfl) (hXS _ hI) rfl ?_
    refine WT_take 20 rfl rfl (by kernel_rfl) (hXS _ hI) rfl (fun W hW => have hI := hSx W hW; (by first | exact rPickTB rfl rfl rfl | exact rPickFB rfl rfl rfl | exact rPickB rfl rfl rfl rfl)) ?_
    refine WT_take 21 rfl rfl (by kernel_rfl) (hXS _ hI) rfl (fun W hW => have hI := hSx W hW; (by first | exact rMoveB rfl rfl | exact rMove rfl)) ?_
    refine WT_skip 22 rfl rfl (by kernel_rfl) (hXS _ hI) rfl ?_
    refine WT_skip 23 rfl rfl (by kernel_rfl) (hXS _ hI) rfl ?_
    refine WT_skip 24 rfl rfl (by kernel_rfl) (hXS _ hI) rfl ?_
    refine WT_skip 25 rfl rfl (by kernel_rfl) (hXS _ hI) rfl ?_
    refine WT_skip 26 rfl rfl (by kernel_rfl) (hXS _ hI) rfl ?_
    refine WT_skip 27 rfl rfl (by kernel_rfl) (hXS _ hI) rfl ?_
    refine WT_skip 28 rfl rfl (by kernel_rfl) (hXS _ hI) rfl ?_
    refine WT_skip 29 rfl rfl (by kernel_rfl) (hXS _ hI) rfl ?_
    refine WT_skip 30 rfl rfl (by kernel_rfl) (hXS _ hI) rfl ?_
    refine WT_skip 31 rfl rfl (by kernel_rfl) (hXS _ hI) rfl ?_
    refine WT_skip 32 rfl rfl (by kernel_rfl) (hXS _ hI) rfl ?_
    refine WT_take 33 rfl rfl (by kernel_rfl) (hXS _ hI) rfl (fun W hW => have hI := hSx W hW; (by first | exact rPickTB rfl rfl rfl | exact rPickFB rfl rfl rfl | exact rPickB rfl rfl rfl rfl)) ?_
    refine WT_end (by kernel_rfl) ?_
    refine W_cond true rfl ?_
    refine W_seq ?_
    refine W_region ?_
    refine WL_val rfl rfl rfl (rIface rfl Tryd.underlying36 rfl rfl) ?_
    refine WL_val rfl rfl rfl (by first | exact rAsgnN rfl rfl | exact rAsgnE rfl rfl | exact rAsgn rfl) ?_
    refine WL_nil ?_
    refine W_ret ?_
    exact ret1 2 (.inr rfl) rfl (bad _ (fun hb => hkey hb.2.2.1) hI.pu)
  have hg : OkZ1 z1 ⟨p0, p1, p2, p3, p4, p5, p6, p7⟩ := ⟨.inl k10, hr, hkey, fun h9 => absurd h9 k9⟩
  refine W_seq ?_
  refine W_seq ?_
  refine W_draw (by kernel_rfl) ?_
  refine WA_inv (T := []) hI.drew ?_
  intro Sx hSx hXS
  replace hI := hI.drew
  refine WT_take 0 rfl rfl (by kernel_rfl) (hXS _ hI) rfl (fun W hW => have hI := hSx W hW; (by first | exact rFldN (off := 2) rfl (by kernel_rfl) rfl | exact rFld (off := 2) rfl (by kernel_rfl) rfl)) ?_
  refine WT_take 1 rfl rfl (by kernel_rfl) (hXS _ hI) rfl (fun W hW => have hI := hSx W hW; (by first | exact rLd (v := .int .i64 _) rfl (by kernel_rfl) rfl (by first | exact hI.c0 rfl | exact hI.c1 rfl | exact hI.c2 rfl | exact hI.c3 rfl | exact hI.c4 rfl | exact hI.c5 rfl | exact (hz1 _ hI.pu) | exact (hI.c0 rfl)) | exact rLd rfl (by kernel_rfl) rfl (by first | exact hI.c0 rfl | exact hI.c1 rfl | exact hI.c2 rfl | exact hI.c3 rfl | exact hI.c4 rfl | exact hI.c5 rfl | exact (hz1 _ hI.pu) | exact (hI.c0 rfl)))) ?_
  refine WT_take 2 rfl rfl (by kernel_rfl) (hXS _ hI) rfl (fun W hW => have hI := hSx W hW; (by first | exact rNeqT rfl rfl rfl (by omega) | exact rNeqF rfl rfl rfl (by omega) | exact rNeq rfl rfl rfl)) ?_
  refine WT_take 3 rfl rfl (by kernel_rfl) (hXS _ hI) rfl (fun W hW => have hI := hSx W hW; (by first | exact rMoveB rfl rfl | exact rMove rfl)) ?_
  refine WT_skip 4 rfl rfl (by kernel_rfl) (hXS _ hI) rfl ?_
  refine WT_skip 5 rfl rfl (by kernel_rfl) (hXS _ hI) rfl ?_
  refine WT_take 6 rfl rfl (by kernel_rfl) (hXS _ hI) rfl (fun W hW => have hI := hSx W hW; (by first | exact rPickTB rfl rfl rfl | exact rPickFB rfl rfl rfl | exact rPickB rfl rfl rfl rfl)) ?_
  refine WT_take 7 rfl rfl (by kernel_rfl) (hXS _ hI) rfl (fun W hW => have hI := hSx W hW; (by first | exact rMoveB rfl rfl | exact rMove rfl)) ?_
  first | refine WT_take 8 rfl rfl (by kernel_rfl) (hXS _ hI) rfl (fun W hW => have hI := hSx W hW; (by first | exact rFldN (off := 7) rfl (by kernel_rfl) rfl | exact rFld (off := 7) rfl (by kernel_rfl) rfl)) ?_ | refine WT_skip 8 rfl rfl (by kernel_rfl) (hXS _ hI) rfl ?_
  first | refine WT_take 9 rfl rfl (by kernel_rfl) (hXS _ hI) rfl (fun W hW => have hI := hSx W hW; (by first | exact rLd (v := .int .i64 _) rfl (by kernel_rfl) rfl (by first | exact hI.c0 rfl | exact hI.c1 rfl | exact hI.c2 rfl | exact hI.c3 rfl | exact hI.c4 rfl | exact hI.c5 rfl | exact (hz1 _ hI.pu) | exact (hI.c0 rfl)) | exact rLd rfl (by kernel_rfl) rfl (by first | exact hI.c0 rfl | exact hI.c1 rfl | exact hI.c2 rfl | exact hI.c3 rfl | exact hI.c4 rfl | exact hI.c5 rfl | exact (hz1 _ hI.pu) | exact (hI.c0 rfl)))) ?_ | refine WT_skip 9 rfl rfl (by kernel_rfl) (hXS _ hI) rfl ?_
  first | refine WT_take 10 rfl rfl (by kernel_rfl) (hXS _ hI) rfl (fun W hW => have hI := hSx W hW; (by first | exact rLssT rfl rfl rfl (by omega) | exact rLssF rfl rfl rfl (by omega) | exact rLss rfl rfl rfl)) ?_ | refine WT_skip 10 rfl rfl (by kernel_rfl) (hXS _ hI) rfl ?_
  refine WT_take 11 rfl rfl (by kernel_rfl) (hXS _ hI) rfl (fun W hW => have hI := hSx W hW; (by first | exact rPickTB rfl rfl rfl | exact rPickFB rfl rfl rfl | exact rPickB rfl rfl rfl rfl)) ?_
  refine WT_take 12 rfl rfl (by kernel_rfl) (hXS _ hI) rfl (fun W hW => have hI := hSx W hW; (by first | exact rMoveB rfl rfl | exact rMove rfl)) ?_
  first | refine WT_take 13 rfl rfl (by kernel_rfl) (hXS _ hI) rfl (fun W hW => have hI := hSx W hW; (by first | exact rFldN (off := 1) rfl (by kernel_rfl) rfl | exact rFld (off := 1) rfl (by kernel_rfl) rfl)) ?_ | refine WT_skip 13 rfl rfl (by kernel_rfl) (hXS _ hI) rfl ?_
  first | refine WT_take 14 rfl rfl (by kernel_rfl) (hXS _ hI) rfl (fun W hW => have hI := hSx W hW; (by first | exact rLd (v := .int .i64 _) rfl (by kernel_rfl) rfl (by first | exact hI.c0 rfl | exact hI.c1 rfl | exact hI.c2 rfl | exact hI.c3 rfl | exact hI.c4 rfl | exact hI.c5 rfl | exact (hz1 _ hI.pu) | exact (hI.c0 rfl)) | exact rLd rfl (by kernel_rfl) rfl (by first | exact hI.c0 rfl | exact hI.c1 rfl | exact hI.c2 rfl | exact hI.c3 rfl | exact hI.c4 rfl | exact hI.c5 rfl | exact (hz1 _ hI.pu) | exact (hI.c0 rfl)))) ?_ | refine WT_skip 14 rfl rfl (by kernel_rfl) (hXS _ hI) rfl ?_
  first | refine WT_take 15 rfl rfl (by kernel_rfl) (hXS _ hI) rfl (fun W hW => have hI := hSx W hW; (by first | exact rMoveS rfl rfl | exact rMove rfl)) ?_ | refine WT_skip 15 rfl rfl (by kernel_rfl) (hXS _ hI) rfl ?_
  first | refine WT_take 16 rfl rfl (by kernel_rfl) (hXS _ hI) rfl (fun W hW => have hI := hSx W hW; (rIdx (sz := 8) (i := 0) rfl Tryd.underlying22 (by kernel_rfl) rfl rfl (by omega))) ?_ | refine WT_skip 16 rfl rfl (by kernel_rfl) (hXS _ hI) rfl ?_
  first | refine WT_take 17 rfl rfl (by kernel_rfl) (hXS _ hI) rfl (fun W hW => have hI := hSx W hW; (by first | exact rFldN (off := 1) rfl (by kernel_rfl) rfl | exact rFld (off := 1) rfl (by kernel_rfl) rfl)) ?_ | refine WT_skip 17 rfl rfl (by kernel_rfl) (hXS _ hI) rfl ?_
  first | refine WT_take 18 rfl rfl (by kernel_rfl) (hXS _ hI) rfl (fun W hW => have hI := hSx W hW; (by first | exact rLd (v := .int .i64 _) rfl (by kernel_rfl) rfl (by first | exact hI.c0 rfl | exact hI.c1 rfl | exact hI.c2 rfl | exact hI.c3 rfl | exact hI.c4 rfl | exact hI.c5 rfl | exact (hz1 _ hI.pu) | exact (hI.c0 rfl)) | exact rLd rfl (by kernel_rfl) rfl (by first | exact hI.c0 rfl | exact hI.c1 rfl | exact hI.c2 rfl | exact hI.c3 rfl | exact hI.c4 rfl | exact hI.c5 rfl | exact (hz1 _ hI.pu) | exact (hI.c0 rfl)))) ?_ | refine WT_skip 18 rfl rfl (by kernel_rfl) (hXS _ hI) rfl ?_
  first | refine WT_take 19 rfl rfl (by kernel_rfl) (hXS _ hI) rfl (fun W hW => have hI := hSx W hW; (by first | exact rNeqT rfl rfl rfl (by omega) | exact rNeqF rfl rfl rfl (by omega) | exact rNeq rfl rfl rfl)) ?_ | refine WT_skip 19 rfl rfl (by kernel_rfl) (hXS _ hI) rfl ?_
  refine WT_take 20 rfl rfl (by kernel_rfl) (hXS _ hI) rfl (fun W hW => have hI := hSx W hW; (by first | exact rPickTB rfl rfl rfl | exact rPickFB rfl rfl rfl | exact rPickB rfl rfl rfl rfl)) ?_
  refine WT_take 21 rfl rfl (by kernel_rfl) (hXS _ hI) rfl (fun W hW => have hI := hSx W hW; (by first | exact rMoveB rfl rfl | exact rMove rfl)) ?_
  first | refine WT_take 22 rfl rfl (by kernel_rfl) (hXS _ hI) rfl (fun W hW => have hI := hSx W hW; (by first | exact rMoveB rfl rfl | exact rMove rfl)) ?_ | refine WT_skip 22 rfl rfl (by kernel_rfl) (hXS _ hI) rfl ?_
  first | refine WT_take 23 rfl rfl (by kernel_rfl) (hXS _ hI) rfl (fun W hW => have hI := hSx W hW; (by first | exact rMoveB rfl rfl | exact rMove rfl)) ?_ | refine WT_skip 23 rfl rfl (by kernel_rfl) (hXS _ hI) rfl ?_
  refine WT_skip 24 rfl rfl (by kernel_rfl) (hXS _ hI) rfl ?_
  refine WT_skip 25 rfl rfl (by kernel_rfl) (hXS _ hI) rfl ?_
  refine WT_skip 26 rfl rfl (by kernel_rfl) (hXS _ hI) rfl ?_
  refine WT_skip 27 rfl rfl (by kernel_rfl) (hXS _ hI) rfl ?_
  refine WT_skip 28 rfl rfl (by kernel_rfl) (hXS _ hI) rfl ?_
  refine WT_skip 29 rfl rfl (by kernel_rfl) (hXS _ hI) rfl ?_
  refine WT_skip 30 rfl rfl (by kernel_rfl) (hXS _ hI) rfl ?_
  refine WT_skip 31 rfl rfl (by kernel_rfl) (hXS _ hI) rfl ?_
  first | refine WT_take 32 rfl rfl (by kernel_rfl) (hXS _ hI) rfl (fun W hW => have hI := hSx W hW; (by first | exact rPickTB rfl rfl rfl | exact rPickFB rfl rfl rfl | exact rPickB rfl rfl rfl rfl)) ?_ | refine WT_skip 32 rfl rfl (by kernel_rfl) (hXS _ hI) rfl ?_
  refine WT_take 33 rfl rfl (by kernel_rfl) (hXS _ hI) rfl (fun W hW => have hI := hSx W hW; (by first | exact rPickTB rfl rfl rfl | exact rPickFB rfl rfl rfl | exact rPickB rfl rfl rfl rfl)) ?_
  refine WT_end (by kernel_rfl) ?_
  refine W_cond false rfl ?_
  refine W_skip ?_
  refine W_seq_cut (fun ρ w => Has ρ [(18, .int .i64 (k : Int)), (17, .int .i64 (l.length : Int)), (16, .slice (some ⟨bA, oA, none⟩) l.length c), (4, .map (some b15)), (0, .slice (some ⟨bA, oA, none⟩) l.length c), (7, .bool false)] ∧ Inv (fun _ => False) w0 w [B b6 41 #[.int .i64 p0, .int .i64 p1, .int .i64 p2, .int .i64 p3, .int .i64 p4, .int .i64 p5, .int .i64 p6, .int .i64 p7], MapKE okI kI b15 (mpF (wrB l) k)]) ?_ ?_
  · cases hwm : fdN (wrB l p3) k with
    | some j =>
      have hv : mpF (wrB l) k p3 = some (.int .i64 (j : Int)) := by unfold mpF; rw [hwm]; rfl
      refine W_seq ?_
      refine W_region ?_
      refine WL_val rfl rfl rfl (by first | exact rMoveM rfl rfl | exact rMove rfl) ?_
      refine WL_val rfl rfl rfl (by first | exact rFldN (off := 3) rfl (by kernel_rfl) rfl | exact rFld (off := 3) rfl (by kernel_rfl) rfl) ?_
      refine WL_val rfl rfl rfl (by first | exact rLd (v := .int .i64 _) rfl (by kernel_rfl) rfl (by first | exact hI.c0 rfl | exact hI.c1 rfl | exact hI.c2 rfl | exact hI.c3 rfl | exact hI.c4 rfl | exact hI.c5 rfl) | exact rLd rfl (by kernel_rfl) rfl (by first | exact hI.c0 rfl | exact hI.c1 rfl | exact hI.c2 rfl | exact hI.c3 rfl | exact hI.c4 rfl | exact hI.c5 rfl)) ?_
      refine WL_val rfl rfl rfl (rLookKY (a := p3) keyI hv rfl Tryd.underlying39 rfl rfl trivial hI.g1) ?_
      refine WL_val rfl rfl rfl (by first | exact rMoveT rfl rfl | exact rMove rfl) ?_
      refine WL_val rfl rfl rfl (rExtr rfl rfl rfl) ?_
      refine WL_val rfl rfl rfl (rExtr rfl rfl rfl) ?_
      refine WL_val rfl rfl rfl (by first | exact rAsgnI rfl rfl | exact rAsgn rfl) ?_
      refine WL_val rfl rfl rfl (by first | exact rAsgnB rfl rfl | exact rAsgn rfl) ?_
      refine WL_nil ?_
      refine W_seq ?_
      refine W_region ?_
      refine WL_val rfl rfl rfl (by first | exact rMoveB rfl rfl | exact rMove rfl) ?_
      refine WL_val rfl rfl rfl (by first | exact rMoveB rfl rfl | exact rMove rfl) ?_
      first | refine WL_val rfl rfl rfl (by first | exact rMoveB rfl rfl | exact rMove rfl) ?_ | refine WL_skip rfl rfl rfl ?_
      refine WL_val rfl rfl rfl (by first | exact rPickTB rfl rfl rfl | exact rPickFB rfl rfl rfl | exact rPickB rfl rfl rfl rfl) ?_
      refine WL_nil ?_
      refine W_cond false rfl ?_
      refine W_skip ?_
      exact ⟨⟨rfl, rfl, rfl, rfl, rfl, rfl, trivial⟩, hI⟩
    | none =>
      have hv : mpF (wrB l) k p3 = none := by unfold mpF; rw [hwm]; rfl
      refine W_seq ?_
      refine W_region ?_
      refine WL_val rfl rfl rfl (by first | exact rMoveM rfl rfl | exact rMove rfl) ?_
      refine WL_val rfl rfl rfl (by first | exact rFldN (off := 3) rfl (by kernel_rfl) rfl | exact rFld (off := 3) rfl (by kernel_rfl) rfl) ?_
      refine WL_val rfl rfl rfl (by first | exact rLd (v := .int .i64 _) rfl (by kernel_rfl) rfl (by first | exact hI.c0 rfl | exact hI.c1 rfl | exact hI.c2 rfl | exact hI.c3 rfl | exact hI.c4 rfl | exact hI.c5 rfl) | exact rLd rfl (by kernel_rfl) rfl (by first | exact hI.c0 rfl | exact hI.c1 rfl | exact hI.c2 rfl | exact hI.c3 rfl | exact hI.c4 rfl | exact hI.c5 rfl)) ?_
      refine WL_val rfl rfl rfl (rLookKN (a := p3) (zv := .int .i64 0) keyI hv rfl Tryd.underlying39 (by kernel_rfl) rfl rfl trivial hI.g1) ?_
      refine WL_val rfl rfl rfl (by first | exact rMoveT rfl rfl | exact rMove rfl) ?_
      refine WL_val rfl rfl rfl (rExtr rfl rfl rfl) ?_
      refine WL_val rfl rfl rfl (rExtr rfl rfl rfl) ?_
      refine WL_val rfl rfl rfl (by first | exact rAsgnI rfl rfl | exact rAsgn rfl) ?_
      refine WL_val rfl rfl rfl (by first | exact rAsgnB rfl rfl | exact rAsgn rfl) ?_
      refine WL_nil ?_
      refine W_seq ?_
      refine W_region ?_
      refine WL_val rfl rfl rfl (by first | exact rMoveB rfl rfl | exact rMove rfl) ?_
      refine WL_val rfl rfl rfl (by first | exact rMoveB rfl rfl | exact rMove rfl) ?_
      first | refine WL_val rfl rfl rfl (by first | exact rMoveB rfl rfl | exact rMove rfl) ?_ | refine WL_skip rfl rfl rfl ?_
      refine WL_val rfl rfl rfl (by first | exact rPickTB rfl rfl rfl | exact rPickFB rfl rfl rfl | exact rPickB rfl rfl rfl rfl) ?_
      refine WL_nil ?_
      refine W_cond false rfl ?_
      refine W_skip ?_
      exact ⟨⟨rfl, rfl, rfl, rfl, rfl, rfl, trivial⟩, hI⟩
  clear hI
  rintro ρ w ⟨hH, hI⟩
  obtain ⟨σ, rfl⟩ := hH.open
  refine W_seq ?_
  refine W_region ?_
  refine WL_val rfl rfl rfl (by first | exact rMoveB rfl rfl | exact rMove rfl) ?_
  refine WL_nil ?_
  refine W_cond false rfl ?_
  refine W_skip ?_
  rw [← hsame (fun v hv => by rw [hpb] at hv; simp [k9] at hv)] at hI
  replace hI := hI.d0
  refine W_region ?_
  refine WL_val rfl rfl rfl (by first | exact rInc rfl rfl rfl (by omega) | exact rAdd rfl rfl rfl (by omega) | exact rAddW rfl rfl rfl) ?_
  refine WL_val rfl rfl rfl (by first | exact rMoveI rfl rfl | exact rMove rfl) ?_
  refine WL_nil ?_
  exact ⟨l.length - (k + 1), by omega, k + 1, rfl, by omega, hsucc hg (fun h2 => absurd h2 k9), ⟨rfl, rfl, rfl, rfl, rfl, trivial⟩, hI⟩
end Go.Proofs.YtijgkocolajghaaDoor

/-! Zon2: slices.SortFunc at zones: few of them: put in their places one after the other. -/
namespace Go.Proofs.YtijgkocolajghaaDoor
open Go.RowKit
set_option linter.unusedVariables false
set_option linter.unusedSimpArgs false
structure Zn where
  v : Int
  lo : Int
  hi : Int
  fw : Bool
def znV (z : Zn) : List Value := [.int .i64 z.v, .int .i64 z.lo, .int .i64 z.hi, .bool z.fw]
def zAt (L : List Zn) (i : Nat) : Zn := L.getD i ⟨0, 0, 0, false⟩
theorem zAt_get {L : List Zn} {i : Nat} (h : i < L.length) : L[i]? = some (zAt L i) := by
  unfold zAt
  rw [List.getD_eq_getElem?_getD, List.getElem?_eq_getElem h]
  rfl
theorem zAt_mem {L : List Zn} {i : Nat} (h : i < L.length) : zAt L i ∈ L := List.mem_of_getElem? (zAt_get h)
theorem zAt_set {L : List Zn} {i j : Nat} {z : Zn} (h : i < L.length) : zAt (L.set i z) j = if j = i then z else zAt L j := by
  unfold zAt
  rw [List.getD_eq_getElem?_getD, List.getD_eq_getElem?_getD, List.getElem?_set]
  by_cases hj : i = j
  · subst hj
    rw [if_pos rfl, if_pos h, if_pos rfl]
    rfl
  · rw [if_neg hj, if_neg (fun e => hj e.symm)]
def zonC (L : List Zn) (junk : List Value) : Array Value := (L.flatMap znV ++ junk).toArray
theorem znsV_len (L : List Zn) : (L.flatMap znV).length = L.length * 4 := by
  induction L with
  | nil => rfl
  | cons z L ih => rw [List.flatMap_cons, List.length_append, ih]; simp [znV]; omega
theorem zonC_size (L : List Zn) (junk : List Value) : (zonC L junk).size = L.length * 4 + junk.length := by
  unfold zonC
  rw [List.size_toArray, List.length_append, znsV_len]
theorem zonC_get {L : List Zn} {junk : List Value} {i q : Nat} (hi : i < L.length) (hq : q < 4) : (zonC L junk)[i * 4 + q]? = (znV (zAt L i))[q]? := by
  unfold zonC
  rw [List.getElem?_toArray, List.getElem?_append_left (by rw [znsV_len]; omega)]
  exact flatN (s := 4) (fun _ => rfl) L i _ (zAt_get hi) q hq
theorem zon_at {L : List Zn} {junk : List Value} {g T : Nat} {w : World} (h : Blk w g T (zonC L junk)) {i : Nat} (hi : i < L.length) {z : Zn} (hz : zAt L i = z) : ∀ (q : Nat) (u : Value), (znV z)[q]? = some u → w.cell? ⟨g, 0 + i * 4 + q, none⟩ = some u := by
  intro q u hq
  subst hz
  have hq4 : q < 4 := (List.getElem?_eq_some_iff.1 hq).1
  rw [Nat.zero_add, h.cell, zonC_get hi hq4]
  exact hq
theorem zon_set {L : List Zn} {junk : List Value} {i : Nat} {z : Zn} {vs : List Value} (hi : i < L.length) (hv : vs = znV z) : splice (zonC L junk) (0 + i * 4) vs = zonC (L.set i z) junk := by
  subst hv
  have hs := zonC_size L junk
  have hl : (znV z).length = 4 := rfl
  apply Array.ext'
  apply List.ext_getElem?
  intro c
  rw [Array.getElem?_toList, Array.getElem?_toList, splice_get _ _ _ _ (by rw [hl]; omega), Nat.zero_add, hl]
  have hs2 := zonC_size (L.set i z) junk
  rw [List.length_set] at hs2
  by_cases hc : c < L.length * 4
  · have hd : c = c / 4 * 4 + c % 4 := by omega
    have hm : c % 4 < 4 := by omega
    have hk : c / 4 < L.length := by omega
    generalize c / 4 = k at hd hk
    generalize c % 4 = q at hd hm
    subst hd
    rw [zonC_get hk hm, zonC_get (L := L.set i z) (by rw [List.length_set]; exact hk) hm, zAt_set hi]
    by_cases hki : k = i
    · subst hki
      rw [if_pos (by omega), if_pos rfl, show k * 4 + q - k * 4 = q by omega]
    · rw [if_neg (by omega), if_neg hki]
  · rw [if_neg (by omega)]
    unfold zonC
    rw [List.getElem?_toArray, List.getElem?_toArray, List.getElem?_append_right (by rw [znsV_len]; omega), List.getElem?_append_right (by rw [znsV_len, List.length_set]; omega), znsV_len, znsV_len, List.length_set]
theorem zcmp_any (a b : Zn) (w0 : World) (ha : -2 ≤ a.lo ∧ a.lo ≤ 1000000) (hb : -2 ≤ b.lo ∧ b.lo ≤ 1000000) : Calls Tryd.prog 28 #[.agg (znV a).toArray, .agg (znV b).toArray] w0 fun e w' => e = .returned (.int .i64 (a.lo - b.lo)) ∧ Pure w0 w' := by
  obtain ⟨a0, a1, a2, a3⟩ := a
  obtain ⟨b0, b1, b2, b3⟩ := b
  simp only at ha hb
  simp only [znV]
  have hI := Inv.start (fun _ => False) w0
  refine calls_of_W (N := Tryd.f28.ntmps) Tryd.func28 rfl rfl rfl ?_
  refine W_seq ?_
  refine W_region ?_
  refine WL_box (u := .agg _) (vs := #[_, _, _, _]) hI rfl rfl rfl rfl rfl rfl ?_
  clear hI; rintro b2 w - - hI
  refine WL_box (u := .agg _) (vs := #[_, _, _, _]) hI rfl rfl rfl rfl rfl rfl ?_
  clear hI; rintro b3 w - - hI
  refine WL_val rfl rfl rfl (by first | exact rAsgnI rfl rfl | exact rAsgn rfl) ?_
  refine WL_nil ?_
  refine W_seq ?_
  refine W_region ?_
  refine WL_val rfl rfl rfl (by first | exact rFldN (off := 1) rfl (by kernel_rfl) rfl | exact rFld (off := 1) rfl (by kernel_rfl) rfl) ?_
  refine WL_val rfl rfl rfl (by first | exact rLd (v := .int .i64 _) rfl (by kernel_rfl) rfl (by first | exact hI.c0 rfl | exact hI.c1 rfl | exact hI.c2 rfl | exact hI.c3 rfl | exact hI.c4 rfl | exact hI.c5 rfl) | exact rLd rfl (by kernel_rfl) rfl (by first | exact hI.c0 rfl | exact hI.c1 rfl | exact hI.c2 rfl | exact hI.c3 rfl | exact hI.c4 rfl | exact hI.c5 rfl)) ?_
  refine WL_val rfl rfl rfl (by first | exact rFldN (off := 1) rfl (by kernel_rfl) rfl | exact rFld (off := 1) rfl (by kernel_rfl) rfl) ?_
  refine WL_val rfl rfl rfl (by first | exact rLd (v := .int .i64 _) rfl (by kernel_rfl) rfl (by first | exact hI.c0 rfl | exact hI.c1 rfl | exact hI.c2 rfl | exact hI.c3 rfl | exact hI.c4 rfl | exact hI.c5 rfl) | exact rLd rfl (by kernel_rfl) rfl (by first | exact hI.c0 rfl | exact hI.c1 rfl | exact hI.c2 rfl | exact hI.c3 rfl | exact hI.c4 rfl | exact hI.c5 rfl)) ?_
  refine WL_val rfl rfl rfl (rSub rfl rfl rfl (by omega)) ?_
  refine WL_val rfl rfl rfl (by first | exact rAsgnI rfl rfl | exact rAsgn rfl) ?_
  refine WL_nil ?_
  refine W_ret ?_
  exact ret1 4 (.inr rfl) rfl ⟨rfl, hI.pu⟩
/-- In order up to k. -/
def SoTo (L : List Zn) (k : Nat) : Prop := ∀ p q, p < q → q < k → (zAt L p).lo ≤ (zAt L q).lo
/-- In order up to k, but for what stands at j and may be too far behind. -/
def SoBut (L : List Zn) (k j : Nat) : Prop := ∀ p q, p < q → q < k → q ≠ j → (zAt L p).lo ≤ (zAt L q).lo
theorem SoTo.but {L : List Zn} {k : Nat} (h : SoTo L k) : SoBut L (k + 1) k := fun p q hpq hq hne => h p q hpq (by omega)
theorem SoBut.done {L : List Zn} {k j : Nat} (h : SoBut L k j) (hj : j = 0 ∨ (zAt L (j - 1)).lo ≤ (zAt L j).lo) : SoTo L k := by
  intro p q hpq hq
  by_cases hqj : q = j
  · subst hqj
    rcases hj with hj | hj
    · omega
    · by_cases hp : p = q - 1
      · subst hp; exact hj
      · exact Int.le_trans (h p (q - 1) (by omega) (by omega) (by omega)) hj
  · exact h p q hpq hq hqj
theorem SoBut.swap {L : List Zn} {k m : Nat} (h : SoBut L k (m + 1)) (hk : k ≤ L.length) (hm : m + 1 < k) (hlt : (zAt L (m + 1)).lo < (zAt L m).lo) : SoBut ((L.set (m + 1) (zAt L m)).set m (zAt L (m + 1))) k m := by
  intro p q hpq hq hne
  have e : ∀ x, zAt ((L.set (m + 1) (zAt L m)).set m (zAt L (m + 1))) x = if x = m then zAt L (m + 1) else if x = m + 1 then zAt L m else zAt L x := fun x => by
    rw [zAt_set (by rw [List.length_set]; omega), zAt_set (by omega)]
  rw [e, e]
  rw [if_neg hne]
  by_cases hq1 : q = m + 1
  · rw [if_pos hq1]
    by_cases hp : p = m
    · rw [if_pos hp]; omega
    · rw [if_neg hp, if_neg (by omega)]
      exact h p m (by omega) (by omega) (by omega)
  · rw [if_neg hq1]
    by_cases hp : p = m
    · rw [if_pos hp]
      exact h (m + 1) q (by omega) hq hq1
    · rw [if_neg hp]
      by_cases hp1 : p = m + 1
      · rw [if_pos hp1]
        exact h m q (by omega) hq hq1
      · rw [if_neg hp1]
        exact h p q hpq hq hq1
theorem swap_perm {L : List Zn} {i j : Nat} (hi : i < L.length) (hj : j < L.length) : ((L.set i (zAt L j)).set j (zAt L i)).Perm L := by
  have h := @List.set_set_perm _ L i j hi hj
  have e : ∀ {k : Nat} (hk : k < L.length), zAt L k = L[k] := fun {k} hk => by
    have := zAt_get hk
    rw [List.getElem?_eq_getElem hk] at this
    injection this with this
    exact this.symm
  rw [e hi, e hj]
  exact h
theorem SoTo.pair {L : List Zn} {k : Nat} (h : SoTo L k) (hk : L.length ≤ k) : L.Pairwise fun a b => a.lo ≤ b.lo := by
  rw [List.pairwise_iff_getElem]
  intro i j hi hj hij
  have := h i j hij (by omega)
  have e : ∀ {k : Nat} (hk : k < L.length), zAt L k = L[k] := fun {k} hk => by
    have := zAt_get hk
    rw [List.getElem?_eq_getElem hk] at this
    injection this with this
    exact this.symm
  rwa [e hi, e hj] at this
abbrev cmpV : Value := .func (.func 28) #[] #[]
def SortPost (S : Nat → Prop) (w0 : World) (g : Nat) (L0 : List Zn) (junk : List Value) (e : Ending) (w' : World) : Prop :=
  e = .returned (.tuple #[]) ∧ ∃ L', L'.Perm L0 ∧ (L'.Pairwise fun a b => a.lo ≤ b.lo) ∧ Inv S w0 w' [B g 54 (zonC L' junk)]
set_option maxHeartbeats 4000000 in
theorem isort_any (g n c : Nat) (L0 : List Zn) (junk : List Value) (S : Nat → Prop) (w0 : World) (hn : L0.length = n) (hb : ∀ z ∈ L0, -2 ≤ z.lo ∧ z.lo ≤ 1000000) (hl : n ≤ 1000) (hI : Inv S w0 w0 [B g 54 (zonC L0 junk)]) :
    Calls Tryd.prog 53 #[.slice (some ⟨g, 0, none⟩) n c, .int .i64 0, .int .i64 (n : Int), cmpV] w0 (SortPost S w0 g L0 junk) := by
  refine calls_of_W (N := Tryd.f53.ntmps) Tryd.func53 rfl rfl rfl ?_
  refine W_seq ?_
  refine W_region ?_
  refine WL_val rfl rfl rfl (by first | exact rMoveI rfl rfl | exact rMove rfl) ?_
  refine WL_val rfl rfl rfl (by first | exact rInc rfl rfl rfl (by omega) | exact rAdd rfl rfl rfl (by omega) | exact rAddW rfl rfl rfl) ?_
  refine WL_val rfl rfl rfl (by first | exact rAsgnI rfl rfl | exact rAsgn rfl) ?_
  refine WL_nil ?_
  refine W_block ?_
  refine W_loopN (fun mu ρ w => ∃ (k : Nat) (L : List Zn), mu = n + 1 - k ∧ 1 ≤ k ∧ (k ≤ n ∨ k = 1) ∧ L.Perm L0 ∧ SoTo L k ∧ Has ρ [(8, .int .i64 (k : Int)), (0, .slice (some ⟨g, 0, none⟩) n c), (1, .int .i64 0), (2, .int .i64 (n : Int)), (3, cmpV)] ∧ Inv S w0 w [B g 54 (zonC L junk)]) n
    ⟨1, L0, by omega, by omega, .inr rfl, List.Perm.refl _, fun p q _ _ => by omega, ⟨rfl, rfl, rfl, rfl, rfl, trivial⟩, hI⟩ ?_
  clear hI
  rintro mu ρ w ⟨k, L, rfl, hk1, hk, hp, hso, hH, hI⟩
  obtain ⟨σ, rfl⟩ := hH.open
  have hLn : L.length = n := hp.length_eq.trans hn
  have hbL : ∀ i, i < n → -2 ≤ (zAt L i).lo ∧ (zAt L i).lo ≤ 1000000 := fun i hi => hb _ (hp.mem_iff.1 (zAt_mem (by omega)))
  by_cases hkn : k < n
  rotate_left
  · refine W_seq ?_
    refine W_seq ?_
    refine W_region ?_
    refine WL_val rfl rfl rfl (by first | exact rMoveI rfl rfl | exact rMove rfl) ?_
    refine WL_val rfl rfl rfl (by first | exact rMoveI rfl rfl | exact rMove rfl) ?_
    refine WL_val rfl rfl rfl (by first | exact rLssT rfl rfl rfl (by omega) | exact rLssF rfl rfl rfl (by omega) | exact rLss rfl rfl rfl) ?_
    refine WL_nil ?_
    refine W_cond false rfl ?_
    refine W_exit ?_
    exact ret0 (.inl rfl) rfl ⟨rfl, L, hp, hso.pair (by omega), hI⟩
  refine W_seq ?_
  refine W_seq ?_
  refine W_region ?_
  refine WL_val rfl rfl rfl (by first | exact rMoveI rfl rfl | exact rMove rfl) ?_
  refine WL_val rfl rfl rfl (by first | exact rMoveI rfl rfl | exact rMove rfl) ?_
  refine WL_val rfl rfl rfl (by first | exact rLssT rfl rfl rfl (by omega) | exact rLssF rfl rfl rfl (by omega) | exact rLss rfl rfl rfl) ?_
  refine WL_nil ?_
  refine W_cond true rfl ?_
  refine W_skip ?_
  refine W_seq ?_
  refine W_block ?_
  refine W_seq ?_
  refine W_region ?_
  refine WL_val rfl rfl rfl (by first | exact rMoveI rfl rfl | exact rMove rfl) ?_
  refine WL_val rfl rfl rfl (by first | exact rAsgnI rfl rfl | exact rAsgn rfl) ?_
  refine WL_nil ?_
  refine W_block ?_
  refine W_loopN (fun mu ρ w => ∃ (j : Nat) (L : List Zn), mu = j ∧ j ≤ k ∧ L.Perm L0 ∧ SoBut L (k + 1) j ∧ Has ρ [(9, .int .i64 (j : Int)), (8, .int .i64 (k : Int)), (0, .slice (some ⟨g, 0, none⟩) n c), (1, .int .i64 0), (2, .int .i64 (n : Int)), (3, cmpV)] ∧ Inv S w0 w [B g 54 (zonC L junk)]) k
    ⟨k, L, rfl, by omega, hp, hso.but, ⟨rfl, rfl, rfl, rfl, rfl, rfl, trivial⟩, hI⟩ ?_
  clear hI hp hso hLn hbL
  clear L
  rintro j ρ w ⟨_, L, rfl, hjk, hp, hso, hH, hI⟩
  obtain ⟨σ, rfl⟩ := hH.open
  have hLn : L.length = n := hp.length_eq.trans hn
  have hbL : ∀ i, i < n → -2 ≤ (zAt L i).lo ∧ (zAt L i).lo ≤ 1000000 := fun i hi => hb _ (hp.mem_iff.1 (zAt_mem (by omega)))
  by_cases hj0 : j = 0
  · subst hj0
    refine W_seq ?_
    refine W_seq ?_
    refine W_draw (by kernel_rfl) ?_
    refine WA_inv (T := []) hI.drew ?_
    intro Sx hSx hXS
    replace hI := hI.drew
    refine WT_take 0 rfl rfl (by kernel_rfl) (hXS _ hI) rfl (fun W hW => have hI := hSx W hW; (by first | exact rMoveI rfl rfl | exact rMove rfl)) ?_
    refine WT_take 1 rfl rfl (by kernel_rfl) (hXS _ hI) rfl (fun W hW => have hI := hSx W hW; (by first | exact rMoveI rfl rfl | exact rMove rfl)) ?_
    refine WT_take 2 rfl rfl (by kernel_rfl) (hXS _ hI) rfl (fun W hW => have hI := hSx W hW; (by first | exact rGtrT rfl rfl rfl (by omega) | exact rGtrF rfl rfl rfl (by omega) | exact rGtr rfl rfl rfl)) ?_
    refine WT_take 3 rfl rfl (by kernel_rfl) (hXS _ hI) rfl (fun W hW => have hI := hSx W hW; (by first | exact rMoveB rfl rfl | exact rMove rfl)) ?_
    refine WT_skip 4 rfl rfl (by kernel_rfl) (hXS _ hI) rfl ?_
    refine WT_skip 5 rfl rfl (by kernel_rfl) (hXS _ hI) rfl ?_
    refine WT_skip 6 rfl rfl (by kernel_rfl) (hXS _ hI) rfl ?_
    refine WT_skip 7 rfl rfl (by kernel_rfl) (hXS _ hI) rfl ?_
    refine WT_skip 8 rfl rfl (by kernel_rfl) (hXS _ hI) rfl ?_
    refine WT_skip 9 rfl rfl (by kernel_rfl) (hXS _ hI) rfl ?_
    refine WT_skip 10 rfl rfl (by kernel_rfl) (hXS _ hI) rfl ?_
    refine WT_skip 11 rfl rfl (by kernel_rfl) (hXS _ hI) rfl ?_
    refine WT_skip 12 rfl rfl (by kernel_rfl) (hXS _ hI) rfl ?_
    refine WT_skip 13 rfl rfl (by kernel_rfl) (hXS _ hI) rfl ?_
    refine WT_skip 14 rfl rfl (by kernel_rfl) (hXS _ hI) rfl ?_
    refine WT_skip 15 rfl rfl (by kernel_rfl) (hXS _ hI) rfl ?_
    refine WT_take 16 rfl rfl (by kernel_rfl) (hXS _ hI) rfl (fun W hW => have hI := hSx W hW; (by first | exact rPickTB rfl rfl rfl | exact rPickFB rfl rfl rfl | exact rPickB rfl rfl rfl rfl)) ?_
    refine WT_end (by kernel_rfl) ?_
    refine W_cond false rfl ?_
    refine W_exit ?_
    refine W_region ?_
    refine WL_val rfl rfl rfl (by first | exact rMoveI rfl rfl | exact rMove rfl) ?_
    refine WL_val rfl rfl rfl (by first | exact rInc rfl rfl rfl (by omega) | exact rAdd rfl rfl rfl (by omega) | exact rAddW rfl rfl rfl) ?_
    refine WL_val rfl rfl rfl (by first | exact rAsgnI rfl rfl | exact rAsgn rfl) ?_
    refine WL_nil ?_
    exact ⟨n + 1 - (k + 1), by omega, k + 1, L, rfl, by omega, .inl (by omega), hp, hso.done (.inl rfl), ⟨rfl, rfl, rfl, rfl, rfl, trivial⟩, hI⟩
  obtain ⟨m, rfl⟩ : ∃ m, j = m + 1 := ⟨j - 1, by omega⟩
  have hb1 := hbL (m + 1) (by omega)
  have hb2 := hbL m (by omega)
  have hm1 : m + 1 < L.length := by omega
  have hm0 : m < L.length := by omega
  by_cases hlt : (zAt L (m + 1)).lo < (zAt L m).lo
  · refine W_seq ?_
    refine W_seq ?_
    refine W_draw (by kernel_rfl) ?_
    refine WA_inv (T := [14]) hI.drew ?_
    intro Sx hSx hXS
    replace hI := hI.drew
    refine WT_take 0 rfl rfl (by kernel_rfl) (hXS _ hI) rfl (fun W hW => have hI := hSx W hW; (by first | exact rMoveI rfl rfl | exact rMove rfl)) ?_
    refine WT_take 1 rfl rfl (by kernel_rfl) (hXS _ hI) rfl (fun W hW => have hI := hSx W hW; (by first | exact rMoveI rfl rfl | exact rMove rfl)) ?_
    refine WT_take 2 rfl rfl (by kernel_rfl) (hXS _ hI) rfl (fun W hW => have hI := hSx W hW; (by first | exact rGtrT rfl rfl rfl (by omega) | exact rGtrF rfl rfl rfl (by omega) | exact rGtr rfl rfl rfl)) ?_
    refine WT_take 3 rfl rfl (by kernel_rfl) (hXS _ hI) rfl (fun W hW => have hI := hSx W hW; (by first | exact rMoveB rfl rfl | exact rMove rfl)) ?_
    first | refine WT_take 4 rfl rfl (by kernel_rfl) (hXS _ hI) rfl (fun W hW => have hI := hSx W hW; (by first | exact rMoveF rfl rfl | exact rMove rfl)) ?_ | refine WT_skip 4 rfl rfl (by kernel_rfl) (hXS _ hI) rfl ?_
    first | refine WT_take 5 rfl rfl (by kernel_rfl) (hXS _ hI) rfl (fun W hW => have hI := hSx W hW; (by first | exact rMoveS rfl rfl | exact rMove rfl)) ?_ | refine WT_skip 5 rfl rfl (by kernel_rfl) (hXS _ hI) rfl ?_
    first | refine WT_take 6 rfl rfl (by kernel_rfl) (hXS _ hI) rfl (fun W hW => have hI := hSx W hW; (by first | exact rMoveI rfl rfl | exact rMove rfl)) ?_ | refine WT_skip 6 rfl rfl (by kernel_rfl) (hXS _ hI) rfl ?_
    first | refine WT_take 7 rfl rfl (by kernel_rfl) (hXS _ hI) rfl (fun W hW => have hI := hSx W hW; (rIdx (sz := 4) (i := m + 1) rfl Tryd.underlying50 (by kernel_rfl) rfl rfl (by omega))) ?_ | refine WT_skip 7 rfl rfl (by kernel_rfl) (hXS _ hI) rfl ?_
    first | refine WT_take 8 rfl rfl (by kernel_rfl) (hXS _ hI) rfl (fun W hW => have hI := hSx W hW; (by first | exact rLdB (n := 4) rfl (by kernel_rfl) (by kernel_rfl) rfl rfl hI.g0 | exact rLdA (n := 4) rfl (by kernel_rfl) (by kernel_rfl) rfl (by rfl) (fun k u hk => hI.oldp ((zon_at hI.g0 hm1 rfl) k u hk)) | exact rLdA (n := 4) rfl (by kernel_rfl) (by kernel_rfl) rfl (by rfl) (zon_at hI.g0 hm1 rfl) | exact rLdA (n := 4) rfl (by kernel_rfl) (by kernel_rfl) rfl (by rfl) (fun k u hk => hI.oldp ((zon_at hI.g0 hm0 rfl) k u hk)) | exact rLdA (n := 4) rfl (by kernel_rfl) (by kernel_rfl) rfl (by rfl) (zon_at hI.g0 hm0 rfl) | exact rLd4 rfl (by kernel_rfl) (by kernel_rfl) rfl (by first | exact hI.c0 rfl) (by first | exact hI.c0 rfl) (by first | exact hI.c0 rfl) (by first | exact hI.c0 rfl))) ?_ | refine WT_skip 8 rfl rfl (by kernel_rfl) (hXS _ hI) rfl ?_
    first | refine WT_take 9 rfl rfl (by kernel_rfl) (hXS _ hI) rfl (fun W hW => have hI := hSx W hW; (by first | exact rMoveS rfl rfl | exact rMove rfl)) ?_ | refine WT_skip 9 rfl rfl (by kernel_rfl) (hXS _ hI) rfl ?_
    first | refine WT_take 10 rfl rfl (by kernel_rfl) (hXS _ hI) rfl (fun W hW => have hI := hSx W hW; (by first | exact rMoveI rfl rfl | exact rMove rfl)) ?_ | refine WT_skip 10 rfl rfl (by kernel_rfl) (hXS _ hI) rfl ?_
    first | refine WT_take 11 rfl rfl (by kernel_rfl) (hXS _ hI) rfl (fun W hW => have hI := hSx W hW; (rDecN (b := 1) rfl rfl rfl (by omega) (by omega))) ?_ | refine WT_skip 11 rfl rfl (by kernel_rfl) (hXS _ hI) rfl ?_
    first | refine WT_take 12 rfl rfl (by kernel_rfl) (hXS _ hI) rfl (fun W hW => have hI := hSx W hW; (rIdx (sz := 4) (i := m) rfl Tryd.underlying50 (by kernel_rfl) rfl rfl (by omega))) ?_ | refine WT_skip 12 rfl rfl (by kernel_rfl) (hXS _ hI) rfl ?_
    first | refine WT_take 13 rfl rfl (by kernel_rfl) (hXS _ hI) rfl (fun W hW => have hI := hSx W hW; (by first | exact rLdB (n := 4) rfl (by kernel_rfl) (by kernel_rfl) rfl rfl hI.g0 | exact rLdA (n := 4) rfl (by kernel_rfl) (by kernel_rfl) rfl (by rfl) (fun k u hk => hI.oldp ((zon_at hI.g0 hm1 rfl) k u hk)) | exact rLdA (n := 4) rfl (by kernel_rfl) (by kernel_rfl) rfl (by rfl) (zon_at hI.g0 hm1 rfl) | exact rLdA (n := 4) rfl (by kernel_rfl) (by kernel_rfl) rfl (by rfl) (fun k u hk => hI.oldp ((zon_at hI.g0 hm0 rfl) k u hk)) | exact rLdA (n := 4) rfl (by kernel_rfl) (by kernel_rfl) rfl (by rfl) (zon_at hI.g0 hm0 rfl) | exact rLd4 rfl (by kernel_rfl) (by kernel_rfl) rfl (by first | exact hI.c0 rfl) (by first | exact hI.c0 rfl) (by first | exact hI.c0 rfl) (by first | exact hI.c0 rfl))) ?_ | refine WT_skip 13 rfl rfl (by kernel_rfl) (hXS _ hI) rfl ?_
    refine WT_A (by kernel_rfl) ?_
    clear hXS hSx
    refine WA_one 14 rfl (by kernel_rfl) ?_
    refine WL_call rfl rfl rfl (rCallF (f := 28) (first := []) (cap := []) (vs := [.agg (znV (zAt L (m + 1))).toArray, .agg (znV (zAt L m)).toArray]) rfl rfl Tryd.func28 rfl rfl rfl) ?_
    refine (zcmp_any _ _ _ hb1 hb2).mono ?_
    rintro e w1 ⟨rfl, hpu⟩
    refine ⟨_, rfl, ?_⟩
    replace hI := hI.pure hpu
    refine WL_nil ?_
    refine WA_one 15 rfl (by kernel_rfl) ?_
    first | refine WL_val rfl rfl rfl (by first | exact rLssT rfl rfl rfl (by omega) | exact rLssF rfl rfl rfl (by omega) | exact rLss rfl rfl rfl) ?_ | refine WL_skip rfl rfl rfl ?_
    refine WL_nil ?_
    refine WA_one 16 rfl (by kernel_rfl) ?_
    refine WL_val rfl rfl rfl (by first | exact rPickTB rfl rfl rfl | exact rPickFB rfl rfl rfl | exact rPickB rfl rfl rfl rfl) ?_
    refine WL_nil ?_
    refine WA_end (by kernel_rfl) ?_
    refine W_cond true rfl ?_
    refine W_skip ?_
    refine W_seq ?_
    refine W_block ?_
    refine W_draw (by kernel_rfl) ?_
    refine WA_inv (T := [17]) hI.d0.drew ?_
    intro Sx hSx hXS
    replace hI := hI.drew
    refine WT_take 0 rfl rfl (by kernel_rfl) (hXS _ hI.d0) rfl (fun W hW => have hI := hSx W hW; (by first | exact rMoveS rfl rfl | exact rMove rfl)) ?_
    refine WT_take 1 rfl rfl (by kernel_rfl) (hXS _ hI.d0) rfl (fun W hW => have hI := hSx W hW; (by first | exact rMoveI rfl rfl | exact rMove rfl)) ?_
    refine WT_take 2 rfl rfl (by kernel_rfl) (hXS _ hI.d0) rfl (fun W hW => have hI := hSx W hW; (by first | exact rMoveS rfl rfl | exact rMove rfl)) ?_
    refine WT_take 3 rfl rfl (by kernel_rfl) (hXS _ hI.d0) rfl (fun W hW => have hI := hSx W hW; (by first | exact rMoveI rfl rfl | exact rMove rfl)) ?_
    refine WT_take 4 rfl rfl (by kernel_rfl) (hXS _ hI.d0) rfl (fun W hW => have hI := hSx W hW; (rDecN (b := 1) rfl rfl rfl (by omega) (by omega))) ?_
    refine WT_take 5 rfl rfl (by kernel_rfl) (hXS _ hI.d0) rfl (fun W hW => have hI := hSx W hW; (by first | exact rMoveS rfl rfl | exact rMove rfl)) ?_
    refine WT_take 6 rfl rfl (by kernel_rfl) (hXS _ hI.d0) rfl (fun W hW => have hI := hSx W hW; (by first | exact rMoveI rfl rfl | exact rMove rfl)) ?_
    refine WT_take 7 rfl rfl (by kernel_rfl) (hXS _ hI.d0) rfl (fun W hW => have hI := hSx W hW; (rDecN (b := 1) rfl rfl rfl (by omega) (by omega))) ?_
    refine WT_take 8 rfl rfl (by kernel_rfl) (hXS _ hI.d0) rfl (fun W hW => have hI := hSx W hW; (rIdx (sz := 4) (i := m) rfl Tryd.underlying50 (by kernel_rfl) rfl rfl (by omega))) ?_
    refine WT_take 10 rfl rfl (by kernel_rfl) (hXS _ hI.d0) rfl (fun W hW => have hI := hSx W hW; (by first | exact rMoveS rfl rfl | exact rMove rfl)) ?_
    refine WT_take 11 rfl rfl (by kernel_rfl) (hXS _ hI.d0) rfl (fun W hW => have hI := hSx W hW; (by first | exact rMoveI rfl rfl | exact rMove rfl)) ?_
    refine WT_take 12 rfl rfl (by kernel_rfl) (hXS _ hI.d0) rfl (fun W hW => have hI := hSx W hW; (rIdx (sz := 4) (i := m + 1) rfl Tryd.underlying50 (by kernel_rfl) rfl rfl (by omega))) ?_
    refine WT_two 9 13 rfl rfl (by kernel_rfl) rfl rfl ?_ ?_
    · refine WL_val rfl rfl rfl (by first | exact rLdB (n := 4) rfl (by kernel_rfl) (by kernel_rfl) rfl rfl hI.g0 | exact rLdA (n := 4) rfl (by kernel_rfl) (by kernel_rfl) rfl (by rfl) (fun k u hk => hI.oldp ((zon_at hI.g0 hm1 rfl) k u hk)) | exact rLdA (n := 4) rfl (by kernel_rfl) (by kernel_rfl) rfl (by rfl) (zon_at hI.g0 hm1 rfl) | exact rLdA (n := 4) rfl (by kernel_rfl) (by kernel_rfl) rfl (by rfl) (fun k u hk => hI.oldp ((zon_at hI.g0 hm0 rfl) k u hk)) | exact rLdA (n := 4) rfl (by kernel_rfl) (by kernel_rfl) rfl (by rfl) (zon_at hI.g0 hm0 rfl) | exact rLd4 rfl (by kernel_rfl) (by kernel_rfl) rfl (by first | exact hI.c0 rfl) (by first | exact hI.c0 rfl) (by first | exact hI.c0 rfl) (by first | exact hI.c0 rfl)) ?_
      refine WL_nil ⟨hXS _ hI.d0, ?_⟩
      refine WT_one 13 rfl (by kernel_rfl) rfl ?_
      refine WL_val rfl rfl rfl (by first | exact rLdB (n := 4) rfl (by kernel_rfl) (by kernel_rfl) rfl rfl hI.g0 | exact rLdA (n := 4) rfl (by kernel_rfl) (by kernel_rfl) rfl (by rfl) (fun k u hk => hI.oldp ((zon_at hI.g0 hm1 rfl) k u hk)) | exact rLdA (n := 4) rfl (by kernel_rfl) (by kernel_rfl) rfl (by rfl) (zon_at hI.g0 hm1 rfl) | exact rLdA (n := 4) rfl (by kernel_rfl) (by kernel_rfl) rfl (by rfl) (fun k u hk => hI.oldp ((zon_at hI.g0 hm0 rfl) k u hk)) | exact rLdA (n := 4) rfl (by kernel_rfl) (by kernel_rfl) rfl (by rfl) (zon_at hI.g0 hm0 rfl) | exact rLd4 rfl (by kernel_rfl) (by kernel_rfl) rfl (by first | exact hI.c0 rfl) (by first | exact hI.c0 rfl) (by first | exact hI.c0 rfl) (by first | exact hI.c0 rfl)) ?_
      refine WL_nil ⟨hXS _ hI.d0, ?_⟩
      refine WT_take 14 rfl rfl (by kernel_rfl) (hXS _ hI.d0) rfl (fun W hW => have hI := hSx W hW; (rIdx (sz := 4) (i := m + 1) rfl Tryd.underlying50 (by kernel_rfl) rfl rfl (by omega))) ?_
      refine WT_one 15 rfl (by kernel_rfl) rfl ?_
      refine WL_stA (u := .agg (znV (zAt L m)).toArray) (vs := (znV (zAt L m)).toArray) (n := 4) 0 rfl hI rfl rfl rfl rfl rfl rfl (by kernel_rfl) rfl (by rw [zonC_size]; omega) rfl (zon_set hm1 rfl) ?_
      clear hI; intro w hI
      refine WL_nil ⟨hXS _ hI.d0, ?_⟩
      refine WT_take 16 rfl rfl (by kernel_rfl) (hXS _ hI.d0) rfl (fun W hW => have hI := hSx W hW; (rIdx (sz := 4) (i := m) rfl Tryd.underlying50 (by kernel_rfl) rfl rfl (by omega))) ?_
      refine WT_A (by kernel_rfl) ?_
      clear hXS hSx
      refine WA_one 17 rfl (by kernel_rfl) ?_
      refine WL_stA (u := .agg (znV (zAt L (m + 1))).toArray) (vs := (znV (zAt L (m + 1))).toArray) (n := 4) 0 rfl hI rfl rfl rfl rfl rfl rfl (by kernel_rfl) rfl (by rw [zonC_size, List.length_set]; omega) rfl (zon_set (by rw [List.length_set]; exact hm0) rfl) ?_
      clear hI; intro w hI
      refine WL_nil ?_
      refine WA_end (by kernel_rfl) ?_
      refine W_region ?_
      refine WL_val rfl rfl rfl (by first | exact rMoveI rfl rfl | exact rMove rfl) ?_
      refine WL_val rfl rfl rfl (rDecN (b := 1) rfl rfl rfl (by omega) (by omega)) ?_
      refine WL_val rfl rfl rfl (by first | exact rAsgnI rfl rfl | exact rAsgn rfl) ?_
      refine WL_nil ?_
      exact ⟨m, by omega, m, _, rfl, by omega, (swap_perm hm1 hm0).trans hp, hso.swap (by omega) (by omega) hlt, ⟨rfl, rfl, rfl, rfl, rfl, rfl, trivial⟩, hI⟩
    · refine WL_val rfl rfl rfl (by first | exact rLdB (n := 4) rfl (by kernel_rfl) (by kernel_rfl) rfl rfl hI.g0 | exact rLdA (n := 4) rfl (by kernel_rfl) (by kernel_rfl) rfl (by rfl) (fun k u hk => hI.oldp ((zon_at hI.g0 hm1 rfl) k u hk)) | exact rLdA (n := 4) rfl (by kernel_rfl) (by kernel_rfl) rfl (by rfl) (zon_at hI.g0 hm1 rfl) | exact rLdA (n := 4) rfl (by kernel_rfl) (by kernel_rfl) rfl (by rfl) (fun k u hk => hI.oldp ((zon_at hI.g0 hm0 rfl) k u hk)) | exact rLdA (n := 4) rfl (by kernel_rfl) (by kernel_rfl) rfl (by rfl) (zon_at hI.g0 hm0 rfl) | exact rLd4 rfl (by kernel_rfl) (by kernel_rfl) rfl (by first | exact hI.c0 rfl) (by first | exact hI.c0 rfl) (by first | exact hI.c0 rfl) (by first | exact hI.c0 rfl)) ?_
      refine WL_nil ⟨hXS _ hI.d0, ?_⟩
      refine WT_one 9 rfl (by kernel_rfl) rfl ?_
      refine WL_val rfl rfl rfl (by first | exact rLdB (n := 4) rfl (by kernel_rfl) (by kernel_rfl) rfl rfl hI.g0 | exact rLdA (n := 4) rfl (by kernel_rfl) (by kernel_rfl) rfl (by rfl) (fun k u hk => hI.oldp ((zon_at hI.g0 hm1 rfl) k u hk)) | exact rLdA (n := 4) rfl (by kernel_rfl) (by kernel_rfl) rfl (by rfl) (zon_at hI.g0 hm1 rfl) | exact rLdA (n := 4) rfl (by kernel_rfl) (by kernel_rfl) rfl (by rfl) (fun k u hk => hI.oldp ((zon_at hI.g0 hm0 rfl) k u hk)) | exact rLdA (n := 4) rfl (by kernel_rfl) (by kernel_rfl) rfl (by rfl) (zon_at hI.g0 hm0 rfl) | exact rLd4 rfl (by kernel_rfl) (by kernel_rfl) rfl (by first | exact hI.c0 rfl) (by first | exact hI.c0 rfl) (by first | exact hI.c0 rfl) (by first | exact hI.c0 rfl)) ?_
      refine WL_nil ⟨hXS _ hI.d0, ?_⟩
      refine WT_take 14 rfl rfl (by kernel_rfl) (hXS _ hI.d0) rfl (fun W hW => have hI := hSx W hW; (rIdx (sz := 4) (i := m + 1) rfl Tryd.underlying50 (by kernel_rfl) rfl rfl (by omega))) ?_
      refine WT_one 15 rfl (by kernel_rfl) rfl ?_
      refine WL_stA (u := .agg (znV (zAt L m)).toArray) (vs := (znV (zAt L m)).toArray) (n := 4) 0 rfl hI rfl rfl rfl rfl rfl rfl (by kernel_rfl) rfl (by rw [zonC_size]; omega) rfl (zon_set hm1 rfl) ?_
      clear hI; intro w hI
      refine WL_nil ⟨hXS _ hI.d0, ?_⟩
      refine WT_take 16 rfl rfl (by kernel_rfl) (hXS _ hI.d0) rfl (fun W hW => have hI := hSx W hW; (rIdx (sz := 4) (i := m) rfl Tryd.underlying50 (by kernel_rfl) rfl rfl (by omega))) ?_
      refine WT_A (by kernel_rfl) ?_
      clear hXS hSx
      refine WA_one 17 rfl (by kernel_rfl) ?_
      refine WL_stA (u := .agg (znV (zAt L (m + 1))).toArray) (vs := (znV (zAt L (m + 1))).toArray) (n := 4) 0 rfl hI rfl rfl rfl rfl rfl rfl (by kernel_rfl) rfl (by rw [zonC_size, List.length_set]; omega) rfl (zon_set (by rw [List.length_set]; exact hm0) rfl) ?_
      clear hI; intro w hI
      refine WL_nil ?_
      refine WA_end (by kernel_rfl) ?_
      refine W_region ?_
      refine WL_val rfl rfl rfl (by first | exact rMoveI rfl rfl | exact rMove rfl) ?_
      refine WL_val rfl rfl rfl (rDecN (b := 1) rfl rfl rfl (by omega) (by omega)) ?_
      refine WL_val rfl rfl rfl (by first | exact rAsgnI rfl rfl | exact rAsgn rfl) ?_
      refine WL_nil ?_
      exact ⟨m, by omega, m, _, rfl, by omega, (swap_perm hm1 hm0).trans hp, hso.swap (by omega) (by omega) hlt, ⟨rfl, rfl, rfl, rfl, rfl, rfl, trivial⟩, hI⟩
  · refine W_seq ?_
    refine W_seq ?_
    refine W_draw (by kernel_rfl) ?_
    refine WA_inv (T := [14]) hI.drew ?_
    intro Sx hSx hXS
    replace hI := hI.drew
    refine WT_take 0 rfl rfl (by kernel_rfl) (hXS _ hI) rfl (fun W hW => have hI := hSx W hW; (by first | exact rMoveI rfl rfl | exact rMove rfl)) ?_
    refine WT_take 1 rfl rfl (by kernel_rfl) (hXS _ hI) rfl (fun W hW => have hI := hSx W hW; (by first | exact rMoveI rfl rfl | exact rMove rfl)) ?_
    refine WT_take 2 rfl rfl (by kernel_rfl) (hXS _ hI) rfl (fun W hW => have hI := hSx W hW; (by first | exact rGtrT rfl rfl rfl (by omega) | exact rGtrF rfl rfl rfl (by omega) | exact rGtr rfl rfl rfl)) ?_
    refine WT_take 3 rfl rfl (by kernel_rfl) (hXS _ hI) rfl (fun W hW => have hI := hSx W hW; (by first | exact rMoveB rfl rfl | exact rMove rfl)) ?_
    first | refine WT_take 4 rfl rfl (by kernel_rfl) (hXS _ hI) rfl (fun W hW => have hI := hSx W hW; (by first | exact rMoveF rfl rfl | exact rMove rfl)) ?_ | refine WT_skip 4 rfl rfl (by kernel_rfl) (hXS _ hI) rfl ?_
    first | refine WT_take 5 rfl rfl (by kernel_rfl) (hXS _ hI) rfl (fun W hW => have hI := hSx W hW; (by first | exact rMoveS rfl rfl | exact rMove rfl)) ?_ | refine WT_skip 5 rfl rfl (by kernel_rfl) (hXS _ hI) rfl ?_
    first | refine WT_take 6 rfl rfl (by kernel_rfl) (hXS _ hI) rfl (fun W hW => have hI := hSx W hW; (by first | exact rMoveI rfl rfl | exact rMove rfl)) ?_ | refine WT_skip 6 rfl rfl (by kernel_rfl) (hXS _ hI) rfl ?_
    first | refine WT_take 7 rfl rfl (by kernel_rfl) (hXS _ hI) rfl (fun W hW => have hI := hSx W hW; (rIdx (sz := 4) (i := m + 1) rfl Tryd.underlying50 (by kernel_rfl) rfl rfl (by omega))) ?_ | refine WT_skip 7 rfl rfl (by kernel_rfl) (hXS _ hI) rfl ?_
    first | refine WT_take 8 rfl rfl (by kernel_rfl) (hXS _ hI) rfl (fun W hW => have hI := hSx W hW; (by first | exact rLdB (n := 4) rfl (by kernel_rfl) (by kernel_rfl) rfl rfl hI.g0 | exact rLdA (n := 4) rfl (by kernel_rfl) (by kernel_rfl) rfl (by rfl) (fun k u hk => hI.oldp ((zon_at hI.g0 hm1 rfl) k u hk)) | exact rLdA (n := 4) rfl (by kernel_rfl) (by kernel_rfl) rfl (by rfl) (zon_at hI.g0 hm1 rfl) | exact rLdA (n := 4) rfl (by kernel_rfl) (by kernel_rfl) rfl (by rfl) (fun k u hk => hI.oldp ((zon_at hI.g0 hm0 rfl) k u hk)) | exact rLdA (n := 4) rfl (by kernel_rfl) (by kernel_rfl) rfl (by rfl) (zon_at hI.g0 hm0 rfl) | exact rLd4 rfl (by kernel_rfl) (by kernel_rfl) rfl (by first | exact hI.c0 rfl) (by first | exact hI.c0 rfl) (by first | exact hI.c0 rfl) (by first | exact hI.c0 rfl))) ?_ | refine WT_skip 8 rfl rfl (by kernel_rfl) (hXS _ hI) rfl ?_
    first | refine WT_take 9 rfl rfl (by kernel_rfl) (hXS _ hI) rfl (fun W hW => have hI := hSx W hW; (by first | exact rMoveS rfl rfl | exact rMove rfl)) ?_ | refine WT_skip 9 rfl rfl (by kernel_rfl) (hXS _ hI) rfl ?_
    first | refine WT_take 10 rfl rfl (by kernel_rfl) (hXS _ hI) rfl (fun W hW => have hI := hSx W hW; (by first | exact rMoveI rfl rfl | exact rMove rfl)) ?_ | refine WT_skip 10 rfl rfl (by kernel_rfl) (hXS _ hI) rfl ?_
    first | refine WT_take 11 rfl rfl (by kernel_rfl) (hXS _ hI) rfl (fun W hW => have hI := hSx W hW; (rDecN (b := 1) rfl rfl rfl (by omega) (by omega))) ?_ | refine WT_skip 11 rfl rfl (by kernel_rfl) (hXS _ hI) rfl ?_
    first | refine WT_take 12 rfl rfl (by kernel_rfl) (hXS _ hI) rfl (fun W hW => have hI := hSx W hW; (rIdx (sz := 4) (i := m) rfl Tryd.underlying50 (by kernel_rfl) rfl rfl (by omega))) ?_ | refine WT_skip 12 rfl rfl (by kernel_rfl) (hXS _ hI) rfl ?_
    first | refine WT_take 13 rfl rfl (by kernel_rfl) (hXS _ hI) rfl (fun W hW => have hI := hSx W hW; (by first | exact rLdB (n := 4) rfl (by kernel_rfl) (by kernel_rfl) rfl rfl hI.g0 | exact rLdA (n := 4) rfl (by kernel_rfl) (by kernel_rfl) rfl (by rfl) (fun k u hk => hI.oldp ((zon_at hI.g0 hm1 rfl) k u hk)) | exact rLdA (n := 4) rfl (by kernel_rfl) (by kernel_rfl) rfl (by rfl) (zon_at hI.g0 hm1 rfl) | exact rLdA (n := 4) rfl (by kernel_rfl) (by kernel_rfl) rfl (by rfl) (fun k u hk => hI.oldp ((zon_at hI.g0 hm0 rfl) k u hk)) | exact rLdA (n := 4) rfl (by kernel_rfl) (by kernel_rfl) rfl (by rfl) (zon_at hI.g0 hm0 rfl) | exact rLd4 rfl (by kernel_rfl) (by kernel_rfl) rfl (by first | exact hI.c0 rfl) (by first | exact hI.c0 rfl) (by first | exact hI.c0 rfl) (by first | exact hI.c0 rfl))) ?_ | refine WT_skip 13 rfl rfl (by kernel_rfl) (hXS _ hI) rfl ?_
    refine WT_A (by kernel_rfl) ?_
    clear hXS hSx
    refine WA_one 14 rfl (by kernel_rfl) ?_
    refine WL_call rfl rfl rfl (rCallF (f := 28) (first := []) (cap := []) (vs := [.agg (znV (zAt L (m + 1))).toArray, .agg (znV (zAt L m)).toArray]) rfl rfl Tryd.func28 rfl rfl rfl) ?_
    refine (zcmp_any _ _ _ hb1 hb2).mono ?_
    rintro e w1 ⟨rfl, hpu⟩
    refine ⟨_, rfl, ?_⟩
    replace hI := hI.pure hpu
    refine WL_nil ?_
    refine WA_one 15 rfl (by kernel_rfl) ?_
    first | refine WL_val rfl rfl rfl (by first | exact rLssT rfl rfl rfl (by omega) | exact rLssF rfl rfl rfl (by omega) | exact rLss rfl rfl rfl) ?_ | refine WL_skip rfl rfl rfl ?_
    refine WL_nil ?_
    refine WA_one 16 rfl (by kernel_rfl) ?_
    refine WL_val rfl rfl rfl (by first | exact rPickTB rfl rfl rfl | exact rPickFB rfl rfl rfl | exact rPickB rfl rfl rfl rfl) ?_
    refine WL_nil ?_
    refine WA_end (by kernel_rfl) ?_
    refine W_cond false rfl ?_
    refine W_exit ?_
    refine W_region ?_
    refine WL_val rfl rfl rfl (by first | exact rMoveI rfl rfl | exact rMove rfl) ?_
    refine WL_val rfl rfl rfl (by first | exact rInc rfl rfl rfl (by omega) | exact rAdd rfl rfl rfl (by omega) | exact rAddW rfl rfl rfl) ?_
    refine WL_val rfl rfl rfl (by first | exact rAsgnI rfl rfl | exact rAsgn rfl) ?_
    refine WL_nil ?_
    exact ⟨n + 1 - (k + 1), by omega, k + 1, L, rfl, by omega, .inl (by omega), hp, hso.done (.inr (by show (zAt L m).lo ≤ _; omega)), ⟨rfl, rfl, rfl, rfl, rfl, trivial⟩, hI⟩
end Go.Proofs.YtijgkocolajghaaDoor

/-! Zon3: slices.SortFunc at zones, at twelve of them at most. -/
namespace Go.Proofs.YtijgkocolajghaaDoor
open Go.RowKit
set_option linter.unusedVariables false
set_option linter.unusedSimpArgs false
section
variable {P : Program} {ρ : Env} {o : Oper} {w : World} {x y : Operand} {t : TypeId} {k : IntKind}
theorem rIxStr {s : ByteArray} {i m : Nat} (ho : o.op = .index t x y) (ht : P.underlying t = some .string) (hx : ev ρ x = .string s) (hy : ev ρ y = .int k (i : Int)) (hs : s.size = m) (hi : i < m) : Runs P ρ o w (.int .u8 ((s[i]?.getD 0).toNat : Int)) := by
  subst hs
  have e : s[i]? = some s[i] := ByteArray.getElem?_lt' s _ hi
  have h := run_index_string (P := P) w t s k (i : Int) ht
  rw [dif_pos ⟨by omega, by omega⟩] at h
  rw [e]
  simp [Runs, execOp, ho, hx, hy, h]
end
set_option maxHeartbeats 1000000 in
theorem len64_any (n : Nat) (hn : n ≤ 200) (w0 : World) : Calls Tryd.prog 62 #[.int .u64 (n : Int)] w0 fun e w' => (∃ z : Int, e = .returned (.int .i64 z)) ∧ Pure w0 w' := by
  have hI := Inv.start (fun _ => False) w0
  refine calls_of_W (N := Tryd.f62.ntmps) Tryd.func62 rfl rfl rfl ?_
  refine W_seq ?_
  refine W_region ?_
  refine WL_val rfl rfl rfl (by first | exact rAsgnI rfl rfl | exact rAsgn rfl) ?_
  refine WL_nil ?_
  refine W_seq ?_
  refine W_seq ?_
  refine W_region ?_
  refine WL_val rfl rfl rfl (by first | exact rMoveI rfl rfl | exact rMove rfl) ?_
  refine WL_val rfl rfl rfl (by first | exact rGeqT rfl rfl rfl (by omega) | exact rGeqF rfl rfl rfl (by omega) | exact rGeq rfl rfl rfl) ?_
  refine WL_nil ?_
  refine W_cond false rfl ?_
  refine W_skip ?_
  refine W_seq ?_
  refine W_seq ?_
  refine W_region ?_
  refine WL_val rfl rfl rfl (by first | exact rMoveI rfl rfl | exact rMove rfl) ?_
  refine WL_val rfl rfl rfl (by first | exact rGeqT rfl rfl rfl (by omega) | exact rGeqF rfl rfl rfl (by omega) | exact rGeq rfl rfl rfl) ?_
  refine WL_nil ?_
  refine W_cond false rfl ?_
  refine W_skip ?_
  refine W_seq ?_
  refine W_seq ?_
  refine W_region ?_
  refine WL_val rfl rfl rfl (by first | exact rMoveI rfl rfl | exact rMove rfl) ?_
  refine WL_val rfl rfl rfl (by first | exact rGeqT rfl rfl rfl (by omega) | exact rGeqF rfl rfl rfl (by omega) | exact rGeq rfl rfl rfl) ?_
  refine WL_nil ?_
  refine W_cond false rfl ?_
  refine W_skip ?_
  refine W_seq ?_
  refine W_region ?_
  refine WL_val rfl rfl rfl (by first | exact rMoveI rfl rfl | exact rMove rfl) ?_
  refine WL_val rfl rfl rfl (by first | exact rMoveI rfl rfl | exact rMove rfl) ?_
  refine WL_val rfl rfl rfl (by first | exact rConv_u8s rfl Tryd.underlying130 Tryd.underlying5 rfl (by omega) | exact rConv_u8 rfl Tryd.underlying130 Tryd.underlying5 rfl | exact rConvW rfl Tryd.underlying130 Tryd.underlying5 rfl) ?_
  refine WL_val rfl rfl rfl (rIxStr (m := 256) rfl Tryd.underlying9 rfl rfl (by kernel_rfl) (by omega)) ?_
  refine WL_val rfl rfl rfl (rConvW rfl Tryd.underlying5 Tryd.underlying3 rfl) ?_
  refine WL_val rfl rfl rfl (rAddW rfl rfl rfl) ?_
  refine WL_val rfl rfl rfl (by first | exact rAsgnI rfl rfl | exact rAsgn rfl) ?_
  refine WL_nil ?_
  refine W_ret ?_
  exact ret1 2 (.inr rfl) rfl ⟨⟨_, rfl⟩, hI.pu⟩
theorem len_any (n : Nat) (hn : n ≤ 200) (w0 : World) : Calls Tryd.prog 41 #[.int .u64 (n : Int)] w0 fun e w' => (∃ z : Int, e = .returned (.int .i64 z)) ∧ Pure w0 w' := by
  have hI := Inv.start (fun _ => False) w0
  refine calls_of_W (N := Tryd.f41.ntmps) Tryd.func41 rfl rfl rfl ?_
  refine W_seq ?_
  refine W_region ?_
  refine WL_val rfl rfl rfl (by first | exact rAsgnI rfl rfl | exact rAsgn rfl) ?_
  refine WL_nil ?_
  refine W_seq ?_
  refine W_cond false rfl ?_
  refine W_skip ?_
  refine W_seq ?_
  refine W_region ?_
  refine WL_val rfl rfl rfl (by first | exact rMoveI rfl rfl | exact rMove rfl) ?_
  refine WL_call rfl rfl rfl (rCall (vs := [.int .u64 _]) rfl Tryd.func62 rfl rfl rfl) ?_
  refine (len64_any n hn _).mono ?_
  rintro e w1 ⟨⟨z, rfl⟩, hp⟩
  refine ⟨_, rfl, ?_⟩
  replace hI := hI.pure hp
  refine WL_val rfl rfl rfl (by first | exact rAsgnI rfl rfl | exact rAsgn rfl) ?_
  refine WL_nil ?_
  refine W_ret ?_
  exact ret1 2 (.inr rfl) rfl ⟨⟨_, rfl⟩, hI.pu⟩
set_option maxHeartbeats 1000000 in
theorem pdq_any (g n c : Nat) (z : Int) (L0 : List Zn) (junk : List Value) (S : Nat → Prop) (w0 : World) (hn : L0.length = n) (hb : ∀ z ∈ L0, -2 ≤ z.lo ∧ z.lo ≤ 1000000) (hl : n ≤ 12) (hI : Inv S w0 w0 [B g 54 (zonC L0 junk)]) :
    Calls Tryd.prog 40 #[.slice (some ⟨g, 0, none⟩) n c, .int .i64 0, .int .i64 (n : Int), .int .i64 z, cmpV] w0 (SortPost S w0 g L0 junk) := by
  refine calls_of_W (N := Tryd.f40.ntmps) Tryd.func40 rfl rfl rfl ?_
  refine W_seq ?_
  refine W_region ?_
  refine WL_val rfl rfl rfl (by first | exact rAsgnB rfl rfl | exact rAsgn rfl) ?_
  refine WL_nil ?_
  refine W_seq ?_
  refine W_region ?_
  refine WL_val rfl rfl rfl (by first | exact rAsgnB rfl rfl | exact rAsgn rfl) ?_
  refine WL_nil ?_
  refine W_block ?_
  refine W_loopN (fun mu ρ w => mu = 0 ∧ Has ρ [(0, .slice (some ⟨g, 0, none⟩) n c), (1, .int .i64 0), (2, .int .i64 (n : Int)), (3, .int .i64 z), (4, cmpV)] ∧ w = w0) 0 ⟨rfl, ⟨rfl, rfl, rfl, rfl, rfl, trivial⟩, rfl⟩ ?_
  rintro mu ρ w ⟨rfl, hH, rfl⟩
  obtain ⟨σ, rfl⟩ := hH.open
  refine W_block ?_
  refine W_seq ?_
  refine W_region ?_
  refine WL_val rfl rfl rfl (by first | exact rMoveI rfl rfl | exact rMove rfl) ?_
  refine WL_val rfl rfl rfl (by first | exact rMoveI rfl rfl | exact rMove rfl) ?_
  refine WL_val rfl rfl rfl (by first | exact rSub rfl rfl rfl (by omega) | exact rSubW rfl rfl rfl) ?_
  refine WL_val rfl rfl rfl (by first | exact rAsgnI rfl rfl | exact rAsgn rfl) ?_
  refine WL_nil ?_
  refine W_seq ?_
  refine W_seq ?_
  refine W_region ?_
  refine WL_val rfl rfl rfl (by first | exact rMoveI rfl rfl | exact rMove rfl) ?_
  refine WL_val rfl rfl rfl (by first | exact rLeqT rfl rfl rfl (by omega) | exact rLeqF rfl rfl rfl (by omega) | exact rLeq rfl rfl rfl) ?_
  refine WL_nil ?_
  refine W_cond true rfl ?_
  refine W_seq ?_
  refine W_region ?_
  refine WL_val rfl rfl rfl (by first | exact rMoveS rfl rfl | exact rMove rfl) ?_
  refine WL_val rfl rfl rfl (by first | exact rMoveI rfl rfl | exact rMove rfl) ?_
  refine WL_val rfl rfl rfl (by first | exact rMoveI rfl rfl | exact rMove rfl) ?_
  refine WL_val rfl rfl rfl (by first | exact rMoveF rfl rfl | exact rMove rfl) ?_
  refine WL_call rfl rfl rfl (rCall (vs := [.slice _ _ _, .int .i64 _, .int .i64 _, .func _ _ _]) rfl Tryd.func53 rfl rfl rfl) ?_
  refine (isort_any g n c L0 junk S _ hn hb (by omega) hI).mono ?_
  rintro e w1 ⟨rfl, hS⟩
  refine ⟨_, rfl, ?_⟩
  refine WL_nil ?_
  refine W_ret ?_
  exact ret0 (.inr rfl) rfl ⟨rfl, hS⟩
theorem sort_any (g n c : Nat) (L0 : List Zn) (junk : List Value) (S : Nat → Prop) (w0 : World) (hn : L0.length = n) (hb : ∀ z ∈ L0, -2 ≤ z.lo ∧ z.lo ≤ 1000000) (hl : n ≤ 12) (hI : Inv S w0 w0 [B g 54 (zonC L0 junk)]) :
    Calls Tryd.prog 27 #[.slice (some ⟨g, 0, none⟩) n c, cmpV] w0 (SortPost S w0 g L0 junk) := by
  refine calls_of_W (N := Tryd.f27.ntmps) Tryd.func27 rfl rfl rfl ?_
  refine W_seq ?_
  refine W_region ?_
  refine WL_val rfl rfl rfl (by first | exact rMoveS rfl rfl | exact rMove rfl) ?_
  refine WL_val rfl rfl rfl (rLen rfl Tryd.underlying50 rfl) ?_
  refine WL_val rfl rfl rfl (by first | exact rAsgnI rfl rfl | exact rAsgn rfl) ?_
  refine WL_nil ?_
  refine W_region ?_
  refine WL_val rfl rfl rfl (by first | exact rMoveS rfl rfl | exact rMove rfl) ?_
  refine WL_val rfl rfl rfl (by first | exact rMoveI rfl rfl | exact rMove rfl) ?_
  refine WL_val rfl rfl rfl (by first | exact rMoveI rfl rfl | exact rMove rfl) ?_
  refine WL_val rfl rfl rfl (by first | exact rConv_u64s rfl Tryd.underlying3 Tryd.underlying93 rfl (by omega) | exact rConvW rfl Tryd.underlying3 Tryd.underlying93 rfl) ?_
  refine WL_call rfl rfl rfl (rCall (vs := [.int .u64 _]) rfl Tryd.func41 rfl rfl rfl) ?_
  refine (len_any n (by omega) _).mono ?_
  rintro e w1 ⟨⟨z, rfl⟩, hp⟩
  refine ⟨_, rfl, ?_⟩
  replace hI := hI.pure hp
  refine WL_val rfl rfl rfl (by first | exact rMoveF rfl rfl | exact rMove rfl) ?_
  refine WL_call rfl rfl rfl (rCall (vs := [.slice _ _ _, .int .i64 _, .int .i64 _, .int .i64 _, .func _ _ _]) rfl Tryd.func40 rfl rfl rfl) ?_
  refine (pdq_any g n c z L0 junk _ _ hn hb hl (Inv.from (l := [B g 54 (zonC L0 junk)]) (H := []) hI)).mono ?_
  rintro e w2 ⟨rfl, L', q1, q2, q3⟩
  refine ⟨_, rfl, ?_⟩
  replace hI := Inv.turnL (l := [B g 54 (zonC L0 junk)]) (H := []) hI q3
  refine WL_nil ?_
  exact ret0 (.inl rfl) rfl ⟨rfl, L', q1, q2, hI⟩
end Go.Proofs.YtijgkocolajghaaDoor
