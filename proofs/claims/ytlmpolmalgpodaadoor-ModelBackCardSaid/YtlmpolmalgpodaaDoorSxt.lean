/- Sx: many parts as one (rows of rows); parts brought to the front. Nothing of the program. -/
import Derived.Test.YtlmpolmalgpodaaDoorSxs
namespace Go.Proofs.YtlmpolmalgpodaaDoor
open Go
set_option linter.unusedVariables false
def Ent.nil : Ent := ⟨fun _ => False, fun _ => True⟩
theorem Ent.nil_ok (w : World) : Ent.nil.ok w := ⟨trivial, fun _ h => h.elim, fun _ _ _ _ _ _ => trivial⟩
def apartN (n : Nat) (es : Nat → Ent) : Prop := ∀ i j, i < n → j < n → i ≠ j → ∀ k, (es i).D k → ¬ (es j).D k
/-- n parts that lie apart. -/
def Many (n : Nat) (es : Nat → Ent) : Ent := ⟨fun k => ∃ i, i < n ∧ (es i).D k, fun w => (∀ i, i < n → (es i).ok w) ∧ apartN n es⟩
theorem Many.ok {w : World} {n : Nat} {es : Nat → Ent} (h : ∀ i, i < n → (es i).ok w) (ha : apartN n es) : (Many n es).ok w :=
  ⟨⟨h, ha⟩, fun k ⟨i, hi, hk⟩ => (h i hi).2.1 k hk, fun S w1 w2 hc hS h1 => ⟨fun i hi => (h1.1 i hi).chg hc (fun k hk => hS k ⟨i, hi, hk⟩), ha⟩⟩
section
variable {S : Nat → Prop} {w0 w : World} {H : List Ent} {e : Ent} {n i : Nat} {es : Nat → Ent}
theorem Inv.ent_nil (h : Inv S w0 w H) : Inv S w0 w (Ent.nil :: H) := h.fresh (Pure.refl w) (Ent.nil_ok w) (fun _ h => h.elim)
theorem Inv.many_nil (h : Inv S w0 w H) (es : Nat → Ent) : Inv S w0 w (Many 0 es :: H) :=
  h.fresh (Pure.refl w) (Many.ok (fun i hi => absurd hi (Nat.not_lt_zero i)) (fun i j hi => absurd hi (Nat.not_lt_zero i))) (fun k hk => by obtain ⟨i, hi, _⟩ := hk; exact absurd hi (Nat.not_lt_zero i))
theorem Inv.many_out (h : Inv S w0 w (Many n es :: H)) (hi : i < n) : Inv S w0 w (es i :: Many n (fun j => if j = i then Ent.nil else es j) :: H) := by
  have hm := h.ok (Many n es) (by simp)
  have hp := List.pairwise_cons.1 h.apart
  have hD : ∀ k, (Many n (fun j => if j = i then Ent.nil else es j)).D k → (Many n es).D k ∧ ¬ (es i).D k := by
    rintro k ⟨j, hj, hk⟩
    by_cases hji : j = i
    · simp only [if_pos hji] at hk; exact hk.elim
    · simp only [if_neg hji] at hk; exact ⟨⟨j, hj, hk⟩, hm.1.2 j i hj hi hji k hk⟩
  refine ⟨h.chg, fun x hx => ?_, fun x hx k hk => ?_, List.pairwise_cons.2 ⟨fun x hx k hk hxk => ?_, List.pairwise_cons.2 ⟨fun x hx k hk => hp.1 x hx k (hD k hk).1, hp.2⟩⟩⟩
  · rcases List.mem_cons.1 hx with rfl | hx
    · exact hm.1.1 i hi
    rcases List.mem_cons.1 hx with rfl | hx
    · refine Many.ok (fun j hj => ?_) (fun a b ha hb hab k h1 h2 => ?_)
      · by_cases hji : j = i
        · simp only [if_pos hji]; exact Ent.nil_ok w
        · simp only [if_neg hji]; exact hm.1.1 j hj
      · by_cases hai : a = i
        · simp only [if_pos hai] at h1; exact h1.elim
        · by_cases hbi : b = i
          · simp only [if_pos hbi] at h2; exact h2.elim
          · simp only [if_neg hai] at h1; simp only [if_neg hbi] at h2; exact hm.1.2 a b ha hb hab k h1 h2
    · exact h.ok x (by simp [hx])
  · rcases List.mem_cons.1 hx with rfl | hx
    · exact h.own (Many n es) (by simp) k ⟨i, hi, hk⟩
    rcases List.mem_cons.1 hx with rfl | hx
    · exact h.own (Many n es) (by simp) k (hD k hk).1
    · exact h.own x (by simp [hx]) k hk
  · rcases List.mem_cons.1 hx with rfl | hx
    · exact (hD k hxk).2 hk
    · exact hp.1 x hx k ⟨i, hi, hk⟩ hxk
theorem Inv.many_in (h : Inv S w0 w (e :: Many n es :: H)) (hi : i < n) (hn : es i = Ent.nil) : Inv S w0 w (Many n (fun j => if j = i then e else es j) :: H) := by
  have hm := h.ok (Many n es) (by simp)
  have he := h.ok e (by simp)
  have hp := List.pairwise_cons.1 h.apart
  have hp2 := List.pairwise_cons.1 hp.2
  have hD : ∀ k, (Many n (fun j => if j = i then e else es j)).D k → e.D k ∨ (Many n es).D k := by
    rintro k ⟨j, hj, hk⟩
    by_cases hji : j = i
    · simp only [if_pos hji] at hk; exact .inl hk
    · simp only [if_neg hji] at hk; exact .inr ⟨j, hj, hk⟩
  have hap : apartN n (fun j => if j = i then e else es j) := by
    intro a b ha hb hab k h1 h2
    by_cases hai : a = i
    · by_cases hbi : b = i
      · exact hab (hai.trans hbi.symm)
      · simp only [if_pos hai] at h1; simp only [if_neg hbi] at h2
        exact hp.1 (Many n es) (by simp) k h1 ⟨b, hb, h2⟩
    · by_cases hbi : b = i
      · simp only [if_neg hai] at h1; simp only [if_pos hbi] at h2
        exact hp.1 (Many n es) (by simp) k h2 ⟨a, ha, h1⟩
      · simp only [if_neg hai] at h1; simp only [if_neg hbi] at h2; exact hm.1.2 a b ha hb hab k h1 h2
  refine ⟨h.chg, fun x hx => ?_, fun x hx k hk => ?_, List.pairwise_cons.2 ⟨fun x hx k hk => ?_, hp2.2⟩⟩
  · rcases List.mem_cons.1 hx with rfl | hx
    · refine Many.ok (fun j hj => ?_) hap
      by_cases hji : j = i
      · simp only [if_pos hji]; exact he
      · simp only [if_neg hji]; exact hm.1.1 j hj
    · exact h.ok x (by simp [hx])
  · rcases List.mem_cons.1 hx with rfl | hx
    · rcases hD k hk with hk | hk
      · exact h.own e (by simp) k hk
      · exact h.own (Many n es) (by simp) k hk
    · exact h.own x (by simp [hx]) k hk
  · rcases hD k hk with hk | hk
    · exact hp.1 x (by simp [hx]) k hk
    · exact hp2.1 x hx k hk
theorem Inv.many_more (h : Inv S w0 w (Many n es :: H)) : Inv S w0 w (Many (n + 1) (fun j => if j = n then Ent.nil else es j) :: H) := by
  have hm := h.ok (Many n es) (by simp)
  have hp := List.pairwise_cons.1 h.apart
  have hD : ∀ k, (Many (n + 1) (fun j => if j = n then Ent.nil else es j)).D k → (Many n es).D k := by
    rintro k ⟨j, hj, hk⟩
    by_cases hji : j = n
    · simp only [if_pos hji] at hk; exact hk.elim
    · simp only [if_neg hji] at hk; exact ⟨j, by omega, hk⟩
  refine ⟨h.chg, fun x hx => ?_, fun x hx k hk => ?_, List.pairwise_cons.2 ⟨fun x hx k hk => hp.1 x hx k (hD k hk), hp.2⟩⟩
  · rcases List.mem_cons.1 hx with rfl | hx
    · refine Many.ok (fun j hj => ?_) (fun a b ha hb hab k h1 h2 => ?_)
      · by_cases hji : j = n
        · simp only [if_pos hji]; exact Ent.nil_ok w
        · simp only [if_neg hji]; exact hm.1.1 j (by omega)
      · by_cases hai : a = n
        · simp only [if_pos hai] at h1; exact h1.elim
        · by_cases hbi : b = n
          · simp only [if_pos hbi] at h2; exact h2.elim
          · simp only [if_neg hai] at h1; simp only [if_neg hbi] at h2; exact hm.1.2 a b (by omega) (by omega) hab k h1 h2
    · exact h.ok x (by simp [hx])
  · rcases List.mem_cons.1 hx with rfl | hx
    · exact h.own (Many n es) (by simp) k (hD k hk)
    · exact h.own x (by simp [hx]) k hk
theorem Inv.many_congr {es' : Nat → Ent} (h : Inv S w0 w (Many n es :: H)) (he : ∀ i, i < n → es i = es' i) : Inv S w0 w (Many n es' :: H) := by
  have hm := h.ok (Many n es) (by simp)
  have hp := List.pairwise_cons.1 h.apart
  have hD : ∀ k, (Many n es').D k → (Many n es).D k := fun k ⟨j, hj, hk⟩ => ⟨j, hj, by rw [he j hj]; exact hk⟩
  refine ⟨h.chg, fun x hx => ?_, fun x hx k hk => ?_, List.pairwise_cons.2 ⟨fun x hx k hk => hp.1 x hx k (hD k hk), hp.2⟩⟩
  · rcases List.mem_cons.1 hx with rfl | hx
    · exact Many.ok (fun j hj => by rw [← he j hj]; exact hm.1.1 j hj) (fun a b ha hb hab k h1 h2 => hm.1.2 a b ha hb hab k (by rw [he a ha]; exact h1) (by rw [he b hb]; exact h2))
    · exact h.ok x (by simp [hx])
  · rcases List.mem_cons.1 hx with rfl | hx
    · exact h.own (Many n es) (by simp) k (hD k hk)
    · exact h.own x (by simp [hx]) k hk
theorem Inv.many_push (h : Inv S w0 w (e :: Many n es :: H)) : Inv S w0 w (Many (n + 1) (fun j => if j = n then e else es j) :: H) := by
  have h1 := (h.sw0.many_more).sw0.many_in (i := n) (by omega) (by simp)
  refine h1.many_congr fun i hi => ?_
  by_cases hin : i = n
  · simp [hin]
  · simp [hin]
theorem Inv.many_at (h : Inv S w0 w (Many n es :: H)) (hi : i < n) : (es i).Φ w := ((h.ok (Many n es) (by simp)).1.1 i hi).1
theorem Inv.lit0 {g t : Nat} {news : List Value} (hI : Inv S w0 w (B g t news.toArray :: H)) : ∀ (k : Nat) (u : Value), news[k]? = some u → w.cell? ⟨g, 0 + k, none⟩ = some u := fun k u hk => by
  rw [Nat.zero_add]
  exact hI.cell 0 rfl (by simpa using hk)
/-- Behind a call that made parts of its own. -/
theorem Inv.app {w' : World} {H' : List Ent} (h : Inv S w0 w H) (h' : Inv (fun _ => False) w w' H') : Inv S w0 w' (H' ++ H) := by
  have hp := h.pure h'.pu
  have hge : ∀ e ∈ H', ∀ k, e.D k → w.heap.size ≤ k := fun e he k hk => (h'.own e he k hk).resolve_left (fun h => h)
  refine ⟨hp.chg, fun e he => ?_, fun e he k hk => ?_, List.pairwise_append.2 ⟨h'.apart, h.apart, fun a ha b hb k h1 h2 => ?_⟩⟩
  · rcases List.mem_append.1 he with he | he
    · exact h'.ok e he
    · exact hp.ok e he
  · rcases List.mem_append.1 he with he | he
    · exact .inr (Nat.le_trans h.chg.size (hge e he k hk))
    · exact h.own e he k hk
  · have e1 := hge a ha k h1
    have e2 := (h.ok b hb).2.1 k h2
    omega
/-- A part is given up. -/
theorem Inv.app1 {w' : World} {a : Ent} (h : Inv S w0 w H) (h' : Inv (fun _ => False) w w' [a]) : Inv S w0 w' (a :: H) := h.app h'
theorem Inv.app2 {w' : World} {a b : Ent} (h : Inv S w0 w H) (h' : Inv (fun _ => False) w w' [a, b]) : Inv S w0 w' (a :: b :: H) := h.app h'
theorem Inv.app3 {w' : World} {a b c : Ent} (h : Inv S w0 w H) (h' : Inv (fun _ => False) w w' [a, b, c]) : Inv S w0 w' (a :: b :: c :: H) := h.app h'
theorem Inv.up2 {a b c : Ent} (h : Inv S w0 w (a :: b :: c :: H)) : Inv S w0 w (c :: a :: b :: H) := h.sw1.sw0
theorem Inv.dn2 {a b c : Ent} (h : Inv S w0 w (c :: a :: b :: H)) : Inv S w0 w (a :: b :: c :: H) := h.sw0.sw1
theorem Inv.up3 {a b c d : Ent} (h : Inv S w0 w (a :: b :: c :: d :: H)) : Inv S w0 w (d :: a :: b :: c :: H) := h.sw2.sw1.sw0
theorem Inv.dn3 {a b c d : Ent} (h : Inv S w0 w (d :: a :: b :: c :: H)) : Inv S w0 w (a :: b :: c :: d :: H) := h.sw0.sw1.sw2
end
end Go.Proofs.YtlmpolmalgpodaaDoor
