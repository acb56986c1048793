/- lock: plain: what is done under locks. -/
import Derived.Test.YtidnlnlmmnkgoaaDoorTwoC
import Derived.Test.YtidnlnlmmnkgoaaDoorSer8
namespace Go.Proofs.YtidnlnlmmnkgoaaDoor
open Go.RowKit
set_option linter.unusedVariables false
set_option linter.unusedSimpArgs false
def ownS (l : List St) (x : Nat) : List St := l.filter fun s => decide (s.tx = (x : Int))
theorem ownS_app (l : List St) (s : St) (x : Nat) : ownS (l ++ [s]) x = ownS l x ++ if s.tx = (x : Int) then [s] else [] := by
  unfold ownS
  rw [List.filter_append]
  by_cases h : s.tx = (x : Int) <;> simp [h]
theorem sAt_app {l : List St} {s : St} {k : Nat} (h : k < l.length) : sAt (l ++ [s]) k = sAt l k := by
  simp only [sAt, List.getD_eq_getElem?_getD, List.getElem?_append_left h]
theorem sAt_new (l : List St) (s : St) : sAt (l ++ [s]) l.length = s := by
  simp [sAt, List.getD]
theorem sAt_mem {l : List St} {k : Nat} (h : k < l.length) : sAt l k ∈ l := by
  rw [sAt, List.getD_eq_getElem?_getD, List.getElem?_eq_getElem h]
  exact List.getElem_mem _
theorem overTo_app (l : List St) (s : St) : ∀ k, k ≤ l.length → overTo (l ++ [s]) k = overTo l k
  | 0, _ => rfl
  | k + 1, h => by
    funext x
    rw [overTo, overTo, overTo_app l s k (by omega), sAt_app (by omega)]
theorem overTo_new (l : List St) (s : St) (x : Nat) : overTo (l ++ [s]) (l ++ [s]).length x = if x = s.tx.toNat then decide (3 ≤ s.kind) else overTo l l.length x := by
  rw [List.length_append]
  show overTo (l ++ [s]) (l.length + 1) x = _
  rw [overTo, sAt_new, overTo_app l s l.length (Nat.le_refl _)]
theorem last_marker {l : List St} {x : Nat} : ∀ k, overTo l k x = true → ∃ e, e < k ∧ (sAt l e).tx.toNat = x ∧ 3 ≤ (sAt l e).kind ∧ ∀ i, e < i → i < k → (sAt l i).tx.toNat ≠ x
  | 0, h => by cases h
  | k + 1, h => by
    rw [overTo] at h
    dsimp only at h
    by_cases hx : x = (sAt l k).tx.toNat
    · rw [if_pos hx] at h
      exact ⟨k, by omega, hx.symm, by simpa using h, fun i h1 h2 => by omega⟩
    · rw [if_neg hx] at h
      obtain ⟨e, h1, h2, h3, h4⟩ := last_marker k h
      refine ⟨e, by omega, h2, h3, fun i h5 h6 => ?_⟩
      by_cases hik : i = k
      · subst hik; exact fun e => hx e.symm
      · exact h4 i h5 (by omega)
structure TI (p : List (List St)) (s : Rn) : Prop where
  ownN : ∀ x, x < p.length → s.over.getD x false = false → x ∉ s.vict ∧ ownS s.done x = (rowP p x).take (s.ats.getD x 0)
  ownO : ∀ x, x < p.length → s.over.getD x false = true → (x ∉ s.vict ∧ ownS s.done x = rowP p x ++ [⟨(x : Int), 3, 0⟩]) ∨ (x ∈ s.vict ∧ ∃ k, k ≤ (rowP p x).length ∧ ownS s.done x = (rowP p x).take k ++ [⟨(x : Int), 4, 0⟩])
  lock : ∀ st ∈ s.done, st.kind < 3 → s.over.getD st.tx.toNat false = false → st.kind ≤ (s.held st.key.toNat st.tx.toNat : Nat)
  excl : ∀ k x y, k < 8 → x ≠ y → s.held k x = 2 → s.held k y = 0
  good : ∀ st ∈ s.done, 0 ≤ st.tx ∧ st.tx < (p.length : Int) ∧ ((1 ≤ st.kind ∧ st.kind ≤ 2 ∧ 0 ≤ st.key ∧ st.key < 8) ∨ ((st.kind = 3 ∨ st.kind = 4) ∧ st.key = 0))
  okat : ∀ k, k < s.done.length → overTo s.done k (sAt s.done k).tx.toNat = false
  ovt : ∀ x, x < p.length → overTo s.done s.done.length x = s.over.getD x false
  strict : ∀ i j, i < j → j < s.done.length → clashB (sAt s.done i) (sAt s.done j) = true → (sAt s.done i).kind < 3 → (sAt s.done j).kind < 3 → ∃ e, i < e ∧ e < j ∧ (sAt s.done e).tx = (sAt s.done i).tx ∧ 3 ≤ (sAt s.done e).kind
theorem TI.same {p : List (List St)} {s s1 : Rn} (h : TI p s) (hS : Same s s1) : TI p s1 := by
  obtain ⟨h1, h2, h3, h4, h5⟩ := hS
  exact ⟨by rw [h2, h3, h4, h5]; exact h.ownN, by rw [h3, h4, h5]; exact h.ownO, by rw [h1, h3, h4]; exact h.lock, by rw [h1]; exact h.excl, by rw [h4]; exact h.good, by rw [h4]; exact h.okat, by rw [h3, h4]; exact h.ovt, by rw [h4]; exact h.strict⟩
theorem TI.init (p : List (List St)) : TI p (initR p.length) := by
  have e1 : ∀ x, (List.replicate p.length false).getD x false = false := fun x => by
    rw [List.getD_eq_getElem?_getD, List.getElem?_replicate]
    split <;> rfl
  have e2 : ∀ x, (List.replicate p.length 0).getD x 0 = 0 := fun x => by
    rw [List.getD_eq_getElem?_getD, List.getElem?_replicate]
    split <;> rfl
  refine ⟨fun x _ _ => ⟨by simp [initR], ?_⟩, fun x _ ho => ?_, fun st hs => by simp [initR] at hs, fun k x y _ _ h => by simp [initR] at h, fun st hs => by simp [initR] at hs, fun k hk => by simp [initR] at hk, fun x _ => ?_, fun i j _ hj => by simp [initR] at hj⟩
  · show ownS [] x = (rowP p x).take ((List.replicate p.length 0).getD x 0)
    rw [e2]
    rfl
  · have ho : (List.replicate p.length false).getD x false = true := ho
    rw [e1] at ho
    cases ho
  · show false = (List.replicate p.length false).getD x false
    rw [e1]
/-- One that ends. -/
theorem TI.fin {p : List (List St)} {s : Rn} {m v K : Nat} {vs : List Nat} (h : TI p s) (hP : POk p.length p s m) (hv : v < p.length) (ho : s.over.getD v false = false)
    (hK : (K = 3 ∧ s.ats.getD v 0 = (rowP p v).length ∧ vs = s.vict) ∨ (K = 4 ∧ vs = s.vict ++ [v])) : TI p (endR { s with vict := vs } v K) := by
  have hvl : v < s.over.length := by rw [hP.over]; exact hv
  have hov : ∀ x, (s.over.set v true).getD x false = if x = v then true else s.over.getD x false := fun x => by
    by_cases hx : x = v
    · subst hx; rw [getD_set_eq hvl, if_pos rfl]
    · rw [getD_set_ne (fun e => hx e.symm), if_neg hx]
  have hK3 : (3 : Int) ≤ (K : Nat) := by rcases hK with h | h <;> omega
  have hvs : ∀ x, x ≠ v → (x ∈ vs ↔ x ∈ s.vict) := fun x hx => by
    rcases hK with ⟨_, _, rfl⟩ | ⟨_, rfl⟩
    · exact Iff.rfl
    · simp [hx]
  have hown : ∀ x : Nat, ownS (s.done ++ [⟨(v : Int), (K : Nat), 0⟩]) x = if x = v then ownS s.done v ++ [⟨(v : Int), (K : Nat), 0⟩] else ownS s.done x := fun x => by
    rw [ownS_app]
    by_cases hx : x = v
    · subst hx; rw [if_pos rfl, if_pos rfl]
    · rw [if_neg hx, if_neg (fun e => hx (by have e : (v : Int) = (x : Int) := e; omega))]; simp
  refine ⟨fun x hx hxo => ?_, fun x hx hxo => ?_, fun st hs hk hxo => ?_, fun k x y hk hxy h2 => ?_, fun st hs => ?_, fun k hk => ?_, fun x hx => ?_, fun i j hij hj hc hi3 hj3 => ?_⟩
  · have hxo : (s.over.set v true).getD x false = false := hxo
    rw [hov] at hxo
    split at hxo
    · cases hxo
    rename_i hxv
    obtain ⟨h1, h2⟩ := h.ownN x hx hxo
    refine ⟨fun hm => h1 ((hvs x hxv).1 hm), ?_⟩
    show ownS (s.done ++ [_]) x = _
    rw [hown, if_neg hxv]
    exact h2
  · have hxo : (s.over.set v true).getD x false = true := hxo
    rw [hov] at hxo
    show (x ∉ vs ∧ ownS (s.done ++ [⟨(v : Int), (K : Nat), 0⟩]) x = _) ∨ (x ∈ vs ∧ ∃ k, _ ∧ ownS (s.done ++ [⟨(v : Int), (K : Nat), 0⟩]) x = _)
    rw [hown]
    by_cases hxv : x = v
    · subst hxv
      rw [if_pos rfl]
      obtain ⟨h1, h2⟩ := h.ownN x hx ho
      rcases hK with ⟨rfl, hat, rfl⟩ | ⟨rfl, rfl⟩
      · left
        refine ⟨h1, ?_⟩
        rw [h2, hat, List.take_length]
        rfl
      · right
        exact ⟨by simp, s.ats.getD x 0, hP.hat x hx, by rw [h2]; rfl⟩
    · rw [if_neg hxv] at hxo ⊢
      rw [hvs x hxv]
      exact h.ownO x hx hxo
  · have hs : st ∈ s.done ++ [⟨(v : Int), (K : Nat), 0⟩] := hs
    rcases List.mem_append.1 hs with hs | hs
    · have hxo : (s.over.set v true).getD st.tx.toNat false = false := hxo
      rw [hov] at hxo
      split at hxo
      · cases hxo
      rename_i hxv
      show st.kind ≤ ((freeTo s.held v 8 st.key.toNat st.tx.toNat : Nat) : Int)
      unfold freeTo
      rw [if_neg (fun e => hxv e.2)]
      exact h.lock st hs hk hxo
    · rw [List.mem_singleton.1 hs] at hk
      exact absurd hk (by show ¬ ((K : Nat) : Int) < 3; omega)
  · have h2 : freeTo s.held v 8 k x = 2 := h2
    show freeTo s.held v 8 k y = 0
    unfold freeTo at h2 ⊢
    split at h2
    · omega
    · split
      · rfl
      · exact h.excl k x y hk hxy h2
  · have hs : st ∈ s.done ++ [⟨(v : Int), (K : Nat), 0⟩] := hs
    rcases List.mem_append.1 hs with hs | hs
    · exact h.good st hs
    · rw [List.mem_singleton.1 hs]
      refine ⟨by show (0 : Int) ≤ (v : Int); omega, by show (v : Int) < _; omega, .inr ⟨?_, rfl⟩⟩
      show ((K : Nat) : Int) = 3 ∨ ((K : Nat) : Int) = 4
      rcases hK with h | h <;> omega
  · show overTo (s.done ++ [_]) k (sAt (s.done ++ [_]) k).tx.toNat = false
    have hk : k < (s.done ++ [(⟨(v : Int), (K : Nat), 0⟩ : St)]).length := hk
    rw [List.length_append] at hk
    by_cases hkl : k < s.done.length
    · rw [sAt_app hkl, overTo_app _ _ _ (by omega)]
      exact h.okat k hkl
    · have : k = s.done.length := by simp at hk; omega
      subst this
      rw [sAt_new, overTo_app _ _ _ (Nat.le_refl _)]
      show overTo s.done s.done.length ((v : Int)).toNat = false
      rw [Int.toNat_natCast, h.ovt v hv]
      exact ho
  · show overTo (s.done ++ [_]) (s.done ++ [_]).length x = (s.over.set v true).getD x false
    rw [overTo_new, hov]
    show (if x = ((v : Int)).toNat then decide ((3 : Int) ≤ (K : Nat)) else _) = _
    rw [Int.toNat_natCast, decide_eq_true hK3]
    split
    · rfl
    · exact h.ovt x hx
  · have hj : j < (s.done ++ [(⟨(v : Int), (K : Nat), 0⟩ : St)]).length := hj
    rw [List.length_append] at hj
    have hc : clashB (sAt (s.done ++ [_]) i) (sAt (s.done ++ [_]) j) = true := hc
    have hi3 : (sAt (s.done ++ [_]) i).kind < 3 := hi3
    have hj3 : (sAt (s.done ++ [_]) j).kind < 3 := hj3
    by_cases hjl : j < s.done.length
    · rw [sAt_app (by omega)] at hc hi3
      rw [sAt_app hjl] at hc hj3
      obtain ⟨e, h1, h2, h3, h4⟩ := h.strict i j hij hjl hc hi3 hj3
      refine ⟨e, h1, h2, ?_, ?_⟩
      · show (sAt (s.done ++ [_]) e).tx = (sAt (s.done ++ [_]) i).tx
        rw [sAt_app (by omega), sAt_app (by omega)]; exact h3
      · show 3 ≤ (sAt (s.done ++ [_]) e).kind
        rw [sAt_app (by omega)]; exact h4
    · have : j = s.done.length := by simp at hj; omega
      subst this
      rw [sAt_new] at hj3
      exact absurd hj3 (by show ¬ ((K : Nat) : Int) < 3; omega)
theorem clash_parts {a b : St} (h : clashB a b = true) : a.tx ≠ b.tx ∧ a.key = b.key ∧ (a.kind = 2 ∨ b.kind = 2) := by
  unfold clashB at h
  simpa using h
/-- One that does a step. -/
theorem TI.step {p : List (List St)} {s : Rn} {m tx : Nat} (hp : PlanOk p) (h : TI p s) (hP : POk p.length p s m) (ht : tx < p.length) (ho : s.over.getD tx false = false) (hat : s.ats.getD tx 0 < (rowP p tx).length) (hag : agx p s tx = []) : TI p (stepR (delW s tx) tx (stepP p s tx)) := by
  obtain ⟨t1, t2, t3, t4, t5⟩ := stepP_ok hp ht hat
  have hget : (rowP p tx)[s.ats.getD tx 0]? = some (stepP p s tx) := by
    unfold stepP
    rw [List.getD_eq_getElem?_getD (l := rowP p tx), List.getElem?_eq_getElem hat]; rfl
  have hags : ∀ y, y < 8 → s.held (stepP p s tx).key.toNat y ≠ 0 → y ≠ tx → ¬ (s.held (stepP p s tx).key.toNat y = 2 ∨ (stepP p s tx).kind = 2) := fun y hy h0 hne hor => by
    have hm : y ∈ agx p s tx := by
      unfold agx agR agTo
      refine List.mem_filter.2 ⟨List.mem_range.2 hy, ?_⟩
      unfold agB
      rw [t1]
      have hne' : ¬ ((y : Nat) : Int) = (tx : Int) := by omega
      simp [h0, hne']
      exact hor
    rw [hag] at hm
    simp at hm
  obtain ⟨st0, hst0⟩ : ∃ st0, stepP p s tx = st0 := ⟨_, rfl⟩
  rw [hst0] at t1 t2 t3 t4 t5 hget hags ⊢
  have htn : st0.tx.toNat = tx := by omega
  have h8 := hp.1
  have hatl : tx < s.ats.length := by rw [hP.ats]; exact ht
  have hheld : ∀ k x, s.held k x ≤ takeH s.held st0.key.toNat st0.tx.toNat st0.kind.toNat k x := fun k x => by
    unfold takeH
    split
    · rename_i e; rw [e.1, e.2]; omega
    · exact Nat.le_refl _
  refine ⟨fun x hx hxo => ?_, fun x hx hxo => ?_, fun st hs hk hxo => ?_, fun k x y hk hxy h2 => ?_, fun st hs => ?_, fun k hk => ?_, fun x hx => ?_, fun i j hij hj hc hi3 hj3 => ?_⟩
  · obtain ⟨h1, h2⟩ := h.ownN x hx hxo
    refine ⟨h1, ?_⟩
    show ownS (s.done ++ [st0]) x = (rowP p x).take ((s.ats.set tx (s.ats.getD tx 0 + 1)).getD x 0)
    rw [ownS_app, h2]
    by_cases hxt : x = tx
    · subst hxt
      rw [if_pos t1, getD_set_eq hatl, List.take_add_one, hget]
      rfl
    · rw [if_neg (fun e => hxt (by omega)), getD_set_ne (fun e => hxt e.symm)]
      simp
  · have hxt : x ≠ tx := fun e => by subst e; rw [show s.over.getD x false = true from hxo] at ho; cases ho
    have hown : ownS (s.done ++ [st0]) x = ownS s.done x := by
      rw [ownS_app, if_neg (fun e => hxt (by omega))]
      simp
    show (x ∉ s.vict ∧ ownS (s.done ++ [st0]) x = _) ∨ (x ∈ s.vict ∧ ∃ k, _ ∧ ownS (s.done ++ [st0]) x = _)
    rw [hown]
    exact h.ownO x hx hxo
  · have hs : st ∈ s.done ++ [st0] := hs
    show st.kind ≤ ((takeH s.held st0.key.toNat st0.tx.toNat st0.kind.toNat st.key.toNat st.tx.toNat : Nat) : Int)
    rcases List.mem_append.1 hs with hs | hs
    · have h1 := h.lock st hs hk hxo
      have h2 := hheld st.key.toNat st.tx.toNat
      omega
    · rw [List.mem_singleton.1 hs]
      unfold takeH
      rw [if_pos ⟨rfl, rfl⟩]
      omega
  · have h2 : takeH s.held st0.key.toNat st0.tx.toNat st0.kind.toNat k x = 2 := h2
    show takeH s.held st0.key.toNat st0.tx.toNat st0.kind.toNat k y = 0
    unfold takeH at h2 ⊢
    rw [htn] at h2 ⊢
    by_cases hk0 : k = st0.key.toNat
    · subst hk0
      by_cases hyt : y = tx
      · subst hyt
        rw [if_neg (fun e => hxy e.2)] at h2
        have hx8 := hP.sup st0.key.toNat x (by omega)
        exact absurd (.inl h2) (hags x (by omega) (by omega) hxy)
      · rw [if_neg (fun e => hyt e.2)]
        by_cases hxt : x = tx
        · subst hxt
          rw [if_pos ⟨rfl, rfl⟩] at h2
          by_cases h0 : s.held st0.key.toNat y = 0
          · exact h0
          · have hy8 := hP.sup st0.key.toNat y h0
            have hno := hags y (by omega) h0 hyt
            have : s.held st0.key.toNat x = 2 := by
              have : ¬ st0.kind = 2 := fun e => hno (.inr e)
              omega
            exact h.excl _ x y hk hxy this
        · rw [if_neg (fun e => hxt e.2)] at h2
          exact h.excl _ x y hk hxy h2
    · rw [if_neg (fun e => hk0 e.1)] at h2 ⊢
      exact h.excl k x y hk hxy h2
  · have hs : st ∈ s.done ++ [st0] := hs
    rcases List.mem_append.1 hs with hs | hs
    · exact h.good st hs
    · rw [List.mem_singleton.1 hs]
      exact ⟨by omega, by omega, .inl ⟨t2, t3, t4, t5⟩⟩
  · show overTo (s.done ++ [st0]) k (sAt (s.done ++ [st0]) k).tx.toNat = false
    have hk : k < (s.done ++ [st0]).length := hk
    rw [List.length_append] at hk
    by_cases hkl : k < s.done.length
    · rw [sAt_app hkl, overTo_app _ _ _ (by omega)]
      exact h.okat k hkl
    · have : k = s.done.length := by simp at hk; omega
      subst this
      rw [sAt_new, overTo_app _ _ _ (Nat.le_refl _), htn, h.ovt tx ht]
      exact ho
  · show overTo (s.done ++ [st0]) (s.done ++ [st0]).length x = s.over.getD x false
    rw [overTo_new, htn]
    split
    · rename_i e
      subst e
      rw [ho, decide_eq_false (by omega)]
    · exact h.ovt x hx
  · have hj : j < (s.done ++ [st0]).length := hj
    rw [List.length_append] at hj
    have hc : clashB (sAt (s.done ++ [st0]) i) (sAt (s.done ++ [st0]) j) = true := hc
    have hi3 : (sAt (s.done ++ [st0]) i).kind < 3 := hi3
    have hj3 : (sAt (s.done ++ [st0]) j).kind < 3 := hj3
    show ∃ e, i < e ∧ e < j ∧ (sAt (s.done ++ [st0]) e).tx = (sAt (s.done ++ [st0]) i).tx ∧ 3 ≤ (sAt (s.done ++ [st0]) e).kind
    by_cases hjl : j < s.done.length
    · rw [sAt_app (by omega)] at hc hi3
      rw [sAt_app hjl] at hc hj3
      obtain ⟨e, h1, h2, h3, h4⟩ := h.strict i j hij hjl hc hi3 hj3
      exact ⟨e, h1, h2, by rw [sAt_app (by omega), sAt_app (by omega)]; exact h3, by rw [sAt_app (by omega)]; exact h4⟩
    · have : j = s.done.length := by simp at hj; omega
      subst this
      rw [sAt_app hij] at hc hi3 ⊢
      rw [sAt_new] at hc hj3
      obtain ⟨c1, c2, c3⟩ := clash_parts hc
      have hmem := sAt_mem hij
      obtain ⟨g1, g2, g3⟩ := h.good _ hmem
      obtain ⟨a, ha⟩ : ∃ a, sAt s.done i = a := ⟨_, rfl⟩
      rw [ha] at c1 c2 c3 g1 g2 g3 hi3 hmem ⊢
      have hx : a.tx.toNat < p.length := by omega
      cases hov : s.over.getD a.tx.toNat false with
      | false =>
        exfalso
        have hl := h.lock a hmem hi3 hov
        have hk1 : 1 ≤ a.kind := by rcases g3 with g | g <;> omega
        rw [c2] at hl
        have h2 := hP.two st0.key.toNat a.tx.toNat
        exact hags a.tx.toNat (by omega) (by omega) (by omega) (by omega)
      | true =>
        have hlast := h.ovt a.tx.toNat hx
        rw [hov] at hlast
        obtain ⟨e, h1, h2, h3, h4⟩ := last_marker _ hlast
        have hie : i < e := by
          rcases Nat.lt_trichotomy i e with h5 | h5 | h5
          · exact h5
          · subst h5; rw [ha] at h3; omega
          · exact absurd (by rw [ha]) (h4 i h5 hij)
        obtain ⟨g4, _, _⟩ := h.good _ (sAt_mem h1)
        exact ⟨e, hie, h1, by rw [sAt_app h1]; omega, by rw [sAt_app h1]; exact h3⟩
theorem TI.go {p : List (List St)} (hp : PlanOk p) {s : Rn} {m tx : Nat} (h : TI p s) (hR : Rnd p s m) (ht : tx < p.length) : TI p (goR p s tx) := by
  rcases go_cases hp hR.ok hR.wov ht with ⟨_, e⟩ | ⟨ho, hat, e⟩ | ⟨ho, _, _, s1, hS, hw, ⟨_, e⟩ | ⟨v, hv, hvo, e⟩⟩ | ⟨ho, hat, hag, e⟩
  · rw [e]; exact h
  · rw [e]
    have := TI.fin (vs := s.vict) (K := 3) h hR.ok ht ho (.inl ⟨rfl, hat, rfl⟩)
    exact this.same ⟨rfl, rfl, rfl, rfl, rfl⟩
  · rw [e]; exact h.same hS
  · rw [e]
    have := TI.fin (vs := s.vict ++ [v]) (K := 4) h hR.ok hv hvo (.inr ⟨rfl, rfl⟩)
    refine this.same ⟨?_, ?_, ?_, ?_, ?_⟩
    · show freeTo s1.held v 8 = freeTo s.held v 8; rw [hS.1]
    · exact hS.2.1
    · show s1.over.set v true = s.over.set v true; rw [hS.2.2.1]
    · show s1.done ++ _ = s.done ++ _; rw [hS.2.2.2.1]
    · show s1.vict ++ _ = s.vict ++ _; rw [hS.2.2.2.2]
  · rw [e]; exact h.step hp hR.ok ht ho hat hag
theorem TI.fold {p : List (List St)} (hp : PlanOk p) {s : Rn} {m : Nat} (h : TI p s) (hR : Rnd p s m) : ∀ j, j ≤ p.length → TI p ((List.range j).foldl (goR p) s)
  | 0, _ => h
  | j + 1, hj => by
    have ih := h.fold hp hR j (by omega)
    rw [List.range_succ, List.foldl_append]
    exact ih.go hp (round_go hp hR j (by omega)).1 (by omega)
theorem TI.rounds {p : List (List St)} (hp : PlanOk p) {s : Rn} {m : Nat} (h : TI p s) (hR : Rnd p s m) : ∀ k, TI p (roundsR p k s)
  | 0 => h
  | k + 1 => (h.rounds hp hR k).fold hp (rounds_rnd hp hR k).1 p.length (Nat.le_refl _)
theorem TI.picks {p : List (List St)} (hp : PlanOk p) : ∀ (picks : List Int) {s : Rn} {m : Nat}, TI p s → Rnd p s m → TI p (picks.foldl (pickR p) s)
  | [], s, m, h, _ => h
  | z :: picks, s, m, h, hR => by
    rw [List.foldl_cons]
    by_cases hz : 0 ≤ z ∧ z < p.length
    · have e : pickR p s z = goR p s z.toNat := by unfold pickR; rw [if_pos hz]
      rw [e]
      exact TI.picks hp picks (h.go hp hR (by omega)) (hR.go hp (by omega))
    · have e : pickR p s z = s := by unfold pickR; rw [if_neg hz]
      rw [e]
      exact TI.picks hp picks h hR
end Go.Proofs.YtidnlnlmmnkgoaaDoor
