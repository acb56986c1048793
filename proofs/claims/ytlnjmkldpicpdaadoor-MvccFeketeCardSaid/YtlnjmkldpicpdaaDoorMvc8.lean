/- mvcc: commit. -/
import Derived.Test.YtlnjmkldpicpdaaDoorMvc7
namespace Go.Proofs.YtlnjmkldpicpdaaDoor
open Go.RowKit
set_option linter.unusedVariables false
set_option linter.unusedSimpArgs false
theorem flat_set {α : Type} {f : α → List Value} {size : Nat} (hf : ∀ x, (f x).length = size) : ∀ (L : List α) (k j : Nat) (x' : α) (v : Value), k < L.length → j < size → (∀ x, L[k]? = some x → f x' = (f x).set j v) →
    (L.flatMap f).set (k * size + j) v = (L.set k x').flatMap f
  | [], k, j, x', v, hk, _, _ => by simp at hk
  | a :: L, 0, j, x', v, _, hj, h => by
    rw [List.flatMap_cons, List.set_cons_zero, List.flatMap_cons, h a rfl, Nat.zero_mul, Nat.zero_add, List.set_append_left _ _ (by rw [hf]; exact hj)]
  | a :: L, k + 1, j, x', v, hk, hj, h => by
    rw [List.flatMap_cons, List.set_cons_succ, List.flatMap_cons, List.set_append_right _ _ (by rw [hf, Nat.succ_mul]; omega), hf,
      show (k + 1) * size + j - size = k * size + j by rw [Nat.succ_mul]; omega, flat_set hf L k j x' v (by simpa using hk) hj (fun x hx => h x hx)]
def setTx (s : Bs) (i : Nat) (t : Mx) : Bs := { s with txs := s.txs.set i t }
theorem setTx_len (s : Bs) (i : Nat) (t : Mx) : (setTx s i t).txs.length = s.txs.length := by simp [setTx]
theorem txAt_set {s : Bs} {i : Nat} (h : i < s.txs.length) (t : Mx) (k : Nat) : txAt (setTx s i t) k = if k = i then t else txAt s k := by
  unfold txAt setTx
  simp only [List.getD, List.getElem?_set]
  by_cases hk : k = i
  · subst hk
    rw [if_pos rfl, if_pos rfl]
    simp [h]
  · rw [if_neg (Ne.symm hk), if_neg hk]
theorem txAt_same {s : Bs} {i : Nat} (h : i < s.txs.length) (t : Mx) : txAt (setTx s i t) i = t := by rw [txAt_set h, if_pos rfl]
theorem ordAt_set (s : Bs) (i : Nat) (t : Mx) (k : Nat) : bOrd (setTx s i t) k = bOrd s k := rfl
theorem vsF_set {s : Bs} {i : Nat} (h : i < s.txs.length) {t : Mx} {A A' : Nat → Option Addr} {ca ca' : Nat → Nat} (hA : ∀ k, k ≠ i → A' k = A k ∧ ca' k = ca k) :
    (vsF s A ca).set i (.slice (A' i) t.ops.length (ca' i), t) = vsF (setTx s i t) A' ca' := by
  apply List.ext_getElem?
  intro k
  rw [List.getElem?_set]
  have hl : (vsF s A ca).length = s.txs.length := by simp [vsF]
  by_cases hk : k < s.txs.length
  · rw [vsF_get (s := setTx s i t) (by rw [setTx_len]; exact hk), txAt_set h]
    by_cases hki : k = i
    · subst hki
      simp [hl, hk]
    · rw [if_neg (Ne.symm hki), vsF_get hk, if_neg hki, (hA k hki).1, (hA k hki).2]
  · rw [List.getElem?_eq_none (l := vsF (setTx s i t) A' ca') (by simp [vsF, setTx_len]; omega), List.getElem?_eq_none (l := vsF s A ca) (by omega), if_neg (by omega)]
theorem cells_set {s : Bs} {i j : Nat} {t : Mx} {A A' : Nat → Option Addr} {ca ca' : Nat → Nat} {rest : List Value} {v : Value} (h : i < s.txs.length) (hj : j < 4) (hA : ∀ k, k ≠ i → A' k = A k ∧ ca' k = ca k)
    (hv : mxV (.slice (A' i) t.ops.length (ca' i), t) = (mxV (.slice (A i) (txAt s i).ops.length (ca i), txAt s i)).set j v) :
    ((vsF s A ca).flatMap mxV ++ rest).toArray.setIfInBounds (i * 4 + j) v = ((vsF (setTx s i t) A' ca').flatMap mxV ++ rest).toArray := by
  have hl : ((vsF s A ca).flatMap mxV).length = s.txs.length * 4 := by
    have : ∀ l : List (Value × Mx), (l.flatMap mxV).length = l.length * 4 := fun l => by
      induction l with
      | nil => rfl
      | cons a l ih => rw [List.flatMap_cons, List.length_append, ih, mxV_len]; simp; omega
    rw [this]; simp [vsF]
  rw [List.setIfInBounds_toArray, List.set_append_left _ _ (by rw [hl]; omega), ← vsF_set h hA,
    flat_set mxV_len (vsF s A ca) i j (.slice (A' i) t.ops.length (ca' i), t) v (by simp [vsF, h]) hj (fun x hx => by rw [vsF_get h] at hx; injection hx with hx; subst hx; exact hv)]
theorem cells_blt {s : Bs} {i j : Nat} {A : Nat → Option Addr} {ca : Nat → Nat} {rest : List Value} (h : i < s.txs.length) (hj : j < 4) : Nat.blt (0 + i * 4 + j) ((vsF s A ca).flatMap mxV ++ rest).toArray.size = true := by
  have : ∀ l : List (Value × Mx), (l.flatMap mxV).length = l.length * 4 := fun l => by
    induction l with
    | nil => rfl
    | cons a l ih => rw [List.flatMap_cons, List.length_append, ih, mxV_len]; simp; omega
  have h2 : (vsF s A ca).length = s.txs.length := by simp [vsF]
  apply Nat.ble_eq_true_of_le
  rw [List.size_toArray, List.length_append, this, h2]
  omega
theorem baseC_congr (car : Bool) (vt : Value) {f g : Nat → Value} (time : Int) (h : ∀ j, j < 8 → f j = g j) : baseC car vt f time = baseC car vt g time := by
  unfold baseC
  rw [h 0 (by omega), h 1 (by omega), h 2 (by omega), h 3 (by omega), h 4 (by omega), h 5 (by omega), h 6 (by omega), h 7 (by omega)]
theorem flat4_len (l : List (Value × Mx)) : (l.flatMap mxV).length = l.length * 4 := by
  induction l with
  | nil => rfl
  | cons a l ih => rw [List.flatMap_cons, List.length_append, ih, mxV_len]; simp; omega
theorem cells_get {s : Bs} {i j : Nat} {A : Nat → Option Addr} {ca : Nat → Nat} {rest : List Value} (h : i < s.txs.length) (hj : j < 4) : ((vsF s A ca).flatMap mxV ++ rest).toArray[0 + i * 4 + j]? = (mxV (.slice (A i) (txAt s i).ops.length (ca i), txAt s i))[j]? := by
  have h2 : (vsF s A ca).length = s.txs.length := by simp [vsF]
  rw [Nat.zero_add, List.getElem?_toArray, List.getElem?_append_left (by rw [flat4_len, h2]; omega)]
  exact flat_get mxV_len (vsF s A ca) i j _ (vsF_get h) hj
theorem bpt_setTx {b T cT i j : Nat} {A : Nat → Option Addr} {ca : Nat → Nat} {O : Nat → Option Addr} {co : Nat → Nat} {rest : List Value} {s : Bs} {t : Mx} {v : Value} (h : i < s.txs.length) (hj : j < 4) (hops : t.ops = (txAt s i).ops)
    (hv : mxV (.slice (A i) t.ops.length (ca i), t) = (mxV (.slice (A i) (txAt s i).ops.length (ca i), txAt s i)).set j v) :
    bpt b T cT A ca O co rest (setTx s i t) = [B b 64 (baseC s.careful (.slice (some ⟨T, 0, none⟩) s.txs.length cT) (fun k => .slice (O k) (bOrd s k).length (co k)) s.time),
      B T 67 (((vsF s A ca).flatMap mxV ++ rest).toArray.setIfInBounds (i * 4 + j) v), Many s.txs.length (opRow s A ca), Many 8 (ordRow s O co)] := by
  unfold bpt
  rw [cells_set h hj (fun k _ => ⟨rfl, rfl⟩) hv, setTx_len]
  have e : opRow (setTx s i t) A ca = opRow s A ca := by
    funext k
    unfold opRow
    rw [txAt_set h]
    by_cases hk : k = i
    · subst hk; rw [if_pos rfl, hops]
    · rw [if_neg hk]
  rw [e]
  rfl
theorem Wf.setTx {s : Bs} {cT i : Nat} {t : Mx} (h : Wf s cT) (hi : i < s.txs.length) (ht : t.ops.length ≤ 60) : Wf (setTx s i t) cT where
  olen := h.olen
  tlen := by rw [setTx_len]; exact h.tlen
  cap := by rw [setTx_len]; exact h.cap
  good := fun k l x hl hx => by rw [setTx_len]; exact h.good k l x hl hx
  time0 := h.time0
  ord := h.ord
  ops := fun k => by
    rw [txAt_set hi]
    split
    · exact ht
    · exact h.ops k
/-- The orders of the first k keys have got i. -/
def ordTo (s : Bs) (i k : Nat) : Bs := { s with order := (List.range 8).map fun (j : Nat) => if j < k ∧ 0 < versF (txAt s i).ops j then bOrd s j ++ [i] else bOrd s j }
theorem ordAt_to {s : Bs} {i k j : Nat} (hj : j < 8) : bOrd (ordTo s i k) j = if j < k ∧ 0 < versF (txAt s i).ops j then bOrd s j ++ [i] else bOrd s j := by
  unfold ordTo
  simp [bOrd, List.getD, hj]
theorem ordAt_ge {s : Bs} (h : s.order.length = 8) {j : Nat} (hj : ¬ j < 8) : bOrd s j = [] := by
  unfold bOrd
  rw [List.getD, List.getElem?_eq_none (by omega)]
  rfl
theorem txAt_to (s : Bs) (i k j : Nat) : txAt (ordTo s i k) j = txAt s j := rfl
theorem ordTo_zero {s : Bs} (h : s.order.length = 8) (i : Nat) : ordTo s i 0 = s := by
  unfold ordTo
  have : ((List.range 8).map fun (j : Nat) => if j < 0 ∧ 0 < versF (txAt s i).ops j then bOrd s j ++ [i] else bOrd s j) = s.order := by
    apply List.ext_getElem?
    intro j
    by_cases hj : j < 8
    · rw [ordAt_get (by omega)]; simp [hj]
    · rw [List.getElem?_eq_none (by simp; omega), List.getElem?_eq_none (by omega)]
  rw [this]
theorem ordTo_skip {s : Bs} {i k : Nat} (h : ¬ 0 < versF (txAt s i).ops (k : Int)) : ordTo s i (k + 1) = ordTo s i k := by
  unfold ordTo
  congr 1
  apply List.map_congr_left
  intro j hj
  by_cases hjk : j = k
  · subst hjk; simp [h]
  · simp only [show j < k + 1 ↔ j < k by omega]
theorem ordTo_at {s : Bs} {i k : Nat} (hk : k < 8) : bOrd (ordTo s i k) k = bOrd s k := by rw [ordAt_to hk, if_neg (fun h => by omega)]
theorem ordTo_here {s : Bs} {i k : Nat} (hk : k < 8) (h : 0 < versF (txAt s i).ops (k : Int)) : bOrd (ordTo s i (k + 1)) k = bOrd s k ++ [i] := by rw [ordAt_to hk, if_pos ⟨by omega, h⟩]
theorem ordTo_other {s : Bs} {i k j : Nat} (hj : j < 8) (hjk : j ≠ k) : bOrd (ordTo s i (k + 1)) j = bOrd (ordTo s i k) j := by
  rw [ordAt_to hj, ordAt_to hj]
  simp only [show j < k + 1 ↔ j < k by omega]
theorem Wf.ordTo {s : Bs} {cT i : Nat} (h : Wf s cT) (hi : i < s.txs.length) (ht : ∀ k, ((bOrd s k).length : Int) + 1 ≤ s.time) (k : Nat) : Wf (ordTo s i k) cT where
  olen := by simp [Go.Proofs.YtlnjmkldpicpdaaDoor.ordTo]
  tlen := h.tlen
  cap := h.cap
  good := fun j l x hl hx => by
    have hj : j < 8 := by
      have := (List.getElem?_eq_some_iff.1 hl).1
      simpa [Go.Proofs.YtlnjmkldpicpdaaDoor.ordTo] using this
    have hl' : bOrd (Go.Proofs.YtlnjmkldpicpdaaDoor.ordTo s i k) j = l := by unfold bOrd; rw [List.getD, hl]; rfl
    rw [ordAt_to hj] at hl'
    split at hl'
    · rw [← hl'] at hx
      rcases List.mem_append.1 hx with hx | hx
      · exact h.good j _ x (ordAt_get (by rw [h.olen]; exact hj)) hx
      · rw [List.mem_singleton.1 hx]; exact hi
    · rw [← hl'] at hx
      exact h.good j _ x (ordAt_get (by rw [h.olen]; exact hj)) hx
  time0 := h.time0
  ord := fun j => by
    by_cases hj : j < 8
    · rw [ordAt_to hj]
      have h1 := ht j
      have h2 := h.ord j
      show _ ≤ s.time
      split
      · rw [List.length_append]; simp; omega
      · exact h2
    · rw [ordAt_ge (by simp [Go.Proofs.YtlnjmkldpicpdaaDoor.ordTo]) hj]
      exact h.time0
  ops := h.ops
def overT (t : Mx) : Mx := { t with over := true }
def comT (t : Mx) (c : Int) : Mx := { t with com := c }
def commitF (s : Bs) (i : Nat) : Bs × Bool :=
  let s1 := setTx s i (overT (txAt s i))
  if beatenF s1 i then (s1, false)
  else
    let s2 := setTx s1 i (comT (txAt s1 i) s.time)
    if s.careful && roundF s2 i then (setTx s2 i (comT (txAt s2 i) (-1)), false)
    else (ordTo s2 i 8, true)
end Go.Proofs.YtlnjmkldpicpdaaDoor
