/- Part of the proof that a desk answers in pieces. -/
import Derived.Test.YtnckdmogdehnoaaGreatDoorPReg
set_option linter.unusedVariables false
set_option linter.unusedSimpArgs false
namespace Go.Proofs.YtnckdmogdehnoaaGreatDoor
def natV (l : List Nat) : List Value := l.map fun i => Value.int .i64 (i : Nat)
open Go.RowKit
def SqG (w : World) (D : Nat → Prop) (v : Value) (n : Nat) (f : Nat → Nat → Bool) : Prop :=
 ∃ A c, v = .slice A n c ∧ n ≤ c ∧ c ≤ 9223372036854775807 ∧ (0 < n → ∃ b o, A = some ⟨b, o, none⟩ ∧ D b ∧ ∀ i, i < n → ∃ rb ro c', w.cell? ⟨b, o + i, none⟩ = some (.slice (some ⟨rb, ro, none⟩) n c') ∧
  n ≤ c' ∧ c' ≤ 9223372036854775807 ∧ D rb ∧ ∀ j, j < n → w.cell? ⟨rb, ro + j, none⟩ = some (.bool (f i j)))
section
variable {w w' : World} {D E S : Nat → Prop} {v : Value} {n : Nat} {f : Nat → Nat → Bool}
theorem chg_cell {p : Addr} {u : Value} (hc : Chg S w w') (hs : ¬ S p.block) (h : w.cell? p = some u) : w'.cell? p = some u :=
 (World.cell?_of_block (hc.block p.block (World.block_lt_of_cell? w _ h) hs)).trans h
theorem SqG.chg (h : SqG w D v n f) (hc : Chg S w w') (hs : ∀ k, D k → ¬ S k) : SqG w' D v n f := by
 obtain ⟨A, c, hv, h1, h2, h3⟩ := h
 refine ⟨A, c, hv, h1, h2, fun hn => ?_⟩
 obtain ⟨b, o, e, hb, hr⟩ := h3 hn
 refine ⟨b, o, e, hb, fun i hi => ?_⟩
 obtain ⟨rb, ro, c', q1, q2, q3, q4, q5⟩ := hr i hi
 exact ⟨rb, ro, c', chg_cell hc (hs b hb) q1, q2, q3, q4, fun j hj => chg_cell hc (hs rb q4) (q5 j hj)⟩
theorem SqG.pure (h : SqG w D v n f) (hc : Pure w w') : SqG w' D v n f := h.chg (hc.chg NF) fun _ _ h => h
theorem SqG.get {A : Option Addr} {c : Nat} (h : SqG w D (.slice A n c) n f) (hn : 0 < n) : ∃ b o, A = some ⟨b, o, none⟩ ∧ b < w.heap.size ∧ ∀ i, i < n → ∃ rb ro c', w.cell? ⟨b, o + i, none⟩ = some (.slice (some ⟨rb, ro, none⟩) n c') ∧
  n ≤ c' ∧ c' ≤ 9223372036854775807 ∧ rb < w.heap.size ∧ ∀ j, j < n → w.cell? ⟨rb, ro + j, none⟩ = some (.bool (f i j)) := by
 obtain ⟨A', c', hv, h1, h2, h3⟩ := h
 injection hv with ha _ _
 subst ha
 obtain ⟨b, o, e, hb, hr⟩ := h3 hn
 refine ⟨b, o, e, ?_, fun i hi => ?_⟩
 ·obtain ⟨rb, ro, c', q1, _⟩ := hr 0 hn
  exact World.block_lt_of_cell? w _ q1
 obtain ⟨rb, ro, c', q1, q2, q3, q4, q5⟩ := hr i hi
 exact ⟨rb, ro, c', q1, q2, q3, World.block_lt_of_cell? w _ (q5 0 hn), q5⟩
end
structure MG (w : World) (te tb : TypeId) (ob : Nat) (rbs : List Nat) (n : Nat) (f : Nat → Nat → Bool) : Prop where
 out : Blk w ob te (rbs.map fun r => Value.slice (some ⟨r, 0, none⟩) n n).toArray
 len : rbs.length = n
 row : ∀ i r : Nat, rbs[i]? = some r → Blk w r tb ((List.range n).map fun j => Value.bool (f i j)).toArray
 nd : ∀ i j r : Nat, rbs[i]? = some r → rbs[j]? = some r → i = j
section
variable {w w' : World} {te tb : TypeId} {ob n : Nat} {rbs : List Nat} {f : Nat → Nat → Bool} {S D : Nat → Prop}
theorem MG.at_ (h : MG w te tb ob rbs n f) {i : Nat} (hi : i < n) : ∃ r, rbs[i]? = some r ∧ w.cell? ⟨ob, i, none⟩ = some (.slice (some ⟨r, 0, none⟩) n n) ∧ (∀ j, j < n → w.cell? ⟨r, j, none⟩ = some (.bool (f i j))) ∧ (∀ j, w.frozen? ⟨r, j, none⟩ = false) ∧ r < w.heap.size := by
 have hl : i < rbs.length := by rw [h.len]; exact hi
 have hr : rbs[i]? = some rbs[i] := gE_ hl
 refine ⟨rbs[i], hr, ?_, fun j hj => ?_, fun j => (h.row i _ hr).frozen j, (h.row i _ hr).lt⟩
 ·rw [h.out.cell]; simp [hr]
 rw [(h.row i _ hr).cell]; simp [hj]
theorem MG.ne (h : MG w te tb ob rbs n f) (ht : te ≠ tb) {i r : Nat} (hr : rbs[i]? = some r) : ob ≠ r := h.out.ne_ (h.row i r hr) ht
theorem MG.set_ (h : MG w te tb ob rbs n f) (ht : te ≠ tb) {i j r : Nat} (hr : rbs[i]? = some r) (hj : j < n) (b : Bool) :
  MG (w.setCell ⟨r, j, none⟩ (.bool b)) te tb ob rbs n (fun x y => if x = i ∧ y = j then b else f x y) := by
 refine ⟨h.out.far (p := ⟨r, j, none⟩) (h.ne ht hr) _, h.len, fun i' r' hr' => ?_, h.nd⟩
 by_cases hi : i' = i
 ·subst hi
  have : r' = r := by rw [hr] at hr'; injection hr' with e; exact e.symm
  subst this
  have := (h.row i' r' hr).set_ j (.bool b)
  have e : ((List.range n).map fun y => Value.bool (f i' y)).toArray.setIfInBounds j (.bool b) = ((List.range n).map fun y => Value.bool (if i' = i' ∧ y = j then b else f i' y)).toArray := by
   apply Array.ext
   ·simp
   intro k h1 h2
   simp only [Array.getElem_setIfInBounds, List.getElem_toArray, List.getElem_map, List.getElem_range]
   by_cases hk : j = k
   ·subst hk; simp
   have : ¬ k = j := fun e => hk e.symm
   simp [hk, this]
  rw [e] at this
  exact this
 have hne : r' ≠ r := fun e => hi (h.nd i' i r (by rw [hr', e]) hr)
 have := (h.row i' r' hr').far (p := ⟨r, j, none⟩) hne (.bool b)
 have e : ((List.range n).map fun y => Value.bool (if i' = i ∧ y = j then b else f i' y)) = ((List.range n).map fun y => Value.bool (f i' y)) := by
  apply List.map_congr_left
  intro y _
  simp [hi]
 rw [e]
 exact this
theorem MG.chg (h : MG w te tb ob rbs n f) (hc : Chg S w w') (ho : ¬ S ob) (hs : ∀ i r : Nat, rbs[i]? = some r → ¬ S r) : MG w' te tb ob rbs n f :=
 ⟨h.out.chg hc ho, h.len, fun i r hr => (h.row i r hr).chg hc (hs i r hr), h.nd⟩
theorem MG.congr {g : Nat → Nat → Bool} (h : MG w te tb ob rbs n f) (hf : ∀ i j, i < n → j < n → f i j = g i j) : MG w te tb ob rbs n g := by
 refine ⟨h.out, h.len, fun i r hr => ?_, h.nd⟩
 have hi : i < n := by have := (gS_ hr).1; rw [h.len] at this; exact this
 have e : ((List.range n).map fun y => Value.bool (g i y)) = ((List.range n).map fun y => Value.bool (f i y)) := by
  apply List.map_congr_left
  intro y hy
  rw [hf i y hi (List.mem_range.1 hy)]
 rw [e]
 exact h.row i r hr
theorem MG.toSq (h : MG w te tb ob rbs n f) (hm : n ≤ 9223372036854775807) (ho : D ob) (hr : ∀ i r : Nat, rbs[i]? = some r → D r) : SqG w D (.slice (some ⟨ob, 0, none⟩) n n) n f := by
 refine ⟨_, _, Z, Nat.le_refl _, hm, fun _ => ⟨ob, 0, Z, ho, fun i hi => ?_⟩⟩
 obtain ⟨r, h1, h2, h3, _, _⟩ := h.at_ hi
 exact ⟨r, 0, n, by rw [Nat.zero_add]; exact h2, Nat.le_refl _, hm, hr i r h1, fun j hj => by rw [Nat.zero_add]; exact h3 j hj⟩
end
def outC (rbs : List Nat) (n : Nat) : Array Value := ((rbs.map fun r => Value.slice (some ⟨r, 0, none⟩) n n) ++ List.replicate (n - rbs.length) (Value.slice none 0 0)).toArray
structure MGp (w : World) (te tb : TypeId) (ob : Nat) (rbs : List Nat) (n : Nat) (f : Nat → Nat → Bool) : Prop where
 out : Blk w ob te (outC rbs n)
 len : rbs.length ≤ n
 row : ∀ i r : Nat, rbs[i]? = some r → Blk w r tb ((List.range n).map fun j => Value.bool (f i j)).toArray
 nd : ∀ i j r : Nat, rbs[i]? = some r → rbs[j]? = some r → i = j
section
variable {w w' : World} {te tb : TypeId} {ob n : Nat} {rbs : List Nat} {f : Nat → Nat → Bool} {S : Nat → Prop}
theorem MGp.start (h : Blk w ob te (rep (.slice none 0 0) n)) : MGp w te tb ob [] n f := by
 refine ⟨?_, by simp, fun i r h => by simp at h, fun i j r h => by simp at h⟩
 have e : outC [] n = rep (.slice none 0 0) n := by
  apply Array.ext
  ·simp [outC, rep]
  intro k h1 h2; simp [outC, rep]
 rw [e]
 exact h
theorem MGp.full (h : MGp w te tb ob rbs n f) (hl : rbs.length = n) : MG w te tb ob rbs n f := by
 refine ⟨?_, hl, h.row, h.nd⟩
 have e : outC rbs n = (rbs.map fun r => Value.slice (some ⟨r, 0, none⟩) n n).toArray := by simp [outC, hl]
 rw [← e]
 exact h.out
theorem MGp.chg (h : MGp w te tb ob rbs n f) (hc : Chg S w w') (ho : ¬ S ob) (hs : ∀ i r : Nat, rbs[i]? = some r → ¬ S r) : MGp w' te tb ob rbs n f :=
 ⟨h.out.chg hc ho, h.len, fun i r hr => (h.row i r hr).chg hc (hs i r hr), h.nd⟩
theorem MGp.next (h : MGp w te tb ob rbs n f) (ht : te ≠ tb) (hl : rbs.length < n) {r : Nat} (hr : Blk w r tb ((List.range n).map fun j => Value.bool (f rbs.length j)).toArray) (hnew : ∀ i x : Nat, rbs[i]? = some x → x ≠ r) :
  MGp (w.setCell ⟨ob, rbs.length, none⟩ (.slice (some ⟨r, 0, none⟩) n n)) te tb ob (rbs ++ [r]) n f := by
 have hne : r ≠ ob := hr.ne_ h.out (Ne.symm ht)
 refine ⟨?_, by simp; omega, fun i x hx => ?_, fun i j x hi hj => ?_⟩
 ·have hsz : (outC rbs n).size = n := by simp [outC]; omega
  have hlm : (rbs.map fun r => Value.slice (some ⟨r, 0, none⟩) n n).length = rbs.length := by simp
  have hlm' : ((rbs ++ [r]).map fun r => Value.slice (some ⟨r, 0, none⟩) n n).length = rbs.length + 1 := by simp
  have e : (outC rbs n).setIfInBounds rbs.length (.slice (some ⟨r, 0, none⟩) n n) = outC (rbs ++ [r]) n := by
   apply Array.ext_getElem?
   intro k
   rw [Array.getElem?_setIfInBounds, hsz]
   by_cases hk : rbs.length = k
   ·subst hk
    rw [if_pos rfl, if_pos hl]
    unfold outC
    rw [List.getElem?_toArray]
    rw [List.getElem?_append_left (by omega)]
    simp
   rw [if_neg hk]
   unfold outC
   rw [List.getElem?_toArray, List.getElem?_toArray]
   rcases Nat.lt_or_ge k rbs.length with hlt | hge
   ·rw [List.getElem?_append_left (by omega), List.getElem?_append_left (by omega), List.map_append, List.getElem?_append_left (by omega)]
   rw [List.getElem?_append_right (by omega), List.getElem?_append_right (by omega), hlm, hlm', List.getElem?_replicate, List.getElem?_replicate]
   have : (k - rbs.length < n - rbs.length) ↔ (k - (rbs.length + 1) < n - (rbs ++ [r]).length) := by simp; omega
   simp only [this]
  rw [← e]
  exact h.out.set_ _ _
 ·rcases Nat.lt_or_ge i rbs.length with hlt | hge
  ·rw [List.getElem?_append_left hlt] at hx
   exact (h.row i x hx).far (p := ⟨ob, rbs.length, none⟩) (Ne.symm (h.out.ne_ (h.row i x hx) ht)) _
  rw [List.getElem?_append_right hge] at hx
  have hi : i = rbs.length := by
   have := (gS_ hx).1
   simp at this
   omega
  subst hi
  simp at hx
  subst hx
  exact hr.far (p := ⟨ob, rbs.length, none⟩) hne _
 rcases Nat.lt_or_ge i rbs.length with hlt | hge <;> rcases Nat.lt_or_ge j rbs.length with hlt' | hge'
 ·rw [List.getElem?_append_left hlt] at hi
  rw [List.getElem?_append_left hlt'] at hj
  exact h.nd i j x hi hj
 ·rw [List.getElem?_append_left hlt] at hi
  rw [List.getElem?_append_right hge'] at hj
  have hm := gM_ hj
  simp at hm
  exact absurd hm (hnew i x hi)
 ·rw [List.getElem?_append_right hge] at hi
  rw [List.getElem?_append_left hlt'] at hj
  have hm := gM_ hi
  simp at hm
  exact absurd hm (hnew j x hj)
 have h1 := (gS_ hi).1
 have h2 := (gS_ hj).1
 simp at h1 h2
 omega
theorem rep_row (n : Nat) : rep (.bool false) n = ((List.range n).map fun _ => Value.bool false).toArray := by
 apply Array.ext
 ·simp [rep]
 intro k h1 h2; simp [rep]
end
end Go.Proofs.YtnckdmogdehnoaaGreatDoor
