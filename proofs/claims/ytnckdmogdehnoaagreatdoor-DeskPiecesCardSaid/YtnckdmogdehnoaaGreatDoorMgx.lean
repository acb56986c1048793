/- Part of the proof that a desk answers in pieces. -/
import Derived.Test.YtnckdmogdehnoaaGreatDoorPSxI
import Derived.Test.YtnckdmogdehnoaaGreatDoorPSq
set_option linter.unusedVariables false
set_option linter.unusedSimpArgs false
namespace Go.Proofs.YtnckdmogdehnoaaGreatDoor
open Go
variable {rbs : List Nat} {i n ob r tb te : Nat} {f : Nat → Nat → Bool} {w : World}
set_option linter.unusedSectionVars false
def MGE (te tb ob : Nat) (rbs : List Nat) (n : Nat) (f : Nat → Nat → Bool) : Ent := ⟨fun k => k = ob ∨ ∃ i : Nat, rbs[i]? = some k, fun w => MG w te tb ob rbs n f⟩
theorem MGE.ok (h : MG w te tb ob rbs n f) : (MGE te tb ob rbs n f).ok w :=
 Ent.mk_ok h (fun k hk => by
  rcases hk with rfl | ⟨i, hi⟩
  ·exact h.out.lt
  exact (h.row i k hi).lt) (fun S w1 w2 hc hS h1 => h1.chg hc (hS ob (.inl Z)) (fun i r hr => hS r (.inr ⟨i, hr⟩)))
def MGpE (te tb ob : Nat) (rbs : List Nat) (n : Nat) (f : Nat → Nat → Bool) : Ent := ⟨fun k => k = ob ∨ ∃ i : Nat, rbs[i]? = some k, fun w => MGp w te tb ob rbs n f⟩
theorem MGpE.ok (h : MGp w te tb ob rbs n f) : (MGpE te tb ob rbs n f).ok w :=
 Ent.mk_ok h (fun k hk => by
  rcases hk with rfl | ⟨i, hi⟩
  ·exact h.out.lt
  exact (h.row i k hi).lt) (fun S w1 w2 hc hS h1 => h1.chg hc (hS ob (.inl Z)) (fun i r hr => hS r (.inr ⟨i, hr⟩)))
theorem mg_cell (h : MG w te tb ob rbs n f) (hr : rbs[i]? = some r) (hi : i < n) : w.cell? ⟨ob, i, none⟩ = some (.slice (some ⟨r, 0, none⟩) n n) := by
 obtain ⟨r', h1, h2, _⟩ := h.at_ hi
 rw [hr] at h1
 injection h1 with h1
 subst h1
 exact h2
theorem mg_bool {j : Nat} (h : MG w te tb ob rbs n f) (hr : rbs[i]? = some r) (hi : i < n) (hj : j < n) : w.cell? ⟨r, j, none⟩ = some (.bool (f i j)) := by
 obtain ⟨r', h1, _, h2, _⟩ := h.at_ hi
 rw [hr] at h1
 injection h1 with h1
 subst h1
 exact h2 j hj
theorem mgp_cell (h : MGp w te tb ob rbs n f) (hr : rbs[i]? = some r) : w.cell? ⟨ob, i, none⟩ = some (.slice (some ⟨r, 0, none⟩) n n) := by
 have hl := (gS_ hr).1
 rw [h.out.cell]
 unfold outC
 rw [List.getElem?_toArray, List.getElem?_append_left (by simpa using hl), List.getElem?_map, hr]
 rfl
theorem MGp.set_ {j : Nat} (h : MGp w te tb ob rbs n f) (ht : te ≠ tb) (hr : rbs[i]? = some r) (hj : j < n) (b : Bool) :
  MGp (w.setCell ⟨r, j, none⟩ (.bool b)) te tb ob rbs n (fun x y => if x = i ∧ y = j then b else f x y) := by
 have hne0 : ob ≠ r := h.out.ne_ (h.row i r hr) ht
 refine ⟨h.out.far (p := ⟨r, j, none⟩) hne0 _, h.len, fun i' r' hr' => ?_, h.nd⟩
 by_cases hi : i' = i
 ·subst hi
  have : r' = r := by rw [hr] at hr'; injection hr' with e; exact e.symm
  subst this
  have := (h.row i' r' hr').set_ j (.bool b)
  have e : ((List.range n).map fun y => Value.bool (f i' y)).toArray.setIfInBounds j (.bool b) = ((List.range n).map fun y => Value.bool (if i' = i' ∧ y = j then b else f i' y)).toArray := by
   apply Array.ext
   ·simp
   intro k h1 h2
   simp only [Array.getElem_setIfInBounds, List.getElem_toArray, List.getElem_map, List.getElem_range]
   by_cases hk : j = k
   ·subst hk; simp
   have : ¬ k = j := fun e => hk e.symm
   simp [hk, this]
  rw [e] at this
  exact this
 have hne : r' ≠ r := fun e => hi (h.nd i' i r (by rw [hr', e]) hr)
 have := (h.row i' r' hr').far (p := ⟨r, j, none⟩) hne (.bool b)
 have e : ((List.range n).map fun y => Value.bool (if i' = i ∧ y = j then b else f i' y)) = ((List.range n).map fun y => Value.bool (f i' y)) := by
  apply List.map_congr_left
  intro y _
  simp [hi]
 rw [e]
 exact this
theorem MGp.congr {g : Nat → Nat → Bool} (h : MGp w te tb ob rbs n f) (hf : ∀ i j, i < rbs.length → j < n → f i j = g i j) : MGp w te tb ob rbs n g := by
 refine ⟨h.out, h.len, fun i r hr => ?_, h.nd⟩
 have hi := (gS_ hr).1
 have e : ((List.range n).map fun y => Value.bool (g i y)) = ((List.range n).map fun y => Value.bool (f i y)) := by
  apply List.map_congr_left
  intro y hy
  rw [hf i y hi (List.mem_range.1 hy)]
 rw [e]
 exact h.row i r hr
section
variable {P : Program} {N : Nat} {ops : Array Oper} {Q : XPost} {rest : List Oper} {ρ : Env} {o : Oper} {w0 w : World} {S : Nat → Prop} {H : List Ent} {d t te tb ob n tt r j ri : Nat} {rbs : List Nat} {f : Nat → Nat → Bool} {x y : Operand} {v : Bool}
theorem WL_stMG (i : Nat) (hi : H[i]? = some (MGE te tb ob rbs n f)) (hI : Inv S w0 w H) (hw : wantedR ops ρ o = true) (hd : o.dst = none) (ho : o.op = .store tt x y) (hx : ev ρ x = .pointer (some ⟨r, j, none⟩)) (hy : ev ρ y = .bool v) (hs : szB P tt 1 = true) (ht : te ≠ tb) (hr : rbs[ri]? = some r) (hj : j < n)
  (h : ∀ w', Inv S w0 w' (H.set i (MGE te tb ob rbs n (fun p q => if p = ri ∧ q = j then v else f p q))) → WL P N ops Q rest ρ w') : WL P N ops Q (o :: rest) ρ w := by
 have hM : MG w te tb ob rbs n f := (hI.ok _ (gM_ hi)).1
 exact WL_store (w' := w.setCell ⟨r, j, none⟩ (.bool v)) hw hd (run_store (n := 1) (vs := #[.bool v]) ho hx hy Z hs Z (hM.row ri r hr) (by simp; omega) Z)
  (h _ (hI.upd i hi ((Chg.refl (MGE te tb ob rbs n f).D w).setCell (p := ⟨r, j, none⟩) (.inl (.inr ⟨ri, hr⟩)) _) (MGE.ok (hM.set_ ht hr hj v)) (fun k hk => .inl hk)))
theorem WL_stMGp (i : Nat) (hi : H[i]? = some (MGpE te tb ob rbs n f)) (hI : Inv S w0 w H) (hw : wantedR ops ρ o = true) (hd : o.dst = none) (ho : o.op = .store tt x y) (hx : ev ρ x = .pointer (some ⟨r, j, none⟩)) (hy : ev ρ y = .bool v) (hs : szB P tt 1 = true) (ht : te ≠ tb) (hr : rbs[ri]? = some r) (hj : j < n)
  (h : ∀ w', Inv S w0 w' (H.set i (MGpE te tb ob rbs n (fun p q => if p = ri ∧ q = j then v else f p q))) → WL P N ops Q rest ρ w') : WL P N ops Q (o :: rest) ρ w := by
 have hM : MGp w te tb ob rbs n f := (hI.ok _ (gM_ hi)).1
 exact WL_store (w' := w.setCell ⟨r, j, none⟩ (.bool v)) hw hd (run_store (n := 1) (vs := #[.bool v]) ho hx hy Z hs Z (hM.row ri r hr) (by simp; omega) Z)
  (h _ (hI.upd i hi ((Chg.refl (MGpE te tb ob rbs n f).D w).setCell (p := ⟨r, j, none⟩) (.inl (.inr ⟨ri, hr⟩)) _) (MGpE.ok (hM.set_ ht hr hj v)) (fun k hk => .inl hk)))
theorem WL_mgNext (hI : Inv S w0 w (B r tb (rep (.bool false) n) :: MGpE te tb ob rbs n f :: H)) (hw : wantedR ops ρ o = true) (hd : o.dst = none) (ho : o.op = .store tt x y) (hx : ev ρ x = .pointer (some ⟨ob, rbs.length, none⟩)) (hy : ev ρ y = .slice (some ⟨r, 0, none⟩) n n) (hs : szB P tt 1 = true) (ht : te ≠ tb) (hl : rbs.length < n) (hf : ∀ j, j < n → f rbs.length j = false)
  (h : ∀ w', Inv S w0 w' (MGpE te tb ob (rbs ++ [r]) n f :: H) → WL P N ops Q rest ρ w') : WL P N ops Q (o :: rest) ρ w := by
 have hMp : MGp w te tb ob rbs n f := hI.g1
 have hrow : Blk w r tb (rep (.bool false) n) := hI.g0
 have hnew : ∀ i x : Nat, rbs[i]? = some x → x ≠ r := fun i x hx e => hI.disj (i := 0) (j := 1) rfl rfl (by decide) r rfl (.inr ⟨i, e ▸ hx⟩)
 have hro : rep (.bool false) n = ((List.range n).map fun j => Value.bool (f rbs.length j)).toArray := by
  apply Array.ext
  ·simp [rep]
  intro k h1 h2
  have hk : k < n := by simpa [rep] using h1
  simp [rep, hf k hk]
 have hnext := hMp.next (r := r) ht hl (by rw [← hro]; exact hrow) hnew
 refine WL_store hw hd (run_store (n := 1) (vs := #[.slice (some ⟨r, 0, none⟩) n n]) ho hx hy Z hs Z hMp.out (by simp [outC]; omega) Z) (h _ ?_)
 exact hI.join.u0 (e' := MGpE te tb ob (rbs ++ [r]) n f) ((Chg.refl _ w).setCell (p := ⟨ob, rbs.length, none⟩) (.inl (.inr (.inl Z))) _) (MGpE.ok hnext) (fun k' hk' => .inl (by
  rcases hk' with hk' | ⟨i, hi⟩
  ·exact .inr (.inl hk')
  rcases Nat.lt_or_ge i rbs.length with h1 | h1
  ·rw [List.getElem?_append_left h1] at hi; exact .inr (.inr ⟨i, hi⟩)
  rw [List.getElem?_append_right h1] at hi
  have := (gS_ hi).1
  have h0 : i - rbs.length = 0 := by simp at this; omega
  rw [h0] at hi
  simp at hi
  exact .inl hi.symm))
end
end Go.Proofs.YtnckdmogdehnoaaGreatDoor
