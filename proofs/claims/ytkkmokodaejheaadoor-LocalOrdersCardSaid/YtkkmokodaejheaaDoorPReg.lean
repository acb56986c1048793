/- Texts of the proof, merged: Base, Reg. -/
import Derived.WalkKit
import Derived.Lib.Hide
import Derived.Deep.Draws
import Derived.Deep.RegionLaw
import Derived.Deep.AppendLies
import Derived.Deep.QuietTactic
import Derived.BigQuiet
import Derived.Deep.LoopGhost
import Derived.Deep.Light
import Derived.Maps.AppendAt
import Derived.StillTailTactics
import Derived.OrdersHeld
import Derived.StillTactics
import Derived.OwnWalk
set_option linter.unusedVariables false
set_option linter.unusedSimpArgs false
set_option linter.unusedSectionVars false
namespace Go.Proofs.YtkkmokodaejheaaDoor
open Go.RowKit
structure Chg (S : Nat → Prop) (w w' : World) : Prop where
 os : w'.os = w.os
 tape : w'.tape = w.tape
 output : w'.output = w.output
 size : w.heap.size ≤ w'.heap.size
 block : ∀ k, k < w.heap.size → ¬ S k → w'.heap[k]? = w.heap[k]?
abbrev Pure (w w' : World) : Prop := Below w.heap.size w w'
section
variable {S T : Nat → Prop} {a w w' : World}
theorem q1 {α β : Type} {a c : α} {b d : β} (h : @Eq (α × β) (a, b) (c, d)) : a = c := (Prod.mk.inj h).1
theorem q2 {α β : Type} {a c : α} {b d : β} (h : @Eq (α × β) (a, b) (c, d)) : b = d := (Prod.mk.inj h).2
theorem Chg.refl (S : Nat → Prop) (w : World) : Chg S w w := ⟨rfl, rfl, rfl, Nat.le_refl _, fun _ _ _ => rfl⟩
theorem Chg.trans' (h : Chg S a w) (k : Chg T w w') (hT : ∀ i, i < a.heap.size → T i → S i) : Chg S a w' :=
 ⟨k.os.trans h.os, k.tape.trans h.tape, k.output.trans h.output, Nat.le_trans h.size k.size,
  fun i hi hs => (k.block i (Nat.lt_of_lt_of_le hi h.size) (fun ht => hs (hT i hi ht))).trans (h.block i hi hs)⟩
theorem Chg.trans (h : Chg S a w) (k : Chg S w w') : Chg S a w' := h.trans' k fun _ _ h => h
theorem Chg.mono (h : Chg S a w) (hT : ∀ i, i < a.heap.size → S i → T i) : Chg T a w :=
 ⟨h.os, h.tape, h.output, h.size, fun i hi ht => h.block i hi (fun hs => ht (hT i hi hs))⟩
theorem Chg.drew (h : Chg S a w) : Chg S a w.drew := ⟨h.os, h.tape, h.output, h.size, h.block⟩
theorem Chg.drewN (h : Chg S a w) (n : Nat) : Chg S a (w.drewN n) := ⟨h.os, h.tape, h.output, h.size, h.block⟩
theorem Chg.alloc (h : Chg S a w) (o : Obj) : Chg S a (w.alloc o) :=
 ⟨h.os, h.tape, h.output, Nat.le_trans h.size (by simp), fun i hi hs => (Below.heap_alloc w o i (Nat.lt_of_lt_of_le hi h.size)).trans (h.block i hi hs)⟩
theorem Chg.setCell (h : Chg S a w) {p : Addr} (hp : S p.block ∨ a.heap.size ≤ p.block) (u : Value) : Chg S a (w.setCell p u) :=
 ⟨h.os, h.tape, h.output, by simpa [World.setCell] using h.size, fun i hi hs => (Below.heap_setCell w p u i (by
  rintro rfl
  rcases hp with hp | hp
  ·exact hs hp
  ·omega)).trans (h.block i hi hs)⟩
theorem Chg.setCells {b : Nat} (hp : S b ∨ a.heap.size ≤ b) : ∀ (vs : List Value) (o : Nat) {w : World}, Chg S a w → Chg S a (w.setCells b o vs)
 | [], _, _, h => h
 | v :: r, o, _, h => Chg.setCells hp r (o + 1) (h.setCell (p := ⟨b, o, none⟩) hp v)
theorem Chg.grown {row : Option Nat} (h : Chg S a w) (hg : w.grownBy w' row) (hr : ∀ k, row = some k → S k ∨ a.heap.size ≤ k) : Chg S a w' :=
 ⟨hg.os.trans h.os, hg.tape.trans h.tape, hg.output.trans h.output, Nat.le_trans h.size hg.size, fun k hk hs =>
  (hg.block k (Nat.lt_of_lt_of_le hk h.size) (fun e => by rcases hr k e.symm with h1 | h1; exact hs h1; omega)).trans (h.block k hk hs)⟩
theorem Chg.pure (h : Chg S a w) (hg : Pure w w') : Chg S a w' :=
 ⟨hg.os.trans h.os, hg.tape.trans h.tape, hg.output.trans h.output, Nat.le_trans h.size hg.size, fun k hk hs =>
  (hg.block k (Nat.lt_of_lt_of_le hk h.size)).trans (h.block k hk hs)⟩
theorem Chg.toPure (h : Chg (fun _ => False) a w) : Pure a w := ⟨h.os, h.tape, h.output, h.size, fun k hk => h.block k hk id⟩
theorem Chg.below {B : Nat} (h : Chg (fun k => B ≤ k) a w) (hB : B ≤ a.heap.size) : Below B a w :=
 ⟨h.os, h.tape, h.output, h.size, fun k hk => h.block k (by omega) (by omega)⟩
theorem Pure.chg (h : Pure a w) (S : Nat → Prop) : Chg S a w := (Chg.refl S a).pure h
theorem Pure.refl (w : World) : Pure w w := Below.refl _ _
theorem Pure.trans (h : Pure a w) (k : Pure w w') : Pure a w' := ((Chg.refl (fun _ => False) a).pure h |>.pure k).toPure
theorem Pure.drew (h : Pure a w) : Pure a w.drew := Below.drew h
theorem Pure.drewN (h : Pure a w) (n : Nat) : Pure a (w.drewN n) := ⟨h.os, h.tape, h.output, h.size, h.block⟩
theorem Pure.alloc (h : Pure a w) (o : Obj) : Pure a (w.alloc o) := Below.alloc h h.size o
theorem Pure.setCell (h : Pure a w) {p : Addr} (hp : a.heap.size ≤ p.block) (u : Value) : Pure a (w.setCell p u) := Below.setCell h hp u
theorem Pure.grown {row : Option Nat} (h : Pure a w) (hg : w.grownBy w' row) (hr : ∀ k, row = some k → a.heap.size ≤ k) : Pure a w' := Below.grown h hg h.size hr
end
def Blk (w : World) (g : Nat) (t : TypeId) (cs : Array Value) : Prop := w.heap[g]? = some (.cells cs t (0, 0))
section
variable {w w' : World} {g : Nat} {t : TypeId} {cs : Array Value} {S : Nat → Prop}
theorem Blk.lt (h : Blk w g t cs) : g < w.heap.size := by
 rcases Nat.lt_or_ge g w.heap.size with hlt | hge
 ·exact hlt
 ·unfold Blk at h; rw [Array.getElem?_eq_none hge] at h; cases h
theorem Blk.cell (h : Blk w g t cs) (i : Nat) : w.cell? ⟨g, i, none⟩ = cs[i]? := cell_of_row w g i cs t (0, 0) h
theorem Blk.frozen (h : Blk w g t cs) (i : Nat) : w.frozen? ⟨g, i, none⟩ = false := by
 unfold Blk at h
 simp [World.frozen?, h]
theorem Blk.new (w : World) (t : TypeId) (cs : Array Value) : Blk (w.alloc (.cells cs t)) w.heap.size t cs := heap_alloc_new w _
theorem Blk.new' {g : Nat} (w : World) (t : TypeId) (cs : Array Value) (h : g = w.heap.size) : Blk (w.alloc (.cells cs t)) g t cs := by subst h; exact Blk.new w t cs
theorem Blk.news (h : Blk w g t cs) : ∀ j u, cs.toList[j]? = some u → w.cell? ((⟨g, 0, none⟩ : Addr).add j) = some u := World.news_of_block h
theorem Blk.drew (h : Blk w g t cs) : Blk w.drew g t cs := h
theorem Blk.drewN (h : Blk w g t cs) (n : Nat) : Blk (w.drewN n) g t cs := h
theorem Blk.alloc (h : Blk w g t cs) (o : Obj) : Blk (w.alloc o) g t cs := (Below.heap_alloc w o g h.lt).trans h
theorem Blk.set_ (h : Blk w g t cs) (i : Nat) (u : Value) : Blk (w.setCell ⟨g, i, none⟩ u) g t (cs.setIfInBounds i u) := by
 unfold Blk at h ⊢
 simp [World.setCell, Array.getElem?_modify, h]
theorem Blk.far (h : Blk w g t cs) {p : Addr} (hp : g ≠ p.block) (u : Value) : Blk (w.setCell p u) g t cs := (Below.heap_setCell w p u g hp).trans h
theorem Blk.pure (h : Blk w g t cs) (hb : Pure w w') : Blk w' g t cs := (hb.block g h.lt).trans h
theorem Blk.chg (h : Blk w g t cs) (hb : Chg S w w') (hg : ¬ S g) : Blk w' g t cs := (hb.block g h.lt hg).trans h
theorem Blk.grown {row : Option Nat} (h : Blk w g t cs) (hb : w.grownBy w' row) (hg : some g ≠ row) : Blk w' g t cs := (hb.block g h.lt hg).trans h
def splice (cs : Array Value) : Nat → List Value → Array Value
 | _, [] => cs
 | o, v :: r => splice (cs.setIfInBounds o v) (o + 1) r
theorem Blk.setCells : ∀ (vs : List Value) (o : Nat) {w : World} {cs : Array Value}, Blk w g t cs → Blk (w.setCells g o vs) g t (splice cs o vs)
 | [], _, _, _, h => h
 | v :: r, o, _, _, h => Blk.setCells r (o + 1) (h.set_ o v)
theorem Cb : ∀ (vs : List Value) (o : Nat) (cs : Array Value), (splice cs o vs).size = cs.size
 | [], _, _ => rfl
 | v :: r, o, cs => by rw [splice, Cb r]; simp
theorem CR : ∀ (vs : List Value) (o : Nat) (cs : Array Value) (i : Nat), o + vs.length ≤ cs.size →
  (splice cs o vs)[i]? = if o ≤ i ∧ i < o + vs.length then vs[i - o]? else cs[i]?
 | [], o, cs, i, _ => by simp [splice]; omega
 | v :: r, o, cs, i, h => by
  rw [splice, CR r (o + 1) _ i (by simp at h ⊢; omega)]
  simp only [List.length_cons] at h ⊢
  by_cases h1 : o + 1 ≤ i ∧ i < o + 1 + r.length
  ·rw [if_pos h1, if_pos (by omega), show i - o = (i - (o + 1)) + 1 by omega, List.getElem?_cons_succ]
  ·rw [if_neg h1]
   by_cases h2 : i = o
   ·subst h2
    rw [if_pos (by omega)]
    simp [Array.getElem?_setIfInBounds]
    omega
   ·rw [if_neg (by omega), Array.getElem?_setIfInBounds]
    simp [Ne.symm h2]
theorem JM (vs : List Value) (o : Nat) (cs : Array Value) (h : o + vs.length ≤ cs.size) :
  (splice cs o vs).toList = cs.toList.take o ++ vs ++ cs.toList.drop (o + vs.length) := by
 apply List.ext_getElem?
 intro i
 rw [Array.getElem?_toList, CR vs o cs i h]
 have hl : (cs.toList.take o).length = o := by simp; omega
 by_cases h1 : i < o
 ·have hn : ¬ (o ≤ i ∧ i < o + vs.length) := by omega
  rw [if_neg hn, List.append_assoc, List.getElem?_append_left (by rw [hl]; exact h1), List.getElem?_take_of_lt h1, Array.getElem?_toList]
 ·rw [List.append_assoc, List.getElem?_append_right (by rw [hl]; omega), hl]
  by_cases h2 : i < o + vs.length
  ·have hn : o ≤ i ∧ i < o + vs.length := by omega
   rw [if_pos hn, List.getElem?_append_left (by omega)]
  ·have hn : ¬ (o ≤ i ∧ i < o + vs.length) := by omega
   rw [if_neg hn, List.getElem?_append_right (by omega), List.getElem?_drop, Array.getElem?_toList]
   congr 1
   omega
end
def Rd (w : World) (D : Nat → Prop) (size : Nat) (v : Value) (n : Nat) (xs : List Value) : Prop :=
 ∃ A c, v = .slice A n c ∧ n ≤ c ∧ c ≤ 9223372036854775807 ∧ xs.length = n * size ∧
  (0 < n → ∃ b o, A = some ⟨b, o, none⟩ ∧ D b ∧ ∀ j u, xs[j]? = some u → w.cell? ⟨b, o + j, none⟩ = some u)
section
variable {w w' : World} {D E S : Nat → Prop} {size n : Nat} {v : Value} {xs : List Value}
theorem Rd.mono (h : Rd w D size v n xs) (hD : ∀ k, D k → E k) : Rd w E size v n xs := by
 obtain ⟨A, c, hv, h1, h2, h3, h4⟩ := h
 refine ⟨A, c, hv, h1, h2, h3, fun hn => ?_⟩
 obtain ⟨b, o, e, hb, hc⟩ := h4 hn
 exact ⟨b, o, e, hD _ hb, hc⟩
theorem Rd.chg (h : Rd w D size v n xs) (hc : Chg S w w') (hs : ∀ k, D k → ¬ S k) : Rd w' D size v n xs := by
 obtain ⟨A, c, hv, h1, h2, h3, h4⟩ := h
 refine ⟨A, c, hv, h1, h2, h3, fun hn => ?_⟩
 obtain ⟨b, o, e, hb, hcell⟩ := h4 hn
 refine ⟨b, o, e, hb, fun j u hu => ?_⟩
 have h5 := hcell j u hu
 exact (World.cell?_of_block (hc.block b (World.block_lt_of_cell? w _ h5) (hs b hb))).trans h5
theorem Rd.pure (h : Rd w D size v n xs) (hc : Pure w w') : Rd w' D size v n xs := h.chg (hc.chg (fun _ => False)) fun _ _ h => h
theorem Rd.nil (w : World) (D : Nat → Prop) (size : Nat) : Rd w D size (.slice none 0 0) 0 [] := ⟨none, 0, rfl, Nat.le_refl _, by omega, by simp, fun h => absurd h (by omega)⟩
theorem Rd.of_own {base : Nat} {e : TypeId} (h : w.ownsRow base e size v n xs) (hD : ∀ k, v.ownBlock = some k → base ≤ k → D k) : Rd w D size v n xs := by
 rcases h.2 with ⟨rfl, rfl⟩ | ⟨g, cap, cur, rfl, hg, hh, hnc, hcm, hcs, htake⟩
 ·have hx : xs = [] := List.eq_nil_of_length_eq_zero (by simpa using h.1)
  subst hx
  exact Rd.nil w D size
 ·refine ⟨_, _, rfl, hnc, hcm, h.1, fun hn => ⟨g, 0, rfl, hD g rfl hg, fun j u hu => ?_⟩⟩
  rw [Nat.zero_add, cell_of_row w g j cur e (0, 0) hh]
  rw [← htake, List.getElem?_take] at hu
  split at hu
  ·simpa using hu
  ·cases hu
theorem Rd.form (h : Rd w D size v n xs) : ∃ A c, v = .slice A n c ∧ n ≤ c ∧ c ≤ 9223372036854775807 := by
 obtain ⟨A, c, hv, h1, h2, _⟩ := h
 exact ⟨A, c, hv, h1, h2⟩
theorem Rd.at_ (h : Rd w D size v n xs) {k : Nat} {u : Value} (hk : xs[k]? = some u) (hn : 0 < n) : ∃ b o c, v = .slice (some ⟨b, o, none⟩) n c ∧ D b ∧ n ≤ c ∧ c ≤ 9223372036854775807 ∧ w.cell? ⟨b, o + k, none⟩ = some u := by
 obtain ⟨A, c, rfl, h1, h2, h3, h4⟩ := h
 obtain ⟨b, o, rfl, hb, hc⟩ := h4 hn
 exact ⟨b, o, c, rfl, hb, h1, h2, hc k u hk⟩
theorem Rd.drop {A : Option Addr} {c : Nat} (h : Rd w D size (.slice A n c) n xs) {k : Nat} (hk : k ≤ n) :
  Rd w D size (.slice (if c = k then A else A.map (·.add (k * size))) (n - k) (c - k)) (n - k) (xs.drop (k * size)) := by
 obtain ⟨A', c', hv, h1, h2, h3, h4⟩ := h
 injection hv with ha _ hc
 subst ha hc
 refine ⟨_, _, rfl, by omega, by omega, by rw [List.length_drop, h3, Nat.sub_mul], fun hn => ?_⟩
 obtain ⟨b, o, rfl, hb, hcell⟩ := h4 (by omega)
 rw [if_neg (by omega)]
 refine ⟨b, o + k * size, ?_, hb, fun j u hu => ?_⟩
 ·simp [Addr.add_lit]
 ·rw [List.getElem?_drop] at hu
  rw [Nat.add_assoc]
  exact hcell _ u hu
theorem Rd.take {A : Option Addr} {c : Nat} (h : Rd w D size (.slice A n c) n xs) {k c' : Nat} (hk : k ≤ n) (hkc : k ≤ c') (hcc : c' ≤ c) :
  Rd w D size (.slice A k c') k (xs.take (k * size)) := by
 obtain ⟨A', c1, hv, h1, h2, h3, h4⟩ := h
 injection hv with ha _ hc
 subst ha hc
 refine ⟨_, _, rfl, hkc, by omega, by rw [List.length_take, h3]; exact Nat.min_eq_left (Nat.mul_le_mul_right _ hk), fun hn => ?_⟩
 obtain ⟨b, o, rfl, hb, hcell⟩ := h4 (by omega)
 refine ⟨b, o, rfl, hb, fun j u hu => ?_⟩
 rw [List.getElem?_take] at hu
 split at hu
 ·exact hcell j u hu
 ·cases hu
end
def Bools (w : World) (D : Nat → Prop) (v : Value) (l : List Bool) : Prop := Rd w D 1 v l.length (l.map Value.bool)
def Ints (w : World) (D : Nat → Prop) (v : Value) (l : List Int) : Prop := Rd w D 1 v l.length (l.map (Value.int .i64))
def Ma (w : World) (D : Nat → Prop) (v : Value) (g : List (List Bool)) : Prop :=
 ∃ rows : List Value, Rd w D 1 v g.length rows ∧ ∀ (i : Nat) (l : List Bool), g[i]? = some l → ∃ r, rows[i]? = some r ∧ Bools w D r l
section
variable {w w' : World} {D S E : Nat → Prop} {v : Value}
theorem Bools.chg {l : List Bool} (h : Bools w D v l) (hc : Chg S w w') (hs : ∀ k, D k → ¬ S k) : Bools w' D v l := Rd.chg h hc hs
theorem Bools.pure {l : List Bool} (h : Bools w D v l) (hc : Pure w w') : Bools w' D v l := Rd.pure h hc
theorem Ints.chg {l : List Int} (h : Ints w D v l) (hc : Chg S w w') (hs : ∀ k, D k → ¬ S k) : Ints w' D v l := Rd.chg h hc hs
theorem Ints.pure {l : List Int} (h : Ints w D v l) (hc : Pure w w') : Ints w' D v l := Rd.pure h hc
theorem Ints.get {l : List Int} {A : Option Addr} {n c : Nat} (h : Ints w D (.slice A n c) l) {k : Nat} (hk : k < l.length) : ∃ b o, A = some ⟨b, o, none⟩ ∧ D b ∧ b < w.heap.size ∧ w.cell? ⟨b, o + k, none⟩ = some (.int .i64 l[k]) := by
 obtain ⟨b, o, c', hv, hD, _, _, hc⟩ := Rd.at_ (k := k) (u := .int .i64 l[k]) h (by simp [List.getElem?_map, List.getElem?_eq_getElem hk]) (by omega)
 injection hv with ha _ _
 exact ⟨b, o, ha, hD, World.block_lt_of_cell? w _ hc, hc⟩
theorem Bools.get {l : List Bool} {A : Option Addr} {n c : Nat} (h : Bools w D (.slice A n c) l) {k : Nat} (hk : k < l.length) : ∃ b o, A = some ⟨b, o, none⟩ ∧ D b ∧ b < w.heap.size ∧ w.cell? ⟨b, o + k, none⟩ = some (.bool l[k]) := by
 obtain ⟨b, o, c', hv, hD, _, _, hc⟩ := Rd.at_ (k := k) (u := .bool l[k]) h (by simp [List.getElem?_map, List.getElem?_eq_getElem hk]) (by omega)
 injection hv with ha _ _
 exact ⟨b, o, ha, hD, World.block_lt_of_cell? w _ hc, hc⟩
theorem Rd.get {size : Nat} {xs : List Value} {A : Option Addr} {n c k : Nat} {u : Value} (h : Rd w D size (.slice A n c) n xs) (hk : xs[k]? = some u) (hn : 0 < n) : ∃ b o, A = some ⟨b, o, none⟩ ∧ D b ∧ b < w.heap.size ∧ w.cell? ⟨b, o + k, none⟩ = some u := by
 obtain ⟨b, o, c', hv, hD, _, _, hc⟩ := h.at_ hk hn
 injection hv with ha _ _
 exact ⟨b, o, ha, hD, World.block_lt_of_cell? w _ hc, hc⟩
theorem Ma.chg {g : List (List Bool)} (h : Ma w D v g) (hc : Chg S w w') (hs : ∀ k, D k → ¬ S k) : Ma w' D v g := by
 obtain ⟨rows, h1, h2⟩ := h
 refine ⟨rows, h1.chg hc hs, fun i l hl => ?_⟩
 obtain ⟨r, hr, hb⟩ := h2 i l hl
 exact ⟨r, hr, hb.chg hc hs⟩
theorem Ma.pure {g : List (List Bool)} (h : Ma w D v g) (hc : Pure w w') : Ma w' D v g := h.chg (hc.chg (fun _ => False)) fun _ _ h => h
end
theorem Ma.form {w : World} {D : Nat → Prop} {v : Value} {g : List (List Bool)} (h : Ma w D v g) : ∃ A c, v = .slice A g.length c ∧ g.length ≤ c ∧ c ≤ 9223372036854775807 := by
 obtain ⟨rows, h1, _⟩ := h
 exact h1.form
theorem Ma.get {w : World} {D : Nat → Prop} {A : Option Addr} {n c : Nat} {g : List (List Bool)} (h : Ma w D (.slice A n c) g) {i : Nat} (hi : i < g.length) :
  ∃ b o A' c', A = some ⟨b, o, none⟩ ∧ b < w.heap.size ∧ w.cell? ⟨b, o + i, none⟩ = some (.slice A' (g[i]).length c') ∧ (g[i]).length ≤ c' ∧ c' ≤ 9223372036854775807 ∧ Bools w D (.slice A' (g[i]).length c') g[i] := by
 obtain ⟨rows, h1, h2⟩ := h
 obtain ⟨r, hr, hb⟩ := h2 i g[i] (List.getElem?_eq_getElem hi)
 obtain ⟨b, o, c0, hv, hD, _, _, hc⟩ := h1.at_ hr (by omega)
 injection hv with ha _ _
 obtain ⟨A', c', rfl, hc1, hc2⟩ := Rd.form hb
 exact ⟨b, o, A', c', ha, World.block_lt_of_cell? w _ hc, hc, hc1, hc2, hb⟩
theorem LH {n : Int} (h : (Lit.int .i64 n).wf = true) : -9223372036854775808 ≤ n ∧ n ≤ 9223372036854775807 := by
 simp [Lit.wf, IntKind.min, IntKind.max, IntKind.signed, IntKind.bits] at h
 omega
theorem RZ {w : World} {x : Addr} {u : Value} (h : w.cell? x = some u) : x.spot = none := by
 unfold World.cell? at h
 split at h
 ·split at h
  ·cases h
  ·rename_i hs; simpa using hs
 ·cases h
def rep (z : Value) (n : Nat) : Array Value := Array.replicate n z
theorem NB {P : Program} (t e : TypeId) (i : TypeInfo) (z : Value) (ht : P.underlying t = some (.slice e)) (hi : P.info? e = some i) (hz : i.zero = some z) (hz1 : z.cells = #[z]) (hs : i.size = 1)
  (n : Nat) (hbytes : i.bytes * n ≤ 281474976710656) (h63 : n ≤ 9223372036854775807) (w : World) :
  (Instr.makeSlice t (.int .i64 (n : Int)) (.int .i64 (n : Int))).run P w = .ok (.slice (some ⟨w.heap.size, 0, none⟩) n n) (w.alloc (.cells (rep z n) e)) := by
 have hb : (i.bytes : Int) * (n : Int) ≤ 281474976710656 := by
  have h : ((i.bytes * n : Nat) : Int) ≤ 281474976710656 := by omega
  rwa [Int.natCast_mul] at h
 have hr := run_make (P := P) w t e i z ht hi hz .i64 .i64 n n (by omega) (by omega) hb (by omega)
 have hm : madeCells z.cells ((n : Int).toNat * i.size) = rep z n := by
  rw [hz1, hs, Int.toNat_natCast, Nat.mul_one]
  apply Array.ext
  ·simp [madeCells, rep]
  ·intro j h1 h2
   simp [madeCells, rep, Nat.mod_one]
 rw [hm] at hr
 simp only [Int.toNat_natCast] at hr
 exact hr
section
variable {α : Type} {f : α → List Value} {size : Nat}
end
end Go.Proofs.YtkkmokodaejheaaDoor
namespace Go.Proofs.YtkkmokodaejheaaDoor
open Go
section
variable {P : Program} {ops : Array Oper} {Q : Exit → Act → World → Prop} {md : Region.Mode} {S : World → Prop}
def Nu (P : Program) (o : Oper) (a : Act) (W : World) (v : Value) : Prop :=
 match (execOp a.eval o).run P W with
 | .ok (.value v') w' => w' = W ∧ v' = v
 | .ok .skip w' => w' = W ∧ undef = v
 | .ok (.enter f args) w' => w' = W ∧ Calls P f args W (fun e w'' => e = .returned v ∧ w'' = W)
 | _ => False
def Ea (P : Program) (ops : Array Oper) (S : World → Prop) (o : Oper) (v : Value) (a : Act) : Prop :=
 (Region.wanted o (yielded ops a.tmps) = true ∧ ∀ W, S W → Nu P o a W v) ∨ (Region.wanted o (yielded ops a.tmps) = false ∧ v = undef)
theorem Ea.wpOp {i : Nat} {o : Oper} {v : Value} {a : Act} (hi : ops[i]? = some o) (hy : Ea P ops S o v a)
  {K : Act → World → Prop} {w : World} (hS : S w) (h : K (a.put o.dst v) w) : wpOp P ops Q i K a w := by
 unfold Go.wpOp
 simp only [hi]
 rcases hy with ⟨hw, hv⟩ | ⟨hw, rfl⟩
 ·simp only [hw, if_true]
  refine .inl ?_
  have h1 := hv w hS
  unfold Nu at h1
  unfold Oper.wp
  generalize (execOp a.eval o).run P w = r at *
  cases r with
  | ok n w' =>
   cases n <;> simp only [Oper.upon] at h1 ⊢
   case value u => rw [h1.1, h1.2]; exact h
   case skip => rw [h1.1, h1.2]; exact h
   case enter f args =>
    rw [h1.1]
    refine h1.2.mono fun e w'' he => ?_
    rw [he.1, he.2]
    exact h
  | halt x w' => exact h1.elim
 ·simp only [hw, Bool.false_eq_true, if_false]; exact h
theorem Ea.of_same {o : Oper} {v : Value} {a a' : Act} (hy : Ea P ops S o v a) (he : execOp a'.eval o = execOp a.eval o)
  (hw : Region.wanted o (yielded ops a'.tmps) = Region.wanted o (yielded ops a.tmps)) : Ea P ops S o v a' := by
 unfold Ea Nu at *
 rw [he, hw]
 exact hy
theorem PO {j : Nat} {oj : Oper} (hj : ops[j]? = some oj) {K : Act → World → Prop} {a : Act} {w : World} (h : wpOp P ops Q j K a w) :
  wpOp P ops Q j (fun a' w' => (∃ u ds, a' = ({ a with defers := ds } : Act).put oj.dst u) ∧ K a' w') a w := by
 unfold wpOp at *
 simp only [hj] at *
 split
 ·rename_i hw
  simp only [hw, if_true] at h
  rcases h with h | h
  case inr => exact .inr h
  refine .inl ?_
  unfold Oper.wp at *
  generalize (execOp a.eval oj).run P w = r at *
  cases r with
  | ok n w' =>
   cases n <;> simp only [Oper.upon] at h ⊢
   case value u => exact ⟨⟨u, a.defers, rfl⟩, h⟩
   case skip => exact ⟨⟨undef, a.defers, rfl⟩, h⟩
   case defer d => exact ⟨⟨undef, d :: a.defers, rfl⟩, h⟩
   case enter f args =>
    refine Calls.mono h fun e w'' he => ?_
    cases e with
    | returned u => exact ⟨⟨u, a.defers, rfl⟩, he⟩
    | panicked c => exact he
    | outgrown => exact he
   case row row args => exact Rows.mono h fun u w'' he => ⟨⟨u, a.defers, rfl⟩, he⟩
  | halt x w' => cases x <;> simp only [Oper.upon] at h ⊢ <;> exact h
 ·rename_i hw
  simp only [hw] at h
  exact ⟨⟨undef, a.defers, rfl⟩, h⟩
def SQ (P : Program) (md : Region.Mode) (ops : Array Oper) (Q : Exit → Act → World → Prop) (S : World → Prop) : Nat → Array Bool → Act → World → Prop
 | 0, listed, a, w => Region.ready md ops listed = [] ∧ Q .normal a w
 | fuel + 1, listed, a, w =>
  (Region.ready md ops listed = [] → Q .normal a w) ∧
  ∀ i ∈ Region.ready md ops listed, wpOp P ops Q i (fun a' w' => (S w' ∨ Region.ready md ops (listed.setIfInBounds i true) = []) ∧ SQ P md ops Q S fuel (listed.setIfInBounds i true) a' w') a w
def QX (ds : List (Option Tmp)) (o : Oper) (tmps : Array Value) : Bool := match o.guard with
 | none => true
 | some (j, want) => (match ((ds[j]?).bind id).bind (tmps[·]?) with
  | some (.bool b) => some b
  | _ => none) == some want
def Kk (P : Program) (ds : List (Option Tmp)) (w : World) (Q : Act → Prop) : List Oper → Act → Prop
 | [], a => Q a
 | o :: rest, a => if QX ds o a.tmps then o.still P a w (Kk P ds w Q rest) else Kk P ds w Q rest (a.put o.dst undef)
end
attribute [go_sem] QX
attribute [irreducible] Kk SQ
end Go.Proofs.YtkkmokodaejheaaDoor
