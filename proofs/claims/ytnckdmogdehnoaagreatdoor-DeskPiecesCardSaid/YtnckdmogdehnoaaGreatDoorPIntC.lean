/- Part of the proof that a desk answers in pieces. -/
import Derived.Test.YtnckdmogdehnoaaGreatDoorPA
import Derived.Test.YtnckdmogdehnoaaGreatDoorProg
import Derived.Test.YtnckdmogdehnoaaGreatDoorShelf
import Derived.Test.YtnckdmogdehnoaaGreatDoorSxA
set_option maxHeartbeats 1000000
set_option linter.unusedVariables false
set_option linter.unusedSimpArgs false
namespace Go.Proofs.YtnckdmogdehnoaaGreatDoor
open Tryz
open Go.RowKit
variable {c n : Nat} {D : Nat → Prop} {A : Option Addr} {w : World}
def MaxOk (w : World) : Prop := ∃ m : Int, w.cell? ⟨4, 0, none⟩ = some (.int .i64 m)
theorem MaxOk.of (h : w.ShapedOpen prog) : MaxOk w := laysM146.s1_3 w h
theorem MaxOk.pure {w' : World} (h : MaxOk w) (hp : Pure w w') : MaxOk w' := by
 obtain ⟨m, h⟩ := h
 exact ⟨m, ((Inv.start (fun _ => False) w).pure hp).oldp h⟩
structure St where
 tx : Int
 kind : Int
 key : Int
deriving DecidableEq
def stV (s : St) : List Value := [.int .i64 s.tx, .int .i64 s.kind, .int .i64 s.key]
def Sts (w : World) (D : Nat → Prop) (v : Value) (l : List St) : Prop := Rd w D 3 v l.length (l.flatMap stV)
theorem flat_st : ∀ (l : List St) (k : Nat), k < l.length → ∀ (j : Nat) u, (stV (l.getD k ⟨0, 0, 0⟩))[j]? = some u → (l.flatMap stV)[k * 3 + j]? = some u
 | [], k, h, _, _, _ => by simp at h
 | s :: l, k, h, j, u, hu => by
  rw [List.flatMap_cons]
  cases k with
  | zero =>
   have : j < (stV s).length := by have := (gS_ hu).1; simpa using this
   rw [Nat.zero_mul, Nat.zero_add, List.getElem?_append_left this]
   simpa using hu
  | succ k =>
   have hl : (stV s).length = 3 := rfl
   rw [List.getElem?_append_right (by omega), hl, show (k + 1) * 3 + j - 3 = k * 3 + j by omega]
   exact flat_st l k (by simpa using h) j u (by simpa using hu)
theorem Sts.pure {w' : World} {v : Value} {l : List St} (h : Sts w D v l) (hp : Pure w w') : Sts w' D v l := Rd.pure h hp
theorem Sts.at {l : List St} (h : Sts w D (.slice A n c) l) {k : Nat} (hk : k < l.length) : ∃ b o, A = some ⟨b, o, none⟩ ∧ w.cell? ⟨b, o + k * 3, none⟩ = some (.int .i64 (l.getD k ⟨0, 0, 0⟩).tx) ∧ w.cell? ⟨b, o + k * 3 + 1, none⟩ = some (.int .i64 (l.getD k ⟨0, 0, 0⟩).kind) ∧ w.cell? ⟨b, o + k * 3 + 2, none⟩ = some (.int .i64 (l.getD k ⟨0, 0, 0⟩).key) := by
 have hn : n = l.length := by
  obtain ⟨A', c', he, _⟩ := Rd.form h
  injection he
 subst hn
 obtain ⟨b, o, h1, _, _, c0⟩ := Rd.get h (flat_st l k hk 0 _ rfl) (by omega)
 obtain ⟨b1, o1, h2, _, _, c1⟩ := Rd.get h (flat_st l k hk 1 _ rfl) (by omega)
 obtain ⟨b2, o2, h3, _, _, c2⟩ := Rd.get h (flat_st l k hk 2 _ rfl) (by omega)
 rw [h1] at h2 h3
 injection h2 with h2; injection h2 with e1 e2; subst e1 e2
 injection h3 with h3; injection h3 with e1 e2; subst e1 e2
 exact ⟨b, o, h1, c0, by rw [← Nat.add_assoc] at c1; exact c1, by rw [← Nat.add_assoc] at c2; exact c2⟩
theorem Sts.len {l : List St} (h : Sts w D (.slice A n c) l) : n = l.length ∧ n ≤ c ∧ c ≤ 9223372036854775807 := by
 obtain ⟨A', c', he, h1, h2⟩ := Rd.form h
 injection he with _ e2 e3
 subst e2 e3
 exact ⟨Z, h1, h2⟩
def boolC (n : Nat) (f : Nat → Bool) : Array Value := ((List.range n).map fun i => Value.bool (f i)).toArray
theorem boolC_get (f : Nat → Bool) {i : Nat} (hi : i < n) : (boolC n f)[i]? = some (.bool (f i)) := by simp [boolC, hi]
theorem boolC_set (f : Nat → Bool) (u : Nat) (b : Bool) : (boolC n f).setIfInBounds u (.bool b) = boolC n (fun x => if x = u then b else f x) := by
 apply Array.ext'
 simp only [boolC, Array.toList_setIfInBounds]
 refine List.ext_getElem (by simp) (fun i h1 h2 => ?_)
 simp only [List.getElem_set, List.getElem_map, List.getElem_range]
 by_cases h : u = i
 ·subst h; simp
 rw [if_neg h, if_neg (Ne.symm h)]
def optI : Option Nat → Int
 | some k => (k : Int)
 | none => -1
theorem Ints.len {l : List Int} (h : Ints w D (.slice A n c) l) : n = l.length ∧ n ≤ c ∧ c ≤ 9223372036854775807 := by
 obtain ⟨A', c', he, h1, h2⟩ := Rd.form h
 injection he with _ e2 e3
 subst e2 e3
 exact ⟨Z, h1, h2⟩
theorem Ints.at {l : List Int} (h : Ints w D (.slice A n c) l) {k : Nat} (hk : k < l.length) : ∃ b o, A = some ⟨b, o, none⟩ ∧ w.cell? ⟨b, o + k, none⟩ = some (.int .i64 (l.getD k 0)) := by
 obtain ⟨b, o, h1, _, _, h2⟩ := h.get hk
 refine ⟨b, o, h1, ?_⟩
 rw [h2]
 simp [List.getD, gE_ hk]
theorem mem_getD {α : Type} [Inhabited α] {l : List α} {k : Nat} {d : α} (h : k < l.length) : l.getD k d ∈ l := by
 simp [List.getD, gE_ h]
theorem all_getD {α : Type} {l : List α} {d : α} {p : α → Prop} (h : ∀ j, j < l.length → p (l.getD j d)) : ∀ x ∈ l, p x := fun x hx => by
 obtain ⟨i, hi⟩ := List.getElem?_of_mem hx
 have hlt := (gS_ hi).1
 have := h i hlt
 simpa [List.getD, hi] using this
theorem idxI_any (A : Option Addr) (n c : Nat) (l : List Int) (x : Int) (D : Nat → Prop) (w0 : World) (h : Ints w0 D (.slice A n c) l) :
  Cq 148 #[.slice A n c, .int .i64 x] w0 fun en w' => (∃ o : Option Nat, en = .returned (.int .i64 (optI o)) ∧ (o.isSome = true ↔ x ∈ l)) ∧ Pure w0 w' := by
 have hI := Inv.start (fun _ => False) w0
 obtain ⟨hn, hc1, hc2⟩ := h.len
 refine Vm func148 Z (Wq (Vb Z (Wn (Ws (Wq (Va Z (Vo Z yy41 Z (V0 Z (Wn (Wb ?_))))))))))
 refine W_loop (fun ρ w => ∃ k : Nat, k ≤ n ∧ (∀ j, j < k → l.getD j 0 ≠ x) ∧ Has ρ [(8, Y (k : Int)), (7, Y (n : Int)), (0, .slice A n c), (1, Y x)] ∧ Inv NF w0 w []) (fun ρ _ => n - cnt (ρ 8))
  ⟨0, by omega, fun j hj => by omega, ⟨rfl, rfl, rfl, rfl, trivial⟩, hI⟩ ?_
 clear hI
 rintro ρ w ⟨k, hk, hno, hH, hI⟩
 obtain ⟨σ, rfl⟩ := hH.open
 by_cases hkn : k < n
 ·obtain ⟨bA, oA, rfl, q0⟩ := h.at (show k < l.length by omega)
  refine Wq (Vu Z (Yu Z (Wk (Ws (Wb (Wq (V0 Z (Vb Z (Wn ?_)))))))))
  by_cases hx : x = l.getD k 0
  ·exact Wq (V0 Z (Va Z (V0 Z (Tz Z yy41 Z (V6 (Y _) Z (hI.oldp q0) (Vx Z (Yt Z (Wq (V0 Z (Vb Z (Wn (WR (r1_ 4 Z ⟨⟨some k, Z, by simp only [Option.isSome_some, true_iff]; rw [hx]; exact mem_getD (by omega)⟩, hI.pu⟩)))))))))))))
  refine Wq (V0 Z (Va Z (V0 Z (Tz Z yy41 Z (V6 (Y _) Z (hI.oldp q0) (Vs Z (Yf Z (Wk (Wr (Vl Z (V0 Z (Wn ⟨⟨k + 1, by omega, fun j hj => ?_, g4_, hI⟩, by show n - ((k + 1 : Nat) : Int).toNat < n - (k : Int).toNat; omega⟩))))))))))))
  rcases Nat.lt_or_ge j k with h1 | h1
  ·exact hno j h1
  have : j = k := by omega
  subst this; exact fun e => hx e.symm
 exact Wq (Vr Z (Yg Z (WE (Wq (Vb Z (Wn (WR (r1_ 4 Z ⟨⟨none, Z, by simp only [Option.isSome_none, Bool.false_eq_true, false_iff]; exact fun hm => all_getD (p := fun y => y ≠ x) (fun j hj => hno j (by omega)) x hm rfl⟩, hI.pu⟩))))))))
theorem conI_any (A : Option Addr) (n c : Nat) (l : List Int) (x : Int) (D : Nat → Prop) (w0 : World) (h : Ints w0 D (.slice A n c) l) :
  Cq 99 #[.slice A n c, .int .i64 x] w0 fun en w' => en = .returned (.bool (decide (x ∈ l))) ∧ Pure w0 w' := by
 have hI := Inv.start (fun _ => False) w0
 refine Vm func99 Z (Wq (Vc Z (Wn (Wq (Va Z (V0 Z (Vd [.slice _ _ _, Y _] Z func148 Z ((idxI_any A n c l x D _ h).mono ?_))))))))
 rintro e w1 ⟨⟨o, rfl, ho⟩, hp⟩
 refine rV ?_
 have hI := hI.pure hp
 refine Wv Z (rGeq Z Z Z) (Vc Z (Wn (WR (r1_ 4 Z ⟨?_, hI.pu⟩))))
 have : decide (0 ≤ optI o) = decide (x ∈ l) := by
  rw [decide_eq_decide, ← ho]
  cases o <;> simp [optI]
 rw [← this]; rfl
end Go.Proofs.YtnckdmogdehnoaaGreatDoor
