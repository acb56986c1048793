/- linear.Shows. -/
import Derived.Test.YtijgkocolajghaaDoorLin1
namespace Go.Proofs.YtijgkocolajghaaDoor
open Go.RowKit
set_option linter.unusedVariables false
set_option linter.unusedSimpArgs false
def boolC (n : Nat) (f : Nat → Bool) : Array Value := ((List.range n).map fun i => Value.bool (f i)).toArray
theorem boolC_size (n : Nat) (f : Nat → Bool) : (boolC n f).size = n := by simp [boolC]
theorem boolC_get {n : Nat} (f : Nat → Bool) {i : Nat} (hi : i < n) : (boolC n f)[i]? = some (.bool (f i)) := by simp [boolC, hi]
theorem boolC_set {n : Nat} (f : Nat → Bool) (u : Nat) (b : Bool) : (boolC n f).setIfInBounds u (.bool b) = boolC n (fun x => if x = u then b else f x) := by
  apply Array.ext'
  simp only [boolC, Array.toList_setIfInBounds]
  refine List.ext_getElem (by simp) (fun i h1 h2 => ?_)
  simp only [List.getElem_set, List.getElem_map, List.getElem_range]
  by_cases h : u = i
  · subst h; simp
  · rw [if_neg h, if_neg (Ne.symm h)]
theorem boolC_zero (n : Nat) : rep (.bool false) n = boolC n (fun _ => false) := by
  apply Array.ext'
  simp [rep, boolC, List.map_const']
theorem boolC_congr {n : Nat} {f g : Nat → Bool} (h : ∀ i, i < n → f i = g i) : boolC n f = boolC n g := by
  unfold boolC
  congr 1
  exact List.map_congr_left fun i hi => by rw [h i (List.mem_range.1 hi)]
/-- Which ops the first p places of an order name. -/
def dnF (order : List Int) (p i : Nat) : Bool := (order.take p).contains ((i : Nat) : Int)
theorem dnF_succ {order : List Int} {p : Nat} (hp : p < order.length) {m : Nat} (hm : order[p] = (m : Int)) (i : Nat) : dnF order (p + 1) i = if i = m then true else dnF order p i := by
  unfold dnF
  rw [List.take_succ_eq_append_getElem hp, hm]
  by_cases h : i = m
  · subst h; simp
  · rw [if_neg h]
    rw [Bool.eq_iff_iff]
    simp
    omega
/-- The first p places of an order are good. -/
def OrdP (l : List Op8) (order : List Int) (p : Nat) : Prop := ∀ j (hj : j < order.length), j < p → 0 ≤ order[j] ∧ order[j] < l.length ∧ dnF order j order[j].toNat = false ∧ ∀ i (hi : i < order.length), i < j → befB (oAt l order[j].toNat) (oAt l order[i].toNat) = false
def ShowsP (o : Int) (l : List Op8) (order : List Int) : Prop := OrdP l order order.length ∧ (∀ i, i < l.length → 0 ≤ (oAt l i).ret → dnF order order.length i = true) ∧ runF o l order = -1
def ShowsPost (o : Int) (l : List Op8) (order : List Int) (w0 : World) (en : Ending) (w' : World) : Prop :=
  Pure w0 w' ∧ ((OkLin o l 0 ∧ ∃ b : Bool, en = .returned (.tuple #[.bool b, .nilIface]) ∧ (b = true ↔ ShowsP o l order)) ∨ (¬ OkLin o l 0 ∧ ∃ x, IsErr x ∧ en = .returned (.tuple #[.bool false, x])))
theorem ShowsPost.no {o : Int} {l : List Op8} {order : List Int} {w0 w' : World} (hl : OkLin o l 0) (h : ¬ ShowsP o l order) (hp : Pure w0 w') : ShowsPost o l order w0 (.returned (.tuple #[.bool false, .nilIface])) w' := ⟨hp, .inl ⟨hl, false, rfl, by simp; exact h⟩⟩
end Go.Proofs.YtijgkocolajghaaDoor
