/- clock.Times. -/
import Derived.Test.YtajbhabkhgpcfaaDoorClk4
import Derived.Test.YtajbhabkhgpcfaaDoorClkLaw
namespace Go.Proofs.YtajbhabkhgpcfaaDoor
open Go.RowKit
set_option linter.unusedVariables false
set_option linter.unusedSimpArgs false
def numC (n : Nat) (out : Nat → Nat) : Array Value := ((List.range n).map fun v => Value.int .i64 ((out v : Nat) : Int)).toArray
theorem numC_get {n : Nat} (out : Nat → Nat) {v : Nat} (hv : v < n) : (numC n out)[v]? = some (.int .i64 ((out v : Nat) : Int)) := by simp [numC, hv]
theorem numC_set {n : Nat} (out : Nat → Nat) (u k : Nat) : (numC n out).setIfInBounds u (.int .i64 (k : Int)) = numC n (fun x => if x = u then k else out x) := by
  apply Array.ext'
  simp only [numC, Array.toList_setIfInBounds]
  refine List.ext_getElem (by simp) (fun i h1 h2 => ?_)
  simp only [List.getElem_set, List.getElem_map, List.getElem_range]
  by_cases h : u = i
  · subst h; simp
  · rw [if_neg h, if_neg (Ne.symm h)]
theorem numC_zero (n : Nat) : rep (.int .i64 0) n = numC n (fun _ => 0) := by
  apply Array.ext'
  simp [rep, numC, List.map_const']
theorem t_le {p : Nat → Nat} {fr : Nat → Option Nat} : ∀ k, (∀ r, (tTo p fr k).1 r ≤ k) ∧ (∀ i, (tTo p fr k).2 i ≤ k)
  | 0 => ⟨fun _ => Nat.le_refl _, fun _ => Nat.le_refl _⟩
  | k + 1 => by
    obtain ⟨h1, h2⟩ := t_le (p := p) (fr := fr) k
    have hn : tNew p fr (tTo p fr k) k ≤ k + 1 := by
      unfold tNew
      have := h1 (p k)
      cases fr k with
      | none => simp only; omega
      | some m => have := h2 m; simp only; omega
    refine ⟨fun r => ?_, fun i => ?_⟩
    · show (if r = p k then _ else _) ≤ k + 1
      split
      · exact hn
      · have := h1 r; omega
    · show (if i = k then _ else _) ≤ k + 1
      split
      · exact hn
      · have := h2 i; omega
theorem own_base0 {w : World} {base : Nat} {e : TypeId} {size n : Nat} {v : Value} {xs : List Value} (h : w.ownsRow base e size v n xs) : w.ownsRow 0 e size v n xs := ⟨h.1, by
  rcases h.2 with h2 | ⟨g, cap, cur, hv, hg, h3⟩
  · exact .inl h2
  · exact .inr ⟨g, cap, cur, hv, Nat.zero_le _, h3⟩⟩
theorem Inv.freshR {S : Nat → Prop} {w0 w w' : World} {H : List Ent} {e n c size : Nat} {A : Option Addr} {xs : List Value} (hI : Inv S w0 w H) (hp : Pure w w') (hown : w'.ownsRow w.heap.size e size (.slice A n c) n xs) : Inv S w0 w' (Row 0 e size A n c xs :: H) :=
  hI.fresh hp (Row.ok (own_base0 hown)) (fun k hk => by
    rcases hown.2 with ⟨hv, _⟩ | ⟨g, cap, cur, hv, hge, _⟩
    · injection hv with hv; subst hv; simp [Row] at hk
    · injection hv with hv; subst hv; have : some g = some k := hk; injection this with this; omega)
theorem row_cell {w : World} {base e n c b o i : Nat} {xs : List Value} {u : Value} (h : w.ownsRow base e 1 (.slice (some ⟨b, o, none⟩) n c) n xs) (hi : xs[i]? = some u) : w.cell? ⟨b, o + i, none⟩ = some u := by
  have hlt := (List.getElem?_eq_some_iff.1 hi).1
  have hx : xs.length = n * 1 := h.1
  obtain ⟨b', o', h1, _, _, h2⟩ := (Rd.of_own (D := fun _ => True) h (fun _ _ _ => trivial)).get hi (by omega)
  injection h1 with h1
  injection h1 with h1 h3
  subst h1 h3
  exact h2
theorem row_addr {w : World} {base e n c : Nat} {A : Option Addr} {xs : List Value} (h : w.ownsRow base e 1 (.slice A n c) n xs) (hn : 0 < n) : ∃ b o, A = some ⟨b, o, none⟩ := by
  have hx : xs.length = n * 1 := h.1
  obtain ⟨b', o', h1, _⟩ := (Rd.of_own (D := fun _ => True) h (fun _ _ _ => trivial)).get (List.getElem?_eq_getElem (show 0 < xs.length by omega)) (by omega)
  exact ⟨b', o', h1⟩
abbrev prc (l : List Ck) (i : Nat) : Nat := (cAt l i).proc.toNat
end Go.Proofs.YtajbhabkhgpcfaaDoor
