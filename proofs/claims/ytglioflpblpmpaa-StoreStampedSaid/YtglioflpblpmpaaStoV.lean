/- A row's cells, told; the laws' head. -/
import Derived.Test.YtglioflpblpmpaaStoU
namespace Go.Proofs.Ytglioflpblpmpaa
open Go.RowKit
set_option linter.unusedVariables false
set_option linter.unusedSimpArgs false
theorem row_all {α : Type} {size : Nat} {f : α → List Value} (hf : ∀ x, (f x).length = size) (hs : 0 < size) {w : World} {base e c : Nat} {A : Option Addr} {l : List α} (h : w.ownsRow base e size (.slice A l.length c) l.length (l.flatMap f)) :
    ∃ b o, (0 < l.length → A = some ⟨b, o, none⟩) ∧ ∀ (i : Nat) (x : α), l[i]? = some x → ∀ (j : Nat) (u : Value), (f x)[j]? = some u → w.cell? ⟨b, o + i * size + j, none⟩ = some u := by
  by_cases hl : 0 < l.length
  · obtain ⟨b, o, rfl⟩ := row_addrS h hl hs
    refine ⟨b, o, fun _ => rfl, fun i x hx j u hj => ?_⟩
    have hj' : j < size := by have := (List.getElem?_eq_some_iff.1 hj).1; rwa [hf] at this
    have := row_cellS h ((flat_get hf l i j x hx hj').trans hj) hl
    rwa [← Nat.add_assoc] at this
  · refine ⟨0, 0, fun h => absurd h hl, fun i x hx => ?_⟩
    have := (List.getElem?_eq_some_iff.1 hx).1
    omega
theorem hear_back (s : SSt) (j : Nat) (m : SMsg) : (hearF s j m).back = s.back := by
  unfold hearF
  dsimp only
  repeat' split
  all_goals rfl
theorem Mv.back {s s' : SSt} (h : Mv s s') : s'.back = s.back := by
  rcases h with ⟨ms, _, rfl⟩ | ⟨c, key, write, value, _, _, _, _, _, rfl⟩ | ⟨c, _, _, rfl⟩ | ⟨j, m, _, rfl⟩
  · rfl
  · rfl
  · rfl
  · unfold deliverF
    dsimp only
    split
    · rfl
    · exact hear_back _ _ _
theorem MvS.back {s s' : SSt} (h : MvS s s') : s'.back = s.back := by
  induction h with
  | refl => rfl
  | step _ k ih => exact k.back.trans ih
end Go.Proofs.Ytglioflpblpmpaa
