/- Parts of memory brought to the front and put back. Nothing of the program. -/
import Derived.Test.YtgkmlnbnjbpodaaDoorSxB
namespace Go.Proofs.YtgkmlnbnjbpodaaDoor
open Go.RowKit
set_option linter.unusedVariables false
set_option linter.unusedSimpArgs false
section
variable {S : Nat → Prop} {w0 w : World} {H : List Ent} {e : Ent}
theorem pull_perm : ∀ (H : List Ent) (i : Nat) (e : Ent), H[i]? = some e → H.Perm (e :: H.eraseIdx i)
  | [], i, e, h => by simp at h
  | a :: H, 0, e, h => by
    simp at h
    subst h
    exact .refl _
  | a :: H, i + 1, e, h => by
    have := pull_perm H i e (by simpa using h)
    rw [List.eraseIdx_cons_succ]
    exact (this.cons a).trans (.swap ..)
theorem Inv.pull (h : Inv S w0 w H) (i : Nat) (hi : H[i]? = some e) : Inv S w0 w (e :: H.eraseIdx i) := h.perm (pull_perm H i e hi)
def insA : Nat → List Ent → Ent → List Ent
  | 0, L, e => e :: L
  | _ + 1, [], e => [e]
  | i + 1, a :: L, e => a :: insA i L e
theorem insA_perm : ∀ (i : Nat) (L : List Ent) (e : Ent), (e :: L).Perm (insA i L e)
  | 0, L, e => .refl _
  | i + 1, [], e => .refl _
  | i + 1, a :: L, e => (List.Perm.swap ..).trans ((insA_perm i L e).cons a)
def insAt (L : List Ent) (i : Nat) (e : Ent) : List Ent := insA i L e
theorem insAt_perm (L : List Ent) (i : Nat) (e : Ent) : (e :: L).Perm (insAt L i e) := insA_perm i L e
theorem Inv.back (h : Inv S w0 w (e :: H)) (i : Nat) : Inv S w0 w (insAt H i e) := h.perm (insAt_perm H i e)
end
theorem Inv.manyNil {S : Nat → Prop} {w0 w : World} {H : List Ent} (h : Inv S w0 w H) (n base e size : Nat) : Inv S w0 w (Many n (fun _ => Row base e size none 0 0 []) :: H) :=
  h.fresh (Pure.refl _) (Many.ok (fun i _ => Row.nil _ base e size) (fun i j _ _ _ k hk => by simp [Row] at hk)) (fun k ⟨i, _, hk⟩ => by simp [Row] at hk)
end Go.Proofs.YtgkmlnbnjbpodaaDoor
