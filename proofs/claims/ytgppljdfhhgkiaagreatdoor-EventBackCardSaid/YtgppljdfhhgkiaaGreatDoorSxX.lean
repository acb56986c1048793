/- Parts of memory brought to the front and put back. Nothing of the program. -/
import Derived.Test.YtgppljdfhhgkiaaGreatDoorSxB
namespace Go.Proofs.YtgppljdfhhgkiaaGreatDoor
open Go.RowKit
set_option linter.unusedVariables false
set_option linter.unusedSimpArgs false
section
variable {S : Nat → Prop} {w0 w : World} {H : List Ent} {e : Ent}
theorem pull_perm : ∀ (H : List Ent) (i : Nat) (e : Ent), H[i]? = some e → H.Perm (e :: H.eraseIdx i)
  | [], i, e, h => by simp at h
  | a :: H, 0, e, h => by
    simp at h
    subst h
    exact .refl _
  | a :: H, i + 1, e, h => by
    have := pull_perm H i e (by simpa using h)
    rw [List.eraseIdx_cons_succ]
    exact (this.cons a).trans (.swap ..)
theorem Inv.pull (h : Inv S w0 w H) (i : Nat) (hi : H[i]? = some e) : Inv S w0 w (e :: H.eraseIdx i) := h.perm (pull_perm H i e hi)
def insA : Nat → List Ent → Ent → List Ent
  | 0, L, e => e :: L
  | _ + 1, [], e => [e]
  | i + 1, a :: L, e => a :: insA i L e
theorem insA_perm : ∀ (i : Nat) (L : List Ent) (e : Ent), (e :: L).Perm (insA i L e)
  | 0, L, e => .refl _
  | i + 1, [], e => .refl _
  | i + 1, a :: L, e => (List.Perm.swap ..).trans ((insA_perm i L e).cons a)
def insAt (L : List Ent) (i : Nat) (e : Ent) : List Ent := insA i L e
theorem insAt_perm (L : List Ent) (i : Nat) (e : Ent) : (e :: L).Perm (insAt L i e) := insA_perm i L e
theorem Inv.back (h : Inv S w0 w (e :: H)) (i : Nat) : Inv S w0 w (insAt H i e) := h.perm (insAt_perm H i e)
end
theorem Inv.manyNil {S : Nat → Prop} {w0 w : World} {H : List Ent} (h : Inv S w0 w H) (n base e size : Nat) : Inv S w0 w (Many n (fun _ => Row base e size none 0 0 []) :: H) :=
  h.fresh (Pure.refl _) (Many.ok (fun i _ => Row.nil _ base e size) (fun i j _ _ _ k hk => by simp [Row] at hk)) (fun k ⟨i, _, hk⟩ => by simp [Row] at hk)
section
variable {P : Program} {ρ : Env} {w : World} {o : Oper} {x y : Operand} {t t' el : TypeId} {a : Addr}
theorem rPtrEq (ho : o.op = .binOp .eql t x y t') (ht : P.underlying t = some (.pointer el)) (hx : ev ρ x = .pointer (some a)) (hy : ev ρ y = .pointer none) : Runs P ρ o w (.bool false) := by
  have h := run_equal (P := P) (w := w) (t := t) (x := .pointer (some a)) (y := .pointer none) (r := false) (fun d => by simp [Op.equalIn, run_underlying ht])
  simp [Runs, execOp, ho, hx, hy, eqGuard, binOp, h]
theorem rPtrNe (ho : o.op = .binOp .neq t x y t') (ht : P.underlying t = some (.pointer el)) (hx : ev ρ x = .pointer (some a)) (hy : ev ρ y = .pointer none) : Runs P ρ o w (.bool true) := by
  have h := run_equal (P := P) (w := w) (t := t) (x := .pointer (some a)) (y := .pointer none) (r := false) (fun d => by simp [Op.equalIn, run_underlying ht])
  simp [Runs, execOp, ho, hx, hy, eqGuard, binOp, h]
end
section
variable {S : Nat → Prop} {w0 w w' : World} {H : List Ent}
def Ent.join (a b : Ent) : Ent := ⟨fun k => a.D k ∨ b.D k, fun w => a.Φ w ∧ b.Φ w⟩
theorem Inv.join {a b : Ent} (h : Inv S w0 w (a :: b :: H)) : Inv S w0 w (Ent.join a b :: H) := by
  have ha := h.ok a (by simp)
  have hb := h.ok b (by simp)
  have hp := List.pairwise_cons.1 h.apart
  have hp2 := List.pairwise_cons.1 hp.2
  refine ⟨h.chg, fun e he => ?_, fun e he k hk => ?_, List.pairwise_cons.2 ⟨fun e he k hk => ?_, hp2.2⟩⟩
  · rcases List.mem_cons.1 he with rfl | he
    · refine Ent.mk_ok ⟨ha.1, hb.1⟩ (fun k hk => hk.elim (ha.2.1 k) (hb.2.1 k)) (fun T w1 w2 hc hT h1 => ⟨ha.2.2 T w1 w2 hc (fun k hk => hT k (.inl hk)) h1.1, hb.2.2 T w1 w2 hc (fun k hk => hT k (.inr hk)) h1.2⟩)
    · exact h.ok e (by simp [he])
  · rcases List.mem_cons.1 he with rfl | he
    · rcases hk with hk | hk
      · exact h.own a (by simp) k hk
      · exact h.own b (by simp) k hk
    · exact h.own e (by simp [he]) k hk
  · rcases hk with hk | hk
    · exact hp.1 e (by simp [he]) k hk
    · exact hp2.1 e he k hk
end
end Go.Proofs.YtgppljdfhhgkiaaGreatDoor
