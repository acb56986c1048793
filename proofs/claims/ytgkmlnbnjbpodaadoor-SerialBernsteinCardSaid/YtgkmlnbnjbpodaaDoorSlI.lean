/- slices.Clone at ints (Index, Contains: IntC). Nothing of the program. -/
import Derived.Test.YtgkmlnbnjbpodaaDoorSxB
import Derived.Test.YtgkmlnbnjbpodaaDoorIntC
import Derived.Test.YtgkmlnbnjbpodaaDoorProg
namespace Go.Proofs.YtgkmlnbnjbpodaaDoor
open Go.RowKit
set_option linter.unusedVariables false
set_option linter.unusedSimpArgs false
section
variable {P : Program} {ρ : Env} {w : World} {o : Oper} {x : Operand} {t t' e : TypeId}
theorem rSlNilT {n c : Nat} (ho : o.op = .binOp .eql t x (.const (.slice none 0 0)) t') (ht : P.underlying t = some (.slice e)) (hx : ev ρ x = .slice none n c) : Runs P ρ o w (.bool true) := by
  have h := run_equal (P := P) (w := w) (t := t) (x := .slice none n c) (y := .slice none 0 0) (r := true) (fun d => by simp [Op.equalIn, run_underlying ht])
  simp [Runs, execOp, ho, hx, show ev ρ (.const (.slice none 0 0)) = .slice none 0 0 from rfl, eqGuard, binOp, h]
theorem rSlNilF {n c : Nat} {p : Addr} (ho : o.op = .binOp .eql t x (.const (.slice none 0 0)) t') (ht : P.underlying t = some (.slice e)) (hx : ev ρ x = .slice (some p) n c) : Runs P ρ o w (.bool false) := by
  have h := run_equal (P := P) (w := w) (t := t) (x := .slice (some p) n c) (y := .slice none 0 0) (r := false) (fun d => by simp [Op.equalIn, run_underlying ht])
  simp [Runs, execOp, ho, hx, show ev ρ (.const (.slice none 0 0)) = .slice none 0 0 from rfl, eqGuard, binOp, h]
end
theorem ints_one (l : List Int) : (l.map (Value.int .i64)).all (·.oneCell') = true := by simp [Value.oneCell']
set_option maxHeartbeats 1000000 in
theorem cloneI_any (A : Option Addr) (n c : Nat) (l : List Int) (D : Nat → Prop) (w0 : World) (h : Ints w0 D (.slice A n c) l) (hb : l.length ≤ 1000000) :
    Calls Tryd.prog 25 #[.slice A n c] w0 fun en w' => ∃ A' c', en = .returned (.slice A' n c') ∧ Inv (fun _ => False) w0 w' [Row 0 3 1 A' n c' (l.map (Value.int .i64))] := by
  obtain ⟨A1, c1, hv, hnc, hcm, hlen, hcell⟩ := h
  injection hv with e1 e2 e3
  subst e1 e2 e3
  have hI := Inv.start (fun _ => False) w0
  refine calls_of_W (N := Tryd.f25.ntmps) Tryd.func25 rfl rfl rfl ?_
  refine W_seq ?_
  refine W_region ?_
  refine WL_val rfl rfl rfl (by first | exact rAsgnS rfl rfl | exact rAsgn rfl) ?_
  refine WL_nil ?_
  cases A with
  | none =>
    have hl : l = [] := by
      rcases Nat.eq_zero_or_pos l.length with h0 | h0
      · exact List.eq_nil_of_length_eq_zero h0
      · obtain ⟨b, o, hbo, _⟩ := hcell h0
        cases hbo
    subst hl
    refine W_seq ?_
    refine W_seq ?_
    refine W_region ?_
    refine WL_val rfl rfl rfl (by first | exact rMoveS rfl rfl | exact rMove rfl) ?_
    refine WL_val rfl rfl rfl (rSlNilT rfl Tryd.underlying23 rfl) ?_
    refine WL_nil ?_
    refine W_cond true rfl ?_
    refine W_seq ?_
    refine W_region ?_
    refine WL_val rfl rfl rfl (by first | exact rAsgnS rfl rfl | exact rAsgn rfl) ?_
    refine WL_nil ?_
    refine W_ret ?_
    exact ret1 2 (.inr rfl) rfl ⟨none, 0, rfl, hI.fresh (Pure.refl _) (Row.nil _ 0 3 1) (fun k hk => by simp [Row] at hk)⟩
  | some p =>
    refine W_seq ?_
    refine W_seq ?_
    refine W_region ?_
    refine WL_val rfl rfl rfl (by first | exact rMoveS rfl rfl | exact rMove rfl) ?_
    refine WL_val rfl rfl rfl (rSlNilF rfl Tryd.underlying23 rfl) ?_
    refine WL_nil ?_
    refine W_cond false rfl ?_
    refine W_skip ?_
    refine W_seq ?_
    refine W_region ?_
    refine WL_lit (vs := []) (qs := []) [] [] hI rfl rfl rfl rfl rfl rfl Tryd.underlying23 (fun _ => by kernel_rfl) ?_
    clear hI; rintro b5 w - - hI
    refine WL_val rfl rfl rfl (by first | exact rMoveS rfl rfl | exact rMove rfl) ?_
    replace hI := hI.u0 (e' := Row 0 3 1 (some ⟨b5, 0, none⟩) 0 0 []) (Chg.refl _ _) (Row.of_blk hI.g0 (Nat.zero_le _) (by simp) (by omega)) (fun k hk => .inl (by have : some b5 = some k := hk; injection this with this; exact this.symm))
    rcases Nat.eq_zero_or_pos l.length with h0 | h0
    · have hl : l = [] := List.eq_nil_of_length_eq_zero h0
      subst hl
      refine WL_val rfl rfl rfl (rApp0 rfl Tryd.underlying23 (sz := 1) (by kernel_rfl) rfl rfl (Nat.le_refl _)) ?_
      refine WL_val rfl rfl rfl (rAsgnS rfl rfl) ?_
      refine WL_nil ?_
      refine W_ret ?_
      exact ret1 2 (.inr rfl) rfl ⟨_, _, rfl, hI⟩
    · obtain ⟨b, o, hbo, _, hcl⟩ := hcell h0
      injection hbo with hbo
      subst hbo
      refine WL_app0 (z := .int .i64 0) (by_ := 8) (news := l.map (Value.int .i64)) hI rfl rfl rfl rfl rfl rfl Tryd.underlying23 (by kernel_rfl) rfl (by omega) (by rw [hlen]) (fun k u hk => hI.oldp (hcl k u hk)) (ints_one l) (by simp; omega) (by simp; omega) (Nat.zero_le _) ?_
      clear hI; rintro A2 c2 w _ _ hI
      refine WL_val rfl rfl rfl (rAsgnS rfl rfl) ?_
      refine WL_nil ?_
      refine W_ret ?_
      refine ret1 2 (.inr rfl) rfl ⟨A2, c2, ?_, ?_⟩
      · show Ending.returned (.slice A2 (0 + l.length) c2) = _; rw [Nat.zero_add]
      · have h' : Inv (fun _ => False) w0 w [Row 0 3 1 A2 (0 + l.length) c2 ([] ++ l.map (Value.int .i64))] := hI
        rw [Nat.zero_add, List.nil_append] at h'; exact h'
end Go.Proofs.YtgkmlnbnjbpodaaDoor
