/- Sx: == of a struct of two arrays of ints. Nothing of the program. -/
import Derived.Test.YtlmpolmalgpodaaDoorSxl
import Derived.ChangeKeysEq
namespace Go.Proofs.YtlmpolmalgpodaaDoor
open Go
set_option linter.unusedVariables false
set_option linter.unusedSimpArgs false
section
variable {P : Program} {ρ : Env} {o : Oper} {w : World} {x y z : Operand} {v : Value} {t t' : TypeId}
def arrB (P : Program) (t n : Nat) : Bool := match P.underlying t with
  | some (.array m e) => m == n && (P.info? e).isSome && (P.cellsOf e == 1) && (match P.underlying e with | some (.int _) => true | _ => false)
  | _ => false
theorem run_eqItems_i64 (d n : Nat) {e : TypeId} {k : IntKind} (he : P.underlying e = some (.int k)) (la lb : List Int) (ha : la.length = n) (hb : lb.length = n) : ∀ (is : List Nat), (∀ i ∈ is, i < n) →
    (Op.eqItems (d + 1) e 1 (i64s la).toArray (i64s lb).toArray is).run P w = .ok (is.all fun i => la.getD i 0 == lb.getD i 0) w
  | [], _ => by simp [Op.eqItems]
  | i :: is, h => by
    have hi := h i (by simp)
    simp only [Op.eqItems, Sem.run_bind, Nat.mul_one, run_part_i64 he (show i < la.length by omega), run_part_i64 he (show i < lb.length by omega), Result.andThen_ok, run_equalIn_int w d e .i64 k _ _ he, List.all_cons]
    cases hc : la.getD i 0 == lb.getD i 0
    · simp
    · simp only [Bool.not_true, Bool.false_eq_true, if_false, Bool.true_and]
      exact run_eqItems_i64 d n he la lb ha hb is (fun j hj => h j (by simp [hj]))
theorem run_equalIn_arr (d : Nat) {n : Nat} {la lb : List Int} (hB : arrB P t n = true) (ha : la.length = n) (hb : lb.length = n) : (Op.equalIn (d + 2) t (.agg (i64s la).toArray) (.agg (i64s lb).toArray)).run P w = .ok (decide (la = lb)) w := by
  unfold arrB at hB
  split at hB
  · rename_i m e hu
    simp only [Bool.and_eq_true, beq_iff_eq] at hB
    obtain ⟨⟨⟨rfl, h1⟩, h2⟩, h3⟩ := hB
    obtain ⟨i, hi⟩ := Option.isSome_iff_exists.1 h1
    split at h3
    · rename_i k hk
      rw [run_equalIn_array w (d + 1) _ _ hu hi, h2, run_eqItems_i64 d m hk la lb ha hb _ (fun j hj => by simpa using hj), all_range_eq ha hb]
    · cases h3
  · cases hB
def eqTwoB (P : Program) (t n : Nat) : Bool := match P.underlying t with
  | some (.struct fs) => match fs.toList with
    | [f, g] => f.name != "_" && g.name != "_" && f.offset == 0 && g.offset == n && arrB P f.type n && arrB P g.type n && szB P f.type n && szB P g.type n && aggB P f.type && aggB P g.type && !P.stoodInHeld t && !P.eqGuardType P.depth t
    | _ => false
  | _ => false
theorem run_part_arr {f n off : Nat} {l : List Int} (ha : aggB P f = true) (hs : szB P f n = true) : (part f (i64s l).toArray off).run P w = .ok (.agg (i64s ((l.drop off).take n)).toArray) w := by
  simp [part, run_isAgg_agg ha, run_size hs, i64s, List.map_take, List.map_drop, List.take_drop]
theorem run_equal_two {n : Nat} {la lb : List Int} (hB : eqTwoB P t n = true) (ha : la.length = 2 * n) (hb : lb.length = 2 * n) : (Op.equalIn 10000 t (.agg (i64s la).toArray) (.agg (i64s lb).toArray)).run P w = .ok (decide (la = lb)) w := by
  unfold eqTwoB at hB
  split at hB
  · rename_i fs hfs
    split at hB
    · rename_i f g hfg
      simp only [Bool.and_eq_true, Bool.not_eq_true', beq_iff_eq, bne_iff_ne] at hB
      obtain ⟨⟨⟨⟨⟨⟨⟨⟨⟨⟨⟨h1, h2⟩, h3⟩, h4⟩, h5⟩, h6⟩, h7⟩, h8⟩, h9⟩, h10⟩, h11⟩, h12⟩ := hB
      have hf : P.fieldsOf t = fs := by unfold Program.fieldsOf; rw [hfs]
      rw [run_equalIn_struct w 9999 t _ _ (by rw [hf]; exact hfs) h11, hf, hfg]
      have e1 := run_equalIn_arr (P := P) (w := w) 9997 (la := (la.drop 0).take n) (lb := (lb.drop 0).take n) h5 (by simp; omega) (by simp; omega)
      have e2 := run_equalIn_arr (P := P) (w := w) 9997 (la := (la.drop n).take n) (lb := (lb.drop n).take n) h6 (by simp; omega) (by simp; omega)
      simp only [Op.eqFields, h1, h2, h3, h4, ne_eq, not_false_eq_true, if_true, Sem.run_bind, run_part_arr h9 h7, run_part_arr h10 h8, Result.andThen_ok, e1]
      have hiff : la = lb ↔ (la.drop 0).take n = (lb.drop 0).take n ∧ (la.drop n).take n = (lb.drop n).take n := by
        constructor
        · rintro rfl; exact ⟨rfl, rfl⟩
        · rintro ⟨p, q⟩
          rw [List.take_of_length_le (by simp; omega), List.take_of_length_le (by simp; omega)] at q
          rw [List.drop_zero, List.drop_zero] at p
          rw [← List.take_append_drop n la, ← List.take_append_drop n lb, p, q]
      by_cases hc : (la.drop 0).take n = (lb.drop 0).take n
      · rw [decide_eq_true hc]
        simp only [Bool.not_true, Bool.false_eq_true, if_false, Sem.run_bind, run_part_arr h10 h8, Result.andThen_ok, e2]
        by_cases hc2 : (la.drop n).take n = (lb.drop n).take n
        · rw [decide_eq_true hc2, decide_eq_true (hiff.2 ⟨hc, hc2⟩)]
          simp
        · rw [decide_eq_false hc2, decide_eq_false (fun h => hc2 (hiff.1 h).2)]
          simp
      · rw [decide_eq_false hc, decide_eq_false (fun h => hc (hiff.1 h).1)]
        simp
    · cases hB
  · cases hB
theorem rEqlTwo {n : Nat} {la lb : List Int} (ho : o.op = .binOp .eql t x y t') (hB : eqTwoB P t n = true) (hx : ev ρ x = .agg (i64s la).toArray) (hy : ev ρ y = .agg (i64s lb).toArray) (ha : la.length = 2 * n) (hb : lb.length = 2 * n) : Runs P ρ o w (.bool (decide (la = lb))) := by
  have hg : P.eqGuardType P.depth t = false := by
    unfold eqTwoB at hB
    split at hB
    · split at hB
      · simp only [Bool.and_eq_true, Bool.not_eq_true'] at hB; exact hB.2
      · cases hB
    · cases hB
  have h1 := run_eqGuard_agg (P := P) w .eql t x y (i64s la).toArray (i64s lb).toArray hg
  have h2 := run_eql_struct (P := P) w t (i64s la).toArray (i64s lb).toArray
  rw [run_equal_two hB ha hb] at h2
  simp [Runs, execOp, ho, hx, hy, h1, h2]
end
end Go.Proofs.YtlmpolmalgpodaaDoor
