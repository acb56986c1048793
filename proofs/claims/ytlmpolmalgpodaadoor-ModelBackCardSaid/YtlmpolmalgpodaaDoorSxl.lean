/- Sx: == and != of structs of ints. Nothing of the program. -/
import Derived.Test.YtlmpolmalgpodaaDoorSxk
import Derived.Laws.StructEq
namespace Go.Proofs.YtlmpolmalgpodaaDoor
open Go
set_option linter.unusedVariables false
set_option linter.unusedSimpArgs false

def eqIntsB (P : Program) (t n : Nat) : Bool := match P.underlying t with
  | some (.struct fs) => (fs.toList.map (fun f => f.offset) == List.range n) && fs.toList.all (fun f => f.name != "_" && (match P.underlying f.type with | some (.int _) => true | _ => false)) && !P.stoodInHeld t && !P.eqGuardType P.depth t
  | _ => false
def i64s (l : List Int) : List Value := l.map (Value.int .i64)
section
variable {P : Program} {ρ : Env} {o : Oper} {w : World} {x y z : Operand} {v : Value} {t t' : TypeId}
theorem run_part_i64 {f : Nat} {la : List Int} {i : Nat} {k : IntKind} (hu : P.underlying f = some (.int k)) (hi : i < la.length) : (part f (i64s la).toArray i).run P w = .ok (.int .i64 (la.getD i 0)) w := by
  have hp : plainB P f = true := by simp [plainB, hu]
  simp [part, run_isAgg_plain hp, i64s, List.getElem?_eq_getElem hi, List.getD]
theorem run_eqFields_i64 (d n : Nat) (la lb : List Int) (ha : la.length = n) (hb : lb.length = n) : ∀ (fs : List Field), (fs.all (fun f => f.name != "_" && (match P.underlying f.type with | some (.int _) => true | _ => false)) = true) → (∀ f ∈ fs, f.offset < n) →
    (Op.eqFields (d + 1) (i64s la).toArray (i64s lb).toArray fs).run P w = .ok (fs.all fun f => la.getD f.offset 0 == lb.getD f.offset 0) w
  | [], _, _ => by simp [Op.eqFields]
  | f :: fs, h1, h2 => by
    rw [List.all_cons, Bool.and_eq_true, Bool.and_eq_true] at h1
    obtain ⟨⟨hn, hu⟩, hr⟩ := h1
    have hn' : f.name ≠ "_" := by simpa using hn
    split at hu
    · rename_i k hk
      have hlt := h2 f (by simp)
      rw [Op.eqFields, if_pos hn']
      simp only [Sem.run_bind, run_part_i64 hk (show f.offset < la.length by omega), run_part_i64 hk (show f.offset < lb.length by omega), Result.andThen_ok, run_equalIn_int w d f.type .i64 k _ _ hk, List.all_cons]
      cases hc : la.getD f.offset 0 == lb.getD f.offset 0
      · simp
      · simp only [Bool.not_true, Bool.false_eq_true, if_false, Bool.true_and]
        exact run_eqFields_i64 d n la lb ha hb fs hr (fun g hg => h2 g (by simp [hg]))
    · cases hu
theorem all_range_eq {n : Nat} {la lb : List Int} (ha : la.length = n) (hb : lb.length = n) : ((List.range n).all fun i => la.getD i 0 == lb.getD i 0) = decide (la = lb) := by
  rw [Bool.eq_iff_iff, decide_eq_true_iff, List.all_eq_true]
  constructor
  · intro h
    refine List.ext_getElem (by omega) (fun i h1 h2 => ?_)
    have := h i (by simp; omega)
    simpa [List.getD, List.getElem?_eq_getElem h1, List.getElem?_eq_getElem h2] using this
  · rintro rfl i _
    simp
theorem run_equal_i64s {n : Nat} {la lb : List Int} (hB : eqIntsB P t n = true) (ha : la.length = n) (hb : lb.length = n) : (Op.equalIn 10000 t (.agg (i64s la).toArray) (.agg (i64s lb).toArray)).run P w = .ok (decide (la = lb)) w := by
  unfold eqIntsB at hB
  split at hB
  · rename_i fs hfs
    simp only [Bool.and_eq_true, Bool.not_eq_true', beq_iff_eq] at hB
    obtain ⟨⟨⟨h1, h2⟩, h3⟩, h4⟩ := hB
    have hf : P.fieldsOf t = fs := by unfold Program.fieldsOf; rw [hfs]
    rw [run_equalIn_struct w 9999 t _ _ (by rw [hf]; exact hfs) h3, hf]
    rw [run_eqFields_i64 9998 n la lb ha hb fs.toList h2 (fun f hf => by
      have : f.offset ∈ fs.toList.map (fun f => f.offset) := List.mem_map_of_mem hf
      rw [h1] at this
      simpa using this)]
    rw [← all_range_eq ha hb, ← h1, List.all_map]
    rfl
  · cases hB
theorem rEqlS {n : Nat} {la lb : List Int} (ho : o.op = .binOp .eql t x y t') (hB : eqIntsB P t n = true) (hx : ev ρ x = .agg (i64s la).toArray) (hy : ev ρ y = .agg (i64s lb).toArray) (ha : la.length = n) (hb : lb.length = n) : Runs P ρ o w (.bool (decide (la = lb))) := by
  have hg : P.eqGuardType P.depth t = false := by
    unfold eqIntsB at hB
    split at hB
    · simp only [Bool.and_eq_true, Bool.not_eq_true'] at hB; exact hB.2
    · cases hB
  have h1 := run_eqGuard_agg (P := P) w .eql t x y (i64s la).toArray (i64s lb).toArray hg
  have h2 := run_eql_struct (P := P) w t (i64s la).toArray (i64s lb).toArray
  rw [run_equal_i64s hB ha hb] at h2
  simp [Runs, execOp, ho, hx, hy, h1, h2]
theorem rNeqS {n : Nat} {la lb : List Int} (ho : o.op = .binOp .neq t x y t') (hB : eqIntsB P t n = true) (hx : ev ρ x = .agg (i64s la).toArray) (hy : ev ρ y = .agg (i64s lb).toArray) (ha : la.length = n) (hb : lb.length = n) : Runs P ρ o w (.bool (!decide (la = lb))) := by
  have hg : P.eqGuardType P.depth t = false := by
    unfold eqIntsB at hB
    split at hB
    · simp only [Bool.and_eq_true, Bool.not_eq_true'] at hB; exact hB.2
    · cases hB
  have h1 := run_eqGuard_agg (P := P) w .neq t x y (i64s la).toArray (i64s lb).toArray hg
  have h2 := run_neq_struct (P := P) w t (i64s la).toArray (i64s lb).toArray
  rw [run_equal_i64s hB ha hb] at h2
  simp [Runs, execOp, ho, hx, hy, h1, h2]
end
end Go.Proofs.YtlmpolmalgpodaaDoor
