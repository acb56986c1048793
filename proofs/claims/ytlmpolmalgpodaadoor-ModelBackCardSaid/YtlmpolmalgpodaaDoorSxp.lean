/- Sx: a slice's literal of structs that are not known cell by cell. Nothing of the program. -/
import Derived.Test.YtlmpolmalgpodaaDoorSxo
namespace Go.Proofs.YtlmpolmalgpodaaDoor
open Go
set_option linter.unusedVariables false
set_option linter.unusedSimpArgs false
theorem zip_fold (l : List Value) : ∀ (j off : Nat) (cs : Array Value), (l.zipIdx j).foldl (fun cs (p : Value × Nat) => cs.setIfInBounds (off + p.2) p.1) cs = splice cs (off + j) l := by
  induction l with
  | nil => intro j off cs; rfl
  | cons u l ih =>
    intro j off cs
    rw [List.zipIdx_cons, List.foldl_cons, ih]
    rfl
theorem fill_aggs {size : Nat} : ∀ (ls : List (List Value)) (i : Nat) (done junk : List Value), done.length = i * size → junk.length = ls.length * size → (∀ l ∈ ls, l.length = size) →
    Instr.fill (fun i => some (i * size, size)) (done ++ junk).toArray ((ls.zipIdx i).map fun x => (x.2, Value.agg x.1.toArray)) = some (done ++ ls.flatten).toArray
  | [], i, done, junk, h1, h2, h3 => by
    have : junk = [] := by simpa using h2
    simp [Instr.fill, this]
  | l :: ls, i, done, junk, h1, h2, h3 => by
    have hl := h3 l (by simp)
    rw [List.length_cons, Nat.add_mul, Nat.one_mul] at h2
    rw [List.zipIdx_cons, List.map_cons, Instr.fill]
    have hc : (Value.agg l.toArray).cells = l.toArray := rfl
    simp only [hc]
    rw [if_neg (by simp [hl, h1, h2])]
    have hf : l.toArray.zipIdx.foldl (fun cs (x : Value × Nat) => cs.setIfInBounds (i * size + x.2) x.1) (done ++ junk).toArray = ((done ++ l) ++ junk.drop size).toArray := by
      have := zip_fold l 0 (i * size) (done ++ junk).toArray
      rw [Nat.add_zero] at this
      have e : l.toArray.zipIdx = (l.zipIdx).toArray := by simp
      rw [e, List.foldl_toArray']
      · refine Eq.trans this ?_
        apply Array.ext'
        rw [splice_list _ _ _ (by simp [h1, h2]; omega)]
        simp [← h1, hl]
      · simp
    have ih := fill_aggs ls (i + 1) (done ++ l) (junk.drop size) (by simp [h1, hl, Nat.add_mul]) (by simp [h2]) (fun m hm => h3 m (by simp [hm]))
    rw [hf, ih]
    simp
section
variable {P : Program} {N : Nat} {ops : Array Oper} {Q : XPost} {rest : List Oper} {ρ : Env} {o : Oper} {w0 w w' : World} {S : Nat → Prop} {H : List Ent} {d g t tt : Nat} {cs : Array Value} {v : Value}
theorem run_litA {e n size : Nat} {z : Value} (ls : List (List Value)) (ht : P.underlying t = some (.slice e)) (hs : szB P e size = true) (hz : (P.info? e).bind (·.zero) = some z) (hn : ls.length = n) (hl : ∀ l ∈ ls, l.length = size) (hm : n * size ≤ 16777216) :
    (Instr.buildSlice t n (((ls.zipIdx).map fun x => (x.2, Value.agg x.1.toArray)).toArray)).run P w = .ok (.slice (some ⟨w.heap.size, 0, none⟩) n n) (w.alloc (.cells ls.flatten.toArray e)) := by
  have hm' : ¬ n * size > 16777216 := by omega
  have hzv : (zeroValue e).run P w = .ok z w := by
    cases hi : P.info? e with
    | none => simp [hi] at hz
    | some q => simp only [hi, Option.bind_some] at hz; simp [zeroValue, typeInfo, hi, hz]
  have key : ∀ zero : Array Value, Instr.fill (fun i => some (i * size, size)) ((Array.range (n * size)).map (zero[· % zero.size]!)) ((ls.zipIdx).map fun x => (x.2, Value.agg x.1.toArray)) = some ls.flatten.toArray := by
    intro zero
    have := fill_aggs (size := size) ls 0 [] (((Array.range (n * size)).map (zero[· % zero.size]!)).toList) (by simp) (by simp [hn]) hl
    rw [List.nil_append, List.nil_append, Array.toArray_toList] at this
    exact this
  unfold Instr.buildSlice
  simp only [Sem.run_bind, run_underlying ht, Result.andThen_ok, run_size hs]
  by_cases h0 : n * size = 0
  · simp [h0, key #[], newRow] at *
    have := key #[]
    simp at this
    simp [this, newRow]
  · simp [hm', h0, hzv, key z.cells, newRow]
theorem WL_litA {e n size : Nat} {ps : List (Nat × Operand)} (ls : List (List Value)) (hI : Inv S w0 w H) (hw : wantedR ops ρ o = true) (hd : o.dst = some d) (hN : Nat.blt d N = true) (ho : o.op = .buildSlice t n ps.toArray) (hq : (ps.map fun p => (p.1, ev ρ p.2)) = (ls.zipIdx).map fun x => (x.2, Value.agg x.1.toArray))
    (ht : P.underlying t = some (.slice e)) (hs : szB P e size = true) (hz : ((P.info? e).bind (·.zero)).isSome = true) (hn : ls.length = n) (hl : ∀ l ∈ ls, l.length = size) (hm : n * size ≤ 16777216)
    (h : ∀ g w', Pure w w' → g = w.heap.size → Inv S w0 w' (B g e ls.flatten.toArray :: H) → WL P N ops Q rest (upd ρ d (.slice (some ⟨g, 0, none⟩) n n)) w') : WL P N ops Q (o :: rest) ρ w := by
  obtain ⟨z, hz⟩ := Option.isSome_iff_exists.1 hz
  refine WL_eff hw hd hN ?_ (h _ _ ((Pure.refl w).alloc _) rfl (hI.box e ls.flatten.toArray))
  have := run_litA (P := P) (w := w) ls ht hs hz hn hl hm
  rw [← hq] at this
  simp only [execOp, ho]
  simp [this]
end
end Go.Proofs.YtlmpolmalgpodaaDoor
