/- Sx: range over a map that the loop does not write; maps whose keys are ints, by SxM's words. Nothing of the program. -/
import Derived.Test.YtkfciehgjhgmeaaSxM
import Derived.Maps.RangeRun
namespace Go.Proofs.Ytkfciehgjhgmeaa
open Go
set_option linter.unusedVariables false
set_option linter.unusedSimpArgs false
set_option linter.unusedSectionVars false
/-! ### Keys that are ints -/
theorem keyInt {P : Program} {kt : TypeId} {q : IntKind} (hk : P.underlying kt = some (.int q)) : KeyOk P kt (fun _ : Int => True) (fun a => .int .i64 a) := by
  refine ⟨fun a _ es m w hes _ => ?_, fun a _ em w => check_int hk, fun a _ w => by simp [Instr.keyThatStays, Instr.sameBits]⟩
  rcases findNow_int (q := q) (a := a) es m 0 hes with ⟨g1, g2⟩ | ⟨j, v, g1, g2⟩
  · exact .inl ⟨g1, by simp [Instr.findKey, run_underlying hk, g2]⟩
  · exact .inr ⟨j, v, g1, by simp [Instr.findKey, run_underlying hk, g2]⟩
/-! ### Range -/
/-- The map b is gone through by the iterator r: of each key, whether it is left; no more are than cnt; cur: the key that came last. -/
structure RngIs {κ : Type} (ok : κ → Prop) (K : κ → Value) (w : World) (b r : Nat) (g : κ → Option Value) (left : κ → Prop) (cnt : Nat) (cur : Option κ) : Prop where
  ex : ∃ (es : Array MapEntry) (clk : Nat) (m : List (κ × Value)) (since c0 : Nat) (seen : Array Nat), w.heap[b]? = some (.map es clk) ∧ BornOk es clk ∧ EsK K es.toList m ∧ (m.map (·.1)).Nodup ∧ (∀ p ∈ m, ok p.1) ∧ (∀ a v, (a, v) ∈ m ↔ g a = some v) ∧
    w.heap[r]? = some (.mapIter (some b) since seen c0) ∧ since = clk ∧ since ≤ c0 ∧ (leftOf es seen).size ≤ cnt ∧
    (∀ a, left a ↔ ∃ (j : Nat) (e : MapEntry) (v : Value), es.toList[j]? = some e ∧ m[j]? = some (a, v) ∧ seen.contains e.born = false) ∧
    (∀ a, cur = some a → ∃ (e : MapEntry) (v : Value) (seen0 : Array Nat), e ∈ es.toList ∧ g a = some v ∧ e.key = K a ∧ e.val = v ∧ seen = seen0.push e.born ∧ c0 = clk)
def RngE {κ : Type} (ok : κ → Prop) (K : κ → Value) (b r : Nat) (g : κ → Option Value) (left : κ → Prop) (cnt : Nat) (cur : Option κ) : Ent := ⟨fun k => k = b ∨ k = r, fun w => RngIs ok K w b r g left cnt cur⟩
section
variable {κ : Type} [DecidableEq κ] {ok : κ → Prop} {K : κ → Value} {P : Program} {N : Nat} {ops : Array Oper} {Q : XPost} {rest : List Oper} {ρ : Env} {o : Oper} {w0 w w' : World} {S : Nat → Prop} {H : List Ent} {d t kt et b r cnt : Nat} {x y z : Operand} {zv v : Value} {a : κ} {g : κ → Option Value} {left : κ → Prop} {cur : Option κ}
theorem rngE_ok (h : RngIs ok K w b r g left cnt cur) : (RngE ok K b r g left cnt cur).ok w := by
  refine Ent.mk_ok h (fun k hk => ?_) (fun S w1 w2 hc hS h1 => ?_)
  · obtain ⟨es, clk, m, since, c0, seen, h1, _, _, _, _, _, h2, _⟩ := h.ex
    rcases hk with rfl | rfl
    · exact (Array.getElem?_eq_some_iff.1 h1).1
    · exact (Array.getElem?_eq_some_iff.1 h2).1
  · obtain ⟨es, clk, m, since, c0, seen, q1, q2, q3, q4, q5, q6, q7, q8⟩ := h1.ex
    exact ⟨es, clk, m, since, c0, seen, (hc.block b (Array.getElem?_eq_some_iff.1 q1).1 (hS b (.inl rfl))).trans q1, q2, q3, q4, q5, q6, (hc.block r (Array.getElem?_eq_some_iff.1 q7).1 (hS r (.inr rfl))).trans q7, q8⟩
theorem RngIs.map (h : RngIs ok K w b r g left cnt cur) : MapKIs ok K w b g := by
  obtain ⟨es, clk, m, since, c0, seen, q1, q2, q3, q4, q5, q6, _⟩ := h.ex
  exact ⟨es, clk, m, q1, q2, q3, q4, q5, q6⟩
/-- The map again. -/
theorem Inv.rngOff (i : Nat) (hi : H[i]? = some (RngE ok K b r g left cnt cur)) (hI : Inv S w0 w H) : Inv S w0 w (H.set i (MapKE ok K b g)) :=
  hI.upd i hi (Chg.refl _ _) (MapKE.ok (hI.ok _ (List.mem_of_getElem? hi)).1.map) (fun k hk => .inl (.inl hk))
theorem WL_rangeK (i : Nat) (hi : H[i]? = some (MapKE ok K b g)) (hI : Inv S w0 w H) (hw : wantedR ops ρ o = true) (hd : o.dst = some d) (hN : Nat.blt d N = true) (ho : o.op = .range t x) (ht : P.underlying t = some (.map kt et)) (hx : ev ρ x = .map (some b))
    (h : ∀ r cnt w', Inv S w0 w' (H.set i (RngE ok K b r g (fun a => (g a).isSome = true) cnt none)) → WL P N ops Q rest (upd ρ d (.pointer (some ⟨r, 0, none⟩))) w') : WL P N ops Q (o :: rest) ρ w := by
  have hM : MapKIs ok K w b g := (hI.ok _ (List.mem_of_getElem? hi)).1
  obtain ⟨es, clk, m, q1, q2, q3, q4, q5, q6⟩ := hM.ex
  have hlt := (Array.getElem?_eq_some_iff.1 q1).1
  have hrun := run_range_map (P := P) w t kt et b es clk ht q1
  refine WL_eff hw hd hN (v := .pointer (some ⟨w.heap.size, 0, none⟩)) (w' := w.alloc (.mapIter (some b) clk #[] clk)) (by simp [execOp, ho, hx, hrun]) (h _ (leftOf es #[]).size _ ?_)
  refine hI.upd i hi ((Chg.refl _ w).alloc _) (rngE_ok ⟨es, clk, m, clk, clk, #[], (heap_alloc_old w _ hlt).trans q1, q2, q3, q4, q5, q6, heap_alloc_new w _, rfl, Nat.le_refl _, Nat.le_refl _, fun a => ?_, fun a h => by cases h⟩) (fun k hk => ?_)
  · constructor
    · intro hs
      obtain ⟨v, hv⟩ := Option.isSome_iff_exists.1 hs
      obtain ⟨j, hj⟩ := List.getElem?_of_mem ((q6 a v).2 hv)
      have hjl := (List.getElem?_eq_some_iff.1 hj).1
      have hjl2 : j < es.toList.length := by rw [q3.len]; exact hjl
      exact ⟨j, es.toList[j], v, List.getElem?_eq_getElem hjl2, hj, by simp⟩
    · rintro ⟨j, e, v, _, hj, _⟩
      rw [(q6 a v).1 (List.mem_of_getElem? hj)]; rfl
  · rcases hk with hk | hk
    · exact .inl hk
    · exact .inr (by omega)
theorem WL_nextK (i : Nat) (hi : H[i]? = some (RngE ok K b r g left cnt cur)) (hI : Inv S w0 w H) (hw : wantedR ops ρ o = true) (hd : o.dst = some d) (hN : Nat.blt d N = true) (ho : o.op = .next x false) (hx : ev ρ x = .pointer (some ⟨r, 0, none⟩))
    (hdone : (∀ a, ¬ left a) → WL P N ops Q rest (upd ρ d (.tuple #[.bool false])) w)
    (hnext : ∀ a v w', left a → g a = some v → 0 < cnt → Inv S w0 w' (H.set i (RngE ok K b r g (fun k => left k ∧ k ≠ a) (cnt - 1) (some a))) → WL P N ops Q rest (upd ρ d (.tuple #[.bool true, K a, v])) w') : WL P N ops Q (o :: rest) ρ w := by
  have hR : RngIs ok K w b r g left cnt cur := (hI.ok _ (List.mem_of_getElem? hi)).1
  obtain ⟨es, clk, m, since, c0, seen, q1, q2, q3, q4, q5, q6, q7, q8, q9, q10, q11, _⟩ := hR.ex
  subst q8
  have hne : r ≠ b := fun e => by rw [e, q1] at q7; cases q7
  rcases run_next_at (P := P) w o.type r b since c0 seen es since q7 q1 q2.1 q9 with ⟨h0, hrun⟩ | ⟨e, he, w1, hw1, hrun⟩
  · refine WL_eff hw hd hN (v := .tuple #[.bool false]) (w' := w) (by simp [execOp, ho, hx, hrun]) (hdone fun a ha => ?_)
    obtain ⟨j, e, v, hj, _, hs⟩ := (q11 a).1 ha
    have hm : e ∈ leftOf es seen := by
      unfold leftOf
      rw [Array.mem_filter]
      exact ⟨by simpa using List.mem_of_getElem? hj, by simpa using hs⟩
    have := Array.size_pos_of_mem hm
    omega
  · have he' : e ∈ leftOf es seen := by simpa using he
    have hmf : e ∈ es ∧ (!seen.contains e.born) = true := by
      unfold leftOf at he'
      rw [Array.mem_filter] at he'
      exact he'
    have hel : e ∈ es.toList := by simpa using hmf.1
    obtain ⟨j, hj⟩ := List.getElem?_of_mem hel
    have hjl := (List.getElem?_eq_some_iff.1 hj).1
    have hjm : j < m.length := by rw [← q3.len]; exact hjl
    obtain ⟨a, v, hmj⟩ : ∃ a v, m[j]? = some (a, v) := ⟨m[j].1, m[j].2, by rw [List.getElem?_eq_getElem hjm]⟩
    have hkv : e.key = K a ∧ e.val = v := by
      have := congrArg (fun l => l[j]?) q3
      simp only [List.getElem?_map, hj, hmj, Option.map_some, Option.some.injEq, Prod.mk.injEq] at this
      exact this
    have hga : g a = some v := (q6 a v).1 (List.mem_of_getElem? hmj)
    have hsz : (leftOf es (seen.push e.born)).size < (leftOf es seen).size := by
      have e1 : leftOf es (seen.push e.born) = (leftOf es seen).filter (fun x => !(x.born == e.born)) := by
        unfold leftOf
        rw [Array.filter_filter]
        congr 1
        funext x
        rw [Array.contains_push]
        cases x.born == e.born <;> cases seen.contains x.born <;> rfl
      have h2 := List.length_filter_lt_length_iff_exists (p := fun x : MapEntry => !(x.born == e.born)) (l := (leftOf es seen).toList)
      have h3 := h2.2 ⟨e, he, by simp⟩
      have h4 : ((leftOf es seen).filter (fun x => !(x.born == e.born))).toList.length < (leftOf es seen).toList.length := by rw [Array.toList_filter]; exact h3
      rw [Array.length_toList, Array.length_toList, ← e1] at h4
      exact h4
    have h1r : w1.heap = w.heap := by rcases hw1 with rfl | rfl <;> rfl
    have hlt : r < w.heap.size := (Array.getElem?_eq_some_iff.1 q7).1
    refine WL_eff hw hd hN (v := .tuple #[.bool true, e.key, e.val]) (w' := ChangeMaps.setBlock w1 r (.mapIter (some b) since (seen.push e.born) since)) (by simp [execOp, ho, hx, hrun]) ?_
    rw [hkv.1, hkv.2]
    refine hnext a v _ ((q11 a).2 ⟨j, e, v, hj, hmj, by simpa using hmf.2⟩) hga (by omega) ?_
    have hc : Chg (RngE ok K b r g left cnt cur).D w w1 := by rcases hw1 with rfl | rfl <;> first | exact Chg.refl _ _ | exact (Chg.refl _ w).drew
    have hc2 : Chg (RngE ok K b r g left cnt cur).D w1 (ChangeMaps.setBlock w1 r (.mapIter (some b) since (seen.push e.born) since)) :=
      ⟨rfl, rfl, rfl, by simp [ChangeMaps.setBlock], fun k hk hs => by
        have : r ≠ k := fun e => hs (.inr e.symm)
        simp [ChangeMaps.setBlock, Array.getElem?_setIfInBounds, this]⟩
    refine hI.upd i hi (hc.trans' hc2 (fun _ _ h => h)) (rngE_ok ⟨es, since, m, since, since, seen.push e.born, ?_, q2, q3, q4, q5, q6, ?_, rfl, Nat.le_refl _, by omega, fun k => ?_, fun k hk => ?_⟩) (fun k hk => .inl hk)
    · show (w1.heap.setIfInBounds r _)[b]? = _
      rw [h1r, Array.getElem?_setIfInBounds, if_neg hne]
      exact q1
    · show (w1.heap.setIfInBounds r _)[r]? = _
      rw [h1r, Array.getElem?_setIfInBounds, if_pos rfl, if_pos hlt]
    · constructor
      · rintro ⟨hk, hne2⟩
        obtain ⟨j', e', v', g1, g2, g3⟩ := (q11 k).1 hk
        refine ⟨j', e', v', g1, g2, ?_⟩
        rw [Array.contains_push, g3, Bool.false_or]
        cases hbb : e'.born == e.born with
        | false => rfl
        | true =>
          exfalso
          have hb' : e'.born = e.born := by simpa using hbb
          have i1 : (es.toList.map (·.born))[j']? = some e.born := by simp [g1, hb']
          have i2 : (es.toList.map (·.born))[j]? = some e.born := by simp [hj]
          have hjj : j' = j := (List.getElem?_inj (List.getElem?_eq_some_iff.1 i1).1 q2.2).1 (i1.trans i2.symm)
          subst hjj
          rw [hmj] at g2
          injection g2 with g2
          injection g2 with g2 _
          exact hne2 g2.symm
      · rintro ⟨j', e', v', g1, g2, g3⟩
        rw [Array.contains_push, Bool.or_eq_false_iff] at g3
        refine ⟨(q11 k).2 ⟨j', e', v', g1, g2, g3.1⟩, fun e3 => ?_⟩
        subst e3
        have hjj := keyK_inj q4 g2 hmj
        subst hjj
        rw [hj] at g1
        injection g1 with g1
        subst g1
        simp at g3
    · injection hk with hk
      subst hk
      exact ⟨e, v, seen, hel, hga, hkv.1, hkv.2, rfl, rfl⟩
theorem rEntryK (hv : g a = some v) (ho : o.op = .entry x) (hx : ev ρ x = .pointer (some ⟨r, 0, none⟩)) (hR : RngIs ok K w b r g left cnt (some a)) : Runs P ρ o w (.tuple #[K a, v]) := by
  obtain ⟨es, clk, m, since, c0, seen, q1, q2, q3, q4, q5, q6, q7, q8, q9, q10, q11, q12⟩ := hR.ex
  obtain ⟨e, v', seen0, g1, g2, g3, g4, g5, g6⟩ := q12 a rfl
  subst g5 g6
  have := run_entry_at (P := P) w r b since seen0 es c0 e q7 q1 g1 q2.2
  rw [hv] at g2
  injection g2 with g2
  subst g2
  rw [g3, g4] at this
  simp [Runs, execOp, ho, hx, this]
end
end Go.Proofs.Ytkfciehgjhgmeaa
