/- Sx: maps whose keys are ints: made, read, written, deleted from. Nothing of the program. -/
import Derived.Test.YtlmpolmalgpodaaDoorSxp
namespace Go.Proofs.YtlmpolmalgpodaaDoor
open Go
set_option linter.unusedVariables false
set_option linter.unusedSimpArgs false
theorem run_getM {P : Program} {w : World} {r c : Nat} {es : Array MapEntry} (h : w.heap[r]? = some (.map es c)) : (getObj r).run P w = .ok (.map es c) w := by simp [getObj, Sem.run, h]
def setB (w : World) (r : Nat) (o : Obj) : World := { w with heap := w.heap.setIfInBounds r o }
theorem run_setM {P : Program} {w : World} {r c : Nat} {es : Array MapEntry} (o : Obj) (h : w.heap[r]? = some (.map es c)) : (setObj r o).run P w = .ok () (setB w r o) := by simp [setObj, Sem.run, h, setB]
/-- The entries, as pairs. -/
def EsIs (es : List MapEntry) (m : List (Int × Value)) : Prop := es.map (fun e => (e.key, e.val)) = m.map (fun p => (Value.int .i64 p.1, p.2))
theorem EsIs.len {es : List MapEntry} {m : List (Int × Value)} (h : EsIs es m) : es.length = m.length := by
  have := congrArg List.length h
  simpa using this
theorem findNow_int {q : IntKind} {a : Int} : ∀ (es : List MapEntry) (m : List (Int × Value)) (i : Nat), EsIs es m →
    ((∀ p ∈ m, p.1 ≠ a) ∧ Instr.findNow (.int q) (.int .i64 a) es i = some none) ∨ ∃ j v, m[j]? = some (a, v) ∧ Instr.findNow (.int q) (.int .i64 a) es i = some (some (i + j, v))
  | [], [], i, _ => .inl ⟨by simp, rfl⟩
  | [], _ :: _, i, h => by simp [EsIs] at h
  | _ :: _, [], i, h => by simp [EsIs] at h
  | e :: es, p :: m, i, h => by
    simp only [EsIs, List.map_cons, List.cons.injEq, Prod.mk.injEq] at h
    obtain ⟨⟨h1, h2⟩, h3⟩ := h
    by_cases hp : p.1 = a
    · refine .inr ⟨0, p.2, by rw [← hp]; rfl, ?_⟩
      simp [Instr.findNow, h1, Instr.sameNow, hp, h2]
    · have hne : (a == p.1) = false := by simpa using fun e => hp e.symm
      rcases findNow_int es m (i + 1) h3 with ⟨g1, g2⟩ | ⟨j, v, g1, g2⟩
      · refine .inl ⟨fun x hx => ?_, ?_⟩
        · rcases List.mem_cons.1 hx with rfl | hx
          · exact hp
          · exact g1 x hx
        · simp only [Instr.findNow, h1, Instr.sameNow, if_true, hne]
          exact g2
      · refine .inr ⟨j + 1, v, by simpa using g1, ?_⟩
        simp only [Instr.findNow, h1, Instr.sameNow, if_true, hne]
        rw [g2, show i + 1 + j = i + (j + 1) by omega]
/-- A map of ints: what it holds at each. -/
structure MapIs (w : World) (b : Nat) (g : Int → Option Value) : Prop where
  ex : ∃ (es : Array MapEntry) (clk : Nat) (m : List (Int × Value)), w.heap[b]? = some (.map es clk) ∧ EsIs es.toList m ∧ (m.map (·.1)).Nodup ∧ ∀ a v, (a, v) ∈ m ↔ g a = some v
def MapE (b : Nat) (g : Int → Option Value) : Ent := ⟨fun k => k = b, fun w => MapIs w b g⟩
theorem MapE.ok {w : World} {b : Nat} {g : Int → Option Value} (h : MapIs w b g) : (MapE b g).ok w := by
  refine Ent.mk_ok h (fun k hk => ?_) (fun S w1 w2 hc hS h1 => ?_)
  · obtain ⟨es, clk, m, h1, _⟩ := h.ex
    have : k = b := hk
    subst this
    rcases Nat.lt_or_ge k w.heap.size with h2 | h2
    · exact h2
    · simp [Array.getElem?_eq_none h2] at h1
  · obtain ⟨es, clk, m, h2, h3⟩ := h1.ex
    have hlt : b < w1.heap.size := by
      rcases Nat.lt_or_ge b w1.heap.size with h4 | h4
      · exact h4
      · simp [Array.getElem?_eq_none h4] at h2
    exact ⟨es, clk, m, (hc.block b hlt (hS b rfl)).trans h2, h3⟩
theorem key_inj {m : List (Int × Value)} (hn : (m.map (·.1)).Nodup) {i j : Nat} {a : Int} {u v : Value} (hi : m[i]? = some (a, u)) (hj : m[j]? = some (a, v)) : i = j := by
  have h1 : (m.map (·.1))[i]? = some a := by simp [hi]
  have h2 : (m.map (·.1))[j]? = some a := by simp [hj]
  exact (List.getElem?_inj (List.getElem?_eq_some_iff.1 h1).1 hn).1 (h1.trans h2.symm)
theorem heap_setB {w : World} {b : Nat} {o : Obj} (h : b < w.heap.size) : (setB w b o).heap[b]? = some o := by simp [setB, h]
theorem chg_setB (w : World) (b : Nat) (o : Obj) : Chg (fun k => k = b) w (setB w b o) :=
  ⟨rfl, rfl, rfl, by simp [setB], fun k hk hs => by
    have : b ≠ k := fun e => hs e.symm
    simp [setB, Array.getElem?_setIfInBounds, this]⟩
section
variable {P : Program} {N : Nat} {ops : Array Oper} {Q : XPost} {rest : List Oper} {ρ : Env} {o : Oper} {w0 w w' : World} {S : Nat → Prop} {H : List Ent} {d t kt et b : Nat} {q : IntKind} {g : Int → Option Value} {x y z : Operand} {a : Int} {v zv : Value}
theorem WL_mkMap (hI : Inv S w0 w H) (hw : wantedR ops ρ o = true) (hd : o.dst = some d) (hN : Nat.blt d N = true) (ho : o.op = .makeMap t none)
    (h : ∀ b w', Inv S w0 w' (MapE b (fun _ => none) :: H) → WL P N ops Q rest (upd ρ d (.map (some b))) w') : WL P N ops Q (o :: rest) ρ w :=
  WL_eff hw hd hN (v := .map (some w.heap.size)) (w' := w.alloc (.map #[] 0)) (by simp [execOp, ho, Instr.makeMap])
    (h _ _ (hI.fresh ((Pure.refl w).alloc _) (MapE.ok ⟨#[], 0, [], by show (w.heap.push _)[w.heap.size]? = _; simp, rfl, by simp, by simp⟩) (fun k hk => by have : k = w.heap.size := hk; omega)))
theorem check_int {em : Bool} (hk : P.underlying kt = some (.int q)) : (Instr.checkKey em 10000 kt (.int .i64 a)).run P w = .ok () w := by
  show (Instr.checkKey em (Nat.succ 9999) kt (.int .i64 a)).run P w = .ok () w
  rw [Instr.checkKey]
  simp [run_underlying hk]
/-- m[k] where it is there (ok: with the second result). -/
theorem rLook (ho : o.op = .lookup t x y true) (ht : P.underlying t = some (.map kt et)) (hk : P.underlying kt = some (.int q)) (hz : (P.info? et).bind (·.zero) = some zv) (hx : ev ρ x = .map (some b)) (hy : ev ρ y = .int .i64 a) (hM : MapIs w b g) :
    Runs P ρ o w (.tuple #[(g a).getD zv, .bool (g a).isSome]) := by
  obtain ⟨es, clk, m, h1, h2, h3, h4⟩ := hM.ex
  have hzv : (zeroValue et).run P w = .ok zv w := by
    cases hi : P.info? et with
    | none => simp [hi] at hz
    | some i => simp only [hi, Option.bind_some] at hz; simp [zeroValue, typeInfo, hi, hz]
  have hc := check_int (P := P) (w := w) (a := a) (em := es.isEmpty) hk
  rcases findNow_int (q := q) (a := a) es.toList m 0 h2 with ⟨g1, g2⟩ | ⟨j, u, g1, g2⟩
  · have hg : g a = none := by
      cases hga : g a with
      | none => rfl
      | some u => exact absurd rfl (g1 _ ((h4 a u).2 hga))
    simp [Runs, execOp, ho, hx, hy, Instr.lookup, run_underlying ht, run_getM h1, hc, Instr.findKey, run_underlying hk, g2, hzv, hg]
  · have hg : g a = some u := (h4 a u).1 (List.mem_of_getElem? g1)
    simp [Runs, execOp, ho, hx, hy, Instr.lookup, run_underlying ht, run_getM h1, hc, Instr.findKey, run_underlying hk, g2, hg]
theorem rLook1 (ho : o.op = .lookup t x y false) (ht : P.underlying t = some (.map kt et)) (hk : P.underlying kt = some (.int q)) (hz : (P.info? et).bind (·.zero) = some zv) (hx : ev ρ x = .map (some b)) (hy : ev ρ y = .int .i64 a) (hM : MapIs w b g) :
    Runs P ρ o w ((g a).getD zv) := by
  obtain ⟨es, clk, m, h1, h2, h3, h4⟩ := hM.ex
  have hzv : (zeroValue et).run P w = .ok zv w := by
    cases hi : P.info? et with
    | none => simp [hi] at hz
    | some i => simp only [hi, Option.bind_some] at hz; simp [zeroValue, typeInfo, hi, hz]
  have hc := check_int (P := P) (w := w) (a := a) (em := es.isEmpty) hk
  rcases findNow_int (q := q) (a := a) es.toList m 0 h2 with ⟨g1, g2⟩ | ⟨j, u, g1, g2⟩
  · have hg : g a = none := by
      cases hga : g a with
      | none => rfl
      | some u => exact absurd rfl (g1 _ ((h4 a u).2 hga))
    simp [Runs, execOp, ho, hx, hy, Instr.lookup, run_underlying ht, run_getM h1, hc, Instr.findKey, run_underlying hk, g2, hzv, hg]
  · have hg : g a = some u := (h4 a u).1 (List.mem_of_getElem? g1)
    simp [Runs, execOp, ho, hx, hy, Instr.lookup, run_underlying ht, run_getM h1, hc, Instr.findKey, run_underlying hk, g2, hg]
theorem run_mapSet (ho : o.op = .mapUpdate t x y z) (ht : P.underlying t = some (.map kt et)) (hk : P.underlying kt = some (.int q)) (hx : ev ρ x = .map (some b)) (hy : ev ρ y = .int .i64 a) (hz : ev ρ z = v) (hM : MapIs w b g) :
    ∃ o', (execOp (ev ρ) o).run P w = .ok .skip (setB w b o') ∧ MapIs (setB w b o') b (fun i => if i = a then some v else g i) := by
  obtain ⟨es, clk, m, h1, h2, h3, h4⟩ := hM.ex
  have hlt : b < w.heap.size := by
    rcases Nat.lt_or_ge b w.heap.size with h5 | h5
    · exact h5
    · simp [Array.getElem?_eq_none h5] at h1
  have hc := check_int (P := P) (w := w) (a := a) (em := false) hk
  rcases findNow_int (q := q) (a := a) es.toList m 0 h2 with ⟨g1, g2⟩ | ⟨j, u, g1, g2⟩
  · refine ⟨.map (es.push { key := .int .i64 a, val := v, born := clk }) (clk + 1), ?_, ?_⟩
    · simp [execOp, ho, hx, hy, hz, Instr.mapUpdate, run_underlying ht, run_getM h1, hc, Instr.findKey, run_underlying hk, g2, run_setM _ h1]
    · refine ⟨_, _, m ++ [(a, v)], heap_setB hlt, ?_, ?_, fun i u => ?_⟩
      · unfold EsIs at h2 ⊢
        simp [h2]
      · rw [List.map_append, List.nodup_append]
        refine ⟨h3, by simp, fun i hi j hj => ?_⟩
        simp only [List.map_cons, List.map_nil, List.mem_singleton] at hj
        obtain ⟨p, hp, rfl⟩ := List.mem_map.1 hi
        rw [hj]
        exact g1 p hp
      · rw [List.mem_append, List.mem_singleton]
        by_cases hia : i = a
        · subst hia
          rw [if_pos rfl]
          constructor
          · rintro (hh | hh)
            · exact absurd rfl (g1 _ hh)
            · injection hh with _ hh; rw [hh]
          · intro hh; injection hh with hh; exact .inr (by rw [hh])
        · rw [if_neg hia, ← h4]
          constructor
          · rintro (hh | hh)
            · exact hh
            · injection hh with hh _; exact absurd hh hia
          · exact .inl
  · have hjl := (List.getElem?_eq_some_iff.1 g1).1
    have hlen := h2.len
    have hej : ∃ e, es[j]? = some e ∧ e.key = .int .i64 a := by
      have hj' : j < es.toList.length := by omega
      refine ⟨es.toList[j], by simp, ?_⟩
      have := congrArg (fun l => l[j]?) h2
      simp only [List.getElem?_map, g1, List.getElem?_eq_getElem hj', Option.map_some, Option.some.injEq, Prod.mk.injEq] at this
      exact this.1
    obtain ⟨e, he, hek⟩ := hej
    refine ⟨.map (es.modify j fun e => { e with key := .int .i64 a, val := v }) clk, ?_, ?_⟩
    · have hst : (Instr.keyThatStays (.int .i64 a) (.int .i64 a)).run P w = .ok (.int .i64 a) w := by simp [Instr.keyThatStays, Instr.sameBits]
      simp [execOp, ho, hx, hy, hz, Instr.mapUpdate, run_underlying ht, run_getM h1, hc, Instr.findKey, run_underlying hk, g2, he, hek, hst, run_setM _ h1]
    · refine ⟨_, _, m.set j (a, v), heap_setB hlt, ?_, ?_, fun i u' => ?_⟩
      · unfold EsIs at h2 ⊢
        refine List.ext_getElem? fun i => ?_
        have hi := congrArg (fun l => l[i]?) h2
        simp only [List.getElem?_map, Array.getElem?_toList, Array.getElem?_modify, List.getElem?_set] at hi ⊢
        by_cases hij : j = i
        · subst hij
          simp [he, hjl]
        · simp only [hij, if_false]
          exact hi
      · rw [List.map_set]
        have : (m.map (·.1)).set j a = m.map (·.1) := by
          refine List.ext_getElem? fun i => ?_
          rw [List.getElem?_set]
          by_cases hij : j = i
          · subst hij
            have hmj := (List.getElem?_eq_some_iff.1 g1).2
            simp [hjl, hmj]
          · simp [hij]
        simpa [this] using h3
      · have key : (i, u') ∈ m.set j (a, v) ↔ (i = a ∧ u' = v) ∨ (i ≠ a ∧ (i, u') ∈ m) := by
          constructor
          · intro hm
            obtain ⟨k, hk'⟩ := List.getElem?_of_mem hm
            rw [List.getElem?_set] at hk'
            by_cases hjk : j = k
            · rw [if_pos hjk, if_pos hjl] at hk'
              injection hk' with hk'
              injection hk' with e1 e2
              exact .inl ⟨e1.symm, e2.symm⟩
            · rw [if_neg hjk] at hk'
              refine .inr ⟨fun e1 => hjk ?_, List.mem_of_getElem? hk'⟩
              subst e1
              exact key_inj h3 g1 hk'
          · rintro (⟨rfl, rfl⟩ | ⟨hne, hm⟩)
            · exact List.mem_of_getElem? (i := j) (by rw [List.getElem?_set, if_pos rfl, if_pos hjl])
            · obtain ⟨k, hk'⟩ := List.getElem?_of_mem hm
              have hjk : j ≠ k := fun e1 => by subst e1; rw [g1] at hk'; injection hk' with hk'; injection hk' with e1 _; exact hne e1.symm
              exact List.mem_of_getElem? (i := k) (by rw [List.getElem?_set, if_neg hjk]; exact hk')
        rw [key]
        by_cases hia : i = a
        · rw [if_pos hia]
          simp [hia, eq_comm]
        · rw [if_neg hia, ← h4]
          simp [hia]
theorem WL_mapSet (i : Nat) (hi : H[i]? = some (MapE b g)) (hI : Inv S w0 w H) (hw : wantedR ops ρ o = true) (hd : o.dst = none) (ho : o.op = .mapUpdate t x y z) (ht : P.underlying t = some (.map kt et)) (hk : P.underlying kt = some (.int q)) (hx : ev ρ x = .map (some b)) (hy : ev ρ y = .int .i64 a) (hz : ev ρ z = v)
    (h : ∀ w', Inv S w0 w' (H.set i (MapE b (fun j => if j = a then some v else g j))) → WL P N ops Q rest ρ w') : WL P N ops Q (o :: rest) ρ w := by
  have hM : MapIs w b g := (hI.ok _ (List.mem_of_getElem? hi)).1
  obtain ⟨o', h1, h2⟩ := run_mapSet (P := P) ho ht hk hx hy hz hM
  exact WL_store hw hd h1 (h _ (hI.upd i hi (chg_setB w b o') (MapE.ok h2) (fun _ hk => .inl hk)))
theorem run_mapDel (ho : o.op = .call { callee := .builtin .delete, args := #[x, y], argTypes := #[t, kt] }) (ht : P.underlying t = some (.map kt et)) (hk : P.underlying kt = some (.int q)) (hx : ev ρ x = .map (some b)) (hy : ev ρ y = .int .i64 a) (hM : MapIs w b g) :
    ∃ o', (execOp (ev ρ) o).run P w = .ok (.value (.tuple #[])) (setB w b o') ∧ MapIs (setB w b o') b (fun i => if i = a then none else g i) := by
  obtain ⟨es, clk, m, h1, h2, h3, h4⟩ := hM.ex
  have hlt : b < w.heap.size := by
    rcases Nat.lt_or_ge b w.heap.size with h5 | h5
    · exact h5
    · simp [Array.getElem?_eq_none h5] at h1
  have hc := check_int (P := P) (w := w) (a := a) (em := es.isEmpty) hk
  rcases findNow_int (q := q) (a := a) es.toList m 0 h2 with ⟨g1, g2⟩ | ⟨j, u, g1, g2⟩
  · refine ⟨.map es clk, ?_, _, _, m, heap_setB hlt, h2, h3, fun i u => ?_⟩
    · simp [execOp, ho, resolve, invoke, builtin, hx, hy, Builtin.delete_, run_underlying ht, run_getM h1, hc, Instr.findKey, run_underlying hk, g2, run_setM _ h1]
    · by_cases hia : i = a
      · rw [if_pos hia]
        constructor
        · intro hh; exact absurd hia (g1 _ hh)
        · intro hh; cases hh
      · rw [if_neg hia]; exact h4 i u
  · have hjl := (List.getElem?_eq_some_iff.1 g1).1
    have hlen := h2.len
    have hje : j < es.size := by
      have : es.size = m.length := by simpa using hlen
      omega
    refine ⟨.map (es.eraseIdxIfInBounds j) clk, ?_, _, _, m.eraseIdx j, heap_setB hlt, ?_, ?_, fun i u' => ?_⟩
    · simp [execOp, ho, resolve, invoke, builtin, hx, hy, Builtin.delete_, run_underlying ht, run_getM h1, hc, Instr.findKey, run_underlying hk, g2, run_setM _ h1]
    · unfold EsIs at h2 ⊢
      have : (es.eraseIdxIfInBounds j).toList = es.toList.eraseIdx j := by simp [Array.eraseIdxIfInBounds, hje]
      rw [this]
      simp only [List.eraseIdx_eq_take_drop_succ, List.map_append, List.map_take, List.map_drop, h2]
    · exact (List.Sublist.map _ (List.eraseIdx_sublist ..)).nodup h3
    · rw [List.mem_eraseIdx_iff_getElem?]
      by_cases hia : i = a
      · rw [if_pos hia]
        constructor
        · rintro ⟨k, hkj, hk'⟩
          subst hia
          exact absurd (key_inj h3 g1 hk') (fun e1 => hkj e1.symm)
        · intro hh; cases hh
      · rw [if_neg hia, ← h4]
        constructor
        · rintro ⟨k, _, hk'⟩; exact List.mem_of_getElem? hk'
        · intro hm
          obtain ⟨k, hk'⟩ := List.getElem?_of_mem hm
          exact ⟨k, fun e1 => by subst e1; rw [g1] at hk'; injection hk' with hk'; injection hk' with e1 _; exact hia e1.symm, hk'⟩
theorem WL_mapDel (i : Nat) (hi : H[i]? = some (MapE b g)) (hI : Inv S w0 w H) (hw : wantedR ops ρ o = true) (hd : o.dst = none) (ho : o.op = .call { callee := .builtin .delete, args := #[x, y], argTypes := #[t, kt] }) (ht : P.underlying t = some (.map kt et)) (hk : P.underlying kt = some (.int q)) (hx : ev ρ x = .map (some b)) (hy : ev ρ y = .int .i64 a)
    (h : ∀ w', Inv S w0 w' (H.set i (MapE b (fun j => if j = a then none else g j))) → WL P N ops Q rest ρ w') : WL P N ops Q (o :: rest) ρ w := by
  have hM : MapIs w b g := (hI.ok _ (List.mem_of_getElem? hi)).1
  obtain ⟨o', h1, h2⟩ := run_mapDel (P := P) ho ht hk hx hy hM
  exact WL_eff0 hw hd h1 (h _ (hI.upd i hi (chg_setB w b o') (MapE.ok h2) (fun _ hk => .inl hk)))
end
end Go.Proofs.YtlmpolmalgpodaaDoor
