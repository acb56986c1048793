/- Sxq, Sxr, Sxs, Sxt, Sxu, Sxw, in one text. -/
import Derived.Test.YtgppljdfhhgkiaaGreatDoorSxA
import Derived.Scope
/-! Sxq: Sx: maps whose keys are ints: made, read, written, deleted from. Nothing of the program. -/
namespace Go.Proofs.YtgppljdfhhgkiaaGreatDoor
open Go
set_option linter.unusedVariables false
set_option linter.unusedSimpArgs false
theorem run_getM {P : Program} {w : World} {r c : Nat} {es : Array MapEntry} (h : w.heap[r]? = some (.map es c)) : (getObj r).run P w = .ok (.map es c) w := by simp [getObj, Sem.run, h]
def setB (w : World) (r : Nat) (o : Obj) : World := { w with heap := w.heap.setIfInBounds r o }
theorem run_setM {P : Program} {w : World} {r c : Nat} {es : Array MapEntry} (o : Obj) (h : w.heap[r]? = some (.map es c)) : (setObj r o).run P w = .ok () (setB w r o) := by simp [setObj, Sem.run, h, setB]
/-- The entries, as pairs. -/
def EsIs (es : List MapEntry) (m : List (Int × Value)) : Prop := es.map (fun e => (e.key, e.val)) = m.map (fun p => (Value.int .i64 p.1, p.2))
theorem EsIs.len {es : List MapEntry} {m : List (Int × Value)} (h : EsIs es m) : es.length = m.length := by
  have := congrArg List.length h
  simpa using this
theorem findNow_int {q : IntKind} {a : Int} : ∀ (es : List MapEntry) (m : List (Int × Value)) (i : Nat), EsIs es m →
    ((∀ p ∈ m, p.1 ≠ a) ∧ Instr.findNow (.int q) (.int .i64 a) es i = some none) ∨ ∃ j v, m[j]? = some (a, v) ∧ Instr.findNow (.int q) (.int .i64 a) es i = some (some (i + j, v))
  | [], [], i, _ => .inl ⟨by simp, rfl⟩
  | [], _ :: _, i, h => by simp [EsIs] at h
  | _ :: _, [], i, h => by simp [EsIs] at h
  | e :: es, p :: m, i, h => by
    simp only [EsIs, List.map_cons, List.cons.injEq, Prod.mk.injEq] at h
    obtain ⟨⟨h1, h2⟩, h3⟩ := h
    by_cases hp : p.1 = a
    · refine .inr ⟨0, p.2, by rw [← hp]; rfl, ?_⟩
      simp [Instr.findNow, h1, Instr.sameNow, hp, h2]
    · have hne : (a == p.1) = false := by simpa using fun e => hp e.symm
      rcases findNow_int es m (i + 1) h3 with ⟨g1, g2⟩ | ⟨j, v, g1, g2⟩
      · refine .inl ⟨fun x hx => ?_, ?_⟩
        · rcases List.mem_cons.1 hx with rfl | hx
          · exact hp
          · exact g1 x hx
        · simp only [Instr.findNow, h1, Instr.sameNow, if_true, hne]
          exact g2
      · refine .inr ⟨j + 1, v, by simpa using g1, ?_⟩
        simp only [Instr.findNow, h1, Instr.sameNow, if_true, hne]
        rw [g2, show i + 1 + j = i + (j + 1) by omega]
/-- A map of ints: what it holds at each. -/
structure MapIs (w : World) (b : Nat) (g : Int → Option Value) : Prop where
  ex : ∃ (es : Array MapEntry) (clk : Nat) (m : List (Int × Value)), w.heap[b]? = some (.map es clk) ∧ EsIs es.toList m ∧ (m.map (·.1)).Nodup ∧ ∀ a v, (a, v) ∈ m ↔ g a = some v
def MapE (b : Nat) (g : Int → Option Value) : Ent := ⟨fun k => k = b, fun w => MapIs w b g⟩
theorem MapE.ok {w : World} {b : Nat} {g : Int → Option Value} (h : MapIs w b g) : (MapE b g).ok w := by
  refine Ent.mk_ok h (fun k hk => ?_) (fun S w1 w2 hc hS h1 => ?_)
  · obtain ⟨es, clk, m, h1, _⟩ := h.ex
    have : k = b := hk
    subst this
    rcases Nat.lt_or_ge k w.heap.size with h2 | h2
    · exact h2
    · simp [Array.getElem?_eq_none h2] at h1
  · obtain ⟨es, clk, m, h2, h3⟩ := h1.ex
    have hlt : b < w1.heap.size := by
      rcases Nat.lt_or_ge b w1.heap.size with h4 | h4
      · exact h4
      · simp [Array.getElem?_eq_none h4] at h2
    exact ⟨es, clk, m, (hc.block b hlt (hS b rfl)).trans h2, h3⟩
theorem key_inj {m : List (Int × Value)} (hn : (m.map (·.1)).Nodup) {i j : Nat} {a : Int} {u v : Value} (hi : m[i]? = some (a, u)) (hj : m[j]? = some (a, v)) : i = j := by
  have h1 : (m.map (·.1))[i]? = some a := by simp [hi]
  have h2 : (m.map (·.1))[j]? = some a := by simp [hj]
  exact (List.getElem?_inj (List.getElem?_eq_some_iff.1 h1).1 hn).1 (h1.trans h2.symm)
theorem heap_setB {w : World} {b : Nat} {o : Obj} (h : b < w.heap.size) : (setB w b o).heap[b]? = some o := by simp [setB, h]
theorem chg_setB (w : World) (b : Nat) (o : Obj) : Chg (fun k => k = b) w (setB w b o) :=
  ⟨rfl, rfl, rfl, by simp [setB], fun k hk hs => by
    have : b ≠ k := fun e => hs e.symm
    simp [setB, Array.getElem?_setIfInBounds, this]⟩
section
variable {P : Program} {N : Nat} {ops : Array Oper} {Q : XPost} {rest : List Oper} {ρ : Env} {o : Oper} {w0 w w' : World} {S : Nat → Prop} {H : List Ent} {d t kt et b : Nat} {q : IntKind} {g : Int → Option Value} {x y z : Operand} {a : Int} {v zv : Value}
theorem WL_mkMap (hI : Inv S w0 w H) (hw : wantedR ops ρ o = true) (hd : o.dst = some d) (hN : Nat.blt d N = true) (ho : o.op = .makeMap t none)
    (h : ∀ b w', Inv S w0 w' (MapE b (fun _ => none) :: H) → WL P N ops Q rest (upd ρ d (.map (some b))) w') : WL P N ops Q (o :: rest) ρ w :=
  WL_eff hw hd hN (v := .map (some w.heap.size)) (w' := w.alloc (.map #[] 0)) (by simp [execOp, ho, Instr.makeMap])
    (h _ _ (hI.fresh ((Pure.refl w).alloc _) (MapE.ok ⟨#[], 0, [], by show (w.heap.push _)[w.heap.size]? = _; simp, rfl, by simp, by simp⟩) (fun k hk => by have : k = w.heap.size := hk; omega)))
theorem check_int {em : Bool} (hk : P.underlying kt = some (.int q)) : (Instr.checkKey em 10000 kt (.int .i64 a)).run P w = .ok () w := by
  show (Instr.checkKey em (Nat.succ 9999) kt (.int .i64 a)).run P w = .ok () w
  rw [Instr.checkKey]
  simp [run_underlying hk]
/-- m[k] where it is there (ok: with the second result). -/
theorem rLook (ho : o.op = .lookup t x y true) (ht : P.underlying t = some (.map kt et)) (hk : P.underlying kt = some (.int q)) (hz : (P.info? et).bind (·.zero) = some zv) (hx : ev ρ x = .map (some b)) (hy : ev ρ y = .int .i64 a) (hM : MapIs w b g) :
    Runs P ρ o w (.tuple #[(g a).getD zv, .bool (g a).isSome]) := by
  obtain ⟨es, clk, m, h1, h2, h3, h4⟩ := hM.ex
  have hzv : (zeroValue et).run P w = .ok zv w := by
    cases hi : P.info? et with
    | none => simp [hi] at hz
    | some i => simp only [hi, Option.bind_some] at hz; simp [zeroValue, typeInfo, hi, hz]
  have hc := check_int (P := P) (w := w) (a := a) (em := es.isEmpty) hk
  rcases findNow_int (q := q) (a := a) es.toList m 0 h2 with ⟨g1, g2⟩ | ⟨j, u, g1, g2⟩
  · have hg : g a = none := by
      cases hga : g a with
      | none => rfl
      | some u => exact absurd rfl (g1 _ ((h4 a u).2 hga))
    simp [Runs, execOp, ho, hx, hy, Instr.lookup, run_underlying ht, run_getM h1, hc, Instr.findKey, run_underlying hk, g2, hzv, hg]
  · have hg : g a = some u := (h4 a u).1 (List.mem_of_getElem? g1)
    simp [Runs, execOp, ho, hx, hy, Instr.lookup, run_underlying ht, run_getM h1, hc, Instr.findKey, run_underlying hk, g2, hg]
theorem rLook1 (ho : o.op = .lookup t x y false) (ht : P.underlying t = some (.map kt et)) (hk : P.underlying kt = some (.int q)) (hz : (P.info? et).bind (·.zero) = some zv) (hx : ev ρ x = .map (some b)) (hy : ev ρ y = .int .i64 a) (hM : MapIs w b g) :
    Runs P ρ o w ((g a).getD zv) := by
  obtain ⟨es, clk, m, h1, h2, h3, h4⟩ := hM.ex
  have hzv : (zeroValue et).run P w = .ok zv w := by
    cases hi : P.info? et with
    | none => simp [hi] at hz
    | some i => simp only [hi, Option.bind_some] at hz; simp [zeroValue, typeInfo, hi, hz]
  have hc := check_int (P := P) (w := w) (a := a) (em := es.isEmpty) hk
  rcases findNow_int (q := q) (a := a) es.toList m 0 h2 with ⟨g1, g2⟩ | ⟨j, u, g1, g2⟩
  · have hg : g a = none := by
      cases hga : g a with
      | none => rfl
      | some u => exact absurd rfl (g1 _ ((h4 a u).2 hga))
    simp [Runs, execOp, ho, hx, hy, Instr.lookup, run_underlying ht, run_getM h1, hc, Instr.findKey, run_underlying hk, g2, hzv, hg]
  · have hg : g a = some u := (h4 a u).1 (List.mem_of_getElem? g1)
    simp [Runs, execOp, ho, hx, hy, Instr.lookup, run_underlying ht, run_getM h1, hc, Instr.findKey, run_underlying hk, g2, hg]
theorem run_mapSet (ho : o.op = .mapUpdate t x y z) (ht : P.underlying t = some (.map kt et)) (hk : P.underlying kt = some (.int q)) (hx : ev ρ x = .map (some b)) (hy : ev ρ y = .int .i64 a) (hz : ev ρ z = v) (hM : MapIs w b g) :
    ∃ o', (execOp (ev ρ) o).run P w = .ok .skip (setB w b o') ∧ MapIs (setB w b o') b (fun i => if i = a then some v else g i) := by
  obtain ⟨es, clk, m, h1, h2, h3, h4⟩ := hM.ex
  have hlt : b < w.heap.size := by
    rcases Nat.lt_or_ge b w.heap.size with h5 | h5
    · exact h5
    · simp [Array.getElem?_eq_none h5] at h1
  have hc := check_int (P := P) (w := w) (a := a) (em := false) hk
  rcases findNow_int (q := q) (a := a) es.toList m 0 h2 with ⟨g1, g2⟩ | ⟨j, u, g1, g2⟩
  · refine ⟨.map (es.push { key := .int .i64 a, val := v, born := clk }) (clk + 1), ?_, ?_⟩
    · simp [execOp, ho, hx, hy, hz, Instr.mapUpdate, run_underlying ht, run_getM h1, hc, Instr.findKey, run_underlying hk, g2, run_setM _ h1]
    · refine ⟨_, _, m ++ [(a, v)], heap_setB hlt, ?_, ?_, fun i u => ?_⟩
      · unfold EsIs at h2 ⊢
        simp [h2]
      · rw [List.map_append, List.nodup_append]
        refine ⟨h3, by simp, fun i hi j hj => ?_⟩
        simp only [List.map_cons, List.map_nil, List.mem_singleton] at hj
        obtain ⟨p, hp, rfl⟩ := List.mem_map.1 hi
        rw [hj]
        exact g1 p hp
      · rw [List.mem_append, List.mem_singleton]
        by_cases hia : i = a
        · subst hia
          rw [if_pos rfl]
          constructor
          · rintro (hh | hh)
            · exact absurd rfl (g1 _ hh)
            · injection hh with _ hh; rw [hh]
          · intro hh; injection hh with hh; exact .inr (by rw [hh])
        · rw [if_neg hia, ← h4]
          constructor
          · rintro (hh | hh)
            · exact hh
            · injection hh with hh _; exact absurd hh hia
          · exact .inl
  · have hjl := (List.getElem?_eq_some_iff.1 g1).1
    have hlen := h2.len
    have hej : ∃ e, es[j]? = some e ∧ e.key = .int .i64 a := by
      have hj' : j < es.toList.length := by omega
      refine ⟨es.toList[j], by simp, ?_⟩
      have := congrArg (fun l => l[j]?) h2
      simp only [List.getElem?_map, g1, List.getElem?_eq_getElem hj', Option.map_some, Option.some.injEq, Prod.mk.injEq] at this
      exact this.1
    obtain ⟨e, he, hek⟩ := hej
    refine ⟨.map (es.modify j fun e => { e with key := .int .i64 a, val := v }) clk, ?_, ?_⟩
    · have hst : (Instr.keyThatStays (.int .i64 a) (.int .i64 a)).run P w = .ok (.int .i64 a) w := by simp [Instr.keyThatStays, Instr.sameBits]
      simp [execOp, ho, hx, hy, hz, Instr.mapUpdate, run_underlying ht, run_getM h1, hc, Instr.findKey, run_underlying hk, g2, he, hek, hst, run_setM _ h1]
    · refine ⟨_, _, m.set j (a, v), heap_setB hlt, ?_, ?_, fun i u' => ?_⟩
      · unfold EsIs at h2 ⊢
        refine List.ext_getElem? fun i => ?_
        have hi := congrArg (fun l => l[i]?) h2
        simp only [List.getElem?_map, Array.getElem?_toList, Array.getElem?_modify, List.getElem?_set] at hi ⊢
        by_cases hij : j = i
        · subst hij
          simp [he, hjl]
        · simp only [hij, if_false]
          exact hi
      · rw [List.map_set]
        have : (m.map (·.1)).set j a = m.map (·.1) := by
          refine List.ext_getElem? fun i => ?_
          rw [List.getElem?_set]
          by_cases hij : j = i
          · subst hij
            have hmj := (List.getElem?_eq_some_iff.1 g1).2
            simp [hjl, hmj]
          · simp [hij]
        simpa [this] using h3
      · have key : (i, u') ∈ m.set j (a, v) ↔ (i = a ∧ u' = v) ∨ (i ≠ a ∧ (i, u') ∈ m) := by
          constructor
          · intro hm
            obtain ⟨k, hk'⟩ := List.getElem?_of_mem hm
            rw [List.getElem?_set] at hk'
            by_cases hjk : j = k
            · rw [if_pos hjk, if_pos hjl] at hk'
              injection hk' with hk'
              injection hk' with e1 e2
              exact .inl ⟨e1.symm, e2.symm⟩
            · rw [if_neg hjk] at hk'
              refine .inr ⟨fun e1 => hjk ?_, List.mem_of_getElem? hk'⟩
              subst e1
              exact key_inj h3 g1 hk'
          · rintro (⟨rfl, rfl⟩ | ⟨hne, hm⟩)
            · exact List.mem_of_getElem? (i := j) (by rw [List.getElem?_set, if_pos rfl, if_pos hjl])
            · obtain ⟨k, hk'⟩ := List.getElem?_of_mem hm
              have hjk : j ≠ k := fun e1 => by subst e1; rw [g1] at hk'; injection hk' with hk'; injection hk' with e1 _; exact hne e1.symm
              exact List.mem_of_getElem? (i := k) (by rw [List.getElem?_set, if_neg hjk]; exact hk')
        rw [key]
        by_cases hia : i = a
        · rw [if_pos hia]
          simp [hia, eq_comm]
        · rw [if_neg hia, ← h4]
          simp [hia]
theorem WL_mapSet (i : Nat) (hi : H[i]? = some (MapE b g)) (hI : Inv S w0 w H) (hw : wantedR ops ρ o = true) (hd : o.dst = none) (ho : o.op = .mapUpdate t x y z) (ht : P.underlying t = some (.map kt et)) (hk : P.underlying kt = some (.int q)) (hx : ev ρ x = .map (some b)) (hy : ev ρ y = .int .i64 a) (hz : ev ρ z = v)
    (h : ∀ w', Inv S w0 w' (H.set i (MapE b (fun j => if j = a then some v else g j))) → WL P N ops Q rest ρ w') : WL P N ops Q (o :: rest) ρ w := by
  have hM : MapIs w b g := (hI.ok _ (List.mem_of_getElem? hi)).1
  obtain ⟨o', h1, h2⟩ := run_mapSet (P := P) ho ht hk hx hy hz hM
  exact WL_store hw hd h1 (h _ (hI.upd i hi (chg_setB w b o') (MapE.ok h2) (fun _ hk => .inl hk)))
theorem run_mapDel (ho : o.op = .call { callee := .builtin .delete, args := #[x, y], argTypes := #[t, kt] }) (ht : P.underlying t = some (.map kt et)) (hk : P.underlying kt = some (.int q)) (hx : ev ρ x = .map (some b)) (hy : ev ρ y = .int .i64 a) (hM : MapIs w b g) :
    ∃ o', (execOp (ev ρ) o).run P w = .ok (.value (.tuple #[])) (setB w b o') ∧ MapIs (setB w b o') b (fun i => if i = a then none else g i) := by
  obtain ⟨es, clk, m, h1, h2, h3, h4⟩ := hM.ex
  have hlt : b < w.heap.size := by
    rcases Nat.lt_or_ge b w.heap.size with h5 | h5
    · exact h5
    · simp [Array.getElem?_eq_none h5] at h1
  have hc := check_int (P := P) (w := w) (a := a) (em := es.isEmpty) hk
  rcases findNow_int (q := q) (a := a) es.toList m 0 h2 with ⟨g1, g2⟩ | ⟨j, u, g1, g2⟩
  · refine ⟨.map es clk, ?_, _, _, m, heap_setB hlt, h2, h3, fun i u => ?_⟩
    · simp [execOp, ho, resolve, invoke, builtin, hx, hy, Builtin.delete_, run_underlying ht, run_getM h1, hc, Instr.findKey, run_underlying hk, g2, run_setM _ h1]
    · by_cases hia : i = a
      · rw [if_pos hia]
        constructor
        · intro hh; exact absurd hia (g1 _ hh)
        · intro hh; cases hh
      · rw [if_neg hia]; exact h4 i u
  · have hjl := (List.getElem?_eq_some_iff.1 g1).1
    have hlen := h2.len
    have hje : j < es.size := by
      have : es.size = m.length := by simpa using hlen
      omega
    refine ⟨.map (es.eraseIdxIfInBounds j) clk, ?_, _, _, m.eraseIdx j, heap_setB hlt, ?_, ?_, fun i u' => ?_⟩
    · simp [execOp, ho, resolve, invoke, builtin, hx, hy, Builtin.delete_, run_underlying ht, run_getM h1, hc, Instr.findKey, run_underlying hk, g2, run_setM _ h1]
    · unfold EsIs at h2 ⊢
      have : (es.eraseIdxIfInBounds j).toList = es.toList.eraseIdx j := by simp [Array.eraseIdxIfInBounds, hje]
      rw [this]
      simp only [List.eraseIdx_eq_take_drop_succ, List.map_append, List.map_take, List.map_drop, h2]
    · exact (List.Sublist.map _ (List.eraseIdx_sublist ..)).nodup h3
    · rw [List.mem_eraseIdx_iff_getElem?]
      by_cases hia : i = a
      · rw [if_pos hia]
        constructor
        · rintro ⟨k, hkj, hk'⟩
          subst hia
          exact absurd (key_inj h3 g1 hk') (fun e1 => hkj e1.symm)
        · intro hh; cases hh
      · rw [if_neg hia, ← h4]
        constructor
        · rintro ⟨k, _, hk'⟩; exact List.mem_of_getElem? hk'
        · intro hm
          obtain ⟨k, hk'⟩ := List.getElem?_of_mem hm
          exact ⟨k, fun e1 => by subst e1; rw [g1] at hk'; injection hk' with hk'; injection hk' with e1 _; exact hia e1.symm, hk'⟩
theorem WL_mapDel (i : Nat) (hi : H[i]? = some (MapE b g)) (hI : Inv S w0 w H) (hw : wantedR ops ρ o = true) (hd : o.dst = none) (ho : o.op = .call { callee := .builtin .delete, args := #[x, y], argTypes := #[t, kt] }) (ht : P.underlying t = some (.map kt et)) (hk : P.underlying kt = some (.int q)) (hx : ev ρ x = .map (some b)) (hy : ev ρ y = .int .i64 a)
    (h : ∀ w', Inv S w0 w' (H.set i (MapE b (fun j => if j = a then none else g j))) → WL P N ops Q rest ρ w') : WL P N ops Q (o :: rest) ρ w := by
  have hM : MapIs w b g := (hI.ok _ (List.mem_of_getElem? hi)).1
  obtain ⟨o', h1, h2⟩ := run_mapDel (P := P) ho ht hk hx hy hM
  exact WL_eff0 hw hd h1 (h _ (hI.upd i hi (chg_setB w b o') (MapE.ok h2) (fun _ hk => .inl hk)))
end
end Go.Proofs.YtgppljdfhhgkiaaGreatDoor

/-! Sxr: Sx: arrays of ints as values: an element, ==, a cell. Nothing of the program. -/
namespace Go.Proofs.YtgppljdfhhgkiaaGreatDoor
open Go
set_option linter.unusedVariables false
set_option linter.unusedSimpArgs false
theorem i64s_at {l : List Int} {i : Nat} (h : i < l.length) : (i64s l).toArray[i]? = some (.int .i64 (l.getD i 0)) := by
  simp [i64s, List.getD, List.getElem?_eq_getElem h]
theorem i64s_set {l : List Int} {k : Nat} {v : Int} : (i64s l).toArray.setIfInBounds k (.int .i64 v) = (i64s (l.set k v)).toArray := by simp [i64s, List.map_set]
theorem at_mul {w : World} {b k : Nat} {v : Value} (h : w.cell? ⟨b, k, none⟩ = some v) : w.cell? ⟨b, 0 + k * 1, none⟩ = some v := by simpa using h
section
variable {P : Program} {ρ : Env} {o : Oper} {w : World} {x y z : Operand} {v : Value} {t t' : TypeId}
theorem rIdxA {n e i : Nat} {la : List Int} {k k' : IntKind} (ho : o.op = .index t x y) (ht : P.underlying t = some (.array n e)) (he : P.underlying e = some (.int k)) (hs : szB P e 1 = true) (hx : ev ρ x = .agg (i64s la).toArray) (hy : ev ρ y = .int k' (i : Int)) (hn : la.length = n) (hi : i < n) :
    Runs P ρ o w (.int .i64 (la.getD i 0)) := by
  have hi' : (i : Int) < (n : Int) := by omega
  have hp := run_part_i64 (P := P) (w := w) he (show i < la.length by omega)
  simp [Runs, execOp, ho, hx, hy, Instr.index, asIntOf, run_underlying ht, run_size hs, hi, hp]
theorem rEqlA {n : Nat} {la lb : List Int} (ho : o.op = .binOp .eql t x y t') (hB : arrB P t n = true) (hg : P.eqGuardType P.depth t = false) (hx : ev ρ x = .agg (i64s la).toArray) (hy : ev ρ y = .agg (i64s lb).toArray) (ha : la.length = n) (hb : lb.length = n) : Runs P ρ o w (.bool (decide (la = lb))) := by
  have h1 := run_eqGuard_agg (P := P) w .eql t x y (i64s la).toArray (i64s lb).toArray hg
  have h2 := run_eql_struct (P := P) w t (i64s la).toArray (i64s lb).toArray
  rw [show (10000 : Nat) = 9998 + 2 from rfl, run_equalIn_arr 9998 hB ha hb] at h2
  simp [Runs, execOp, ho, hx, hy, h1, h2]
theorem rNeqA {n : Nat} {la lb : List Int} (ho : o.op = .binOp .neq t x y t') (hB : arrB P t n = true) (hg : P.eqGuardType P.depth t = false) (hx : ev ρ x = .agg (i64s la).toArray) (hy : ev ρ y = .agg (i64s lb).toArray) (ha : la.length = n) (hb : lb.length = n) : Runs P ρ o w (.bool (!decide (la = lb))) := by
  have h1 := run_eqGuard_agg (P := P) w .neq t x y (i64s la).toArray (i64s lb).toArray hg
  have h2 := run_neq_struct (P := P) w t (i64s la).toArray (i64s lb).toArray
  rw [show (10000 : Nat) = 9998 + 2 from rfl, run_equalIn_arr 9998 hB ha hb] at h2
  simp [Runs, execOp, ho, hx, hy, h1, h2]
end
end Go.Proofs.YtgppljdfhhgkiaaGreatDoor

/-! Sxs: Sx: rows of structs: make([]T, n), T of more than one cell; a struct stored at an offset; grids of cells. Nothing of the program. -/
namespace Go.Proofs.YtgppljdfhhgkiaaGreatDoor
open Go
set_option linter.unusedVariables false
section
variable {P : Program} {N : Nat} {ops : Array Oper} {Q : XPost} {rest : List Oper} {ρ : Env} {o : Oper} {w0 w w' : World} {S : Nat → Prop} {H : List Ent} {d g t tt : Nat} {cs : Array Value} {v : Value}
theorem WL_mkN {x y : Operand} {e n m by_ : Nat} {z : Value} (c0 : Value) (hI : Inv S w0 w H) (hw : wantedR ops ρ o = true) (hd : o.dst = some d) (hN : Nat.blt d N = true) (ho : o.op = .makeSlice t x y) (hx : ev ρ x = .int .i64 (n : Int)) (hy : ev ρ y = .int .i64 (n : Int))
    (ht : P.underlying t = some (.slice e)) (hi : (P.info? e).map (fun i => (i.zero, i.size, i.bytes)) = some (some z, m, by_)) (hz : z.cells = rep c0 m) (hm : 0 < m) (hb : by_ * n ≤ 281474976710656) (h63 : n ≤ 9223372036854775807)
    (h : ∀ g w', Pure w w' → g = w.heap.size → Inv S w0 w' (B g e (rep c0 (n * m)) :: H) → WL P N ops Q rest (upd ρ d (.slice (some ⟨g, 0, none⟩) n n)) w') : WL P N ops Q (o :: rest) ρ w := by
  cases hp : P.info? e with
  | none => simp [hp] at hi
  | some i =>
    simp only [hp, Option.map_some, Option.some.injEq, Prod.mk.injEq] at hi
    obtain ⟨h1, h2, h3⟩ := hi
    subst h2 h3
    have hb : (i.bytes : Int) * (n : Int) ≤ 281474976710656 := by
      have h : ((i.bytes * n : Nat) : Int) ≤ 281474976710656 := by omega
      rwa [Int.natCast_mul] at h
    have hr := run_make (P := P) w t e i z ht hp h1 .i64 .i64 n n (by omega) (by omega) hb (by omega)
    have hmd : madeCells z.cells ((n : Int).toNat * i.size) = rep c0 (n * i.size) := by
      rw [hz, Int.toNat_natCast]
      apply Array.ext
      · simp [madeCells, rep]
      · intro j h1 h2
        have : j % i.size < i.size := Nat.mod_lt _ hm
        simp [madeCells, rep, this]
    rw [hmd] at hr
    simp only [Int.toNat_natCast] at hr
    exact WL_eff hw hd hN (by simp [execOp, ho, hx, hy, hr]) (h _ _ ((Pure.refl w).alloc _) rfl (hI.box e _))
/-- A struct stored inside a block. -/
theorem WL_stA {x y : Operand} {j n : Nat} {u : Value} {vs cs' : Array Value} (i : Nat) (hi : H[i]? = some (B g t cs)) (hI : Inv S w0 w H) (hw : wantedR ops ρ o = true) (hd : o.dst = none) (ho : o.op = .store tt x y) (hx : ev ρ x = .pointer (some ⟨g, j, none⟩)) (hy : ev ρ y = u) (hu : u.cells = vs)
    (hs : szB P tt n = true) (hn : vs.size = n) (hj : j + n ≤ cs.size) (h1 : vs.toList.all (·.oneCell') = true) (hc : splice cs j vs.toList = cs') (h : ∀ w', Inv S w0 w' (H.set i (B g t cs')) → WL P N ops Q rest ρ w') : WL P N ops Q (o :: rest) ρ w := by
  have hB : Blk w g t cs := (hI.ok _ (List.mem_of_getElem? hi)).1
  subst hc
  refine WL_store hw hd (run_store ho hx hy hu hs hn hB hj h1) (h _ ?_)
  exact hI.upd i hi (Chg.setCells (S := (B g t cs).D) (b := g) (.inl rfl) _ _ (Chg.refl (B g t cs).D w)) (B.ok (hB.setCells _ _)) (fun _ hk => .inl hk)
end
/-! ### Grids: n rows of m cells -/
def grd (n m : Nat) (F : Nat → Nat → Value) : Array Value := ((List.range (n * m)).map fun c => F (c / m) (c % m)).toArray
theorem grd_size (n m : Nat) (F : Nat → Nat → Value) : (grd n m F).size = n * m := by simp [grd]
theorem grd_cell {n m i q : Nat} (F : Nat → Nat → Value) (hi : i < n) (hq : q < m) : (grd n m F)[i * m + q]? = some (F i q) := by
  have h1 : i * m + q < n * m := by
    have : (i + 1) * m ≤ n * m := Nat.mul_le_mul_right m hi
    rw [Nat.add_mul, Nat.one_mul] at this
    omega
  have h2 : (i * m + q) / m = i := by rw [Nat.add_comm, Nat.add_mul_div_right _ _ (by omega), Nat.div_eq_of_lt hq, Nat.zero_add]
  have h3 : (i * m + q) % m = q := by rw [Nat.add_comm, Nat.add_mul_mod_self_right, Nat.mod_eq_of_lt hq]
  simp [grd, h1, h2, h3]
theorem grd_rep (n m : Nat) (c : Value) : rep c (n * m) = grd n m (fun _ _ => c) := by
  apply Array.ext'
  simp [rep, grd, List.map_const']
theorem grd_splice {n m k : Nat} (F : Nat → Nat → Value) (G : Nat → Value) {vs : List Value} (hm : 0 < m) (hk : k < n) (hl : vs.length = m) (hv : ∀ q, q < m → vs[q]? = some (G q)) :
    splice (grd n m F) (k * m) vs = grd n m (fun i q => if i = k then G q else F i q) := by
  have hkm : k * m + m ≤ n * m := by
    have : (k + 1) * m ≤ n * m := Nat.mul_le_mul_right m hk
    rw [Nat.add_mul, Nat.one_mul] at this
    exact this
  apply Array.ext'
  apply List.ext_getElem?
  intro c
  rw [Array.getElem?_toList, Array.getElem?_toList, splice_get _ _ _ _ (by rw [grd_size, hl]; omega)]
  by_cases hc : c < n * m
  · have hq : c % m < m := Nat.mod_lt _ hm
    have hce : c / m * m + c % m = c := by rw [Nat.mul_comm]; exact Nat.div_add_mod c m
    have hi : c / m < n := by
      rw [Nat.div_lt_iff_lt_mul hm]; exact hc
    have e1 := grd_cell (n := n) F hi hq
    have e2 := grd_cell (n := n) (fun i q => if i = k then G q else F i q) hi hq
    rw [hce] at e1 e2
    rw [e1, e2, hl]
    by_cases hik : c / m = k
    · rw [hik] at hce
      rw [if_pos (by omega), if_pos hik, show c - k * m = c % m by omega, hv _ hq]
    · rw [if_neg hik, if_neg]
      intro hh
      apply hik
      have h1 : k ≤ c / m := by rw [Nat.le_div_iff_mul_le hm]; exact hh.1
      have h2 : c / m < k + 1 := by rw [Nat.div_lt_iff_lt_mul hm, Nat.add_mul, Nat.one_mul]; exact hh.2
      omega
  · rw [if_neg (by rw [hl]; omega)]
    simp [grd, hc]
end Go.Proofs.YtgppljdfhhgkiaaGreatDoor

/-! Sxt: Sx: many parts as one (rows of rows); parts brought to the front. Nothing of the program. -/
namespace Go.Proofs.YtgppljdfhhgkiaaGreatDoor
open Go
set_option linter.unusedVariables false
def Ent.nil : Ent := ⟨fun _ => False, fun _ => True⟩
theorem Ent.nil_ok (w : World) : Ent.nil.ok w := ⟨trivial, fun _ h => h.elim, fun _ _ _ _ _ _ => trivial⟩
def apartN (n : Nat) (es : Nat → Ent) : Prop := ∀ i j, i < n → j < n → i ≠ j → ∀ k, (es i).D k → ¬ (es j).D k
/-- n parts that lie apart. -/
def Many (n : Nat) (es : Nat → Ent) : Ent := ⟨fun k => ∃ i, i < n ∧ (es i).D k, fun w => (∀ i, i < n → (es i).ok w) ∧ apartN n es⟩
theorem Many.ok {w : World} {n : Nat} {es : Nat → Ent} (h : ∀ i, i < n → (es i).ok w) (ha : apartN n es) : (Many n es).ok w :=
  ⟨⟨h, ha⟩, fun k ⟨i, hi, hk⟩ => (h i hi).2.1 k hk, fun S w1 w2 hc hS h1 => ⟨fun i hi => (h1.1 i hi).chg hc (fun k hk => hS k ⟨i, hi, hk⟩), ha⟩⟩
section
variable {S : Nat → Prop} {w0 w : World} {H : List Ent} {e : Ent} {n i : Nat} {es : Nat → Ent}
theorem Inv.ent_nil (h : Inv S w0 w H) : Inv S w0 w (Ent.nil :: H) := h.fresh (Pure.refl w) (Ent.nil_ok w) (fun _ h => h.elim)
theorem Inv.many_nil (h : Inv S w0 w H) (es : Nat → Ent) : Inv S w0 w (Many 0 es :: H) :=
  h.fresh (Pure.refl w) (Many.ok (fun i hi => absurd hi (Nat.not_lt_zero i)) (fun i j hi => absurd hi (Nat.not_lt_zero i))) (fun k hk => by obtain ⟨i, hi, _⟩ := hk; exact absurd hi (Nat.not_lt_zero i))
theorem Inv.many_out (h : Inv S w0 w (Many n es :: H)) (hi : i < n) : Inv S w0 w (es i :: Many n (fun j => if j = i then Ent.nil else es j) :: H) := by
  have hm := h.ok (Many n es) (by simp)
  have hp := List.pairwise_cons.1 h.apart
  have hD : ∀ k, (Many n (fun j => if j = i then Ent.nil else es j)).D k → (Many n es).D k ∧ ¬ (es i).D k := by
    rintro k ⟨j, hj, hk⟩
    by_cases hji : j = i
    · simp only [if_pos hji] at hk; exact hk.elim
    · simp only [if_neg hji] at hk; exact ⟨⟨j, hj, hk⟩, hm.1.2 j i hj hi hji k hk⟩
  refine ⟨h.chg, fun x hx => ?_, fun x hx k hk => ?_, List.pairwise_cons.2 ⟨fun x hx k hk hxk => ?_, List.pairwise_cons.2 ⟨fun x hx k hk => hp.1 x hx k (hD k hk).1, hp.2⟩⟩⟩
  · rcases List.mem_cons.1 hx with rfl | hx
    · exact hm.1.1 i hi
    rcases List.mem_cons.1 hx with rfl | hx
    · refine Many.ok (fun j hj => ?_) (fun a b ha hb hab k h1 h2 => ?_)
      · by_cases hji : j = i
        · simp only [if_pos hji]; exact Ent.nil_ok w
        · simp only [if_neg hji]; exact hm.1.1 j hj
      · by_cases hai : a = i
        · simp only [if_pos hai] at h1; exact h1.elim
        · by_cases hbi : b = i
          · simp only [if_pos hbi] at h2; exact h2.elim
          · simp only [if_neg hai] at h1; simp only [if_neg hbi] at h2; exact hm.1.2 a b ha hb hab k h1 h2
    · exact h.ok x (by simp [hx])
  · rcases List.mem_cons.1 hx with rfl | hx
    · exact h.own (Many n es) (by simp) k ⟨i, hi, hk⟩
    rcases List.mem_cons.1 hx with rfl | hx
    · exact h.own (Many n es) (by simp) k (hD k hk).1
    · exact h.own x (by simp [hx]) k hk
  · rcases List.mem_cons.1 hx with rfl | hx
    · exact (hD k hxk).2 hk
    · exact hp.1 x hx k ⟨i, hi, hk⟩ hxk
theorem Inv.many_in (h : Inv S w0 w (e :: Many n es :: H)) (hi : i < n) (hn : es i = Ent.nil) : Inv S w0 w (Many n (fun j => if j = i then e else es j) :: H) := by
  have hm := h.ok (Many n es) (by simp)
  have he := h.ok e (by simp)
  have hp := List.pairwise_cons.1 h.apart
  have hp2 := List.pairwise_cons.1 hp.2
  have hD : ∀ k, (Many n (fun j => if j = i then e else es j)).D k → e.D k ∨ (Many n es).D k := by
    rintro k ⟨j, hj, hk⟩
    by_cases hji : j = i
    · simp only [if_pos hji] at hk; exact .inl hk
    · simp only [if_neg hji] at hk; exact .inr ⟨j, hj, hk⟩
  have hap : apartN n (fun j => if j = i then e else es j) := by
    intro a b ha hb hab k h1 h2
    by_cases hai : a = i
    · by_cases hbi : b = i
      · exact hab (hai.trans hbi.symm)
      · simp only [if_pos hai] at h1; simp only [if_neg hbi] at h2
        exact hp.1 (Many n es) (by simp) k h1 ⟨b, hb, h2⟩
    · by_cases hbi : b = i
      · simp only [if_neg hai] at h1; simp only [if_pos hbi] at h2
        exact hp.1 (Many n es) (by simp) k h2 ⟨a, ha, h1⟩
      · simp only [if_neg hai] at h1; simp only [if_neg hbi] at h2; exact hm.1.2 a b ha hb hab k h1 h2
  refine ⟨h.chg, fun x hx => ?_, fun x hx k hk => ?_, List.pairwise_cons.2 ⟨fun x hx k hk => ?_, hp2.2⟩⟩
  · rcases List.mem_cons.1 hx with rfl | hx
    · refine Many.ok (fun j hj => ?_) hap
      by_cases hji : j = i
      · simp only [if_pos hji]; exact he
      · simp only [if_neg hji]; exact hm.1.1 j hj
    · exact h.ok x (by simp [hx])
  · rcases List.mem_cons.1 hx with rfl | hx
    · rcases hD k hk with hk | hk
      · exact h.own e (by simp) k hk
      · exact h.own (Many n es) (by simp) k hk
    · exact h.own x (by simp [hx]) k hk
  · rcases hD k hk with hk | hk
    · exact hp.1 x (by simp [hx]) k hk
    · exact hp2.1 x hx k hk
theorem Inv.many_more (h : Inv S w0 w (Many n es :: H)) : Inv S w0 w (Many (n + 1) (fun j => if j = n then Ent.nil else es j) :: H) := by
  have hm := h.ok (Many n es) (by simp)
  have hp := List.pairwise_cons.1 h.apart
  have hD : ∀ k, (Many (n + 1) (fun j => if j = n then Ent.nil else es j)).D k → (Many n es).D k := by
    rintro k ⟨j, hj, hk⟩
    by_cases hji : j = n
    · simp only [if_pos hji] at hk; exact hk.elim
    · simp only [if_neg hji] at hk; exact ⟨j, by omega, hk⟩
  refine ⟨h.chg, fun x hx => ?_, fun x hx k hk => ?_, List.pairwise_cons.2 ⟨fun x hx k hk => hp.1 x hx k (hD k hk), hp.2⟩⟩
  · rcases List.mem_cons.1 hx with rfl | hx
    · refine Many.ok (fun j hj => ?_) (fun a b ha hb hab k h1 h2 => ?_)
      · by_cases hji : j = n
        · simp only [if_pos hji]; exact Ent.nil_ok w
        · simp only [if_neg hji]; exact hm.1.1 j (by omega)
      · by_cases hai : a = n
        · simp only [if_pos hai] at h1; exact h1.elim
        · by_cases hbi : b = n
          · simp only [if_pos hbi] at h2; exact h2.elim
          · simp only [if_neg hai] at h1; simp only [if_neg hbi] at h2; exact hm.1.2 a b (by omega) (by omega) hab k h1 h2
    · exact h.ok x (by simp [hx])
  · rcases List.mem_cons.1 hx with rfl | hx
    · exact h.own (Many n es) (by simp) k (hD k hk)
    · exact h.own x (by simp [hx]) k hk
theorem Inv.many_congr {es' : Nat → Ent} (h : Inv S w0 w (Many n es :: H)) (he : ∀ i, i < n → es i = es' i) : Inv S w0 w (Many n es' :: H) := by
  have hm := h.ok (Many n es) (by simp)
  have hp := List.pairwise_cons.1 h.apart
  have hD : ∀ k, (Many n es').D k → (Many n es).D k := fun k ⟨j, hj, hk⟩ => ⟨j, hj, by rw [he j hj]; exact hk⟩
  refine ⟨h.chg, fun x hx => ?_, fun x hx k hk => ?_, List.pairwise_cons.2 ⟨fun x hx k hk => hp.1 x hx k (hD k hk), hp.2⟩⟩
  · rcases List.mem_cons.1 hx with rfl | hx
    · exact Many.ok (fun j hj => by rw [← he j hj]; exact hm.1.1 j hj) (fun a b ha hb hab k h1 h2 => hm.1.2 a b ha hb hab k (by rw [he a ha]; exact h1) (by rw [he b hb]; exact h2))
    · exact h.ok x (by simp [hx])
  · rcases List.mem_cons.1 hx with rfl | hx
    · exact h.own (Many n es) (by simp) k (hD k hk)
    · exact h.own x (by simp [hx]) k hk
theorem Inv.many_push (h : Inv S w0 w (e :: Many n es :: H)) : Inv S w0 w (Many (n + 1) (fun j => if j = n then e else es j) :: H) := by
  have h1 := (h.sw0.many_more).sw0.many_in (i := n) (by omega) (by simp)
  refine h1.many_congr fun i hi => ?_
  by_cases hin : i = n
  · simp [hin]
  · simp [hin]
theorem Inv.many_at (h : Inv S w0 w (Many n es :: H)) (hi : i < n) : (es i).Φ w := ((h.ok (Many n es) (by simp)).1.1 i hi).1
theorem Inv.lit0 {g t : Nat} {news : List Value} (hI : Inv S w0 w (B g t news.toArray :: H)) : ∀ (k : Nat) (u : Value), news[k]? = some u → w.cell? ⟨g, 0 + k, none⟩ = some u := fun k u hk => by
  rw [Nat.zero_add]
  exact hI.cell 0 rfl (by simpa using hk)
/-- Behind a call that made parts of its own. -/
theorem Inv.app {w' : World} {H' : List Ent} (h : Inv S w0 w H) (h' : Inv (fun _ => False) w w' H') : Inv S w0 w' (H' ++ H) := by
  have hp := h.pure h'.pu
  have hge : ∀ e ∈ H', ∀ k, e.D k → w.heap.size ≤ k := fun e he k hk => (h'.own e he k hk).resolve_left (fun h => h)
  refine ⟨hp.chg, fun e he => ?_, fun e he k hk => ?_, List.pairwise_append.2 ⟨h'.apart, h.apart, fun a ha b hb k h1 h2 => ?_⟩⟩
  · rcases List.mem_append.1 he with he | he
    · exact h'.ok e he
    · exact hp.ok e he
  · rcases List.mem_append.1 he with he | he
    · exact .inr (Nat.le_trans h.chg.size (hge e he k hk))
    · exact h.own e he k hk
  · have e1 := hge a ha k h1
    have e2 := (h.ok b hb).2.1 k h2
    omega
/-- A part is given up. -/
theorem Inv.app1 {w' : World} {a : Ent} (h : Inv S w0 w H) (h' : Inv (fun _ => False) w w' [a]) : Inv S w0 w' (a :: H) := h.app h'
theorem Inv.app2 {w' : World} {a b : Ent} (h : Inv S w0 w H) (h' : Inv (fun _ => False) w w' [a, b]) : Inv S w0 w' (a :: b :: H) := h.app h'
theorem Inv.app3 {w' : World} {a b c : Ent} (h : Inv S w0 w H) (h' : Inv (fun _ => False) w w' [a, b, c]) : Inv S w0 w' (a :: b :: c :: H) := h.app h'
theorem Inv.up2 {a b c : Ent} (h : Inv S w0 w (a :: b :: c :: H)) : Inv S w0 w (c :: a :: b :: H) := h.sw1.sw0
theorem Inv.dn2 {a b c : Ent} (h : Inv S w0 w (c :: a :: b :: H)) : Inv S w0 w (a :: b :: c :: H) := h.sw0.sw1
theorem Inv.up3 {a b c d : Ent} (h : Inv S w0 w (a :: b :: c :: d :: H)) : Inv S w0 w (d :: a :: b :: c :: H) := h.sw2.sw1.sw0
theorem Inv.dn3 {a b c d : Ent} (h : Inv S w0 w (d :: a :: b :: c :: H)) : Inv S w0 w (a :: b :: c :: d :: H) := h.sw0.sw1.sw2
end
end Go.Proofs.YtgppljdfhhgkiaaGreatDoor

/-! Sxu: Sx: scopes without jumps, labels, min. Nothing of the program. -/
namespace Go.Proofs.YtgppljdfhhgkiaaGreatDoor
open Go
set_option linter.unusedVariables false
def noGotoQ (Q : XPost) : XPost
  | .goto _, _, _ => False
  | e, ρ, w => Q e ρ w
section
variable {P : Program} {N : Nat} {Q : XPost} {ρ : Env} {w : World} {o : Oper} {x y : Operand} {t t' : TypeId}
theorem W_scope {c : Code} (h : W P N c (noGotoQ Q) ρ w) : W P N (.scope c) Q ρ w := W_intro fun a ha => wp_scope_straight (wp_mono (by unfold W at h; exact h a ha) fun e a w q => by
  cases e with
  | normal => exact q
  | exit i => exact q
  | goto l => obtain ⟨ρ', h1, h2⟩ := q; exact h2.elim
  | ret => exact q
  | panic c => exact q
  | outgrown => exact q)
theorem W_label {l : Nat} (h : Q .normal ρ w) : W P N (.label l) Q ρ w := W_intro fun a ha => wp_label ⟨ρ, ha, h⟩
theorem rMin {a b : Int} (ho : o.op = .call { callee := .builtin .min, args := #[x, y], argTypes := #[t, t'] }) (hx : ev ρ x = .int .i64 a) (hy : ev ρ y = .int .i64 b) : Runs P ρ o w (.int .i64 (min a b)) := by
  have e : min a b = if b < a then b else a := by rw [Int.min_def]; split <;> split <;> omega
  rw [e]
  simp [Runs, execOp, ho, resolve, invoke, builtin, hx, hy, Builtin.min_, Builtin.min2]
theorem rDecN {a b : Nat} (ho : o.op = .binOp .sub t x y t') (hx : ev ρ x = .int .i64 (a : Int)) (hy : ev ρ y = .int .i64 (b : Int)) (hb : b ≤ a) (h : a ≤ 9223372036854775807) : Runs P ρ o w (.int .i64 ((a - b : Nat) : Int)) := by
  have := rSub (P := P) (w := w) ho hx hy (by omega)
  rwa [show (a : Int) - (b : Int) = ((a - b : Nat) : Int) by omega] at this
theorem min_ex {p : Nat → Prop} (h : ∃ n, p n) : ∃ n, p n ∧ ∀ m, m < n → ¬ p m := by
  obtain ⟨n, hn⟩ := h
  induction n using Nat.strongRecOn with
  | ind n ih =>
    by_cases hm : ∃ m, m < n ∧ p m
    · obtain ⟨m, h1, h2⟩ := hm; exact ih m h1 h2
    · exact ⟨n, hn, fun m h1 h2 => hm ⟨m, h1, h2⟩⟩
/-- A loop whose measure is told by the invariant. -/
theorem W_loopN {c : Code} (I : Nat → Env → World → Prop) (n0 : Nat) (h0 : I n0 ρ w)
    (h : ∀ n ρ w, I n ρ w → W P N c (thenQ (fun ρ' w' => ∃ m, m < n ∧ I m ρ' w') Q) ρ w) : W P N (.loop c) Q ρ w := by
  classical
  let μ : Env → World → Nat := fun ρ w => if hx : ∃ n, I n ρ w then Classical.choose (min_ex hx) else 0
  have hμ : ∀ ρ w, (∃ n, I n ρ w) → I (μ ρ w) ρ w ∧ ∀ m, I m ρ w → μ ρ w ≤ m := fun ρ w hx => by
    have hs := Classical.choose_spec (min_ex hx)
    have he : μ ρ w = Classical.choose (min_ex hx) := dif_pos hx
    rw [he]
    refine ⟨hs.1, fun m hm => ?_⟩
    rcases Nat.lt_or_ge m (Classical.choose (min_ex hx)) with h1 | h1
    · exact absurd hm (hs.2 m h1)
    · exact h1
  refine W_loop (fun ρ w => ∃ n, I n ρ w) μ ⟨n0, h0⟩ fun ρ w hI => ?_
  refine W_mono (h _ ρ w (hμ ρ w hI).1) fun e ρ' w' q => ?_
  cases e <;> first | exact q | (obtain ⟨m, h1, h2⟩ := q; exact ⟨⟨m, h2⟩, Nat.lt_of_le_of_lt ((hμ ρ' w' ⟨m, h2⟩).2 m h2) h1⟩)
end
theorem flatN {α : Type} {s : Nat} {f : α → List Value} (hf : ∀ a, (f a).length = s) : ∀ (xs : List α) (m : Nat) (a : α), xs[m]? = some a → ∀ j, j < s → (xs.flatMap f)[m * s + j]? = (f a)[j]?
  | [], m, a, h, _, _ => by simp at h
  | x :: xs, 0, a, h, j, hj => by
    simp at h; subst h
    rw [List.flatMap_cons, List.getElem?_append_left (by rw [hf]; omega), Nat.zero_mul, Nat.zero_add]
  | x :: xs, m + 1, a, h, j, hj => by
    rw [List.flatMap_cons, List.getElem?_append_right (by rw [hf, Nat.add_mul, Nat.one_mul]; omega), hf, show (m + 1) * s + j - s = m * s + j by rw [Nat.add_mul, Nat.one_mul]; omega]
    exact flatN hf xs m a (by simpa using h) j hj
theorem row_cellS {w : World} {base e n c b o i s : Nat} {xs : List Value} {u : Value} (h : w.ownsRow base e s (.slice (some ⟨b, o, none⟩) n c) n xs) (hi : xs[i]? = some u) (hn : 0 < n) : w.cell? ⟨b, o + i, none⟩ = some u := by
  obtain ⟨b', o', h1, _, _, h2⟩ := (Rd.of_own (D := fun _ => True) h (fun _ _ _ => trivial)).get hi hn
  injection h1 with h1
  injection h1 with h1 h3
  subst h1 h3
  exact h2
theorem row_addrS {w : World} {base e n c s : Nat} {A : Option Addr} {xs : List Value} (h : w.ownsRow base e s (.slice A n c) n xs) (hn : 0 < n) (hs : 0 < s) : ∃ b o, A = some ⟨b, o, none⟩ := by
  have hx : xs.length = n * s := h.1
  have : 0 < n * s := Nat.mul_pos hn hs
  obtain ⟨b', o', h1, _⟩ := (Rd.of_own (D := fun _ => True) h (fun _ _ _ => trivial)).get (List.getElem?_eq_getElem (show 0 < xs.length by omega)) hn
  exact ⟨b', o', h1⟩
end Go.Proofs.YtgppljdfhhgkiaaGreatDoor

/-! Sxw: Sx: a cell of a growing row stored; rows of structs. Nothing of the program. -/
namespace Go.Proofs.YtgppljdfhhgkiaaGreatDoor
open Go
set_option linter.unusedVariables false
set_option linter.unusedSimpArgs false
theorem row_openB {w : World} {base e n c s : Nat} {A : Option Addr} {xs : List Value} (h : w.ownsRow base e s (.slice A n c) n xs) (hn : 0 < n) : ∃ g cur, A = some ⟨g, 0, none⟩ ∧ base ≤ g ∧ Blk w g e cur ∧ n ≤ c ∧ c ≤ 9223372036854775807 ∧ cur.size = c * s ∧ cur.toList.take (n * s) = xs := by
  obtain ⟨hl, ⟨hv, hn0⟩ | ⟨g, cap, cur, hv, hg, hb, h1, h2, h3, h4⟩⟩ := h
  · omega
  · injection hv with e1 e2 e3
    subst e1 e3
    exact ⟨g, cur, rfl, hg, hb, h1, by simpa [maxLen] using h2, h3, h4⟩
theorem row_closeB {w : World} {base e g n c s : Nat} {cur : Array Value} {xs : List Value} (hg : base ≤ g) (hb : Blk w g e cur) (h1 : n ≤ c) (h2 : c ≤ 9223372036854775807) (h3 : cur.size = c * s) (h4 : cur.toList.take (n * s) = xs) : (Row base e s (some ⟨g, 0, none⟩) n c xs).ok w :=
  Row.ok ⟨by rw [← h4, List.length_take, Array.length_toList, h3]; exact Nat.min_eq_left (Nat.mul_le_mul_right s h1), .inr ⟨g, c, cur, rfl, hg, hb, h1, by simpa [maxLen] using h2, h3, h4⟩⟩
section
variable {P : Program} {N : Nat} {ops : Array Oper} {Q : XPost} {rest : List Oper} {ρ : Env} {o : Oper} {w0 w : World} {S : Nat → Prop} {H : List Ent} {d t g : Nat}
theorem WL_stRow {x y : Operand} {base e s n c b b0 j tt : Nat} {xs : List Value} {u : Value} (i : Nat) (hi : H[i]? = some (Row base e s (some ⟨b, b0, none⟩) n c xs)) (hI : Inv S w0 w H) (hw : wantedR ops ρ o = true) (hd : o.dst = none) (ho : o.op = .store tt x y) (hx : ev ρ x = .pointer (some ⟨b, j, none⟩)) (hy : ev ρ y = u) (hu : u.cells = #[u])
    (hs : szB P tt 1 = true) (h1 : u.oneCell' = true) (hj : j < xs.length) (h : ∀ w', Inv S w0 w' (H.set i (Row base e s (some ⟨b, b0, none⟩) n c (xs.set j u))) → WL P N ops Q rest ρ w') : WL P N ops Q (o :: rest) ρ w := by
  have hown : w.ownsRow base e s (.slice (some ⟨b, b0, none⟩) n c) n xs := (hI.ok _ (List.mem_of_getElem? hi)).1
  have hlen : xs.length = n * s := hown.1
  have hn : 0 < n := by
    rcases Nat.eq_zero_or_pos n with h0 | h0
    · subst h0; omega
    · exact h0
  obtain ⟨g, cur, hA, hg, hB, hnc, hcm, hsz, htk⟩ := row_openB hown hn
  injection hA with hA
  injection hA with e1 e2
  subst e1 e2
  have hjc : j < cur.size := by
    have : n * s ≤ c * s := Nat.mul_le_mul_right s hnc
    omega
  refine WL_store (w' := w.setCell ⟨b, j, none⟩ u) hw hd (run_store ho hx hy hu hs rfl hB hjc (by simp [h1])) (h _ (hI.upd i hi ((Chg.refl (Row base e s (some ⟨b, 0, none⟩) n c xs).D w).setCell (p := ⟨b, j, none⟩) (.inl rfl) u) (row_closeB hg (hB.set_ j u) hnc hcm (by simp [hsz]) (by rw [Array.toList_setIfInBounds, List.take_set, htk])) (fun k hk => .inl hk)))
end
section
variable {α : Type} {f : α → List Value} {s : Nat}
theorem flat_setG (hf : ∀ a, (f a).length = s) {a a' : α} {j : Nat} {v : Value} (hj : j < s) (ha : f a' = (f a).set j v) : ∀ {l : List α} {k : Nat}, l[k]? = some a → (l.set k a').flatMap f = (l.flatMap f).set (k * s + j) v
  | [], k, h => by simp at h
  | q :: r, 0, h => by
    simp at h; subst h
    rw [List.set_cons_zero, List.flatMap_cons, List.flatMap_cons, ha, Nat.zero_mul, Nat.zero_add, List.set_append_left _ _ (by rw [hf]; exact hj)]
  | q :: r, k + 1, h => by
    have ih := flat_setG hf hj ha (l := r) (k := k) (by simpa using h)
    rw [List.set_cons_succ, List.flatMap_cons, List.flatMap_cons, ih, List.set_append_right _ _ (by rw [hf, Nat.add_mul, Nat.one_mul]; omega)]
    congr 2
    rw [hf, Nat.add_mul, Nat.one_mul]; omega
theorem flat_lenG (hf : ∀ a, (f a).length = s) (l : List α) : (l.flatMap f).length = l.length * s := by
  induction l with
  | nil => simp
  | cons q r ih => rw [List.flatMap_cons, List.length_append, ih, hf, List.length_cons, Nat.add_mul, Nat.one_mul]; omega
end
end Go.Proofs.YtgppljdfhhgkiaaGreatDoor
