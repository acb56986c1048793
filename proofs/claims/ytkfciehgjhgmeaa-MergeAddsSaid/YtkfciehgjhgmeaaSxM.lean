/- Sx: maps whose keys are of any kind that can be compared. Nothing of the program. -/
import Derived.Test.YtkfciehgjhgmeaaSxB
namespace Go.Proofs.Ytkfciehgjhgmeaa
open Go
set_option linter.unusedVariables false
set_option linter.unusedSimpArgs false
set_option linter.unusedSectionVars false
def EsK {κ : Type} (K : κ → Value) (es : List MapEntry) (m : List (κ × Value)) : Prop := es.map (fun e => (e.key, e.val)) = m.map (fun p => (K p.1, p.2))
theorem EsK.len {κ : Type} {K : κ → Value} {es : List MapEntry} {m : List (κ × Value)} (h : EsK K es m) : es.length = m.length := by
  have := congrArg List.length h
  simpa using this
/-- Keys that are found, or are not there. -/
structure KeyOk (P : Program) (kt : TypeId) {κ : Type} (ok : κ → Prop) (K : κ → Value) : Prop where
  find : ∀ (a : κ), ok a → ∀ (es : List MapEntry) (m : List (κ × Value)) (w : World), EsK K es m → (∀ p ∈ m, ok p.1) →
    ((∀ p ∈ m, p.1 ≠ a) ∧ (Instr.findKey kt (K a) es).run P w = .ok none w) ∨ ∃ j v, m[j]? = some (a, v) ∧ (Instr.findKey kt (K a) es).run P w = .ok (some (j, v)) w
  check : ∀ (a : κ), ok a → ∀ (em : Bool) (w : World), (Instr.checkKey em 10000 kt (K a)).run P w = .ok () w
  stays : ∀ (a : κ), ok a → ∀ (w : World), (Instr.keyThatStays (K a) (K a)).run P w = .ok (K a) w
/-- The stamps of entries: each its own, all past. -/
def BornOk (es : Array MapEntry) (clk : Nat) : Prop := (∀ e ∈ es.toList, e.born < clk) ∧ (es.toList.map (·.born)).Nodup
theorem BornOk.push {es : Array MapEntry} {clk : Nat} (h : BornOk es clk) (k v : Value) : BornOk (es.push { key := k, val := v, born := clk }) (clk + 1) := by
  refine ⟨fun e he => ?_, ?_⟩
  · rw [Array.toList_push, List.mem_append, List.mem_singleton] at he
    rcases he with he | rfl
    · have := h.1 e he; omega
    · show clk < clk + 1; omega
  · rw [Array.toList_push, List.map_append, List.nodup_append]
    refine ⟨h.2, by simp, fun i hi j hj => ?_⟩
    obtain ⟨e, he, rfl⟩ := List.mem_map.1 hi
    simp only [List.map_cons, List.map_nil, List.mem_singleton] at hj
    have := h.1 e he
    omega
theorem BornOk.modify {es : Array MapEntry} {clk : Nat} (h : BornOk es clk) (j : Nat) (k v : Value) : BornOk (es.modify j fun e => { e with key := k, val := v }) clk := by
  have e1 : (es.modify j fun e => { e with key := k, val := v }).toList.map (·.born) = es.toList.map (·.born) := by
    refine List.ext_getElem? fun i => ?_
    simp only [List.getElem?_map, Array.getElem?_toList, Array.getElem?_modify]
    by_cases hij : j = i
    · subst hij; simp; cases es[j]? <;> rfl
    · simp [hij]
  refine ⟨fun e he => ?_, by rw [e1]; exact h.2⟩
  have : e.born ∈ (es.modify j fun e => { e with key := k, val := v }).toList.map (·.born) := List.mem_map.2 ⟨e, he, rfl⟩
  rw [e1] at this
  obtain ⟨e', he', hb⟩ := List.mem_map.1 this
  rw [← hb]; exact h.1 e' he'
structure MapKIs {κ : Type} (ok : κ → Prop) (K : κ → Value) (w : World) (b : Nat) (g : κ → Option Value) : Prop where
  ex : ∃ (es : Array MapEntry) (clk : Nat) (m : List (κ × Value)), w.heap[b]? = some (.map es clk) ∧ BornOk es clk ∧ EsK K es.toList m ∧ (m.map (·.1)).Nodup ∧ (∀ p ∈ m, ok p.1) ∧ ∀ a v, (a, v) ∈ m ↔ g a = some v
def MapKE {κ : Type} (ok : κ → Prop) (K : κ → Value) (b : Nat) (g : κ → Option Value) : Ent := ⟨fun k => k = b, fun w => MapKIs ok K w b g⟩
theorem MapKE.ok {κ : Type} {ok : κ → Prop} {K : κ → Value} {w : World} {b : Nat} {g : κ → Option Value} (h : MapKIs ok K w b g) : (MapKE ok K b g).ok w := by
  refine Ent.mk_ok h (fun k hk => ?_) (fun S w1 w2 hc hS h1 => ?_)
  · obtain ⟨es, clk, m, h1, _⟩ := h.ex
    have : k = b := hk
    subst this
    rcases Nat.lt_or_ge k w.heap.size with h2 | h2
    · exact h2
    · simp [Array.getElem?_eq_none h2] at h1
  · obtain ⟨es, clk, m, h2, h3⟩ := h1.ex
    have hlt : b < w1.heap.size := by
      rcases Nat.lt_or_ge b w1.heap.size with h4 | h4
      · exact h4
      · simp [Array.getElem?_eq_none h4] at h2
    exact ⟨es, clk, m, (hc.block b hlt (hS b rfl)).trans h2, h3⟩
theorem keyK_inj {κ : Type} {m : List (κ × Value)} (hn : (m.map (·.1)).Nodup) {i j : Nat} {a : κ} {u v : Value} (hi : m[i]? = some (a, u)) (hj : m[j]? = some (a, v)) : i = j := by
  have h1 : (m.map (·.1))[i]? = some a := by simp [hi]
  have h2 : (m.map (·.1))[j]? = some a := by simp [hj]
  exact (List.getElem?_inj (List.getElem?_eq_some_iff.1 h1).1 hn).1 (h1.trans h2.symm)
section
variable {κ : Type} [DecidableEq κ] {ok : κ → Prop} {K : κ → Value} {P : Program} {N : Nat} {ops : Array Oper} {Q : XPost} {rest : List Oper} {ρ : Env} {o : Oper} {w0 w w' : World} {S : Nat → Prop} {H : List Ent} {d t kt et b : Nat} {x y z : Operand} {zv v : Value} {a : κ} {g : κ → Option Value}
theorem WL_mkMapK (ok : κ → Prop) (K : κ → Value) (hI : Inv S w0 w H) (hw : wantedR ops ρ o = true) (hd : o.dst = some d) (hN : Nat.blt d N = true) (ho : o.op = .makeMap t none)
    (h : ∀ b w', Inv S w0 w' (MapKE ok K b (fun _ => none) :: H) → WL P N ops Q rest (upd ρ d (.map (some b))) w') : WL P N ops Q (o :: rest) ρ w :=
  WL_eff hw hd hN (v := .map (some w.heap.size)) (w' := w.alloc (.map #[] 0)) (by simp [execOp, ho, Instr.makeMap])
    (h _ _ (hI.fresh ((Pure.refl w).alloc _) (MapKE.ok ⟨#[], 0, [], by show (w.heap.push _)[w.heap.size]? = _; simp, ⟨by simp, by simp⟩, rfl, by simp, by simp, by simp⟩) (fun k hk => by have : k = w.heap.size := hk; omega)))
theorem zero_run {et : Nat} {zv : Value} (hz : (P.info? et).bind (·.zero) = some zv) (w : World) : (zeroValue et).run P w = .ok zv w := by
  cases hi : P.info? et with
  | none => simp [hi] at hz
  | some i => simp only [hi, Option.bind_some] at hz; simp [zeroValue, typeInfo, hi, hz]
theorem rLookKY (hK : KeyOk P kt ok K) (hg : g a = some v) (ho : o.op = .lookup t x y true) (ht : P.underlying t = some (.map kt et)) (hx : ev ρ x = .map (some b)) (hy : ev ρ y = K a) (ha : ok a) (hM : MapKIs ok K w b g) : Runs P ρ o w (.tuple #[v, .bool true]) := by
  obtain ⟨es, clk, m, h1, hB, h2, h3, h5, h4⟩ := hM.ex
  have hc := hK.check a ha es.isEmpty w
  rcases hK.find a ha es.toList m w h2 h5 with ⟨g1, g2⟩ | ⟨j, u, g1, g2⟩
  · exact absurd rfl (g1 _ ((h4 a v).2 hg))
  · have hu : g a = some u := (h4 a u).1 (List.mem_of_getElem? g1)
    rw [hg] at hu
    injection hu with hu
    subst hu
    simp [Runs, execOp, ho, hx, hy, Instr.lookup, run_underlying ht, run_getM h1, hc, g2]
theorem rLookKN (hK : KeyOk P kt ok K) (hg : g a = none) (ho : o.op = .lookup t x y true) (ht : P.underlying t = some (.map kt et)) (hz : (P.info? et).bind (·.zero) = some zv) (hx : ev ρ x = .map (some b)) (hy : ev ρ y = K a) (ha : ok a) (hM : MapKIs ok K w b g) : Runs P ρ o w (.tuple #[zv, .bool false]) := by
  obtain ⟨es, clk, m, h1, hB, h2, h3, h5, h4⟩ := hM.ex
  have hc := hK.check a ha es.isEmpty w
  have hzv := zero_run hz w
  rcases hK.find a ha es.toList m w h2 h5 with ⟨g1, g2⟩ | ⟨j, u, g1, g2⟩
  · simp [Runs, execOp, ho, hx, hy, Instr.lookup, run_underlying ht, run_getM h1, hc, g2, hzv]
  · have hu : g a = some u := (h4 a u).1 (List.mem_of_getElem? g1)
    rw [hg] at hu; cases hu
theorem run_mapSetK (hK : KeyOk P kt ok K) (ho : o.op = .mapUpdate t x y z) (ht : P.underlying t = some (.map kt et)) (hx : ev ρ x = .map (some b)) (hy : ev ρ y = K a) (hz : ev ρ z = v) (ha : ok a) (hM : MapKIs ok K w b g) :
    ∃ o', (execOp (ev ρ) o).run P w = .ok .skip (setB w b o') ∧ MapKIs ok K (setB w b o') b (fun i => if i = a then some v else g i) := by
  obtain ⟨es, clk, m, h1, hB, h2, h3, h5, h4⟩ := hM.ex
  have hlt : b < w.heap.size := by
    rcases Nat.lt_or_ge b w.heap.size with h5 | h5
    · exact h5
    · simp [Array.getElem?_eq_none h5] at h1
  have hc := hK.check a ha false w
  rcases hK.find a ha es.toList m w h2 h5 with ⟨g1, g2⟩ | ⟨j, u, g1, g2⟩
  · refine ⟨.map (es.push { key := K a, val := v, born := clk }) (clk + 1), ?_, ?_⟩
    · simp [execOp, ho, hx, hy, hz, Instr.mapUpdate, run_underlying ht, run_getM h1, hc, g2, run_setM _ h1]
    · refine ⟨_, _, m ++ [(a, v)], heap_setB hlt, hB.push _ _, ?_, ?_, ?_, fun i u => ?_⟩
      · unfold EsK at h2 ⊢
        simp [h2]
      · rw [List.map_append, List.nodup_append]
        refine ⟨h3, by simp, fun i hi j hj => ?_⟩
        simp only [List.map_cons, List.map_nil, List.mem_singleton] at hj
        obtain ⟨p, hp, rfl⟩ := List.mem_map.1 hi
        rw [hj]
        exact g1 p hp
      · intro p hp
        rcases List.mem_append.1 hp with hp | hp
        · exact h5 p hp
        · rw [List.mem_singleton.1 hp]; exact ha
      · rw [List.mem_append, List.mem_singleton]
        by_cases hia : i = a
        · subst hia
          rw [if_pos rfl]
          constructor
          · rintro (hh | hh)
            · exact absurd rfl (g1 _ hh)
            · injection hh with _ hh; rw [hh]
          · intro hh; injection hh with hh; exact .inr (by rw [hh])
        · rw [if_neg hia, ← h4]
          constructor
          · rintro (hh | hh)
            · exact hh
            · injection hh with hh _; exact absurd hh hia
          · exact .inl
  · have hjl := (List.getElem?_eq_some_iff.1 g1).1
    have hlen := h2.len
    have hej : ∃ e, es[j]? = some e ∧ e.key = K a := by
      have hj' : j < es.toList.length := by omega
      refine ⟨es.toList[j], by simp, ?_⟩
      have := congrArg (fun l => l[j]?) h2
      simp only [List.getElem?_map, g1, List.getElem?_eq_getElem hj', Option.map_some, Option.some.injEq, Prod.mk.injEq] at this
      exact this.1
    obtain ⟨e, he, hek⟩ := hej
    refine ⟨.map (es.modify j fun e => { e with key := K a, val := v }) clk, ?_, ?_⟩
    · have hst := hK.stays a ha w
      simp [execOp, ho, hx, hy, hz, Instr.mapUpdate, run_underlying ht, run_getM h1, hc, g2, he, hek, hst, run_setM _ h1]
    · refine ⟨_, _, m.set j (a, v), heap_setB hlt, hB.modify j _ _, ?_, ?_, ?_, fun i u' => ?_⟩
      · unfold EsK at h2 ⊢
        refine List.ext_getElem? fun i => ?_
        have hi := congrArg (fun l => l[i]?) h2
        simp only [List.getElem?_map, Array.getElem?_toList, Array.getElem?_modify, List.getElem?_set] at hi ⊢
        by_cases hij : j = i
        · subst hij
          simp [he, hjl]
        · simp only [hij, if_false]
          exact hi
      · rw [List.map_set]
        have : (m.map (·.1)).set j a = m.map (·.1) := by
          refine List.ext_getElem? fun i => ?_
          rw [List.getElem?_set]
          by_cases hij : j = i
          · subst hij
            have hmj := (List.getElem?_eq_some_iff.1 g1).2
            simp [hjl, hmj]
          · simp [hij]
        simpa [this] using h3
      · intro p hp
        rcases List.mem_or_eq_of_mem_set hp with hp | rfl
        · exact h5 p hp
        · exact ha
      · have key : (i, u') ∈ m.set j (a, v) ↔ (i = a ∧ u' = v) ∨ (i ≠ a ∧ (i, u') ∈ m) := by
          constructor
          · intro hm
            obtain ⟨k, hk'⟩ := List.getElem?_of_mem hm
            rw [List.getElem?_set] at hk'
            by_cases hjk : j = k
            · rw [if_pos hjk, if_pos hjl] at hk'
              injection hk' with hk'
              injection hk' with e1 e2
              exact .inl ⟨e1.symm, e2.symm⟩
            · rw [if_neg hjk] at hk'
              refine .inr ⟨fun e1 => hjk ?_, List.mem_of_getElem? hk'⟩
              subst e1
              exact keyK_inj h3 g1 hk'
          · rintro (⟨rfl, rfl⟩ | ⟨hne, hm⟩)
            · exact List.mem_of_getElem? (i := j) (by rw [List.getElem?_set, if_pos rfl, if_pos hjl])
            · obtain ⟨k, hk'⟩ := List.getElem?_of_mem hm
              have hjk : j ≠ k := fun e1 => by subst e1; rw [g1] at hk'; injection hk' with hk'; injection hk' with e1 _; exact hne e1.symm
              exact List.mem_of_getElem? (i := k) (by rw [List.getElem?_set, if_neg hjk]; exact hk')
        rw [key]
        by_cases hia : i = a
        · rw [if_pos hia]
          simp [hia, eq_comm]
        · rw [if_neg hia, ← h4]
          simp [hia]
theorem WL_mapSetK (hK : KeyOk P kt ok K) (i : Nat) (hi : H[i]? = some (MapKE ok K b g)) (hI : Inv S w0 w H) (hw : wantedR ops ρ o = true) (hd : o.dst = none) (ho : o.op = .mapUpdate t x y z) (ht : P.underlying t = some (.map kt et)) (hx : ev ρ x = .map (some b)) (hy : ev ρ y = K a) (hz : ev ρ z = v) (ha : ok a)
    (h : ∀ w', Inv S w0 w' (H.set i (MapKE ok K b (fun j => if j = a then some v else g j))) → WL P N ops Q rest ρ w') : WL P N ops Q (o :: rest) ρ w := by
  have hM : MapKIs ok K w b g := (hI.ok _ (List.mem_of_getElem? hi)).1
  obtain ⟨o', h1, h2⟩ := run_mapSetK (P := P) hK ho ht hx hy hz ha hM
  exact WL_store hw hd h1 (h _ (hI.upd i hi (chg_setB w b o') (MapKE.ok h2) (fun _ hk => .inl hk)))
end
/-! ### Keys that are structs of ints -/
section
variable {P : Program}
theorem find_agg {kt n : Nat} (hB : eqIntsB P kt n = true) {la : List Int} (ha : la.length = n) : ∀ (es : List MapEntry) (m : List (List Int × Value)) (i : Nat) (w : World), EsK (fun l => .agg (i64s l).toArray) es m → (∀ p ∈ m, p.1.length = n) →
    ((∀ p ∈ m, p.1 ≠ la) ∧ (Instr.findAsking kt (.agg (i64s la).toArray) es i).run P w = .ok none w) ∨ ∃ j v, m[j]? = some (la, v) ∧ (Instr.findAsking kt (.agg (i64s la).toArray) es i).run P w = .ok (some (i + j, v)) w
  | [], [], i, w, _, _ => .inl ⟨by simp, rfl⟩
  | [], _ :: _, i, w, h, _ => by simp [EsK] at h
  | _ :: _, [], i, w, h, _ => by simp [EsK] at h
  | e :: es, p :: m, i, w, h, hn => by
    simp only [EsK, List.map_cons, List.cons.injEq, Prod.mk.injEq] at h
    obtain ⟨⟨h1, h2⟩, h3⟩ := h
    have heq : (Op.equal kt (.agg (i64s la).toArray) e.key).run P w = .ok (decide (la = p.1)) w := by rw [h1]; exact run_equal_i64s hB ha (hn p (by simp))
    by_cases hp : la = p.1
    · refine .inr ⟨0, p.2, by rw [hp]; rfl, ?_⟩
      rw [decide_eq_true hp] at heq
      simp [Instr.findAsking, heq, h2]
    · rw [decide_eq_false hp] at heq
      rcases find_agg hB ha es m (i + 1) w h3 (fun q hq => hn q (by simp [hq])) with ⟨g1, g2⟩ | ⟨j, v, g1, g2⟩
      · refine .inl ⟨fun x hx => ?_, ?_⟩
        · rcases List.mem_cons.1 hx with rfl | hx
          · exact fun e => hp e.symm
          · exact g1 x hx
        · simp [Instr.findAsking, heq, g2]
      · refine .inr ⟨j + 1, v, by simpa using g1, ?_⟩
        simp [Instr.findAsking, heq, g2, show i + 1 + j = i + (j + 1) by omega]
theorem same_i64s (n : Nat) (la : List Int) : Instr.sameBits (n + 1) (.agg (i64s la).toArray) (.agg (i64s la).toArray) = true := by
  have h : ∀ l : List Int, ((i64s l).zip (i64s l)).all (fun (x, y) => Instr.sameBits n x y) = true := by
    intro l
    induction l with
    | nil => rfl
    | cons x l ih =>
      have e : i64s (x :: l) = .int .i64 x :: i64s l := rfl
      rw [e, List.zip_cons_cons, List.all_cons, ih]
      simp [Instr.sameBits]
  simp only [Instr.sameBits, beq_self_eq_true, Bool.true_and]
  exact h la
theorem keyInts {kt n : Nat} (hB : eqIntsB P kt n = true) (hc : ∀ (a : List Int), a.length = n → ∀ (em : Bool) (w : World), (Instr.checkKey em 10000 kt (.agg (i64s a).toArray)).run P w = .ok () w) : KeyOk P kt (fun l : List Int => l.length = n) (fun l => .agg (i64s l).toArray) := by
  refine ⟨fun a ha es m w hes hm => ?_, hc, fun a ha w => ?_⟩
  · obtain ⟨fs, hfs⟩ : ∃ fs, P.underlying kt = some (.struct fs) := by
      unfold eqIntsB at hB
      split at hB
      · exact ⟨_, by assumption⟩
      · cases hB
    have h1 := find_agg hB ha es m 0 w hes hm
    have h2 : (Instr.findKey kt (.agg (i64s a).toArray) es).run P w = (Instr.findAsking kt (.agg (i64s a).toArray) es 0).run P w := by
      cases es with
      | nil => simp [Instr.findKey, run_underlying hfs, Instr.findNow, Instr.findAsking]
      | cons e es => simp [Instr.findKey, run_underlying hfs, Instr.findNow, Instr.sameNow]
    rw [h2]
    rcases h1 with h1 | ⟨j, v, h3, h4⟩
    · exact .inl h1
    · exact .inr ⟨j, v, h3, by rw [h4, Nat.zero_add]⟩
  · simp [Instr.keyThatStays, same_i64s]
end
end Go.Proofs.Ytkfciehgjhgmeaa
