/- Part of the proof that a desk answers in pieces. -/
import Derived.Test.YtnckdmogdehnoaaGreatDoorPSxI
import Derived.Maps.RangeRun
set_option linter.unusedVariables false
set_option linter.unusedSimpArgs false
namespace Go.Proofs.YtnckdmogdehnoaaGreatDoor
open Go
set_option linter.unusedSectionVars false
def EsK {κ : Type} (K : κ → Value) (es : List MapEntry) (m : List (κ × Value)) : Prop := es.map (fun e => (e.key, e.val)) = m.map (fun p => (K p.1, p.2))
theorem EsK.len {κ : Type} {K : κ → Value} {es : List MapEntry} {m : List (κ × Value)} (h : EsK K es m) : es.length = m.length := by
 have := congrArg List.length h
 simpa using this
structure KeyOk (P : Program) (kt : TypeId) {κ : Type} (ok : κ → Prop) (K : κ → Value) : Prop where
 find : ∀ (a : κ), ok a → ∀ (es : List MapEntry) (m : List (κ × Value)) (w : World), EsK K es m → (∀ p ∈ m, ok p.1) →
  ((∀ p ∈ m, p.1 ≠ a) ∧ (Instr.findKey kt (K a) es).run P w = .ok none w) ∨ ∃ j v, m[j]? = some (a, v) ∧ (Instr.findKey kt (K a) es).run P w = .ok (some (j, v)) w
 check : ∀ (a : κ), ok a → ∀ (em : Bool) (w : World), (Instr.checkKey em 10000 kt (K a)).run P w = .ok () w
 stays : ∀ (a : κ), ok a → ∀ (w : World), (Instr.keyThatStays (K a) (K a)).run P w = .ok (K a) w
def BornOk (es : Array MapEntry) (clk : Nat) : Prop := (∀ e ∈ es.toList, e.born < clk) ∧ (es.toList.map (·.born)).Nodup
theorem BornOk.push {es : Array MapEntry} {clk : Nat} (h : BornOk es clk) (k v : Value) : BornOk (es.push { key := k, val := v, born := clk }) (clk + 1) := by
 refine ⟨fun e he => ?_, ?_⟩
 ·rw [Array.toList_push, List.mem_append, List.mem_singleton] at he
  rcases he with he | rfl
  ·have := h.1 e he; omega
  show clk < clk + 1; omega
 rw [Array.toList_push, List.map_append, List.nodup_append]
 refine ⟨h.2, by simp, fun i hi j hj => ?_⟩
 obtain ⟨e, he, rfl⟩ := List.mem_map.1 hi
 simp only [List.map_cons, List.map_nil, List.mem_singleton] at hj
 have := h.1 e he
 omega
theorem BornOk.modify {es : Array MapEntry} {clk : Nat} (h : BornOk es clk) (j : Nat) (k v : Value) : BornOk (es.modify j fun e => { e with key := k, val := v }) clk := by
 have e1 : (es.modify j fun e => { e with key := k, val := v }).toList.map (·.born) = es.toList.map (·.born) := by
  refine List.ext_getElem? fun i => ?_
  simp only [List.getElem?_map, Array.getElem?_toList, Array.getElem?_modify]
  by_cases hij : j = i
  ·subst hij; simp; cases es[j]? <;> rfl
  simp [hij]
 refine ⟨fun e he => ?_, by rw [e1]; exact h.2⟩
 have : e.born ∈ (es.modify j fun e => { e with key := k, val := v }).toList.map (·.born) := List.mem_map.2 ⟨e, he, rfl⟩
 rw [e1] at this
 obtain ⟨e', he', hb⟩ := List.mem_map.1 this
 rw [← hb]; exact h.1 e' he'
structure MapKIs {κ : Type} (ok : κ → Prop) (K : κ → Value) (w : World) (b : Nat) (g : κ → Option Value) : Prop where
 ex : ∃ (es : Array MapEntry) (clk : Nat) (m : List (κ × Value)), w.heap[b]? = some (.map es clk) ∧ BornOk es clk ∧ EsK K es.toList m ∧ (m.map (·.1)).Nodup ∧ (∀ p ∈ m, ok p.1) ∧ ∀ a v, (a, v) ∈ m ↔ g a = some v
def MapKE {κ : Type} (ok : κ → Prop) (K : κ → Value) (b : Nat) (g : κ → Option Value) : Ent := ⟨fun k => k = b, fun w => MapKIs ok K w b g⟩
theorem MapKE.ok {κ : Type} {ok : κ → Prop} {K : κ → Value} {w : World} {b : Nat} {g : κ → Option Value} (h : MapKIs ok K w b g) : (MapKE ok K b g).ok w := by
 refine Ent.mk_ok h (fun k hk => ?_) (fun S w1 w2 hc hS h1 => ?_)
 ·obtain ⟨es, clk, m, h1, _⟩ := h.ex
  have : k = b := hk
  subst this
  rcases Nat.lt_or_ge k w.heap.size with h2 | h2
  ·exact h2
  simp [Array.getElem?_eq_none h2] at h1
 obtain ⟨es, clk, m, h2, h3⟩ := h1.ex
 have hlt : b < w1.heap.size := by
  rcases Nat.lt_or_ge b w1.heap.size with h4 | h4
  ·exact h4
  simp [Array.getElem?_eq_none h4] at h2
 exact ⟨es, clk, m, (hc.block b hlt (hS b Z)).trans h2, h3⟩
theorem keyK_inj {κ : Type} {m : List (κ × Value)} (hn : (m.map (·.1)).Nodup) {i j : Nat} {a : κ} {u v : Value} (hi : m[i]? = some (a, u)) (hj : m[j]? = some (a, v)) : i = j := by
 have h1 : (m.map (·.1))[i]? = some a := by simp [hi]
 have h2 : (m.map (·.1))[j]? = some a := by simp [hj]
 exact (List.getElem?_inj (gS_ h1).1 hn).1 (h1.trans h2.symm)
section
variable {κ : Type} [DecidableEq κ] {ok : κ → Prop} {K : κ → Value} {P : Program} {N : Nat} {ops : Array Oper} {Q : XPost} {rest : List Oper} {ρ : Env} {o : Oper} {w0 w w' : World} {S : Nat → Prop} {H : List Ent} {d t kt et b : Nat} {x y z : Operand} {zv v : Value} {a : κ} {g : κ → Option Value}
theorem WL_mkMapK (ok : κ → Prop) (K : κ → Value) (hI : Inv S w0 w H) (hw : wantedR ops ρ o = true) (hd : o.dst = some d) (hN : Nat.blt d N = true) (ho : o.op = .makeMap t none)
  (h : ∀ b w', Inv S w0 w' (MapKE ok K b (fun _ => none) :: H) → WL P N ops Q rest (upd ρ d (.map (some b))) w') : WL P N ops Q (o :: rest) ρ w :=
 WL_eff hw hd hN (v := .map (some w.heap.size)) (w' := w.alloc (.map #[] 0)) (by simp [execOp, ho, Instr.makeMap])
  (h _ _ (hI.fresh ((Pure.refl w).alloc _) (MapKE.ok ⟨#[], 0, [], by show (w.heap.push _)[w.heap.size]? = _; simp, ⟨by simp, by simp⟩, rfl, by simp, by simp, by simp⟩) (fun k hk => by have : k = w.heap.size := hk; omega)))
theorem zero_run (hz : (P.info? et).bind (·.zero) = some zv) (w : World) : (zeroValue et).run P w = .ok zv w := by
 cases hi : P.info? et with
 | none => simp [hi] at hz
 | some i => simp only [hi, Option.bind_some] at hz; simp [zeroValue, typeInfo, hi, hz]
theorem rLookKY (hK : KeyOk P kt ok K) (hg : g a = some v) (ho : o.op = .lookup t x y true) (ht : P.underlying t = some (.map kt et)) (hx : ev ρ x = .map (some b)) (hy : ev ρ y = K a) (ha : ok a) (hM : MapKIs ok K w b g) : Runs P ρ o w (.tuple #[v, .bool true]) := by
 obtain ⟨es, clk, m, h1, hB, h2, h3, h5, h4⟩ := hM.ex
 have hc := hK.check a ha es.isEmpty w
 rcases hK.find a ha es.toList m w h2 h5 with ⟨g1, g2⟩ | ⟨j, u, g1, g2⟩
 ·exact absurd Z (g1 _ ((h4 a v).2 hg))
 have hu : g a = some u := (h4 a u).1 (gM_ g1)
 rw [hg] at hu
 injection hu with hu
 subst hu
 simp [Runs, execOp, ho, hx, hy, Instr.lookup, run_underlying ht, run_getM h1, hc, g2]
theorem rLookKN (hK : KeyOk P kt ok K) (hg : g a = none) (ho : o.op = .lookup t x y true) (ht : P.underlying t = some (.map kt et)) (hz : (P.info? et).bind (·.zero) = some zv) (hx : ev ρ x = .map (some b)) (hy : ev ρ y = K a) (ha : ok a) (hM : MapKIs ok K w b g) : Runs P ρ o w (.tuple #[zv, .bool false]) := by
 obtain ⟨es, clk, m, h1, hB, h2, h3, h5, h4⟩ := hM.ex
 have hc := hK.check a ha es.isEmpty w
 have hzv := zero_run hz w
 rcases hK.find a ha es.toList m w h2 h5 with ⟨g1, g2⟩ | ⟨j, u, g1, g2⟩
 ·simp [Runs, execOp, ho, hx, hy, Instr.lookup, run_underlying ht, run_getM h1, hc, g2, hzv]
 have hu : g a = some u := (h4 a u).1 (gM_ g1)
 rw [hg] at hu; cases hu
theorem run_mapSetK (hK : KeyOk P kt ok K) (ho : o.op = .mapUpdate t x y z) (ht : P.underlying t = some (.map kt et)) (hx : ev ρ x = .map (some b)) (hy : ev ρ y = K a) (hz : ev ρ z = v) (ha : ok a) (hM : MapKIs ok K w b g) :
  ∃ o', (execOp (ev ρ) o).run P w = .ok .skip (setB w b o') ∧ MapKIs ok K (setB w b o') b (fun i => if i = a then some v else g i) := by
 obtain ⟨es, clk, m, h1, hB, h2, h3, h5, h4⟩ := hM.ex
 have hlt : b < w.heap.size := by
  rcases Nat.lt_or_ge b w.heap.size with h5 | h5
  ·exact h5
  simp [Array.getElem?_eq_none h5] at h1
 have hc := hK.check a ha false w
 rcases hK.find a ha es.toList m w h2 h5 with ⟨g1, g2⟩ | ⟨j, u, g1, g2⟩
 ·refine ⟨.map (es.push { key := K a, val := v, born := clk }) (clk + 1), ?_, ?_⟩
  ·simp [execOp, ho, hx, hy, hz, Instr.mapUpdate, run_underlying ht, run_getM h1, hc, g2, run_setM _ h1]
  refine ⟨_, _, m ++ [(a, v)], heap_setB hlt, hB.push _ _, ?_, ?_, ?_, fun i u => ?_⟩
  ·unfold EsK at h2 ⊢
   simp [h2]
  ·rw [List.map_append, List.nodup_append]
   refine ⟨h3, by simp, fun i hi j hj => ?_⟩
   simp only [List.map_cons, List.map_nil, List.mem_singleton] at hj
   obtain ⟨p, hp, rfl⟩ := List.mem_map.1 hi
   rw [hj]
   exact g1 p hp
  ·intro p hp
   rcases List.mem_append.1 hp with hp | hp
   ·exact h5 p hp
   rw [List.mem_singleton.1 hp]; exact ha
  rw [List.mem_append, List.mem_singleton]
  by_cases hia : i = a
  ·subst hia
   rw [if_pos rfl]
   constructor
   ·rintro (hh | hh)
    ·exact absurd Z (g1 _ hh)
    injection hh with _ hh; rw [hh]
   intro hh; injection hh with hh; exact .inr (by rw [hh])
  rw [if_neg hia, ← h4]
  constructor
  ·rintro (hh | hh)
   ·exact hh
   injection hh with hh _; exact absurd hh hia
  exact .inl
 have hjl := (gS_ g1).1
 have hlen := h2.len
 have hej : ∃ e, es[j]? = some e ∧ e.key = K a := by
  have hj' : j < es.toList.length := by omega
  refine ⟨es.toList[j], by simp, ?_⟩
  have := congrArg (fun l => l[j]?) h2
  simp only [List.getElem?_map, g1, gE_ hj', Option.map_some, Option.some.injEq, Prod.mk.injEq] at this
  exact this.1
 obtain ⟨e, he, hek⟩ := hej
 refine ⟨.map (es.modify j fun e => { e with key := K a, val := v }) clk, ?_, ?_⟩
 ·have hst := hK.stays a ha w
  simp [execOp, ho, hx, hy, hz, Instr.mapUpdate, run_underlying ht, run_getM h1, hc, g2, he, hek, hst, run_setM _ h1]
 refine ⟨_, _, m.set j (a, v), heap_setB hlt, hB.modify j _ _, ?_, ?_, ?_, fun i u' => ?_⟩
 ·unfold EsK at h2 ⊢
  refine List.ext_getElem? fun i => ?_
  have hi := congrArg (fun l => l[i]?) h2
  simp only [List.getElem?_map, Array.getElem?_toList, Array.getElem?_modify, List.getElem?_set] at hi ⊢
  by_cases hij : j = i
  ·subst hij
   simp [he, hjl]
  simp only [hij, if_false]
  exact hi
 ·rw [List.map_set]
  have : (m.map (·.1)).set j a = m.map (·.1) := by
   refine List.ext_getElem? fun i => ?_
   rw [List.getElem?_set]
   by_cases hij : j = i
   ·subst hij
    have hmj := (gS_ g1).2
    simp [hjl, hmj]
   simp [hij]
  simpa [this] using h3
 ·intro p hp
  rcases List.mem_or_eq_of_mem_set hp with hp | rfl
  ·exact h5 p hp
  exact ha
 have key : (i, u') ∈ m.set j (a, v) ↔ (i = a ∧ u' = v) ∨ (i ≠ a ∧ (i, u') ∈ m) := by
  constructor
  ·intro hm
   obtain ⟨k, hk'⟩ := List.getElem?_of_mem hm
   rw [List.getElem?_set] at hk'
   by_cases hjk : j = k
   ·rw [if_pos hjk, if_pos hjl] at hk'
    injection hk' with hk'
    injection hk' with e1 e2
    exact .inl ⟨e1.symm, e2.symm⟩
   rw [if_neg hjk] at hk'
   refine .inr ⟨fun e1 => hjk ?_, gM_ hk'⟩
   subst e1
   exact keyK_inj h3 g1 hk'
  rintro (⟨rfl, rfl⟩ | ⟨hne, hm⟩)
  ·exact gM_ (i := j) (by rw [List.getElem?_set, if_pos rfl, if_pos hjl])
  obtain ⟨k, hk'⟩ := List.getElem?_of_mem hm
  have hjk : j ≠ k := fun e1 => by subst e1; rw [g1] at hk'; injection hk' with hk'; injection hk' with e1 _; exact hne e1.symm
  exact gM_ (i := k) (by rw [List.getElem?_set, if_neg hjk]; exact hk')
 rw [key]
 by_cases hia : i = a
 ·rw [if_pos hia]
  simp [hia, eq_comm]
 rw [if_neg hia, ← h4]
 simp [hia]
theorem WL_mapSetK (hK : KeyOk P kt ok K) (i : Nat) (hi : H[i]? = some (MapKE ok K b g)) (hI : Inv S w0 w H) (hw : wantedR ops ρ o = true) (hd : o.dst = none) (ho : o.op = .mapUpdate t x y z) (ht : P.underlying t = some (.map kt et)) (hx : ev ρ x = .map (some b)) (hy : ev ρ y = K a) (hz : ev ρ z = v) (ha : ok a)
  (h : ∀ w', Inv S w0 w' (H.set i (MapKE ok K b (fun j => if j = a then some v else g j))) → WL P N ops Q rest ρ w') : WL P N ops Q (o :: rest) ρ w := by
 have hM : MapKIs ok K w b g := (hI.ok _ (gM_ hi)).1
 obtain ⟨o', h1, h2⟩ := run_mapSetK (P := P) hK ho ht hx hy hz ha hM
 exact WL_store hw hd h1 (h _ (hI.upd i hi (chg_setB w b o') (MapKE.ok h2) (fun _ hk => .inl hk)))
end
section
variable {P : Program}
theorem find_agg {kt n : Nat} (hB : eqIntsB P kt n = true) {la : List Int} (ha : la.length = n) : ∀ (es : List MapEntry) (m : List (List Int × Value)) (i : Nat) (w : World), EsK (fun l => .agg (i64s l).toArray) es m → (∀ p ∈ m, p.1.length = n) →
  ((∀ p ∈ m, p.1 ≠ la) ∧ (Instr.findAsking kt (.agg (i64s la).toArray) es i).run P w = .ok none w) ∨ ∃ j v, m[j]? = some (la, v) ∧ (Instr.findAsking kt (.agg (i64s la).toArray) es i).run P w = .ok (some (i + j, v)) w
 | [], [], i, w, _, _ => .inl ⟨by simp, rfl⟩
 | [], _ :: _, i, w, h, _ => by simp [EsK] at h
 | _ :: _, [], i, w, h, _ => by simp [EsK] at h
 | e :: es, p :: m, i, w, h, hn => by
  simp only [EsK, List.map_cons, List.cons.injEq, Prod.mk.injEq] at h
  obtain ⟨⟨h1, h2⟩, h3⟩ := h
  have heq : (Op.equal kt (.agg (i64s la).toArray) e.key).run P w = .ok (decide (la = p.1)) w := by rw [h1]; exact run_equal_i64s hB ha (hn p (by simp))
  by_cases hp : la = p.1
  ·refine .inr ⟨0, p.2, by rw [hp]; rfl, ?_⟩
   rw [decide_eq_true hp] at heq
   simp [Instr.findAsking, heq, h2]
  rw [decide_eq_false hp] at heq
  rcases find_agg hB ha es m (i + 1) w h3 (fun q hq => hn q (by simp [hq])) with ⟨g1, g2⟩ | ⟨j, v, g1, g2⟩
  ·refine .inl ⟨fun x hx => ?_, ?_⟩
   ·rcases List.mem_cons.1 hx with rfl | hx
    ·exact fun e => hp e.symm
    exact g1 x hx
   simp [Instr.findAsking, heq, g2]
  refine .inr ⟨j + 1, v, by simpa using g1, ?_⟩
  simp [Instr.findAsking, heq, g2, show i + 1 + j = i + (j + 1) by omega]
theorem same_i64s (n : Nat) (la : List Int) : Instr.sameBits (n + 1) (.agg (i64s la).toArray) (.agg (i64s la).toArray) = true := by
 have h : ∀ l : List Int, ((i64s l).zip (i64s l)).all (fun (x, y) => Instr.sameBits n x y) = true := by
  intro l
  induction l with
  | nil => rfl
  | cons x l ih =>
   have e : i64s (x :: l) = .int .i64 x :: i64s l := rfl
   rw [e, List.zip_cons_cons, List.all_cons, ih]
   simp [Instr.sameBits]
 simp only [Instr.sameBits, beq_self_eq_true, Bool.true_and]
 exact h la
theorem keyInts {kt n : Nat} (hB : eqIntsB P kt n = true) (hc : ∀ (a : List Int), a.length = n → ∀ (em : Bool) (w : World), (Instr.checkKey em 10000 kt (.agg (i64s a).toArray)).run P w = .ok () w) : KeyOk P kt (fun l : List Int => l.length = n) (fun l => .agg (i64s l).toArray) := by
 refine ⟨fun a ha es m w hes hm => ?_, hc, fun a ha w => ?_⟩
 ·obtain ⟨fs, hfs⟩ : ∃ fs, P.underlying kt = some (.struct fs) := by
   unfold eqIntsB at hB
   split at hB
   ·exact ⟨_, by assumption⟩
   cases hB
  have h1 := find_agg hB ha es m 0 w hes hm
  have h2 : (Instr.findKey kt (.agg (i64s a).toArray) es).run P w = (Instr.findAsking kt (.agg (i64s a).toArray) es 0).run P w := by
   cases es with
   | nil => simp [Instr.findKey, run_underlying hfs, Instr.findNow, Instr.findAsking]
   | cons e es => simp [Instr.findKey, run_underlying hfs, Instr.findNow, Instr.sameNow]
  rw [h2]
  rcases h1 with h1 | ⟨j, v, h3, h4⟩
  ·exact .inl h1
  exact .inr ⟨j, v, h3, by rw [h4, Nat.zero_add]⟩
 simp [Instr.keyThatStays, same_i64s]
end
theorem keyInt {P : Program} {kt : TypeId} {q : IntKind} (hk : P.underlying kt = some (.int q)) : KeyOk P kt (fun _ : Int => True) (fun a => .int .i64 a) := by
 refine ⟨fun a _ es m w hes _ => ?_, fun a _ em w => check_int hk, fun a _ w => by simp [Instr.keyThatStays, Instr.sameBits]⟩
 rcases findNow_int (q := q) (a := a) es m 0 hes with ⟨g1, g2⟩ | ⟨j, v, g1, g2⟩
 ·exact .inl ⟨g1, by simp [Instr.findKey, run_underlying hk, g2]⟩
 exact .inr ⟨j, v, g1, by simp [Instr.findKey, run_underlying hk, g2]⟩
structure RngIs {κ : Type} (ok : κ → Prop) (K : κ → Value) (w : World) (b r : Nat) (g : κ → Option Value) (left : κ → Prop) (cnt : Nat) (cur : Option κ) : Prop where
 ex : ∃ (es : Array MapEntry) (clk : Nat) (m : List (κ × Value)) (since c0 : Nat) (seen : Array Nat), w.heap[b]? = some (.map es clk) ∧ BornOk es clk ∧ EsK K es.toList m ∧ (m.map (·.1)).Nodup ∧ (∀ p ∈ m, ok p.1) ∧ (∀ a v, (a, v) ∈ m ↔ g a = some v) ∧
  w.heap[r]? = some (.mapIter (some b) since seen c0) ∧ since = clk ∧ since ≤ c0 ∧ (leftOf es seen).size ≤ cnt ∧
  (∀ a, left a ↔ ∃ (j : Nat) (e : MapEntry) (v : Value), es.toList[j]? = some e ∧ m[j]? = some (a, v) ∧ seen.contains e.born = false) ∧
  (∀ a, cur = some a → ∃ (e : MapEntry) (v : Value) (seen0 : Array Nat), e ∈ es.toList ∧ g a = some v ∧ e.key = K a ∧ e.val = v ∧ seen = seen0.push e.born ∧ c0 = clk)
def RngE {κ : Type} (ok : κ → Prop) (K : κ → Value) (b r : Nat) (g : κ → Option Value) (left : κ → Prop) (cnt : Nat) (cur : Option κ) : Ent := ⟨fun k => k = b ∨ k = r, fun w => RngIs ok K w b r g left cnt cur⟩
section
variable {κ : Type} [DecidableEq κ] {ok : κ → Prop} {K : κ → Value} {P : Program} {N : Nat} {ops : Array Oper} {Q : XPost} {rest : List Oper} {ρ : Env} {o : Oper} {w0 w w' : World} {S : Nat → Prop} {H : List Ent} {d t kt et b r cnt : Nat} {x y z : Operand} {zv v : Value} {a : κ} {g : κ → Option Value} {left : κ → Prop} {cur : Option κ}
theorem rngE_ok (h : RngIs ok K w b r g left cnt cur) : (RngE ok K b r g left cnt cur).ok w := by
 refine Ent.mk_ok h (fun k hk => ?_) (fun S w1 w2 hc hS h1 => ?_)
 ·obtain ⟨es, clk, m, since, c0, seen, h1, _, _, _, _, _, h2, _⟩ := h.ex
  rcases hk with rfl | rfl
  ·exact (Array.getElem?_eq_some_iff.1 h1).1
  exact (Array.getElem?_eq_some_iff.1 h2).1
 obtain ⟨es, clk, m, since, c0, seen, q1, q2, q3, q4, q5, q6, q7, q8⟩ := h1.ex
 exact ⟨es, clk, m, since, c0, seen, (hc.block b (Array.getElem?_eq_some_iff.1 q1).1 (hS b (.inl Z))).trans q1, q2, q3, q4, q5, q6, (hc.block r (Array.getElem?_eq_some_iff.1 q7).1 (hS r (.inr Z))).trans q7, q8⟩
theorem RngIs.map (h : RngIs ok K w b r g left cnt cur) : MapKIs ok K w b g := by
 obtain ⟨es, clk, m, since, c0, seen, q1, q2, q3, q4, q5, q6, _⟩ := h.ex
 exact ⟨es, clk, m, q1, q2, q3, q4, q5, q6⟩
theorem Inv.rngOff (i : Nat) (hi : H[i]? = some (RngE ok K b r g left cnt cur)) (hI : Inv S w0 w H) : Inv S w0 w (H.set i (MapKE ok K b g)) :=
 hI.upd i hi (Chg.refl _ _) (MapKE.ok (hI.ok _ (gM_ hi)).1.map) (fun k hk => .inl (.inl hk))
theorem WL_rangeK (i : Nat) (hi : H[i]? = some (MapKE ok K b g)) (hI : Inv S w0 w H) (hw : wantedR ops ρ o = true) (hd : o.dst = some d) (hN : Nat.blt d N = true) (ho : o.op = .range t x) (ht : P.underlying t = some (.map kt et)) (hx : ev ρ x = .map (some b))
  (h : ∀ r cnt w', Inv S w0 w' (H.set i (RngE ok K b r g (fun a => (g a).isSome = true) cnt none)) → WL P N ops Q rest (upd ρ d (.pointer (some ⟨r, 0, none⟩))) w') : WL P N ops Q (o :: rest) ρ w := by
 have hM : MapKIs ok K w b g := (hI.ok _ (gM_ hi)).1
 obtain ⟨es, clk, m, q1, q2, q3, q4, q5, q6⟩ := hM.ex
 have hlt := (Array.getElem?_eq_some_iff.1 q1).1
 have hrun := run_range_map (P := P) w t kt et b es clk ht q1
 refine WL_eff hw hd hN (v := .pointer (some ⟨w.heap.size, 0, none⟩)) (w' := w.alloc (.mapIter (some b) clk #[] clk)) (by simp [execOp, ho, hx, hrun]) (h _ (leftOf es #[]).size _ (hI.upd i hi ((Chg.refl _ w).alloc _) (rngE_ok ⟨es, clk, m, clk, clk, #[], (heap_alloc_old w _ hlt).trans q1, q2, q3, q4, q5, q6, heap_alloc_new w _, Z, Nat.le_refl _, Nat.le_refl _, fun a => ?_, fun a h => by cases h⟩) (fun k hk => ?_)))
 ·constructor
  ·intro hs
   obtain ⟨v, hv⟩ := Option.isSome_iff_exists.1 hs
   obtain ⟨j, hj⟩ := List.getElem?_of_mem ((q6 a v).2 hv)
   have hjl := (gS_ hj).1
   have hjl2 : j < es.toList.length := by rw [q3.len]; exact hjl
   exact ⟨j, es.toList[j], v, gE_ hjl2, hj, by simp⟩
  rintro ⟨j, e, v, _, hj, _⟩
  rw [(q6 a v).1 (gM_ hj)]; rfl
 rcases hk with hk | hk
 ·exact .inl hk
 exact .inr (by omega)
theorem WL_nextK (i : Nat) (hi : H[i]? = some (RngE ok K b r g left cnt cur)) (hI : Inv S w0 w H) (hw : wantedR ops ρ o = true) (hd : o.dst = some d) (hN : Nat.blt d N = true) (ho : o.op = .next x false) (hx : ev ρ x = .pointer (some ⟨r, 0, none⟩))
  (hdone : (∀ a, ¬ left a) → WL P N ops Q rest (upd ρ d (.tuple #[.bool false])) w)
  (hnext : ∀ a v w', left a → g a = some v → 0 < cnt → Inv S w0 w' (H.set i (RngE ok K b r g (fun k => left k ∧ k ≠ a) (cnt - 1) (some a))) → WL P N ops Q rest (upd ρ d (.tuple #[.bool true, K a, v])) w') : WL P N ops Q (o :: rest) ρ w := by
 have hR : RngIs ok K w b r g left cnt cur := (hI.ok _ (gM_ hi)).1
 obtain ⟨es, clk, m, since, c0, seen, q1, q2, q3, q4, q5, q6, q7, q8, q9, q10, q11, _⟩ := hR.ex
 subst q8
 have hne : r ≠ b := fun e => by rw [e, q1] at q7; cases q7
 rcases run_next_at (P := P) w o.type r b since c0 seen es since q7 q1 q2.1 q9 with ⟨h0, hrun⟩ | ⟨e, he, w1, hw1, hrun⟩
 ·refine WL_eff hw hd hN (v := .tuple #[.bool false]) (w' := w) (by simp [execOp, ho, hx, hrun]) (hdone fun a ha => ?_)
  obtain ⟨j, e, v, hj, _, hs⟩ := (q11 a).1 ha
  have hm : e ∈ leftOf es seen := by
   unfold leftOf
   rw [Array.mem_filter]
   exact ⟨by simpa using gM_ hj, by simpa using hs⟩
  have := Array.size_pos_of_mem hm
  omega
 have he' : e ∈ leftOf es seen := by simpa using he
 have hmf : e ∈ es ∧ (!seen.contains e.born) = true := by
  unfold leftOf at he'
  rw [Array.mem_filter] at he'
  exact he'
 have hel : e ∈ es.toList := by simpa using hmf.1
 obtain ⟨j, hj⟩ := List.getElem?_of_mem hel
 have hjl := (gS_ hj).1
 have hjm : j < m.length := by rw [← q3.len]; exact hjl
 obtain ⟨a, v, hmj⟩ : ∃ a v, m[j]? = some (a, v) := ⟨m[j].1, m[j].2, by rw [gE_ hjm]⟩
 have hkv : e.key = K a ∧ e.val = v := by
  have := congrArg (fun l => l[j]?) q3
  simp only [List.getElem?_map, hj, hmj, Option.map_some, Option.some.injEq, Prod.mk.injEq] at this
  exact this
 have hga : g a = some v := (q6 a v).1 (gM_ hmj)
 have hsz : (leftOf es (seen.push e.born)).size < (leftOf es seen).size := by
  have e1 : leftOf es (seen.push e.born) = (leftOf es seen).filter (fun x => !(x.born == e.born)) := by
   unfold leftOf
   rw [Array.filter_filter]
   congr 1
   funext x
   rw [Array.contains_push]
   cases x.born == e.born <;> cases seen.contains x.born <;> rfl
  have h2 := List.length_filter_lt_length_iff_exists (p := fun x : MapEntry => !(x.born == e.born)) (l := (leftOf es seen).toList)
  have h3 := h2.2 ⟨e, he, by simp⟩
  have h4 : ((leftOf es seen).filter (fun x => !(x.born == e.born))).toList.length < (leftOf es seen).toList.length := by rw [Array.toList_filter]; exact h3
  rw [Array.length_toList, Array.length_toList, ← e1] at h4
  exact h4
 have h1r : w1.heap = w.heap := by rcases hw1 with rfl | rfl <;> rfl
 have hlt : r < w.heap.size := (Array.getElem?_eq_some_iff.1 q7).1
 refine WL_eff hw hd hN (v := .tuple #[.bool true, e.key, e.val]) (w' := ChangeMaps.setBlock w1 r (.mapIter (some b) since (seen.push e.born) since)) (by simp [execOp, ho, hx, hrun]) ?_
 rw [hkv.1, hkv.2]
 refine hnext a v _ ((q11 a).2 ⟨j, e, v, hj, hmj, by simpa using hmf.2⟩) hga (by omega) ?_
 have hc : Chg (RngE ok K b r g left cnt cur).D w w1 := by rcases hw1 with rfl | rfl <;> first | exact Chg.refl _ _ | exact (Chg.refl _ w).drew
 have hc2 : Chg (RngE ok K b r g left cnt cur).D w1 (ChangeMaps.setBlock w1 r (.mapIter (some b) since (seen.push e.born) since)) :=
  ⟨rfl, rfl, rfl, by simp [ChangeMaps.setBlock], fun k hk hs => by
   have : r ≠ k := fun e => hs (.inr e.symm)
   simp [ChangeMaps.setBlock, Array.getElem?_setIfInBounds, this]⟩
 refine hI.upd i hi (hc.trans' hc2 (fun _ _ h => h)) (rngE_ok ⟨es, since, m, since, since, seen.push e.born, ?_, q2, q3, q4, q5, q6, ?_, Z, Nat.le_refl _, by omega, fun k => ?_, fun k hk => ?_⟩) (fun k hk => .inl hk)
 ·show (w1.heap.setIfInBounds r _)[b]? = _
  rw [h1r, Array.getElem?_setIfInBounds, if_neg hne]
  exact q1
 ·show (w1.heap.setIfInBounds r _)[r]? = _
  rw [h1r, Array.getElem?_setIfInBounds, if_pos rfl, if_pos hlt]
 ·constructor
  ·rintro ⟨hk, hne2⟩
   obtain ⟨j', e', v', g1, g2, g3⟩ := (q11 k).1 hk
   refine ⟨j', e', v', g1, g2, ?_⟩
   rw [Array.contains_push, g3, Bool.false_or]
   cases hbb : e'.born == e.born with
   | false => rfl
   | true =>
    exfalso
    have hb' : e'.born = e.born := by simpa using hbb
    have i1 : (es.toList.map (·.born))[j']? = some e.born := by simp [g1, hb']
    have i2 : (es.toList.map (·.born))[j]? = some e.born := by simp [hj]
    have hjj : j' = j := (List.getElem?_inj (gS_ i1).1 q2.2).1 (i1.trans i2.symm)
    subst hjj
    rw [hmj] at g2
    injection g2 with g2
    injection g2 with g2 _
    exact hne2 g2.symm
  rintro ⟨j', e', v', g1, g2, g3⟩
  rw [Array.contains_push, Bool.or_eq_false_iff] at g3
  refine ⟨(q11 k).2 ⟨j', e', v', g1, g2, g3.1⟩, fun e3 => ?_⟩
  subst e3
  have hjj := keyK_inj q4 g2 hmj
  subst hjj
  rw [hj] at g1
  injection g1 with g1
  subst g1
  simp at g3
 injection hk with hk
 subst hk
 exact ⟨e, v, seen, hel, hga, hkv.1, hkv.2, Z, Z⟩
theorem rEntryK (hv : g a = some v) (ho : o.op = .entry x) (hx : ev ρ x = .pointer (some ⟨r, 0, none⟩)) (hR : RngIs ok K w b r g left cnt (some a)) : Runs P ρ o w (.tuple #[K a, v]) := by
 obtain ⟨es, clk, m, since, c0, seen, q1, q2, q3, q4, q5, q6, q7, q8, q9, q10, q11, q12⟩ := hR.ex
 obtain ⟨e, v', seen0, g1, g2, g3, g4, g5, g6⟩ := q12 a rfl
 subst g5 g6
 have := run_entry_at (P := P) w r b since seen0 es c0 e q7 q1 g1 q2.2
 rw [hv] at g2
 injection g2 with g2
 subst g2
 rw [g3, g4] at this
 simp [Runs, execOp, ho, hx, this]
end
end Go.Proofs.YtnckdmogdehnoaaGreatDoor
