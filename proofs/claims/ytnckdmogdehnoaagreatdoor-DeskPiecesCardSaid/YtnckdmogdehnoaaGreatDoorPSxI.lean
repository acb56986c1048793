/- Part of the proof that a desk answers in pieces. -/
import Derived.Test.YtnckdmogdehnoaaGreatDoorSxA
import Derived.Scope
import Derived.RangeFuncRecord
import Derived.RangeFuncSeq
import Derived.OrdersIn
import Derived.ControlIn
import Derived.TacticsIn
set_option linter.unusedVariables false
set_option linter.unusedSimpArgs false
namespace Go.Proofs.YtnckdmogdehnoaaGreatDoor
open Go
variable {a : Act} {args : Array Value} {c x y : Code} {R : Ending → World → Prop} {Q : Exit → Act → World → Prop} {fn : Func} {f : FuncId} {xs : List Value} {b base e id l n s : Nat} {P : Program} {v : Value} {w : World}
theorem run_getM {r c : Nat} {es : Array MapEntry} (h : w.heap[r]? = some (.map es c)) : (getObj r).run P w = .ok (.map es c) w := by simp [getObj, Sem.run, h]
def setB (w : World) (r : Nat) (o : Obj) : World := { w with heap := w.heap.setIfInBounds r o }
theorem run_setM {r c : Nat} {es : Array MapEntry} (o : Obj) (h : w.heap[r]? = some (.map es c)) : (setObj r o).run P w = .ok () (setB w r o) := by simp [setObj, Sem.run, h, setB]
def EsIs (es : List MapEntry) (m : List (Int × Value)) : Prop := es.map (fun e => (e.key, e.val)) = m.map (fun p => (Value.int .i64 p.1, p.2))
theorem EsIs.len {es : List MapEntry} {m : List (Int × Value)} (h : EsIs es m) : es.length = m.length := by
 have := congrArg List.length h
 simpa using this
theorem findNow_int {q : IntKind} {a : Int} : ∀ (es : List MapEntry) (m : List (Int × Value)) (i : Nat), EsIs es m →
  ((∀ p ∈ m, p.1 ≠ a) ∧ Instr.findNow (.int q) (.int .i64 a) es i = some none) ∨ ∃ j v, m[j]? = some (a, v) ∧ Instr.findNow (.int q) (.int .i64 a) es i = some (some (i + j, v))
 | [], [], i, _ => .inl ⟨by simp, rfl⟩
 | [], _ :: _, i, h => by simp [EsIs] at h
 | _ :: _, [], i, h => by simp [EsIs] at h
 | e :: es, p :: m, i, h => by
  simp only [EsIs, List.map_cons, List.cons.injEq, Prod.mk.injEq] at h
  obtain ⟨⟨h1, h2⟩, h3⟩ := h
  by_cases hp : p.1 = a
  ·refine .inr ⟨0, p.2, by rw [← hp]; rfl, ?_⟩
   simp [Instr.findNow, h1, Instr.sameNow, hp, h2]
  have hne : (a == p.1) = false := by simpa using fun e => hp e.symm
  rcases findNow_int es m (i + 1) h3 with ⟨g1, g2⟩ | ⟨j, v, g1, g2⟩
  ·refine .inl ⟨fun x hx => ?_, ?_⟩
   ·rcases List.mem_cons.1 hx with rfl | hx
    ·exact hp
    exact g1 x hx
   simp only [Instr.findNow, h1, Instr.sameNow, if_true, hne]
   exact g2
  refine .inr ⟨j + 1, v, by simpa using g1, ?_⟩
  simp only [Instr.findNow, h1, Instr.sameNow, if_true, hne]
  rw [g2, show i + 1 + j = i + (j + 1) by omega]
structure MapIs (w : World) (b : Nat) (g : Int → Option Value) : Prop where
 ex : ∃ (es : Array MapEntry) (clk : Nat) (m : List (Int × Value)), w.heap[b]? = some (.map es clk) ∧ EsIs es.toList m ∧ (m.map (·.1)).Nodup ∧ ∀ a v, (a, v) ∈ m ↔ g a = some v
def MapE (b : Nat) (g : Int → Option Value) : Ent := ⟨fun k => k = b, fun w => MapIs w b g⟩
theorem MapE.ok {g : Int → Option Value} (h : MapIs w b g) : (MapE b g).ok w := by
 refine Ent.mk_ok h (fun k hk => ?_) (fun S w1 w2 hc hS h1 => ?_)
 ·obtain ⟨es, clk, m, h1, _⟩ := h.ex
  have : k = b := hk
  subst this
  rcases Nat.lt_or_ge k w.heap.size with h2 | h2
  ·exact h2
  simp [Array.getElem?_eq_none h2] at h1
 obtain ⟨es, clk, m, h2, h3⟩ := h1.ex
 have hlt : b < w1.heap.size := by
  rcases Nat.lt_or_ge b w1.heap.size with h4 | h4
  ·exact h4
  simp [Array.getElem?_eq_none h4] at h2
 exact ⟨es, clk, m, (hc.block b hlt (hS b Z)).trans h2, h3⟩
theorem key_inj {m : List (Int × Value)} (hn : (m.map (·.1)).Nodup) {i j : Nat} {a : Int} {u : Value} (hi : m[i]? = some (a, u)) (hj : m[j]? = some (a, v)) : i = j := by
 have h1 : (m.map (·.1))[i]? = some a := by simp [hi]
 have h2 : (m.map (·.1))[j]? = some a := by simp [hj]
 exact (List.getElem?_inj (gS_ h1).1 hn).1 (h1.trans h2.symm)
theorem heap_setB {o : Obj} (h : b < w.heap.size) : (setB w b o).heap[b]? = some o := by simp [setB, h]
theorem chg_setB (w : World) (b : Nat) (o : Obj) : Chg (fun k => k = b) w (setB w b o) :=
 ⟨rfl, rfl, rfl, by simp [setB], fun k hk hs => by
  have : b ≠ k := fun e => hs e.symm
  simp [setB, Array.getElem?_setIfInBounds, this]⟩
section
variable {P : Program} {N : Nat} {ops : Array Oper} {Q : XPost} {rest : List Oper} {ρ : Env} {o : Oper} {w0 w w' : World} {S : Nat → Prop} {H : List Ent} {d t kt et b : Nat} {q : IntKind} {g : Int → Option Value} {x y z : Operand} {a : Int} {v zv : Value}
theorem WL_mkMap (hI : Inv S w0 w H) (hw : wantedR ops ρ o = true) (hd : o.dst = some d) (hN : Nat.blt d N = true) (ho : o.op = .makeMap t none)
  (h : ∀ b w', Inv S w0 w' (MapE b (fun _ => none) :: H) → WL P N ops Q rest (upd ρ d (.map (some b))) w') : WL P N ops Q (o :: rest) ρ w :=
 WL_eff hw hd hN (v := .map (some w.heap.size)) (w' := w.alloc (.map #[] 0)) (by simp [execOp, ho, Instr.makeMap])
  (h _ _ (hI.fresh ((Pure.refl w).alloc _) (MapE.ok ⟨#[], 0, [], by show (w.heap.push _)[w.heap.size]? = _; simp, rfl, by simp, by simp⟩) (fun k hk => by have : k = w.heap.size := hk; omega)))
theorem check_int {em : Bool} (hk : P.underlying kt = some (.int q)) : (Instr.checkKey em 10000 kt (.int .i64 a)).run P w = .ok () w := by
 show (Instr.checkKey em (Nat.succ 9999) kt (.int .i64 a)).run P w = .ok () w
 rw [Instr.checkKey]
 simp [run_underlying hk]
theorem rLook (ho : o.op = .lookup t x y true) (ht : P.underlying t = some (.map kt et)) (hk : P.underlying kt = some (.int q)) (hz : (P.info? et).bind (·.zero) = some zv) (hx : ev ρ x = .map (some b)) (hy : ev ρ y = .int .i64 a) (hM : MapIs w b g) :
  Runs P ρ o w (.tuple #[(g a).getD zv, .bool (g a).isSome]) := by
 obtain ⟨es, clk, m, h1, h2, h3, h4⟩ := hM.ex
 have hzv : (zeroValue et).run P w = .ok zv w := by
  cases hi : P.info? et with
  | none => simp [hi] at hz
  | some i => simp only [hi, Option.bind_some] at hz; simp [zeroValue, typeInfo, hi, hz]
 have hc := check_int (P := P) (w := w) (a := a) (em := es.isEmpty) hk
 rcases findNow_int (q := q) (a := a) es.toList m 0 h2 with ⟨g1, g2⟩ | ⟨j, u, g1, g2⟩
 ·have hg : g a = none := by
   cases hga : g a with
   | none => rfl
   | some u => exact absurd rfl (g1 _ ((h4 a u).2 hga))
  simp [Runs, execOp, ho, hx, hy, Instr.lookup, run_underlying ht, run_getM h1, hc, Instr.findKey, run_underlying hk, g2, hzv, hg]
 have hg : g a = some u := (h4 a u).1 (gM_ g1)
 simp [Runs, execOp, ho, hx, hy, Instr.lookup, run_underlying ht, run_getM h1, hc, Instr.findKey, run_underlying hk, g2, hg]
theorem rLook1 (ho : o.op = .lookup t x y false) (ht : P.underlying t = some (.map kt et)) (hk : P.underlying kt = some (.int q)) (hz : (P.info? et).bind (·.zero) = some zv) (hx : ev ρ x = .map (some b)) (hy : ev ρ y = .int .i64 a) (hM : MapIs w b g) :
  Runs P ρ o w ((g a).getD zv) := by
 obtain ⟨es, clk, m, h1, h2, h3, h4⟩ := hM.ex
 have hzv : (zeroValue et).run P w = .ok zv w := by
  cases hi : P.info? et with
  | none => simp [hi] at hz
  | some i => simp only [hi, Option.bind_some] at hz; simp [zeroValue, typeInfo, hi, hz]
 have hc := check_int (P := P) (w := w) (a := a) (em := es.isEmpty) hk
 rcases findNow_int (q := q) (a := a) es.toList m 0 h2 with ⟨g1, g2⟩ | ⟨j, u, g1, g2⟩
 ·have hg : g a = none := by
   cases hga : g a with
   | none => rfl
   | some u => exact absurd rfl (g1 _ ((h4 a u).2 hga))
  simp [Runs, execOp, ho, hx, hy, Instr.lookup, run_underlying ht, run_getM h1, hc, Instr.findKey, run_underlying hk, g2, hzv, hg]
 have hg : g a = some u := (h4 a u).1 (gM_ g1)
 simp [Runs, execOp, ho, hx, hy, Instr.lookup, run_underlying ht, run_getM h1, hc, Instr.findKey, run_underlying hk, g2, hg]
theorem run_mapSet (ho : o.op = .mapUpdate t x y z) (ht : P.underlying t = some (.map kt et)) (hk : P.underlying kt = some (.int q)) (hx : ev ρ x = .map (some b)) (hy : ev ρ y = .int .i64 a) (hz : ev ρ z = v) (hM : MapIs w b g) :
  ∃ o', (execOp (ev ρ) o).run P w = .ok .skip (setB w b o') ∧ MapIs (setB w b o') b (fun i => if i = a then some v else g i) := by
 obtain ⟨es, clk, m, h1, h2, h3, h4⟩ := hM.ex
 have hlt : b < w.heap.size := by
  rcases Nat.lt_or_ge b w.heap.size with h5 | h5
  ·exact h5
  simp [Array.getElem?_eq_none h5] at h1
 have hc := check_int (P := P) (w := w) (a := a) (em := false) hk
 rcases findNow_int (q := q) (a := a) es.toList m 0 h2 with ⟨g1, g2⟩ | ⟨j, u, g1, g2⟩
 ·refine ⟨.map (es.push { key := Y a, val := v, born := clk }) (clk + 1), ?_, ?_⟩
  ·simp [execOp, ho, hx, hy, hz, Instr.mapUpdate, run_underlying ht, run_getM h1, hc, Instr.findKey, run_underlying hk, g2, run_setM _ h1]
  refine ⟨_, _, m ++ [(a, v)], heap_setB hlt, ?_, ?_, fun i u => ?_⟩
  ·unfold EsIs at h2 ⊢
   simp [h2]
  ·rw [List.map_append, List.nodup_append]
   refine ⟨h3, by simp, fun i hi j hj => ?_⟩
   simp only [List.map_cons, List.map_nil, List.mem_singleton] at hj
   obtain ⟨p, hp, rfl⟩ := List.mem_map.1 hi
   rw [hj]
   exact g1 p hp
  rw [List.mem_append, List.mem_singleton]
  by_cases hia : i = a
  ·subst hia
   rw [if_pos rfl]
   constructor
   ·rintro (hh | hh)
    ·exact absurd Z (g1 _ hh)
    injection hh with _ hh; rw [hh]
   intro hh; injection hh with hh; exact .inr (by rw [hh])
  rw [if_neg hia, ← h4]
  constructor
  ·rintro (hh | hh)
   ·exact hh
   injection hh with hh _; exact absurd hh hia
  exact .inl
 have hjl := (gS_ g1).1
 have hlen := h2.len
 have hej : ∃ e, es[j]? = some e ∧ e.key = .int .i64 a := by
  have hj' : j < es.toList.length := by omega
  refine ⟨es.toList[j], by simp, ?_⟩
  have := congrArg (fun l => l[j]?) h2
  simp only [List.getElem?_map, g1, gE_ hj', Option.map_some, Option.some.injEq, Prod.mk.injEq] at this
  exact this.1
 obtain ⟨e, he, hek⟩ := hej
 refine ⟨.map (es.modify j fun e => { e with key := Y a, val := v }) clk, ?_, ?_⟩
 ·have hst : (Instr.keyThatStays (.int .i64 a) (.int .i64 a)).run P w = .ok (.int .i64 a) w := by simp [Instr.keyThatStays, Instr.sameBits]
  simp [execOp, ho, hx, hy, hz, Instr.mapUpdate, run_underlying ht, run_getM h1, hc, Instr.findKey, run_underlying hk, g2, he, hek, hst, run_setM _ h1]
 refine ⟨_, _, m.set j (a, v), heap_setB hlt, ?_, ?_, fun i u' => ?_⟩
 ·unfold EsIs at h2 ⊢
  refine List.ext_getElem? fun i => ?_
  have hi := congrArg (fun l => l[i]?) h2
  simp only [List.getElem?_map, Array.getElem?_toList, Array.getElem?_modify, List.getElem?_set] at hi ⊢
  by_cases hij : j = i
  ·subst hij
   simp [he, hjl]
  simp only [hij, if_false]
  exact hi
 ·rw [List.map_set]
  have : (m.map (·.1)).set j a = m.map (·.1) := by
   refine List.ext_getElem? fun i => ?_
   rw [List.getElem?_set]
   by_cases hij : j = i
   ·subst hij
    have hmj := (gS_ g1).2
    simp [hjl, hmj]
   simp [hij]
  simpa [this] using h3
 have key : (i, u') ∈ m.set j (a, v) ↔ (i = a ∧ u' = v) ∨ (i ≠ a ∧ (i, u') ∈ m) := by
  constructor
  ·intro hm
   obtain ⟨k, hk'⟩ := List.getElem?_of_mem hm
   rw [List.getElem?_set] at hk'
   by_cases hjk : j = k
   ·rw [if_pos hjk, if_pos hjl] at hk'
    injection hk' with hk'
    injection hk' with e1 e2
    exact .inl ⟨e1.symm, e2.symm⟩
   rw [if_neg hjk] at hk'
   refine .inr ⟨fun e1 => hjk ?_, gM_ hk'⟩
   subst e1
   exact key_inj h3 g1 hk'
  rintro (⟨rfl, rfl⟩ | ⟨hne, hm⟩)
  ·exact gM_ (i := j) (by rw [List.getElem?_set, if_pos rfl, if_pos hjl])
  obtain ⟨k, hk'⟩ := List.getElem?_of_mem hm
  have hjk : j ≠ k := fun e1 => by subst e1; rw [g1] at hk'; injection hk' with hk'; injection hk' with e1 _; exact hne e1.symm
  exact gM_ (i := k) (by rw [List.getElem?_set, if_neg hjk]; exact hk')
 rw [key]
 by_cases hia : i = a
 ·rw [if_pos hia]
  simp [hia, eq_comm]
 rw [if_neg hia, ← h4]
 simp [hia]
theorem WL_mapSet (i : Nat) (hi : H[i]? = some (MapE b g)) (hI : Inv S w0 w H) (hw : wantedR ops ρ o = true) (hd : o.dst = none) (ho : o.op = .mapUpdate t x y z) (ht : P.underlying t = some (.map kt et)) (hk : P.underlying kt = some (.int q)) (hx : ev ρ x = .map (some b)) (hy : ev ρ y = .int .i64 a) (hz : ev ρ z = v)
  (h : ∀ w', Inv S w0 w' (H.set i (MapE b (fun j => if j = a then some v else g j))) → WL P N ops Q rest ρ w') : WL P N ops Q (o :: rest) ρ w := by
 have hM : MapIs w b g := (hI.ok _ (gM_ hi)).1
 obtain ⟨o', h1, h2⟩ := run_mapSet (P := P) ho ht hk hx hy hz hM
 exact WL_store hw hd h1 (h _ (hI.upd i hi (chg_setB w b o') (MapE.ok h2) (fun _ hk => .inl hk)))
theorem run_mapDel (ho : o.op = .call { callee := .builtin .delete, args := #[x, y], argTypes := #[t, kt] }) (ht : P.underlying t = some (.map kt et)) (hk : P.underlying kt = some (.int q)) (hx : ev ρ x = .map (some b)) (hy : ev ρ y = .int .i64 a) (hM : MapIs w b g) :
  ∃ o', (execOp (ev ρ) o).run P w = .ok (.value (.tuple #[])) (setB w b o') ∧ MapIs (setB w b o') b (fun i => if i = a then none else g i) := by
 obtain ⟨es, clk, m, h1, h2, h3, h4⟩ := hM.ex
 have hlt : b < w.heap.size := by
  rcases Nat.lt_or_ge b w.heap.size with h5 | h5
  ·exact h5
  simp [Array.getElem?_eq_none h5] at h1
 have hc := check_int (P := P) (w := w) (a := a) (em := es.isEmpty) hk
 rcases findNow_int (q := q) (a := a) es.toList m 0 h2 with ⟨g1, g2⟩ | ⟨j, u, g1, g2⟩
 ·refine ⟨.map es clk, ?_, _, _, m, heap_setB hlt, h2, h3, fun i u => ?_⟩
  ·simp [execOp, ho, resolve, invoke, builtin, hx, hy, Builtin.delete_, run_underlying ht, run_getM h1, hc, Instr.findKey, run_underlying hk, g2, run_setM _ h1]
  by_cases hia : i = a
  ·rw [if_pos hia]
   constructor
   ·intro hh; exact absurd hia (g1 _ hh)
   intro hh; cases hh
  rw [if_neg hia]; exact h4 i u
 have hjl := (gS_ g1).1
 have hlen := h2.len
 have hje : j < es.size := by
  have : es.size = m.length := by simpa using hlen
  omega
 refine ⟨.map (es.eraseIdxIfInBounds j) clk, ?_, _, _, m.eraseIdx j, heap_setB hlt, ?_, ?_, fun i u' => ?_⟩
 ·simp [execOp, ho, resolve, invoke, builtin, hx, hy, Builtin.delete_, run_underlying ht, run_getM h1, hc, Instr.findKey, run_underlying hk, g2, run_setM _ h1]
 ·unfold EsIs at h2 ⊢
  have : (es.eraseIdxIfInBounds j).toList = es.toList.eraseIdx j := by simp [Array.eraseIdxIfInBounds, hje]
  rw [this]
  simp only [List.eraseIdx_eq_take_drop_succ, List.map_append, List.map_take, List.map_drop, h2]
 ·exact (List.Sublist.map _ (List.eraseIdx_sublist ..)).nodup h3
 rw [List.mem_eraseIdx_iff_getElem?]
 by_cases hia : i = a
 ·rw [if_pos hia]
  constructor
  ·rintro ⟨k, hkj, hk'⟩
   subst hia
   exact absurd (key_inj h3 g1 hk') (fun e1 => hkj e1.symm)
  intro hh; cases hh
 rw [if_neg hia, ← h4]
 constructor
 ·rintro ⟨k, _, hk'⟩; exact gM_ hk'
 intro hm
 obtain ⟨k, hk'⟩ := List.getElem?_of_mem hm
 exact ⟨k, fun e1 => by subst e1; rw [g1] at hk'; injection hk' with hk'; injection hk' with e1 _; exact hia e1.symm, hk'⟩
theorem WL_mapDel (i : Nat) (hi : H[i]? = some (MapE b g)) (hI : Inv S w0 w H) (hw : wantedR ops ρ o = true) (hd : o.dst = none) (ho : o.op = .call { callee := .builtin .delete, args := #[x, y], argTypes := #[t, kt] }) (ht : P.underlying t = some (.map kt et)) (hk : P.underlying kt = some (.int q)) (hx : ev ρ x = .map (some b)) (hy : ev ρ y = .int .i64 a)
  (h : ∀ w', Inv S w0 w' (H.set i (MapE b (fun j => if j = a then none else g j))) → WL P N ops Q rest ρ w') : WL P N ops Q (o :: rest) ρ w := by
 have hM : MapIs w b g := (hI.ok _ (gM_ hi)).1
 obtain ⟨o', h1, h2⟩ := run_mapDel (P := P) ho ht hk hx hy hM
 exact WL_eff0 hw hd h1 (h _ (hI.upd i hi (chg_setB w b o') (MapE.ok h2) (fun _ hk => .inl hk)))
end
open Go
theorem at_mul {k : Nat} (h : w.cell? ⟨b, k, none⟩ = some v) : w.cell? ⟨b, 0 + k * 1, none⟩ = some v := by simpa using h
section
variable {P : Program} {ρ : Env} {o : Oper} {w : World} {x y z : Operand} {v : Value} {t t' : TypeId}
end
open Go
section
variable {P : Program} {N : Nat} {ops : Array Oper} {Q : XPost} {rest : List Oper} {ρ : Env} {o : Oper} {w0 w w' : World} {S : Nat → Prop} {H : List Ent} {d g t tt : Nat} {cs : Array Value} {v : Value}
end
open Go
def Ent.nil : Ent := ⟨fun _ => False, fun _ => True⟩
theorem Ent.nil_ok (w : World) : Ent.nil.ok w := ⟨trivial, fun _ h => h.elim, fun _ _ _ _ _ _ => trivial⟩
def apartN (n : Nat) (es : Nat → Ent) : Prop := ∀ i j, i < n → j < n → i ≠ j → ∀ k, (es i).D k → ¬ (es j).D k
def Many (n : Nat) (es : Nat → Ent) : Ent := ⟨fun k => ∃ i, i < n ∧ (es i).D k, fun w => (∀ i, i < n → (es i).ok w) ∧ apartN n es⟩
theorem Many.ok {es : Nat → Ent} (h : ∀ i, i < n → (es i).ok w) (ha : apartN n es) : (Many n es).ok w :=
 ⟨⟨h, ha⟩, fun k ⟨i, hi, hk⟩ => (h i hi).2.1 k hk, fun S w1 w2 hc hS h1 => ⟨fun i hi => (h1.1 i hi).chg hc (fun k hk => hS k ⟨i, hi, hk⟩), ha⟩⟩
section
variable {S : Nat → Prop} {w0 w : World} {H : List Ent} {e : Ent} {n i : Nat} {es : Nat → Ent}
theorem Inv.ent_nil (h : Inv S w0 w H) : Inv S w0 w (Ent.nil :: H) := h.fresh (Pure.refl w) (Ent.nil_ok w) (fun _ h => h.elim)
theorem Inv.many_nil (h : Inv S w0 w H) (es : Nat → Ent) : Inv S w0 w (Many 0 es :: H) :=
 h.fresh (Pure.refl w) (Many.ok (fun i hi => absurd hi (Nat.not_lt_zero i)) (fun i j hi => absurd hi (Nat.not_lt_zero i))) (fun k hk => by obtain ⟨i, hi, _⟩ := hk; exact absurd hi (Nat.not_lt_zero i))
theorem Inv.many_out (h : Inv S w0 w (Many n es :: H)) (hi : i < n) : Inv S w0 w (es i :: Many n (fun j => if j = i then Ent.nil else es j) :: H) := by
 have hm := h.ok (Many n es) (by simp)
 have hp := List.pairwise_cons.1 h.apart
 have hD : ∀ k, (Many n (fun j => if j = i then Ent.nil else es j)).D k → (Many n es).D k ∧ ¬ (es i).D k := by
  rintro k ⟨j, hj, hk⟩
  by_cases hji : j = i
  ·simp only [if_pos hji] at hk; exact hk.elim
  simp only [if_neg hji] at hk; exact ⟨⟨j, hj, hk⟩, hm.1.2 j i hj hi hji k hk⟩
 refine ⟨h.chg, fun x hx => ?_, fun x hx k hk => ?_, List.pairwise_cons.2 ⟨fun x hx k hk hxk => ?_, List.pairwise_cons.2 ⟨fun x hx k hk => hp.1 x hx k (hD k hk).1, hp.2⟩⟩⟩
 ·rcases List.mem_cons.1 hx with rfl | hx
  ·exact hm.1.1 i hi
  rcases List.mem_cons.1 hx with rfl | hx
  ·refine Many.ok (fun j hj => ?_) (fun a b ha hb hab k h1 h2 => ?_)
   ·by_cases hji : j = i
    ·simp only [if_pos hji]; exact Ent.nil_ok w
    simp only [if_neg hji]; exact hm.1.1 j hj
   by_cases hai : a = i
   ·simp only [if_pos hai] at h1; exact h1.elim
   by_cases hbi : b = i
   ·simp only [if_pos hbi] at h2; exact h2.elim
   simp only [if_neg hai] at h1; simp only [if_neg hbi] at h2; exact hm.1.2 a b ha hb hab k h1 h2
  exact h.ok x (by simp [hx])
 ·rcases List.mem_cons.1 hx with rfl | hx
  ·exact h.own (Many n es) (by simp) k ⟨i, hi, hk⟩
  rcases List.mem_cons.1 hx with rfl | hx
  ·exact h.own (Many n es) (by simp) k (hD k hk).1
  exact h.own x (by simp [hx]) k hk
 rcases List.mem_cons.1 hx with rfl | hx
 ·exact (hD k hxk).2 hk
 exact hp.1 x hx k ⟨i, hi, hk⟩ hxk
theorem Inv.many_in (h : Inv S w0 w (e :: Many n es :: H)) (hi : i < n) (hn : es i = Ent.nil) : Inv S w0 w (Many n (fun j => if j = i then e else es j) :: H) := by
 have hm := h.ok (Many n es) (by simp)
 have he := h.ok e (by simp)
 have hp := List.pairwise_cons.1 h.apart
 have hp2 := List.pairwise_cons.1 hp.2
 have hD : ∀ k, (Many n (fun j => if j = i then e else es j)).D k → e.D k ∨ (Many n es).D k := by
  rintro k ⟨j, hj, hk⟩
  by_cases hji : j = i
  ·simp only [if_pos hji] at hk; exact .inl hk
  simp only [if_neg hji] at hk; exact .inr ⟨j, hj, hk⟩
 have hap : apartN n (fun j => if j = i then e else es j) := by
  intro a b ha hb hab k h1 h2
  by_cases hai : a = i
  ·by_cases hbi : b = i
   ·exact hab (hai.trans hbi.symm)
   simp only [if_pos hai] at h1; simp only [if_neg hbi] at h2
   exact hp.1 (Many n es) (by simp) k h1 ⟨b, hb, h2⟩
  by_cases hbi : b = i
  ·simp only [if_neg hai] at h1; simp only [if_pos hbi] at h2
   exact hp.1 (Many n es) (by simp) k h2 ⟨a, ha, h1⟩
  simp only [if_neg hai] at h1; simp only [if_neg hbi] at h2; exact hm.1.2 a b ha hb hab k h1 h2
 refine ⟨h.chg, fun x hx => ?_, fun x hx k hk => ?_, List.pairwise_cons.2 ⟨fun x hx k hk => ?_, hp2.2⟩⟩
 ·rcases List.mem_cons.1 hx with rfl | hx
  ·refine Many.ok (fun j hj => ?_) hap
   by_cases hji : j = i
   ·simp only [if_pos hji]; exact he
   simp only [if_neg hji]; exact hm.1.1 j hj
  exact h.ok x (by simp [hx])
 ·rcases List.mem_cons.1 hx with rfl | hx
  ·rcases hD k hk with hk | hk
   ·exact h.own e (by simp) k hk
   exact h.own (Many n es) (by simp) k hk
  exact h.own x (by simp [hx]) k hk
 rcases hD k hk with hk | hk
 ·exact hp.1 x (by simp [hx]) k hk
 exact hp2.1 x hx k hk
theorem Inv.many_more (h : Inv S w0 w (Many n es :: H)) : Inv S w0 w (Many (n + 1) (fun j => if j = n then Ent.nil else es j) :: H) := by
 have hm := h.ok (Many n es) (by simp)
 have hp := List.pairwise_cons.1 h.apart
 have hD : ∀ k, (Many (n + 1) (fun j => if j = n then Ent.nil else es j)).D k → (Many n es).D k := by
  rintro k ⟨j, hj, hk⟩
  by_cases hji : j = n
  ·simp only [if_pos hji] at hk; exact hk.elim
  simp only [if_neg hji] at hk; exact ⟨j, by omega, hk⟩
 refine ⟨h.chg, fun x hx => ?_, fun x hx k hk => ?_, List.pairwise_cons.2 ⟨fun x hx k hk => hp.1 x hx k (hD k hk), hp.2⟩⟩
 ·rcases List.mem_cons.1 hx with rfl | hx
  ·refine Many.ok (fun j hj => ?_) (fun a b ha hb hab k h1 h2 => ?_)
   ·by_cases hji : j = n
    ·simp only [if_pos hji]; exact Ent.nil_ok w
    simp only [if_neg hji]; exact hm.1.1 j (by omega)
   by_cases hai : a = n
   ·simp only [if_pos hai] at h1; exact h1.elim
   by_cases hbi : b = n
   ·simp only [if_pos hbi] at h2; exact h2.elim
   simp only [if_neg hai] at h1; simp only [if_neg hbi] at h2; exact hm.1.2 a b (by omega) (by omega) hab k h1 h2
  exact h.ok x (by simp [hx])
 rcases List.mem_cons.1 hx with rfl | hx
 ·exact h.own (Many n es) (by simp) k (hD k hk)
 exact h.own x (by simp [hx]) k hk
theorem Inv.many_congr {es' : Nat → Ent} (h : Inv S w0 w (Many n es :: H)) (he : ∀ i, i < n → es i = es' i) : Inv S w0 w (Many n es' :: H) := by
 have hm := h.ok (Many n es) (by simp)
 have hp := List.pairwise_cons.1 h.apart
 have hD : ∀ k, (Many n es').D k → (Many n es).D k := fun k ⟨j, hj, hk⟩ => ⟨j, hj, by rw [he j hj]; exact hk⟩
 refine ⟨h.chg, fun x hx => ?_, fun x hx k hk => ?_, List.pairwise_cons.2 ⟨fun x hx k hk => hp.1 x hx k (hD k hk), hp.2⟩⟩
 ·rcases List.mem_cons.1 hx with rfl | hx
  ·exact Many.ok (fun j hj => by rw [← he j hj]; exact hm.1.1 j hj) (fun a b ha hb hab k h1 h2 => hm.1.2 a b ha hb hab k (by rw [he a ha]; exact h1) (by rw [he b hb]; exact h2))
  exact h.ok x (by simp [hx])
 rcases List.mem_cons.1 hx with rfl | hx
 ·exact h.own (Many n es) (by simp) k (hD k hk)
 exact h.own x (by simp [hx]) k hk
theorem Inv.many_push (h : Inv S w0 w (e :: Many n es :: H)) : Inv S w0 w (Many (n + 1) (fun j => if j = n then e else es j) :: H) := by
 have h1 := (h.sw0.many_more).sw0.many_in (i := n) (by omega) (by simp)
 refine h1.many_congr fun i hi => ?_
 by_cases hin : i = n
 ·simp [hin]
 simp [hin]
theorem Inv.many_at (h : Inv S w0 w (Many n es :: H)) (hi : i < n) : (es i).Φ w := ((h.ok (Many n es) (by simp)).1.1 i hi).1
theorem Inv.lit0 {g t : Nat} {news : List Value} (hI : Inv S w0 w (B g t news.toArray :: H)) : ∀ (k : Nat) (u : Value), news[k]? = some u → w.cell? ⟨g, 0 + k, none⟩ = some u := fun k u hk => by
 rw [Nat.zero_add]
 exact hI.cell 0 Z (by simpa using hk)
theorem Inv.app {w' : World} {H' : List Ent} (h : Inv S w0 w H) (h' : Inv NF w w' H') : Inv S w0 w' (H' ++ H) := by
 have hp := h.pure h'.pu
 have hge : ∀ e ∈ H', ∀ k, e.D k → w.heap.size ≤ k := fun e he k hk => (h'.own e he k hk).resolve_left (fun h => h)
 refine ⟨hp.chg, fun e he => ?_, fun e he k hk => ?_, List.pairwise_append.2 ⟨h'.apart, h.apart, fun a ha b hb k h1 h2 => ?_⟩⟩
 ·rcases List.mem_append.1 he with he | he
  ·exact h'.ok e he
  exact hp.ok e he
 ·rcases List.mem_append.1 he with he | he
  ·exact .inr (Nat.le_trans h.chg.size (hge e he k hk))
  exact h.own e he k hk
 have e1 := hge a ha k h1
 have e2 := (h.ok b hb).2.1 k h2
 omega
theorem Inv.app1 {w' : World} {a : Ent} (h : Inv S w0 w H) (h' : Inv NF w w' [a]) : Inv S w0 w' (a :: H) := h.app h'
end
open Go
section
variable {P : Program} {N : Nat} {Q : XPost} {ρ : Env} {w : World} {o : Oper} {x y : Operand} {t t' : TypeId}
theorem rMin {a b : Int} (ho : o.op = .call { callee := .builtin .min, args := #[x, y], argTypes := #[t, t'] }) (hx : ev ρ x = .int .i64 a) (hy : ev ρ y = .int .i64 b) : Runs P ρ o w (.int .i64 (min a b)) := by
 have e : min a b = if b < a then b else a := by rw [Int.min_def]; split <;> split <;> omega
 rw [e]
 simp [Runs, execOp, ho, resolve, invoke, builtin, hx, hy, Builtin.min_, Builtin.min2]
theorem rDecN {a : Nat} (ho : o.op = .binOp .sub t x y t') (hx : ev ρ x = .int .i64 (a : Int)) (hy : ev ρ y = .int .i64 (b : Int)) (hb : b ≤ a) (h : a ≤ 9223372036854775807) : Runs P ρ o w (.int .i64 ((a - b : Nat) : Int)) := by
 have := rSub (P := P) (w := w) ho hx hy (by omega)
 rwa [show (a : Int) - (b : Int) = ((a - b : Nat) : Int) by omega] at this
theorem min_ex {p : Nat → Prop} (h : ∃ n, p n) : ∃ n, p n ∧ ∀ m, m < n → ¬ p m := by
 obtain ⟨n, hn⟩ := h
 induction n using Nat.strongRecOn with
 | ind n ih =>
  by_cases hm : ∃ m, m < n ∧ p m
  ·obtain ⟨m, h1, h2⟩ := hm; exact ih m h1 h2
  exact ⟨n, hn, fun m h1 h2 => hm ⟨m, h1, h2⟩⟩
theorem Wl (I : Nat → Env → World → Prop) (n0 : Nat) (h0 : I n0 ρ w)
  (h : ∀ n ρ w, I n ρ w → W P N c (thenQ (fun ρ' w' => ∃ m, m < n ∧ I m ρ' w') Q) ρ w) : W P N (.loop c) Q ρ w := by
 classical
 let μ : Env → World → Nat := fun ρ w => if hx : ∃ n, I n ρ w then Classical.choose (min_ex hx) else 0
 have hμ : ∀ ρ w, (∃ n, I n ρ w) → I (μ ρ w) ρ w ∧ ∀ m, I m ρ w → μ ρ w ≤ m := fun ρ w hx => by
  have hs := Classical.choose_spec (min_ex hx)
  have he : μ ρ w = Classical.choose (min_ex hx) := dif_pos hx
  rw [he]
  refine ⟨hs.1, fun m hm => ?_⟩
  rcases Nat.lt_or_ge m (Classical.choose (min_ex hx)) with h1 | h1
  ·exact absurd hm (hs.2 m h1)
  exact h1
 refine W_loop (fun ρ w => ∃ n, I n ρ w) μ ⟨n0, h0⟩ fun ρ w hI => W_mono (h _ ρ w (hμ ρ w hI).1) fun e ρ' w' q => ?_
 cases e <;> first | exact q | (obtain ⟨m, h1, h2⟩ := q; exact ⟨⟨m, h2⟩, Nat.lt_of_le_of_lt ((hμ ρ' w' ⟨m, h2⟩).2 m h2) h1⟩)
end
theorem flatN {α : Type} {s : Nat} {f : α → List Value} (hf : ∀ a, (f a).length = s) : ∀ (xs : List α) (m : Nat) (a : α), xs[m]? = some a → ∀ j, j < s → (xs.flatMap f)[m * s + j]? = (f a)[j]?
 | [], m, a, h, _, _ => by simp at h
 | x :: xs, 0, a, h, j, hj => by
  simp at h; subst h
  rw [List.flatMap_cons, List.getElem?_append_left (by rw [hf]; omega), Nat.zero_mul, Nat.zero_add]
 | x :: xs, m + 1, a, h, j, hj => by
  rw [List.flatMap_cons, List.getElem?_append_right (by rw [hf, Nat.add_mul, Nat.one_mul]; omega), hf, show (m + 1) * s + j - s = m * s + j by rw [Nat.add_mul, Nat.one_mul]; omega]
  exact flatN hf xs m a (by simpa using h) j hj
theorem row_cellS {c o i : Nat} {u : Value} (h : w.ownsRow base e s (.slice (some ⟨b, o, none⟩) n c) n xs) (hi : xs[i]? = some u) (hn : 0 < n) : w.cell? ⟨b, o + i, none⟩ = some u := by
 obtain ⟨b', o', h1, _, _, h2⟩ := (Rd.of_own (D := fun _ => True) h (fun _ _ _ => trivial)).get hi hn
 injection h1 with h1
 injection h1 with h1 h3
 subst h1 h3
 exact h2
theorem row_addrS {c : Nat} {A : Option Addr} (h : w.ownsRow base e s (.slice A n c) n xs) (hn : 0 < n) (hs : 0 < s) : ∃ b o, A = some ⟨b, o, none⟩ := by
 have hx : xs.length = n * s := h.1
 have : 0 < n * s := Nat.mul_pos hn hs
 obtain ⟨b', o', h1, _⟩ := (Rd.of_own (D := fun _ => True) h (fun _ _ _ => trivial)).get (gE_ (show 0 < xs.length by omega)) hn
 exact ⟨b', o', h1⟩
open Go
theorem row_openB {c : Nat} {A : Option Addr} (h : w.ownsRow base e s (.slice A n c) n xs) (hn : 0 < n) : ∃ g cur, A = some ⟨g, 0, none⟩ ∧ base ≤ g ∧ Blk w g e cur ∧ n ≤ c ∧ c ≤ 9223372036854775807 ∧ cur.size = c * s ∧ cur.toList.take (n * s) = xs := by
 obtain ⟨hl, ⟨hv, hn0⟩ | ⟨g, cap, cur, hv, hg, hb, h1, h2, h3, h4⟩⟩ := h
 ·omega
 injection hv with e1 e2 e3
 subst e1 e3
 exact ⟨g, cur, Z, hg, hb, h1, by simpa [maxLen] using h2, h3, h4⟩
theorem row_closeB {g c : Nat} {cur : Array Value} (hg : base ≤ g) (hb : Blk w g e cur) (h1 : n ≤ c) (h2 : c ≤ 9223372036854775807) (h3 : cur.size = c * s) (h4 : cur.toList.take (n * s) = xs) : (Row base e s (some ⟨g, 0, none⟩) n c xs).ok w :=
 Row.ok ⟨by rw [← h4, List.length_take, Array.length_toList, h3]; exact Nat.min_eq_left (Nat.mul_le_mul_right s h1), .inr ⟨g, c, cur, rfl, hg, hb, h1, by simpa [maxLen] using h2, h3, h4⟩⟩
section
variable {P : Program} {N : Nat} {ops : Array Oper} {Q : XPost} {rest : List Oper} {ρ : Env} {o : Oper} {w0 w : World} {S : Nat → Prop} {H : List Ent} {d t g : Nat}
theorem WL_stRow {x y : Operand} {c b0 j tt : Nat} {u : Value} (i : Nat) (hi : H[i]? = some (Row base e s (some ⟨b, b0, none⟩) n c xs)) (hI : Inv S w0 w H) (hw : wantedR ops ρ o = true) (hd : o.dst = none) (ho : o.op = .store tt x y) (hx : ev ρ x = .pointer (some ⟨b, j, none⟩)) (hy : ev ρ y = u) (hu : u.cells = #[u])
  (hs : szB P tt 1 = true) (h1 : u.oneCell' = true) (hj : j < xs.length) (h : ∀ w', Inv S w0 w' (H.set i (Row base e s (some ⟨b, b0, none⟩) n c (xs.set j u))) → WL P N ops Q rest ρ w') : WL P N ops Q (o :: rest) ρ w := by
 have hown : w.ownsRow base e s (.slice (some ⟨b, b0, none⟩) n c) n xs := (hI.ok _ (gM_ hi)).1
 have hlen : xs.length = n * s := hown.1
 have hn : 0 < n := by
  rcases Nat.eq_zero_or_pos n with h0 | h0
  ·subst h0; omega
  exact h0
 obtain ⟨g, cur, hA, hg, hB, hnc, hcm, hsz, htk⟩ := row_openB hown hn
 injection hA with hA
 injection hA with e1 e2
 subst e1 e2
 have hjc : j < cur.size := by
  have : n * s ≤ c * s := Nat.mul_le_mul_right s hnc
  omega
 refine WL_store (w' := w.setCell ⟨b, j, none⟩ u) hw hd (run_store ho hx hy hu hs Z hB hjc (by simp [h1])) (h _ (hI.upd i hi ((Chg.refl (Row base e s (some ⟨b, 0, none⟩) n c xs).D w).setCell (p := ⟨b, j, none⟩) (.inl Z) u) (row_closeB hg (hB.set_ j u) hnc hcm (by simp [hsz]) (by rw [Array.toList_setIfInBounds, List.take_set, htk])) (fun k hk => .inl hk)))
end
section
variable {α : Type} {f : α → List Value} {s : Nat}
theorem flat_setG (hf : ∀ a, (f a).length = s) {a a' : α} {j : Nat} {v : Value} (hj : j < s) (ha : f a' = (f a).set j v) : ∀ {l : List α} {k : Nat}, l[k]? = some a → (l.set k a').flatMap f = (l.flatMap f).set (k * s + j) v
 | [], k, h => by simp at h
 | q :: r, 0, h => by
  simp at h; subst h
  rw [List.set_cons_zero, List.flatMap_cons, List.flatMap_cons, ha, Nat.zero_mul, Nat.zero_add, List.set_append_left _ _ (by rw [hf]; exact hj)]
 | q :: r, k + 1, h => by
  have ih := flat_setG hf hj ha (l := r) (k := k) (by simpa using h)
  rw [List.set_cons_succ, List.flatMap_cons, List.flatMap_cons, ih, List.set_append_right _ _ (by rw [hf, Nat.add_mul, Nat.one_mul]; omega)]
  congr 2
  rw [hf, Nat.add_mul, Nat.one_mul]; omega
theorem flat_lenG (hf : ∀ a, (f a).length = s) (l : List α) : (l.flatMap f).length = l.length * s := by
 induction l with
 | nil => simp
 | cons q r ih => rw [List.flatMap_cons, List.length_append, ih, hf, List.length_cons, Nat.add_mul, Nat.one_mul]; omega
end
open Go.RowKit
section
variable {S : Nat → Prop} {w0 w : World} {H : List Ent} {e : Ent}
theorem pull_perm : ∀ (H : List Ent) (i : Nat) (e : Ent), H[i]? = some e → H.Perm (e :: H.eraseIdx i)
 | [], i, e, h => by simp at h
 | a :: H, 0, e, h => by
  simp at h
  subst h
  exact .refl _
 | a :: H, i + 1, e, h => by
  have := pull_perm H i e (by simpa using h)
  rw [List.eraseIdx_cons_succ]
  exact (this.cons a).trans (.swap ..)
theorem Inv.pull (h : Inv S w0 w H) (i : Nat) (hi : H[i]? = some e) : Inv S w0 w (e :: H.eraseIdx i) := h.perm (pull_perm H i e hi)
def insA : Nat → List Ent → Ent → List Ent
 | 0, L, e => e :: L
 | _ + 1, [], e => [e]
 | i + 1, a :: L, e => a :: insA i L e
theorem insA_perm : ∀ (i : Nat) (L : List Ent) (e : Ent), (e :: L).Perm (insA i L e)
 | 0, L, e => .refl _
 | i + 1, [], e => .refl _
 | i + 1, a :: L, e => (List.Perm.swap ..).trans ((insA_perm i L e).cons a)
def insAt (L : List Ent) (i : Nat) (e : Ent) : List Ent := insA i L e
theorem insAt_perm (L : List Ent) (i : Nat) (e : Ent) : (e :: L).Perm (insAt L i e) := insA_perm i L e
theorem Inv.back (h : Inv S w0 w (e :: H)) (i : Nat) : Inv S w0 w (insAt H i e) := h.perm (insAt_perm H i e)
end
theorem Inv.manyNil {S : Nat → Prop} {w0 : World} {H : List Ent} (h : Inv S w0 w H) (n base e size : Nat) : Inv S w0 w (Many n (fun _ => Row base e size none 0 0 []) :: H) :=
 h.fresh (Pure.refl _) (Many.ok (fun i _ => Row.nil _ base e size) (fun i j _ _ _ k hk => by simp [Row] at hk)) (fun k ⟨i, _, hk⟩ => by simp [Row] at hk)
section
variable {P : Program} {ρ : Env} {w : World} {o : Oper} {x y : Operand} {t t' el : TypeId} {a : Addr}
theorem rPtrEq (ho : o.op = .binOp .eql t x y t') (ht : P.underlying t = some (.pointer el)) (hx : ev ρ x = .pointer (some a)) (hy : ev ρ y = .pointer none) : Runs P ρ o w (.bool false) := by
 have h := run_equal (P := P) (w := w) (t := t) (x := .pointer (some a)) (y := .pointer none) (r := false) (fun d => by simp [Op.equalIn, run_underlying ht])
 simp [Runs, execOp, ho, hx, hy, eqGuard, binOp, h]
end
section
variable {S : Nat → Prop} {w0 w w' : World} {H : List Ent}
def Ent.join (a b : Ent) : Ent := ⟨fun k => a.D k ∨ b.D k, fun w => a.Φ w ∧ b.Φ w⟩
theorem Inv.join {a b : Ent} (h : Inv S w0 w (a :: b :: H)) : Inv S w0 w (Ent.join a b :: H) := by
 have ha := h.ok a (by simp)
 have hb := h.ok b (by simp)
 have hp := List.pairwise_cons.1 h.apart
 have hp2 := List.pairwise_cons.1 hp.2
 refine ⟨h.chg, fun e he => ?_, fun e he k hk => ?_, List.pairwise_cons.2 ⟨fun e he k hk => ?_, hp2.2⟩⟩
 ·rcases List.mem_cons.1 he with rfl | he
  ·refine Ent.mk_ok ⟨ha.1, hb.1⟩ (fun k hk => hk.elim (ha.2.1 k) (hb.2.1 k)) (fun T w1 w2 hc hT h1 => ⟨ha.2.2 T w1 w2 hc (fun k hk => hT k (.inl hk)) h1.1, hb.2.2 T w1 w2 hc (fun k hk => hT k (.inr hk)) h1.2⟩)
  exact h.ok e (by simp [he])
 ·rcases List.mem_cons.1 he with rfl | he
  ·rcases hk with hk | hk
   ·exact h.own a (by simp) k hk
   exact h.own b (by simp) k hk
  exact h.own e (by simp [he]) k hk
 rcases hk with hk | hk
 ·exact hp.1 e (by simp [he]) k hk
 exact hp2.1 e he k hk
end
end Go.Proofs.YtnckdmogdehnoaaGreatDoor
namespace Go.Proofs.YtnckdmogdehnoaaGreatDoor
open Go
variable {a : Act} {args : Array Value} {c x y : Code} {R : Ending → World → Prop} {Q : Exit → Act → World → Prop} {fn : Func} {f : FuncId} {xs : List Value} {b base e id l n s : Nat} {P : Program} {v : Value} {w : World}
def fen (ro : Option Nat) : Fence := { Fence.wide with round := ro }
def wd (ds : List Deferred) (a : Act) : Act := { a with defers := a.defers ++ ds }
def LiftD (ds : List Deferred) (Q : Exit → Act → World → Prop) : Exit → Act → World → Prop := fun e a w => ∃ a0, a = wd ds a0 ∧ Q e a0 w
def calm (l : List Oper) : Bool := l.all fun o => match o.op with
 | .defer _ => false
 | _ => true
theorem calm_mem {l : List Oper} (h : calm l = true) {o : Oper} (ho : o ∈ l) : ∀ c, o.op ≠ .defer c := fun c hc => by
 have := List.all_eq_true.1 h o ho
 rw [hc] at this
 cases this
theorem wd_put (ds : List Deferred) (a : Act) (d : Option Tmp) (v : Value) : (wd ds a).put d v = wd ds (a.put d v) := by cases d <;> rfl
theorem wd_eval (ds : List Deferred) (a : Act) : (wd ds a).eval = a.eval := by funext x; cases x <;> rfl
theorem fen_depth {ro : Option Nat} : (fen ro).depth.isSome = true → 1 ≤ 0 := fun h => by cases h
theorem callsIn_fen {ro : Option Nat} (h : Calls P f args w R) : CallsIn (fen ro) n P f args w R := callsIn_wide.2 h
theorem rowsIn_fen {ro : Option Nat} {row : String} {R : Value → World → Prop} (h : Rows P row args w R) : RowsIn (fen ro) n P row args w R :=
 fun c cs _ => let ⟨v, w', r, s⟩ := h c cs; ⟨v, w', r, stepsIn_wide.2 s⟩
section
variable {P : Program} {N : Nat} {ops : Array Oper} {ds : List Deferred} {ro : Option Nat} {o : Oper}
theorem opIn {K K' : Act → World → Prop} (hc : ∀ c, o.op ≠ .defer c) (hL : ¬ LetsOut Q) (hK : ∀ a w, K a w → K' (wd ds a) w)
  (h : o.wp P a w K Q) : o.wpIn (fen ro) 0 P (wd ds a) w K' (LiftD ds Q) := by
 refine ⟨fun _ _ => trivial, ?_⟩
 rw [Oper.semAt_eq _ _ _ hc, wd_eval]
 unfold Oper.wp at h
 generalize (execOp a.eval o).run P w = r at *
 cases r with
 | ok n w' =>
  cases n <;> simp only [Oper.upon, Oper.uponIn] at h ⊢
  case value u => rw [wd_put]; exact hK _ _ h
  case skip => rw [wd_put]; exact hK _ _ h
  case defer d =>
   have := hK _ _ h
   rw [← wd_put] at this
   exact this
  case enter f args =>
   refine ⟨fen_depth, callsIn_fen (h.mono fun e w'' he => ?_)⟩
   cases e with
   | returned u => simp only [wd_put]; exact hK _ _ he
   | panicked c => exact ⟨_, rfl, he⟩
   | outgrown => exact (hL he).elim
  case row row args => exact ⟨fen_depth, rowsIn_fen (Rows.mono h fun u w'' he => by rw [wd_put]; exact hK _ _ he)⟩
 | halt x w' => cases x <;> simp only [Oper.upon, Oper.uponIn] at h ⊢ <;> first | exact h | exact ⟨_, rfl, h⟩
theorem listIn {Q : Exit → Act → World → Prop} (hL : ¬ LetsOut Q) {K' : Act → World → Prop} {Q' : Exit → Act → World → Prop} : ∀ (l : List Oper) (a : Act) (w : World), calm l = true → wpList P ops Q l a w → wpListIn (fen ro) 0 P ops (LiftD ds Q) l (wd ds a) w
 | [], a, w, _, h => ⟨a, rfl, h⟩
 | o :: rest, a, w, hc, h => by
  unfold wpList at h
  unfold wpListIn
  have hr : calm rest = true := by
   unfold calm at hc ⊢
   rw [List.all_cons, Bool.and_eq_true] at hc
   exact hc.2
  show (if Region.wanted o (yielded ops a.tmps) then _ else _)
  split
  ·rename_i hw
   rw [if_pos hw] at h
   rcases h with h | ⟨_, h⟩
   ·exact opIn (calm_mem hc (List.mem_cons_self ..)) hL (fun a w h => listIn hL (K' := K') (Q' := Q') rest a w hr h) h
   exact (hL h).elim
  rename_i hw
  rw [if_neg hw] at h
  refine ⟨fun _ _ => trivial, ?_⟩
  rw [wd_put]
  exact listIn hL (K' := K') (Q' := Q') rest _ w hr h
theorem wpOp_fen (hL : ¬ LetsOut Q) (hc : calm ops.toList = true) {K K' : Act → World → Prop} {i : Nat} (hK : ∀ a w, K a w → K' (wd ds a) w)
  (h : wpOp P ops Q i K a w) : wpOpIn (fen ro) 0 P ops (LiftD ds Q) i K' (wd ds a) w := by
 unfold wpOp at h
 unfold wpOpIn
 cases ho : ops[i]? with
 | none => rw [ho] at h; exact hK _ _ h
 | some o =>
  simp only [ho] at h ⊢
  show (if Region.wanted o (yielded ops a.tmps) then _ else _)
  split
  ·rename_i hw
   rw [if_pos hw] at h
   rcases h with h | ⟨_, h⟩
   ·exact opIn (calm_mem hc (Array.mem_toList_iff.2 (Array.mem_of_getElem? ho))) hL hK h
   exact (hL h).elim
  rename_i hw
  rw [if_neg hw] at h
  refine ⟨fun _ _ => trivial, ?_⟩
  rw [wd_put]
  exact hK _ _ h
theorem anyIn {md : Region.Mode} {Q : Exit → Act → World → Prop} (hL : ¬ LetsOut Q) (hc : calm ops.toList = true) : ∀ (fuel : Nat) (listed : Array Bool) (a : Act) (w : World), wpAny P md ops Q fuel listed a w →
  wpAnyIn (fen ro) 0 P md ops (LiftD ds Q) fuel listed (wd ds a) w
 | 0, listed, a, w, h => ⟨h.1, a, rfl, h.2⟩
 | fuel + 1, listed, a, w, h => ⟨fun hr => ⟨a, rfl, h.1 hr⟩, fun i hi => wpOp_fen hL hc (fun a w h => anyIn hL hc fuel _ a w h) (h.2 i hi)⟩
theorem liftQ_outs {Q : XPost} : ¬ LetsOut (LiftQ N Q) := fun ⟨_, _, h⟩ => h
end
namespace Rd
def W (ro : Option Nat) (ds : List Deferred) (P : Program) (N : Nat) (c : Code) (Q : XPost) (ρ : Env) (w : World) : Prop := ∀ a, Fit N ρ a → c.wpIn (fen ro) 0 P (LiftD ds (LiftQ N Q)) (wd ds a) w
def WI (ro : Option Nat) (ds : List Deferred) (P : Program) (N : Nat) (ops : Array Oper) (Q : XPost) (l : List Oper) (ρ : Env) (w : World) : Prop := ∀ a, Fit N ρ a → wpListIn (fen ro) 0 P ops (LiftD ds (LiftQ N Q)) l (wd ds a) w
section
variable {ro : Option Nat} {ds : List Deferred} {P : Program} {N : Nat} {Q : XPost} {ρ : Env} {w : World}
theorem W_mono {Q' : XPost} (h : W ro ds P N c Q ρ w) (hq : ∀ e ρ w, Q e ρ w → Q' e ρ w) : W ro ds P N c Q' ρ w := fun a ha =>
 wpIn_mono (h a ha) fun e a w q => by
  obtain ⟨a0, rfl, q⟩ := q
  exact ⟨a0, Z, by cases e <;> first | exact q | exact ⟨q.1, hq _ _ _ q.2⟩ | (obtain ⟨ρ', h1, h2⟩ := q; exact ⟨ρ', h1, hq _ _ _ h2⟩)⟩
theorem Ws (h : W ro ds P N x (thenQ (fun ρ w => W ro ds P N y Q ρ w) Q) ρ w) : W ro ds P N (.seq x y) Q ρ w := by
 intro a ha
 refine wpIn_seq (wpIn_mono (h a ha) fun e a w q => ?_)
 obtain ⟨a0, rfl, q⟩ := q
 cases e <;> first | exact ⟨a0, rfl, q⟩ | (obtain ⟨ρ', h1, h2⟩ := q; exact h2 a0 h1)
theorem Wb (h : W ro ds P N c (blockQ id Q) ρ w) : W ro ds P N (.block id c) Q ρ w := by
 intro a ha
 refine wpIn_block (wpIn_mono (h a ha) fun e a w q => ?_)
 obtain ⟨a0, rfl, q⟩ := q
 cases e with
 | exit i =>
  obtain ⟨ρ', h1, h2⟩ := q
  simp only [blockQ] at h2
  simp only [Exit.inBlock]
  by_cases hi : i = id
  ·rw [if_pos hi]
   rw [show Nat.beq i id = true from by simp [hi]] at h2
   exact ⟨a0, Z, ρ', h1, h2⟩
  rw [if_neg hi]
  rw [show Nat.beq i id = false from by rw [Bool.eq_false_iff]; exact fun h => hi (Nat.eq_of_beq_eq_true h)] at h2
  exact ⟨a0, Z, ρ', h1, h2⟩
 | normal => exact ⟨a0, rfl, q⟩
 | goto l => exact ⟨a0, rfl, q⟩
 | ret => exact ⟨a0, rfl, q⟩
 | panic c => exact ⟨a0, rfl, q⟩
 | outgrown => exact ⟨a0, rfl, q⟩
theorem WE (h : Q (.exit id) ρ w) : W ro ds P N (.exit id) Q ρ w := fun a ha => wpIn_exit ⟨a, rfl, ρ, ha, h⟩
theorem WR (h : Q .ret ρ w) : W ro ds P N .ret Q ρ w := fun a ha => wpIn_ret ⟨a, rfl, ρ, ha, h⟩
theorem Wk (h : Q .normal ρ w) : W ro ds P N .skip Q ρ w := fun a ha => wpIn_skip ⟨a, rfl, ρ, ha, h⟩
theorem Wc {c : Operand} (t : Bool) (hc : ev ρ c = .bool t) (h : W ro ds P N (cond t x y) Q ρ w) : W ro ds P N (.cond c x y) Q ρ w := fun a ha =>
 wpIn_cond (t := t) (by rw [wd_eval, ha.eval]; exact hc) (by cases t <;> exact h a ha)
theorem Wx (M : Env → World → Prop) (h1 : W ro ds P N x (thenQ M Q) ρ w) (h2 : ∀ ρ w, M ρ w → W ro ds P N y Q ρ w) : W ro ds P N (.seq x y) Q ρ w :=
 Ws (W_mono h1 fun e ρ w q => by cases e <;> first | exact q | exact h2 _ _ q)
theorem W_loop (I : Env → World → Prop) (μ : Env → World → Nat) (h0 : I ρ w)
  (h : ∀ ρ w, I ρ w → W ro ds P N c (thenQ (fun ρ' w' => I ρ' w' ∧ μ ρ' w' < μ ρ w) Q) ρ w) : W ro ds P N (.loop c) Q ρ w := by
 intro a ha
 refine wpIn_loop (fun a w => ∃ a0, a = wd ds a0 ∧ ∃ ρ, Fit N ρ a0 ∧ I ρ w) (fun a w => μ (fun i => a.tmps.getD i undef) w) ⟨a, Z, ρ, ha, h0⟩ fun a w hI => ?_
 obtain ⟨a, rfl, ρ, ha, hI⟩ := hI
 refine wpIn_mono (h ρ w hI a ha) fun e a' w' q => ?_
 obtain ⟨a', rfl, q⟩ := q
 cases e <;> first | exact ⟨a', rfl, q⟩ | (obtain ⟨ρ', h1, h2, h3⟩ := q; exact ⟨⟨a', rfl, ρ', h1, h2⟩, by
  show μ (fun i => a'.tmps.getD i undef) w' < μ (fun i => a.tmps.getD i undef) w
  rw [h1.env, ha.env]; exact h3⟩)
theorem Wr {l : List Oper} (h : WL P N l.toArray Q l ρ w) (hc : calm l = true := by kernel_rfl) : W ro ds P N (.region id l.toArray false) Q ρ w := fun a ha =>
 wpIn_region_lit (listIn (K' := fun _ _ => True) (Q' := fun _ _ _ => True) liftQ_outs l a w hc (WL_elim h a ha))
theorem Wd {ops : Array Oper} (hm : P.follows .mixedOrders = true) (h : WA P N ops Q ops.size (Array.replicate ops.size false) ρ w.drew) (hc : calm ops.toList = true := by kernel_rfl) : W ro ds P N (.region id ops true) Q ρ w := fun a ha =>
 wpIn_region_any hm (anyIn liftQ_outs hc _ _ a _ ((by unfold WA at h; exact h : ∀ a, Fit N ρ a → wpAny P .any ops (LiftQ N Q) ops.size (Array.replicate ops.size false) a w.drew) a ha))
theorem W_regionI {l : List Oper} (i : Nat) (h : WL P N l.toArray (thenQ (fun ρ w => WI ro ds P N l.toArray Q (l.drop i) ρ w) (fun _ _ _ => False)) (l.take i) ρ w) (hc : calm (l.take i) = true := by kernel_rfl) : W ro ds P N (.region id l.toArray false) Q ρ w := fun a ha => by
 refine wpIn_region_lit ?_
 have key : ∀ (l1 l2 : List Oper) (a : Act) (w : World), wpListIn (fen ro) 0 P l.toArray (LiftD ds (LiftQ N (thenQ (fun ρ w => WI ro ds P N l.toArray Q l2 ρ w) (fun _ _ _ => False)))) l1 a w →
   wpListIn (fen ro) 0 P l.toArray (LiftD ds (LiftQ N Q)) (l1 ++ l2) a w := by
  intro l1
  induction l1 with
  | nil =>
   intro l2 a w h
   obtain ⟨a0, rfl, ρ', h1, h2⟩ := h
   exact h2 a0 h1
  | cons o l1 ih =>
   intro l2 a w h
   show wpListIn _ _ _ _ _ (o :: (l1 ++ l2)) a w
   unfold wpListIn at h ⊢
   split
   ·rename_i hw
    rw [if_pos hw] at h
    refine ⟨h.1, ?_⟩
    have h2 := h.2
    generalize (o.semAt (fen ro).round a.eval).run P w = r at *
    cases r with
    | ok x w' =>
     cases x <;> simp only [Oper.uponIn] at h2 ⊢ <;>
      first
       | exact ih _ _ _ h2
       | exact ⟨h2.1, CallsIn.mono h2.2 (fun e w'' he => by cases e <;> first | exact ih _ _ _ he | (obtain ⟨a0, e0, q⟩ := he; exact False.elim q.2) | (obtain ⟨a0, e0, q⟩ := he; exact False.elim q) | (obtain ⟨_, _, a0, e0, q⟩ := he; exact False.elim q))⟩
       | exact ⟨h2.1, RowsIn.mono h2.2 (fun _ _ he => ih _ _ _ he)⟩
       | exact ⟨h2.1, RoundIn.mono h2.2 (fun e w'' he => by cases e <;> first | exact ih _ _ _ he | (obtain ⟨a0, e0, q⟩ := he; exact False.elim q.2) | (obtain ⟨a0, e0, q⟩ := he; exact False.elim q) | (obtain ⟨_, _, a0, e0, q⟩ := he; exact False.elim q))⟩
    | halt x w' => cases x <;> simp only [Oper.uponIn] at h2 ⊢ <;> first | exact h2 | (obtain ⟨a0, e0, q⟩ := h2; exact False.elim q.2)
   rename_i hw
   rw [if_neg hw] at h
   exact ⟨h.1, ih _ _ _ h.2⟩
 have := key (l.take i) (l.drop i) (wd ds a) w (listIn (K' := fun _ _ => True) (Q' := fun _ _ _ => True) liftQ_outs _ a w hc (WL_elim h a ha))
 rwa [List.take_append_drop] at this
theorem WI_of {l : List Oper} {ops : Array Oper} (h : WL P N ops Q l ρ w) (hc : calm l = true := by kernel_rfl) : WI ro ds P N ops Q l ρ w := fun a ha =>
 listIn (K' := fun _ _ => True) (Q' := fun _ _ _ => True) liftQ_outs l a w hc (WL_elim h a ha)
end
end Rd
section
variable {P : Program} {ρ : Env} {w : World} {o : Oper} {t t' el : TypeId} {x y : Operand} {a : Addr}
end
abbrev Yields1 (P : Program) (l : Nat) (args : Array Value) (W : World) (R : Ending → World → Prop) : Prop := YieldAt Fence.wide 0 P l args W R
section
variable {P : Program} {N : Nat} {Q : XPost} {ρ : Env} {w : World} {o : Oper} {ops : Array Oper} {rest : List Oper} {ro : Option Nat} {ds : List Deferred}
theorem rYield {z : Operand} {as : List Operand} {ts : Array TypeId} {vs : List Value} (ho : o.op = .call { callee := .value z, args := as.toArray, argTypes := ts }) (hz : ev ρ z = .func (.yield l) #[] #[]) (hv : as.map (ev ρ) = vs) :
  (execOp (ev ρ) o).run P w = (Instr.yield l vs.toArray).run P w := by
 simp [execOp, ho, resolve, hz, Deferred.ofValue, invoke, callFunc, ← hv]
theorem Rd.WI_yield {d : Nat} (hw : wantedR ops ρ o = true) (hd : o.dst = some d) (hN : Nat.blt d N = true) (hc : calm [o] = true) (hr : (execOp (ev ρ) o).run P w = (Instr.yield l args).run P w)
  (h : Yields1 P l args w fun e w' => ∃ v, e = .returned v ∧ Rd.WI ro ds P N ops Q rest (upd ρ d v) w') : Rd.WI ro ds P N ops Q (o :: rest) ρ w := by
 intro a ha
 unfold wpListIn
 show (if Region.wanted o (yielded ops a.tmps) then _ else _)
 rw [wanted_fit ha, if_pos hw]
 refine ⟨fun _ _ => trivial, ?_⟩
 rw [Oper.semAt_eq _ _ _ (calm_mem hc (List.mem_cons_self ..)), wd_eval, ha.eval, hr]
 obtain ⟨fn, tmps, assign, body, h1, h2⟩ := h
 rw [h1]
 refine ⟨fen_depth, RoundIn.mono (show RoundIn (fen ro) 0 P l fn tmps assign body w _ from h2) fun e w' he => ?_⟩
 obtain ⟨v, rfl, hv⟩ := he
 have := hv _ (WL_put hd hN ha v)
 rw [← wd_put] at this
 exact this
end
namespace Rd
section
variable {ro : Option Nat} {ds : List Deferred} {P : Program} {N : Nat} {Q : XPost} {ρ : Env} {w : World}
theorem Wl (I : Nat → Env → World → Prop) (n0 : Nat) (h0 : I n0 ρ w)
  (h : ∀ n ρ w, I n ρ w → Rd.W ro ds P N c (thenQ (fun ρ' w' => ∃ m, m < n ∧ I m ρ' w') Q) ρ w) : Rd.W ro ds P N (.loop c) Q ρ w := by
 classical
 let μ : Env → World → Nat := fun ρ w => if hx : ∃ n, I n ρ w then Classical.choose (min_ex hx) else 0
 have hμ : ∀ ρ w, (∃ n, I n ρ w) → I (μ ρ w) ρ w ∧ ∀ m, I m ρ w → μ ρ w ≤ m := fun ρ w hx => by
  have hs := Classical.choose_spec (min_ex hx)
  have he : μ ρ w = Classical.choose (min_ex hx) := dif_pos hx
  rw [he]
  refine ⟨hs.1, fun m hm => ?_⟩
  rcases Nat.lt_or_ge m (Classical.choose (min_ex hx)) with h1 | h1
  ·exact absurd hm (hs.2 m h1)
  exact h1
 refine Rd.W_loop (fun ρ w => ∃ n, I n ρ w) μ ⟨n0, h0⟩ fun ρ w hI => Rd.W_mono (h _ ρ w (hμ ρ w hI).1) fun e ρ' w' q => ?_
 cases e <;> first | exact q | (obtain ⟨m, h1, h2⟩ := q; exact ⟨⟨m, h2⟩, Nat.lt_of_le_of_lt ((hμ ρ' w' ⟨m, h2⟩).2 m h2) h1⟩)
end
end Rd
def setArgs (ρ : Env) (l : List (Tmp × Value)) : Env := l.foldl (fun ρ p => upd ρ p.1 p.2) ρ
theorem fit_args {N : Nat} : ∀ (l : List (Tmp × Value)) (ρ : Env) (t : Array Value), (∀ p ∈ l, p.1 < N) → Fit N ρ { tmps := t, defers := [] } →
  Fit N (setArgs ρ l) { tmps := l.foldl (fun t (p : Tmp × Value) => t.setIfInBounds p.1 p.2) t, defers := [] }
 | [], _, _, _, h => h
 | p :: l, ρ, t, hl, h => fit_args l (upd ρ p.1 p.2) _ (fun q hq => hl q (List.mem_cons_of_mem _ hq)) (h.put (hl p (List.mem_cons_self ..)) p.2)
theorem chg_putObj {S : Nat → Prop} (V : World) (o : Obj) (h : S l) : Chg S V (V.putObj l o) :=
 ⟨rfl, rfl, rfl, by rw [World.putObj_size]; exact Nat.le_refl _, fun k _ hk => World.putObj_heap_other (fun e => hk (e ▸ h))⟩
def cellsO : Obj → Bool
 | .cells .. => true
 | _ => false
def Aside (n : Nat) (V V' : World) : Prop := Chg (fun b => n ≤ b ∧ ∃ o, V.heap[b]? = some o ∧ cellsO o = false) V V'
theorem Aside.put {V : World} {o : Obj} (o' : Obj) (hl : n ≤ l) (h : V.heap[l]? = some o) (hc : cellsO o = false) : Aside n V (V.putObj l o') := chg_putObj V o' ⟨hl, o, h, hc⟩
theorem Aside.old {V V' : World} (h : Aside n V V') (hb : b < V.heap.size) (hn : b < n) : V'.heap[b]? = V.heap[b]? := h.block b hb fun h => by have := h.1; omega
theorem Aside.cell {V V' : World} {p : Addr} (h : Aside n V V') (hv : V.cell? p = some v) : V'.cell? p = some v := by
 have hb := h.block p.block (World.block_lt_of_cell? V p hv) (fun ⟨_, o, ho, hc⟩ => by
  unfold World.cell? at hv
  rw [ho] at hv
  cases o <;> simp_all [cellsO])
 unfold World.cell? at *
 rw [hb]; exact hv
theorem Yields1.mono {W : World} {R' : Ending → World → Prop} (h : Yields1 P l args W R) (hr : ∀ e w, R e w → R' e w) : Yields1 P l args W R' := by
 obtain ⟨fn, t, a, b, h1, h2⟩ := h
 exact ⟨fn, t, a, b, h1, h2.mono hr⟩
def WX (P : Program) (N : Nat) (c : Code) (Q : Exit → Act → World → Prop) (ρ : Env) (ds : List Deferred) (w : World) : Prop := ∀ a, Fit N ρ a → c.wpIn Fence.wide 0 P Q (wd ds a) w
abbrev markD (D : Nat) : List Deferred := [{ target := .collected D, args := #[] }]
section
variable {P : Program} {N : Nat} {ρ : Env} {w : World} {Q : Exit → Act → World → Prop} {ds : List Deferred}
theorem wd_nil (h : a.defers = []) (ds : List Deferred) : wd ds a = { a with defers := ds } := by simp [wd, h]
theorem WX_seq (h : WX P N x (Exit.then (fun a w => y.wpIn Fence.wide 0 P Q a w) Q) ρ ds w) : WX P N (.seq x y) Q ρ ds w := fun a ha => wpIn_seq (h a ha)
theorem WX_block (h : WX P N c (Exit.inBlock id Q) ρ ds w) : WX P N (.block id c) Q ρ ds w := fun a ha => wpIn_block (h a ha)
def exitQ (N : Nat) (K : Exit → Act → World → Prop) : XPost
 | .panic _, _, _ => False
 | e, ρ, w => ∀ a, Fit N ρ a → K e a w
theorem exitQ.get {K : Exit → Act → World → Prop} {e : Exit} (h : exitQ N K e ρ w) (ha : Fit N ρ a) : K e a w := by
 cases e <;> first | exact h a ha | exact h.elim
theorem WX_W {Q' : XPost} (h : W P N c Q' ρ w) (hQ : ∀ e ρ' a w', Fit N ρ' a → Q' e ρ' w' → Q e a w') (hP : ∀ c ρ w, ¬ Q' (.panic c) ρ w := by intro c ρ w h; first | exact h | exact h.elim) : WX P N c Q ρ [] w := fun a ha => by
 have h1 : c.wp P (LiftQ N Q') a w := by unfold W at h; exact h a ha
 rw [wd_nil ha.defers, show ({ a with defers := [] } : Act) = a from by cases a; have := ha.defers; simp_all]
 refine wpIn_mono (wpIn_wide.2 h1) fun e a w q => ?_
 cases e <;> first | exact absurd q.2 (hP _ _ _) | exact False.elim q | (obtain ⟨ρ', h2, h3⟩ := q; exact hQ _ _ _ _ h2 h3)
theorem WX_seqW (h : W P N x (thenQ (fun ρ w => WX P N y Q ρ [] w) (exitQ N Q)) ρ w) : WX P N (.seq x y) Q ρ [] w :=
 WX_seq (WX_W h fun e ρ' a w' ha q => by
  cases e with
  | normal =>
   have := q a ha
   rw [wd_nil ha.defers, show ({ a with defers := [] } : Act) = a from by cases a; have := ha.defers; simp_all] at this
   exact this
  | exit i => exact q a ha
  | goto i => exact q a ha
  | ret => exact q a ha
  | panic c => exact q.elim
  | outgrown => exact q a ha)
theorem WX_R {Q' : XPost} (h : Rd.W none ds P N c Q' ρ w) (hQ : ∀ e ρ' a w', Fit N ρ' a → Q' e ρ' w' → Q e (wd ds a) w') (hP : ∀ c ρ w, ¬ Q' (.panic c) ρ w := by intro c ρ w h; first | exact h | exact h.elim) : WX P N c Q ρ ds w := fun a ha =>
 wpIn_mono (h a ha) fun e a w q => by
  obtain ⟨a0, rfl, q⟩ := q
  cases e <;> first | exact absurd q.2 (hP _ _ _) | exact False.elim q | (obtain ⟨ρ', h2, h3⟩ := q; exact hQ _ _ _ _ h2 h3)
theorem calls_of_WX (hf : P.funcs[f]? = some fn) (hb : fn.body = some c) (hn : fn.ntmps = N) (hN : Nat.ble args.size N = true)
  (h : WX P N c (bodyPostM Fence.wide 0 P fn R) (entry args) [] w) : Calls P f args w R := by
 subst hn
 refine callsIn_wide.1 (callsIn_of_wp_marks (F := Fence.wide) (n := 0) hf hb trivial (h { tmps := args ++ Array.replicate (fn.ntmps - args.size) undef, defers := [] } ⟨?_, fun i => ?_, Z⟩))
 ·have := Nat.le_of_ble_eq_true hN
  simp; omega
 unfold entry
 rw [Array.getD_eq_getD_getElem?, Array.getElem?_append, Array.getD_eq_getD_getElem?]
 split
 ·rfl
 rename_i hlt
 rw [Array.getElem?_eq_none (xs := args) (by omega), Array.getElem?_replicate]
 split <;> rfl
theorem Rd.calls_of_W (hf : P.funcs[f]? = some fn) (hb : fn.body = some c) (hn : fn.ntmps = N) (hN : Nat.ble args.size N = true)
  (h : Rd.W none [] P N c (retQ P fn R) (entry args) w) : Calls P f args w R := by
 subst hn
 refine calls_of_WX hf hb Z hN (WX_R h (hP := fun c ρ w h => by unfold retQ at h; exact h) fun e ρ' a w' ha q => ?_)
 unfold retQ at q
 have hd : wd [] a = a := by cases a; have := ha.defers; simp_all [wd]
 have key : (e = .normal ∨ e = .ret) → bodyPostM Fence.wide 0 P fn R e a w' := fun he => by
  have h1 : LeavesInM Fence.wide 0 P fn a.tmps R [] .returning w' := by
   obtain ⟨v, h1, h2⟩ : ∃ v, (results fn a.tmps).run P w' = .ok v w' ∧ R (.returned v) w' := by rcases he with rfl | rfl <;> exact q a ha
   exact ⟨_, h1, h2⟩
  rcases he with rfl | rfl
  ·show LeavesInM Fence.wide 0 P fn a.tmps R a.defers .returning w'
   rw [ha.defers]; exact h1
  show LeavesInM Fence.wide 0 P fn a.tmps R a.defers .returning w'
  rw [ha.defers]; exact h1
 rw [hd]
 cases e with
 | normal => exact key (.inl rfl)
 | ret => exact key (.inr rfl)
 | exit i => exact q.elim
 | goto i => exact q.elim
 | panic c => exact q.elim
 | outgrown => exact q.elim
theorem leaves_mark {e : Exit} {D : Nat} (he : e = .normal ∨ e = .ret) (ha : a.defers = []) (hD : w.heap[D]? = some (.deferred (some [])))
  (h : ∃ v, (results fn a.tmps).run P (w.putObj D (.deferred none)) = .ok v (w.putObj D (.deferred none)) ∧ R (.returned v) (w.putObj D (.deferred none))) : bodyPostM Fence.wide 0 P fn R e (wd (markD D) a) w := by
 have key : LeavesInM Fence.wide 0 P fn a.tmps R (markD D) .returning w := by
  refine ⟨by simp, .inl ⟨_, _, Z, run_takeDeferred hD, ?_⟩⟩
  obtain ⟨v, h1, h2⟩ := h
  exact ⟨_, h1, h2⟩
 rcases he with rfl | rfl
 ·show LeavesInM Fence.wide 0 P fn a.tmps R (a.defers ++ markD D) .returning w
  rw [ha]; exact key
 show LeavesInM Fence.wide 0 P fn a.tmps R (a.defers ++ markD D) .returning w
 rw [ha]; exact key
theorem leaves_plain {e : Exit} (he : e = .normal ∨ e = .ret) (ha : a.defers = []) (h : ∃ v, (results fn a.tmps).run P w = .ok v w ∧ R (.returned v) w) : bodyPostM Fence.wide 0 P fn R e a w := by
 have key : LeavesInM Fence.wide 0 P fn a.tmps R [] .returning w := by
  obtain ⟨v, h1, h2⟩ := h
  exact ⟨_, h1, h2⟩
 rcases he with rfl | rfl
 ·show LeavesInM Fence.wide 0 P fn a.tmps R a.defers .returning w
  rw [ha]; exact key
 show LeavesInM Fence.wide 0 P fn a.tmps R a.defers .returning w
 rw [ha]; exact key
theorem leaves_retQ {e : Exit} {D : Nat} (ha : Fit fn.ntmps ρ a) (hD : w.heap[D]? = some (.deferred (some []))) (h : retQ P fn R e ρ (w.putObj D (.deferred none))) : bodyPostM Fence.wide 0 P fn R e (wd (markD D) a) w := by
 unfold retQ at h
 cases e with
 | normal => exact leaves_mark (.inl rfl) ha.defers hD (h a ha)
 | ret => exact leaves_mark (.inr rfl) ha.defers hD (h a ha)
 | exit i => exact h.elim
 | goto i => exact h.elim
 | panic c => exact h.elim
 | outgrown => exact h.elim
theorem leaves_retQ0 {e : Exit} (ha : Fit fn.ntmps ρ a) (h : retQ P fn R e ρ w) : bodyPostM Fence.wide 0 P fn R e a w := by
 unfold retQ at h
 cases e with
 | normal => exact leaves_plain (.inl rfl) ha.defers (h a ha)
 | ret => exact leaves_plain (.inr rfl) ha.defers (h a ha)
 | exit i => exact h.elim
 | goto i => exact h.elim
 | panic c => exact h.elim
 | outgrown => exact h.elim
theorem enters_of (hf : P.funcs[f]? = some fn) (hn : (fn.name == "runtime.NumGoroutine") = false) (hb : fn.body.isNone = false) (args : Array Value) (w : World) : (callFunc f args).run P w = .ok (.enter f args) w := by
 simp [callFunc, hf, hn, hb, -Option.isNone_eq_false_iff, -Option.isNone_iff_eq_none, -beq_iff_eq]
end
def cellsE (w : World) (e : Ent) : Prop := ∀ k, e.D k → ∃ o, w.heap[k]? = some o ∧ cellsO o = true
theorem B.cells {g t : Nat} {cs : Array Value} (h : (B g t cs).ok w) : cellsE w (B g t cs) := fun k hk => by
 have hk : k = g := hk
 subst hk
 exact ⟨_, h.1, Z⟩
theorem Row.cells {size c : Nat} {A : Option Addr} (h : (Row base e size A n c xs).ok w) : cellsE w (Row base e size A n c xs) := fun k hk => by
 have h1 : w.ownsRow base e size (.slice A n c) n xs := h.1
 rcases h1.2 with ⟨hv, _⟩ | ⟨g, cap, cur, hv, _, hh, _⟩
 ·injection hv with hv; subst hv; simp [Row] at hk
 injection hv with hv; subst hv
 have hk : some g = some k := hk
 injection hk with hk
 subst hk
 exact ⟨_, hh, Z⟩
theorem Inv.aside {S : Nat → Prop} {w0 w' : World} {H : List Ent} (h : Inv S w0 w H) (ha : Aside n w w') (hn : w0.heap.size ≤ n) (hc : ∀ e ∈ H, cellsE w e) : Inv S w0 w' H :=
 ⟨h.chg.trans' ha fun b hb hx => (by have := hx.1; omega), fun e he => (h.ok e he).chg ha fun k hk hx => by
  obtain ⟨o, h1, h2⟩ := hc e he k hk
  obtain ⟨_, o', h3, h4⟩ := hx
  rw [h1] at h3
  injection h3 with h3
  rw [← h3, h2] at h4
  exact Bool.noConfusion h4, h.own, h.apart⟩
def ownX (X : Nat → Prop) (V V' : World) : Nat → Prop := fun b => X b ∨ (V.heap.size ≤ b ∧ b < V'.heap.size)
def notX (n : Nat) (X : Nat → Prop) : Nat → Prop := fun b => n ≤ b ∧ ¬ X b
def SeqRel (P : Program) (gf : Nat) (lb : Array Value) (n : Nat) (A : Nat → Array Value → World → Prop) (w : World) (M : Nat → Prop) : Prop :=
 ∀ (l : Nat) (X0 : Nat → Prop) (J : Nat → (Nat → Prop) → World → Prop) (W : World), Pure w W → (∀ b, X0 b → ¬ M b ∧ b < W.heap.size) →
  (∀ k X V V', J k X V → Chg (notX W.heap.size X) V V' → J k X V') →
  (∀ k X args V, k < n → A k args V → J k X V → W.heap.size ≤ V.heap.size → Yields1 P l args V fun e V' => e = .returned (.bool true) ∧ J (k + 1) (ownX X V V') V' ∧ Chg X V V') →
  J 0 X0 W → Calls P gf (#[.func (.yield l) #[] #[]] ++ lb) W fun e W' => (∃ v, e = .returned v) ∧ ∃ X, J n X W'
def roundX (X : Nat → Prop) (In : (Nat → Prop) → World → Prop) (V : World) : XPost
 | .normal, _, V' => Chg X V V' ∧ In (ownX X V V') V'
 | _, _, _ => False
section
variable {P : Program} {N : Nat} {ρ : Env} {w : World} {Q : Exit → Act → World → Prop} {ds : List Deferred}
theorem WX_rangeRel {g : Operand} {ps : Array Tmp} {assign body : Code} {gf : Nat} {lb : Array Value} {A : Nat → Array Value → World → Prop} {M : Nat → Prop} {w0 : World}
  (hg : ev ρ g = .func (.func gf) #[] lb) (eg : ∀ args w, (callFunc gf args).run P w = .ok (.enter gf args) w)
  (hseq : SeqRel P gf lb n A w0 M) (hw0 : Pure w0 w) (S0 : Nat → Prop) (hS0 : ∀ b, S0 b → ¬ M b ∧ b < w.heap.size) (hM : ∀ b, M b → b < w.heap.size)
  (hA : ∀ k args V V', A k args V → (∀ p v, V.cell? p = some v → V'.cell? p = some v) → A k args V')
  (I : Nat → (Nat → Prop) → World → Prop)
  (hI : ∀ k X V V', I k X V → Chg (notX w.heap.size X) V V' → I k X V') (h0 : I 0 S0 w)
  (hps : ∀ k args V, A k args V → args.size = ps.size) (hN : ∀ p ∈ ps.toList, p < N)
  (hround : ∀ k X args V, k < n → A k args V → I k X V → w.heap.size + 2 ≤ V.heap.size →
   Rd.W (some (w.heap.size + 1)) [] P N assign (fun e ρ1 V1 => e = .normal ∧ V1 = V ∧ ∀ V2, A k args V2 → I k X V2 → w.heap.size + 2 ≤ V2.heap.size →
    Rd.W (some (w.heap.size + 1)) [] P N body (roundX X (I (k + 1)) V2) ρ1 V2) (setArgs ρ (ps.toList.zip args.toList)) V)
  (hdone : ∀ X V, I n X V → V.heap[w.heap.size]? = some (.deferred (some [])) → ∀ a, Fit N ρ a → Q .normal (wd (markD w.heap.size) a) V) :
  WX P N (.rangeFunc g ps assign body) Q ρ [] w := by
 intro a ha
 refine wpIn_rangeFunc ?_
 intro fn hfn
 obtain ⟨rec, hrec⟩ : ∃ rec : LoopState → Option Code → Loop, rec = fun st pe => { state := st, pending := pe, fn, tmps := a.tmps, params := ps, assign, body, defers := w.heap.size } := ⟨_, rfl⟩
 obtain ⟨W1, hW1⟩ : ∃ W1, (w.alloc (.deferred (some []))).alloc (.loop (rec .ready none)) = W1 := ⟨_, rfl⟩
 have hL1 : W1.heap[w.heap.size + 1]? = some (.loop (rec .ready none)) := by
  rw [← hW1]; have := World.alloc_heap_new (w.alloc (.deferred (some []))) (.loop (rec .ready none)); rwa [World.size_alloc] at this
 have hK1 : W1.heap[w.heap.size]? = some (.deferred (some [])) := by
  rw [← hW1]; exact ((((Pure.refl (w.alloc (.deferred (some [])))).alloc _).chg NF).block _ (by simp) (fun h => h)).trans (World.alloc_heap_new w _)
 have hp1 : Pure w W1 := by rw [← hW1]; exact ((Pure.refl w).alloc _).alloc _
 have hz1 : W1.heap.size = w.heap.size + 2 := by rw [← hW1]; simp
 have hmark : ({ wd [] a with defers := [{ target := .collected w.heap.size, args := #[] }] ++ (wd [] a).defers } : Act) = wd (markD w.heap.size) a := by simp [wd, ha.defers]
 refine ⟨w.heap.size + 1, [{ target := .collected w.heap.size, args := #[] }], W1, { target := .fn (.func gf) lb, args := #[.func (.yield (w.heap.size + 1)) #[] #[]] }, W1, gf,
  #[.func (.yield (w.heap.size + 1)) #[] #[]] ++ lb, W1, ?_, ?_, fun _ _ => trivial, ?_, fun h => (by cases h), ?_⟩
 ·rw [← hW1, hrec]; exact run_enterLoop_outer _ _ _ _ _
 ·have hg' : (wd [] a).eval g = .func (.func gf) #[] lb := by rw [wd_eval, ha.eval]; exact hg
  simp only [resolve, hg']
  simp [go_sem]
 ·simp [invoke, go_sem, eg]
 rw [hmark]
 refine callsIn_wide.2 ((hseq (w.heap.size + 1) (fun b => S0 b ∨ b = w.heap.size ∨ b = w.heap.size + 1)
  (fun k X V => ∃ Xi, (∀ b, X b ↔ Xi b ∨ b = w.heap.size ∨ b = w.heap.size + 1) ∧ (∀ b, Xi b → b ≠ w.heap.size ∧ b ≠ w.heap.size + 1) ∧ I k Xi V ∧ V.heap[w.heap.size + 1]? = some (.loop (rec .ready none)) ∧ V.heap[w.heap.size]? = some (.deferred (some [])))
  W1 (hw0.trans hp1) ?_ ?_ ?_ ⟨S0, fun _ => Iff.rfl, fun b hb => by have := (hS0 b hb).2; omega, hI _ _ _ _ h0 (hp1.chg _), hL1, hK1⟩).mono ?_)
 ·rintro b (hb | rfl | rfl)
  ·exact ⟨(hS0 b hb).1, by have := (hS0 b hb).2; omega⟩
  ·exact ⟨fun h => (by have := hM _ h; omega), by omega⟩
  exact ⟨fun h => (by have := hM _ h; omega), by omega⟩
 ·rintro k X V V' ⟨Xi, hX, hXi, h1, h2, h3⟩ hp
  refine ⟨Xi, hX, hXi, hI _ _ _ _ h1 (hp.mono fun b _ hb => ⟨by have := hb.1; omega, fun h => hb.2 ((hX b).2 (.inl h))⟩), ?_, ?_⟩
  ·exact (hp.block _ (Array.getElem?_eq_some_iff.1 h2).1 (fun h => h.2 ((hX _).2 (.inr (.inr Z))))).trans h2
  exact (hp.block _ (Array.getElem?_eq_some_iff.1 h3).1 (fun h => h.2 ((hX _).2 (.inr (.inl Z))))).trans h3
 ·-- ONE ROUND
  rintro k X args V hkn hx ⟨Xi, hX, hXi, hi, hl, hk⟩ hsV
  have hlt : w.heap.size + 1 < V.heap.size := (Array.getElem?_eq_some_iff.1 hl).1
  have hsz : args.size = ps.size := hps _ args _ hx
  have hy := run_yield (P := P) (args := args) hl (by rw [hrec]; exact hsz)
  rw [hrec] at hy
  refine ⟨fn, _, assign, body, hy, roundIn_of_wpIn hfn ?_⟩
  have hfit : Fit N (setArgs ρ (ps.zip args).toList) { tmps := (ps.zip args).foldl (fun tmps (t, a) => tmps.setIfInBounds t a) a.tmps, defers := [] } := by
   have := fit_args (N := N) (ps.zip args).toList ρ a.tmps (fun p hp => by
    rw [Array.toList_zip] at hp
    exact hN _ (List.of_mem_zip hp).1) ⟨ha.size, ha.get, Z⟩
   rw [Array.foldl_toList] at this
   exact this
  rw [Array.toList_zip] at hfit
  have hr := hround k Xi args V hkn hx hi (by omega) _ hfit
  refine wpIn_mono hr fun e a1 V1 q => ?_
  obtain ⟨a1, rfl, q⟩ := q
  cases e with
  | normal =>
   obtain ⟨ρ1, hf1, _, rfl, hb⟩ := q
   have hl2 : (V1.putObj (w.heap.size + 1) (.loop { rec .ready none with state := .busy })).heap[w.heap.size + 1]? = some (.loop { rec .ready none with state := .busy }) := World.putObj_heap_same hlt
   have hk2 : (V1.putObj (w.heap.size + 1) (.loop { rec .ready none with state := .busy })).heap[w.heap.size]? = some (.deferred (some [])) := (World.putObj_heap_other (by omega)).trans hk
   refine ⟨_, run_beginRound hl (by rw [hrec]), ?_⟩
   obtain ⟨V2, hV2⟩ : ∃ V2, V1.putObj (w.heap.size + 1) (.loop { rec .ready none with state := .busy }) = V2 := ⟨_, rfl⟩
   have hz2 : V2.heap.size = V1.heap.size := by rw [← hV2, World.putObj_size]
   have hc2 : Chg (fun b => b = w.heap.size + 1) V1 V2 := by rw [← hV2]; exact chg_putObj _ _ rfl
   have hi2 : I k Xi V2 := hI _ _ _ _ hi (hc2.mono fun b _ h => by subst h; exact ⟨by omega, fun h => (hXi _ h).2 rfl⟩)
   have ha2 : A k args V2 := hA _ _ _ _ hx fun p v hv => by
    have hb := hc2.block p.block (World.block_lt_of_cell? _ p hv) (fun h => by
     unfold World.cell? at hv
     rw [h, hl] at hv
     cases hv)
    unfold World.cell? at *
    rw [hb]; exact hv
   rw [hV2] at hl2 hk2 ⊢
   have hlt2 : w.heap.size + 1 < V2.heap.size := (Array.getElem?_eq_some_iff.1 hl2).1
   refine wpIn_mono (hb V2 ha2 hi2 (by omega) a1 hf1) fun e a3 V3 q => ?_
   obtain ⟨a3, rfl, q⟩ := q
   cases e with
   | normal =>
    obtain ⟨ρ3, _, hc, hi3⟩ := q
    have hl3 : V3.heap[w.heap.size + 1]? = some (.loop { rec .ready none with state := .busy }) := (hc.block _ hlt2 (fun h => (hXi _ h).2 rfl)).trans hl2
    have hk3 : V3.heap[w.heap.size]? = some (.deferred (some [])) := (hc.block _ (by omega) (fun h => (hXi _ h).1 rfl)).trans hk2
    have h1 := run_endRound (P := P) none hl3
    have h2 : (V3.putObj (w.heap.size + 1) (.loop (rec .ready none))).heap[w.heap.size + 1]? = some (.loop (rec .ready none)) := World.putObj_heap_same (Array.getElem?_eq_some_iff.1 hl3).1
    have h3 : (V3.putObj (w.heap.size + 1) (.loop (rec .ready none))).heap[w.heap.size]? = some (.deferred (some [])) := (World.putObj_heap_other (by omega)).trans hk3
    have hz4 : (V3.putObj (w.heap.size + 1) (.loop (rec .ready none))).heap.size = V3.heap.size := by rw [World.putObj_size]
    have hn : ∀ b, ownX Xi V2 V3 b → b ≠ w.heap.size ∧ b ≠ w.heap.size + 1 := fun b hb => by
     rcases hb with hb | hb
     ·exact hXi _ hb
     omega
    have h1' : (Instr.endRound (w.heap.size + 1) none).run P V3 = .ok (.bool true) (V3.putObj (w.heap.size + 1) (.loop (rec .ready none))) := by rw [hrec] at h1 ⊢; exact h1
    refine ⟨_, _, h1', Z, ⟨ownX Xi V2 V3, fun b => ?_, hn, hI _ _ _ _ hi3 (chg_putObj _ _ ⟨by omega, fun h => (hn _ h).2 Z⟩), ?_, ?_⟩, ?_⟩
    ·show ownX X V1 _ b ↔ _
     unfold ownX
     rw [World.putObj_size, hX, hz2]
     constructor
     ·rintro ((h | h) | h)
      ·exact .inl (.inl h)
      ·exact .inr h
      exact .inl (.inr h)
     rintro ((h | h) | h)
     ·exact .inl (.inl h)
     ·exact .inr h
     exact .inl (.inr h)
    ·rw [hrec] at h2 ⊢; exact h2
    ·rw [hrec] at h3 ⊢; exact h3
    have c1 : Chg X V1 V2 := hc2.mono fun b _ h => (hX b).2 (.inr (.inr h))
    have c2 : Chg X V2 V3 := hc.mono fun b _ h => (hX b).2 (.inl h)
    exact (c1.trans c2).trans (chg_putObj _ _ ((hX _).2 (.inr (.inr Z))))
   | exit i => obtain ⟨ρ3, _, h⟩ := q; exact h.elim
   | goto l => obtain ⟨ρ3, _, h⟩ := q; exact h.elim
   | ret => obtain ⟨ρ3, _, h⟩ := q; exact h.elim
   | panic c => exact False.elim q.2
   | outgrown => exact q.elim
  | exit i => obtain ⟨ρ1, _, h, _⟩ := q; cases h
  | goto l => obtain ⟨ρ1, _, h, _⟩ := q; cases h
  | ret => obtain ⟨ρ1, _, h, _⟩ := q; cases h
  | panic c => obtain ⟨_, h, _⟩ := q; cases h
  | outgrown => exact q.elim
 rintro e W3 ⟨⟨v, rfl⟩, X, Xi, hX, hXi, hi, hl, hk⟩
 refine ⟨_, _, run_endLoop hl (by rw [hrec]; simp), ?_⟩
 rw [hrec]
 exact hdone _ _ (hI _ _ _ _ hi (chg_putObj _ _ ⟨by omega, fun h => (hXi _ h).2 Z⟩)) ((World.putObj_heap_other (by omega)).trans hk) a ha
end
end Go.Proofs.YtnckdmogdehnoaaGreatDoor
