/- Texts of the proof, merged: SxB, ModLaw, Mod1, Mod2, Mod3, Mod4, Mod5, ModLaw2, Mod6, SxD, KeyLaw, Sxv, Str1. -/
import Derived.Test.YtkkmokodaejheaaDoorPSxA
import Derived.Scope
import Derived.Test.YtkkmokodaejheaaDoorPReg
import Derived.Test.YtkkmokodaejheaaDoorProg
import Derived.Test.YtkkmokodaejheaaDoorShelf
import Derived.Laws.IdiomStrings
import Derived.Laws.MakeOwn
set_option linter.unusedVariables false
set_option linter.unusedSimpArgs false
set_option linter.unusedSectionVars false
namespace Go.Proofs.YtkkmokodaejheaaDoor
open Go
set_option linter.unusedVariables false
set_option linter.unusedSimpArgs false
theorem Ef {P : Program} {w : World} {r c : Nat} {es : Array MapEntry} (h : w.heap[r]? = some (.map es c)) : (getObj r).run P w = .ok (.map es c) w := by simp [getObj, Sem.run, h]
def KQ (w : World) (r : Nat) (o : Obj) : World := { w with heap := w.heap.setIfInBounds r o }
theorem KS {P : Program} {w : World} {r c : Nat} {es : Array MapEntry} (o : Obj) (h : w.heap[r]? = some (.map es c)) : (setObj r o).run P w = .ok () (KQ w r o) := by simp [setObj, Sem.run, h, KQ]
def Oh (es : List MapEntry) (m : List (Int × Value)) : Prop := es.map (fun e => (e.key, e.val)) = m.map (fun p => (Value.int .i64 p.1, p.2))
theorem Oh.len {es : List MapEntry} {m : List (Int × Value)} (h : Oh es m) : es.length = m.length := by
 have := congrArg List.length h
 simpa using this
theorem Gn {q : IntKind} {a : Int} : ∀ (es : List MapEntry) (m : List (Int × Value)) (i : Nat), Oh es m →
  ((∀ p ∈ m, p.1 ≠ a) ∧ Instr.findNow (.int q) (.int .i64 a) es i = some none) ∨ ∃ j v, m[j]? = some (a, v) ∧ Instr.findNow (.int q) (.int .i64 a) es i = some (some (i + j, v))
 | [], [], i, _ => .inl ⟨by simp, rfl⟩
 | [], _ :: _, i, h => by simp [Oh] at h
 | _ :: _, [], i, h => by simp [Oh] at h
 | e :: es, p :: m, i, h => by
  simp only [Oh, List.map_cons, List.cons.injEq, Prod.mk.injEq] at h
  obtain ⟨⟨h1, h2⟩, h3⟩ := h
  by_cases hp : p.1 = a
  ·refine .inr ⟨0, p.2, by rw [← hp]; rfl, ?_⟩
   simp [Instr.findNow, h1, Instr.sameNow, hp, h2]
  ·have hne : (a == p.1) = false := by simpa using fun e => hp e.symm
   rcases Gn es m (i + 1) h3 with ⟨g1, g2⟩ | ⟨j, v, g1, g2⟩
   ·refine .inl ⟨fun x hx => ?_, ?_⟩
    ·rcases List.mem_cons.1 hx with rfl | hx
     ·exact hp
     ·exact g1 x hx
    ·simp only [Instr.findNow, h1, Instr.sameNow, if_true, hne]
     exact g2
   ·refine .inr ⟨j + 1, v, by simpa using g1, ?_⟩
    simp only [Instr.findNow, h1, Instr.sameNow, if_true, hne]
    rw [g2, show i + 1 + j = i + (j + 1) by omega]
structure Nl (w : World) (b : Nat) (g : Int → Option Value) : Prop where
 ex : ∃ (es : Array MapEntry) (clk : Nat) (m : List (Int × Value)), w.heap[b]? = some (.map es clk) ∧ Oh es.toList m ∧ (m.map (·.1)).Nodup ∧ ∀ a v, (a, v) ∈ m ↔ g a = some v
def IZ (b : Nat) (g : Int → Option Value) : Ent := ⟨fun k => k = b, fun w => Nl w b g⟩
theorem IZ.ok {w : World} {b : Nat} {g : Int → Option Value} (h : Nl w b g) : (IZ b g).ok w := by
 refine Ent.mk_ok h (fun k hk => ?_) (fun S w1 w2 hc hS h1 => ?_)
 ·obtain ⟨es, clk, m, h1, _⟩ := h.ex
  have : k = b := hk
  subst this
  rcases Nat.lt_or_ge k w.heap.size with h2 | h2
  ·exact h2
  ·simp [Array.getElem?_eq_none h2] at h1
 ·obtain ⟨es, clk, m, h2, h3⟩ := h1.ex
  have hlt : b < w1.heap.size := by
   rcases Nat.lt_or_ge b w1.heap.size with h4 | h4
   ·exact h4
   ·simp [Array.getElem?_eq_none h4] at h2
  exact ⟨es, clk, m, (hc.block b hlt (hS b rfl)).trans h2, h3⟩
theorem key_inj {m : List (Int × Value)} (hn : (m.map (·.1)).Nodup) {i j : Nat} {a : Int} {u v : Value} (hi : m[i]? = some (a, u)) (hj : m[j]? = some (a, v)) : i = j := by
 have h1 : (m.map (·.1))[i]? = some a := by simp [hi]
 have h2 : (m.map (·.1))[j]? = some a := by simp [hj]
 exact (List.getElem?_inj (List.getElem?_eq_some_iff.1 h1).1 hn).1 (h1.trans h2.symm)
theorem Js {w : World} {b : Nat} {o : Obj} (h : b < w.heap.size) : (KQ w b o).heap[b]? = some o := by simp [KQ, h]
theorem Pt (w : World) (b : Nat) (o : Obj) : Chg (fun k => k = b) w (KQ w b o) :=
 ⟨rfl, rfl, rfl, by simp [KQ], fun k hk hs => by
  have : b ≠ k := fun e => hs e.symm
  simp [KQ, Array.getElem?_setIfInBounds, this]⟩
section
variable {P : Program} {N : Nat} {ops : Array Oper} {Q : A9} {rest : List Oper} {ρ : Env} {o : Oper} {w0 w w' : World} {S : Nat → Prop} {H : List Ent} {d t kt et b : Nat} {q : IntKind} {g : Int → Option Value} {x y z : Operand} {a : Int} {v zv : Value}
theorem Wd (hI : Inv S w0 w H) (hw : Ag ops ρ o = true) (hd : o.dst = some d) (hN : Nat.blt d N = true) (ho : o.op = .makeMap t none)
  (h : ∀ b w', Inv S w0 w' (IZ b (fun _ => none) :: H) → WL P N ops Q rest (upd ρ d (.map (some b))) w') : WL P N ops Q (o :: rest) ρ w :=
 Fg hw hd hN (v := .map (some w.heap.size)) (w' := w.alloc (.map #[] 0)) (by simp [execOp, ho, Instr.makeMap])
  (h _ _ (hI.fresh ((Pure.refl w).alloc _) (IZ.ok ⟨#[], 0, [], by show (w.heap.push _)[w.heap.size]? = _; simp, rfl, by simp, by simp⟩) (fun k hk => by have : k = w.heap.size := hk; omega)))
theorem Nf {em : Bool} (hk : P.underlying kt = some (.int q)) : (Instr.checkKey em 10000 kt (.int .i64 a)).run P w = .ok () w := by
 show (Instr.checkKey em (Nat.succ 9999) kt (.int .i64 a)).run P w = .ok () w
 rw [Instr.checkKey]
 simp [run_underlying hk]
theorem Aae (ho : o.op = .lookup t x y true) (ht : P.underlying t = some (.map kt et)) (hk : P.underlying kt = some (.int q)) (hz : (P.info? et).bind (·.zero) = some zv) (hx : ev ρ x = .map (some b)) (hy : ev ρ y = .int .i64 a) (hM : Nl w b g) :
  Ar P ρ o w (.tuple #[(g a).getD zv, .bool (g a).isSome]) := by
 obtain ⟨es, clk, m, h1, h2, h3, h4⟩ := hM.ex
 have hzv : (zeroValue et).run P w = .ok zv w := by
  cases hi : P.info? et with
  | none => simp [hi] at hz
  | some i => simp only [hi, Option.bind_some] at hz; simp [zeroValue, typeInfo, hi, hz]
 have hc := Nf (P := P) (w := w) (a := a) (em := es.isEmpty) hk
 rcases Gn (q := q) (a := a) es.toList m 0 h2 with ⟨g1, g2⟩ | ⟨j, u, g1, g2⟩
 ·have hg : g a = none := by
   cases hga : g a with
   | none => rfl
   | some u => exact absurd rfl (g1 _ ((h4 a u).2 hga))
  simp [Ar, execOp, ho, hx, hy, Instr.lookup, run_underlying ht, Ef h1, hc, Instr.findKey, run_underlying hk, g2, hzv, hg]
 ·have hg : g a = some u := (h4 a u).1 (List.mem_of_getElem? g1)
  simp [Ar, execOp, ho, hx, hy, Instr.lookup, run_underlying ht, Ef h1, hc, Instr.findKey, run_underlying hk, g2, hg]
theorem Qh (ho : o.op = .mapUpdate t x y z) (ht : P.underlying t = some (.map kt et)) (hk : P.underlying kt = some (.int q)) (hx : ev ρ x = .map (some b)) (hy : ev ρ y = .int .i64 a) (hz : ev ρ z = v) (hM : Nl w b g) :
  ∃ o', (execOp (ev ρ) o).run P w = .ok .skip (KQ w b o') ∧ Nl (KQ w b o') b (fun i => if i = a then some v else g i) := by
 obtain ⟨es, clk, m, h1, h2, h3, h4⟩ := hM.ex
 have hlt : b < w.heap.size := by
  rcases Nat.lt_or_ge b w.heap.size with h5 | h5
  ·exact h5
  ·simp [Array.getElem?_eq_none h5] at h1
 have hc := Nf (P := P) (w := w) (a := a) (em := false) hk
 rcases Gn (q := q) (a := a) es.toList m 0 h2 with ⟨g1, g2⟩ | ⟨j, u, g1, g2⟩
 ·refine ⟨.map (es.push { key := .int .i64 a, val := v, born := clk }) (clk + 1), ?_, ?_⟩
  ·simp [execOp, ho, hx, hy, hz, Instr.mapUpdate, run_underlying ht, Ef h1, hc, Instr.findKey, run_underlying hk, g2, KS _ h1]
  ·refine ⟨_, _, m ++ [(a, v)], Js hlt, ?_, ?_, fun i u => ?_⟩
   ·unfold Oh at h2 ⊢
    simp [h2]
   ·rw [List.map_append, List.nodup_append]
    refine ⟨h3, by simp, fun i hi j hj => ?_⟩
    simp only [List.map_cons, List.map_nil, List.mem_singleton] at hj
    obtain ⟨p, hp, rfl⟩ := List.mem_map.1 hi
    rw [hj]
    exact g1 p hp
   ·rw [List.mem_append, List.mem_singleton]
    by_cases hia : i = a
    ·subst hia
     rw [if_pos rfl]
     constructor
     ·rintro (hh | hh)
      ·exact absurd rfl (g1 _ hh)
      ·injection hh with _ hh; rw [hh]
     ·intro hh; injection hh with hh; exact .inr (by rw [hh])
    ·rw [if_neg hia, ← h4]
     constructor
     ·rintro (hh | hh)
      ·exact hh
      ·injection hh with hh _; exact absurd hh hia
     ·exact .inl
 ·have hjl := (List.getElem?_eq_some_iff.1 g1).1
  have hlen := h2.len
  have hej : ∃ e, es[j]? = some e ∧ e.key = .int .i64 a := by
   have hj' : j < es.toList.length := by omega
   refine ⟨es.toList[j], by simp, ?_⟩
   have := congrArg (fun l => l[j]?) h2
   simp only [List.getElem?_map, g1, List.getElem?_eq_getElem hj', Option.map_some, Option.some.injEq, Prod.mk.injEq] at this
   exact this.1
  obtain ⟨e, he, hek⟩ := hej
  refine ⟨.map (es.modify j fun e => { e with key := .int .i64 a, val := v }) clk, ?_, ?_⟩
  ·have hst : (Instr.keyThatStays (.int .i64 a) (.int .i64 a)).run P w = .ok (.int .i64 a) w := by simp [Instr.keyThatStays, Instr.sameBits]
   simp [execOp, ho, hx, hy, hz, Instr.mapUpdate, run_underlying ht, Ef h1, hc, Instr.findKey, run_underlying hk, g2, he, hek, hst, KS _ h1]
  ·refine ⟨_, _, m.set j (a, v), Js hlt, ?_, ?_, fun i u' => ?_⟩
   ·unfold Oh at h2 ⊢
    refine List.ext_getElem? fun i => ?_
    have hi := congrArg (fun l => l[i]?) h2
    simp only [List.getElem?_map, Array.getElem?_toList, Array.getElem?_modify, List.getElem?_set] at hi ⊢
    by_cases hij : j = i
    ·subst hij
     simp [he, hjl]
    ·simp only [hij, if_false]
     exact hi
   ·rw [List.map_set]
    have : (m.map (·.1)).set j a = m.map (·.1) := by
     refine List.ext_getElem? fun i => ?_
     rw [List.getElem?_set]
     by_cases hij : j = i
     ·subst hij
      have hmj := (List.getElem?_eq_some_iff.1 g1).2
      simp [hjl, hmj]
     ·simp [hij]
    simpa [this] using h3
   ·have key : (i, u') ∈ m.set j (a, v) ↔ (i = a ∧ u' = v) ∨ (i ≠ a ∧ (i, u') ∈ m) := by
     constructor
     ·intro hm
      obtain ⟨k, hk'⟩ := List.getElem?_of_mem hm
      rw [List.getElem?_set] at hk'
      by_cases hjk : j = k
      ·rw [if_pos hjk, if_pos hjl] at hk'
       injection hk' with hk'
       injection hk' with e1 e2
       exact .inl ⟨e1.symm, e2.symm⟩
      ·rw [if_neg hjk] at hk'
       refine .inr ⟨fun e1 => hjk ?_, List.mem_of_getElem? hk'⟩
       subst e1
       exact key_inj h3 g1 hk'
     ·rintro (⟨rfl, rfl⟩ | ⟨hne, hm⟩)
      ·exact List.mem_of_getElem? (i := j) (by rw [List.getElem?_set, if_pos rfl, if_pos hjl])
      ·obtain ⟨k, hk'⟩ := List.getElem?_of_mem hm
       have hjk : j ≠ k := fun e1 => by subst e1; rw [g1] at hk'; injection hk' with hk'; injection hk' with e1 _; exact hne e1.symm
       exact List.mem_of_getElem? (i := k) (by rw [List.getElem?_set, if_neg hjk]; exact hk')
    rw [key]
    by_cases hia : i = a
    ·rw [if_pos hia]
     simp [hia, eq_comm]
    ·rw [if_neg hia, ← h4]
     simp [hia]
theorem SE (i : Nat) (hi : H[i]? = some (IZ b g)) (hI : Inv S w0 w H) (hw : Ag ops ρ o = true) (hd : o.dst = none) (ho : o.op = .mapUpdate t x y z) (ht : P.underlying t = some (.map kt et)) (hk : P.underlying kt = some (.int q)) (hx : ev ρ x = .map (some b)) (hy : ev ρ y = .int .i64 a) (hz : ev ρ z = v)
  (h : ∀ w', Inv S w0 w' (H.set i (IZ b (fun j => if j = a then some v else g j))) → WL P N ops Q rest ρ w') : WL P N ops Q (o :: rest) ρ w := by
 have hM : Nl w b g := (hI.ok _ (List.mem_of_getElem? hi)).1
 obtain ⟨o', h1, h2⟩ := Qh (P := P) ho ht hk hx hy hz hM
 exact IW hw hd h1 (h _ (hI.upd i hi (Pt w b o') (IZ.ok h2) (fun _ hk => .inl hk)))
end
end Go.Proofs.YtkkmokodaejheaaDoor
namespace Go.Proofs.YtkkmokodaejheaaDoor
open Go
set_option linter.unusedVariables false
set_option linter.unusedSimpArgs false
section
variable {P : Program} {ρ : Env} {o : Oper} {w : World} {x y z : Operand} {v : Value} {t t' : TypeId}
end
end Go.Proofs.YtkkmokodaejheaaDoor
namespace Go.Proofs.YtkkmokodaejheaaDoor
open Go
set_option linter.unusedVariables false
section
variable {P : Program} {N : Nat} {ops : Array Oper} {Q : A9} {rest : List Oper} {ρ : Env} {o : Oper} {w0 w w' : World} {S : Nat → Prop} {H : List Ent} {d g t tt : Nat} {cs : Array Value} {v : Value}
end
end Go.Proofs.YtkkmokodaejheaaDoor
namespace Go.Proofs.YtkkmokodaejheaaDoor
open Go
set_option linter.unusedVariables false
def Ent.nil : Ent := ⟨fun _ => False, fun _ => True⟩
theorem Ent.nil_ok (w : World) : Ent.nil.ok w := ⟨trivial, fun _ h => h.elim, fun _ _ _ _ _ _ => trivial⟩
def QQ (n : Nat) (es : Nat → Ent) : Prop := ∀ i j, i < n → j < n → i ≠ j → ∀ k, (es i).D k → ¬ (es j).D k
def AY (n : Nat) (es : Nat → Ent) : Ent := ⟨fun k => ∃ i, i < n ∧ (es i).D k, fun w => (∀ i, i < n → (es i).ok w) ∧ QQ n es⟩
theorem AY.ok {w : World} {n : Nat} {es : Nat → Ent} (h : ∀ i, i < n → (es i).ok w) (ha : QQ n es) : (AY n es).ok w :=
 ⟨⟨h, ha⟩, fun k ⟨i, hi, hk⟩ => (h i hi).2.1 k hk, fun S w1 w2 hc hS h1 => ⟨fun i hi => (h1.1 i hi).chg hc (fun k hk => hS k ⟨i, hi, hk⟩), ha⟩⟩
section
variable {S : Nat → Prop} {w0 w : World} {H : List Ent} {e : Ent} {n i : Nat} {es : Nat → Ent}
theorem Inv.many_nil (h : Inv S w0 w H) (es : Nat → Ent) : Inv S w0 w (AY 0 es :: H) :=
 h.fresh (Pure.refl w) (AY.ok (fun i hi => absurd hi (Nat.not_lt_zero i)) (fun i j hi => absurd hi (Nat.not_lt_zero i))) (fun k hk => by obtain ⟨i, hi, _⟩ := hk; exact absurd hi (Nat.not_lt_zero i))
theorem Inv.many_out (h : Inv S w0 w (AY n es :: H)) (hi : i < n) : Inv S w0 w (es i :: AY n (fun j => if j = i then Ent.nil else es j) :: H) := by
 have hm := h.ok (AY n es) (by simp)
 have hp := List.pairwise_cons.1 h.apart
 have hD : ∀ k, (AY n (fun j => if j = i then Ent.nil else es j)).D k → (AY n es).D k ∧ ¬ (es i).D k := by
  rintro k ⟨j, hj, hk⟩
  by_cases hji : j = i
  ·simp only [if_pos hji] at hk; exact hk.elim
  ·simp only [if_neg hji] at hk; exact ⟨⟨j, hj, hk⟩, hm.1.2 j i hj hi hji k hk⟩
 refine ⟨h.chg, fun x hx => ?_, fun x hx k hk => ?_, List.pairwise_cons.2 ⟨fun x hx k hk hxk => ?_, List.pairwise_cons.2 ⟨fun x hx k hk => hp.1 x hx k (hD k hk).1, hp.2⟩⟩⟩
 ·rcases List.mem_cons.1 hx with rfl | hx
  ·exact hm.1.1 i hi
  rcases List.mem_cons.1 hx with rfl | hx
  ·refine AY.ok (fun j hj => ?_) (fun a b ha hb hab k h1 h2 => ?_)
   ·by_cases hji : j = i
    ·simp only [if_pos hji]; exact Ent.nil_ok w
    ·simp only [if_neg hji]; exact hm.1.1 j hj
   ·by_cases hai : a = i
    ·simp only [if_pos hai] at h1; exact h1.elim
    ·by_cases hbi : b = i
     ·simp only [if_pos hbi] at h2; exact h2.elim
     ·simp only [if_neg hai] at h1; simp only [if_neg hbi] at h2; exact hm.1.2 a b ha hb hab k h1 h2
  ·exact h.ok x (by simp [hx])
 ·rcases List.mem_cons.1 hx with rfl | hx
  ·exact h.own (AY n es) (by simp) k ⟨i, hi, hk⟩
  rcases List.mem_cons.1 hx with rfl | hx
  ·exact h.own (AY n es) (by simp) k (hD k hk).1
  ·exact h.own x (by simp [hx]) k hk
 ·rcases List.mem_cons.1 hx with rfl | hx
  ·exact (hD k hxk).2 hk
  ·exact hp.1 x hx k ⟨i, hi, hk⟩ hxk
theorem Inv.many_in (h : Inv S w0 w (e :: AY n es :: H)) (hi : i < n) (hn : es i = Ent.nil) : Inv S w0 w (AY n (fun j => if j = i then e else es j) :: H) := by
 have hm := h.ok (AY n es) (by simp)
 have he := h.ok e (by simp)
 have hp := List.pairwise_cons.1 h.apart
 have hp2 := List.pairwise_cons.1 hp.2
 have hD : ∀ k, (AY n (fun j => if j = i then e else es j)).D k → e.D k ∨ (AY n es).D k := by
  rintro k ⟨j, hj, hk⟩
  by_cases hji : j = i
  ·simp only [if_pos hji] at hk; exact .inl hk
  ·simp only [if_neg hji] at hk; exact .inr ⟨j, hj, hk⟩
 have hap : QQ n (fun j => if j = i then e else es j) := by
  intro a b ha hb hab k h1 h2
  by_cases hai : a = i
  ·by_cases hbi : b = i
   ·exact hab (hai.trans hbi.symm)
   ·simp only [if_pos hai] at h1; simp only [if_neg hbi] at h2
    exact hp.1 (AY n es) (by simp) k h1 ⟨b, hb, h2⟩
  ·by_cases hbi : b = i
   ·simp only [if_neg hai] at h1; simp only [if_pos hbi] at h2
    exact hp.1 (AY n es) (by simp) k h2 ⟨a, ha, h1⟩
   ·simp only [if_neg hai] at h1; simp only [if_neg hbi] at h2; exact hm.1.2 a b ha hb hab k h1 h2
 refine ⟨h.chg, fun x hx => ?_, fun x hx k hk => ?_, List.pairwise_cons.2 ⟨fun x hx k hk => ?_, hp2.2⟩⟩
 ·rcases List.mem_cons.1 hx with rfl | hx
  ·refine AY.ok (fun j hj => ?_) hap
   by_cases hji : j = i
   ·simp only [if_pos hji]; exact he
   ·simp only [if_neg hji]; exact hm.1.1 j hj
  ·exact h.ok x (by simp [hx])
 ·rcases List.mem_cons.1 hx with rfl | hx
  ·rcases hD k hk with hk | hk
   ·exact h.own e (by simp) k hk
   ·exact h.own (AY n es) (by simp) k hk
  ·exact h.own x (by simp [hx]) k hk
 ·rcases hD k hk with hk | hk
  ·exact hp.1 x (by simp [hx]) k hk
  ·exact hp2.1 x hx k hk
theorem Inv.many_more (h : Inv S w0 w (AY n es :: H)) : Inv S w0 w (AY (n + 1) (fun j => if j = n then Ent.nil else es j) :: H) := by
 have hm := h.ok (AY n es) (by simp)
 have hp := List.pairwise_cons.1 h.apart
 have hD : ∀ k, (AY (n + 1) (fun j => if j = n then Ent.nil else es j)).D k → (AY n es).D k := by
  rintro k ⟨j, hj, hk⟩
  by_cases hji : j = n
  ·simp only [if_pos hji] at hk; exact hk.elim
  ·simp only [if_neg hji] at hk; exact ⟨j, by omega, hk⟩
 refine ⟨h.chg, fun x hx => ?_, fun x hx k hk => ?_, List.pairwise_cons.2 ⟨fun x hx k hk => hp.1 x hx k (hD k hk), hp.2⟩⟩
 ·rcases List.mem_cons.1 hx with rfl | hx
  ·refine AY.ok (fun j hj => ?_) (fun a b ha hb hab k h1 h2 => ?_)
   ·by_cases hji : j = n
    ·simp only [if_pos hji]; exact Ent.nil_ok w
    ·simp only [if_neg hji]; exact hm.1.1 j (by omega)
   ·by_cases hai : a = n
    ·simp only [if_pos hai] at h1; exact h1.elim
    ·by_cases hbi : b = n
     ·simp only [if_pos hbi] at h2; exact h2.elim
     ·simp only [if_neg hai] at h1; simp only [if_neg hbi] at h2; exact hm.1.2 a b (by omega) (by omega) hab k h1 h2
  ·exact h.ok x (by simp [hx])
 ·rcases List.mem_cons.1 hx with rfl | hx
  ·exact h.own (AY n es) (by simp) k (hD k hk)
  ·exact h.own x (by simp [hx]) k hk
theorem Inv.many_congr {es' : Nat → Ent} (h : Inv S w0 w (AY n es :: H)) (he : ∀ i, i < n → es i = es' i) : Inv S w0 w (AY n es' :: H) := by
 have hm := h.ok (AY n es) (by simp)
 have hp := List.pairwise_cons.1 h.apart
 have hD : ∀ k, (AY n es').D k → (AY n es).D k := fun k ⟨j, hj, hk⟩ => ⟨j, hj, by rw [he j hj]; exact hk⟩
 refine ⟨h.chg, fun x hx => ?_, fun x hx k hk => ?_, List.pairwise_cons.2 ⟨fun x hx k hk => hp.1 x hx k (hD k hk), hp.2⟩⟩
 ·rcases List.mem_cons.1 hx with rfl | hx
  ·exact AY.ok (fun j hj => by rw [← he j hj]; exact hm.1.1 j hj) (fun a b ha hb hab k h1 h2 => hm.1.2 a b ha hb hab k (by rw [he a ha]; exact h1) (by rw [he b hb]; exact h2))
  ·exact h.ok x (by simp [hx])
 ·rcases List.mem_cons.1 hx with rfl | hx
  ·exact h.own (AY n es) (by simp) k (hD k hk)
  ·exact h.own x (by simp [hx]) k hk
theorem Inv.many_push (h : Inv S w0 w (e :: AY n es :: H)) : Inv S w0 w (AY (n + 1) (fun j => if j = n then e else es j) :: H) := by
 have h1 := (h.sw0.many_more).sw0.many_in (i := n) (by omega) (by simp)
 refine h1.many_congr fun i hi => ?_
 by_cases hin : i = n
 ·simp [hin]
 ·simp [hin]
theorem Inv.many_at (h : Inv S w0 w (AY n es :: H)) (hi : i < n) : (es i).Φ w := ((h.ok (AY n es) (by simp)).1.1 i hi).1
theorem Inv.lit0 {g t : Nat} {news : List Value} (hI : Inv S w0 w (B g t news.toArray :: H)) : ∀ (k : Nat) (u : Value), news[k]? = some u → w.cell? ⟨g, 0 + k, none⟩ = some u := fun k u hk => by
 rw [Nat.zero_add]
 exact hI.cell 0 rfl (by simpa using hk)
theorem Inv.app {w' : World} {H' : List Ent} (h : Inv S w0 w H) (h' : Inv (fun _ => False) w w' H') : Inv S w0 w' (H' ++ H) := by
 have hp := h.pure h'.pu
 have hge : ∀ e ∈ H', ∀ k, e.D k → w.heap.size ≤ k := fun e he k hk => (h'.own e he k hk).resolve_left (fun h => h)
 refine ⟨hp.chg, fun e he => ?_, fun e he k hk => ?_, List.pairwise_append.2 ⟨h'.apart, h.apart, fun a ha b hb k h1 h2 => ?_⟩⟩
 ·rcases List.mem_append.1 he with he | he
  ·exact h'.ok e he
  ·exact hp.ok e he
 ·rcases List.mem_append.1 he with he | he
  ·exact .inr (Nat.le_trans h.chg.size (hge e he k hk))
  ·exact h.own e he k hk
 ·have e1 := hge a ha k h1
  have e2 := (h.ok b hb).2.1 k h2
  omega
theorem Inv.app1 {w' : World} {a : Ent} (h : Inv S w0 w H) (h' : Inv (fun _ => False) w w' [a]) : Inv S w0 w' (a :: H) := h.app h'
end
end Go.Proofs.YtkkmokodaejheaaDoor
namespace Go.Proofs.YtkkmokodaejheaaDoor
open Go
set_option linter.unusedVariables false
section
variable {P : Program} {N : Nat} {Q : A9} {ρ : Env} {w : World} {o : Oper} {x y : Operand} {t t' : TypeId}
theorem MC {a b : Nat} (ho : o.op = .binOp .sub t x y t') (hx : ev ρ x = .int .i64 (a : Int)) (hy : ev ρ y = .int .i64 (b : Int)) (hb : b ≤ a) (h : a ≤ 9223372036854775807) : Ar P ρ o w (.int .i64 ((a - b : Nat) : Int)) := by
 have := YT (P := P) (w := w) ho hx hy (by omega)
 rwa [show (a : Int) - (b : Int) = ((a - b : Nat) : Int) by omega] at this
theorem NT {p : Nat → Prop} (h : ∃ n, p n) : ∃ n, p n ∧ ∀ m, m < n → ¬ p m := by
 obtain ⟨n, hn⟩ := h
 induction n using Nat.strongRecOn with
 | ind n ih =>
  by_cases hm : ∃ m, m < n ∧ p m
  ·obtain ⟨m, h1, h2⟩ := hm; exact ih m h1 h2
  ·exact ⟨n, hn, fun m h1 h2 => hm ⟨m, h1, h2⟩⟩
theorem Ce {c : Code} (I : Nat → Env → World → Prop) (n0 : Nat) (h0 : I n0 ρ w)
  (h : ∀ n ρ w, I n ρ w → W P N c (Cy (fun ρ' w' => ∃ m, m < n ∧ I m ρ' w') Q) ρ w) : W P N (.loop c) Q ρ w := by
 classical
 let μ : Env → World → Nat := fun ρ w => if hx : ∃ n, I n ρ w then Classical.choose (NT hx) else 0
 have hμ : ∀ ρ w, (∃ n, I n ρ w) → I (μ ρ w) ρ w ∧ ∀ m, I m ρ w → μ ρ w ≤ m := fun ρ w hx => by
  have hs := Classical.choose_spec (NT hx)
  have he : μ ρ w = Classical.choose (NT hx) := dif_pos hx
  rw [he]
  refine ⟨hs.1, fun m hm => ?_⟩
  rcases Nat.lt_or_ge m (Classical.choose (NT hx)) with h1 | h1
  ·exact absurd hm (hs.2 m h1)
  ·exact h1
 refine Ff (fun ρ w => ∃ n, I n ρ w) μ ⟨n0, h0⟩ fun ρ w hI => ?_
 refine Oa (h _ ρ w (hμ ρ w hI).1) fun e ρ' w' q => ?_
 cases e <;> first | exact q | (obtain ⟨m, h1, h2⟩ := q; exact ⟨⟨m, h2⟩, Nat.lt_of_le_of_lt ((hμ ρ' w' ⟨m, h2⟩).2 m h2) h1⟩)
end
theorem Yn {α : Type} {s : Nat} {f : α → List Value} (hf : ∀ a, (f a).length = s) : ∀ (xs : List α) (m : Nat) (a : α), xs[m]? = some a → ∀ j, j < s → (xs.flatMap f)[m * s + j]? = (f a)[j]?
 | [], m, a, h, _, _ => by simp at h
 | x :: xs, 0, a, h, j, hj => by
  simp at h; subst h
  rw [List.flatMap_cons, List.getElem?_append_left (by rw [hf]; omega), Nat.zero_mul, Nat.zero_add]
 | x :: xs, m + 1, a, h, j, hj => by
  rw [List.flatMap_cons, List.getElem?_append_right (by rw [hf, Nat.add_mul, Nat.one_mul]; omega), hf, show (m + 1) * s + j - s = m * s + j by rw [Nat.add_mul, Nat.one_mul]; omega]
  exact Yn hf xs m a (by simpa using h) j hj
theorem EB {w : World} {base e n c b o i s : Nat} {xs : List Value} {u : Value} (h : w.ownsRow base e s (.slice (some ⟨b, o, none⟩) n c) n xs) (hi : xs[i]? = some u) (hn : 0 < n) : w.cell? ⟨b, o + i, none⟩ = some u := by
 obtain ⟨b', o', h1, _, _, h2⟩ := (Rd.of_own (D := fun _ => True) h (fun _ _ _ => trivial)).get hi hn
 injection h1 with h1
 injection h1 with h1 h3
 subst h1 h3
 exact h2
theorem GG {w : World} {base e n c s : Nat} {A : Option Addr} {xs : List Value} (h : w.ownsRow base e s (.slice A n c) n xs) (hn : 0 < n) (hs : 0 < s) : ∃ b o, A = some ⟨b, o, none⟩ := by
 have hx : xs.length = n * s := h.1
 have : 0 < n * s := Nat.mul_pos hn hs
 obtain ⟨b', o', h1, _⟩ := (Rd.of_own (D := fun _ => True) h (fun _ _ _ => trivial)).get (List.getElem?_eq_getElem (show 0 < xs.length by omega)) hn
 exact ⟨b', o', h1⟩
end Go.Proofs.YtkkmokodaejheaaDoor
namespace Go.Proofs.YtkkmokodaejheaaDoor
open Go
set_option linter.unusedVariables false
set_option linter.unusedSimpArgs false
section
variable {P : Program} {N : Nat} {ops : Array Oper} {Q : A9} {rest : List Oper} {ρ : Env} {o : Oper} {w0 w : World} {S : Nat → Prop} {H : List Ent} {d t g : Nat}
end
section
variable {α : Type} {f : α → List Value} {s : Nat}
end
end Go.Proofs.YtkkmokodaejheaaDoor
namespace Go.Proofs.YtkkmokodaejheaaDoor
def DD (o k : Int) : Bool := (o == 1 && (k == 1 || k == 2 || k == 3)) || (o == 2 && (k == 4 || k == 5)) || (o == 3 && (k == 6 || k == 7 || k == 8)) || (o == 4 && (k == 9 || k == 10)) || (o == 5 && (k == 9 || k == 10)) || (o == 6 && (k == 11 || k == 12))
def Di (o : Int) : Bool := o == 1 || o == 2 || o == 6
def Bi (o : Int) : List Int := if Di o then [0] else []
def OV (b : Bool) : Int := if b then 1 else 0
def DX (l : List Int) (a : Int) : Nat := (l.filter (· < a)).length
def O9 (l : List Int) (a : Int) : List Int := l.take (DX l a) ++ a :: l.drop (DX l a)
def Pp (l : List Int) (a : Int) : List Int := l.take (DX l a) ++ l.drop (DX l a + 1)
def KV (n k a b : Int) : Int × Int := if k = 1 then (n, n) else if k = 2 then (a, 0) else if n = a then (b, 1) else (n, 0)
def Et (l : List Int) (k a : Int) : List Int × Int := if k = 6 ∧ a ∉ l then (O9 l a, 1) else if k = 7 ∧ a ∈ l then (Pp l a, 1) else (l, OV (decide (k = 8 ∧ a ∈ l)))
def CO (o : Int) (l : List Int) (k a : Int) : List Int × Int := if k = 9 then (l ++ [a], 0) else if l = [] then (l, -1) else if o = 4 then (l.drop 1, l.getD 0 0) else (l.take (l.length - 1), l.getD (l.length - 1) 0)
def BR (o : Int) (st : List Int) (k a b : Int) : Option (List Int × Int) :=
 if DD o k = false ∨ (Di o = true ∧ st.length ≠ 1) then none else
 if o = 1 then some ([(KV (st.getD 0 0) k a b).1], (KV (st.getD 0 0) k a b).2) else
 if o = 2 then some ([if k = 4 then IntKind.i64.wrap (st.getD 0 0 + a) else st.getD 0 0], if k = 4 then IntKind.i64.wrap (st.getD 0 0 + a) else st.getD 0 0) else
 if o = 3 then some (Et st k a) else
 if o = 6 then (if st.getD 0 0 = OV (k == 12) then some ([OV (k == 11)], 0) else none) else
 some (CO o st k a)
def OW (o : Int) (st : List Int) : Prop := o = 3 → st.Pairwise (· < ·)
theorem K3 (o : Int) : OW o (Bi o) := by
 intro h
 subst h
 simp [Bi, Di]
theorem Re (l : List Int) (a : Int) : DX l a ≤ l.length := List.length_filter_le ..
theorem Hl : ∀ (l : List Int) (a : Int), l.Pairwise (· < ·) → (∀ x ∈ l.take (DX l a), x < a) ∧ (∀ x ∈ l.drop (DX l a), a ≤ x)
 | [], a, _ => by simp
 | x :: l, a, h => by
  have hp := List.pairwise_cons.1 h
  by_cases hx : x < a
  ·have e : DX (x :: l) a = DX l a + 1 := by simp [DX, hx]
   obtain ⟨h1, h2⟩ := Hl l a hp.2
   rw [e, List.take_succ_cons, List.drop_succ_cons]
   refine ⟨fun y hy => ?_, h2⟩
   rcases List.mem_cons.1 hy with rfl | hy
   ·exact hx
   ·exact h1 y hy
  ·have e : DX (x :: l) a = 0 := by
    unfold DX
    rw [List.length_eq_zero_iff, List.filter_eq_nil_iff]
    intro y hy
    rcases List.mem_cons.1 hy with rfl | hy
    ·simpa using hx
    ·have := hp.1 y hy
     simp; omega
   rw [e, List.take_zero, List.drop_zero]
   refine ⟨fun y hy => by simp at hy, fun y hy => ?_⟩
   rcases List.mem_cons.1 hy with rfl | hy
   ·omega
   ·have := hp.1 y hy; omega
theorem O8 {l : List Int} {a : Int} (h : l.Pairwise (· < ·)) (hn : a ∉ l) : (O9 l a).Pairwise (· < ·) := by
 obtain ⟨h1, h2⟩ := Hl l a h
 unfold O9
 have hs : (l.take (DX l a) ++ l.drop (DX l a)).Pairwise (· < ·) := by rw [List.take_append_drop]; exact h
 obtain ⟨p1, p2, p3⟩ := List.pairwise_append.1 hs
 refine List.pairwise_append.2 ⟨p1, List.pairwise_cons.2 ⟨fun x hx => ?_, p2⟩, fun x hx y hy => ?_⟩
 ·have e1 := h2 x hx
  have e2 : a ≠ x := fun e => hn (e ▸ List.mem_of_mem_drop hx)
  omega
 ·rcases List.mem_cons.1 hy with rfl | hy
  ·exact h1 x hx
  ·exact p3 x hx y hy
theorem Po {l : List Int} {a : Int} (h : l.Pairwise (· < ·)) : (Pp l a).Pairwise (· < ·) := by
 unfold Pp
 have : (l.take (DX l a) ++ l.drop (DX l a + 1)).Sublist l := by
  have e : l = l.take (DX l a) ++ l.drop (DX l a) := (List.take_append_drop ..).symm
  have hs : (l.drop (DX l a + 1)).Sublist (l.drop (DX l a)) := by
   rw [← List.drop_drop]
   exact List.drop_sublist ..
  conv => rhs; rw [e]
  exact (List.Sublist.refl _).append hs
 exact h.sublist this
theorem Ot {o : Int} {st st' : List Int} {k a b r : Int} (h : BR o st k a b = some (st', r)) (hs : OW o st) : OW o st' := by
 intro ho
 subst ho
 have hst := hs rfl
 unfold BR at h
 simp [Di] at h
 obtain ⟨_, h⟩ := h
 unfold Et at h
 split at h
 ·rename_i hk
  injection h with h1 _
  subst h1
  exact O8 hst hk.2
 ·split at h
  ·injection h with h1 _
   subst h1
   exact Po hst
  ·injection h with h1 _
   subst h1
   exact hst
end Go.Proofs.YtkkmokodaejheaaDoor
namespace Go.Proofs.YtkkmokodaejheaaDoor
open Go.RowKit
def knT : List Int := [0, 14, 48, 448, 1536, 1536, 6144]
abbrev Dq (w : World) : Prop := ∀ i, i < 7 → w.cell? ⟨0, i, none⟩ = some (.int .i64 (knT.getD i 0))
theorem Dq.pure {w w' : World} (h : Dq w) (hp : Pure w w') : Dq w' := fun i hi => ((Inv.start (fun _ => False) w).pure hp).oldp (h i hi)
theorem U2 (o k : Int) (h1 : 1 ≤ o) (h2 : o ≤ 6) (h3 : 1 ≤ k) (h4 : k ≤ 12) : decide (IntKind.i64.wrap ((BitVec.ofInt 64 ((knT.getD o.toNat 0).fdiv (2 ^ min k.toNat 64)) &&& BitVec.ofInt 64 1).toNat : Int) = 1) = DD o k := by
 have ho : o = 1 ∨ o = 2 ∨ o = 3 ∨ o = 4 ∨ o = 5 ∨ o = 6 := by omega
 have hk : k = 1 ∨ k = 2 ∨ k = 3 ∨ k = 4 ∨ k = 5 ∨ k = 6 ∨ k = 7 ∨ k = 8 ∨ k = 9 ∨ k = 10 ∨ k = 11 ∨ k = 12 := by omega
 rcases ho with rfl | rfl | rfl | rfl | rfl | rfl <;> rcases hk with rfl | rfl | rfl | rfl | rfl | rfl | rfl | rfl | rfl | rfl | rfl | rfl <;> decide +kernel
theorem FC (o k : Int) (h : o < 1 ∨ 6 < o ∨ k < 1 ∨ 12 < k) : DD o k = false := by
 unfold DD
 have e : ∀ a b : Int, (a == b) = decide (a = b) := fun a b => rfl
 simp only [e]
 rcases h with h | h | h | h
 ·rw [decide_eq_false (show o ≠ 1 by omega), decide_eq_false (show o ≠ 2 by omega), decide_eq_false (show o ≠ 3 by omega), decide_eq_false (show o ≠ 4 by omega), decide_eq_false (show o ≠ 5 by omega), decide_eq_false (show o ≠ 6 by omega)]; rfl
 ·rw [decide_eq_false (show o ≠ 1 by omega), decide_eq_false (show o ≠ 2 by omega), decide_eq_false (show o ≠ 3 by omega), decide_eq_false (show o ≠ 4 by omega), decide_eq_false (show o ≠ 5 by omega), decide_eq_false (show o ≠ 6 by omega)]; rfl
 ·rw [decide_eq_false (show k ≠ 1 by omega), decide_eq_false (show k ≠ 2 by omega), decide_eq_false (show k ≠ 3 by omega), decide_eq_false (show k ≠ 4 by omega), decide_eq_false (show k ≠ 5 by omega), decide_eq_false (show k ≠ 6 by omega), decide_eq_false (show k ≠ 7 by omega), decide_eq_false (show k ≠ 8 by omega), decide_eq_false (show k ≠ 9 by omega), decide_eq_false (show k ≠ 10 by omega), decide_eq_false (show k ≠ 11 by omega), decide_eq_false (show k ≠ 12 by omega)]; simp
 ·rw [decide_eq_false (show k ≠ 1 by omega), decide_eq_false (show k ≠ 2 by omega), decide_eq_false (show k ≠ 3 by omega), decide_eq_false (show k ≠ 4 by omega), decide_eq_false (show k ≠ 5 by omega), decide_eq_false (show k ≠ 6 by omega), decide_eq_false (show k ≠ 7 by omega), decide_eq_false (show k ≠ 8 by omega), decide_eq_false (show k ≠ 9 by omega), decide_eq_false (show k ≠ 10 by omega), decide_eq_false (show k ≠ 11 by omega), decide_eq_false (show k ≠ 12 by omega)]; simp
set_option maxHeartbeats 2000000 in
theorem EC (o k : Int) (w0 : World) (hk : Dq w0) : Calls Tryd.prog 41 #[.int .i64 o, .int .i64 k] w0 fun en w' => en = .returned (.bool (DD o k)) ∧ Pure w0 w' := by
 have hI := Inv.start (fun _ => False) w0
 refine Vx Tryd.f41.ntmps Tryd.func41 rfl ?_
 refine Ac (Ab (V6 rfl (Aa ?_)))
 by_cases h1 : o < 1
 ·refine Ac (Ab (V0 rfl (Tg rfl (V5 rfl (V4 rfl (V4 rfl (Vd rfl (V5 rfl (V4 rfl (V4 rfl (Vd rfl (V5 rfl (V4 rfl ?_)))))))))))))
  refine V4 rfl (Vd rfl (V5 rfl (V4 rfl (V4 rfl (V4 rfl (V4 rfl (V4 rfl (V4 rfl (V4 rfl (Vd rfl (V6 rfl (Aa ?_))))))))))))
  refine Aj ?_
  exact Bw 4 (.inr rfl) rfl ⟨by rw [FC o k (by omega)]; rfl, hI.pu⟩
 by_cases h2 : 6 < o
 ·refine Ac (Ab (V0 rfl (Tc rfl (V5 rfl (V0 rfl ?_)))))
  refine Af rfl rfl rfl (by exact Ra rfl rfl rfl (by omega)) ?_
  refine Vg rfl (V5 rfl (V4 rfl (V4 rfl (Vd rfl (V5 rfl (V4 rfl (V4 rfl (Vd rfl (V5 rfl (V4 rfl (V4 rfl (V4 rfl (V4 rfl ?_)))))))))))))
  refine V4 rfl (V4 rfl (V4 rfl (Vd rfl (V6 rfl (Aa ?_)))))
  refine Aj ?_
  exact Bw 4 (.inr rfl) rfl ⟨by rw [FC o k (by omega)]; rfl, hI.pu⟩
 by_cases h3 : k < 1
 ·refine Ac (Ab (V0 rfl (Tc rfl (V5 rfl (V0 rfl ?_)))))
  refine Af rfl rfl rfl (by exact Mw rfl rfl rfl (by omega)) ?_
  refine Vg rfl (V5 rfl (V0 rfl (Tg rfl (Vg rfl (V5 rfl (V4 rfl (V4 rfl (Vd rfl (V5 rfl (V4 rfl (V4 rfl (V4 rfl (V4 rfl ?_)))))))))))))
  refine V4 rfl (V4 rfl (V4 rfl (Vd rfl (V6 rfl (Aa ?_)))))
  refine Aj ?_
  exact Bw 4 (.inr rfl) rfl ⟨by rw [FC o k (by omega)]; rfl, hI.pu⟩
 by_cases h4 : 12 < k
 ·refine Ac (Ab (V0 rfl (Tc rfl (V5 rfl (V0 rfl ?_)))))
  refine Af rfl rfl rfl (by exact Mw rfl rfl rfl (by omega)) ?_
  refine Vg rfl (V5 rfl (V0 rfl (Tc rfl (Vg rfl (V5 rfl (V0 rfl ?_))))))
  refine Af rfl rfl rfl (by exact Ra rfl rfl rfl (by omega)) ?_
  refine Vg rfl (V5 rfl (V4 rfl (V4 rfl (V4 rfl (V4 rfl (V4 rfl (V4 rfl (V4 rfl (Vd rfl (V6 rfl (Aa ?_)))))))))))
  refine Aj ?_
  exact Bw 4 (.inr rfl) rfl ⟨by rw [FC o k (by omega)]; rfl, hI.pu⟩
 have hc : w0.cell? ⟨0, 0 + o.toNat * 1, none⟩ = some (.int .i64 (knT.getD o.toNat 0)) := by
  rw [Nat.zero_add, Nat.mul_one]; exact hk o.toNat (by omega)
 refine Ac (Ab (V0 rfl (Tc rfl (V5 rfl (V0 rfl ?_)))))
 refine Af rfl rfl rfl (by exact Mw rfl rfl rfl (by omega)) ?_
 refine Vg rfl (V5 rfl (V0 rfl (Tc rfl (Vg rfl (V5 rfl (V0 rfl ?_))))))
 refine Af rfl rfl rfl (by exact Mw rfl rfl rfl (by omega)) ?_
 refine Vg rfl (V5 rfl (V0 rfl ?_))
 refine Af rfl rfl rfl (FO (sz := 1) (i := o.toNat) rfl Tryd.underlying105 (by kernel_rfl) rfl rfl (by omega) (by omega)) ?_
 refine V3 (.int .i64 _) rfl (hI.oldp hc) (V0 rfl ?_)
 refine Af rfl rfl rfl (ZZ rfl rfl rfl (by omega)) ?_
 refine Af rfl rfl rfl (Yi (r := fun p q => p &&& q) rfl rfl rfl rfl) ?_
 refine Af rfl rfl rfl (by exact NH rfl rfl rfl) ?_
 refine Vg rfl (V6 rfl (Aa ?_))
 refine Aj ?_
 refine Bw 4 (.inr rfl) rfl ⟨?_, hI.pu⟩
 rw [← U2 o k (by omega) (by omega) (by omega) (by omega)]
 rfl
set_option maxHeartbeats 1000000 in
theorem FN (o : Int) (w0 : World) : Calls Tryd.prog 43 #[.int .i64 o] w0 fun en w' => en = .returned (.bool (Di o)) ∧ Pure w0 w' := by
 have hI := Inv.start (fun _ => False) w0
 refine Vx Tryd.f43.ntmps Tryd.func43 rfl ?_
 refine Ac (Ab (V6 rfl (Aa ?_)))
 by_cases h1 : o = 1
 ·subst h1
  refine Ac (Ab (V0 rfl (Vu rfl (V5 rfl (V4 rfl (V4 rfl (Vg rfl (V5 rfl (V4 rfl (V4 rfl (Vg rfl (V6 rfl (Aa ?_)))))))))))))
  refine Aj ?_
  exact Bw 2 (.inr rfl) rfl ⟨rfl, hI.pu⟩
 by_cases h2 : o = 2
 ·subst h2
  refine Ac (Ab (V0 rfl (Vj rfl (V5 rfl (V0 rfl (Vu rfl (Vd rfl (V5 rfl (V4 rfl (V4 rfl (Vg rfl (V6 rfl (Aa ?_)))))))))))))
  refine Aj ?_
  exact Bw 2 (.inr rfl) rfl ⟨rfl, hI.pu⟩
 have e : Di o = decide (o = 6) := by
  unfold Di
  have e : ∀ a b : Int, (a == b) = decide (a = b) := fun a b => rfl
  simp only [e]
  rw [decide_eq_false h1, decide_eq_false h2]; rfl
 by_cases h6 : o = 6
 ·refine Ac (Ab (V0 rfl (Vj rfl (V5 rfl (V0 rfl (Vj rfl (Vd rfl (V5 rfl (V0 rfl (Vu rfl (Vd rfl (V6 rfl (Aa ?_)))))))))))))
  refine Aj ?_
  exact Bw 2 (.inr rfl) rfl ⟨by rw [e, decide_eq_true h6]; rfl, hI.pu⟩
 ·refine Ac (Ab (V0 rfl (Vj rfl (V5 rfl (V0 rfl (Vj rfl (Vd rfl (V5 rfl (V0 rfl (Vj rfl (Vd rfl (V6 rfl (Aa ?_)))))))))))))
  refine Aj ?_
  exact Bw 2 (.inr rfl) rfl ⟨by rw [e, decide_eq_false h6]; rfl, hI.pu⟩
theorem Ex (b : Bool) (w0 : World) : Calls Tryd.prog 56 #[.bool b] w0 fun en w' => en = .returned (.int .i64 (OV b)) ∧ Pure w0 w' := by
 have hI := Inv.start (fun _ => False) w0
 refine Vx Tryd.f56.ntmps Tryd.func56 rfl ?_
 refine Ac (Ab (V9 rfl (Aa (Ac (Ac (Ab (V5 rfl (Aa ?_))))))))
 cases b with
 | true =>
  refine Ad true rfl (Ac (Ab (V9 rfl (Aa ?_))))
  refine Aj ?_
  exact Bw 2 (.inr rfl) rfl ⟨rfl, hI.pu⟩
 | false =>
  refine Ad false rfl (Ah (Ac (Ab (V9 rfl (Aa ?_)))))
  refine Aj ?_
  exact Bw 2 (.inr rfl) rfl ⟨rfl, hI.pu⟩
set_option maxHeartbeats 1000000 in
theorem ND (n k a b : Int) (w0 : World) : Calls Tryd.prog 53 #[.int .i64 n, .int .i64 k, .int .i64 a, .int .i64 b] w0 fun en w' => en = .returned (.tuple #[.int .i64 (KV n k a b).1, .int .i64 (KV n k a b).2]) ∧ Pure w0 w' := by
 have hI := Inv.start (fun _ => False) w0
 refine Vx Tryd.f53.ntmps Tryd.func53 rfl ?_
 refine Ac (Ab (V9 rfl (V9 rfl (Aa (Ac (Al ?_))))))
 by_cases h1 : k = 1
 ·refine Ac (Ab (V0 rfl (Vu rfl (V6 rfl (Aa (Ad true rfl (Ac (Ab (V0 rfl (V0 rfl (V9 rfl (V9 rfl (Aa ?_)))))))))))))
  refine Aj ?_
  exact DV 8 9 (.inr rfl) rfl ⟨by unfold KV; rw [if_pos h1]; rfl, hI.pu⟩
 refine Ac (Ab (V0 rfl (Vj rfl (V6 rfl (Aa (Ad false rfl ?_))))))
 by_cases h2 : k = 2
 ·refine Ac (Ab (V0 rfl (Vu rfl (V6 rfl (Aa (Ad true rfl (Ac (Ab (V0 rfl (V9 rfl (V9 rfl (Aa ?_))))))))))))
  refine Aj ?_
  exact DV 8 9 (.inr rfl) rfl ⟨by unfold KV; rw [if_neg h1, if_pos h2]; rfl, hI.pu⟩
 refine Ac (Ab (V0 rfl (Vj rfl (V6 rfl (Aa (Ad false rfl ?_))))))
 by_cases h3 : n = a
 ·refine Ac (Ab (V0 rfl (V0 rfl (Vu rfl (V6 rfl (Aa (Ad true rfl (Ac (Ab (V0 rfl (V9 rfl (V9 rfl (Aa ?_)))))))))))))
  refine Aj ?_
  exact DV 8 9 (.inr rfl) rfl ⟨by unfold KV; rw [if_neg h1, if_neg h2, if_pos h3]; rfl, hI.pu⟩
 refine Ac (Ab (V0 rfl (V0 rfl (Vj rfl (V6 rfl (Aa (Ad false rfl (Ah (Ac (Ab (V0 rfl (V9 rfl (V9 rfl ?_)))))))))))))
 refine Aa ?_
 refine Aj ?_
 exact DV 8 9 (.inr rfl) rfl ⟨by unfold KV; rw [if_neg h1, if_neg h2, if_neg h3]; rfl, hI.pu⟩
abbrev StE (A : Option Addr) (c : Nat) (st : List Int) : Ent := Row 0 3 1 A st.length c (Ba st)
theorem Ml (o : Int) (w0 : World) : Calls Tryd.prog 20 #[.int .i64 o] w0 fun en w' => ∃ A c, en = .returned (.slice A (Bi o).length c) ∧ Inv (fun _ => False) w0 w' [StE A c (Bi o)] := by
 have hI := Inv.start (fun _ => False) w0
 refine Vx Tryd.f20.ntmps Tryd.func20 rfl ?_
 refine Ac (Ab (Vf rfl (Aa (Ac (Ac (Ab (V0 rfl (Va [.int .i64 _] rfl Tryd.func43 rfl ?_))))))))
 refine (FN o _).mono ?_
 rintro e w1 ⟨rfl, hp⟩
 refine ⟨_, rfl, ?_⟩
 replace hI := hI.pure hp
 refine Aa ?_
 cases hs : Di o with
 | true =>
  have e : Bi o = [0] := by unfold Bi; rw [hs]; rfl
  refine Ad true rfl (Ac (Ab (Vm [(0, .int .i64 _)] [_] [.int .i64 0] [0] hI rfl Tryd.underlying24 (fun _ => by kernel_rfl) ?_)))
  clear hI; rintro b5 w - - hI
  refine Vf rfl (Aa ?_)
  refine Aj ?_
  refine Bw 2 (.inr rfl) rfl ⟨some ⟨b5, 0, none⟩, 1, by rw [e]; rfl, ?_⟩
  rw [e]
  have hb := hI.g0
  exact hI.u0 (e' := StE (some ⟨b5, 0, none⟩) 1 [0]) (Chg.refl _ _) (Row.of_blk hb (Nat.zero_le _) rfl (by decide)) (fun k hk => .inl (by have : some b5 = some k := hk; injection this with this; exact this.symm))
 | false =>
  have e : Bi o = [] := by unfold Bi; rw [hs]; rfl
  refine Ad false rfl (Ah (Ac (Ab (Vf rfl (Aa ?_)))))
  refine Aj ?_
  refine Bw 2 (.inr rfl) rfl ⟨none, 0, by rw [e]; rfl, ?_⟩
  rw [e]
  exact hI.fresh (Pure.refl _) (Row.nil _ 0 3 1) (fun k hk => by simp [Row] at hk)
section
variable {S : Nat → Prop} {w0 w w' : World} {H H' : List Ent} {e e' : Ent}
theorem Inv.ownE (h : e.ok w) : Inv e.D w w [e] :=
 ⟨Chg.refl _ w, fun x hx => by rcases List.mem_singleton.1 hx with rfl; exact h, fun x hx k hk => by rcases List.mem_singleton.1 hx with rfl; exact .inl hk, List.pairwise_singleton ..⟩
theorem Inv.one (hc : Chg e.D w w') (ho : e'.ok w') (hD : ∀ k, e'.D k → e.D k ∨ w.heap.size ≤ k) : Inv e.D w w' [e'] :=
 ⟨hc, fun x hx => by rcases List.mem_singleton.1 hx with rfl; exact ho, fun x hx k hk => by rcases List.mem_singleton.1 hx with rfl; exact hD k hk, List.pairwise_singleton ..⟩
theorem Inv.turn (h : Inv S w0 w (e :: H)) (h' : Inv e.D w w' H') : Inv S w0 w' (H' ++ H) := by
 have he := h.ok e (by simp)
 have hp := List.pairwise_cons.1 h.apart
 refine ⟨h.chg.trans' h'.chg fun k hk1 hk2 => ?_, fun x hx => ?_, fun x hx k hk => ?_, List.pairwise_append.2 ⟨h'.apart, hp.2, fun a ha b hb k h1 h2 => ?_⟩⟩
 ·rcases h.own e (by simp) k hk2 with h1 | h1
  ·exact h1
  ·omega
 ·rcases List.mem_append.1 hx with hx | hx
  ·exact h'.ok x hx
  ·exact (h.ok x (by simp [hx])).chg h'.chg (fun k hk hk2 => hp.1 x hx k hk2 hk)
 ·rcases List.mem_append.1 hx with hx | hx
  ·rcases h'.own x hx k hk with h1 | h1
   ·exact h.own e (by simp) k h1
   ·exact .inr (Nat.le_trans h.chg.size h1)
  ·exact h.own x (by simp [hx]) k hk
 ·rcases h'.own a ha k h1 with h3 | h3
  ·exact hp.1 b hb k h3 h2
  ·have := (h.ok b (by simp [hb])).2.1 k h2
   omega
theorem Inv.turn1 {a : Ent} (h : Inv S w0 w (e :: H)) (h' : Inv e.D w w' [a]) : Inv S w0 w' (a :: H) := h.turn h'
end
theorem Ga {w : World} {e n c : Nat} {A : Option Addr} {xs : List Value} (h : w.ownsRow 0 e 1 (.slice A n c) n xs) : (A = none ∧ n = 0 ∧ c = 0 ∧ xs = []) ∨ ∃ g cur, A = some ⟨g, 0, none⟩ ∧ Blk w g e cur ∧ n ≤ c ∧ c ≤ 9223372036854775807 ∧ cur.size = c ∧ cur.toList.take n = xs := by
 obtain ⟨hl, ⟨hv, hn⟩ | ⟨g, cap, cur, hv, _, hb, h1, h2, h3, h4⟩⟩ := h
 ·injection hv with e1 e2 e3
  subst e1 e3 hn
  exact .inl ⟨rfl, rfl, rfl, List.eq_nil_of_length_eq_zero (by simpa using hl)⟩
 ·injection hv with e1 e2 e3
  subst e1 e3
  exact .inr ⟨g, cur, rfl, hb, h1, by simpa [maxLen] using h2, by omega, by simpa using h4⟩
theorem Du {w : World} {e g n c : Nat} {cur : Array Value} {xs : List Value} (hb : Blk w g e cur) (h1 : n ≤ c) (h2 : c ≤ 9223372036854775807) (h3 : cur.size = c) (h4 : cur.toList.take n = xs) : (Row 0 e 1 (some ⟨g, 0, none⟩) n c xs).ok w :=
 Row.ok ⟨by rw [← h4]; simp; omega, .inr ⟨g, c, cur, rfl, Nat.zero_le _, hb, h1, by simpa [maxLen] using h2, by omega, by simpa using h4⟩⟩
theorem NW {α : Type} (xs : List α) (i : Nat) (v : α) (hi : i ≤ xs.length) (j : Nat) : (xs.take i ++ v :: xs.drop i)[j]? = if j < i then xs[j]? else if j = i then some v else xs[j - 1]? := by
 have hl : (xs.take i).length = i := by simp; omega
 by_cases h1 : j < i
 ·rw [if_pos h1, List.getElem?_append_left (by omega), List.getElem?_take_of_lt h1]
 ·rw [if_neg h1, List.getElem?_append_right (by omega), hl]
  by_cases h2 : j = i
  ·rw [if_pos h2, h2, Nat.sub_self, List.getElem?_cons_zero]
  ·rw [if_neg h2, show j - i = (j - i - 1) + 1 by omega, List.getElem?_cons_succ, List.getElem?_drop, show i + (j - i - 1) = j - 1 by omega]
theorem Ed {cur : Array Value} {n : Nat} {ys : List Value} (hy : ys.length = n) (h : ∀ j, j < n → cur[j]? = ys[j]?) : cur.toList.take n = ys := by
 refine List.ext_getElem? fun j => ?_
 by_cases hj : j < n
 ·rw [List.getElem?_take_of_lt hj, Array.getElem?_toList, h j hj]
 ·rw [List.getElem?_eq_none (by simp; omega), List.getElem?_eq_none (by omega)]
theorem EW {cur : Array Value} {n : Nat} {xs : List Value} (h : cur.toList.take n = xs) {j : Nat} (hj : j < n) : cur[j]? = xs[j]? := by
 rw [← h, List.getElem?_take_of_lt hj, Array.getElem?_toList]
theorem OU (l : List Int) : ∀ v ∈ Ba l, v.oneCell' = true := by
 intro v hv
 obtain ⟨z, _, rfl⟩ := List.mem_map.1 hv
 rfl
theorem EK (l : List Int) (i : Nat) (a : Int) : Ba (l.take i ++ a :: l.drop i) = (Ba l).take i ++ .int .i64 a :: (Ba l).drop i := by simp [Ba, List.map_take, List.map_drop]
theorem H8 (n : Nat) : (Builtin.zeroCells (Value.int .i64 0).cells n).size = n := by simp [Builtin.zeroCells, Value.cells]
theorem Nh {w : World} {g t : Nat} {cs : Array Value} (h : Blk w g t cs) : w.shape? g = some (t, cs.size) := by unfold World.shape?; rw [show w.heap[g]? = _ from h]
theorem QE (A : Option Addr) (c : Nat) (l : List Int) (i : Nat) (a : Int) (vb : Nat) (w : World) (hR : (StE A c l).ok w) (hi : i ≤ l.length) (hv : Blk w vb 3 #[.int .i64 a]) (hne : A.map (·.block) ≠ some vb) (hbig : l.length + 1 ≤ 1000000) :
  Calls Tryd.prog 62 #[.slice A l.length c, .int .i64 (i : Int), .slice (some ⟨vb, 0, none⟩) 1 1] w fun en w' => ∃ A' c', en = .returned (.slice A' (l.length + 1) c') ∧ Inv (StE A c l).D w w' [StE A' c' (l.take i ++ a :: l.drop i)] := by
 have hlen : (l.take i ++ a :: l.drop i).length = l.length + 1 := by simp; omega
 have hxl : (Ba l).length = l.length := by simp [Ba]
 have hvs : ∀ (j : Nat) (v : Value), [Value.int .i64 a][j]? = some v → w.cell? ⟨vb, 0 + j, none⟩ = some v := fun j v hj => by rw [Nat.zero_add, hv.cell]; simpa using hj
 have h1v : ∀ v ∈ [Value.int .i64 a], v.oneCell' = true := by intro v hv; simp at hv; subst hv; rfl
 rcases Ga hR.1 with ⟨rfl, hn, rfl, hx⟩ | ⟨g, cur, rfl, hb, h1, h2, h3, h4⟩
 ·have hl : l = [] := List.eq_nil_of_length_eq_zero hn
  subst hl
  obtain rfl : i = 0 := by simpa using hi
  refine (Any2.slices_Insert_int_end_grow Tryd.lays2_21 none 0 0 vb 0 1 1 [] [.int .i64 a] w (by omega) (by omega) (by omega) (by omega) rfl rfl (fun _ => rfl) (fun a h => by cases h) hvs h1v).mono ?_
  rintro e w' ⟨rfl, rfl⟩
  have hge := grownCap_ge w (0 + 1) 0 (Tryd.lays2_21_ren.t 3)
  have hle := grownCap_le_maxLen w (0 + 1) 0 (Tryd.lays2_21_ren.t 3) (by decide)
  generalize grownCap w (0 + 1) 0 (Tryd.lays2_21_ren.t 3) = gc at hge hle ⊢
  refine ⟨_, _, rfl, Inv.one ((Chg.pure (Chg.refl _ w) (Pure.refl w).drew).pure ((Pure.refl _).alloc _)) (Du (Blk.new _ _ _) hge (by simpa [maxLen] using hle) ?_ ?_) (fun k hk => .inr ?_)⟩
  ·rw [Array.size_append, H8]; simp; omega
  ·simp [Ba]
  ·have : some w.heap.size = some k := hk
   injection this with this; omega
 ·have hcs : ∀ (j : Nat) (v : Value), (Ba l)[j]? = some v → w.cell? ⟨g, 0 + j, none⟩ = some v := fun j v hj => by
   have hjl := (List.getElem?_eq_some_iff.1 hj).1
   rw [Nat.zero_add, hb.cell, EW h4 (by omega), hj]
  have hne' : vb ≠ g := fun e => hne (by subst e; rfl)
  rcases Nat.lt_or_ge i l.length with hil | hil
  ·rcases Nat.lt_or_ge c (l.length + 1) with hroom | hroom
   ·refine (Any2.slices_Insert_int_grow Tryd.lays2_21 g 0 l.length c i vb 0 1 1 (Ba l) [.int .i64 a] w hil (by omega) h1 hroom (by omega) hxl rfl hcs hvs (OU l) h1v).mono ?_
    rintro e w' ⟨rfl, rfl⟩
    have hge := grownCap_ge w (l.length + 1) c (Tryd.lays2_21_ren.t 3)
    have hle := grownCap_le_maxLen w (l.length + 1) c (Tryd.lays2_21_ren.t 3) (by simp [maxLen]; omega)
    generalize grownCap w (l.length + 1) c (Tryd.lays2_21_ren.t 3) = gc at hge hle ⊢
    refine ⟨_, _, rfl, Inv.one (Chg.setCells (.inr (Nat.le_refl _)) _ _ ((Chg.setCells (.inr (Nat.le_refl _)) _ _ ((Chg.pure (Chg.refl _ w) ((Pure.refl w).alloc _)).pure (Pure.refl _).drew)).pure (Pure.refl _).drew)) (Du ((((Blk.new w 3 _).drew).setCells _ _).drew.setCells _ _) (by rw [hlen]; exact hge) (by simpa [maxLen] using hle) ?_ ?_) (fun k hk => .inr ?_)⟩
    ·rw [Cb, Cb]
     simp only [Array.size_append, H8, List.size_toArray, List.length_take, hxl]; omega
    ·rw [EK]
     refine Ed (by rw [← EK]; simp only [Ba, List.length_map]) fun j hj => ?_
     rw [hlen] at hj
     rw [NW _ _ _ (by omega), CR _ _ _ _ (by rw [Cb]; simp only [Array.size_append, H8, List.size_toArray, List.length_take, List.length_drop, hxl]; omega), CR _ _ _ _ (by simp only [Array.size_append, H8, List.size_toArray, List.length_take, hxl, List.length_cons, List.length_nil]; omega)]
     simp only [List.length_drop, hxl, List.length_cons, List.length_nil]
     by_cases e1 : j < i
     ·rw [if_neg (by omega), if_neg (by omega), if_pos e1, Array.append_assoc, Array.getElem?_append_left (by simp [Ba]; omega)]
      simp [e1]
     ·by_cases e2 : j = i
      ·subst e2
       rw [if_neg (by omega), if_pos (by omega), if_neg (by omega), if_pos rfl, Nat.sub_self]; rfl
      ·rw [if_pos (by omega), if_neg e1, if_neg e2, List.getElem?_drop, show i + (j - (i + 1)) = j - 1 by omega]
    ·have : some w.heap.size = some k := hk
     injection this with this; omega
   ·refine (Any2.slices_Insert_int_shift Tryd.lays2_21 g 0 l.length c i vb 0 1 1 (Ba l) [.int .i64 a] w hil (by omega) (by omega) h2 hne' hxl rfl hcs (fun j hj => by rw [Nat.zero_add, hb.cell]; simp; omega) (fun j _ => hb.frozen _) hvs (OU l) h1v 3 3 1 c (Nh hv) (by rw [Nh hb, h3]) (by omega) (hv.frozen _) (hv.frozen _)).mono ?_
    rintro e w' ⟨rfl, rfl⟩
    refine ⟨_, _, rfl, Inv.one (Chg.setCells (S := (StE (some ⟨g, 0, none⟩) c l).D) (.inl rfl) _ _ (Chg.setCells (S := (StE (some ⟨g, 0, none⟩) c l).D) (.inl rfl) _ _ (Chg.pure (Chg.refl _ w) (Pure.refl w).drew))) (Du ((hb.drew.setCells _ _).setCells _ _) (by rw [hlen]; exact hroom) h2 (by rw [Cb, Cb, h3]) ?_) (fun k hk => .inl hk)⟩
    rw [EK]
    refine Ed (by rw [← EK]; simp only [Ba, List.length_map]) fun j hj => ?_
    rw [NW _ _ _ (by omega), CR _ _ _ _ (by rw [Cb]; simp; omega), CR _ _ _ _ (by simp [Ba]; omega)]
    simp only [List.length_drop, hxl, List.length_cons, List.length_nil, Nat.zero_add]
    rw [hlen] at hj
    by_cases e1 : j < i
    ·rw [if_neg (by omega), if_neg (by omega), if_pos e1, EW h4 (by omega)]
    ·by_cases e2 : j = i
     ·subst e2
      rw [if_pos (by omega), if_neg (by omega), if_pos rfl, Nat.sub_self]; rfl
     ·rw [if_neg (by omega), if_pos (by omega), if_neg e1, if_neg e2, List.getElem?_drop, show i + (j - (i + 1)) = j - 1 by omega]
  ·obtain rfl : i = l.length := by omega
   rcases Nat.lt_or_ge c (l.length + 1) with hroom | hroom
   ·refine (Any2.slices_Insert_int_end_grow Tryd.lays2_21 (some ⟨g, 0, none⟩) l.length c vb 0 1 1 (Ba l) [.int .i64 a] w (by omega) h1 hroom (by omega) hxl rfl (fun h => by cases h) (fun a h => by injection h with h; subst h; intro j v hj; rw [Addr.add_lit]; exact hcs j v hj) hvs h1v).mono ?_
    rintro e w' ⟨rfl, rfl⟩
    have hge := grownCap_ge w (l.length + 1) c (Tryd.lays2_21_ren.t 3)
    have hle := grownCap_le_maxLen w (l.length + 1) c (Tryd.lays2_21_ren.t 3) (by simp [maxLen]; omega)
    generalize grownCap w (l.length + 1) c (Tryd.lays2_21_ren.t 3) = gc at hge hle ⊢
    refine ⟨_, _, rfl, Inv.one ((Chg.pure (Chg.refl _ w) (Pure.refl w).drew).pure ((Pure.refl _).alloc _)) (Du (Blk.new _ _ _) (by rw [hlen]; exact hge) (by simpa [maxLen] using hle) ?_ ?_) (fun k hk => .inr ?_)⟩
    ·simp only [Array.size_append, H8, List.size_toArray, List.length_append, hxl, List.length_cons, List.length_nil]; omega
    ·rw [hlen, EK]
     have e1 : (Ba l).take l.length = Ba l := List.take_of_length_le (by omega)
     have e2 : (Ba l).drop l.length = [] := List.drop_eq_nil_of_le (by omega)
     rw [e1, e2, Array.toList_append, List.take_append_of_le_length (by simp [hxl])]
     exact List.take_of_length_le (by simp [hxl])
    ·have : some w.heap.size = some k := hk
     injection this with this; omega
   ·refine (Any2.slices_Insert_int_end_room Tryd.lays2_21 g 0 l.length c vb 0 1 1 [.int .i64 a] w (by omega) hroom h2 rfl (fun j hj => by rw [hb.cell]; simp; omega) (fun j _ => hb.frozen _) hvs h1v).mono ?_
    rintro e w' ⟨rfl, rfl⟩
    refine ⟨_, _, rfl, Inv.one (Chg.setCells (S := (StE (some ⟨g, 0, none⟩) c l).D) (.inl rfl) _ _ (Chg.refl _ w)) (Du (hb.setCells _ _) (by rw [hlen]; exact hroom) h2 (by rw [Cb, h3]) ?_) (fun k hk => .inl hk)⟩
    rw [EK]
    refine Ed (by rw [← EK]; simp only [Ba, List.length_map]) fun j hj => ?_
    rw [NW _ _ _ (by omega), CR _ _ _ _ (by simp; omega)]
    simp only [List.length_cons, List.length_nil, Nat.zero_add]
    rw [hlen] at hj
    by_cases e1 : j < l.length
    ·rw [if_neg (by omega), if_pos e1, EW h4 e1]
    ·obtain rfl : j = l.length := by omega
     rw [if_pos (by omega), if_neg (by omega), if_pos rfl, Nat.sub_self]; rfl
section
variable {P : Program} {ρ : Env} {o : Oper} {w : World} {x y : Operand} {t t' e : TypeId}
theorem WZ {n c : Nat} (ho : o.op = .binOp .eql t x (.const (.slice none 0 0)) t') (ht : P.underlying t = some (.slice e)) (hx : ev ρ x = .slice none n c) : Ar P ρ o w (.bool true) := by
 have h := Fu (P := P) (w := w) (t := t) (x := .slice none n c) (y := .slice none 0 0) (r := true) (fun d => by simp [Op.equalIn, run_underlying ht])
 simp [Ar, execOp, ho, hx, show ev ρ (.const (.slice none 0 0)) = .slice none 0 0 from rfl, eqGuard, binOp, h]
theorem W9 {n c : Nat} {p : Addr} (ho : o.op = .binOp .eql t x (.const (.slice none 0 0)) t') (ht : P.underlying t = some (.slice e)) (hx : ev ρ x = .slice (some p) n c) : Ar P ρ o w (.bool false) := by
 have h := Fu (P := P) (w := w) (t := t) (x := .slice (some p) n c) (y := .slice none 0 0) (r := false) (fun d => by simp [Op.equalIn, run_underlying ht])
 simp [Ar, execOp, ho, hx, show ev ρ (.const (.slice none 0 0)) = .slice none 0 0 from rfl, eqGuard, binOp, h]
end
theorem Lb (l : List Int) : (Ba l).length = l.length := by simp [Ba]
theorem U9 (l : List Int) : (Ba l).all (·.oneCell') = true := by simp [Ba, Value.oneCell']
set_option maxHeartbeats 1000000 in
theorem Jz (A : Option Addr) (c : Nat) (l : List Int) (D : Nat → Prop) (w0 : World) (h : Rd w0 D 1 (.slice A l.length c) l.length (Ba l)) (hb : l.length ≤ 1000000) :
  Calls Tryd.prog 55 #[.slice A l.length c] w0 fun en w' => ∃ A' c', en = .returned (.slice A' l.length c') ∧ Inv (fun _ => False) w0 w' [StE A' c' l] := by
 obtain ⟨A1, c1, hv, hnc, hcm, hlen, hcell⟩ := h
 injection hv with e1 e2 e3
 subst e1 e3
 have hI := Inv.start (fun _ => False) w0
 refine Vx Tryd.f55.ntmps Tryd.func55 rfl ?_
 refine Ac (Ab (Vf rfl (Aa ?_)))
 cases A with
 | none =>
  have hl : l = [] := by
   rcases Nat.eq_zero_or_pos l.length with h0 | h0
   ·exact List.eq_nil_of_length_eq_zero h0
   ·obtain ⟨b, o, hbo, _⟩ := hcell h0
    cases hbo
  subst hl
  refine Ac (Ac (Ab (V8 rfl ?_)))
  refine Af rfl rfl rfl (WZ rfl Tryd.underlying24 rfl) ?_
  refine Aa (Ad true rfl (Ac (Ab (Vf rfl (Aa ?_)))))
  refine Aj ?_
  exact Bw 2 (.inr rfl) rfl ⟨none, 0, rfl, hI.fresh (Pure.refl _) (Row.nil _ 0 3 1) (fun k hk => by simp [Row] at hk)⟩
 | some p =>
  refine Ac (Ac (Ab (V8 rfl ?_)))
  refine Af rfl rfl rfl (W9 rfl Tryd.underlying24 rfl) ?_
  refine Aa (Ad false rfl (Ah (Ac (Ab (Vm [] [] [] [] hI rfl Tryd.underlying24 (fun _ => by kernel_rfl) ?_)))))
  clear hI; rintro b5 w - - hI
  refine V8 rfl ?_
  replace hI : Inv (fun _ => False) w0 w [StE (some ⟨b5, 0, none⟩) 0 []] := hI.u0 (e' := StE (some ⟨b5, 0, none⟩) 0 []) (Chg.refl _ _) (Du hI.g0 (Nat.le_refl _) (by omega) rfl rfl) (fun k hk => .inl (by have : some b5 = some k := hk; injection this with this; exact this.symm))
  rcases Nat.eq_zero_or_pos l.length with h0 | h0
  ·have hl : l = [] := List.eq_nil_of_length_eq_zero h0
   subst hl
   refine Af rfl rfl rfl (Aak rfl Tryd.underlying24 (sz := 1) (by kernel_rfl) rfl rfl (Nat.le_refl _)) ?_
   refine Vf rfl (Aa ?_)
   refine Aj ?_
   exact Bw 2 (.inr rfl) rfl ⟨_, _, rfl, hI⟩
  ·obtain ⟨b, o, hbo, _, hcl⟩ := hcell h0
   injection hbo with hbo
   subst hbo
   refine X5 (z := .int .i64 0) (by_ := 8) (news := Ba l) hI rfl rfl rfl rfl rfl rfl Tryd.underlying24 (by kernel_rfl) rfl (by omega) (by rw [Lb]; omega) (fun k u hk => hI.oldp (hcl k u hk)) (U9 l) (by simp; omega) (by simp; omega) (Nat.zero_le _) ?_
   clear hI; rintro A2 c2 w _ _ hI
   refine Vf rfl (Aa ?_)
   refine Aj ?_
   refine Bw 2 (.inr rfl) rfl ⟨A2, c2, ?_, ?_⟩
   ·show Ending.returned (.slice A2 (0 + l.length) c2) = _; rw [Nat.zero_add]
   ·have h' : Inv (fun _ => False) w0 w [Row 0 3 1 A2 (0 + l.length) c2 ([] ++ Ba l)] := hI
    rw [Nat.zero_add, List.nil_append] at h'; exact h'
theorem QU {w : World} {A : Option Addr} {c : Nat} {l : List Int} (h : (StE A c l).Φ w) : Rd w (fun _ => True) 1 (.slice A l.length c) l.length (Ba l) := Rd.of_own (D := fun _ => True) h (fun _ _ _ => trivial)
theorem Pv (A : Option Addr) (c : Nat) (l : List Int) (a : Int) (w : World) (h : (StE A c l).ok w) (hs : l.Pairwise (· < ·)) (hb : l.length ≤ 1000000) :
  Calls Tryd.prog 61 #[.slice A l.length c, .int .i64 a] w fun en w' => en = .returned (.tuple #[.int .i64 ((DX l a : Nat) : Int), .bool (decide (a ∈ l))]) ∧ Pure w w' := by
 rcases Nat.eq_zero_or_pos l.length with h0 | h0
 ·have hl : l = [] := List.eq_nil_of_length_eq_zero h0
  subst hl
  refine (Any.slices_BinarySearch_int_empty Tryd.lays2_25 A c a w).mono ?_
  rintro e w' ⟨rfl, rfl⟩
  exact ⟨rfl, Pure.refl _⟩
 ·obtain ⟨b, o, rfl⟩ := GG h.1 h0 (by omega)
  refine (Any.slices_BinarySearch_int Tryd.lays2_25 b o l.length c l a w (Nat.le_refl _) (by omega) (fun j hj => ?_) ?_).mono ?_
  ·exact EB h.1 (by simp [Ba, List.getElem?_eq_getElem hj]) h0
  ·rw [List.take_of_length_le (Nat.le_refl _)]
   exact hs.imp (fun h => by omega)
  ·rintro e w' ⟨rfl, q, rfl⟩
   refine ⟨?_, (Pure.refl w).drewN q⟩
   rw [List.take_of_length_le (Nat.le_refl _)]
   have e1 : List.countP (fun x => decide (x < a)) l = DX l a := by unfold DX; rw [List.countP_eq_length_filter]
   have e2 : l.contains a = decide (a ∈ l) := by
    rw [Bool.eq_iff_iff]; simp
   rw [e1, e2]
theorem QL (A : Option Addr) (c : Nat) (l : List Int) (i : Nat) (w : World) (hR : (StE A c l).ok w) (hi : i < l.length) (hbig : l.length ≤ 1000000) :
  Calls Tryd.prog 63 #[.slice A l.length c, .int .i64 (i : Int), .int .i64 ((i + 1 : Nat) : Int)] w fun en w' => en = .returned (.slice A (l.length - 1) c) ∧ Inv (StE A c l).D w w' [StE A c (l.take i ++ l.drop (i + 1))] := by
 have hlen : (l.take i ++ l.drop (i + 1)).length = l.length - 1 := by simp; omega
 rcases Ga hR.1 with ⟨rfl, hn, rfl, hx⟩ | ⟨g, cur, rfl, hb, h1, h2, h3, h4⟩
 ·omega
 ·refine (Any.slices_Delete_int_cells Tryd.lays2_23 g 0 l.length c i (i + 1) l w (Nat.le_refl _) h1 h2 (by omega) (by omega) (fun j hj => ?_) (fun j _ => hb.frozen _)).mono ?_
  ·exact EB hR.1 (by simp [Ba, List.getElem?_eq_getElem hj]) (by omega)
  ·rintro e w' ⟨rfl, q, rfl⟩
   refine ⟨by rw [Nat.add_sub_cancel_left], Inv.one (Chg.setCells (S := (StE (some ⟨g, 0, none⟩) c l).D) (.inl rfl) _ _ ((Chg.refl _ w).drewN q)) (Du ((hb.drewN q).setCells _ _) (by rw [hlen]; omega) h2 (by rw [Cb, h3]) ?_) (fun k hk => .inl hk)⟩
   rw [List.take_of_length_le (Nat.le_refl _)]
   refine Ed (Lb _) fun j hj => ?_
   rw [CR _ _ _ _ (by simp; omega), if_pos (by simp; omega)]
   simp only [Ba, List.map_append, Nat.sub_zero]
   rw [List.getElem?_append_left (by simp; omega)]
theorem PE {A : Option Addr} {c : Nat} {l : List Int} {w : World} (h : (StE A c l).ok w) (k : Nat) (hk : k ≤ l.length) : (StE A c (l.take k)).ok w := by
 rcases Ga h.1 with ⟨rfl, hn, rfl, hx⟩ | ⟨g, cur, rfl, hb, h1, h2, h3, h4⟩
 ·have hl : l = [] := List.eq_nil_of_length_eq_zero hn
  subst hl
  rw [List.take_nil]; exact h
 ·refine Du hb (by simp; omega) h2 h3 ?_
  refine Ed (Lb _) fun j hj => ?_
  have hjk : j < k := by simp at hj; omega
  rw [EW h4 (by omega)]
  simp [Ba, List.getElem?_take_of_lt hjk]
set_option maxHeartbeats 2000000 in
theorem WP (A : Option Addr) (c : Nat) (l : List Int) (k a : Int) (w0 : World) (h : (StE A c l).ok w0) (hs : l.Pairwise (· < ·)) (hb : l.length ≤ 100000) :
  Calls Tryd.prog 54 #[.slice A l.length c, .int .i64 k, .int .i64 a] w0 fun en w' => ∃ A' c', en = .returned (.tuple #[.slice A' (Et l k a).1.length c', .int .i64 (Et l k a).2]) ∧ Inv (StE A c l).D w0 w' [StE A' c' (Et l k a).1] := by
 have hI := Inv.ownE h
 have hpl := Re l a
 refine Vx Tryd.f54.ntmps Tryd.func54 rfl ?_
 refine Ac (Ab (Vf rfl (V9 rfl (Aa (Ac (Ab (V8 rfl (V0 rfl (Va [.slice _ _ _, .int .i64 _] rfl Tryd.func61 rfl ?_)))))))))
 refine (Pv A c l a _ (hI.ok _ (by simp)) hs (by omega)).mono ?_
 rintro e w1 ⟨rfl, hp⟩
 refine ⟨_, rfl, ?_⟩
 replace hI := hI.pure hp
 refine Ta rfl (Vk rfl (Vk rfl (V9 rfl (V6 rfl (Aa (Ac (Al ?_)))))))
 by_cases hm : a ∈ l
 ·rw [decide_eq_true hm]
  have hlt : DX l a < l.length := by
   rcases Nat.lt_or_ge (DX l a) l.length with h1 | h1
   ·exact h1
   ·obtain ⟨h2, h3⟩ := Hl l a hs
    rw [List.take_of_length_le h1] at h2
    have := h2 a hm
    omega
  by_cases k7 : k = 7
  ·have e : Et l k a = (Pp l a, 1) := by unfold Et; rw [if_neg (by omega), if_pos ⟨k7, hm⟩]
   refine Ac (Ab (V0 rfl (Vj rfl (V5 rfl (V4 rfl (V4 rfl (Vd rfl (V6 rfl (Aa (Ad false rfl (Ac (Ab (V0 rfl ?_)))))))))))))
   refine Vu rfl (V5 rfl (V5 rfl (Vg rfl (V6 rfl (Aa (Ad true rfl (Ac (Ab (V8 rfl (V0 rfl (V0 rfl (Vb rfl (Va [.slice _ _ _, .int .i64 _, .int .i64 _] rfl Tryd.func63 rfl ?_)))))))))))))
   refine (QL A c l (DX l a) _ (hI.ok _ (by simp)) hlt (by omega)).mono ?_
   rintro e w1 ⟨rfl, hT⟩
   refine ⟨_, rfl, ?_⟩
   replace hI := hI.turn1 hT
   refine Vf rfl (V9 rfl (Aa ?_))
   refine Aj ?_
   refine DV 6 7 (.inr rfl) rfl ⟨A, c, ?_, ?_⟩
   ·rw [e]
    have hl : (Pp l a).length = l.length - 1 := by unfold Pp; simp; omega
    rw [hl]; rfl
   ·rw [e]; exact hI
  ·by_cases k6 : k = 6
   ·have e : Et l k a = (l, 0) := by unfold Et; rw [if_neg (fun h => h.2 hm), if_neg (by omega), decide_eq_false (by omega)]; rfl
    refine Ac (Ab (V0 rfl (Vu rfl (V5 rfl (V5 rfl (T5 rfl (Vg rfl (V6 rfl (Aa (Ad false rfl (Ac (Ab (V0 rfl ?_)))))))))))))
    refine Vj rfl (V5 rfl (V4 rfl (Vd rfl (V6 rfl (Aa (Ad false rfl (Ah (Ac (Ab (V8 rfl (V0 rfl (Vj rfl (V5 rfl ?_)))))))))))))
    refine V4 rfl (Vd rfl (Va [.bool _] rfl Tryd.func56 rfl ?_))
    refine (Ex _ _).mono ?_
    rintro e w1 ⟨rfl, hp2⟩
    refine ⟨_, rfl, ?_⟩
    replace hI := hI.pure hp2
    refine Vf rfl (V9 rfl (Aa ?_))
    refine Aj ?_
    refine DV 6 7 (.inr rfl) rfl ⟨A, c, by rw [e]; rfl, by rw [e]; exact hI⟩
   ·by_cases k8 : k = 8
    ·have e : Et l k a = (l, 1) := by unfold Et; rw [if_neg (fun h => h.2 hm), if_neg (by omega), decide_eq_true ⟨k8, hm⟩]; rfl
     refine Ac (Ab (V0 rfl (Vj rfl (V5 rfl (V4 rfl (V4 rfl (Vd rfl (V6 rfl (Aa (Ad false rfl (Ac (Ab (V0 rfl ?_)))))))))))))
     refine Vj rfl (V5 rfl (V4 rfl (Vd rfl (V6 rfl (Aa (Ad false rfl (Ah (Ac (Ab (V8 rfl (V0 rfl (Vu rfl (V5 rfl ?_)))))))))))))
     refine V5 rfl (Vg rfl (Va [.bool _] rfl Tryd.func56 rfl ?_))
     refine (Ex _ _).mono ?_
     rintro e w1 ⟨rfl, hp2⟩
     refine ⟨_, rfl, ?_⟩
     replace hI := hI.pure hp2
     refine Vf rfl (V9 rfl (Aa ?_))
     refine Aj ?_
     refine DV 6 7 (.inr rfl) rfl ⟨A, c, by rw [e]; rfl, by rw [e]; exact hI⟩
    ·have e : Et l k a = (l, 0) := by unfold Et; rw [if_neg (fun h => h.2 hm), if_neg (by omega), decide_eq_false (by omega)]; rfl
     refine Ac (Ab (V0 rfl (Vj rfl (V5 rfl (V4 rfl (V4 rfl (Vd rfl (V6 rfl (Aa (Ad false rfl (Ac (Ab (V0 rfl ?_)))))))))))))
     refine Vj rfl (V5 rfl (V4 rfl (Vd rfl (V6 rfl (Aa (Ad false rfl (Ah (Ac (Ab (V8 rfl (V0 rfl (Vj rfl (V5 rfl ?_)))))))))))))
     refine V4 rfl (Vd rfl (Va [.bool _] rfl Tryd.func56 rfl ?_))
     refine (Ex _ _).mono ?_
     rintro e w1 ⟨rfl, hp2⟩
     refine ⟨_, rfl, ?_⟩
     replace hI := hI.pure hp2
     refine Vf rfl (V9 rfl (Aa ?_))
     refine Aj ?_
     refine DV 6 7 (.inr rfl) rfl ⟨A, c, by rw [e]; rfl, by rw [e]; exact hI⟩
 ·rw [decide_eq_false hm]
  by_cases k6 : k = 6
  ·have e : Et l k a = (O9 l a, 1) := by unfold Et; rw [if_pos ⟨k6, hm⟩]
   refine Ac (Ab (V0 rfl (Vu rfl (V5 rfl (V5 rfl (Tf rfl (Vg rfl (V6 rfl (Aa (Ad true rfl (Ac (Ab (V8 rfl ?_)))))))))))))
   refine V0 rfl (V0 rfl (Vm [(0, .int .i64 _)] [_] [.int .i64 0] [0] hI rfl Tryd.underlying24 (fun _ => by kernel_rfl) ?_))
   clear hI; rintro b26 w - - hI
   refine Va [.slice _ _ _, .int .i64 _, .slice _ _ _] rfl Tryd.func62 rfl ?_
   refine (QE A c l (DX l a) a b26 _ (hI.ok (StE A c l) (by simp)) hpl hI.g0 (fun he => ?_) (by omega)).mono ?_
   ·exact hI.disj (i := 1) (j := 0) rfl rfl (by omega) b26 he rfl
   rintro e w1 ⟨A', c', rfl, hT⟩
   refine ⟨_, rfl, ?_⟩
   replace hI := hI.d0.turn1 hT
   refine Vf rfl (V9 rfl (Aa ?_))
   refine Aj ?_
   refine DV 6 7 (.inr rfl) rfl ⟨A', c', ?_, ?_⟩
   ·rw [e]
    have hl : (O9 l a).length = l.length + 1 := by unfold O9; simp; omega
    rw [hl]; rfl
   ·rw [e]; exact hI
  ·have e : Et l k a = (l, 0) := by unfold Et; rw [if_neg (by omega), if_neg (fun h => hm h.2), decide_eq_false (fun h => hm h.2)]; rfl
   by_cases k7 : k = 7
   ·refine Ac (Ab (V0 rfl (Vj rfl (V5 rfl (V4 rfl (V4 rfl (Vd rfl (V6 rfl (Aa (Ad false rfl (Ac (Ab (V0 rfl ?_)))))))))))))
    refine Vu rfl (V5 rfl (V5 rfl (Vg rfl (V6 rfl (Aa (Ad false rfl (Ah (Ac (Ab (V8 rfl (V0 rfl (Vj rfl (V5 rfl ?_)))))))))))))
    refine V4 rfl (Vd rfl (Va [.bool _] rfl Tryd.func56 rfl ?_))
    refine (Ex _ _).mono ?_
    rintro e w1 ⟨rfl, hp2⟩
    refine ⟨_, rfl, ?_⟩
    replace hI := hI.pure hp2
    refine Vf rfl (V9 rfl (Aa ?_))
    refine Aj ?_
    refine DV 6 7 (.inr rfl) rfl ⟨A, c, by rw [e]; rfl, by rw [e]; exact hI⟩
   ·by_cases k8 : k = 8
    ·refine Ac (Ab (V0 rfl (Vj rfl (V5 rfl (V4 rfl (V4 rfl (Vd rfl (V6 rfl (Aa (Ad false rfl (Ac (Ab (V0 rfl ?_)))))))))))))
     refine Vj rfl (V5 rfl (V4 rfl (Vd rfl (V6 rfl (Aa (Ad false rfl (Ah (Ac (Ab (V8 rfl (V0 rfl (Vu rfl (V5 rfl ?_)))))))))))))
     refine V5 rfl (Vg rfl (Va [.bool _] rfl Tryd.func56 rfl ?_))
     refine (Ex _ _).mono ?_
     rintro e w1 ⟨rfl, hp2⟩
     refine ⟨_, rfl, ?_⟩
     replace hI := hI.pure hp2
     refine Vf rfl (V9 rfl (Aa ?_))
     refine Aj ?_
     refine DV 6 7 (.inr rfl) rfl ⟨A, c, by rw [e]; rfl, by rw [e]; exact hI⟩
    ·refine Ac (Ab (V0 rfl (Vj rfl (V5 rfl (V4 rfl (V4 rfl (Vd rfl (V6 rfl (Aa (Ad false rfl (Ac (Ab (V0 rfl ?_)))))))))))))
     refine Vj rfl (V5 rfl (V4 rfl (Vd rfl (V6 rfl (Aa (Ad false rfl (Ah (Ac (Ab (V8 rfl (V0 rfl (Vj rfl (V5 rfl ?_)))))))))))))
     refine V4 rfl (Vd rfl (Va [.bool _] rfl Tryd.func56 rfl ?_))
     refine (Ex _ _).mono ?_
     rintro e w1 ⟨rfl, hp2⟩
     refine ⟨_, rfl, ?_⟩
     replace hI := hI.pure hp2
     refine Vf rfl (V9 rfl (Aa ?_))
     refine Aj ?_
     refine DV 6 7 (.inr rfl) rfl ⟨A, c, by rw [e]; rfl, by rw [e]; exact hI⟩
theorem Pb (l : List Int) (a : Int) : Ba (l ++ [a]) = Ba l ++ [.int .i64 a] := by simp [Ba]
theorem X7 {w : World} {g o c : Nat} {l : List Int} (h : Rd w (fun _ => True) 1 (.slice (some ⟨g, o, none⟩) l.length c) l.length (Ba l)) (h2 : 2 ≤ l.length) : Rd w (fun _ => True) 1 (.slice (some ⟨g, o + 1 * 1, none⟩) (l.drop 1).length (c - 1)) (l.drop 1).length (Ba (l.drop 1)) := by
 obtain ⟨A1, c1, hv, hnc, hcm, hlen, hcell⟩ := h
 injection hv with e1 e2 e3
 subst e1 e3
 obtain ⟨b, o', hbo, _, hcl⟩ := hcell (by omega)
 injection hbo with hbo
 injection hbo with e4 e5
 subst e4 e5
 refine ⟨_, _, rfl, by simp; omega, by omega, by simp [Ba], fun _ => ⟨g, o + 1 * 1, rfl, trivial, fun j u hj => ?_⟩⟩
 have : (Ba l)[1 + j]? = some u := by rw [← hj]; simp [Ba, List.getElem?_drop, Nat.add_comm]
 have := hcl (1 + j) u this
 rwa [Nat.mul_one, Nat.add_assoc]
theorem X8 {w : World} {A : Option Addr} {c : Nat} (hc : c ≤ 9223372036854775807) : Rd w (fun _ => True) 1 (.slice A ([] : List Int).length c) ([] : List Int).length (Ba []) :=
 ⟨A, c, rfl, Nat.zero_le _, hc, rfl, fun h => absurd h (Nat.lt_irrefl 0)⟩
set_option maxHeartbeats 2000000 in
theorem O4 (o : Int) (A : Option Addr) (c : Nat) (l : List Int) (k a : Int) (w0 : World) (h : (StE A c l).ok w0) (hb : l.length ≤ 100000) :
  Calls Tryd.prog 57 #[.int .i64 o, .slice A l.length c, .int .i64 k, .int .i64 a] w0 fun en w' => ∃ A' c', en = .returned (.tuple #[.slice A' (CO o l k a).1.length c', .int .i64 (CO o l k a).2]) ∧ Inv (StE A c l).D w0 w' [StE A' c' (CO o l k a).1] := by
 have hI := Inv.ownE h
 refine Vx Tryd.f57.ntmps Tryd.func57 rfl ?_
 refine Ac (Ab (Vf rfl (V9 rfl (Aa ?_))))
 rcases Nat.eq_zero_or_pos l.length with h00 | h00
 ·have hl : l = [] := List.eq_nil_of_length_eq_zero h00
  subst hl
  refine Ac (Ab (V8 rfl (Vi rfl Tryd.underlying24 rfl ?_)))
  refine Af rfl rfl rfl (by exact YT rfl rfl rfl (by omega)) ?_
  refine V9 rfl (Aa (Ac (Al ?_)))
  by_cases k9 : k = 9
  ·have e : CO o [] k a = ([] ++ [a], 0) := by unfold CO; rw [if_pos k9]
   refine Ac (Ab (V0 rfl (Vu rfl (V6 rfl (Aa (Ad true rfl (Ac (Ab (V8 rfl (V0 rfl (Vm [(0, .int .i64 _)] [_] [.int .i64 0] [0] hI rfl Tryd.underlying24 (fun _ => by kernel_rfl) ?_)))))))))))
   clear hI; rintro b19 w - - hI
   refine Eb (z := .int .i64 0) (by_ := 8) hI rfl rfl rfl rfl rfl rfl Tryd.underlying24 (by kernel_rfl) rfl (by omega) (by rfl) hI.lit0 (by rfl) (by omega) (by omega) (by exact Nat.zero_le _) ?_
   clear hI; rintro A20 c20 w hA20 hc20 hI
   replace hI := hI.d0
   refine Vf rfl (V9 rfl (Aa ?_))
   refine Aj ?_
   refine DV 8 9 (.inr rfl) rfl ⟨A20, c20, ?_, ?_⟩
   ·rw [e]; rfl
   ·rw [e]; exact hI
  refine Ac (Ab (V0 rfl (Vj rfl (V6 rfl (Aa (Ad false rfl ?_))))))
  have e : CO o [] k a = ([], -1) := by unfold CO; rw [if_neg k9, if_pos rfl]
  refine Ac (Ab (V0 rfl (Vt rfl (V6 rfl (Aa (Ad true rfl (Ac (Ab (V8 rfl (Vf rfl (V9 rfl (Aa ?_))))))))))))
  refine Aj ?_
  exact DV 8 9 (.inr rfl) rfl ⟨A, c, by rw [e]; rfl, by rw [e]; exact hI⟩
 refine Ac (Ab (V8 rfl (Vi rfl Tryd.underlying24 rfl ?_)))
 refine Af rfl rfl rfl (MC (b := 1) rfl rfl rfl (by omega) (by omega)) ?_
 refine V9 rfl (Aa (Ac (Al ?_)))
 by_cases k9 : k = 9
 ·have e : CO o l k a = (l ++ [a], 0) := by unfold CO; rw [if_pos k9]
  refine Ac (Ab (V0 rfl (Vu rfl (V6 rfl (Aa (Ad true rfl (Ac (Ab (V8 rfl (V0 rfl (Vm [(0, .int .i64 _)] [_] [.int .i64 0] [0] hI rfl Tryd.underlying24 (fun _ => by kernel_rfl) ?_)))))))))))
  clear hI; rintro b19 w - - hI
  refine Eb (z := .int .i64 0) (by_ := 8) hI rfl rfl rfl rfl rfl rfl Tryd.underlying24 (by kernel_rfl) rfl (by omega) (by rfl) hI.lit0 (by rfl) (by omega) (by omega) (by exact Nat.zero_le _) ?_
  clear hI; rintro A20 c20 w hA20 hc20 hI
  replace hI := hI.d0
  refine Vf rfl (V9 rfl (Aa ?_))
  refine Aj ?_
  refine DV 8 9 (.inr rfl) rfl ⟨A20, c20, ?_, ?_⟩
  ·rw [e]; simp only [List.length_append, List.length_cons, List.length_nil, Nat.zero_add]; rfl
  ·rw [e]
   have h' : Inv (StE A c l).D w0 w [Row 0 3 1 A20 (l.length + 1) c20 (Ba l ++ [.int .i64 a])] := hI
   rw [← Pb] at h'
   simpa [StE] using h'
 refine Ac (Ab (V0 rfl (Vj rfl (V6 rfl (Aa (Ad false rfl ?_))))))
 have h0 := h00
 have hne : l ≠ [] := fun e => by subst e; simp at h0
 obtain ⟨g, og, rfl⟩ := GG h.1 h0 (by omega)
 have hcap : l.length ≤ c ∧ c ≤ 9223372036854775807 := by
  rcases Ga h.1 with ⟨hA, _⟩ | ⟨_, _, _, _, h1, h2, _⟩
  ·cases hA
  ·exact ⟨h1, h2⟩
 refine Ac (Ab (V0 rfl (Vo rfl (V6 rfl (Aa (Ad false rfl ?_))))))
 have c0 : (Ba l)[0]? = some (.int .i64 (l.getD 0 0)) := by simp [Ba, List.getD, List.getElem?_eq_getElem h0]
 have c1 : (Ba l)[l.length - 1]? = some (.int .i64 (l.getD (l.length - 1) 0)) := by simp [Ba, List.getD, List.getElem?_eq_getElem (show l.length - 1 < l.length by omega)]
 by_cases ho : o = 4
 ·have e : CO o l k a = (l.drop 1, l.getD 0 0) := by unfold CO; rw [if_neg k9, if_neg hne, if_pos ho]
  have hld : (l.drop 1).length = l.length - 1 := by simp
  refine Ac (Ab (V0 rfl (Vu rfl (V6 rfl (Aa (Ad true rfl ?_))))))
  rcases Nat.lt_or_ge 1 l.length with h2 | h2
  ·refine Ac (BB (by kernel_rfl) ?_)
   refine BC (T := []) hI.drew ?_
   intro Sx hSx hXS
   replace hI := hI.drew
   refine Vv 0 (hXS _ hI) rfl ?_
   refine Ae 1 rfl rfl (by kernel_rfl) (hXS _ hI) rfl (fun W hW => have hI := hSx W hW; (by exact Qn (sz := 1) (i := 1) rfl Tryd.underlying24 (by kernel_rfl) rfl rfl (by omega) (by omega))) ?_
   refine Vv 3 (hXS _ hI) rfl ?_
   refine Ae 4 rfl rfl (by kernel_rfl) (hXS _ hI) rfl (fun W hW => have hI := hSx W hW; (by exact Dz (i := 0) rfl Tryd.underlying24 (by kernel_rfl) rfl rfl (by omega))) ?_
   refine Vh 5 (.int .i64 _) (hXS _ hI) rfl (fun W hW => have hI := hSx W hW; EB hI.g0 c0 h0) (V2 2 rfl ?_)
   refine Va [.slice _ _ _] rfl Tryd.func55 rfl ?_
   rw [← hld]
   refine (Jz _ (c - 1) (l.drop 1) _ _ (X7 (QU hI.g0) h2) (by omega)).mono ?_
   rintro e1 w1 ⟨A', c', rfl, hT⟩
   refine ⟨_, rfl, ?_⟩
   replace hI := hI.app1 hT
   refine Aa ⟨hXS _ hI.d0, ?_⟩
   refine Tn 6 (hXS _ hI.d0) rfl ?_
   refine Ae 7 rfl rfl (by kernel_rfl) (hXS _ hI.d0) rfl (fun W hW => have hI := hSx W hW; (by exact Ji rfl rfl)) ?_
   refine Av (by kernel_rfl) ?_
   refine Aj ?_
   refine DV 8 9 (.inr rfl) rfl ⟨A', c', by rw [e]; rfl, by rw [e]; exact hI.d1⟩
  ·have hd0 : l.drop 1 = [] := List.drop_eq_nil_of_le h2
   refine Ac (BB (by kernel_rfl) ?_)
   refine BC (T := []) hI.drew ?_
   intro Sx hSx hXS
   replace hI := hI.drew
   refine Vv 0 (hXS _ hI) rfl ?_
   refine Ae 1 rfl rfl (by kernel_rfl) (hXS _ hI) rfl (fun W hW => have hI := hSx W hW; (OH (sz := 1) (i := 1) rfl Tryd.underlying24 (by kernel_rfl) rfl rfl (by omega))) ?_
   refine Vv 3 (hXS _ hI) rfl ?_
   refine Ae 4 rfl rfl (by kernel_rfl) (hXS _ hI) rfl (fun W hW => have hI := hSx W hW; (by exact Dz (i := 0) rfl Tryd.underlying24 (by kernel_rfl) rfl rfl (by omega))) ?_
   refine Vh 5 (.int .i64 _) (hXS _ hI) rfl (fun W hW => have hI := hSx W hW; EB hI.g0 c0 h0) (V2 2 rfl ?_)
   refine Va [.slice _ _ _] rfl Tryd.func55 rfl ?_
   rw [show l.length - 1 = ([] : List Int).length from by simp; omega]
   refine (Jz _ (c - 1) [] _ _ (X8 (by omega)) (by simp)).mono ?_
   rintro e1 w1 ⟨A', c', rfl, hT⟩
   refine ⟨_, rfl, ?_⟩
   replace hI := hI.app1 hT
   refine Aa ⟨hXS _ hI.d0, ?_⟩
   refine Tn 6 (hXS _ hI.d0) rfl ?_
   refine Ae 7 rfl rfl (by kernel_rfl) (hXS _ hI.d0) rfl (fun W hW => have hI := hSx W hW; (by exact Ji rfl rfl)) ?_
   refine Av (by kernel_rfl) ?_
   refine Aj ?_
   refine DV 8 9 (.inr rfl) rfl ⟨A', c', by rw [e, hd0]; rfl, by rw [e, hd0]; exact hI.d1⟩
 have e : CO o l k a = (l.take (l.length - 1), l.getD (l.length - 1) 0) := by unfold CO; rw [if_neg k9, if_neg hne, if_neg ho]
 refine Ac (Ab (V0 rfl (Vj rfl (V6 rfl (Aa (Ad false rfl (Ah (Ac (BB (by kernel_rfl) ?_)))))))))
 refine BC (T := []) hI.drew ?_
 intro Sx hSx hXS
 replace hI := hI.drew
 refine Vv 0 (hXS _ hI) rfl (Vs 1 (hXS _ hI) rfl ?_)
 refine Ae 2 rfl rfl (by kernel_rfl) (hXS _ hI) rfl (fun W hW => have hI := hSx W hW; (Gc (sz := 1) (i := l.length - 1) rfl Tryd.underlying24 (by kernel_rfl) rfl rfl (by omega))) ?_
 refine Vv 3 (hXS _ hI) rfl (Vs 4 (hXS _ hI) rfl ?_)
 refine Ae 5 rfl rfl (by kernel_rfl) (hXS _ hI) rfl (fun W hW => have hI := hSx W hW; (by exact Dz rfl Tryd.underlying24 (by kernel_rfl) rfl rfl (by omega))) ?_
 refine Vh 6 (.int .i64 _) (hXS _ hI) rfl (fun W hW => have hI := hSx W hW; EB hI.g0 c1 h0) (Tn 7 (hXS _ hI) rfl ?_)
 refine Ae 8 rfl rfl (by kernel_rfl) (hXS _ hI) rfl (fun W hW => have hI := hSx W hW; (by exact Ji rfl rfl)) ?_
 refine Av (by kernel_rfl) ?_
 refine Aj ?_
 refine DV 8 9 (.inr rfl) rfl ⟨some ⟨g, og, none⟩, c, ?_, ?_⟩
 ·rw [e]
  have hl : (l.take (l.length - 1)).length = l.length - 1 := by simp
  rw [hl]; rfl
 ·rw [e]
  exact hI.u0 (e' := StE (some ⟨g, og, none⟩) c (l.take (l.length - 1))) (Chg.refl _ _) (PE (hI.ok _ (by simp)) _ (by omega)) (fun k hk => .inl hk)
def Bv (o : Int) (st : List Int) (k a b : Int) (w0 : World) (en : Ending) (w' : World) : Prop :=
 match BR o st k a b with
 | none => en = .returned (.tuple #[.slice none 0 0, .int .i64 0, .bool false]) ∧ Pure w0 w'
 | some (st', r) => ∃ A' c', en = .returned (.tuple #[.slice A' st'.length c', .int .i64 r, .bool true]) ∧ Inv (fun _ => False) w0 w' [StE A' c' st']
theorem Bv.none {o : Int} {st : List Int} {k a b : Int} {w0 w' : World} (h : BR o st k a b = .none) (hp : Pure w0 w') : Bv o st k a b w0 (.returned (.tuple #[.slice none 0 0, .int .i64 0, .bool false])) w' := by
 unfold Bv; rw [h]; exact ⟨rfl, hp⟩
theorem Bv.some {o : Int} {st st' : List Int} {k a b r : Int} {w0 w' : World} {A' : Option Addr} {c' n' : Nat} (h : BR o st k a b = .some (st', r)) (hn : n' = st'.length) (hI : Inv (fun _ => False) w0 w' [StE A' c' st']) : Bv o st k a b w0 (.returned (.tuple #[.slice A' n' c', .int .i64 r, .bool true])) w' := by
 unfold Bv; rw [h]; subst hn; exact ⟨A', c', rfl, hI⟩
theorem O5 {o k : Int} (h : DD o k = true) : o = 1 ∨ o = 2 ∨ o = 3 ∨ o = 4 ∨ o = 5 ∨ o = 6 := by
 rcases Classical.em (o < 1 ∨ 6 < o) with h1 | h1
 ·rw [FC o k (by omega)] at h; cases h
 ·omega
theorem XA {S : Nat → Prop} {w0 w : World} {H : List Ent} {g : Nat} {z : Int} (hI : Inv S w0 w (B g 3 #[.int .i64 z] :: H)) : Inv S w0 w (StE (some ⟨g, 0, none⟩) 1 [z] :: H) :=
 hI.u0 (e' := StE (some ⟨g, 0, none⟩) 1 [z]) (Chg.refl _ _) (Row.of_blk hI.g0 (Nat.zero_le _) rfl (by simp)) (fun k hk => .inl (by have : some g = some k := hk; injection this with this; exact this.symm))
set_option maxHeartbeats 4000000 in
theorem F9 (o : Int) (A : Option Addr) (c : Nat) (st : List Int) (k a b : Int) (D : Nat → Prop) (w0 : World) (h : Rd w0 D 1 (.slice A st.length c) st.length (Ba st)) (hs : OW o st) (hb : st.length ≤ 100000) (hk : Dq w0) :
  Calls Tryd.prog 42 #[.int .i64 o, .slice A st.length c, .int .i64 k, .int .i64 a, .int .i64 b] w0 (Bv o st k a b w0) := by
 have hI := Inv.start (fun _ => False) w0
 refine Vx Tryd.f42.ntmps Tryd.func42 rfl ?_
 refine Ac (Ab (Vf rfl (V9 rfl (V6 rfl (Aa ?_)))))
 by_cases hkn : DD o k = true
 rotate_left
 ·have hkn : DD o k = false := by simpa using hkn
  refine Ac (Ac (Ab (V0 rfl (V0 rfl (Va [.int .i64 _, .int .i64 _] rfl Tryd.func41 rfl ?_)))))
  refine (EC o k _ (hk.pure hI.pu)).mono ?_
  rw [hkn]
  rintro e w1 ⟨rfl, hp⟩
  refine ⟨_, rfl, ?_⟩
  replace hI := hI.pure hp
  refine Tf rfl (V5 rfl (V4 rfl (V4 rfl (V4 rfl (V4 rfl (V4 rfl (V4 rfl (V4 rfl (Vg rfl (Aa (Ad true rfl (Ac (Ab ?_)))))))))))))
  refine Vf rfl (V9 rfl (V6 rfl (Aa ?_)))
  refine Aj ?_
  exact LQ 10 11 12 (.inr rfl) rfl (Bv.none (by unfold BR; rw [if_pos (.inl hkn)]) hI.pu)
 by_cases hsi : Di o = true ∧ st.length ≠ 1
 ·refine Ac (Ac (Ab (V0 rfl (V0 rfl (Va [.int .i64 _, .int .i64 _] rfl Tryd.func41 rfl ?_)))))
  refine (EC o k _ (hk.pure hI.pu)).mono ?_
  rw [hkn]
  rintro e w1 ⟨rfl, hp⟩
  refine ⟨_, rfl, ?_⟩
  replace hI := hI.pure hp
  refine T5 rfl (V5 rfl (V0 rfl (Va [.int .i64 _] rfl Tryd.func43 rfl ?_)))
  refine (FN o _).mono ?_
  rw [hsi.1]
  rintro e w1 ⟨rfl, hp⟩
  refine ⟨_, rfl, ?_⟩
  replace hI := hI.pure hp
  refine V5 rfl (V8 rfl (Vi rfl Tryd.underlying24 rfl (Tm rfl (Vg rfl (Vd rfl (Aa (Ad true rfl (Ac (Ab (Vf rfl (V9 rfl (V6 rfl (Aa ?_)))))))))))))
  refine Aj ?_
  exact LQ 10 11 12 (.inr rfl) rfl (Bv.none (by unfold BR; rw [if_pos (.inr hsi)]) hI.pu)
 have hgo : ¬ (DD o k = false ∨ (Di o = true ∧ st.length ≠ 1)) := fun hh => by
  rcases hh with hh | hh
  ·rw [hkn] at hh; cases hh
  ·exact hsi hh
 refine Bt (fun ρ w => Has ρ [(0, .int .i64 o), (1, .slice A st.length c), (2, .int .i64 k), (3, .int .i64 a), (4, .int .i64 b)] ∧ Inv (fun _ => False) w0 w []) ?_ ?_
 ·cases hsg : Di o with
  | true =>
   have hl1 : st.length = 1 := by
    rcases Classical.em (st.length = 1) with h1 | h1
    ·exact h1
    ·exact absurd ⟨hsg, h1⟩ hsi
   refine Ac (Ab (V0 rfl (V0 rfl (Va [.int .i64 _, .int .i64 _] rfl Tryd.func41 rfl ?_))))
   refine (EC o k _ (hk.pure hI.pu)).mono ?_
   rw [hkn]
   rintro e w1 ⟨rfl, hp⟩
   refine ⟨_, rfl, ?_⟩
   replace hI := hI.pure hp
   refine T5 rfl (V5 rfl (V0 rfl (Va [.int .i64 _] rfl Tryd.func43 rfl ?_)))
   refine (FN o _).mono ?_
   rw [hsg]
   rintro e w1 ⟨rfl, hp⟩
   refine ⟨_, rfl, ?_⟩
   replace hI := hI.pure hp
   refine V5 rfl (V8 rfl (Vi rfl Tryd.underlying24 rfl (Tl rfl (Vg rfl (Vd rfl (Aa (Ad false rfl (Ah ?_))))))))
   exact ⟨⟨rfl, rfl, rfl, rfl, rfl, trivial⟩, hI⟩
  | false =>
   refine Ac (Ab (V0 rfl (V0 rfl (Va [.int .i64 _, .int .i64 _] rfl Tryd.func41 rfl ?_))))
   refine (EC o k _ (hk.pure hI.pu)).mono ?_
   rw [hkn]
   rintro e w1 ⟨rfl, hp⟩
   refine ⟨_, rfl, ?_⟩
   replace hI := hI.pure hp
   refine T5 rfl (V5 rfl (V0 rfl (Va [.int .i64 _] rfl Tryd.func43 rfl ?_)))
   refine (FN o _).mono ?_
   rw [hsg]
   rintro e w1 ⟨rfl, hp⟩
   refine ⟨_, rfl, ?_⟩
   replace hI := hI.pure hp
   refine V5 rfl (V4 rfl (V4 rfl (V4 rfl (Vd rfl (Vd rfl (Aa (Ad false rfl (Ah ?_))))))))
   exact ⟨⟨rfl, rfl, rfl, rfl, rfl, trivial⟩, hI⟩
 clear hI
 rintro ρ w ⟨hH, hI⟩
 obtain ⟨σ, rfl⟩ := hH.open
 have one : Di o = true → ∃ bA oA z, A = some ⟨bA, oA, none⟩ ∧ st = [z] ∧ w0.cell? ⟨bA, oA, none⟩ = some (.int .i64 z) := by
  intro hsg
  have hl1 : st.length = 1 := by
   rcases Classical.em (st.length = 1) with h1 | h1
   ·exact h1
   ·exact absurd ⟨hsg, h1⟩ hsi
  obtain ⟨z, rfl⟩ : ∃ z, st = [z] := List.length_eq_one_iff.1 hl1
  obtain ⟨b', o', h1, _, _, h2⟩ := h.get (k := 0) (u := .int .i64 z) rfl (by simp)
  exact ⟨b', o', z, h1, rfl, h2⟩
 have hcl := fun (W : World) (hp : Pure w0 W) => Jz A c st D W (h.pure hp) (by omega)
 rcases O5 hkn with rfl | rfl | rfl | rfl | rfl | rfl
 ·-- a register
  obtain ⟨bA, oA, z, rfl, rfl, hz⟩ := one rfl
  have e : BR 1 [z] k a b = some ([(KV z k a b).1], (KV z k a b).2) := by unfold BR; rw [if_neg hgo, if_pos rfl]; rfl
  refine Ac (Ac (Ab (V0 rfl (Aa (Al (Ac (Ab (Vu rfl (V6 rfl (Aa (Ad true rfl (Ac (Ab ?_)))))))))))))
  refine V8 rfl ?_
  refine Af rfl rfl rfl (Dz (i := 0) rfl Tryd.underlying24 (by kernel_rfl) rfl rfl (by simp)) ?_
  refine V3 (.int .i64 _) rfl (hI.oldp hz) (V0 rfl (V0 rfl (V0 rfl (Va [.int .i64 _, .int .i64 _, .int .i64 _, .int .i64 _] rfl Tryd.func53 rfl ?_))))
  refine (ND z k a b _).mono ?_
  rintro e1 w1 ⟨rfl, hp⟩
  refine ⟨_, rfl, ?_⟩
  replace hI := hI.pure hp
  refine Ta rfl (Vk rfl (Vk rfl (V9 rfl (V9 rfl (Aa (Ac (Ab (V0 rfl (Vm [(0, .int .i64 _)] [_] [.int .i64 0] [0] hI rfl Tryd.underlying24 (fun _ => by kernel_rfl) ?_)))))))))
  clear hI; rintro b43 w - - hI
  refine V0 rfl (Vf rfl (V9 rfl (V6 rfl (Aa ?_))))
  refine Aj ?_
  exact LQ 10 11 12 (.inr rfl) rfl (Bv.some e rfl (XA hI))
 ·-- a counter
  obtain ⟨bA, oA, z, rfl, rfl, hz⟩ := one rfl
  refine Ac (Ac (Ab (V0 rfl (Aa (Al (Ac (Ab (Vj rfl (V6 rfl (Aa (Ad false rfl (Ac (Ab ?_)))))))))))))
  refine Vu rfl (V6 rfl (Aa (Ad true rfl (Ac (Ab (V8 rfl ?_))))))
  refine Af rfl rfl rfl (Dz (i := 0) rfl Tryd.underlying24 (by kernel_rfl) rfl rfl (by simp)) ?_
  refine V3 (.int .i64 _) rfl (hI.oldp hz) (V9 rfl (Aa ?_))
  by_cases k4 : k = 4
  ·have e : BR 2 [z] k a b = some ([IntKind.i64.wrap (z + a)], IntKind.i64.wrap (z + a)) := by unfold BR; rw [if_neg hgo, if_neg (by decide), if_pos rfl, if_pos k4]; rfl
   refine Ac (Ac (Ab (V0 rfl (Vu rfl (Aa (Ad true rfl (Ab (V0 rfl (V0 rfl ?_)))))))))
   refine Af rfl rfl rfl (Yj rfl rfl rfl) ?_
   refine V9 rfl (Aa (Ac (Ab (V0 rfl (Vm [(0, .int .i64 _)] [_] [.int .i64 0] [0] hI rfl Tryd.underlying24 (fun _ => by kernel_rfl) ?_)))))
   clear hI; rintro b56 w - - hI
   refine V0 rfl (Vf rfl (V9 rfl (V6 rfl (Aa ?_))))
   refine Aj ?_
   exact LQ 10 11 12 (.inr rfl) rfl (Bv.some e rfl (XA hI))
  ·have e : BR 2 [z] k a b = some ([z], z) := by unfold BR; rw [if_neg hgo, if_neg (by decide), if_pos rfl, if_neg k4]; rfl
   refine Ac (Ac (Ab (V0 rfl (Vj rfl (Aa (Ad false rfl (Ah (Ac (Ab (V0 rfl (Vm [(0, .int .i64 _)] [_] [.int .i64 0] [0] hI rfl Tryd.underlying24 (fun _ => by kernel_rfl) ?_)))))))))))
   clear hI; rintro b56 w - - hI
   refine V0 rfl (Vf rfl (V9 rfl (V6 rfl (Aa ?_))))
   refine Aj ?_
   exact LQ 10 11 12 (.inr rfl) rfl (Bv.some e rfl (XA hI))
 ·-- a set
  have e : BR 3 st k a b = some (Et st k a) := by unfold BR; rw [if_neg hgo, if_neg (by decide), if_neg (by decide), if_pos rfl]
  refine Ac (Ac (Ab (V0 rfl (Aa (Al (Ac (Ab (Vj rfl (V6 rfl (Aa (Ad false rfl (Ac (Ab ?_)))))))))))))
  refine Vj rfl (V6 rfl (Aa (Ad false rfl (Ac (Ab (Vu rfl (V6 rfl (Aa (Ad true rfl (Ac (Ab (V8 rfl (Va [.slice _ _ _] rfl Tryd.func55 rfl ?_)))))))))))))
  refine (hcl _ hI.pu).mono ?_
  rintro e1 w1 ⟨A1, c1, rfl, hT⟩
  refine ⟨_, rfl, ?_⟩
  replace hI := hI.app1 hT
  refine V0 rfl (V0 rfl (Va [.slice _ _ _, .int .i64 _, .int .i64 _] rfl Tryd.func54 rfl ?_))
  refine (WP A1 c1 st k a _ (hI.ok (StE A1 c1 st) (by simp)) (hs rfl) hb).mono ?_
  rintro e1 w1 ⟨A2, c2, rfl, hT2⟩
  refine ⟨_, rfl, ?_⟩
  replace hI := hI.turn1 hT2
  refine Ta rfl (Vk rfl (Vk rfl (Vf rfl (V9 rfl (Aa (Ac (Ab (V8 rfl (V0 rfl (Vf rfl (V9 rfl (V6 rfl (Aa ?_)))))))))))))
  refine Aj ?_
  exact LQ 10 11 12 (.inr rfl) rfl (Bv.some (st' := (Et st k a).1) (r := (Et st k a).2) e rfl hI)
 ·-- a line
  have e : BR 4 st k a b = some (CO 4 st k a) := by unfold BR; rw [if_neg hgo, if_neg (by decide), if_neg (by decide), if_neg (by decide), if_neg (by decide)]
  refine Ac (Ac (Ab (V0 rfl (Aa (Al (Ac (Ab (Vj rfl (V6 rfl (Aa (Ad false rfl (Ac (Ab ?_)))))))))))))
  refine Vj rfl (V6 rfl (Aa (Ad false rfl (Ac (Ab (Vj rfl (V6 rfl (Aa (Ad false rfl (Ac (Ab (Vj rfl (V6 rfl ?_)))))))))))))
  refine Aa (Ad false rfl (Ah (Ac (Ab (V0 rfl (V8 rfl (Va [.slice _ _ _] rfl Tryd.func55 rfl ?_)))))))
  refine (hcl _ hI.pu).mono ?_
  rintro e1 w1 ⟨A1, c1, rfl, hT⟩
  refine ⟨_, rfl, ?_⟩
  replace hI := hI.app1 hT
  refine V0 rfl (V0 rfl (Va [.int .i64 _, .slice _ _ _, .int .i64 _, .int .i64 _] rfl Tryd.func57 rfl ?_))
  refine (O4 4 A1 c1 st k a _ (hI.ok (StE A1 c1 st) (by simp)) hb).mono ?_
  rintro e1 w1 ⟨A2, c2, rfl, hT2⟩
  refine ⟨_, rfl, ?_⟩
  replace hI := hI.turn1 hT2
  refine Ta rfl (Vk rfl (Vk rfl (Vf rfl (V9 rfl (Aa (Ac (Ab (V8 rfl (V0 rfl (Vf rfl (V9 rfl (V6 rfl (Aa ?_)))))))))))))
  refine Aj ?_
  exact LQ 10 11 12 (.inr rfl) rfl (Bv.some (st' := (CO 4 st k a).1) (r := (CO 4 st k a).2) e rfl hI)
 ·-- a line
  have e : BR 5 st k a b = some (CO 5 st k a) := by unfold BR; rw [if_neg hgo, if_neg (by decide), if_neg (by decide), if_neg (by decide), if_neg (by decide)]
  refine Ac (Ac (Ab (V0 rfl (Aa (Al (Ac (Ab (Vj rfl (V6 rfl (Aa (Ad false rfl (Ac (Ab ?_)))))))))))))
  refine Vj rfl (V6 rfl (Aa (Ad false rfl (Ac (Ab (Vj rfl (V6 rfl (Aa (Ad false rfl (Ac (Ab (Vj rfl (V6 rfl ?_)))))))))))))
  refine Aa (Ad false rfl (Ah (Ac (Ab (V0 rfl (V8 rfl (Va [.slice _ _ _] rfl Tryd.func55 rfl ?_)))))))
  refine (hcl _ hI.pu).mono ?_
  rintro e1 w1 ⟨A1, c1, rfl, hT⟩
  refine ⟨_, rfl, ?_⟩
  replace hI := hI.app1 hT
  refine V0 rfl (V0 rfl (Va [.int .i64 _, .slice _ _ _, .int .i64 _, .int .i64 _] rfl Tryd.func57 rfl ?_))
  refine (O4 5 A1 c1 st k a _ (hI.ok (StE A1 c1 st) (by simp)) hb).mono ?_
  rintro e1 w1 ⟨A2, c2, rfl, hT2⟩
  refine ⟨_, rfl, ?_⟩
  replace hI := hI.turn1 hT2
  refine Ta rfl (Vk rfl (Vk rfl (Vf rfl (V9 rfl (Aa (Ac (Ab (V8 rfl (V0 rfl (Vf rfl (V9 rfl (V6 rfl (Aa ?_)))))))))))))
  refine Aj ?_
  exact LQ 10 11 12 (.inr rfl) rfl (Bv.some (st' := (CO 5 st k a).1) (r := (CO 5 st k a).2) e rfl hI)
 ·-- a mutex
  obtain ⟨bA, oA, z, rfl, rfl, hz⟩ := one rfl
  refine Ac (Ac (Ab (V0 rfl (Aa (Al (Ac (Ab (Vj rfl (V6 rfl (Aa (Ad false rfl (Ac (Ab ?_)))))))))))))
  refine Vj rfl (V6 rfl (Aa (Ad false rfl (Ac (Ab (Vj rfl (V6 rfl (Aa (Ad false rfl (Ac (Ab (Vu rfl (V6 rfl ?_)))))))))))))
  refine Aa (Ad true rfl ?_)
  by_cases hz1 : z = OV (k == 12)
  ·have e : BR 6 [z] k a b = some ([OV (k == 11)], 0) := by unfold BR; rw [if_neg hgo, if_neg (by decide), if_neg (by decide), if_neg (by decide), if_pos rfl, if_pos (by simpa using hz1)]
   refine Ac (Ac (BB (by kernel_rfl) ?_))
   refine BC (T := []) hI.drew ?_
   intro Sx hSx hXS
   replace hI := hI.drew
   refine Vv 0 (hXS _ hI) rfl ?_
   refine Ae 1 rfl rfl (by kernel_rfl) (hXS _ hI) rfl (fun W hW => have hI := hSx W hW; (Dz (i := 0) rfl Tryd.underlying24 (by kernel_rfl) rfl rfl (by simp))) ?_
   refine Vh 2 (.int .i64 _) (hXS _ hI) rfl (fun W hW => (hSx W hW).oldp hz) (Vs 3 (hXS _ hI) rfl ?_)
   refine Ae 4 rfl rfl (by kernel_rfl) (hXS _ hI) rfl (fun W hW => have hI := hSx W hW; (NH rfl rfl rfl)) ?_
   refine V2 5 rfl ?_
   refine Va [.bool _] rfl Tryd.func56 rfl ?_
   refine (Ex (k == 12) _).mono ?_
   rw [← hz1]
   rintro e1 w1 ⟨rfl, hp⟩
   refine ⟨_, rfl, ?_⟩
   replace hI := hI.pure hp
   refine Aa ⟨hXS _ hI, ?_⟩
   refine Ae 6 rfl rfl (by kernel_rfl) (hXS _ hI) rfl (fun W hW => have hI := hSx W hW; (by exact Uh rfl rfl rfl (by omega))) ?_
   refine Av (by kernel_rfl) (Ad false rfl (Ah (Ac (Ab (V0 rfl ?_)))))
   refine Af rfl rfl rfl (NH rfl rfl rfl) ?_
   refine Va [.bool _] rfl Tryd.func56 rfl ?_
   refine (Ex (k == 11) _).mono ?_
   rintro e1 w1 ⟨rfl, hp⟩
   refine ⟨_, rfl, ?_⟩
   replace hI := hI.pure hp
   refine Vm [(0, .int .i64 _)] [_] [.int .i64 0] [0] hI rfl Tryd.underlying24 (fun _ => by kernel_rfl) ?_
   clear hI; rintro b82 w - - hI
   refine Vf rfl (V9 rfl (V6 rfl (Aa ?_)))
   refine Aj ?_
   exact LQ 10 11 12 (.inr rfl) rfl (Bv.some e rfl (XA hI))
  ·have e : BR 6 [z] k a b = none := by unfold BR; rw [if_neg hgo, if_neg (by decide), if_neg (by decide), if_neg (by decide), if_pos rfl, if_neg (by simpa using hz1)]
   refine Ac (Ac (BB (by kernel_rfl) ?_))
   refine BC (T := []) hI.drew ?_
   intro Sx hSx hXS
   replace hI := hI.drew
   refine Vv 0 (hXS _ hI) rfl ?_
   refine Ae 1 rfl rfl (by kernel_rfl) (hXS _ hI) rfl (fun W hW => have hI := hSx W hW; (Dz (i := 0) rfl Tryd.underlying24 (by kernel_rfl) rfl rfl (by simp))) ?_
   refine Vh 2 (.int .i64 _) (hXS _ hI) rfl (fun W hW => (hSx W hW).oldp hz) (Vs 3 (hXS _ hI) rfl ?_)
   refine Ae 4 rfl rfl (by kernel_rfl) (hXS _ hI) rfl (fun W hW => have hI := hSx W hW; (NH rfl rfl rfl)) ?_
   refine V2 5 rfl ?_
   refine Va [.bool _] rfl Tryd.func56 rfl ?_
   refine (Ex (k == 12) _).mono ?_
   generalize hzz : OV (k == 12) = zz at hz1 ⊢
   rintro e1 w1 ⟨rfl, hp⟩
   refine ⟨_, rfl, ?_⟩
   replace hI := hI.pure hp
   refine Aa ⟨hXS _ hI, ?_⟩
   refine Ae 6 rfl rfl (by kernel_rfl) (hXS _ hI) rfl (fun W hW => have hI := hSx W hW; (by exact OI rfl rfl rfl (by omega))) ?_
   refine Av (by kernel_rfl) (Ad true rfl (Ac (Ab (Vf rfl (V9 rfl (V6 rfl (Aa ?_)))))))
   refine Aj ?_
   exact LQ 10 11 12 (.inr rfl) rfl (Bv.none e hI.pu)
end Go.Proofs.YtkkmokodaejheaaDoor
namespace Go.Proofs.YtkkmokodaejheaaDoor
structure Op8 where
 proc : Int
 key : Int
 kind : Int
 a : Int
 b : Int
 res : Int
 call : Int
 ret : Int
deriving DecidableEq
def opV (o : Op8) : List Value := [.int .i64 o.proc, .int .i64 o.key, .int .i64 o.kind, .int .i64 o.a, .int .i64 o.b, .int .i64 o.res, .int .i64 o.call, .int .i64 o.ret]
def oAt (l : List Op8) (k : Nat) : Op8 := l.getD k ⟨0, 0, 0, 0, 0, 0, 0, 0⟩
abbrev Oc := Nat → Option (List Int)
def Ku (g : Oc) (k : Nat) (st : List Int) : Oc := fun j => if j = k then some st else g j
def JP (o : Int) (ops : List Op8) : List Int → Nat → Oc → Int
 | [], _, _ => -1
 | i :: r, p, g =>
  if i < 0 ∨ (ops.length : Int) ≤ i then (p : Int) else
  match BR o ((g (oAt ops i.toNat).key.toNat).getD (Bi o)) (oAt ops i.toNat).kind (oAt ops i.toNat).a (oAt ops i.toNat).b with
  | none => (p : Int)
  | some (st', res) => if 0 ≤ (oAt ops i.toNat).ret ∧ res ≠ (oAt ops i.toNat).res then (p : Int) else JP o ops r (p + 1) (Ku g (oAt ops i.toNat).key.toNat st')
def WW (o : Int) (ops : List Op8) (order : List Int) : Int := JP o ops order 0 (fun _ => none)
theorem Mk {o : Int} {st st' : List Int} {k a b r : Int} (h : BR o st k a b = some (st', r)) : st'.length ≤ st.length + 1 := by
 unfold BR at h
 split at h
 ·cases h
 split at h
 ·injection h with h; injection h with h1 _; subst h1; simp
 split at h
 ·injection h with h; injection h with h1 _; subst h1; simp
 split at h
 ·injection h with h
  have h1 : (Et st k a).1 = st' := by rw [h]
  subst h1
  have := Re st a
  unfold Et
  split
  ·simp [O9]; omega
  ·split
   ·simp [Pp]; omega
   ·simp
 split at h
 ·split at h
  ·injection h with h; injection h with h1 _; subst h1; simp
  ·cases h
 ·injection h with h
  have h1 : (CO o st k a).1 = st' := by rw [h]
  subst h1
  unfold CO
  split
  ·simp
  ·split
   ·simp
   ·split
    ·simp; omega
    ·simp; omega
theorem KD (o : Int) : (Bi o).length ≤ 1 := by
 unfold Bi
 split <;> simp
end Go.Proofs.YtkkmokodaejheaaDoor
namespace Go.Proofs.YtkkmokodaejheaaDoor
open Go.RowKit
def BK (w : World) (D : Nat → Prop) (v : Value) (l : List Op8) : Prop := Rd w D 8 v l.length (l.flatMap opV)
theorem BK.pure {w w' : World} {D : Nat → Prop} {v : Value} {l : List Op8} (h : BK w D v l) (hp : Pure w w') : BK w' D v l := Rd.pure h hp
theorem BK.at {w : World} {D : Nat → Prop} {A : Option Addr} {n c : Nat} {l : List Op8} (h : BK w D (.slice A n c) l) {k : Nat} (hk : k < l.length) : ∃ b o, A = some ⟨b, o, none⟩ ∧ ∀ (j : Nat) (u : Value), (opV (oAt l k))[j]? = some u → w.cell? ⟨b, o + k * 8 + j, none⟩ = some u := by
 obtain ⟨A1, c1, hv, hnc, hcm, hlen, hcell⟩ := h
 injection hv with e1 e2 e3
 subst e1 e3
 obtain ⟨b, o, hbo, _, hcl⟩ := hcell (by omega)
 refine ⟨b, o, hbo, fun j u hj => ?_⟩
 have hj8 : j < 8 := by have := (List.getElem?_eq_some_iff.1 hj).1; simpa [opV] using this
 have hg : l[k]? = some (oAt l k) := by unfold oAt; rw [List.getD_eq_getElem?_getD, List.getElem?_eq_getElem hk]; rfl
 rw [Nat.add_assoc]
 refine hcl _ u ?_
 rw [Yn (f := opV) (fun a => rfl) l k _ hg j hj8]
 exact hj
theorem BK.len {w : World} {D : Nat → Prop} {A : Option Addr} {n c : Nat} {l : List Op8} (h : BK w D (.slice A n c) l) : n = l.length ∧ n ≤ c ∧ c ≤ 9223372036854775807 := by
 obtain ⟨A', c', he, h1, h2⟩ := Rd.form h
 injection he with _ e2 e3
 subst e2 e3
 exact ⟨rfl, h1, h2⟩
abbrev Loc := Nat → Option Addr × Nat
def Ic (g : Oc) (L : Loc) : Int → Option Value := fun m => if 0 ≤ m ∧ m < 8 then (g m.toNat).map (fun st => .slice (L m.toNat).1 st.length (L m.toNat).2) else none
def KE (g : Oc) (L : Loc) (k : Nat) : Ent := match g k with | none => Ent.nil | some st => StE (L k).1 (L k).2 st
def Dw (L : Loc) (k : Nat) (A : Option Addr) (c : Nat) : Loc := fun j => if j = k then (A, c) else L j
theorem TE {g : Oc} {L : Loc} {k : Nat} {z : Int} (hz : z = (k : Int)) (hk : k < 8) (st : List Int) (A : Option Addr) (c : Nat) : (fun j => if j = z then some (.slice A st.length c) else Ic g L j) = Ic (Ku g k st) (Dw L k A c) := by
 subst hz
 funext j
 unfold Ic
 by_cases hj : j = (k : Int)
 ·subst hj
  rw [if_pos rfl, if_pos (by omega)]
  simp [Ku, Dw]
 ·rw [if_neg hj]
  by_cases hr : 0 ≤ j ∧ j < 8
  ·rw [if_pos hr, if_pos hr]
   have : j.toNat ≠ k := by omega
   simp [Ku, Dw, this]
  ·rw [if_neg hr, if_neg hr]
theorem TG (g : Oc) (L : Loc) (k : Nat) (st : List Int) (A : Option Addr) (c : Nat) (j : Nat) : (if j = k then StE A c st else KE g L j) = KE (Ku g k st) (Dw L k A c) j := by
 unfold KE
 by_cases hj : j = k
 ·subst hj; simp [Ku, Dw]
 ·simp [Ku, Dw, hj]
theorem Inv.many_set {S : Nat → Prop} {w0 w : World} {H : List Ent} {e : Ent} {n i : Nat} {es : Nat → Ent} (h : Inv S w0 w (e :: AY n es :: H)) (hi : i < n) : Inv S w0 w (AY n (fun j => if j = i then e else es j) :: H) := by
 have h1 := (h.sw0.many_out hi).d0.sw0.many_in hi (by simp)
 refine h1.many_congr fun j hj => ?_
 by_cases e : j = i
 ·simp [e]
 ·simp [e]
set_option maxHeartbeats 4000000 in
theorem WV (o : Int) (A : Option Addr) (n c : Nat) (ops : List Op8) (A' : Option Addr) (c' : Nat) (order : List Int) (D D' : Nat → Prop) (w0 : World) (h : BK w0 D (.slice A n c) ops) (hr : Rd w0 D' 1 (.slice A' order.length c') order.length (Ba order)) (hkey : ∀ i, i < ops.length → 0 ≤ (oAt ops i).key ∧ (oAt ops i).key < 8) (hb : order.length ≤ 10000) (hk : Dq w0) :
  Calls Tryd.prog 19 #[.int .i64 o, .slice A n c, .slice A' order.length c'] w0 fun en w' => en = .returned (.int .i64 (WW o ops order)) ∧ Pure w0 w' := by
 obtain ⟨hn, hc1, hc2⟩ := h.len
 have hI := Inv.start (fun _ => False) w0
 refine Vx Tryd.f19.ntmps Tryd.func19 rfl ?_
 refine Ac (Ab (V9 rfl (Aa (Ac (Ab ?_)))))
 refine Wd hI rfl rfl rfl rfl ?_
 clear hI; intro b16 w hI
 refine Af rfl rfl rfl (by exact Y1 rfl rfl) ?_
 refine Aa (Ac (Ac (Ab (V8 rfl (Vi rfl Tryd.underlying24 rfl (V0 rfl (Aa ?_)))))))
 replace hI : Inv (fun _ => False) w0 w [AY 8 (KE (fun _ => none) (fun _ => (none, 0))), IZ b16 (Ic (fun _ => none) (fun _ => (none, 0)))] := by
  have h1 : Inv (fun _ => False) w0 w [IZ b16 (Ic (fun _ => none) (fun _ => (none, 0)))] := by
   have e : Ic (fun _ => none) (fun _ => (none, 0)) = fun _ => none := by funext m; unfold Ic; split <;> rfl
   rw [e]; exact hI
  exact h1.fresh (Pure.refl _) (AY.ok (fun i _ => Ent.nil_ok _) (fun i j _ _ _ k hk => hk.elim)) (fun k hk => by obtain ⟨i, _, hk⟩ := hk; exact hk.elim)
 refine Al ?_
 refine Ce (fun mu ρ w => ∃ (p : Nat) (g : Oc) (L : Loc), mu = order.length - p ∧ p ≤ order.length ∧ WW o ops order = JP o ops (order.drop p) p g ∧ (∀ k st, g k = some st → OW o st ∧ st.length ≤ p + 1) ∧ Has ρ [(19, .int .i64 (p : Int)), (18, .int .i64 (order.length : Int)), (17, .slice A' order.length c'), (0, .int .i64 o), (1, .slice A n c), (7, .map (some b16))] ∧ Inv (fun _ => False) w0 w [AY 8 (KE g L), IZ b16 (Ic g L)]) order.length
  ⟨0, _, _, rfl, by omega, rfl, (fun k st hst => by cases hst), ⟨rfl, rfl, rfl, rfl, rfl, rfl, trivial⟩, hI⟩ ?_
 clear hI
 rintro mu ρ w ⟨p, g, L, rfl, hp, hrun, hok, hH, hI⟩
 obtain ⟨σ, rfl⟩ := hH.open
 by_cases hpl : p < order.length
 rotate_left
 ·obtain rfl : p = order.length := by omega
  refine Ac (Ab (Vo rfl (Aa (Ac (Ad false rfl ?_)))))
  refine BG ?_
  refine Ac (Ab (V9 rfl (Aa ?_)))
  refine Aj ?_
  exact Bw 6 (.inr rfl) rfl ⟨by rw [hrun, List.drop_eq_nil_of_le (Nat.le_refl _)]; rfl, hI.pu⟩
 have hi0 : (Ba order)[p]? = some (.int .i64 (order[p]'hpl)) := by simp [Ba, hpl]
 obtain ⟨ob, oo, rfl, _, _, hcell⟩ := hr.get hi0 (by omega)
 have hdrop : order.drop p = (order[p]'hpl) :: order.drop (p + 1) := List.drop_eq_getElem_cons hpl
 generalize order[p]'hpl = i at hi0 hcell hdrop
 rw [hdrop] at hrun
 refine Ac (Ab (Vt rfl (Aa (Ac (Ad true rfl (Ah (Ac (Al (Ac (Ab (V0 rfl ?_)))))))))))
 refine Af rfl rfl rfl (by exact Dz rfl Tryd.underlying24 (by kernel_rfl) rfl rfl (by omega)) ?_
 refine V3 (.int .i64 _) rfl (hI.oldp hcell) (V9 rfl (V9 rfl (Aa ?_)))
 by_cases hneg : i < 0
 ·refine Ac (Ac (Ab (V0 rfl (Vt rfl (V5 rfl (V4 rfl (V4 rfl (V4 rfl (V4 rfl (Vg rfl (Aa (Ad true rfl (Ac ?_)))))))))))))
  refine Ab (V0 rfl (V9 rfl (Aa ?_)))
  refine Aj ?_
  exact Bw 6 (.inr rfl) rfl ⟨by rw [hrun, JP, if_pos (.inl hneg)]; rfl, hI.pu⟩
 by_cases hbig : (ops.length : Int) ≤ i
 ·refine Ac (Ac (Ab (V0 rfl (Vo rfl (V5 rfl (V0 rfl (V8 rfl (Vi rfl Tryd.underlying22 rfl (Tc rfl (Vd rfl (Aa (Ad true rfl (Ac ?_)))))))))))))
  refine Ab (V0 rfl (V9 rfl (Aa ?_)))
  refine Aj ?_
  exact Bw 6 (.inr rfl) rfl ⟨by rw [hrun, JP, if_pos (.inr hbig)]; rfl, hI.pu⟩
 refine Ac (Ac (Ab (V0 rfl (Vo rfl (V5 rfl (V0 rfl (V8 rfl (Vi rfl Tryd.underlying22 rfl (Tg rfl (Vd rfl (Aa (Ad false rfl (Ah ?_)))))))))))))
 rw [JP, if_neg (by omega)] at hrun
 obtain ⟨m, rfl⟩ : ∃ m : Nat, i = (m : Int) := ⟨i.toNat, by omega⟩
 have hm : m < ops.length := by omega
 rw [Int.toNat_natCast] at hrun
 obtain ⟨ab, ao, rfl, hoc⟩ := h.at hm
 obtain ⟨hk0, hk8⟩ := hkey m hm
 generalize hop : oAt ops m = op at hrun hoc hk0 hk8
 obtain ⟨proc, key, kind, a, b, res, call, ret⟩ := op
 simp only at hrun hk0 hk8
 obtain ⟨kn, rfl⟩ : ∃ kn : Nat, key = (kn : Int) := ⟨key.toNat, by omega⟩
 have hkn : kn < 8 := by omega
 rw [Int.toNat_natCast] at hrun
 refine Ac (Ab (V8 rfl (V0 rfl (Th 8 rfl Tryd.underlying22 rfl (Tj 8 rfl (by rfl) (fun k u hk => hI.oldp (hoc k u hk)) (Vw (.agg #[.int .i64 0, .int .i64 0, .int .i64 0, .int .i64 0, .int .i64 0, .int .i64 0, .int .i64 0, .int .i64 0]) (#[.int .i64 0, .int .i64 0, .int .i64 0, .int .i64 0, .int .i64 0, .int .i64 0, .int .i64 0, .int .i64 0]) hI rfl ?_))))))
 clear hI; rintro b10 w - - hI
 refine Vz 8 (#[_, _, _, _, _, _, _, _]) (.agg _) hI rfl ?_
 clear hI; intro w hI
 refine Aa ?_
 simp only [opV] at hI
 obtain ⟨st, hst⟩ : ∃ st, st = (g kn).getD (Bi o) := ⟨_, rfl⟩
 rw [← hst] at hrun
 have hsto : OW o st ∧ st.length ≤ p + 1 := by
  cases hg : g kn with
  | none => rw [hg] at hst; subst hst; exact ⟨K3 o, by have := KD o; simp only [Option.getD_none]; omega⟩
  | some s1 => rw [hg] at hst; subst hst; exact hok kn _ hg
 have hlook : Ic g L (kn : Int) = (g kn).map (fun st => .slice (L kn).1 st.length (L kn).2) := by unfold Ic; rw [if_pos (by omega), Int.toNat_natCast]
 refine Ac (Ab ?_)
 refine Af rfl rfl rfl (by exact Uj rfl rfl) ?_
 refine V7 1 rfl (V3 (.int .i64 _) rfl (hI.c0 rfl) ?_)
 refine Af rfl rfl rfl (Aae (zv := .slice none 0 0) rfl Tryd.underlying91 Tryd.underlying3 (by kernel_rfl) rfl rfl hI.g2) ?_
 refine Ta rfl (Vk rfl (Vk rfl ?_))
 refine Af rfl rfl rfl (by exact Iw rfl) ?_
 refine V6 rfl (Aa ?_)
 rw [hlook]
 refine Bt (fun ρ w => ∃ (A1 : Option Addr) (c1 : Nat), Has ρ [(19, .int .i64 (p : Int)), (18, .int .i64 (order.length : Int)), (17, .slice (some ⟨ob, oo, none⟩) order.length c'), (0, .int .i64 o), (1, .slice (some ⟨ab, ao, none⟩) n c), (7, .map (some b16)), (8, .int .i64 (p : Int)), (10, .pointer (some ⟨b10, 0, none⟩)), (11, .slice A1 st.length c1)] ∧ Rd w (fun _ => True) 1 (.slice A1 st.length c1) st.length (Ba st) ∧ Inv (fun _ => False) w0 w [B b10 63 #[.int .i64 proc, .int .i64 (kn : Int), .int .i64 kind, .int .i64 a, .int .i64 b, .int .i64 res, .int .i64 call, .int .i64 ret], AY 8 (KE g L), IZ b16 (Ic g L)]) ?_ ?_
 ·cases hg : g kn with
  | none =>
   rw [hg] at hst
   simp only [Option.map_none, Option.getD_none, Option.isSome_none] at hst ⊢
   subst hst
   refine Ac (Ab (V5 rfl (Tf rfl (Aa (Ad true rfl (Ab (V0 rfl (Va [.int .i64 _] rfl Tryd.func20 rfl ?_))))))))
   refine (Ml o _).mono ?_
   rintro e1 w1 ⟨A1, c1, rfl, hT⟩
   refine ⟨_, rfl, ?_⟩
   replace hI := hI.app1 hT
   refine Vf rfl (Aa ?_)
   exact ⟨A1, c1, ⟨rfl, rfl, rfl, rfl, rfl, rfl, rfl, rfl, rfl, trivial⟩, QU hI.g0, hI.d0⟩
  | some s1 =>
   rw [hg] at hst
   simp only [Option.map_some, Option.getD_some, Option.isSome_some] at hst ⊢
   subst hst
   refine Ac (Ab (V5 rfl (T5 rfl (Aa (Ad false rfl (Ah ?_))))))
   have hE : (KE g L kn).Φ _ := hI.d0.many_at hkn
   unfold KE at hE
   rw [hg] at hE
   exact ⟨_, _, ⟨rfl, rfl, rfl, rfl, rfl, rfl, rfl, rfl, rfl, trivial⟩, QU hE, hI⟩
 clear hI
 rintro ρ w ⟨A1, c1, hH, hRd, hI⟩
 obtain ⟨σ, rfl⟩ := hH.open
 cases hs : BR o st kind a b with
 | none =>
  rw [hs] at hrun
  refine Ac (Ab (V0 rfl (V8 rfl (V7 2 rfl (V3 (.int .i64 _) rfl (hI.c0 rfl) (V7 3 rfl (V3 (.int .i64 _) rfl (hI.c0 rfl) (V7 4 rfl (V3 (.int .i64 _) rfl (hI.c0 rfl) (Va [.int .i64 _, .slice _ _ _, .int .i64 _, .int .i64 _, .int .i64 _] rfl Tryd.func42 rfl ?_))))))))))
  refine (F9 o A1 c1 st kind a b _ _ hRd hsto.1 (by omega) (hk.pure hI.pu)).mono ?_
  rintro e1 w1 hpost
  unfold Bv at hpost
  rw [hs] at hpost
  obtain ⟨rfl, hp1⟩ := hpost
  refine ⟨_, rfl, ?_⟩
  replace hI := hI.pure hp1
  refine Ta rfl (Vk rfl (Vk rfl (Vk rfl (Vf rfl (V9 rfl (V6 rfl (Aa (Ac (Ac (Ab (V5 rfl (Tf rfl (V5 rfl ?_)))))))))))))
  refine V4 rfl (V4 rfl (V4 rfl (V4 rfl (V4 rfl (V4 rfl (V4 rfl (V4 rfl (V4 rfl (Vg rfl (Aa (Ad true rfl (Ac (Ab ?_)))))))))))))
  refine V0 rfl (V9 rfl (Aa ?_))
  refine Aj ?_
  exact Bw 6 (.inr rfl) rfl ⟨by rw [hrun]; rfl, hI.pu⟩
 | some q =>
  obtain ⟨st', r⟩ := q
  rw [hs] at hrun
  simp only at hrun
  by_cases hret : 0 ≤ ret ∧ r ≠ res
  ·rw [if_pos hret] at hrun
   refine Ac (Ab (V0 rfl (V8 rfl (V7 2 rfl (V3 (.int .i64 _) rfl (hI.c0 rfl) (V7 3 rfl (V3 (.int .i64 _) rfl (hI.c0 rfl) (V7 4 rfl (V3 (.int .i64 _) rfl (hI.c0 rfl) (Va [.int .i64 _, .slice _ _ _, .int .i64 _, .int .i64 _, .int .i64 _] rfl Tryd.func42 rfl ?_))))))))))
   refine (F9 o A1 c1 st kind a b _ _ hRd hsto.1 (by omega) (hk.pure hI.pu)).mono ?_
   rintro e1 w1 hpost
   unfold Bv at hpost
   rw [hs] at hpost
   obtain ⟨A2, c2, rfl, hT⟩ := hpost
   refine ⟨_, rfl, ?_⟩
   replace hI := hI.app1 hT
   refine Ta rfl (Vk rfl (Vk rfl (Vk rfl (Vf rfl (V9 rfl (V6 rfl (Aa ?_)))))))
   obtain ⟨hr0, hrne⟩ := hret
   refine Ac (Ac (Ab (V5 rfl (T5 rfl (V5 rfl (V7 7 rfl (V3 (.int .i64 _) rfl (hI.c1 rfl) (Tc rfl (V5 rfl (V0 rfl (V7 5 rfl (V3 (.int .i64 _) rfl (hI.c1 rfl) (Tm rfl ?_)))))))))))))
   refine Vg rfl (Vd rfl (Aa (Ad true rfl (Ac (Ab (V0 rfl (V9 rfl (Aa ?_))))))))
   refine Aj ?_
   exact Bw 6 (.inr rfl) rfl ⟨by rw [hrun]; rfl, hI.pu⟩
  ·rw [if_neg hret] at hrun
   have hnext : ∀ k s1, Ku g kn st' k = some s1 → OW o s1 ∧ s1.length ≤ p + 1 + 1 := fun k s1 hk1 => by
    unfold Ku at hk1
    split at hk1
    ·injection hk1 with hk1
     subst hk1
     exact ⟨Ot hs hsto.1, by have := Mk hs; omega⟩
    ·have := hok k s1 hk1
     exact ⟨this.1, by omega⟩
   refine Bt (fun ρ w => ∃ (A2 : Option Addr) (c2 : Nat), Has ρ [(19, .int .i64 (p : Int)), (18, .int .i64 (order.length : Int)), (17, .slice (some ⟨ob, oo, none⟩) order.length c'), (0, .int .i64 o), (1, .slice (some ⟨ab, ao, none⟩) n c), (7, .map (some b16)), (10, .pointer (some ⟨b10, 0, none⟩)), (13, .slice A2 st'.length c2), (14, .int .i64 r), (15, .bool true), (8, .int .i64 (p : Int))] ∧ Inv (fun _ => False) w0 w [StE A2 c2 st', B b10 63 #[.int .i64 proc, .int .i64 (kn : Int), .int .i64 kind, .int .i64 a, .int .i64 b, .int .i64 res, .int .i64 call, .int .i64 ret], AY 8 (KE g L), IZ b16 (Ic g L)]) ?_ ?_
   ·refine Ab (V0 rfl (V8 rfl (V7 2 rfl (V3 (.int .i64 _) rfl (hI.c0 rfl) (V7 3 rfl (V3 (.int .i64 _) rfl (hI.c0 rfl) (V7 4 rfl (V3 (.int .i64 _) rfl (hI.c0 rfl) (Va [.int .i64 _, .slice _ _ _, .int .i64 _, .int .i64 _, .int .i64 _] rfl Tryd.func42 rfl ?_)))))))))
    refine (F9 o A1 c1 st kind a b _ _ hRd hsto.1 (by omega) (hk.pure hI.pu)).mono ?_
    rintro e1 w1 hpost
    unfold Bv at hpost
    rw [hs] at hpost
    obtain ⟨A2, c2, rfl, hT⟩ := hpost
    refine ⟨_, rfl, ?_⟩
    replace hI := hI.app1 hT
    refine Ta rfl (Vk rfl (Vk rfl (Vk rfl (Vf rfl (V9 rfl (V6 rfl (Aa ?_)))))))
    exact ⟨A2, c2, ⟨rfl, rfl, rfl, rfl, rfl, rfl, rfl, rfl, rfl, rfl, rfl, trivial⟩, hI⟩
   clear hI
   rintro ρ w ⟨A2, c2, hH, hI⟩
   obtain ⟨σ, rfl⟩ := hH.open
   refine Bt (fun ρ w => Has ρ [(19, .int .i64 (p : Int)), (18, .int .i64 (order.length : Int)), (17, .slice (some ⟨ob, oo, none⟩) order.length c'), (0, .int .i64 o), (1, .slice (some ⟨ab, ao, none⟩) n c), (7, .map (some b16)), (10, .pointer (some ⟨b10, 0, none⟩)), (13, .slice A2 st'.length c2)] ∧ Inv (fun _ => False) w0 w [StE A2 c2 st', B b10 63 #[.int .i64 proc, .int .i64 (kn : Int), .int .i64 kind, .int .i64 a, .int .i64 b, .int .i64 res, .int .i64 call, .int .i64 ret], AY 8 (KE g L), IZ b16 (Ic g L)]) ?_ ?_
   ·by_cases hr0 : 0 ≤ ret
    ·have hre : r = res := by
      rcases Classical.em (r = res) with h1 | h1
      ·exact h1
      ·exact absurd ⟨hr0, h1⟩ hret
     refine Ac (Ab (V5 rfl (T5 rfl (V5 rfl (V7 7 rfl (V3 (.int .i64 _) rfl (hI.c1 rfl) (Tc rfl (V5 rfl (V0 rfl (V7 5 rfl (V3 (.int .i64 _) rfl (hI.c1 rfl) (Tl rfl (Vg rfl ?_)))))))))))))
     refine Vd rfl (Aa (Ad false rfl (Ah ?_)))
     exact ⟨⟨rfl, rfl, rfl, rfl, rfl, rfl, rfl, rfl, trivial⟩, hI⟩
    ·refine Ac (Ab (V5 rfl (T5 rfl (V5 rfl (V7 7 rfl (V3 (.int .i64 _) rfl (hI.c1 rfl) (Tg rfl (V5 rfl (V4 rfl (V4 rfl (V4 rfl (V4 rfl (Vd rfl ?_)))))))))))))
     refine Vd rfl (Aa (Ad false rfl (Ah ?_)))
     exact ⟨⟨rfl, rfl, rfl, rfl, rfl, rfl, rfl, rfl, trivial⟩, hI⟩
   clear hI
   rintro ρ w ⟨hH, hI⟩
   obtain ⟨σ, rfl⟩ := hH.open
   refine Ab ?_
   refine Af rfl rfl rfl (by exact Uj rfl rfl) ?_
   refine V7 1 rfl (V3 (.int .i64 _) rfl (hI.c1 rfl) (V8 rfl ?_))
   refine SE 3 rfl hI rfl rfl rfl Tryd.underlying91 Tryd.underlying3 rfl rfl rfl ?_
   clear hI; intro w hI
   replace hI : Inv (fun _ => False) w0 w [StE A2 c2 st', B b10 63 _, AY 8 (KE g L), IZ b16 (fun j => if j = (kn : Int) then some (.slice A2 st'.length c2) else Ic g L j)] := hI
   rw [TE (k := kn) rfl hkn] at hI
   replace hI := hI.d1.many_set hkn
   refine Aa (Ab (Vb rfl (V0 rfl (Aa ?_))))
   refine ⟨order.length - (p + 1), by omega, p + 1, Ku g kn st', Dw L kn A2 c2, rfl, by omega, hrun, hnext, ⟨rfl, rfl, rfl, rfl, rfl, rfl, trivial⟩, ?_⟩
   exact hI.many_congr fun j hj => TG g L kn st' A2 c2 j
end Go.Proofs.YtkkmokodaejheaaDoor
namespace Go.Proofs.YtkkmokodaejheaaDoor
open Go
def DL (l : List Ent) : Nat → Prop := fun k => ∃ e ∈ l, e.D k
section
variable {S : Nat → Prop} {w0 w w' : World} {H H' l : List Ent}
theorem Inv.from (h : Inv S w0 w (l ++ H)) : Inv (DL l) w w l :=
 ⟨Chg.refl _ w, fun e he => h.ok e (by simp [he]), fun e he k hk => .inl ⟨e, he, hk⟩, (List.pairwise_append.1 h.apart).1⟩
theorem Inv.turnL (h : Inv S w0 w (l ++ H)) (h' : Inv (DL l) w w' H') : Inv S w0 w' (H' ++ H) := by
 obtain ⟨p1, p2, p3⟩ := List.pairwise_append.1 h.apart
 refine ⟨h.chg.trans' h'.chg fun k hk1 hk2 => ?_, fun x hx => ?_, fun x hx k hk => ?_, List.pairwise_append.2 ⟨h'.apart, p2, fun a ha b hb k h1 h2 => ?_⟩⟩
 ·obtain ⟨e, he, hk2⟩ := hk2
  rcases h.own e (by simp [he]) k hk2 with h1 | h1
  ·exact h1
  ·omega
 ·rcases List.mem_append.1 hx with hx | hx
  ·exact h'.ok x hx
  ·exact (h.ok x (by simp [hx])).chg h'.chg (fun k hk hk2 => by obtain ⟨e, he, hk2⟩ := hk2; exact p3 e he x hx k hk2 hk)
 ·rcases List.mem_append.1 hx with hx | hx
  ·rcases h'.own x hx k hk with ⟨e, he, h1⟩ | h1
   ·exact h.own e (by simp [he]) k h1
   ·exact .inr (Nat.le_trans h.chg.size h1)
  ·exact h.own x (by simp [hx]) k hk
 ·rcases h'.own a ha k h1 with ⟨e, he, h3⟩ | h3
  ·exact p3 e he b hb k h3 h2
  ·have := (h.ok b (by simp [hb])).2.1 k h2
   omega
end
end Go.Proofs.YtkkmokodaejheaaDoor
namespace Go.Proofs.YtkkmokodaejheaaDoor
def DI (d : Nat) : Nat := if d < 10 then 48 + d else 87 + d
def Tt (c : Nat) : Nat := if c < 58 then c - 48 else c - 87
def Db : Nat → Nat → List Nat → List Nat
 | 0, u, acc => DI (u % 36) :: acc
 | f + 1, u, acc => if u < 36 then DI u :: acc else Db f (u / 36) (DI (u % 36) :: acc)
def Mc (s : Nat) : List Nat → Nat
 | [] => s
 | c :: r => Mc (s * 36 + Tt c) r
theorem I5 {d : Nat} (h : d < 36) : Tt (DI d) = d := by
 unfold Tt DI
 split <;> split <;> omega
theorem G6 : ∀ (f u : Nat) (acc : List Nat), u < 36 ^ (f + 1) → Mc 0 (Db f u acc) = Mc u acc
 | 0, u, acc, h => by
  have h1 : u < 36 := by simpa using h
  rw [Db, Nat.mod_eq_of_lt h1, Mc, I5 h1, Nat.zero_mul, Nat.zero_add]
 | f + 1, u, acc, h => by
  rw [Db]
  split
  ·rename_i h1
   rw [Mc, I5 h1, Nat.zero_mul, Nat.zero_add]
  ·have h2 : u / 36 < 36 ^ (f + 1) := by
    rw [Nat.div_lt_iff_lt_mul (by omega)]
    rw [Nat.pow_succ] at h
    exact h
   rw [G6 f (u / 36) _ h2, Mc, I5 (Nat.mod_lt _ (by omega))]
   rw [show u / 36 * 36 + u % 36 = u by omega]
def okC (c : Nat) : Prop := c ≠ 32 ∧ c ≠ 124 ∧ c < 256
theorem Kg {d : Nat} (h : d < 36) : okC (DI d) ∧ DI d ≠ 45 := by
 unfold okC DI
 split <;> omega
theorem OX : ∀ (f u : Nat) (acc : List Nat), (∀ c ∈ acc, okC c ∧ c ≠ 45) → ∀ c ∈ Db f u acc, okC c ∧ c ≠ 45
 | 0, u, acc, h => by
  intro c hc
  rcases List.mem_cons.1 hc with rfl | hc
  ·exact Kg (Nat.mod_lt _ (by omega))
  ·exact h c hc
 | f + 1, u, acc, h => by
  rw [Db]
  split
  ·rename_i h1
   intro c hc
   rcases List.mem_cons.1 hc with rfl | hc
   ·exact Kg h1
   ·exact h c hc
  ·refine OX f _ _ fun c hc => ?_
   rcases List.mem_cons.1 hc with rfl | hc
   ·exact Kg (Nat.mod_lt _ (by omega))
   ·exact h c hc
def dig (u : Nat) : List Nat := Db 13 u []
def Cf (n : Int) : List Nat := if n < 0 then 45 :: dig n.natAbs else dig n.natAbs
theorem Ry {u v : Nat} (hu : u < 18446744073709551616) (hv : v < 18446744073709551616) (h : dig u = dig v) : u = v := by
 have h1 := G6 13 u [] (Nat.lt_of_lt_of_le hu (by decide))
 have h2 := G6 13 v [] (Nat.lt_of_lt_of_le hv (by decide))
 have h3 : Db 13 u [] = Db 13 v [] := h
 rw [h3, h2] at h1
 exact h1.symm
def Eg (n : Int) : Prop := -9223372036854775808 ≤ n ∧ n ≤ 9223372036854775807
theorem N8 (u : Nat) : ∀ c ∈ dig u, okC c ∧ c ≠ 45 := OX 13 u [] (by simp)
theorem NV (n : Int) : ∀ c ∈ Cf n, okC c := by
 intro c hc
 unfold Cf at hc
 split at hc
 ·rcases List.mem_cons.1 hc with rfl | hc
  ·exact ⟨by decide, by decide, by decide⟩
  ·exact (N8 _ c hc).1
 ·exact (N8 _ c hc).1
theorem U7 {m n : Int} (hm : Eg m) (hn : Eg n) (h : Cf m = Cf n) : m = n := by
 unfold Eg at hm hn
 unfold Cf at h
 split at h
 ·split at h
  ·injection h with _ h
   have := Ry (by omega) (by omega) h
   omega
  ·have := (N8 n.natAbs 45 (by rw [← h]; simp)).2
   exact absurd rfl this
 ·split at h
  ·have := (N8 m.natAbs 45 (by rw [h]; simp)).2
   exact absurd rfl this
  ·have := Ry (by omega) (by omega) h
   omega
theorem Mf : ∀ (X X' Y Y' : List Nat), (∀ c ∈ X, okC c) → (∀ c ∈ X', okC c) → (∃ y r, Y = y :: r ∧ (y = 32 ∨ y = 124)) → (∃ y r, Y' = y :: r ∧ (y = 32 ∨ y = 124)) → X ++ Y = X' ++ Y' → X = X' ∧ Y = Y'
 | [], [], Y, Y', _, _, _, _, h => ⟨rfl, h⟩
 | [], c :: X', Y, Y', _, h2, ⟨y, r, e, hy⟩, _, h => by
  subst e
  simp only [List.nil_append, List.cons_append] at h
  injection h with h _
  have := h2 c (by simp)
  unfold okC at this
  omega
 | c :: X, [], Y, Y', h1, _, _, ⟨y, r, e, hy⟩, h => by
  subst e
  simp only [List.nil_append, List.cons_append] at h
  injection h with h _
  have := h1 c (by simp)
  unfold okC at this
  omega
 | c :: X, c' :: X', Y, Y', h1, h2, h3, h4, h => by
  simp only [List.cons_append] at h
  injection h with e h
  obtain ⟨e1, e2⟩ := Mf X X' Y Y' (fun c hc => h1 c (by simp [hc])) (fun c hc => h2 c (by simp [hc])) h3 h4 h
  exact ⟨by rw [e, e1], e2⟩
def F4 (l : List Int) : List Nat := l.flatMap (fun n => 32 :: Cf n) ++ [124]
theorem FE (n : Int) (l : List Int) : F4 (n :: l) = 32 :: Cf n ++ F4 l := by simp [F4]
theorem Na (l : List Int) (r : List Nat) : ∃ y r', F4 l ++ r = y :: r' ∧ (y = 32 ∨ y = 124) := by
 cases l with
 | nil => exact ⟨124, r, rfl, .inr rfl⟩
 | cons n l => exact ⟨32, Cf n ++ F4 l ++ r, by rw [FE]; rfl, .inl rfl⟩
theorem Pm : ∀ (l l' : List Int) (r r' : List Nat), (∀ n ∈ l, Eg n) → (∀ n ∈ l', Eg n) → F4 l ++ r = F4 l' ++ r' → l = l' ∧ r = r'
 | [], [], r, r', _, _, h => by
  simp [F4] at h
  exact ⟨rfl, h⟩
 | [], n :: l', r, r', _, _, h => by
  rw [FE] at h
  simp [F4] at h
 | n :: l, [], r, r', _, _, h => by
  rw [FE] at h
  simp [F4] at h
 | n :: l, n' :: l', r, r', h1, h2, h => by
  rw [FE, FE] at h
  simp only [List.cons_append, List.append_assoc] at h
  injection h with _ h
  obtain ⟨e1, e2⟩ := Mf _ _ _ _ (NV n) (NV n') (Na l r) (Na l' r') h
  obtain ⟨e3, e4⟩ := Pm l l' r r' (fun c hc => h1 c (by simp [hc])) (fun c hc => h2 c (by simp [hc])) e2
  exact ⟨by rw [U7 (h1 n (by simp)) (h2 n' (by simp)) e1, e3], e4⟩
def encS (sts : Nat → List Int) (ks : List Nat) : List Nat := ks.flatMap fun k => F4 (sts k)
theorem Pk {sts sts' : Nat → List Int} (h1 : ∀ k, ∀ n ∈ sts k, Eg n) (h2 : ∀ k, ∀ n ∈ sts' k, Eg n) : ∀ ks : List Nat, encS sts ks = encS sts' ks → ∀ k ∈ ks, sts k = sts' k
 | [], _ => by simp
 | k :: ks, h => by
  have h : F4 (sts k) ++ encS sts ks = F4 (sts' k) ++ encS sts' ks := by simpa [encS] using h
  obtain ⟨e1, e2⟩ := Pm _ _ _ _ (h1 k) (h2 k) h
  intro j hj
  rcases List.mem_cons.1 hj with rfl | hj
  ·exact e1
  ·exact Pk h1 h2 ks e2 j hj
def VT (b : Bool) : Nat := if b then 49 else 48
def FQ (n : Nat) (dn : Nat → Bool) (sts : Nat → List Int) : List Nat := (List.range n).map (fun i => VT (dn i)) ++ encS sts (List.range 8)
theorem U4 {n : Nat} {dn dn' : Nat → Bool} {sts sts' : Nat → List Int} (h1 : ∀ k, ∀ n ∈ sts k, Eg n) (h2 : ∀ k, ∀ n ∈ sts' k, Eg n) (h : FQ n dn sts = FQ n dn' sts') : (∀ i, i < n → dn i = dn' i) ∧ ∀ k, k < 8 → sts k = sts' k := by
 unfold FQ at h
 obtain ⟨e1, e2⟩ := List.append_inj h (by simp)
 refine ⟨fun i hi => ?_, fun k hk => Pk h1 h2 _ e2 k (List.mem_range.2 hk)⟩
 have := congrArg (fun l => l[i]?) e1
 simp [hi] at this
 unfold VT at this
 cases hd : dn i <;> cases hd' : dn' i <;> simp [hd, hd'] at this ⊢
theorem QJ (l : List Int) : ∀ c ∈ F4 l, c < 256 := by
 intro c hc
 rcases List.mem_append.1 hc with hc | hc
 ·obtain ⟨n, _, hc⟩ := List.mem_flatMap.1 hc
  rcases List.mem_cons.1 hc with rfl | hc
  ·decide
  ·exact (NV n c hc).2.2
 ·have : c = 124 := by simpa using hc
  omega
theorem La (n : Nat) (dn : Nat → Bool) (sts : Nat → List Int) : ∀ c ∈ FQ n dn sts, c < 256 := by
 intro c hc
 rcases List.mem_append.1 hc with hc | hc
 ·obtain ⟨i, _, rfl⟩ := List.mem_map.1 hc
  unfold VT
  split <;> decide
 ·obtain ⟨k, _, hc⟩ := List.mem_flatMap.1 hc
  exact QJ _ c hc
def EE (l : List Nat) : ByteArray := ⟨(l.map UInt8.ofNat).toArray⟩
theorem Tz {l l' : List Nat} (h1 : ∀ c ∈ l, c < 256) (h2 : ∀ c ∈ l', c < 256) (h : EE l = EE l') : l = l' := by
 unfold EE at h
 injection h with h
 have h := congrArg Array.toList h
 simp only at h
 have g : ∀ l : List Nat, (∀ c ∈ l, c < 256) → (l.map UInt8.ofNat).map UInt8.toNat = l := by
  intro l hl
  rw [List.map_map]
  conv => rhs; rw [← List.map_id l]
  refine List.map_congr_left fun c hc => ?_
  simp [Function.comp]
  have := hl c hc
  omega
 rw [← g l h1, ← g l' h2, h]
end Go.Proofs.YtkkmokodaejheaaDoor
namespace Go.Proofs.YtkkmokodaejheaaDoor
open Go
section
variable {P : Program} {N : Nat} {ops : Array Oper} {Q : A9} {rest : List Oper} {ρ : Env} {o : Oper} {w0 w w' : World} {S : Nat → Prop} {H : List Ent} {d t : Nat} {x y z : Operand} {v : Value}
theorem Rb {s : ByteArray} {i : Nat} {k : IntKind} {b : UInt8} {c : Int} (ho : o.op = .index t x y) (ht : P.underlying t = some .string) (hx : ev ρ x = .string s) (hy : ev ρ y = .int k (i : Int)) (hb : s[i]? = some b) (hc : (b.toNat : Int) = c) : Ar P ρ o w (.int .u8 c) := by
 subst hc
 simp [Ar, execOp, ho, hx, hy, Instr.index, asIntOf, run_underlying ht, hb]
theorem YY {n e i : Nat} {cs : Array Value} {k : IntKind} (ho : o.op = .index t x y) (ht : P.underlying t = some (.array n e)) (he : Hm P e = true) (hs : szB P e 1 = true) (hx : ev ρ x = .agg cs) (hy : ev ρ y = .int k (i : Int)) (hi : i < n) (hv : cs[i]? = some v) : Ar P ρ o w v := by
 have hi' : (i : Int) < (n : Int) := by omega
 simp [Ar, execOp, ho, hx, hy, Instr.index, asIntOf, run_underlying ht, Cc hs, hi, part, run_isAgg_plain he, hv]
theorem R6 {n e g j i : Nat} {k : IntKind} (ho : o.op = .slice t x (some y) none none) (ht : P.underlying t = some (.array n e)) (hs : szB P e 1 = true) (hx : ev ρ x = .pointer (some ⟨g, j, none⟩)) (hy : ev ρ y = .int k (i : Int)) (hi : i < n) : Ar P ρ o w (.slice (some ⟨g, j + i, none⟩) (n - i) (n - i)) := by
 have h1 : ¬ n = i := by omega
 have h2 : (i : Int) ≤ (n : Int) := by omega
 have h3 : i ≤ n := by omega
 simp [Ar, execOp, ho, hx, hy, Instr.sliceAt, Instr.sureAddr, Instr.sliceBounds, Instr.sliceBound, asIntOf, run_underlying ht, Cc hs, h1, h3, Addr.add_lit]
theorem R8 {s e : Nat} {A : Option Addr} {n c base : Nat} {l : List Nat} (ho : o.op = .convert s t x) (hs : P.underlying s = some (.slice e)) (he : P.underlying e = some (.int .u8)) (ht : P.underlying t = some .string) (hx : ev ρ x = .slice A n c) (hr : w.ownsRow base e 1 (.slice A n c) n (l.map fun b : Nat => Value.int .u8 (b : Int))) (hb : ∀ b ∈ l, b < 256) (h0 : 0 < n) : Ar P ρ o w (.string (EE l)) := by
 obtain ⟨g, o', rfl⟩ := GG hr h0 (by omega)
 have hl : l.length = n := by have := hr.1; simpa using this
 have h := run_convert_bytes_back (P := P) w s t e ⟨g, o', none⟩ c (l.map UInt8.ofNat) hs he ht (fun j hj => by
  have hj' : j < l.length := by simpa using hj
  rw [Addr.add_lit]
  have h2 : ((l.map UInt8.ofNat)[j].toNat : Int) = (l[j] : Int) := by
   have := hb _ (List.getElem_mem hj')
   simp
   omega
  rw [h2]
  exact EB hr (by simp [hj']) h0)
 have e1 : (l.map UInt8.ofNat).length = n := by simpa using hl
 rw [e1] at h
 simp [Ar, execOp, ho, hx, h, EE]
theorem We {e n by_ base : Nat} {zv : Value} (hI : Inv S w0 w H) (hw : Ag ops ρ o = true) (hd : o.dst = some d) (hN : Nat.blt d N = true) (ho : o.op = .makeSlice t x y) (hx : ev ρ x = .int .i64 0) (hy : ev ρ y = .int .i64 (n : Int))
  (ht : P.underlying t = some (.slice e)) (hi : (P.info? e).map (fun i => (i.zero, i.size, i.bytes)) = some (some zv, 1, by_)) (hb : by_ * n ≤ 281474976710656) (h63 : n ≤ 9223372036854775807) (hbase : base ≤ w.heap.size)
  (h : ∀ g w', Pure w w' → g = w.heap.size → Inv S w0 w' (Row base e 1 (some ⟨g, 0, none⟩) 0 n [] :: H) → WL P N ops Q rest (upd ρ d (.slice (some ⟨g, 0, none⟩) 0 n)) w') : WL P N ops Q (o :: rest) ρ w := by
 cases hp : P.info? e with
 | none => simp [hp] at hi
 | some i =>
  simp only [hp, Option.map_some, Option.some.injEq, Prod.mk.injEq] at hi
  obtain ⟨h1, h2, h3⟩ := hi
  obtain ⟨w', hr, h4, h5⟩ := run_make_own (P := P) w base t e i zv 1 ht hp h1 h2 .i64 .i64 n (by rw [h3]; exact hb) (by simpa [maxLen] using h63) hbase
  have hpu : Pure w w' := (Pure.refl w).grown h5 (fun k hk => by cases hk)
  refine Fg hw hd hN (by simp [execOp, ho, hx, hy, hr]) (h _ _ hpu rfl (hI.fresh hpu (Row.ok h4) (fun k hk => ?_)))
  have : some w.heap.size = some k := hk
  injection this with this
  omega
end
theorem bytes_beq (a b : ByteArray) : (a == b) = decide (a = b) := by
 obtain ⟨a⟩ := a
 obtain ⟨b⟩ := b
 show ByteArray.beq _ _ = _
 unfold ByteArray.beq
 simp
 by_cases h : a = b
 ·subst h; simp
 ·simp [h]
theorem TA {a b : List Nat} (ha : ∀ c ∈ a, c < 256) (hb : ∀ c ∈ b, c < 256) : (EE a == EE b) = decide (a = b) := by
 rw [bytes_beq]
 by_cases h : a = b
 ·subst h; simp
 ·simp only [h, decide_false, decide_eq_false_iff_not]
  exact fun e => h (Tz ha hb e)
def SI (es : List MapEntry) (ks : List (List Nat)) : Prop := es.map (fun e => (e.key, e.val)) = ks.map (fun k => (Value.string (EE k), Value.agg #[]))
theorem Gm {a : List Nat} (ha : ∀ c ∈ a, c < 256) : ∀ (es : List MapEntry) (ks : List (List Nat)) (i : Nat), SI es ks → (∀ k ∈ ks, ∀ c ∈ k, c < 256) →
  (a ∉ ks ∧ Instr.findNow .string (.string (EE a)) es i = some none) ∨ (a ∈ ks ∧ ∃ j, Instr.findNow .string (.string (EE a)) es i = some (some (j, .agg #[])))
 | [], [], i, _, _ => .inl ⟨by simp, rfl⟩
 | [], _ :: _, i, h, _ => by simp [SI] at h
 | _ :: _, [], i, h, _ => by simp [SI] at h
 | e :: es, k :: ks, i, h, hs => by
  simp only [SI, List.map_cons, List.cons.injEq, Prod.mk.injEq] at h
  obtain ⟨⟨h1, h2⟩, h3⟩ := h
  have hb := TA ha (hs k (by simp))
  by_cases hk : a = k
  ·refine .inr ⟨by simp [hk], i, ?_⟩
   have : (EE a == EE k) = true := by rw [hb]; simp [hk]
   simp only [Instr.findNow, h1, Instr.sameNow, this, h2]
  ·have : (EE a == EE k) = false := by rw [hb]; simp [hk]
   rcases Gm ha es ks (i + 1) h3 (fun k hk => hs k (by simp [hk])) with ⟨g1, g2⟩ | ⟨g1, j, g2⟩
   ·refine .inl ⟨by simp [hk, g1], ?_⟩
    simp only [Instr.findNow, h1, Instr.sameNow, this]
    exact g2
   ·refine .inr ⟨by simp [g1], j, ?_⟩
    simp only [Instr.findNow, h1, Instr.sameNow, this]
    exact g2
structure J6 (w : World) (b : Nat) (ks : List (List Nat)) : Prop where
 ex : ∃ (es : Array MapEntry) (clk : Nat), w.heap[b]? = some (.map es clk) ∧ SI es.toList ks
 small : ∀ k ∈ ks, ∀ c ∈ k, c < 256
def EN (b : Nat) (ks : List (List Nat)) : Ent := ⟨fun k => k = b, fun w => J6 w b ks⟩
theorem EN.ok {w : World} {b : Nat} {ks : List (List Nat)} (h : J6 w b ks) : (EN b ks).ok w := by
 refine Ent.mk_ok h (fun k hk => ?_) (fun S w1 w2 hc hS h1 => ?_)
 ·obtain ⟨es, clk, h1, _⟩ := h.ex
  have : k = b := hk
  subst this
  rcases Nat.lt_or_ge k w.heap.size with h2 | h2
  ·exact h2
  ·simp [Array.getElem?_eq_none h2] at h1
 ·obtain ⟨es, clk, h2, h3⟩ := h1.ex
  have hlt : b < w1.heap.size := by
   rcases Nat.lt_or_ge b w1.heap.size with h4 | h4
   ·exact h4
   ·simp [Array.getElem?_eq_none h4] at h2
  exact ⟨⟨es, clk, (hc.block b hlt (hS b rfl)).trans h2, h3⟩, h1.small⟩
section
variable {P : Program} {N : Nat} {ops : Array Oper} {Q : A9} {rest : List Oper} {ρ : Env} {o : Oper} {w0 w w' : World} {S : Nat → Prop} {H : List Ent} {d t kt et b : Nat} {x y z : Operand} {ks : List (List Nat)} {a : List Nat}
theorem VZ (hI : Inv S w0 w H) (hw : Ag ops ρ o = true) (hd : o.dst = some d) (hN : Nat.blt d N = true) (ho : o.op = .makeMap t none)
  (h : ∀ b w', Pure w w' → b = w.heap.size → Inv S w0 w' (EN b [] :: H) → WL P N ops Q rest (upd ρ d (.map (some b))) w') : WL P N ops Q (o :: rest) ρ w :=
 Fg hw hd hN (v := .map (some w.heap.size)) (w' := w.alloc (.map #[] 0)) (by simp [execOp, ho, Instr.makeMap])
  (h _ _ ((Pure.refl w).alloc _) rfl (hI.fresh ((Pure.refl w).alloc _) (EN.ok ⟨⟨#[], 0, by show (w.heap.push _)[w.heap.size]? = _; simp, rfl⟩, by simp⟩) (fun k hk => by have : k = w.heap.size := hk; omega)))
theorem Nc {em : Bool} {s : ByteArray} (hk : P.underlying kt = some .string) : (Instr.checkKey em 10000 kt (.string s)).run P w = .ok () w := by
 show (Instr.checkKey em (Nat.succ 9999) kt (.string s)).run P w = .ok () w
 rw [Instr.checkKey]
 simp [run_underlying hk]
theorem Ul (ho : o.op = .lookup t x y true) (ht : P.underlying t = some (.map kt et)) (hk : P.underlying kt = some .string) (hz : (P.info? et).bind (·.zero) = some (.agg #[])) (hx : ev ρ x = .map (some b)) (hy : ev ρ y = .string (EE a)) (ha : ∀ c ∈ a, c < 256) (hM : J6 w b ks) :
  Ar P ρ o w (.tuple #[.agg #[], .bool (decide (a ∈ ks))]) := by
 obtain ⟨es, clk, h1, h2⟩ := hM.ex
 have hzv : (zeroValue et).run P w = .ok (.agg #[]) w := by
  cases hi : P.info? et with
  | none => simp [hi] at hz
  | some i => simp only [hi, Option.bind_some] at hz; simp [zeroValue, typeInfo, hi, hz]
 have hc := Nc (P := P) (w := w) (s := EE a) (em := es.isEmpty) hk
 rcases Gm ha es.toList ks 0 h2 hM.small with ⟨g1, g2⟩ | ⟨g1, j, g2⟩
 ·simp [Ar, execOp, ho, hx, hy, Instr.lookup, run_underlying ht, Ef h1, hc, Instr.findKey, run_underlying hk, g2, hzv, g1]
 ·simp [Ar, execOp, ho, hx, hy, Instr.lookup, run_underlying ht, Ef h1, hc, Instr.findKey, run_underlying hk, g2, g1]
theorem Ir (ho : o.op = .call { callee := .builtin .len, args := #[x], argTypes := #[t] }) (ht : P.underlying t = some (.map kt et)) (hx : ev ρ x = .map (some b)) (hM : J6 w b ks) : Ar P ρ o w (.int .i64 (ks.length : Int)) := by
 obtain ⟨es, clk, h1, h2⟩ := hM.ex
 have hl : es.size = ks.length := by have := congrArg List.length h2; simpa using this
 simp [Ar, execOp, ho, resolve, invoke, builtin, hx, Builtin.len_, run_underlying ht, Ef h1, hl, goInt]
theorem SC (i : Nat) (hi : H[i]? = some (EN b ks)) (hI : Inv S w0 w H) (hw : Ag ops ρ o = true) (hd : o.dst = none) (ho : o.op = .mapUpdate t x y z) (ht : P.underlying t = some (.map kt et)) (hk : P.underlying kt = some .string) (hx : ev ρ x = .map (some b)) (hy : ev ρ y = .string (EE a)) (hz : ev ρ z = .agg #[]) (ha : ∀ c ∈ a, c < 256) (hn : a ∉ ks)
  (h : ∀ w', Inv S w0 w' (H.set i (EN b (ks ++ [a]))) → WL P N ops Q rest ρ w') : WL P N ops Q (o :: rest) ρ w := by
 have hM : J6 w b ks := (hI.ok _ (List.mem_of_getElem? hi)).1
 obtain ⟨es, clk, h1, h2⟩ := hM.ex
 have hlt : b < w.heap.size := by
  rcases Nat.lt_or_ge b w.heap.size with h5 | h5
  ·exact h5
  ·simp [Array.getElem?_eq_none h5] at h1
 have hc := Nc (P := P) (w := w) (s := EE a) (em := false) hk
 rcases Gm ha es.toList ks 0 h2 hM.small with ⟨g1, g2⟩ | ⟨g1, j, g2⟩
 ·have hM' : J6 (KQ w b (.map (es.push { key := .string (EE a), val := .agg #[], born := clk }) (clk + 1))) b (ks ++ [a]) := by
   refine ⟨⟨_, _, Js hlt, ?_⟩, fun k hk => ?_⟩
   ·unfold SI at h2 ⊢
    simp [h2]
   ·rcases List.mem_append.1 hk with hk | hk
    ·exact hM.small k hk
    ·rw [List.mem_singleton.1 hk]; exact ha
  refine IW hw hd (w' := KQ w b (.map (es.push { key := .string (EE a), val := .agg #[], born := clk }) (clk + 1))) ?_ (h _ (hI.upd i hi (Pt w b _) (EN.ok hM') (fun _ hk => .inl hk)))
  simp [execOp, ho, hx, hy, hz, Instr.mapUpdate, run_underlying ht, Ef h1, hc, Instr.findKey, run_underlying hk, g2, KS _ h1]
 ·exact absurd g1 hn
end
end Go.Proofs.YtkkmokodaejheaaDoor
namespace Go.Proofs.YtkkmokodaejheaaDoor
open Go.RowKit
section
variable {P : Program} {ρ : Env} {o : Oper} {w : World} {x y : Operand} {t t' : TypeId}
theorem Z4 {a b : Nat} (ho : o.op = .binOp .quo t x y t') (hx : ev ρ x = .int .u64 (a : Int)) (hy : ev ρ y = .int .u64 (b : Int)) (hb : 0 < b) (ha : a < 18446744073709551616) : Ar P ρ o w (.int .u64 ((a / b : Nat) : Int)) := by
 have h := Z0 (P := P) (w := w) ho hx hy (by omega)
 have hl : a / b ≤ a := Nat.div_le_self a b
 have e : (a : Int).tdiv (b : Int) = ((a / b : Nat) : Int) := by simp [Int.ofNat_tdiv]
 rwa [e, wrap_u64 (by omega)] at h
theorem Z9 {a b : Nat} (ho : o.op = .binOp .mul t x y t') (hx : ev ρ x = .int .u64 (a : Int)) (hy : ev ρ y = .int .u64 (b : Int)) (ha : a * b < 18446744073709551616) : Ar P ρ o w (.int .u64 ((a * b : Nat) : Int)) := by
 have h := Yg (P := P) (w := w) ho hx hy
 rwa [← Int.natCast_mul, wrap_u64 ha] at h
theorem ZY {a b : Nat} (ho : o.op = .binOp .sub t x y t') (hx : ev ρ x = .int .u64 (a : Int)) (hy : ev ρ y = .int .u64 (b : Int)) (hb : b ≤ a) (ha : a < 18446744073709551616) : Ar P ρ o w (.int .u64 ((a - b : Nat) : Int)) := by
 have h := Ye (P := P) (w := w) ho hx hy
 rwa [show (a : Int) - (b : Int) = ((a - b : Nat) : Int) by omega, wrap_u64 (by omega)] at h
end
def IR (l : List Nat) : List Value := l.map fun b : Nat => Value.int .u8 (b : Int)
theorem VP (l : List Nat) : (IR l).length = l.length := by simp [IR]
theorem Ls (l m : List Nat) : IR (l ++ m) = IR l ++ IR m := by simp [IR]
theorem VO (l : List Nat) : (IR l).all (·.oneCell') = true := by
 rw [List.all_eq_true]
 intro v hv
 obtain ⟨b, _, rfl⟩ := List.mem_map.1 hv
 rfl
def Co (base : Nat) (A : Option Addr) (c : Nat) (l : List Nat) : Ent := Row base 5 1 A l.length c (IR l)
theorem Rx : ∀ i, i < 36 → (⟨#[48, 49, 50, 51, 52, 53, 54, 55, 56, 57, 97, 98, 99, 100, 101, 102, 103, 104, 105, 106, 107, 108, 109, 110, 111, 112, 113, 114, 115, 116, 117, 118, 119, 120, 121, 122]⟩ : ByteArray)[i]? = some (UInt8.ofNat (DI i)) := by decide +kernel
theorem VK {i : Nat} (h : i < 36) : ((UInt8.ofNat (DI i)).toNat : Int) = (DI i : Int) := by
 have := (Kg h).1.2.2
 simp
 omega
theorem Xd (w0 : World) : Calls Tryd.prog 80 #[.int .i64 36] w0 fun en w' => en = .returned (.bool false) ∧ Pure w0 w' := by
 have hI := Inv.start (fun _ => False) w0
 refine Vx Tryd.f80.ntmps Tryd.func80 rfl ?_
 refine Ac (Ab (V6 rfl (Aa (Ac (Ab (V0 rfl (V0 rfl ?_)))))))
 refine Af rfl rfl rfl (by exact YT rfl rfl rfl (by omega)) ?_
 refine Af rfl rfl rfl (Yi (r := fun p q => p &&& q) rfl rfl rfl rfl) ?_
 refine Af rfl rfl rfl (by exact NH rfl rfl rfl) ?_
 refine V6 rfl (Aa ?_)
 refine Aj ?_
 exact Bw 2 (.inr rfl) rfl ⟨rfl, hI.pu⟩
theorem Li {cs : Array Value} {k : Nat} (hk : k < 65) (hcs : cs.size = 65) (v : Value) : (cs.setIfInBounds (0 + (65 - k - 1) * 1) v).toList.drop (65 - (k + 1)) = v :: cs.toList.drop (65 - k) := by
 have e : 0 + (65 - k - 1) * 1 = 65 - (k + 1) := by omega
 have hl : 65 - (k + 1) < (cs.toList.set (65 - (k + 1)) v).length := by simp [hcs]; omega
 rw [e, Array.toList_setIfInBounds, List.drop_eq_getElem_cons hl, List.getElem_set_self, List.drop_set_of_lt (by omega), show 65 - (k + 1) + 1 = 65 - k by omega]
set_option maxHeartbeats 2000000 in
theorem XH (base : Nat) (A : Option Addr) (c : Nat) (l : List Nat) (u : Nat) (w0 : World) (hR : (Co base A c l).ok w0) (hu : u < 18446744073709551616) (hn : l.length ≤ 1000000) (hb : base ≤ w0.heap.size) :
  Calls Tryd.prog 75 #[.slice A l.length c, .int .u64 (u : Int), .int .i64 36, .bool false, .bool true] w0 fun en w' => ∃ A' c', en = .returned (.tuple #[.slice A' (l ++ dig u).length c', .string ⟨#[]⟩]) ∧ Inv (Co base A c l).D w0 w' [Co base A' c' (l ++ dig u)] := by
 have hI := Inv.ownE hR
 refine Vx Tryd.f75.ntmps Tryd.func75 rfl ?_
 refine Ac (Ab (Vf rfl ?_))
 refine Af rfl rfl rfl (by exact Iu rfl rfl) ?_
 refine Aa (Ac (Ac (Ab (V0 rfl (Vo rfl (V5 rfl (V0 rfl (Vj rfl (Vd rfl (V5 rfl (V0 rfl ?_)))))))))))
 refine Af rfl rfl rfl (by exact JR rfl rfl rfl (by omega)) ?_
 refine Vd rfl (Aa (Ad false rfl (Ah (Ac (Ab (Vw (.agg #[.int .u8 0, .int .u8 0, .int .u8 0, .int .u8 0, .int .u8 0, .int .u8 0, .int .u8 0, .int .u8 0, .int .u8 0, .int .u8 0, .int .u8 0, .int .u8 0, .int .u8 0, .int .u8 0, .int .u8 0, .int .u8 0, .int .u8 0, .int .u8 0, .int .u8 0, .int .u8 0, .int .u8 0, .int .u8 0, .int .u8 0, .int .u8 0, .int .u8 0, .int .u8 0, .int .u8 0, .int .u8 0, .int .u8 0, .int .u8 0, .int .u8 0, .int .u8 0, .int .u8 0, .int .u8 0, .int .u8 0, .int .u8 0, .int .u8 0, .int .u8 0, .int .u8 0, .int .u8 0, .int .u8 0, .int .u8 0, .int .u8 0, .int .u8 0, .int .u8 0, .int .u8 0, .int .u8 0, .int .u8 0, .int .u8 0, .int .u8 0, .int .u8 0, .int .u8 0, .int .u8 0, .int .u8 0, .int .u8 0, .int .u8 0, .int .u8 0, .int .u8 0, .int .u8 0, .int .u8 0, .int .u8 0, .int .u8 0, .int .u8 0, .int .u8 0, .int .u8 0]) (#[.int .u8 0, .int .u8 0, .int .u8 0, .int .u8 0, .int .u8 0, .int .u8 0, .int .u8 0, .int .u8 0, .int .u8 0, .int .u8 0, .int .u8 0, .int .u8 0, .int .u8 0, .int .u8 0, .int .u8 0, .int .u8 0, .int .u8 0, .int .u8 0, .int .u8 0, .int .u8 0, .int .u8 0, .int .u8 0, .int .u8 0, .int .u8 0, .int .u8 0, .int .u8 0, .int .u8 0, .int .u8 0, .int .u8 0, .int .u8 0, .int .u8 0, .int .u8 0, .int .u8 0, .int .u8 0, .int .u8 0, .int .u8 0, .int .u8 0, .int .u8 0, .int .u8 0, .int .u8 0, .int .u8 0, .int .u8 0, .int .u8 0, .int .u8 0, .int .u8 0, .int .u8 0, .int .u8 0, .int .u8 0, .int .u8 0, .int .u8 0, .int .u8 0, .int .u8 0, .int .u8 0, .int .u8 0, .int .u8 0, .int .u8 0, .int .u8 0, .int .u8 0, .int .u8 0, .int .u8 0, .int .u8 0, .int .u8 0, .int .u8 0, .int .u8 0, .int .u8 0]) hI rfl ?_))))))
 clear hI; rintro b12 w - - hI
 refine Aa (Ac (Ab (V9 rfl (Aa (Ac (Ac (Ab (V5 rfl (Aa (Ad false rfl (Ah (Ac (Ac ?_)))))))))))))
 refine Ab (V0 rfl (Va [.int .i64 _] rfl Tryd.func80 rfl ?_))
 refine (Xd _).mono ?_
 rintro e w1 ⟨rfl, hp⟩
 refine ⟨_, rfl, ?_⟩
 replace hI := hI.pure hp
 refine Aa (Ad false rfl (Ac (Ab (V0 rfl ?_))))
 refine Af rfl rfl rfl (by exact Qr rfl Tryd.underlying3 Tryd.underlying55 rfl) ?_
 refine V9 rfl (Aa ?_)
 obtain ⟨cs, hcs, hI⟩ : ∃ cs : Array Value, cs.size = 65 ∧ Inv (Co base A c l).D w0 w1 [B b12 132 cs, Co base A c l] := ⟨_, by rfl, hI⟩
 refine Ac (Al ?_)
 refine Ce (fun mu ρ w => ∃ (k u' : Nat) (acc : List Nat) (cs : Array Value), mu = 13 - k ∧ k ≤ 13 ∧ acc.length = k ∧ dig u = Db (13 - k) u' acc ∧ u' < 36 ^ (13 - k + 1) ∧ u' < 18446744073709551616 ∧ cs.size = 65 ∧ cs.toList.drop (65 - k) = IR acc ∧ Has ρ [(13, .int .i64 ((65 - k : Nat) : Int)), (1, .int .u64 (u' : Int)), (17, .int .u64 36), (12, .pointer (some ⟨b12, 0, none⟩)), (0, .slice A l.length c), (3, .bool false), (4, .bool true), (11, .string ⟨#[]⟩)] ∧ Inv (Co base A c l).D w0 w [B b12 132 cs, Co base A c l]) 13
  ⟨0, u, [], cs, rfl, by omega, rfl, rfl, Nat.lt_of_lt_of_le hu (by decide), hu, hcs, by rw [List.drop_eq_nil_of_le (by simp [hcs])]; rfl, ⟨rfl, rfl, rfl, rfl, rfl, rfl, rfl, rfl, trivial⟩, hI⟩ ?_
 clear hI
 rintro mu ρ w ⟨k, u', acc, cs, rfl, hk, hacc, hdig, hu1, hu2, hcs, hdrop, hH, hI⟩
 obtain ⟨σ, rfl⟩ := hH.open
 by_cases h36 : 36 ≤ u'
 ·have hk13 : k < 13 := by
   rcases Nat.lt_or_ge k 13 with h | h
   ·exact h
   ·obtain rfl : k = 13 := by omega
    simp at hu1
    omega
  have hq : u' / 36 * 36 ≤ u' := Nat.div_mul_le_self u' 36
  have hr : u' - u' / 36 * 36 = u' % 36 := by omega
  have hr36 : u' % 36 < 36 := Nat.mod_lt _ (by omega)
  refine Ac (Ac (Ab (V0 rfl (V0 rfl (Tc rfl (Aa (Ad true rfl (Ah (Al (Ac (Ab (V0 rfl ?_))))))))))))
  refine Af rfl rfl rfl (MC (b := 1) rfl rfl rfl (by omega) (by omega)) ?_
  refine V9 rfl (Aa (Ac (Ab (V0 rfl (V0 rfl ?_)))))
  refine Af rfl rfl rfl (Z4 (b := 36) rfl rfl rfl (by omega) (by omega)) ?_
  refine V9 rfl (Aa (Ac (Ab (V0 rfl (V0 rfl (V0 rfl (V0 rfl ?_)))))))
  refine Af rfl rfl rfl (Z9 (b := 36) rfl rfl rfl (by omega)) ?_
  refine Af rfl rfl rfl (ZY rfl rfl rfl (by omega) (by omega)) ?_
  refine Af rfl rfl rfl (Rb rfl Tryd.underlying9 rfl rfl (Rx _ (by omega)) (VK (by omega))) ?_
  refine Af rfl rfl rfl (FO (sz := 1) rfl Tryd.underlying132 (by kernel_rfl) rfl rfl rfl (by omega)) ?_
  refine Vp (0 + (65 - k - 1) * 1) (.int .u8 (DI (u' - u' / 36 * 36) : Int)) hI rfl (by simp [Nat.blt, hcs]) rfl ?_
  clear hI; intro w hI
  refine Aa (Ab (V0 rfl (V9 rfl (Aa ?_))))
  rw [hr] at hI
  refine ⟨13 - (k + 1), by omega, k + 1, u' / 36, DI (u' % 36) :: acc, _, rfl, by omega, by simp [hacc], ?_, ?_, by omega, by simp [hcs], ?_, ⟨by show Value.int .i64 ((65 - k - 1 : Nat) : Int) = .int .i64 ((65 - (k + 1) : Nat) : Int); rw [Nat.sub_sub], rfl, rfl, rfl, rfl, rfl, rfl, rfl, trivial⟩, hI⟩
  ·rw [hdig, show 13 - k = (13 - (k + 1)) + 1 by omega, Db, if_neg (by omega)]
  ·rw [Nat.div_lt_iff_lt_mul (by omega), ← Nat.pow_succ]
   rwa [show (13 - (k + 1) + 1).succ = 13 - k + 1 by omega]
  ·rw [Li (by omega) hcs, hdrop]; rfl
 ·refine Ac (Ac (Ab (V0 rfl (V0 rfl (Tg rfl (Aa (Ad false rfl ?_)))))))
  refine BG ?_
  refine Ac (Ab (V0 rfl ?_))
  refine Af rfl rfl rfl (MC (b := 1) rfl rfl rfl (by omega) (by omega)) ?_
  refine V9 rfl (Aa (Ab (V0 rfl (V0 rfl ?_))))
  refine Af rfl rfl rfl (Rb rfl Tryd.underlying9 rfl rfl (Rx _ (by omega)) (VK (by omega))) ?_
  refine Af rfl rfl rfl (FO (sz := 1) rfl Tryd.underlying132 (by kernel_rfl) rfl rfl rfl (by omega)) ?_
  refine Vp (0 + (65 - k - 1) * 1) (.int .u8 (DI u' : Int)) hI rfl (by simp [Nat.blt, hcs]) rfl ?_
  clear hI; intro w hI
  refine Aa ?_
  have hfin : dig u = DI u' :: acc := by
   rw [hdig]
   cases h13 : 13 - k with
   | zero => rw [Db, Nat.mod_eq_of_lt (by omega)]
   | succ f => rw [Db, if_pos (by omega)]
  have hd65 := Li (k := k) (by omega) hcs (.int .u8 (DI u' : Int))
  rw [hdrop] at hd65
  have hd65 : (cs.setIfInBounds (0 + (65 - k - 1) * 1) (.int .u8 (DI u' : Int))).toList.drop (65 - (k + 1)) = IR (dig u) := by rw [hd65, hfin]; rfl
  have hsz : (cs.setIfInBounds (0 + (65 - k - 1) * 1) (.int .u8 (DI u' : Int))).size = 65 := by simp [hcs]
  have hlen : (dig u).length = k + 1 := by rw [hfin]; simp [hacc]
  replace hI : ∃ cs' : Array Value, cs'.size = 65 ∧ cs'.toList.drop (65 - (k + 1)) = IR (dig u) ∧ Inv (Co base A c l).D w0 w [B b12 132 cs', Co base A c l] := ⟨_, hsz, hd65, hI⟩
  obtain ⟨cs', hsz', hd', hI⟩ := hI
  refine Ac (Ac (Ab (V5 rfl (Aa (Ad false rfl (Ah (Ac (Ac (Ab (V5 rfl (Aa (Ad true rfl (Ac ?_)))))))))))))
  refine Ab (V8 rfl (V0 rfl ?_))
  refine Af rfl rfl rfl (R6 (i := 65 - k - 1) rfl Tryd.underlying132 (by kernel_rfl) rfl rfl (by omega)) ?_
  -- STOP: call ['Op.call', ('st', {'callee': ['Callee.builtin', 'Builtin.append'], 'args': ('arr', [['Operand.tmp', '95'], ['Operand.tmp', '97']]), 'argTypes': ('arr
  refine Eb (z := .int .u8 0) (by_ := 1) (news := IR (dig u)) hI rfl rfl rfl rfl rfl rfl Tryd.underlying113 (by kernel_rfl) rfl (by omega) (by rw [VP]; omega) (fun q v hq => ?_) (VO _) (by omega) (by omega) (by have := hI.chg.size; omega) ?_
  ·rw [← hd', List.getElem?_drop] at hq
   rw [Nat.zero_add, show 65 - k - 1 = 65 - (k + 1) by omega]
   exact hI.c0 (by simpa using hq)
  clear hI; rintro A' c' w hc1 hc2 hI
  refine Vf rfl (Aa ?_)
  refine Aj ?_
  have el : l.length + (65 - (65 - k - 1)) = (l ++ dig u).length := by simp [hlen]; omega
  rw [el, ← Ls] at hI
  refine DV 10 11 (.inr rfl) rfl ⟨A', c', ?_, hI.d0⟩
  rw [← el]; rfl
end Go.Proofs.YtkkmokodaejheaaDoor
