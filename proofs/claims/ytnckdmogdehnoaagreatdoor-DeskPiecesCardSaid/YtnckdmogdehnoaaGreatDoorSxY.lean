/- Part of the proof that a desk answers in pieces. -/
import Derived.Test.YtnckdmogdehnoaaGreatDoorPSxI
import Derived.RecoverIn
set_option linter.unusedVariables false
set_option linter.unusedSimpArgs false
namespace Go.Proofs.YtnckdmogdehnoaaGreatDoor
open Go
variable {a : Act} {fn : Func}
section
variable {P : Program} {N : Nat} {ρ : Env} {w : World} {Q : Exit → Act → World → Prop} {ds : List Deferred}
theorem rDefer {o : Oper} {z : Operand} {xs : List Operand} {ts : Array TypeId} {vs first cap : List Value} {fv : Fn} (ho : o.op = .defer { callee := .value z, args := xs.toArray, argTypes := ts }) (hz : ev ρ z = .func fv first.toArray cap.toArray) (hv : xs.map (ev ρ) = vs) :
  (execOp (ev ρ) o).run P w = .ok (.defer { target := .fn fv cap.toArray, args := (first ++ vs).toArray }) w := by
 simp [execOp, ho, resolve, hz, Deferred.ofValue, ← hv]
theorem WX_defer {id d8 : Nat} {o0 o1 : Oper} {rest : Code} {fv : Value} {d : Deferred} (hw0 : wantedR #[o0, o1] ρ o0 = true) (hw1 : wantedR #[o0, o1] (upd ρ d8 fv) o1 = true) (hd0 : o0.dst = some d8) (hd1 : o1.dst = none) (hN : Nat.blt d8 N = true)
  (h0 : Runs P ρ o0 w fv) (h1 : (execOp (ev (upd ρ d8 fv)) o1).run P w = .ok (.defer d) w) (h : WX P N rest Q (upd ρ d8 fv) [d] w) : WX P N (.seq (.region id #[o0, o1] false) rest) Q ρ [] w := by
 refine WX_seq fun a ha => wpIn_region_lit (l := [o0, o1]) ?_
 unfold wpListIn
 show (if Region.wanted o0 (yielded #[o0, o1] a.tmps) then _ else _)
 rw [wanted_fit ha, if_pos hw0]
 refine ⟨fun _ _ => trivial, ?_⟩
 show Oper.uponIn _ _ _ _ _ _ _ ((Oper.semAt none (wd [] a).eval o0).run P w)
 rw [Oper.semAt_none, wd_eval, ha.eval, show (execOp (ev ρ) o0).run P w = _ from h0, Oper.uponIn_value, wd_put]
 have ha1 := WL_put hd0 hN ha fv
 generalize a.put o0.dst fv = a1 at ha1
 unfold wpListIn
 show (if Region.wanted o1 (yielded #[o0, o1] a1.tmps) then _ else _)
 rw [wanted_fit ha1, if_pos hw1]
 refine ⟨fun _ _ => trivial, ?_⟩
 show Oper.uponIn _ _ _ _ _ _ _ ((Oper.semAt none (wd [] a1).eval o1).run P w)
 rw [Oper.semAt_none, wd_eval, ha1.eval, h1, Oper.uponIn_defer, hd1]
 have e : ({ wd [] a1 with defers := d :: (wd [] a1).defers } : Act).put none undef = wd [d] a1 := by
  simp [wd, Act.put, ha1.defers]
 rw [e]
 exact h _ ha1
theorem WX_RP {c : Code} {Q' : XPost} (h : Rd.W none ds P N c Q' ρ w) (hQ : ∀ e ρ' a w', (e = .normal ∨ e = .ret) → Fit N ρ' a → Q' e ρ' w' → Q e (wd ds a) w')
  (hx : ∀ e ρ' w', Q' e ρ' w' → e = .normal ∨ e = .ret ∨ ∃ c, e = .panic c)
  (hP : ∀ c a w', a.defers = [] → Q' (.panic c) (keepE N fun i => a.tmps.getD i undef) w' → Q (.panic c) (wd ds a) w') : WX P N c Q ρ ds w := fun a ha =>
 wpIn_mono (h a ha) fun e a w q => by
  obtain ⟨a0, rfl, q⟩ := q
  cases e with
  | normal => obtain ⟨ρ', h2, h3⟩ := q; exact hQ _ _ _ _ (.inl rfl) h2 h3
  | ret => obtain ⟨ρ', h2, h3⟩ := q; exact hQ _ _ _ _ (.inr rfl) h2 h3
  | panic c => exact hP _ _ _ q.1 q.2
  | exit i => obtain ⟨ρ', h2, h3⟩ := q; rcases hx _ _ _ h3 with h | h | ⟨_, h⟩ <;> cases h
  | goto i => obtain ⟨ρ', h2, h3⟩ := q; rcases hx _ _ _ h3 with h | h | ⟨_, h⟩ <;> cases h
  | outgrown => exact q.elim
theorem opsS_recover {ops : Array Oper} {QS : Exit → Act → List Frame → World → Prop} {i : Nat} {l : List Nat} {o : Oper} {cs : List Frame} (hi : ops[i]? = some o) (hw : Region.wanted o (yielded ops a.tmps) = true) (hr : (execOp a.eval o).run P w = .ok .recover w)
  (h : match recoverD cs with
   | some (v, cs') => wpOpsSIn Fence.wide 0 P ops QS l (a.put o.dst v) cs' w
   | none => wpOpsSIn Fence.wide 0 P ops QS l (a.put o.dst .nilIface) cs w) : wpOpsSIn Fence.wide 0 P ops QS (i :: l) a cs w := by
 unfold wpOpsSIn
 simp only [hi]
 refine ⟨fun _ _ => trivial, ?_⟩
 simp only [hw, if_true, hr]
 exact h
theorem opsS_value {ops : Array Oper} {QS : Exit → Act → List Frame → World → Prop} {i : Nat} {l : List Nat} {o : Oper} {v : Value} {cs : List Frame} (hi : ops[i]? = some o) (hw : Region.wanted o (yielded ops a.tmps) = true) (hr : (execOp a.eval o).run P w = .ok (.value v) w)
  (h : wpOpsSIn Fence.wide 0 P ops QS l (a.put o.dst v) cs w) : wpOpsSIn Fence.wide 0 P ops QS (i :: l) a cs w := by
 unfold wpOpsSIn
 simp only [hi]
 refine ⟨fun _ _ => trivial, ?_⟩
 simp only [hw, if_true, hr]
 exact h
def RecU (u : FrameMode) (x : Value) (u' : FrameMode) : Prop := (u = .returning ∧ x = .nilIface ∧ u' = .returning) ∨ ∃ v, u = .panicking [{ v := v, recovered := false }] ∧ x = v ∧ u' = .panicking [{ v := v, recovered := true }]
theorem callsD_rec {f : FuncId} {id d0 d1 : Nat} {o0 o1 : Oper} {rest : Code} {args : Array Value} {u u' : FrameMode} {x : Value} {R : Ending → World → Prop} (hf : P.funcs[f]? = some fn) (hb : fn.body = some (.seq (.region id #[o0, o1] false) rest)) (hn : fn.ntmps = N) (hz : Nat.ble args.size N = true)
  (hu : RecU u x u') (hw0 : ∀ ρ, wantedR #[o0, o1] ρ o0 = true) (hw1 : ∀ ρ, wantedR #[o0, o1] ρ o1 = true) (hd0 : o0.dst = some d0) (hd1 : o1.dst = some d1) (hN0 : Nat.blt d0 N = true) (hN1 : Nat.blt d1 N = true)
  (h0 : ∀ ρ, (execOp (ev ρ) o0).run P w = .ok .recover w) (h1 : Runs P (upd (entry args) d0 x) o1 w x)
  (h : W P N rest (retQ P fn R) (upd (upd (entry args) d0 x) d1 x) w) : CallsDIn Fence.wide 0 P f args u w fun e u2 w' => u2 = u' ∧ R e w' := by
 subst hn
 refine callsDIn_of_wpSIn hf hb trivial fun c₀ cs hu0 => wpSIn_seq (wpSIn_region ?_)
 have ha : Fit fn.ntmps (entry args) { tmps := args ++ Array.replicate (fn.ntmps - args.size) undef, defers := [] } := by
  refine ⟨?_, fun i => ?_, Z⟩
  ·have := Nat.le_of_ble_eq_true hz
   simp; omega
  unfold entry
  rw [Array.getD_eq_getD_getElem?, Array.getElem?_append, Array.getD_eq_getD_getElem?]
  split
  ·rfl
  rename_i hlt
  rw [Array.getElem?_eq_none (xs := args) (by omega), Array.getElem?_replicate]
  split <;> rfl
 generalize ({ tmps := args ++ Array.replicate (fn.ntmps - args.size) undef, defers := [] } : Act) = a at ha
 have ha0 := WL_put hd0 hN0 ha x
 have ha1 := WL_put hd1 hN1 ha0 x
 have hrec : ∃ cs', cs' = { c₀ with mode := u' } :: cs ∧ ((recoverD (c₀ :: cs) = some (x, cs')) ∨ (recoverD (c₀ :: cs) = none ∧ x = .nilIface ∧ cs' = c₀ :: cs)) := by
  rcases hu with ⟨rfl, rfl, rfl⟩ | ⟨v, rfl, rfl, rfl⟩
  ·exact ⟨_, Z, .inr ⟨by simp [recoverD, hu0], Z, by rw [← hu0]⟩⟩
  exact ⟨_, Z, .inl (by simp [recoverD, hu0])⟩
 obtain ⟨cs', hcs, hrec⟩ := hrec
 have key : wpOpsSIn Fence.wide 0 P #[o0, o1] (Exit.thenS (rest.wpSIn Fence.wide 0 P (bodyPostS P fn c₀ cs fun e u2 w' => u2 = u' ∧ R e w')) (bodyPostS P fn c₀ cs fun e u2 w' => u2 = u' ∧ R e w')) [1] (a.put o0.dst x) cs' w := by
  refine opsS_value (o := o1) Z (by rw [wanted_fit ha0]; exact hw1 _) (by rw [ha0.eval]; exact h1) ?_
  show rest.wpSIn Fence.wide 0 P _ ((a.put o0.dst x).put o1.dst x) cs' w
  refine wpSIn_of_wpIn Z (wpIn_wide.2 (wp_mono ((by unfold W at h; exact h : ∀ a, Fit fn.ntmps _ a → rest.wp P (LiftQ fn.ntmps (retQ P fn R)) a w) _ ha1) fun e a' w' q => ?_))
  cases e with
  | normal => obtain ⟨ρ', q1, q2⟩ := q; unfold retQ at q2; obtain ⟨v, q3, q4⟩ := q2 a' q1; exact ⟨q1.defers, u', hcs, v, q3, rfl, q4⟩
  | ret => obtain ⟨ρ', q1, q2⟩ := q; unfold retQ at q2; obtain ⟨v, q3, q4⟩ := q2 a' q1; exact ⟨q1.defers, u', hcs, v, q3, rfl, q4⟩
  | exit i => obtain ⟨ρ', q1, q2⟩ := q; unfold retQ at q2; exact q2.elim
  | goto i => obtain ⟨ρ', q1, q2⟩ := q; unfold retQ at q2; exact q2.elim
  | panic c => have q2 := q.2; unfold retQ at q2; exact q2.elim
  | outgrown => exact q.elim
 refine opsS_recover (o := o0) Z (by rw [wanted_fit ha]; exact hw0 _) (by rw [ha.eval]; exact h0 _) ?_
 rcases hrec with hr | ⟨hr, hx, hc⟩
 ·rw [hr]; exact key
 rw [hr]
 subst hx
 rw [← hc]
 exact key
theorem leaves_def {R : Ending → World → Prop} {e : Exit} {fv : Fn} {cap xs : Array Value} {f : FuncId} {args : Array Value} (he : e = .normal ∨ e = .ret) (ha : a.defers = []) (hi : (invoke (.fn fv cap) xs).run P w = .ok (.enter f args) w)
  (hc : CallsDIn Fence.wide 0 P f args .returning w fun e u' w' => u' = .returning ∧ (∃ v, e = .returned v) ∧ ∃ v, (results fn a.tmps).run P w' = .ok v w' ∧ R (.returned v) w') : bodyPostM Fence.wide 0 P fn R e (wd [{ target := .fn fv cap, args := xs }] a) w := by
 have key : LeavesInM Fence.wide 0 P fn a.tmps R [{ target := .fn fv cap, args := xs }] .returning w := by
  refine ⟨by simp, .inr ⟨fun h => (by cases h), fv, cap, f, args, Z, hi, fun _ _ => trivial, hc.mono fun e u' w' h => ?_⟩⟩
  obtain ⟨rfl, ⟨v, rfl⟩, v', h1, h2⟩ := h
  exact ⟨v', h1, h2⟩
 rcases he with rfl | rfl
 ·show LeavesInM Fence.wide 0 P fn a.tmps R (a.defers ++ _) .returning w
  rw [ha]; exact key
 show LeavesInM Fence.wide 0 P fn a.tmps R (a.defers ++ _) .returning w
 rw [ha]; exact key
theorem leaves_rec {R : Ending → World → Prop} {fv : Fn} {cap xs : Array Value} {f : FuncId} {args : Array Value} {x : Value} (ha : a.defers = []) (hi : (invoke (.fn fv cap) xs).run P w = .ok (.enter f args) w)
  (hc : CallsDIn Fence.wide 0 P f args (.panicking [{ v := x, recovered := false }]) w fun e u' w' => u' = .panicking [{ v := x, recovered := true }] ∧ (∃ v, e = .returned v) ∧ ∃ v, (results fn a.tmps).run P w' = .ok v w' ∧ R (.returned v) w') : bodyPostM Fence.wide 0 P fn R (.panic [{ v := x, recovered := false }]) (wd [{ target := .fn fv cap, args := xs }] a) w := by
 show LeavesInM Fence.wide 0 P fn a.tmps R (a.defers ++ _) _ w
 rw [ha]
 refine ⟨by simp, .inr ⟨fun h => (by cases h), fv, cap, f, args, Z, hi, fun _ _ => trivial, hc.mono fun e u' w' h => ?_⟩⟩
 obtain ⟨rfl, ⟨v, rfl⟩, v', h1, h2⟩ := h
 exact ⟨v', h1, h2⟩
theorem ret_cell {tmps : Array Value} {t a : Nat} {p : Addr} {v : Value} (hr : fn.results = #[.cell a t]) (ht : plainB P t = true) (ha : tmps.getD a undef = .pointer (some p)) (hc : w.cell? p = some v) : (results fn tmps).run P w = .ok v w := by
 rw [Array.getD_eq_getD_getElem?] at ha
 simp [results, hr, ha, asAddr, loadVar, run_isAgg_plain ht, hc]
end
end Go.Proofs.YtnckdmogdehnoaaGreatDoor
