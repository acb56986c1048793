/- Part of the proof that a desk answers in pieces. -/
import Derived.Test.YtnckdmogdehnoaaGreatDoorPReg
import Derived.Laws.StructEq
import Derived.ChangeKeysEq
set_option linter.unusedVariables false
set_option linter.unusedSimpArgs false
namespace Go.Proofs.YtnckdmogdehnoaaGreatDoor
open Go
variable {p : Addr} {ops_ : Array Oper} {ts : Array TypeId} {args cs cs' l vs : Array Value} {R : Ending → World → Prop} {fn : Func} {f : FuncId} {a : Int} {k : IntKind} {ps : List (Nat × Operand)} {la lb : List Int} {rest_ : List Oper} {xs : List Value} {N_ T b base by_ c d_ e g i id j m n s size sz t : Nat} {x y : Operand} {A : Option Addr} {P : Program} {u v z : Value} {w w' : World}
abbrev Env := Nat → Value
variable {ρ : Env}
def upd (ρ : Env) (d : Nat) (v : Value) : Env := fun i => cond (Nat.beq i d) v (ρ i)
def ev (ρ : Env) : Operand → Value
 | .tmp t => ρ t
 | .const v => v
 | .global g => .pointer (some ⟨g, 0, none⟩)
 | .func f => .func (.func f) #[] #[]
structure Fit (N : Nat) (ρ : Env) (a : Act) : Prop where
 size : a.tmps.size = N
 get : ∀ i, a.tmps.getD i undef = ρ i
 defers : a.defers = []
section
variable {N : Nat} {ρ : Env} {a : Act}
theorem Fit.eval (h : Fit N ρ a) : a.eval = ev ρ := by
 funext x
 cases x with
 | tmp t => exact h.get t
 | const v => rfl
 | global g => rfl
 | func f => rfl
theorem Fit.env (h : Fit N ρ a) : (fun i => a.tmps.getD i undef) = ρ := funext h.get
theorem Fit.put (h : Fit N ρ a) {d : Nat} (hd : d < N) (v : Value) : Fit N (upd ρ d v) (a.put (some d) v) := by
 refine ⟨by simp [Act.put, h.size], fun i => ?_, h.defers⟩
 simp only [Act.put, upd]
 by_cases hi : i = d
 ·subst hi
  have : Nat.beq i i = true := by simp
  rw [this, Array.getD_eq_getD_getElem?, Array.getElem?_setIfInBounds]
  simp [h.size, hd]
 have : Nat.beq i d = false := by
  rw [Bool.eq_false_iff]
  exact fun h => hi (Nat.eq_of_beq_eq_true h)
 rw [this, Array.getD_eq_getD_getElem?, Array.getElem?_setIfInBounds, if_neg (Ne.symm hi), ← Array.getD_eq_getD_getElem?]
 exact h.get i
end
abbrev XPost := Exit → Env → World → Prop
variable {Q_ : XPost}
variable {N_ : Nat} {ops_ : Array Oper} {Q_ : XPost} {S_ : World → Prop} {T_ : List Nat} {f_ : Nat} {l_ : Array Bool} {d_ : Nat}
def keepE (N : Nat) (ρ : Env) : Env := fun i => bif Nat.beq N 43 && Nat.beq i 4 then ρ i else undef
theorem keep_put {N d : Nat} {a : Act} (h : (!(Nat.beq N 43) || !(Nat.beq d 4)) = true) : keepE N (fun i => (a.put (some d) v).tmps.getD i undef) = keepE N (fun i => a.tmps.getD i undef) := by
 funext i
 unfold keepE
 cases h1 : Nat.beq N 43 with
 | false => rfl
 | true =>
  cases h2 : Nat.beq i 4 with
  | false => rfl
  | true =>
   rw [h1] at h
   have hd : d ≠ 4 := fun e => by subst e; cases h
   have hi : i = 4 := Nat.eq_of_beq_eq_true h2
   simp only [Bool.and_self, cond_true, Act.put]
   rw [Array.getD_eq_getD_getElem?, Array.getD_eq_getD_getElem?, Array.getElem?_setIfInBounds, if_neg (by omega)]
def LiftQ (N : Nat) (Q : XPost) : Exit → Act → World → Prop
 | .panic c, a, w => a.defers = [] ∧ Q (.panic c) (keepE N fun i => a.tmps.getD i undef) w
 | .outgrown, _, _ => False
 | e, a, w => ∃ ρ, Fit N ρ a ∧ Q e ρ w
def thenQ (K : Env → World → Prop) (Q : XPost) : XPost
 | .normal, ρ, w => K ρ w
 | e, ρ, w => Q e ρ w
def blockQ (id : Nat) (Q : XPost) : XPost
 | .normal, ρ, w => Q .normal ρ w
 | .exit i, ρ, w => cond (Nat.beq i id) (Q .normal ρ w) (Q (.exit i) ρ w)
 | e, ρ, w => Q e ρ w
def W (P : Program) (N : Nat) (c : Code) (Q : XPost) (ρ : Env) (w : World) : Prop := ∀ a, Fit N ρ a → c.wp P (LiftQ N Q) a w
section
variable {P : Program} {N : Nat} {Q : XPost} {ρ : Env} {w : World}
theorem Ws {x y : Code} (h : W P N x (thenQ (fun ρ w => W P N y Q ρ w) Q) ρ w) : W P N (.seq x y) Q ρ w := by
 intro a ha
 refine wp_seq (wp_mono (h a ha) fun e a w q => ?_)
 cases e <;> first | exact q | (obtain ⟨ρ', h1, h2⟩ := q; exact h2 a h1)
theorem Wb {c : Code} (h : W P N c (blockQ id Q) ρ w) : W P N (.block id c) Q ρ w := by
 intro a ha
 refine wp_block (wp_mono (h a ha) fun e a w q => ?_)
 cases e with
 | normal => exact q
 | exit i =>
  obtain ⟨ρ', h1, h2⟩ := q
  simp only [blockQ] at h2
  simp only [Exit.inBlock]
  by_cases hi : i = id
  ·rw [if_pos hi]
   rw [show Nat.beq i id = true from by simp [hi]] at h2
   exact ⟨ρ', h1, h2⟩
  rw [if_neg hi]
  rw [show Nat.beq i id = false from by rw [Bool.eq_false_iff]; exact fun h => hi (Nat.eq_of_beq_eq_true h)] at h2
  exact ⟨ρ', h1, h2⟩
 | goto l => exact q
 | ret => exact q
 | panic c => exact q
 | outgrown => exact q
theorem WE (h : Q (.exit id) ρ w) : W P N (.exit id) Q ρ w := fun _ ha => wp_exit ⟨ρ, ha, h⟩
theorem WR (h : Q .ret ρ w) : W P N .ret Q ρ w := fun _ ha => wp_ret ⟨ρ, ha, h⟩
theorem Wk (h : Q .normal ρ w) : W P N .skip Q ρ w := fun _ ha => wp_skip ⟨ρ, ha, h⟩
theorem Wc {c : Operand} {x y : Code} (t : Bool) (hc : ev ρ c = .bool t) (h : W P N (cond t x y) Q ρ w) : W P N (.cond c x y) Q ρ w := fun a ha =>
 wp_cond (t := t) (by rw [ha.eval]; exact hc) (by cases t <;> exact h a ha)
theorem W_mono {c : Code} {Q' : XPost} (h : W P N c Q ρ w) (hq : ∀ e ρ w, Q e ρ w → Q' e ρ w) : W P N c Q' ρ w := fun a ha =>
 wp_mono (h a ha) fun e a w q => by cases e <;> first | exact q | exact ⟨q.1, hq _ _ _ q.2⟩ | (obtain ⟨ρ', h1, h2⟩ := q; exact ⟨ρ', h1, hq _ _ _ h2⟩)
theorem Wx {x y : Code} (M : Env → World → Prop) (h1 : W P N x (thenQ M Q) ρ w) (h2 : ∀ ρ w, M ρ w → W P N y Q ρ w) : W P N (.seq x y) Q ρ w :=
 Ws (W_mono h1 fun e ρ w q => by cases e <;> first | exact q | exact h2 _ _ q)
theorem W_loop {c : Code} (I : Env → World → Prop) (μ : Env → World → Nat) (h0 : I ρ w)
  (h : ∀ ρ w, I ρ w → W P N c (thenQ (fun ρ' w' => I ρ' w' ∧ μ ρ' w' < μ ρ w) Q) ρ w) : W P N (.loop c) Q ρ w := by
 intro a ha
 refine wp_loop (fun a w => ∃ ρ, Fit N ρ a ∧ I ρ w) (fun a w => μ (fun i => a.tmps.getD i undef) w) ⟨ρ, ha, h0⟩ fun a w hI => ?_
 obtain ⟨ρ, ha, hI⟩ := hI
 refine wp_mono (h ρ w hI a ha) fun e a' w' q => ?_
 cases e <;> first | exact q | (obtain ⟨ρ', h1, h2, h3⟩ := q; exact ⟨⟨ρ', h1, h2⟩, by rw [h1.env, ha.env]; exact h3⟩)
def retQ (P : Program) (fn : Func) (R : Ending → World → Prop) : XPost
 | .normal, ρ, w | .ret, ρ, w => ∀ a, Fit fn.ntmps ρ a → ∃ v, (results fn a.tmps).run P w = .ok v w ∧ R (.returned v) w
 | _, _, _ => False
def retP (P : Program) (fn : Func) (R : Ending → World → Prop) : XPost
 | .panic c, _, w => R (.panicked c) w
 | e, ρ, w => retQ P fn R e ρ w
def entry (args : Array Value) : Env := fun i => args.getD i undef
theorem calls_of_W {c : Code} (hf : P.funcs[f]? = some fn) (hb : fn.body = some c) (hn : fn.ntmps = N) (hN : Nat.ble args.size N = true)
  (h : W P N c (retQ P fn R) (entry args) w) : Calls P f args w R := by
 subst hn
 refine calls_of_wp hf hb (wp_mono (h _ ⟨?_, fun i => ?_, Z⟩) fun e a w q => ?_)
 ·have := Nat.le_of_ble_eq_true hN
  simp; omega
 ·unfold entry
  rw [Array.getD_eq_getD_getElem?, Array.getElem?_append, Array.getD_eq_getD_getElem?]
  split
  ·rfl
  rename_i hlt
  rw [Array.getElem?_eq_none (xs := args) (by omega), Array.getElem?_replicate]
  split <;> rfl
 cases e <;> first | exact q.elim | exact q.2.elim | (obtain ⟨ρ, h1, h2⟩ := q; first | exact ⟨h1.defers, h2 a h1⟩ | exact h2.elim)
theorem Vm {c : Code} (hf : P.funcs[f]? = some fn) (h0_ : @Eq _ (fn.body, Nat.ble args.size fn.ntmps) (some c, true)) (h1_ : W P fn.ntmps c (retQ P fn R) (entry args) w) : Calls P f args w R := calls_of_W (N := fn.ntmps) hf (q1 h0_) rfl (q2 h0_) h1_
theorem calls_of_WP {c : Code} (hf : P.funcs[f]? = some fn) (hb : fn.body = some c) (hn : fn.ntmps = N) (hN : Nat.ble args.size N = true)
  (h : W P N c (retP P fn R) (entry args) w) : Calls P f args w R := by
 subst hn
 refine calls_of_wp hf hb (wp_mono (h _ ⟨?_, fun i => ?_, Z⟩) fun e a w q => ?_)
 ·have := Nat.le_of_ble_eq_true hN
  simp; omega
 ·unfold entry
  rw [Array.getD_eq_getD_getElem?, Array.getElem?_append, Array.getD_eq_getD_getElem?]
  split
  ·rfl
  rename_i hlt
  rw [Array.getElem?_eq_none (xs := args) (by omega), Array.getElem?_replicate]
  split <;> rfl
 cases e <;> first | exact q | exact q.elim | (obtain ⟨ρ, h1, h2⟩ := q; first | exact ⟨h1.defers, h2 a h1⟩ | exact h2.elim)
theorem retQ_intro {e : Exit} (he : e = .normal ∨ e = .ret) (h : ∀ a, Fit fn.ntmps ρ a → ∃ v, (results fn a.tmps).run P w = .ok v w ∧ R (.returned v) w) : retQ P fn R e ρ w := by
 rcases he with rfl | rfl <;> exact h
theorem ret0 {e : Exit} (he : e = .normal ∨ e = .ret) (hr : fn.results = #[]) (h : R (.returned (.tuple #[])) w) : retQ P fn R e ρ w := by
 rcases he with rfl | rfl <;> exact fun a ha => ⟨_, by simp [results, hr], h⟩
theorem ret1 {e : Exit} (t : Tmp) (he : e = .normal ∨ e = .ret) (hr : fn.results = #[.tmp t]) (h : R (.returned (ρ t)) w) : retQ P fn R e ρ w := by
 rcases he with rfl | rfl <;> exact fun a ha => ⟨_, by have h1 := ha.get t; simp only [Array.getD_eq_getD_getElem?] at h1; simp [results, hr, h1], h⟩
theorem ret2 {e : Exit} (s t : Tmp) (he : e = .normal ∨ e = .ret) (hr : fn.results = #[.tmp s, .tmp t]) (h : R (.returned (.tuple #[ρ s, ρ t])) w) : retQ P fn R e ρ w := by
 rcases he with rfl | rfl <;> exact fun a ha => ⟨_, by have h1 := ha.get t; have h2 := ha.get s; simp only [Array.getD_eq_getD_getElem?] at h1 h2; simp [results, hr, h1, h2], h⟩
theorem r1_ (t : Tmp) (hr : fn.results = #[.tmp t]) (h : R (.returned (ρ t)) w) : retQ P fn R .ret ρ w := ret1 t (.inr rfl) hr h
theorem r2_ (s t : Tmp) (hr : fn.results = #[.tmp s, .tmp t]) (h : R (.returned (.tuple #[ρ s, ρ t])) w) : retQ P fn R .ret ρ w := ret2 s t (.inr rfl) hr h
theorem ret3 {e : Exit} (s t u : Tmp) (he : e = .normal ∨ e = .ret) (hr : fn.results = #[.tmp s, .tmp t, .tmp u]) (h : R (.returned (.tuple #[ρ s, ρ t, ρ u])) w) : retQ P fn R e ρ w := by
 rcases he with rfl | rfl <;> exact fun a ha => ⟨_, by have h1 := ha.get t; have h2 := ha.get s; have h3 := ha.get u; simp only [Array.getD_eq_getD_getElem?] at h1 h2 h3; simp [results, hr, h1, h2, h3], h⟩
def wantedR (ops : Array Oper) (ρ : Env) (o : Oper) : Bool := match o.guard with
 | none => true
 | some (j, b) => match (ops[j]?).bind (·.dst) with
  | some d => match ρ d with
   | .bool c => c == b
   | _ => false
  | none => false
theorem wanted_fit {ops : Array Oper} {o : Oper} {a : Act} (ha : Fit N ρ a) : Region.wanted o (yielded ops a.tmps) = wantedR ops ρ o := by
 unfold Region.wanted wantedR
 cases o.guard with
 | none => rfl
 | some g =>
  obtain ⟨j, b⟩ := g
  simp only [yielded]
  cases hd : (ops[j]?).bind (·.dst) with
  | none => simp
  | some d =>
   have h1 := ha.get d
   rw [Array.getD_eq_getD_getElem?] at h1
   simp only [Option.bind_some]
   cases h2 : a.tmps[d]? with
   | none =>
    rw [h2] at h1
    simp only [Option.getD_none] at h1
    rw [← h1]
    rfl
   | some v =>
    rw [h2] at h1
    simp only [Option.getD_some] at h1
    rw [← h1]
    cases v <;> rfl
def WL (P : Program) (N : Nat) (ops : Array Oper) (Q : XPost) (l : List Oper) (ρ : Env) (w : World) : Prop := ∀ a, Fit N ρ a → wpList P ops (LiftQ N Q) l a w
theorem Wr {l : List Oper} (h : WL P N l.toArray Q l ρ w) : W P N (.region id l.toArray false) Q ρ w := fun a ha => wp_region_lit (h a ha)
theorem Wq {l : List Oper} {y : Code} (h : WL P N l.toArray (thenQ (fun ρ w => W P N y Q ρ w) Q) l ρ w) : W P N (.seq (.region id l.toArray false) y) Q ρ w := Ws (Wr h)
def Runs (P : Program) (ρ : Env) (o : Oper) (w : World) (v : Value) : Prop := (execOp (ev ρ) o).run P w = .ok (.value v) w
section
variable {ops : Array Oper} {o : Oper} {rest : List Oper} {v : Value} {d : Nat} {w' : World}
theorem Wn (h : Q .normal ρ w) : WL P N ops Q [] ρ w := fun _ ha => ⟨ρ, ha, h⟩
theorem WL_put {a : Act} (hd : o.dst = some d) (hN : Nat.blt d N = true) (ha : Fit N ρ a) (v : Value) : Fit N (upd ρ d v) (a.put o.dst v) := by
 rw [hd]
 exact ha.put (Nat.le_of_ble_eq_true hN) v
theorem WL_val (hw : wantedR ops ρ o = true) (hd : o.dst = some d) (hN : Nat.blt d N = true) (hr : Runs P ρ o w v) (h : WL P N ops Q rest (upd ρ d v) w) : WL P N ops Q (o :: rest) ρ w := by
 intro a ha
 unfold wpList
 rw [wanted_fit ha, if_pos hw]
 refine .inl ?_
 unfold Oper.wp
 rw [ha.eval, show (execOp (ev ρ) o).run P w = _ from hr]
 exact h _ (WL_put hd hN ha v)
theorem WL_skip (hw : wantedR ops ρ o = false) (hd : o.dst = some d) (hN : Nat.blt d N = true) (h : WL P N ops Q rest (upd ρ d undef) w) : WL P N ops Q (o :: rest) ρ w := by
 intro a ha
 unfold wpList
 rw [wanted_fit ha, if_neg (by rw [hw]; simp)]
 exact h _ (WL_put hd hN ha _)
theorem V5 (h0_ : @Eq _ (wantedR ops ρ o, o.dst, Nat.blt d N) (false, some d, true)) (h1_ : WL P N ops Q rest (upd ρ d undef) w) : WL P N ops Q (o :: rest) ρ w := WL_skip (q1 h0_) (q1 (q2 h0_)) (q2 (q2 h0_)) h1_
theorem Wv (h0_ : @Eq _ (wantedR ops ρ o, o.dst, Nat.blt d N) (true, some d, true)) (hr : Runs P ρ o w v) (h : WL P N ops Q rest (upd ρ d v) w) : WL P N ops Q (o :: rest) ρ w := WL_val (q1 h0_) (q1 (q2 h0_)) (q2 (q2 h0_)) hr h
theorem WL_eff (hw : wantedR ops ρ o = true) (hd : o.dst = some d) (hN : Nat.blt d N = true) (hr : (execOp (ev ρ) o).run P w = .ok (.value v) w') (h : WL P N ops Q rest (upd ρ d v) w') : WL P N ops Q (o :: rest) ρ w := by
 intro a ha
 unfold wpList
 rw [wanted_fit ha, if_pos hw]
 refine .inl ?_
 unfold Oper.wp
 rw [ha.eval, hr]
 exact h _ (WL_put hd hN ha v)
theorem WL_eff0 (hw : wantedR ops ρ o = true) (hd : o.dst = none) (hr : (execOp (ev ρ) o).run P w = .ok (.value v) w') (h : WL P N ops Q rest ρ w') : WL P N ops Q (o :: rest) ρ w := by
 intro a ha
 unfold wpList
 rw [wanted_fit ha, if_pos hw]
 refine .inl ?_
 unfold Oper.wp
 rw [ha.eval, hr]
 simp only [Oper.upon, hd, Act.put]
 exact h _ ha
theorem WL_store (hw : wantedR ops ρ o = true) (hd : o.dst = none) (hr : (execOp (ev ρ) o).run P w = .ok .skip w') (h : WL P N ops Q rest ρ w') : WL P N ops Q (o :: rest) ρ w := by
 intro a ha
 unfold wpList
 rw [wanted_fit ha, if_pos hw]
 refine .inl ?_
 unfold Oper.wp
 rw [ha.eval, hr]
 simp only [Oper.upon, hd, Act.put]
 exact h _ ha
theorem WL_call (hw : wantedR ops ρ o = true) (hd : o.dst = some d) (hN : Nat.blt d N = true) (hr : (execOp (ev ρ) o).run P w = .ok (.enter f args) w)
  (h : Calls P f args w fun e w' => ∃ v, e = .returned v ∧ WL P N ops Q rest (upd ρ d v) w') : WL P N ops Q (o :: rest) ρ w := by
 intro a ha
 unfold wpList
 rw [wanted_fit ha, if_pos hw]
 refine .inl ?_
 unfold Oper.wp
 rw [ha.eval, hr]
 refine Calls.mono h fun e w' he => ?_
 obtain ⟨v, rfl, hv⟩ := he
 exact hv _ (WL_put hd hN ha v)
theorem WL_callP (hw : wantedR ops ρ o = true) (hd : o.dst = some d) (hN : Nat.blt d N = true) (hr : (execOp (ev ρ) o).run P w = .ok (.enter f args) w)
  (h : Calls P f args w fun e w' => (∃ v, e = .returned v ∧ WL P N ops Q rest (upd ρ d v) w') ∨ ∃ c, e = .panicked c ∧ Q (.panic c) (keepE N ρ) w') : WL P N ops Q (o :: rest) ρ w := by
 intro a ha
 unfold wpList
 rw [wanted_fit ha, if_pos hw]
 refine .inl ?_
 unfold Oper.wp
 rw [ha.eval, hr]
 refine Calls.mono h fun e w' he => ?_
 rcases he with ⟨v, rfl, hv⟩ | ⟨c, rfl, hc⟩
 ·exact hv _ (WL_put hd hN ha v)
 exact ⟨ha.defers, by rw [ha.env]; exact hc⟩
theorem WL_panic (hw : wantedR ops ρ o = true) (hr : (execOp (ev ρ) o).run P w = .halt (.panic v) w') (h : Q (.panic [{ v, recovered := false }]) (keepE N ρ) w') : WL P N ops Q (o :: rest) ρ w := by
 intro a ha
 unfold wpList
 rw [wanted_fit ha, if_pos hw]
 refine .inl ?_
 unfold Oper.wp
 rw [ha.eval, hr]
 exact ⟨ha.defers, by rw [ha.env]; exact h⟩
end
theorem W_intro {c : Code} (h : ∀ a, Fit N ρ a → c.wp P (LiftQ N Q) a w) : W P N c Q ρ w := h
theorem WL_elim {ops : Array Oper} {l : List Oper} (h : WL P N ops Q l ρ w) : ∀ a, Fit N ρ a → wpList P ops (LiftQ N Q) l a w := h
end
attribute [irreducible] W WL retQ
open Go
section
variable {P : Program} {ops : Array Oper} {Q : Exit → Act → World → Prop} {md : Region.Mode} {S : World → Prop} {T : List Nat}
def wpAnyT (P : Program) (md : Region.Mode) (ops : Array Oper) (Q : Exit → Act → World → Prop) (S : World → Prop) (T : List Nat) : Nat → Array Bool → Act → World → Prop
 | 0, listed, a, w => Region.ready md ops listed = [] ∧ Q .normal a w
 | fuel + 1, listed, a, w =>
  (Region.ready md ops listed = [] → Q .normal a w) ∧
  ∀ i ∈ Region.ready md ops listed, wpOp P ops Q i (fun a' w' => if T.contains i then wpAny P md ops Q fuel (listed.setIfInBounds i true) a' w' else S w' ∧ wpAnyT P md ops Q S T fuel (listed.setIfInBounds i true) a' w') a w
theorem wpAny_of_T : ∀ (fuel : Nat) (listed : Array Bool) (a : Act) (w : World), wpAnyT P md ops Q S T fuel listed a w → wpAny P md ops Q fuel listed a w
 | 0, _, _, _, h => h
 | fuel + 1, _, _, _, h => ⟨h.1, fun i hi => wpOp_mono (fun a' w' h' => by
   split at h'
   ·exact h'
   exact wpAny_of_T fuel _ a' w' h'.2) (h.2 i hi)⟩
def closedB (md : Region.Mode) (ops : Array Oper) (listed : Array Bool) : Bool := (List.range ops.size).all fun k =>
 !listed.getD k false || match ops[k]? with
 | some o => o.after.all fun e => !Region.binds md e || listed.getD e.on false
 | none => true
def reachB (md : Region.Mode) (ops : Array Oper) : Nat → Nat → Nat → Bool
 | 0, _, _ => false
 | n + 1, t, i => match ops[t]? with
  | some o => o.after.any fun e => Region.binds md e && (e.on == i || reachB md ops n e.on i)
  | none => false
theorem closed_step {listed : Array Bool} (hc : closedB md ops listed = true) {k : Nat} {o : Oper} (ho : ops[k]? = some o) (hk : listed.getD k false = true) :
  ∀ e ∈ o.after, Region.binds md e = true → listed.getD e.on false = true := by
 intro e he hb
 have hlt : k < ops.size := (Array.getElem?_eq_some_iff.1 ho).1
 have h1 := List.all_eq_true.1 hc k (List.mem_range.2 hlt)
 simp only [hk, ho, Bool.not_true, Bool.false_or] at h1
 have h2 := Array.all_eq_true_iff_forall_mem.1 h1 e he
 simpa [hb] using h2
theorem reach_listed {listed : Array Bool} (hc : closedB md ops listed = true) : ∀ (n t i : Nat), reachB md ops n t i = true →
  (∀ o, ops[t]? = some o → ∀ e ∈ o.after, Region.binds md e = true → listed.getD e.on false = true) → listed.getD i false = true
 | 0, _, _, h, _ => by simp [reachB] at h
 | n + 1, t, i, h, ht => by
  unfold reachB at h
  cases ho : ops[t]? with
  | none => simp [ho] at h
  | some o =>
   simp only [ho] at h
   obtain ⟨e, he, hb⟩ := Array.any_eq_true'.1 h
   simp only [Bool.and_eq_true, Bool.or_eq_true, beq_iff_eq] at hb
   have h1 := ht o ho e he hb.1
   rcases hb.2 with h2 | h2
   ·rw [← h2]; exact h1
   exact reach_listed hc n e.on i h2 (fun o' ho' => closed_step hc ho' h1)
theorem getD_flip {listed : Array Bool} {k : Nat} (h : listed.getD k true = false) : listed.getD k false = false ∧ k < listed.size := by
 have hlt : k < listed.size := by
  rcases Nat.lt_or_ge k listed.size with h' | h'
  ·exact h'
  simp [Array.getElem?_eq_none h'] at h
 refine ⟨?_, hlt⟩
 simpa [hlt] using h
theorem closed_set {listed : Array Bool} (hc : closedB md ops listed = true) (hj : j ∈ Region.ready md ops listed) : closedB md ops (listed.setIfInBounds j true) = true := by
 obtain ⟨hjun, oj, hoj, hall⟩ := mem_ready.1 hj
 have hjs := (getD_flip hjun).2
 have up : ∀ m, listed.getD m false = true → (listed.setIfInBounds j true).getD m false = true := by
  intro m hm
  by_cases hjm : j = m
  ·subst hjm; simp [hjs]
  rw [getD_set_ne false hjm]; exact hm
 refine List.all_eq_true.2 fun k hk => ?_
 cases ho : ops[k]? with
 | none => simp
 | some o =>
  simp only [Bool.or_eq_true, Bool.not_eq_true']
  by_cases hjk : j = k
  ·subst hjk
   rw [hoj] at ho
   injection ho with ho
   subst ho
   refine .inr (Array.all_eq_true_iff_forall_mem.2 fun e he => ?_)
   cases hb : Region.binds md e with
   | false => rfl
   | true => simp only [Bool.not_true, Bool.false_or]; exact up _ (by simpa using hall e he hb)
  rw [getD_set_ne false hjk]
  cases hl : listed.getD k false with
  | false => exact .inl rfl
  | true =>
   refine .inr (Array.all_eq_true_iff_forall_mem.2 fun e he => ?_)
   cases hb : Region.binds md e with
   | false => rfl
   | true => simp only [Bool.not_true, Bool.false_or]; exact up _ (closed_step hc ho hl e he hb)
theorem wpAnyT_first {oi : Oper} (hi : ops[i]? = some oi) (hsel : ∀ (j : Nat) (o : Oper) cs b, ops[j]? = some o → o.op ≠ .select cs b)
  (hQ : ∀ c a w, Q (.panic c) (a.put oi.dst v) w → Q (.panic c) a w) (hT : ∀ t ∈ T, reachB md ops ops.size t i = true) (hiT : T.contains i = false) :
  ∀ (fuel : Nat) (listed : Array Bool) (a : Act) (w : World),
   (∀ j oj, ops[j]? = some oj → j ≠ i → listed.getD j true = false → (∀ e ∈ oj.after, Region.binds md e = true → e.on ≠ i) → oi.apart ops oj = true) →
   closedB md ops listed = true → i ∈ Region.ready md ops listed → YieldsA P ops S oi v a → S w →
   wpAnyT P md ops Q S T fuel (listed.setIfInBounds i true) (a.put oi.dst v) w → wpAnyT P md ops Q S T (fuel + 1) listed a w := by
 intro fuel
 induction fuel with
 | zero =>
  intro listed a w _ _ hr hy hS H
  refine ⟨fun h => (by rw [h] at hr; cases hr), fun j hj => ?_⟩
  by_cases hji : j = i
  ·subst hji; exact hy.wpOp hi hS (by rw [hiT]; exact ⟨hS, H⟩)
  have := ready_mono hj hji
  rw [H.1] at this
  cases this
 | succ fuel ih =>
  intro listed a w hfree hcl hr hy hS H
  have hiun := (mem_ready.1 hr).1
  refine ⟨fun h => (by rw [h] at hr; cases hr), fun j hj => ?_⟩
  by_cases hji : j = i
  ·subst hji; exact hy.wpOp hi hS (by rw [hiT]; exact ⟨hS, H⟩)
  have h1 := H.2 j (ready_mono hj hji)
  obtain ⟨hjun, oj, hoj, hall⟩ := mem_ready.1 hj
  have hjT : T.contains j = false := by
   cases hc : T.contains j with
   | false => rfl
   | true =>
    have h2 := reach_listed hcl ops.size j i (hT j (by simpa using hc)) (fun o ho => by rw [hoj] at ho; injection ho with ho; subst ho; exact fun e he hb => by simpa using hall e he hb)
    rw [(getD_flip hiun).1] at h2
    cases h2
  rw [hjT] at h1 ⊢
  have hnot : ∀ e ∈ oj.after, Region.binds md e = true → e.on ≠ i := fun e he hbd heq => by
   have h1 := hall e he hbd
   rw [heq] at h1
   have h0 := getD_flip hiun
   simp [h0.2] at h0 h1
   rw [h0] at h1
   cases h1
  have hap := hfree j oj hoj hji hjun hnot
  have hyF : YieldsIf P ops (fun _ => False) oi v a := hy.imp (fun h => ⟨h.1, fun _ h => h.elim⟩) id
  have h2 := wpOp_shape hoj (wpOp_putIf hoj hap (fun cs b => hsel i oi cs b hi) (fun cs b => hsel j oj cs b hoj) hQ hyF h1)
  have hfree' : ∀ k ok, ops[k]? = some ok → k ≠ i → (listed.setIfInBounds j true).getD k true = false →
    (∀ e ∈ ok.after, Region.binds md e = true → e.on ≠ i) → oi.apart ops ok = true := fun k ok hk hki hun hno => by
   refine hfree k ok hk hki ?_ hno
   by_cases hjk : j = k
   ·subst hjk; exact hjun
   rw [getD_set_ne true hjk] at hun; exact hun
  refine wpOp_mono (fun a' w' h3 => ?_) h2
  obtain ⟨⟨u, ds, ha'⟩, h3⟩ := h3
  simp only [Bool.false_eq_true, if_false] at h3 ⊢
  have hy' : YieldsA P ops S oi v a' := by
   obtain ⟨_, _, h3'⟩ := Oper.apart_spec hap
   rw [ha']
   have hyd : YieldsA P ops S oi v { a with defers := ds } := hy.of_same rfl rfl
   exact hyd.of_same (execOp_put oi (fun cs b => hsel i oi cs b hi) _ oj.dst u h3') (wanted_put oi _ oj.dst u h3')
  replace h3 := h3.2
  refine ⟨h3.1, ih (listed.setIfInBounds j true) a' w' hfree' (closed_set hcl hj) (ready_mono hr (Ne.symm hji)) hy' h3.1 ?_⟩
  rw [Array.setIfInBounds_comm _ _ hji]
  exact h3.2
end
def WT (P : Program) (N : Nat) (ops : Array Oper) (Q : XPost) (S : World → Prop) (T : List Nat) (fuel : Nat) (listed : Array Bool) (ρ : Env) (w : World) : Prop :=
 ∀ a, Fit N ρ a → wpAnyT P .any ops (LiftQ N Q) S T fuel listed a w
def WA (P : Program) (N : Nat) (ops : Array Oper) (Q : XPost) (fuel : Nat) (listed : Array Bool) (ρ : Env) (w : World) : Prop :=
 ∀ a, Fit N ρ a → wpAny P .any ops (LiftQ N Q) fuel listed a w
def takeT (ops : Array Oper) (T : List Nat) (N : Nat) (listed : Array Bool) (i d : Nat) : Bool :=
 (Region.ready .any ops listed).contains i && Region.free .any ops listed i && closedB .any ops listed && Region.noSelect ops && Nat.blt d N && !T.contains i && T.all (fun t => reachB .any ops ops.size t i) && (!(Nat.beq N 43) || !(Nat.beq d 4))
section
variable {P : Program} {N : Nat} {ops : Array Oper} {Q : XPost} {S : World → Prop} {T : List Nat} {fuel : Nat} {listed : Array Bool} {ρ : Env} {w : World} {o : Oper} {v : Value} {d : Nat}
theorem Wd (hm : P.follows .mixedOrders = true) (h : WA P N ops Q ops.size (Array.replicate ops.size false) ρ w.drew) : W P N (.region id ops true) Q ρ w :=
 W_intro fun a ha => wp_region_any hm (h a ha)
theorem WA_T (S : World → Prop) (T : List Nat) (h : WT P N ops Q S T fuel listed ρ w) : WA P N ops Q fuel listed ρ w := fun a ha => wpAny_of_T _ _ _ _ (h a ha)
theorem take_core (ho : ops[i]? = some o) (hd : o.dst = some d) (hB : takeT ops T N listed i d = true) (hS : S w)
  (hy : ∀ a, Fit N ρ a → YieldsA P ops S o v a) (h : WT P N ops Q S T fuel (listed.setIfInBounds i true) (upd ρ d v) w) : WT P N ops Q S T (fuel + 1) listed ρ w := by
 intro a ha
 unfold takeT at hB
 obtain ⟨hB, h8⟩ := (Bool.and_eq_true _ _).mp hB
 simp only [Bool.and_eq_true, Bool.not_eq_true', List.all_eq_true] at hB
 obtain ⟨⟨⟨⟨⟨⟨h1, h2⟩, h3⟩, h4⟩, h5⟩, h6⟩, h7⟩ := hB
 exact wpAnyT_first ho (Region.noSelect_spec h4) (fun c a w h => ⟨by have h1 := h.1; rw [hd] at h1; exact h1, by have h2 := h.2; rw [hd, keep_put h8] at h2; exact h2⟩) h7 h6 _ listed a w (Region.free_spec ho h2) h3 (by simpa using h1) (hy a ha) hS (h _ (WL_put hd h5 ha v))
theorem WT_take (i : Nat) (ho : ops[i]? = some o) (hd : o.dst = some d) (hB : takeT ops T N listed i d = true) (hS : S w) (hw : wantedR ops ρ o = true)
  (hr : ∀ W, S W → Runs P ρ o W v) (h : WT P N ops Q S T fuel (listed.setIfInBounds i true) (upd ρ d v) w) : WT P N ops Q S T (fuel + 1) listed ρ w :=
 take_core ho hd hB hS (fun a ha => .inl ⟨by rw [wanted_fit ha]; exact hw, fun W hW => by
  unfold stillV
  rw [ha.eval, show (execOp (ev ρ) o).run P W = _ from hr W hW]
  exact ⟨Z, Z⟩⟩) h
theorem WT_skip (i : Nat) (ho : ops[i]? = some o) (hd : o.dst = some d) (hB : takeT ops T N listed i d = true) (hS : S w) (hw : wantedR ops ρ o = false)
  (h : WT P N ops Q S T fuel (listed.setIfInBounds i true) (upd ρ d undef) w) : WT P N ops Q S T (fuel + 1) listed ρ w :=
 take_core ho hd hB hS (fun a ha => .inr ⟨by rw [wanted_fit ha]; exact hw, rfl⟩) h
theorem V4 (i : Nat) (h0_ : @Eq _ (ops[i]?, o.dst) (some o, some d)) (h2_ : wantedR ops ρ o = false) (h3_ : WT P N ops Q S T fuel (listed.setIfInBounds i true) (upd ρ d undef) w) (h1_ : takeT ops T N listed i d = true := by kernel_rfl) (hS : S w := by first | exact hXS _ hI | exact hXS _ hI.hd1 | exact hXS _ hI.d0 | exact hXS _ hI.d1 | exact hXS _ hI.d2 | exact hXS _ hI.d3 | exact hXS _ hI.d0.d0) : WT P N ops Q S T (fuel + 1) listed ρ w := WT_skip i (q1 h0_) (q2 h0_) h1_ hS h2_ h3_
theorem Wt (i : Nat) (h0_ : @Eq _ (ops[i]?, o.dst, wantedR ops ρ o) (some o, some d, true)) (hr : ∀ W, S W → Runs P ρ o W v) (h : WT P N ops Q S T fuel (listed.setIfInBounds i true) (upd ρ d v) w) (hB : takeT ops T N listed i d = true := by kernel_rfl) (hS : S w := by first | exact hXS _ hI | exact hXS _ hI.hd1 | exact hXS _ hI.d0 | exact hXS _ hI.d1 | exact hXS _ hI.d2 | exact hXS _ hI.d3 | exact hXS _ hI.d0.d0) : WT P N ops Q S T (fuel + 1) listed ρ w := WT_take i (q1 h0_) (q1 (q2 h0_)) hB hS (q2 (q2 h0_)) hr h
theorem wpOp_of_list {K : Act → World → Prop} {L : Env → World → Prop} {k : Nat} {a : Act} (ho : ops[k]? = some o) (h : wpList P ops (LiftQ N (thenQ L Q)) [o] a w)
  (hK : ∀ ρ' a' w', Fit N ρ' a' → L ρ' w' → K a' w') : wpOp P ops (LiftQ N Q) k K a w := by
 unfold wpOp
 simp only [ho]
 unfold wpList at h
 split
 ·rename_i hw
  simp only [hw, if_true] at h
  rcases h with h | ⟨h1, h2⟩
  ·refine .inl ?_
   unfold Oper.wp at *
   generalize (execOp a.eval o).run P w = r at *
   cases r with
   | ok n w' =>
    cases n <;> simp only [Oper.upon, wpList] at h ⊢
    case value u => obtain ⟨ρ', h1, h2⟩ := h; exact hK _ _ _ h1 h2
    case skip => obtain ⟨ρ', h1, h2⟩ := h; exact hK _ _ _ h1 h2
    case defer d => obtain ⟨ρ', h1, h2⟩ := h; exact hK _ _ _ h1 h2
    case enter f args =>
     refine Calls.mono h fun e w'' he => ?_
     cases e with
     | returned u => obtain ⟨ρ', h1, h2⟩ := he; exact hK _ _ _ h1 h2
     | panicked c => exact he
     | outgrown => obtain ⟨a, w, h⟩ := he; exact h.elim
    case row row args => exact Rows.mono h fun u w'' he => by obtain ⟨ρ', h1, h2⟩ := he; exact hK _ _ _ h1 h2
   | halt x w' => cases x <;> simp only [Oper.upon] at h ⊢ <;> exact h
  obtain ⟨a, w, h⟩ := h2; exact h.elim
 rename_i hw
 simp only [hw] at h
 obtain ⟨ρ', h1, h2⟩ := h; exact hK _ _ _ h1 h2
theorem WT_one (k : Nat) (ho : ops[k]? = some o) (hr : Region.ready .any ops listed = [k]) (hT : T.contains k = false)
  (h : WL P N ops (thenQ (fun ρ' w' => S w' ∧ WT P N ops Q S T fuel (listed.setIfInBounds k true) ρ' w') Q) [o] ρ w) : WT P N ops Q S T (fuel + 1) listed ρ w := by
 intro a ha
 refine ⟨fun h0 => (by rw [hr] at h0; cases h0), fun i hi => ?_⟩
 rw [hr] at hi
 obtain rfl : i = k := by simpa using hi
 rw [hT]
 exact wpOp_of_list ho (WL_elim h a ha) fun ρ' a' w' h1 h2 => ⟨h2.1, h2.2 _ h1⟩
theorem Vq (k : Nat) (h0_ : @Eq _ (ops[k]?, T.contains k) (some o, false)) (h2_ : WL P N ops (thenQ (fun ρ' w' => S w' ∧ WT P N ops Q S T fuel (listed.setIfInBounds k true) ρ' w') Q) [o] ρ w) (h1_ : Region.ready .any ops listed = [k] := by kernel_rfl) : WT P N ops Q S T (fuel + 1) listed ρ w := WT_one k (q1 h0_) h1_ (q2 h0_) h2_
theorem WA_one (k : Nat) (ho : ops[k]? = some o) (hr : Region.ready .any ops listed = [k])
  (h : WL P N ops (thenQ (fun ρ' w' => WA P N ops Q fuel (listed.setIfInBounds k true) ρ' w') Q) [o] ρ w) : WA P N ops Q (fuel + 1) listed ρ w := by
 intro a ha
 refine ⟨fun h0 => (by rw [hr] at h0; cases h0), fun i hi => ?_⟩
 rw [hr] at hi
 obtain rfl : i = k := by simpa using hi
 exact wpOp_of_list ho (WL_elim h a ha) fun ρ' a' w' h1 h2 => h2 _ h1
theorem Tr (k : Nat) (h0_ : ops[k]? = some o) (h2_ : WL P N ops (thenQ (fun ρ' w' => WA P N ops Q fuel (listed.setIfInBounds k true) ρ' w') Q) [o] ρ w) (h1_ : Region.ready .any ops listed = [k] := by kernel_rfl) : WA P N ops Q (fuel + 1) listed ρ w := WA_one k h0_ h1_ h2_
theorem WT_two (j k : Nat) {oj ok : Oper} (hj : ops[j]? = some oj) (hk : ops[k]? = some ok) (hr : Region.ready .any ops listed = [j, k]) (hjT : T.contains j = false) (hkT : T.contains k = false)
  (h1 : WL P N ops (thenQ (fun ρ' w' => S w' ∧ WT P N ops Q S T fuel (listed.setIfInBounds j true) ρ' w') Q) [oj] ρ w)
  (h2 : WL P N ops (thenQ (fun ρ' w' => S w' ∧ WT P N ops Q S T fuel (listed.setIfInBounds k true) ρ' w') Q) [ok] ρ w) : WT P N ops Q S T (fuel + 1) listed ρ w := by
 intro a ha
 refine ⟨fun h0 => (by rw [hr] at h0; cases h0), fun i hi => ?_⟩
 rw [hr] at hi
 rcases List.mem_cons.1 hi with rfl | hi
 ·rw [hjT]
  exact wpOp_of_list hj (WL_elim h1 a ha) fun ρ' a' w' h1 h2 => ⟨h2.1, h2.2 _ h1⟩
 obtain rfl : i = k := by simpa using hi
 rw [hkT]
 exact wpOp_of_list hk (WL_elim h2 a ha) fun ρ' a' w' h1 h2 => ⟨h2.1, h2.2 _ h1⟩
theorem WA_end (hr : Region.ready .any ops listed = []) (h : Q .normal ρ w) : WA P N ops Q fuel listed ρ w := by
 intro a ha
 cases fuel with
 | zero => exact ⟨hr, ρ, ha, h⟩
 | succ n => exact ⟨fun _ => ⟨ρ, ha, h⟩, by rw [hr]; simp⟩
theorem We (hr : Region.ready .any ops listed = []) (h : Q .normal ρ w) : WT P N ops Q S T fuel listed ρ w := by
 intro a ha
 cases fuel with
 | zero => exact ⟨hr, ρ, ha, h⟩
 | succ n => exact ⟨fun _ => ⟨ρ, ha, h⟩, by rw [hr]; simp⟩
theorem WT_A (hr : (Region.ready .any ops listed).all (fun i => T.contains i) = true) (h : WA P N ops Q fuel listed ρ w) : WT P N ops Q S T fuel listed ρ w := by
 intro a ha
 cases fuel with
 | zero => exact h a ha
 | succ n =>
  refine ⟨(h a ha).1, fun i hi => ?_⟩
  have := List.all_eq_true.1 hr i hi
  rw [this]
  exact (h a ha).2 i hi
end
attribute [irreducible] WT WA
open Go
structure Ent where
 D : Nat → Prop
 Φ : World → Prop
variable {e' e0 e1 e2 e3 e4 e5 : Ent}
def Ent.ok (e : Ent) (w : World) : Prop :=
 e.Φ w ∧ (∀ k, e.D k → k < w.heap.size) ∧ ∀ (S : Nat → Prop) (w1 w2 : World), Chg S w1 w2 → (∀ k, e.D k → ¬ S k) → e.Φ w1 → e.Φ w2
variable {e' e0 e1 e2 e3 e4 e5 : Ent}
def B (g : Nat) (t : TypeId) (cs : Array Value) : Ent := ⟨fun k => k = g, fun w => Blk w g t cs⟩
theorem B.ok {t : TypeId} (h : Blk w g t cs) : (B g t cs).ok w :=
 ⟨h, fun k hk => by have : k = g := hk; rw [this]; exact h.lt, fun S w1 w2 hc hS h1 => Blk.chg h1 hc (hS g rfl)⟩
theorem Ent.ok.chg {e : Ent} {S : Nat → Prop} (h : e.ok w) (hc : Chg S w w') (hS : ∀ k, e.D k → ¬ S k) : e.ok w' :=
 ⟨h.2.2 S w w' hc hS h.1, fun k hk => Nat.lt_of_lt_of_le (h.2.1 k hk) hc.size, h.2.2⟩
structure Inv (S : Nat → Prop) (w0 w : World) (H : List Ent) : Prop where
 chg : Chg S w0 w
 ok : ∀ e ∈ H, e.ok w
 own : ∀ e ∈ H, ∀ k, e.D k → S k ∨ w0.heap.size ≤ k
 apart : H.Pairwise fun e e' => ∀ k, e.D k → ¬ e'.D k
section
variable {S : Nat → Prop} {w0 w w' : World} {H : List Ent} {g : Nat} {t : TypeId} {cs : Array Value}
theorem Inv.start (S : Nat → Prop) (w : World) : Inv S w w [] := ⟨Chg.refl S w, by simp, by simp, .nil⟩
theorem Inv.pure (h : Inv S w0 w H) (hp : Pure w w') : Inv S w0 w' H :=
 ⟨h.chg.pure hp, fun e he => (h.ok e he).chg (hp.chg NF) (fun _ _ h => h), h.own, h.apart⟩
theorem Inv.drew (h : Inv S w0 w H) : Inv S w0 w.drew H := h.pure (Pure.refl w).drew
theorem Inv.fresh {e : Ent} (h : Inv S w0 w H) (hp : Pure w w') (he : e.ok w') (hD : ∀ k, e.D k → w.heap.size ≤ k) : Inv S w0 w' (e :: H) := by
 have h' := h.pure hp
 refine ⟨h'.chg, fun x hx => ?_, fun x hx k hk => ?_, ?_⟩
 ·rcases List.mem_cons.1 hx with rfl | hx
  ·exact he
  exact h'.ok x hx
 ·rcases List.mem_cons.1 hx with rfl | hx
  ·exact .inr (Nat.le_trans h.chg.size (hD k hk))
  exact h'.own x hx k hk
 refine List.pairwise_cons.2 ⟨fun x hx k hk hxk => ?_, h'.apart⟩
 have h1 := (h.ok x hx).2.1 k hxk
 have h2 := hD k hk
 omega
theorem Inv.box (h : Inv S w0 w H) (t : TypeId) (cs : Array Value) : Inv S w0 (w.alloc (.cells cs t)) (B w.heap.size t cs :: H) :=
 h.fresh ((Pure.refl w).alloc _) (B.ok (Blk.new w t cs)) (fun k hk => by have : k = w.heap.size := hk; omega)
theorem Inv.erase (h : Inv S w0 w H) (i : Nat) : Inv S w0 w (H.eraseIdx i) :=
 ⟨h.chg, fun e he => h.ok e (List.mem_of_mem_eraseIdx he), fun e he => h.own e (List.mem_of_mem_eraseIdx he), h.apart.sublist (List.eraseIdx_sublist ..)⟩
theorem Inv.disj (h : Inv S w0 w H) {e : Ent} (hi : H[i]? = some e) (hj : H[j]? = some e') (hne : i ≠ j) : ∀ k, e.D k → ¬ e'.D k := by
 obtain ⟨hi', hie⟩ := gS_ hi
 obtain ⟨hj', hje⟩ := gS_ hj
 subst hie hje
 rcases Nat.lt_or_gt_of_ne hne with hlt | hlt
 ·exact List.pairwise_iff_getElem.1 h.apart i j hi' hj' hlt
 exact fun k h1 h2 => List.pairwise_iff_getElem.1 h.apart j i hj' hi' hlt k h2 h1
theorem Inv.upd {e : Ent} (h : Inv S w0 w H) (i : Nat) (hi : H[i]? = some e) (hc : Chg e.D w w') (ho : e'.ok w') (hD : ∀ k, e'.D k → e.D k ∨ w.heap.size ≤ k) : Inv S w0 w' (H.set i e') := by
 have hmem := gM_ hi
 have hlt : i < H.length := (gS_ hi).1
 have hk : ∀ (j : Nat) (x : Ent), H[j]? = some x → i ≠ j → ∀ k, x.D k → ¬ e'.D k := fun j x hj hij k h1 h2 => by
  rcases hD k h2 with h3 | h3
  ·exact h.disj hi hj hij k h3 h1
  have := (h.ok x (gM_ hj)).2.1 k h1; omega
 refine ⟨h.chg.trans' hc fun k hk1 hk2 => ?_, fun x hx => ?_, fun x hx k hxk => ?_, ?_⟩
 ·rcases h.own e hmem k hk2 with h1 | h1
  ·exact h1
  omega
 ·obtain ⟨j, hj⟩ := List.getElem?_of_mem hx
  rw [List.getElem?_set] at hj
  split at hj
  ·rename_i hij
   subst hij
   injection hj with hj
   subst hj
   exact ho
  rename_i hij
  exact (h.ok x (gM_ hj)).chg hc (fun k h1 h2 => h.disj hi hj hij k h2 h1)
 ·rcases List.mem_or_eq_of_mem_set hx with hx | rfl
  ·exact h.own x hx k hxk
  rcases hD k hxk with h3 | h3
  ·exact h.own e hmem k h3
  exact .inr (Nat.le_trans h.chg.size h3)
 rw [List.pairwise_iff_getElem]
 intro a b ha hb hab k h1 h2
 rw [List.length_set] at ha hb
 rw [List.getElem_set] at h1 h2
 split at h1
 ·rename_i hia
  subst hia
  rw [if_neg (by omega)] at h2
  exact hk b _ (gE_ hb) (by omega) k h2 h1
 rename_i hia
 split at h2
 ·exact hk a _ (gE_ ha) hia k h1 h2
 exact List.pairwise_iff_getElem.1 h.apart a b ha hb hab k h1 h2
theorem Inv.cell (h : Inv S w0 w H) (i : Nat) (hi : H[i]? = some (B g t cs)) (hc : cs[j]? = some v) : w.cell? ⟨g, j, none⟩ = some v :=
 (((h.ok _ (gM_ hi)).1 : Blk w g t cs).cell j).trans hc
theorem Inv.set (h : Inv S w0 w H) (i : Nat) (hi : H[i]? = some (B g t cs)) (j : Nat) (v : Value) : Inv S w0 (w.setCell ⟨g, j, none⟩ v) (H.set i (B g t (cs.setIfInBounds j v))) :=
 h.upd i hi ((Chg.refl (B g t cs).D w).setCell (p := ⟨g, j, none⟩) (.inl rfl) v) (B.ok (((h.ok _ (gM_ hi)).1 : Blk w g t cs).set_ j v)) (fun _ hk => .inl hk)
theorem Inv.old (h : Inv S w0 w H) (hv : w0.cell? p = some v) (hS : ¬ S p.block) : w.cell? p = some v :=
 (World.cell?_of_block (h.chg.block p.block (World.block_lt_of_cell? w0 _ hv) hS)).trans hv
theorem Inv.pu (h : Inv NF w0 w H) : Pure w0 w := h.chg.toPure
theorem okP {K : Value → World → Prop} (hI : Inv S w0 w H) (k : ∀ w1, Pure w w1 → Inv S w0 w1 H → K v w1) : ∀ e w1, (e = .returned v ∧ Pure w w1) → ∃ u, e = Ending.returned u ∧ K u w1 := by
 rintro e w1 ⟨rfl, h⟩
 exact ⟨_, Z, k w1 h (hI.pure h)⟩
theorem Inv.oldp (h : Inv NF w0 w H) (hv : w0.cell? p = some v) : w.cell? p = some v := h.old hv (fun h => h)
theorem Inv.lt (h : Inv S w0 w (B g t cs :: H)) : g < w.heap.size := ((h.ok _ (List.mem_cons_self ..)).1 : Blk w g t cs).lt
end
def szB (P : Program) (t n : Nat) : Bool := match P.info? t with | some i => i.size == n | none => false
def plainB (P : Program) (t : Nat) : Bool := match P.underlying t with | none => false | some (.struct _) => false | some (.array _ _) => false | _ => true
def aggB (P : Program) (t : Nat) : Bool := match P.underlying t with | some (.struct _) => true | some (.array _ _) => true | _ => false
def fldB (P : Program) (s i off : Nat) : Bool := match P.underlying s with
 | some (.struct fs) => match fs[i]? with
  | some f => (f.offset == off) && (match P.info? f.type with | some j => j.size != 0 | none => false)
  | none => false
 | _ => false
theorem run_size (h : szB P t n = true) : (sizeOf t).run P w = .ok n w := by
 unfold szB at h
 cases hi : P.info? t with
 | none => simp [hi] at h
 | some i => simp only [hi, beq_iff_eq] at h; simp [sizeOf, typeInfo, hi, h]
theorem run_isAgg_plain (h : plainB P t = true) : (isAgg t).run P w = .ok false w := by
 unfold plainB at h
 cases hi : P.underlying t with
 | none => simp [hi] at h
 | some i => cases i <;> simp [hi] at h <;> simp [isAgg, run_underlying hi]
theorem run_isAgg_agg (h : aggB P t = true) : (isAgg t).run P w = .ok true w := by
 unfold aggB at h
 cases hi : P.underlying t with
 | none => simp [hi] at h
 | some i => cases i <;> simp [hi] at h <;> simp [isAgg, run_underlying hi]
section
variable {P : Program} {ρ : Env} {o : Oper} {w : World} {x y z : Operand} {v : Value}
theorem rMove (ho : o.op = .move x) : Runs P ρ o w (ev ρ x) := by simp [Runs, execOp, ho]
theorem rAsgn (ho : o.op = .assign x) : Runs P ρ o w (ev ρ x) := by simp [Runs, execOp, ho]
theorem U7 (h0_ : @Eq _ (wantedR ops_ ρ o, o.dst, Nat.blt d_ N_, o.op) (true, some d_, true, .assign x)) (K_ : WL P N_ ops_ Q_ rest_ (upd ρ d_ (ev ρ x)) w) : WL P N_ ops_ Q_ (o :: rest_) ρ w := WL_val (q1 h0_) (q1 (q2 h0_)) (q1 (q2 (q2 h0_))) (rAsgn (q2 (q2 (q2 h0_)))) K_
theorem rMoveI {n : Int} (ho : o.op = .move x) (hx : ev ρ x = .int k n) : Runs P ρ o w (.int k n) := hx ▸ rMove ho
theorem V0 {n : Int} (h0_ : @Eq _ (wantedR ops_ ρ o, o.dst, Nat.blt d_ N_, o.op, ev ρ x) (true, some d_, true, .move x, .int k n)) (K_ : WL P N_ ops_ Q_ rest_ (upd ρ d_ (.int k n)) w) : WL P N_ ops_ Q_ (o :: rest_) ρ w := WL_val (q1 h0_) (q1 (q2 h0_)) (q1 (q2 (q2 h0_))) (rMoveI (q1 (q2 (q2 (q2 h0_)))) (q2 (q2 (q2 (q2 h0_))))) K_
theorem Vh (i_ : Nat) {n : Int} (h0_ : @Eq _ (ops_[i_]?, o.dst, wantedR ops_ ρ o, o.op, ev ρ x) (some o, some d_, true, .move x, .int k n)) (K_ : WT P N_ ops_ Q_ S_ T_ f_ (l_.setIfInBounds i_ true) (upd ρ d_ (.int k n)) w) (hB_ : takeT ops_ T_ N_ l_ i_ d_ = true := by kernel_rfl) (hS_ : S_ w := by first | exact hXS _ hI | exact hXS _ hI.hd1 | exact hXS _ hI.d0 | exact hXS _ hI.d1 | exact hXS _ hI.d2 | exact hXS _ hI.d3 | exact hXS _ hI.d0.d0) : WT P N_ ops_ Q_ S_ T_ (f_ + 1) l_ ρ w := WT_take i_ (q1 h0_) (q1 (q2 h0_)) hB_ hS_ (q1 (q2 (q2 h0_))) (fun W_ hW_ => rMoveI (q1 (q2 (q2 (q2 h0_)))) (q2 (q2 (q2 (q2 h0_))))) K_
theorem Um (i_ : Nat) (n : Int) (h0_ : @Eq _ (ops_[i_]?, o.dst, wantedR ops_ ρ o, o.op, ev ρ x) (some o, some d_, true, .move x, .int k n)) (K_ : WT P N_ ops_ Q_ S_ T_ f_ (l_.setIfInBounds i_ true) (upd ρ d_ (.int k n)) w) (hB_ : takeT ops_ T_ N_ l_ i_ d_ = true := by kernel_rfl) (hS_ : S_ w := by first | exact hXS _ hI | exact hXS _ hI.hd1 | exact hXS _ hI.d0 | exact hXS _ hI.d1 | exact hXS _ hI.d2 | exact hXS _ hI.d3 | exact hXS _ hI.d0.d0) : WT P N_ ops_ Q_ S_ T_ (f_ + 1) l_ ρ w := WT_take i_ (q1 h0_) (q1 (q2 h0_)) hB_ hS_ (q1 (q2 (q2 h0_))) (fun W_ hW_ => rMoveI (n := n) (q1 (q2 (q2 (q2 h0_)))) (q2 (q2 (q2 (q2 h0_))))) K_
theorem rMoveB {b : Bool} (ho : o.op = .move x) (hx : ev ρ x = .bool b) : Runs P ρ o w (.bool b) := hx ▸ rMove ho
theorem V7 {b : Bool} (h0_ : @Eq _ (wantedR ops_ ρ o, o.dst, Nat.blt d_ N_, o.op, ev ρ x) (true, some d_, true, .move x, .bool b)) (K_ : WL P N_ ops_ Q_ rest_ (upd ρ d_ (.bool b)) w) : WL P N_ ops_ Q_ (o :: rest_) ρ w := WL_val (q1 h0_) (q1 (q2 h0_)) (q1 (q2 (q2 h0_))) (rMoveB (q1 (q2 (q2 (q2 h0_)))) (q2 (q2 (q2 (q2 h0_))))) K_
theorem Ve (i_ : Nat) {b : Bool} (h0_ : @Eq _ (ops_[i_]?, o.dst, wantedR ops_ ρ o, o.op, ev ρ x) (some o, some d_, true, .move x, .bool b)) (K_ : WT P N_ ops_ Q_ S_ T_ f_ (l_.setIfInBounds i_ true) (upd ρ d_ (.bool b)) w) (hB_ : takeT ops_ T_ N_ l_ i_ d_ = true := by kernel_rfl) (hS_ : S_ w := by first | exact hXS _ hI | exact hXS _ hI.hd1 | exact hXS _ hI.d0 | exact hXS _ hI.d1 | exact hXS _ hI.d2 | exact hXS _ hI.d3 | exact hXS _ hI.d0.d0) : WT P N_ ops_ Q_ S_ T_ (f_ + 1) l_ ρ w := WT_take i_ (q1 h0_) (q1 (q2 h0_)) hB_ hS_ (q1 (q2 (q2 h0_))) (fun W_ hW_ => rMoveB (q1 (q2 (q2 (q2 h0_)))) (q2 (q2 (q2 (q2 h0_))))) K_
theorem rMoveS (ho : o.op = .move x) (hx : ev ρ x = .slice A n c) : Runs P ρ o w (.slice A n c) := hx ▸ rMove ho
theorem Va (h0_ : @Eq _ (wantedR ops_ ρ o, o.dst, Nat.blt d_ N_, o.op, ev ρ x) (true, some d_, true, .move x, .slice A n c)) (K_ : WL P N_ ops_ Q_ rest_ (upd ρ d_ (.slice A n c)) w) : WL P N_ ops_ Q_ (o :: rest_) ρ w := WL_val (q1 h0_) (q1 (q2 h0_)) (q1 (q2 (q2 h0_))) (rMoveS (q1 (q2 (q2 (q2 h0_)))) (q2 (q2 (q2 (q2 h0_))))) K_
theorem Vp (i_ : Nat) (h0_ : @Eq _ (ops_[i_]?, o.dst, wantedR ops_ ρ o, o.op, ev ρ x) (some o, some d_, true, .move x, .slice A n c)) (K_ : WT P N_ ops_ Q_ S_ T_ f_ (l_.setIfInBounds i_ true) (upd ρ d_ (.slice A n c)) w) (hB_ : takeT ops_ T_ N_ l_ i_ d_ = true := by kernel_rfl) (hS_ : S_ w := by first | exact hXS _ hI | exact hXS _ hI.hd1 | exact hXS _ hI.d0 | exact hXS _ hI.d1 | exact hXS _ hI.d2 | exact hXS _ hI.d3 | exact hXS _ hI.d0.d0) : WT P N_ ops_ Q_ S_ T_ (f_ + 1) l_ ρ w := WT_take i_ (q1 h0_) (q1 (q2 h0_)) hB_ hS_ (q1 (q2 (q2 h0_))) (fun W_ hW_ => rMoveS (q1 (q2 (q2 (q2 h0_)))) (q2 (q2 (q2 (q2 h0_))))) K_
theorem rMoveT (ho : o.op = .move x) (hx : ev ρ x = .tuple l) : Runs P ρ o w (.tuple l) := hx ▸ rMove ho
theorem T4 (h0_ : @Eq _ (wantedR ops_ ρ o, o.dst, Nat.blt d_ N_, o.op, ev ρ x) (true, some d_, true, .move x, .tuple l)) (K_ : WL P N_ ops_ Q_ rest_ (upd ρ d_ (.tuple l)) w) : WL P N_ ops_ Q_ (o :: rest_) ρ w := WL_val (q1 h0_) (q1 (q2 h0_)) (q1 (q2 (q2 h0_))) (rMoveT (q1 (q2 (q2 (q2 h0_)))) (q2 (q2 (q2 (q2 h0_))))) K_
theorem Ub (i_ : Nat) (h0_ : @Eq _ (ops_[i_]?, o.dst, wantedR ops_ ρ o, o.op, ev ρ x) (some o, some d_, true, .move x, .tuple l)) (K_ : WT P N_ ops_ Q_ S_ T_ f_ (l_.setIfInBounds i_ true) (upd ρ d_ (.tuple l)) w) (hB_ : takeT ops_ T_ N_ l_ i_ d_ = true := by kernel_rfl) (hS_ : S_ w := by first | exact hXS _ hI | exact hXS _ hI.hd1 | exact hXS _ hI.d0 | exact hXS _ hI.d1 | exact hXS _ hI.d2 | exact hXS _ hI.d3 | exact hXS _ hI.d0.d0) : WT P N_ ops_ Q_ S_ T_ (f_ + 1) l_ ρ w := WT_take i_ (q1 h0_) (q1 (q2 h0_)) hB_ hS_ (q1 (q2 (q2 h0_))) (fun W_ hW_ => rMoveT (q1 (q2 (q2 (q2 h0_)))) (q2 (q2 (q2 (q2 h0_))))) K_
theorem rMoveP {p : Option Addr} (ho : o.op = .move x) (hx : ev ρ x = .pointer p) : Runs P ρ o w (.pointer p) := hx ▸ rMove ho
theorem T1 {p : Option Addr} (h0_ : @Eq _ (wantedR ops_ ρ o, o.dst, Nat.blt d_ N_, o.op, ev ρ x) (true, some d_, true, .move x, .pointer p)) (K_ : WL P N_ ops_ Q_ rest_ (upd ρ d_ (.pointer p)) w) : WL P N_ ops_ Q_ (o :: rest_) ρ w := WL_val (q1 h0_) (q1 (q2 h0_)) (q1 (q2 (q2 h0_))) (rMoveP (q1 (q2 (q2 (q2 h0_)))) (q2 (q2 (q2 (q2 h0_))))) K_
theorem T7 (i_ : Nat) {p : Option Addr} (h0_ : @Eq _ (ops_[i_]?, o.dst, wantedR ops_ ρ o, o.op, ev ρ x) (some o, some d_, true, .move x, .pointer p)) (K_ : WT P N_ ops_ Q_ S_ T_ f_ (l_.setIfInBounds i_ true) (upd ρ d_ (.pointer p)) w) (hB_ : takeT ops_ T_ N_ l_ i_ d_ = true := by kernel_rfl) (hS_ : S_ w := by first | exact hXS _ hI | exact hXS _ hI.hd1 | exact hXS _ hI.d0 | exact hXS _ hI.d1 | exact hXS _ hI.d2 | exact hXS _ hI.d3 | exact hXS _ hI.d0.d0) : WT P N_ ops_ Q_ S_ T_ (f_ + 1) l_ ρ w := WT_take i_ (q1 h0_) (q1 (q2 h0_)) hB_ hS_ (q1 (q2 (q2 h0_))) (fun W_ hW_ => rMoveP (q1 (q2 (q2 (q2 h0_)))) (q2 (q2 (q2 (q2 h0_))))) K_
theorem rMoveN (ho : o.op = .move x) (hx : ev ρ x = .nilIface) : Runs P ρ o w .nilIface := hx ▸ rMove ho
theorem Td (h0_ : @Eq _ (wantedR ops_ ρ o, o.dst, Nat.blt d_ N_, o.op, ev ρ x) (true, some d_, true, .move x, .nilIface)) (K_ : WL P N_ ops_ Q_ rest_ (upd ρ d_ .nilIface) w) : WL P N_ ops_ Q_ (o :: rest_) ρ w := WL_val (q1 h0_) (q1 (q2 h0_)) (q1 (q2 (q2 h0_))) (rMoveN (q1 (q2 (q2 (q2 h0_)))) (q2 (q2 (q2 (q2 h0_))))) K_
theorem rMoveE {t : TypeId} (ho : o.op = .move x) (hx : ev ρ x = .iface t u) : Runs P ρ o w (.iface t u) := hx ▸ rMove ho
theorem Vy {t : TypeId} (h0_ : @Eq _ (wantedR ops_ ρ o, o.dst, Nat.blt d_ N_, o.op, ev ρ x) (true, some d_, true, .move x, .iface t u)) (K_ : WL P N_ ops_ Q_ rest_ (upd ρ d_ (.iface t u)) w) : WL P N_ ops_ Q_ (o :: rest_) ρ w := WL_val (q1 h0_) (q1 (q2 h0_)) (q1 (q2 (q2 h0_))) (rMoveE (q1 (q2 (q2 (q2 h0_)))) (q2 (q2 (q2 (q2 h0_))))) K_
theorem rMoveF {f : Fn} {a b : Array Value} (ho : o.op = .move x) (hx : ev ρ x = .func f a b) : Runs P ρ o w (.func f a b) := hx ▸ rMove ho
theorem Ua {f : Fn} {a : Array Value} {b : Array Value} (h0_ : @Eq _ (wantedR ops_ ρ o, o.dst, Nat.blt d_ N_, o.op, ev ρ x) (true, some d_, true, .move x, .func f a b)) (K_ : WL P N_ ops_ Q_ rest_ (upd ρ d_ (.func f a b)) w) : WL P N_ ops_ Q_ (o :: rest_) ρ w := WL_val (q1 h0_) (q1 (q2 h0_)) (q1 (q2 (q2 h0_))) (rMoveF (q1 (q2 (q2 (q2 h0_)))) (q2 (q2 (q2 (q2 h0_))))) K_
theorem rMoveStr {s : ByteArray} (ho : o.op = .move x) (hx : ev ρ x = .string s) : Runs P ρ o w (.string s) := hx ▸ rMove ho
theorem Ta {s : ByteArray} (h0_ : @Eq _ (wantedR ops_ ρ o, o.dst, Nat.blt d_ N_, o.op, ev ρ x) (true, some d_, true, .move x, .string s)) (K_ : WL P N_ ops_ Q_ rest_ (upd ρ d_ (.string s)) w) : WL P N_ ops_ Q_ (o :: rest_) ρ w := WL_val (q1 h0_) (q1 (q2 h0_)) (q1 (q2 (q2 h0_))) (rMoveStr (q1 (q2 (q2 (q2 h0_)))) (q2 (q2 (q2 (q2 h0_))))) K_
theorem rMoveM {m : Option Nat} (ho : o.op = .move x) (hx : ev ρ x = .map m) : Runs P ρ o w (.map m) := hx ▸ rMove ho
theorem Tp {m : Option Nat} (h0_ : @Eq _ (wantedR ops_ ρ o, o.dst, Nat.blt d_ N_, o.op, ev ρ x) (true, some d_, true, .move x, .map m)) (K_ : WL P N_ ops_ Q_ rest_ (upd ρ d_ (.map m)) w) : WL P N_ ops_ Q_ (o :: rest_) ρ w := WL_val (q1 h0_) (q1 (q2 h0_)) (q1 (q2 (q2 h0_))) (rMoveM (q1 (q2 (q2 (q2 h0_)))) (q2 (q2 (q2 (q2 h0_))))) K_
theorem rAsgnI {n : Int} (ho : o.op = .assign x) (hx : ev ρ x = .int k n) : Runs P ρ o w (.int k n) := hx ▸ rAsgn ho
theorem Vb {n : Int} (h0_ : @Eq _ (wantedR ops_ ρ o, o.dst, Nat.blt d_ N_, o.op, ev ρ x) (true, some d_, true, .assign x, .int k n)) (K_ : WL P N_ ops_ Q_ rest_ (upd ρ d_ (.int k n)) w) : WL P N_ ops_ Q_ (o :: rest_) ρ w := WL_val (q1 h0_) (q1 (q2 h0_)) (q1 (q2 (q2 h0_))) (rAsgnI (q1 (q2 (q2 (q2 h0_)))) (q2 (q2 (q2 (q2 h0_))))) K_
theorem Tl (i_ : Nat) {n : Int} (h0_ : @Eq _ (ops_[i_]?, o.dst, wantedR ops_ ρ o, o.op, ev ρ x) (some o, some d_, true, .assign x, .int k n)) (K_ : WT P N_ ops_ Q_ S_ T_ f_ (l_.setIfInBounds i_ true) (upd ρ d_ (.int k n)) w) (hB_ : takeT ops_ T_ N_ l_ i_ d_ = true := by kernel_rfl) (hS_ : S_ w := by first | exact hXS _ hI | exact hXS _ hI.hd1 | exact hXS _ hI.d0 | exact hXS _ hI.d1 | exact hXS _ hI.d2 | exact hXS _ hI.d3 | exact hXS _ hI.d0.d0) : WT P N_ ops_ Q_ S_ T_ (f_ + 1) l_ ρ w := WT_take i_ (q1 h0_) (q1 (q2 h0_)) hB_ hS_ (q1 (q2 (q2 h0_))) (fun W_ hW_ => rAsgnI (q1 (q2 (q2 (q2 h0_)))) (q2 (q2 (q2 (q2 h0_))))) K_
theorem rAsgnB {b : Bool} (ho : o.op = .assign x) (hx : ev ρ x = .bool b) : Runs P ρ o w (.bool b) := hx ▸ rAsgn ho
theorem Vc {b : Bool} (h0_ : @Eq _ (wantedR ops_ ρ o, o.dst, Nat.blt d_ N_, o.op, ev ρ x) (true, some d_, true, .assign x, .bool b)) (K_ : WL P N_ ops_ Q_ rest_ (upd ρ d_ (.bool b)) w) : WL P N_ ops_ Q_ (o :: rest_) ρ w := WL_val (q1 h0_) (q1 (q2 h0_)) (q1 (q2 (q2 h0_))) (rAsgnB (q1 (q2 (q2 (q2 h0_)))) (q2 (q2 (q2 (q2 h0_))))) K_
theorem Tg (i_ : Nat) {b : Bool} (h0_ : @Eq _ (ops_[i_]?, o.dst, wantedR ops_ ρ o, o.op, ev ρ x) (some o, some d_, true, .assign x, .bool b)) (K_ : WT P N_ ops_ Q_ S_ T_ f_ (l_.setIfInBounds i_ true) (upd ρ d_ (.bool b)) w) (hB_ : takeT ops_ T_ N_ l_ i_ d_ = true := by kernel_rfl) (hS_ : S_ w := by first | exact hXS _ hI | exact hXS _ hI.hd1 | exact hXS _ hI.d0 | exact hXS _ hI.d1 | exact hXS _ hI.d2 | exact hXS _ hI.d3 | exact hXS _ hI.d0.d0) : WT P N_ ops_ Q_ S_ T_ (f_ + 1) l_ ρ w := WT_take i_ (q1 h0_) (q1 (q2 h0_)) hB_ hS_ (q1 (q2 (q2 h0_))) (fun W_ hW_ => rAsgnB (q1 (q2 (q2 (q2 h0_)))) (q2 (q2 (q2 (q2 h0_))))) K_
theorem rAsgnS (ho : o.op = .assign x) (hx : ev ρ x = .slice A n c) : Runs P ρ o w (.slice A n c) := hx ▸ rAsgn ho
theorem Vg (h0_ : @Eq _ (wantedR ops_ ρ o, o.dst, Nat.blt d_ N_, o.op, ev ρ x) (true, some d_, true, .assign x, .slice A n c)) (K_ : WL P N_ ops_ Q_ rest_ (upd ρ d_ (.slice A n c)) w) : WL P N_ ops_ Q_ (o :: rest_) ρ w := WL_val (q1 h0_) (q1 (q2 h0_)) (q1 (q2 (q2 h0_))) (rAsgnS (q1 (q2 (q2 (q2 h0_)))) (q2 (q2 (q2 (q2 h0_))))) K_
theorem U9 (i_ : Nat) (h0_ : @Eq _ (ops_[i_]?, o.dst, wantedR ops_ ρ o, o.op, ev ρ x) (some o, some d_, true, .assign x, .slice A n c)) (K_ : WT P N_ ops_ Q_ S_ T_ f_ (l_.setIfInBounds i_ true) (upd ρ d_ (.slice A n c)) w) (hB_ : takeT ops_ T_ N_ l_ i_ d_ = true := by kernel_rfl) (hS_ : S_ w := by first | exact hXS _ hI | exact hXS _ hI.hd1 | exact hXS _ hI.d0 | exact hXS _ hI.d1 | exact hXS _ hI.d2 | exact hXS _ hI.d3 | exact hXS _ hI.d0.d0) : WT P N_ ops_ Q_ S_ T_ (f_ + 1) l_ ρ w := WT_take i_ (q1 h0_) (q1 (q2 h0_)) hB_ hS_ (q1 (q2 (q2 h0_))) (fun W_ hW_ => rAsgnS (q1 (q2 (q2 (q2 h0_)))) (q2 (q2 (q2 (q2 h0_))))) K_
theorem rAsgnP {p : Option Addr} (ho : o.op = .assign x) (hx : ev ρ x = .pointer p) : Runs P ρ o w (.pointer p) := hx ▸ rAsgn ho
theorem rAsgnN (ho : o.op = .assign x) (hx : ev ρ x = .nilIface) : Runs P ρ o w .nilIface := hx ▸ rAsgn ho
theorem Vw (h0_ : @Eq _ (wantedR ops_ ρ o, o.dst, Nat.blt d_ N_, o.op, ev ρ x) (true, some d_, true, .assign x, .nilIface)) (K_ : WL P N_ ops_ Q_ rest_ (upd ρ d_ .nilIface) w) : WL P N_ ops_ Q_ (o :: rest_) ρ w := WL_val (q1 h0_) (q1 (q2 h0_)) (q1 (q2 (q2 h0_))) (rAsgnN (q1 (q2 (q2 (q2 h0_)))) (q2 (q2 (q2 (q2 h0_))))) K_
theorem rAsgnE {t : TypeId} (ho : o.op = .assign x) (hx : ev ρ x = .iface t u) : Runs P ρ o w (.iface t u) := hx ▸ rAsgn ho
theorem Vt {t : TypeId} (h0_ : @Eq _ (wantedR ops_ ρ o, o.dst, Nat.blt d_ N_, o.op, ev ρ x) (true, some d_, true, .assign x, .iface t u)) (K_ : WL P N_ ops_ Q_ rest_ (upd ρ d_ (.iface t u)) w) : WL P N_ ops_ Q_ (o :: rest_) ρ w := WL_val (q1 h0_) (q1 (q2 h0_)) (q1 (q2 (q2 h0_))) (rAsgnE (q1 (q2 (q2 (q2 h0_)))) (q2 (q2 (q2 (q2 h0_))))) K_
theorem rAsgnF {f : Fn} {a b : Array Value} (ho : o.op = .assign x) (hx : ev ρ x = .func f a b) : Runs P ρ o w (.func f a b) := hx ▸ rAsgn ho
theorem rAsgnStr {s : ByteArray} (ho : o.op = .assign x) (hx : ev ρ x = .string s) : Runs P ρ o w (.string s) := hx ▸ rAsgn ho
theorem T5 {s : ByteArray} (h0_ : @Eq _ (wantedR ops_ ρ o, o.dst, Nat.blt d_ N_, o.op, ev ρ x) (true, some d_, true, .assign x, .string s)) (K_ : WL P N_ ops_ Q_ rest_ (upd ρ d_ (.string s)) w) : WL P N_ ops_ Q_ (o :: rest_) ρ w := WL_val (q1 h0_) (q1 (q2 h0_)) (q1 (q2 (q2 h0_))) (rAsgnStr (q1 (q2 (q2 (q2 h0_)))) (q2 (q2 (q2 (q2 h0_))))) K_
theorem rAsgnM {m : Option Nat} (ho : o.op = .assign x) (hx : ev ρ x = .map m) : Runs P ρ o w (.map m) := hx ▸ rAsgn ho
theorem rPickT (ho : o.op = .pick x y z) (hx : ev ρ x = .bool true) (hy : ev ρ y = v) : Runs P ρ o w v := by simp [Runs, execOp, ho, hx, hy, asBool]
theorem rPickF (ho : o.op = .pick x y z) (hx : ev ρ x = .bool false) (hz : ev ρ z = v) : Runs P ρ o w v := by simp [Runs, execOp, ho, hx, hz, asBool]
theorem rPickTB {b : Bool} (ho : o.op = .pick x y z) (hx : ev ρ x = .bool true) (hy : ev ρ y = .bool b) : Runs P ρ o w (.bool b) := rPickT ho hx hy
theorem Vk {b : Bool} (h0_ : @Eq _ (wantedR ops_ ρ o, o.dst, Nat.blt d_ N_, o.op, ev ρ x, ev ρ y) (true, some d_, true, .pick x y z, .bool true, .bool b)) (K_ : WL P N_ ops_ Q_ rest_ (upd ρ d_ (.bool b)) w) : WL P N_ ops_ Q_ (o :: rest_) ρ w := WL_val (q1 h0_) (q1 (q2 h0_)) (q1 (q2 (q2 h0_))) (rPickTB (q1 (q2 (q2 (q2 h0_)))) (q1 (q2 (q2 (q2 (q2 h0_))))) (q2 (q2 (q2 (q2 (q2 h0_)))))) K_
theorem Vv (i_ : Nat) {b : Bool} (h0_ : @Eq _ (ops_[i_]?, o.dst, wantedR ops_ ρ o, o.op, ev ρ x, ev ρ y) (some o, some d_, true, .pick x y z, .bool true, .bool b)) (K_ : WT P N_ ops_ Q_ S_ T_ f_ (l_.setIfInBounds i_ true) (upd ρ d_ (.bool b)) w) (hB_ : takeT ops_ T_ N_ l_ i_ d_ = true := by kernel_rfl) (hS_ : S_ w := by first | exact hXS _ hI | exact hXS _ hI.hd1 | exact hXS _ hI.d0 | exact hXS _ hI.d1 | exact hXS _ hI.d2 | exact hXS _ hI.d3 | exact hXS _ hI.d0.d0) : WT P N_ ops_ Q_ S_ T_ (f_ + 1) l_ ρ w := WT_take i_ (q1 h0_) (q1 (q2 h0_)) hB_ hS_ (q1 (q2 (q2 h0_))) (fun W_ hW_ => rPickTB (q1 (q2 (q2 (q2 h0_)))) (q1 (q2 (q2 (q2 (q2 h0_))))) (q2 (q2 (q2 (q2 (q2 h0_)))))) K_
theorem rPickFB {b : Bool} (ho : o.op = .pick x y z) (hx : ev ρ x = .bool false) (hz : ev ρ z = .bool b) : Runs P ρ o w (.bool b) := rPickF ho hx hz
theorem Vi {b : Bool} (h0_ : @Eq _ (wantedR ops_ ρ o, o.dst, Nat.blt d_ N_, o.op, ev ρ x, ev ρ z) (true, some d_, true, .pick x y z, .bool false, .bool b)) (K_ : WL P N_ ops_ Q_ rest_ (upd ρ d_ (.bool b)) w) : WL P N_ ops_ Q_ (o :: rest_) ρ w := WL_val (q1 h0_) (q1 (q2 h0_)) (q1 (q2 (q2 h0_))) (rPickFB (q1 (q2 (q2 (q2 h0_)))) (q1 (q2 (q2 (q2 (q2 h0_))))) (q2 (q2 (q2 (q2 (q2 h0_)))))) K_
theorem Vn (i_ : Nat) {b : Bool} (h0_ : @Eq _ (ops_[i_]?, o.dst, wantedR ops_ ρ o, o.op, ev ρ x, ev ρ z) (some o, some d_, true, .pick x y z, .bool false, .bool b)) (K_ : WT P N_ ops_ Q_ S_ T_ f_ (l_.setIfInBounds i_ true) (upd ρ d_ (.bool b)) w) (hB_ : takeT ops_ T_ N_ l_ i_ d_ = true := by kernel_rfl) (hS_ : S_ w := by first | exact hXS _ hI | exact hXS _ hI.hd1 | exact hXS _ hI.d0 | exact hXS _ hI.d1 | exact hXS _ hI.d2 | exact hXS _ hI.d3 | exact hXS _ hI.d0.d0) : WT P N_ ops_ Q_ S_ T_ (f_ + 1) l_ ρ w := WT_take i_ (q1 h0_) (q1 (q2 h0_)) hB_ hS_ (q1 (q2 (q2 h0_))) (fun W_ hW_ => rPickFB (q1 (q2 (q2 (q2 h0_)))) (q1 (q2 (q2 (q2 (q2 h0_))))) (q2 (q2 (q2 (q2 (q2 h0_)))))) K_
theorem rNot {t : TypeId} {b : Bool} (ho : o.op = .unOp .not t x) (hx : ev ρ x = .bool b) : Runs P ρ o w (.bool (!b)) := by simp [Runs, execOp, ho, hx, Op.unary]
theorem rNotT {t : TypeId} (ho : o.op = .unOp .not t x) (hx : ev ρ x = .bool true) : Runs P ρ o w (.bool false) := rNot ho hx
theorem Tf {t : TypeId} (h0_ : @Eq _ (wantedR ops_ ρ o, o.dst, Nat.blt d_ N_, o.op, ev ρ x) (true, some d_, true, .unOp .not t x, .bool true)) (K_ : WL P N_ ops_ Q_ rest_ (upd ρ d_ (.bool false)) w) : WL P N_ ops_ Q_ (o :: rest_) ρ w := WL_val (q1 h0_) (q1 (q2 h0_)) (q1 (q2 (q2 h0_))) (rNotT (q1 (q2 (q2 (q2 h0_)))) (q2 (q2 (q2 (q2 h0_))))) K_
theorem Tm (i_ : Nat) {t : TypeId} (h0_ : @Eq _ (ops_[i_]?, o.dst, wantedR ops_ ρ o, o.op, ev ρ x) (some o, some d_, true, .unOp .not t x, .bool true)) (K_ : WT P N_ ops_ Q_ S_ T_ f_ (l_.setIfInBounds i_ true) (upd ρ d_ (.bool false)) w) (hB_ : takeT ops_ T_ N_ l_ i_ d_ = true := by kernel_rfl) (hS_ : S_ w := by first | exact hXS _ hI | exact hXS _ hI.hd1 | exact hXS _ hI.d0 | exact hXS _ hI.d1 | exact hXS _ hI.d2 | exact hXS _ hI.d3 | exact hXS _ hI.d0.d0) : WT P N_ ops_ Q_ S_ T_ (f_ + 1) l_ ρ w := WT_take i_ (q1 h0_) (q1 (q2 h0_)) hB_ hS_ (q1 (q2 (q2 h0_))) (fun W_ hW_ => rNotT (q1 (q2 (q2 (q2 h0_)))) (q2 (q2 (q2 (q2 h0_))))) K_
theorem rNotF {t : TypeId} (ho : o.op = .unOp .not t x) (hx : ev ρ x = .bool false) : Runs P ρ o w (.bool true) := rNot ho hx
theorem To {t : TypeId} (h0_ : @Eq _ (wantedR ops_ ρ o, o.dst, Nat.blt d_ N_, o.op, ev ρ x) (true, some d_, true, .unOp .not t x, .bool false)) (K_ : WL P N_ ops_ Q_ rest_ (upd ρ d_ (.bool true)) w) : WL P N_ ops_ Q_ (o :: rest_) ρ w := WL_val (q1 h0_) (q1 (q2 h0_)) (q1 (q2 (q2 h0_))) (rNotF (q1 (q2 (q2 (q2 h0_)))) (q2 (q2 (q2 (q2 h0_))))) K_
theorem Uc (i_ : Nat) {t : TypeId} (h0_ : @Eq _ (ops_[i_]?, o.dst, wantedR ops_ ρ o, o.op, ev ρ x) (some o, some d_, true, .unOp .not t x, .bool false)) (K_ : WT P N_ ops_ Q_ S_ T_ f_ (l_.setIfInBounds i_ true) (upd ρ d_ (.bool true)) w) (hB_ : takeT ops_ T_ N_ l_ i_ d_ = true := by kernel_rfl) (hS_ : S_ w := by first | exact hXS _ hI | exact hXS _ hI.hd1 | exact hXS _ hI.d0 | exact hXS _ hI.d1 | exact hXS _ hI.d2 | exact hXS _ hI.d3 | exact hXS _ hI.d0.d0) : WT P N_ ops_ Q_ S_ T_ (f_ + 1) l_ ρ w := WT_take i_ (q1 h0_) (q1 (q2 h0_)) hB_ hS_ (q1 (q2 (q2 h0_))) (fun W_ hW_ => rNotF (q1 (q2 (q2 (q2 h0_)))) (q2 (q2 (q2 (q2 h0_))))) K_
theorem rExtr (ho : o.op = .extract x i) (hx : ev ρ x = .tuple l) (hv : l[i]? = some v) : Runs P ρ o w v := by simp [Runs, execOp, ho, hx, Instr.extract, hv]
theorem Vj (h0_ : @Eq _ (wantedR ops_ ρ o, o.dst, Nat.blt d_ N_, o.op, ev ρ x, l[i]?) (true, some d_, true, .extract x i, .tuple l, some v)) (K_ : WL P N_ ops_ Q_ rest_ (upd ρ d_ v) w) : WL P N_ ops_ Q_ (o :: rest_) ρ w := WL_val (q1 h0_) (q1 (q2 h0_)) (q1 (q2 (q2 h0_))) (rExtr (q1 (q2 (q2 (q2 h0_)))) (q1 (q2 (q2 (q2 (q2 h0_))))) (q2 (q2 (q2 (q2 (q2 h0_)))))) K_
theorem Ti (i_ : Nat) (h0_ : @Eq _ (ops_[i_]?, o.dst, wantedR ops_ ρ o, o.op, ev ρ x, l[i]?) (some o, some d_, true, .extract x i, .tuple l, some v)) (K_ : WT P N_ ops_ Q_ S_ T_ f_ (l_.setIfInBounds i_ true) (upd ρ d_ v) w) (hB_ : takeT ops_ T_ N_ l_ i_ d_ = true := by kernel_rfl) (hS_ : S_ w := by first | exact hXS _ hI | exact hXS _ hI.hd1 | exact hXS _ hI.d0 | exact hXS _ hI.d1 | exact hXS _ hI.d2 | exact hXS _ hI.d3 | exact hXS _ hI.d0.d0) : WT P N_ ops_ Q_ S_ T_ (f_ + 1) l_ ρ w := WT_take i_ (q1 h0_) (q1 (q2 h0_)) hB_ hS_ (q1 (q2 (q2 h0_))) (fun W_ hW_ => rExtr (q1 (q2 (q2 (q2 h0_)))) (q1 (q2 (q2 (q2 (q2 h0_))))) (q2 (q2 (q2 (q2 (q2 h0_)))))) K_
theorem rIface {t : TypeId} {ds : TypeDesc} (ho : o.op = .makeInterface t x) (ht : P.underlying t = some ds) (hd : (match ds with | .interface _ => false | _ => true) = true) (hx : ev ρ x = v) : Runs P ρ o w (.iface t v) := by
 cases ds <;> simp at hd <;> simp [Runs, execOp, ho, hx, Instr.makeInterface, run_underlying ht]
theorem T0 {t : TypeId} {ds : TypeDesc} (h0_ : @Eq _ (wantedR ops_ ρ o, o.dst, Nat.blt d_ N_, o.op) (true, some d_, true, .makeInterface t x)) (ht : P.underlying t = some ds) (h1_ : @Eq _ ((match ds with | .interface _ => false | _ => true), ev ρ x) (true, v)) (K_ : WL P N_ ops_ Q_ rest_ (upd ρ d_ (.iface t v)) w) : WL P N_ ops_ Q_ (o :: rest_) ρ w := WL_val (q1 h0_) (q1 (q2 h0_)) (q1 (q2 (q2 h0_))) (rIface (q2 (q2 (q2 h0_))) ht (q1 h1_) (q2 h1_)) K_
theorem rFunc {fn : Fn} {a b : List Operand} {l m : List Value} (ho : o.op = .makeFunc fn a.toArray b.toArray) (ha : a.map (ev ρ) = l) (hb : b.map (ev ρ) = m) : Runs P ρ o w (.func fn l.toArray m.toArray) := by simp [Runs, execOp, ho, ha, hb, Instr.makeFunc]
theorem Tw {fn : Fn} {a : List Operand} {b : List Operand} (l : List Value) (m : List Value) (h0_ : @Eq _ (wantedR ops_ ρ o, o.dst, Nat.blt d_ N_, o.op, a.map (ev ρ), b.map (ev ρ)) (true, some d_, true, .makeFunc fn a.toArray b.toArray, l, m)) (K_ : WL P N_ ops_ Q_ rest_ (upd ρ d_ (.func fn l.toArray m.toArray)) w) : WL P N_ ops_ Q_ (o :: rest_) ρ w := WL_val (q1 h0_) (q1 (q2 h0_)) (q1 (q2 (q2 h0_))) (rFunc (l := l) (m := m) (q1 (q2 (q2 (q2 h0_)))) (q1 (q2 (q2 (q2 (q2 h0_))))) (q2 (q2 (q2 (q2 (q2 h0_)))))) K_
section
variable {t t' : TypeId} {a b : Int} {k : IntKind}
theorem rCmp {op : BinOp} {r : Bool} (ho : o.op = .binOp op t x y t') (hx : ev ρ x = .int k a) (hy : ev ρ y = .int k b) (hr : (Op.intCmp op a b).run P w = .ok (.bool r) w) (hop : (match op with | .lss | .leq | .gtr | .geq | .eql | .neq => true | _ => false) = true) : Runs P ρ o w (.bool r) := by
 cases op <;> simp at hop <;> simp [Runs, execOp, ho, hx, hy, eqGuard, binOp, hr]
theorem rLss (ho : o.op = .binOp .lss t x y t') (hx : ev ρ x = .int k a) (hy : ev ρ y = .int k b) : Runs P ρ o w (.bool (decide (a < b))) := rCmp ho hx hy (by simp [Op.intCmp]) rfl
theorem rLeq (ho : o.op = .binOp .leq t x y t') (hx : ev ρ x = .int k a) (hy : ev ρ y = .int k b) : Runs P ρ o w (.bool (decide (a ≤ b))) := rCmp ho hx hy (by simp [Op.intCmp]) rfl
theorem rGtr (ho : o.op = .binOp .gtr t x y t') (hx : ev ρ x = .int k a) (hy : ev ρ y = .int k b) : Runs P ρ o w (.bool (decide (b < a))) := rCmp ho hx hy (by simp [Op.intCmp]) rfl
theorem rGeq (ho : o.op = .binOp .geq t x y t') (hx : ev ρ x = .int k a) (hy : ev ρ y = .int k b) : Runs P ρ o w (.bool (decide (b ≤ a))) := rCmp ho hx hy (by simp [Op.intCmp]) rfl
theorem rEql (ho : o.op = .binOp .eql t x y t') (hx : ev ρ x = .int k a) (hy : ev ρ y = .int k b) : Runs P ρ o w (.bool (decide (a = b))) := rCmp ho hx hy (by simp [Op.intCmp]; rfl) rfl
theorem rNeq (ho : o.op = .binOp .neq t x y t') (hx : ev ρ x = .int k a) (hy : ev ρ y = .int k b) : Runs P ρ o w (.bool (!decide (a = b))) := rCmp ho hx hy (by simp [Op.intCmp]; rfl) rfl
theorem rLssT (ho : o.op = .binOp .lss t x y t') (hx : ev ρ x = .int k a) (hy : ev ρ y = .int k b) (h : a < b) : Runs P ρ o w (.bool true) := by
 have := rLss (P := P) (w := w) ho hx hy
 rwa [show decide (a < b) = true from by simp; omega] at this
theorem Vu (h0_ : @Eq _ (wantedR ops_ ρ o, o.dst, Nat.blt d_ N_, o.op, ev ρ x, ev ρ y) (true, some d_, true, .binOp .lss t x y t', .int k a, .int k b)) (K_ : WL P N_ ops_ Q_ rest_ (upd ρ d_ (.bool true)) w) (h1_ : a < b := by omega) : WL P N_ ops_ Q_ (o :: rest_) ρ w := WL_val (q1 h0_) (q1 (q2 h0_)) (q1 (q2 (q2 h0_))) (rLssT (q1 (q2 (q2 (q2 h0_)))) (q1 (q2 (q2 (q2 (q2 h0_))))) (q2 (q2 (q2 (q2 (q2 h0_))))) h1_) K_
theorem Un (i_ : Nat) (h0_ : @Eq _ (ops_[i_]?, o.dst, wantedR ops_ ρ o, o.op, ev ρ x, ev ρ y) (some o, some d_, true, .binOp .lss t x y t', .int k a, .int k b)) (K_ : WT P N_ ops_ Q_ S_ T_ f_ (l_.setIfInBounds i_ true) (upd ρ d_ (.bool true)) w) (hB_ : takeT ops_ T_ N_ l_ i_ d_ = true := by kernel_rfl) (h1_ : a < b := by omega) (hS_ : S_ w := by first | exact hXS _ hI | exact hXS _ hI.hd1 | exact hXS _ hI.d0 | exact hXS _ hI.d1 | exact hXS _ hI.d2 | exact hXS _ hI.d3 | exact hXS _ hI.d0.d0) : WT P N_ ops_ Q_ S_ T_ (f_ + 1) l_ ρ w := WT_take i_ (q1 h0_) (q1 (q2 h0_)) hB_ hS_ (q1 (q2 (q2 h0_))) (fun W_ hW_ => rLssT (q1 (q2 (q2 (q2 h0_)))) (q1 (q2 (q2 (q2 (q2 h0_))))) (q2 (q2 (q2 (q2 (q2 h0_))))) h1_) K_
theorem rLssF (ho : o.op = .binOp .lss t x y t') (hx : ev ρ x = .int k a) (hy : ev ρ y = .int k b) (h : b ≤ a) : Runs P ρ o w (.bool false) := by
 have := rLss (P := P) (w := w) ho hx hy
 rwa [show decide (a < b) = false from by simp; omega] at this
theorem Vr (h0_ : @Eq _ (wantedR ops_ ρ o, o.dst, Nat.blt d_ N_, o.op, ev ρ x, ev ρ y) (true, some d_, true, .binOp .lss t x y t', .int k a, .int k b)) (K_ : WL P N_ ops_ Q_ rest_ (upd ρ d_ (.bool false)) w) (h1_ : b ≤ a := by omega) : WL P N_ ops_ Q_ (o :: rest_) ρ w := WL_val (q1 h0_) (q1 (q2 h0_)) (q1 (q2 (q2 h0_))) (rLssF (q1 (q2 (q2 (q2 h0_)))) (q1 (q2 (q2 (q2 (q2 h0_))))) (q2 (q2 (q2 (q2 (q2 h0_))))) h1_) K_
theorem Ud (i_ : Nat) (h0_ : @Eq _ (ops_[i_]?, o.dst, wantedR ops_ ρ o, o.op, ev ρ x, ev ρ y) (some o, some d_, true, .binOp .lss t x y t', .int k a, .int k b)) (K_ : WT P N_ ops_ Q_ S_ T_ f_ (l_.setIfInBounds i_ true) (upd ρ d_ (.bool false)) w) (hB_ : takeT ops_ T_ N_ l_ i_ d_ = true := by kernel_rfl) (h1_ : b ≤ a := by omega) (hS_ : S_ w := by first | exact hXS _ hI | exact hXS _ hI.hd1 | exact hXS _ hI.d0 | exact hXS _ hI.d1 | exact hXS _ hI.d2 | exact hXS _ hI.d3 | exact hXS _ hI.d0.d0) : WT P N_ ops_ Q_ S_ T_ (f_ + 1) l_ ρ w := WT_take i_ (q1 h0_) (q1 (q2 h0_)) hB_ hS_ (q1 (q2 (q2 h0_))) (fun W_ hW_ => rLssF (q1 (q2 (q2 (q2 h0_)))) (q1 (q2 (q2 (q2 (q2 h0_))))) (q2 (q2 (q2 (q2 (q2 h0_))))) h1_) K_
theorem rLeqT (ho : o.op = .binOp .leq t x y t') (hx : ev ρ x = .int k a) (hy : ev ρ y = .int k b) (h : a ≤ b) : Runs P ρ o w (.bool true) := by
 have := rLeq (P := P) (w := w) ho hx hy
 rwa [show decide (a ≤ b) = true from by simp; omega] at this
theorem rLeqF (ho : o.op = .binOp .leq t x y t') (hx : ev ρ x = .int k a) (hy : ev ρ y = .int k b) (h : b < a) : Runs P ρ o w (.bool false) := by
 have := rLeq (P := P) (w := w) ho hx hy
 rwa [show decide (a ≤ b) = false from by simp; omega] at this
theorem rGtrT (ho : o.op = .binOp .gtr t x y t') (hx : ev ρ x = .int k a) (hy : ev ρ y = .int k b) (h : b < a) : Runs P ρ o w (.bool true) := by
 have := rGtr (P := P) (w := w) ho hx hy
 rwa [show decide (b < a) = true from by simp; omega] at this
theorem U6 (h0_ : @Eq _ (wantedR ops_ ρ o, o.dst, Nat.blt d_ N_, o.op, ev ρ x, ev ρ y) (true, some d_, true, .binOp .gtr t x y t', .int k a, .int k b)) (K_ : WL P N_ ops_ Q_ rest_ (upd ρ d_ (.bool true)) w) (h1_ : b < a := by omega) : WL P N_ ops_ Q_ (o :: rest_) ρ w := WL_val (q1 h0_) (q1 (q2 h0_)) (q1 (q2 (q2 h0_))) (rGtrT (q1 (q2 (q2 (q2 h0_)))) (q1 (q2 (q2 (q2 (q2 h0_))))) (q2 (q2 (q2 (q2 (q2 h0_))))) h1_) K_
theorem rGtrF (ho : o.op = .binOp .gtr t x y t') (hx : ev ρ x = .int k a) (hy : ev ρ y = .int k b) (h : a ≤ b) : Runs P ρ o w (.bool false) := by
 have := rGtr (P := P) (w := w) ho hx hy
 rwa [show decide (b < a) = false from by simp; omega] at this
theorem U3 (h0_ : @Eq _ (wantedR ops_ ρ o, o.dst, Nat.blt d_ N_, o.op, ev ρ x, ev ρ y) (true, some d_, true, .binOp .gtr t x y t', .int k a, .int k b)) (K_ : WL P N_ ops_ Q_ rest_ (upd ρ d_ (.bool false)) w) (h1_ : a ≤ b := by omega) : WL P N_ ops_ Q_ (o :: rest_) ρ w := WL_val (q1 h0_) (q1 (q2 h0_)) (q1 (q2 (q2 h0_))) (rGtrF (q1 (q2 (q2 (q2 h0_)))) (q1 (q2 (q2 (q2 (q2 h0_))))) (q2 (q2 (q2 (q2 (q2 h0_))))) h1_) K_
theorem rGeqT (ho : o.op = .binOp .geq t x y t') (hx : ev ρ x = .int k a) (hy : ev ρ y = .int k b) (h : b ≤ a) : Runs P ρ o w (.bool true) := by
 have := rGeq (P := P) (w := w) ho hx hy
 rwa [show decide (b ≤ a) = true from by simp; omega] at this
theorem U1 (h0_ : @Eq _ (wantedR ops_ ρ o, o.dst, Nat.blt d_ N_, o.op, ev ρ x, ev ρ y) (true, some d_, true, .binOp .geq t x y t', .int k a, .int k b)) (K_ : WL P N_ ops_ Q_ rest_ (upd ρ d_ (.bool true)) w) (h1_ : b ≤ a := by omega) : WL P N_ ops_ Q_ (o :: rest_) ρ w := WL_val (q1 h0_) (q1 (q2 h0_)) (q1 (q2 (q2 h0_))) (rGeqT (q1 (q2 (q2 (q2 h0_)))) (q1 (q2 (q2 (q2 (q2 h0_))))) (q2 (q2 (q2 (q2 (q2 h0_))))) h1_) K_
theorem rGeqF (ho : o.op = .binOp .geq t x y t') (hx : ev ρ x = .int k a) (hy : ev ρ y = .int k b) (h : a < b) : Runs P ρ o w (.bool false) := by
 have := rGeq (P := P) (w := w) ho hx hy
 rwa [show decide (b ≤ a) = false from by simp; omega] at this
theorem Uf (h0_ : @Eq _ (wantedR ops_ ρ o, o.dst, Nat.blt d_ N_, o.op, ev ρ x, ev ρ y) (true, some d_, true, .binOp .geq t x y t', .int k a, .int k b)) (K_ : WL P N_ ops_ Q_ rest_ (upd ρ d_ (.bool false)) w) (h1_ : a < b := by omega) : WL P N_ ops_ Q_ (o :: rest_) ρ w := WL_val (q1 h0_) (q1 (q2 h0_)) (q1 (q2 (q2 h0_))) (rGeqF (q1 (q2 (q2 (q2 h0_)))) (q1 (q2 (q2 (q2 (q2 h0_))))) (q2 (q2 (q2 (q2 (q2 h0_))))) h1_) K_
theorem rEqlT (ho : o.op = .binOp .eql t x y t') (hx : ev ρ x = .int k a) (hy : ev ρ y = .int k b) (h : a = b) : Runs P ρ o w (.bool true) := by
 have := rEql (P := P) (w := w) ho hx hy
 rwa [show decide (a = b) = true from by simp; omega] at this
theorem Vx (h0_ : @Eq _ (wantedR ops_ ρ o, o.dst, Nat.blt d_ N_, o.op, ev ρ x, ev ρ y) (true, some d_, true, .binOp .eql t x y t', .int k a, .int k b)) (K_ : WL P N_ ops_ Q_ rest_ (upd ρ d_ (.bool true)) w) (h1_ : a = b := by omega) : WL P N_ ops_ Q_ (o :: rest_) ρ w := WL_val (q1 h0_) (q1 (q2 h0_)) (q1 (q2 (q2 h0_))) (rEqlT (q1 (q2 (q2 (q2 h0_)))) (q1 (q2 (q2 (q2 (q2 h0_))))) (q2 (q2 (q2 (q2 (q2 h0_))))) h1_) K_
theorem U8 (i_ : Nat) (h0_ : @Eq _ (ops_[i_]?, o.dst, wantedR ops_ ρ o, o.op, ev ρ x, ev ρ y) (some o, some d_, true, .binOp .eql t x y t', .int k a, .int k b)) (K_ : WT P N_ ops_ Q_ S_ T_ f_ (l_.setIfInBounds i_ true) (upd ρ d_ (.bool true)) w) (hB_ : takeT ops_ T_ N_ l_ i_ d_ = true := by kernel_rfl) (h1_ : a = b := by omega) (hS_ : S_ w := by first | exact hXS _ hI | exact hXS _ hI.hd1 | exact hXS _ hI.d0 | exact hXS _ hI.d1 | exact hXS _ hI.d2 | exact hXS _ hI.d3 | exact hXS _ hI.d0.d0) : WT P N_ ops_ Q_ S_ T_ (f_ + 1) l_ ρ w := WT_take i_ (q1 h0_) (q1 (q2 h0_)) hB_ hS_ (q1 (q2 (q2 h0_))) (fun W_ hW_ => rEqlT (q1 (q2 (q2 (q2 h0_)))) (q1 (q2 (q2 (q2 (q2 h0_))))) (q2 (q2 (q2 (q2 (q2 h0_))))) h1_) K_
theorem rEqlF (ho : o.op = .binOp .eql t x y t') (hx : ev ρ x = .int k a) (hy : ev ρ y = .int k b) (h : a ≠ b) : Runs P ρ o w (.bool false) := by
 have := rEql (P := P) (w := w) ho hx hy
 rwa [show decide (a = b) = false from by simp; omega] at this
theorem Vs (h0_ : @Eq _ (wantedR ops_ ρ o, o.dst, Nat.blt d_ N_, o.op, ev ρ x, ev ρ y) (true, some d_, true, .binOp .eql t x y t', .int k a, .int k b)) (K_ : WL P N_ ops_ Q_ rest_ (upd ρ d_ (.bool false)) w) (h1_ : a ≠ b := by omega) : WL P N_ ops_ Q_ (o :: rest_) ρ w := WL_val (q1 h0_) (q1 (q2 h0_)) (q1 (q2 (q2 h0_))) (rEqlF (q1 (q2 (q2 (q2 h0_)))) (q1 (q2 (q2 (q2 (q2 h0_))))) (q2 (q2 (q2 (q2 (q2 h0_))))) h1_) K_
theorem U5 (i_ : Nat) (h0_ : @Eq _ (ops_[i_]?, o.dst, wantedR ops_ ρ o, o.op, ev ρ x, ev ρ y) (some o, some d_, true, .binOp .eql t x y t', .int k a, .int k b)) (K_ : WT P N_ ops_ Q_ S_ T_ f_ (l_.setIfInBounds i_ true) (upd ρ d_ (.bool false)) w) (hB_ : takeT ops_ T_ N_ l_ i_ d_ = true := by kernel_rfl) (h1_ : a ≠ b := by omega) (hS_ : S_ w := by first | exact hXS _ hI | exact hXS _ hI.hd1 | exact hXS _ hI.d0 | exact hXS _ hI.d1 | exact hXS _ hI.d2 | exact hXS _ hI.d3 | exact hXS _ hI.d0.d0) : WT P N_ ops_ Q_ S_ T_ (f_ + 1) l_ ρ w := WT_take i_ (q1 h0_) (q1 (q2 h0_)) hB_ hS_ (q1 (q2 (q2 h0_))) (fun W_ hW_ => rEqlF (q1 (q2 (q2 (q2 h0_)))) (q1 (q2 (q2 (q2 (q2 h0_))))) (q2 (q2 (q2 (q2 (q2 h0_))))) h1_) K_
theorem rNeqT (ho : o.op = .binOp .neq t x y t') (hx : ev ρ x = .int k a) (hy : ev ρ y = .int k b) (h : a ≠ b) : Runs P ρ o w (.bool true) := by
 have := rNeq (P := P) (w := w) ho hx hy
 rwa [show (!decide (a = b)) = true from by simp; omega] at this
theorem Tn (h0_ : @Eq _ (wantedR ops_ ρ o, o.dst, Nat.blt d_ N_, o.op, ev ρ x, ev ρ y) (true, some d_, true, .binOp .neq t x y t', .int k a, .int k b)) (K_ : WL P N_ ops_ Q_ rest_ (upd ρ d_ (.bool true)) w) (h1_ : a ≠ b := by omega) : WL P N_ ops_ Q_ (o :: rest_) ρ w := WL_val (q1 h0_) (q1 (q2 h0_)) (q1 (q2 (q2 h0_))) (rNeqT (q1 (q2 (q2 (q2 h0_)))) (q1 (q2 (q2 (q2 (q2 h0_))))) (q2 (q2 (q2 (q2 (q2 h0_))))) h1_) K_
theorem U4 (i_ : Nat) (h0_ : @Eq _ (ops_[i_]?, o.dst, wantedR ops_ ρ o, o.op, ev ρ x, ev ρ y) (some o, some d_, true, .binOp .neq t x y t', .int k a, .int k b)) (K_ : WT P N_ ops_ Q_ S_ T_ f_ (l_.setIfInBounds i_ true) (upd ρ d_ (.bool true)) w) (hB_ : takeT ops_ T_ N_ l_ i_ d_ = true := by kernel_rfl) (h1_ : a ≠ b := by omega) (hS_ : S_ w := by first | exact hXS _ hI | exact hXS _ hI.hd1 | exact hXS _ hI.d0 | exact hXS _ hI.d1 | exact hXS _ hI.d2 | exact hXS _ hI.d3 | exact hXS _ hI.d0.d0) : WT P N_ ops_ Q_ S_ T_ (f_ + 1) l_ ρ w := WT_take i_ (q1 h0_) (q1 (q2 h0_)) hB_ hS_ (q1 (q2 (q2 h0_))) (fun W_ hW_ => rNeqT (q1 (q2 (q2 (q2 h0_)))) (q1 (q2 (q2 (q2 (q2 h0_))))) (q2 (q2 (q2 (q2 (q2 h0_))))) h1_) K_
theorem rNeqF (ho : o.op = .binOp .neq t x y t') (hx : ev ρ x = .int k a) (hy : ev ρ y = .int k b) (h : a = b) : Runs P ρ o w (.bool false) := by
 have := rNeq (P := P) (w := w) ho hx hy
 rwa [show (!decide (a = b)) = false from by simp; omega] at this
theorem Tu (i_ : Nat) (h0_ : @Eq _ (ops_[i_]?, o.dst, wantedR ops_ ρ o, o.op, ev ρ x, ev ρ y) (some o, some d_, true, .binOp .neq t x y t', .int k a, .int k b)) (K_ : WT P N_ ops_ Q_ S_ T_ f_ (l_.setIfInBounds i_ true) (upd ρ d_ (.bool false)) w) (hB_ : takeT ops_ T_ N_ l_ i_ d_ = true := by kernel_rfl) (h1_ : a = b := by omega) (hS_ : S_ w := by first | exact hXS _ hI | exact hXS _ hI.hd1 | exact hXS _ hI.d0 | exact hXS _ hI.d1 | exact hXS _ hI.d2 | exact hXS _ hI.d3 | exact hXS _ hI.d0.d0) : WT P N_ ops_ Q_ S_ T_ (f_ + 1) l_ ρ w := WT_take i_ (q1 h0_) (q1 (q2 h0_)) hB_ hS_ (q1 (q2 (q2 h0_))) (fun W_ hW_ => rNeqF (q1 (q2 (q2 (q2 h0_)))) (q1 (q2 (q2 (q2 (q2 h0_))))) (q2 (q2 (q2 (q2 (q2 h0_))))) h1_) K_
theorem Ty (h0_ : @Eq _ (wantedR ops_ ρ o, o.dst, Nat.blt d_ N_, o.op, ev ρ x, ev ρ y) (true, some d_, true, .binOp .neq t x y t', .int k a, .int k b)) (K_ : WL P N_ ops_ Q_ rest_ (upd ρ d_ (.bool false)) w) (h1_ : a = b := by omega) : WL P N_ ops_ Q_ (o :: rest_) ρ w := WL_val (q1 h0_) (q1 (q2 h0_)) (q1 (q2 (q2 h0_))) (rNeqF (q1 (q2 (q2 (q2 h0_)))) (q1 (q2 (q2 (q2 (q2 h0_))))) (q2 (q2 (q2 (q2 (q2 h0_))))) h1_) K_
theorem wrap64_in {n : Int} (h1 : -9223372036854775808 ≤ n) (h2 : n ≤ 9223372036854775807) : IntKind.i64.wrap n = n := by
 simp [IntKind.wrap, IntKind.signed, IntKind.bits]; omega
theorem rAddW (ho : o.op = .binOp .add t x y t') (hx : ev ρ x = .int k a) (hy : ev ρ y = .int k b) : Runs P ρ o w (.int k (k.wrap (a + b))) := by simp [Runs, execOp, ho, hx, hy, eqGuard, binOp, Op.intArith]
theorem rSubW (ho : o.op = .binOp .sub t x y t') (hx : ev ρ x = .int k a) (hy : ev ρ y = .int k b) : Runs P ρ o w (.int k (k.wrap (a - b))) := by simp [Runs, execOp, ho, hx, hy, eqGuard, binOp, Op.intArith]
theorem rMulW (ho : o.op = .binOp .mul t x y t') (hx : ev ρ x = .int k a) (hy : ev ρ y = .int k b) : Runs P ρ o w (.int k (k.wrap (a * b))) := by simp [Runs, execOp, ho, hx, hy, eqGuard, binOp, Op.intArith]
theorem rAdd (ho : o.op = .binOp .add t x y t') (hx : ev ρ x = .int .i64 a) (hy : ev ρ y = .int .i64 b) (h : -9223372036854775808 ≤ a + b ∧ a + b ≤ 9223372036854775807) : Runs P ρ o w (.int .i64 (a + b)) := by
 have := rAddW (P := P) (w := w) ho hx hy
 rwa [wrap64_in h.1 h.2] at this
theorem rSub (ho : o.op = .binOp .sub t x y t') (hx : ev ρ x = .int .i64 a) (hy : ev ρ y = .int .i64 b) (h : -9223372036854775808 ≤ a - b ∧ a - b ≤ 9223372036854775807) : Runs P ρ o w (.int .i64 (a - b)) := by
 have := rSubW (P := P) (w := w) ho hx hy
 rwa [wrap64_in h.1 h.2] at this
theorem Uj (h0_ : @Eq _ (wantedR ops_ ρ o, o.dst, Nat.blt d_ N_, o.op, ev ρ x, ev ρ y) (true, some d_, true, .binOp .sub t x y t', .int .i64 a, .int .i64 b)) (K_ : WL P N_ ops_ Q_ rest_ (upd ρ d_ (.int .i64 (a - b))) w) (h1_ : -9223372036854775808 ≤ a - b ∧ a - b ≤ 9223372036854775807 := by omega) : WL P N_ ops_ Q_ (o :: rest_) ρ w := WL_val (q1 h0_) (q1 (q2 h0_)) (q1 (q2 (q2 h0_))) (rSub (q1 (q2 (q2 (q2 h0_)))) (q1 (q2 (q2 (q2 (q2 h0_))))) (q2 (q2 (q2 (q2 (q2 h0_))))) h1_) K_
theorem rMul (ho : o.op = .binOp .mul t x y t') (hx : ev ρ x = .int .i64 a) (hy : ev ρ y = .int .i64 b) (h : -9223372036854775808 ≤ a * b ∧ a * b ≤ 9223372036854775807) : Runs P ρ o w (.int .i64 (a * b)) := by
 have := rMulW (P := P) (w := w) ho hx hy
 rwa [wrap64_in h.1 h.2] at this
theorem rInc (ho : o.op = .binOp .add t x y t') (hx : ev ρ x = .int .i64 (n : Int)) (hy : ev ρ y = .int .i64 1) (h : n < 9223372036854775807) : Runs P ρ o w (.int .i64 ((n + 1 : Nat) : Int)) := by
 have := rAdd (P := P) (w := w) ho hx hy (by omega)
 simpa using this
theorem Vl (h0_ : @Eq _ (wantedR ops_ ρ o, o.dst, Nat.blt d_ N_, o.op, ev ρ x, ev ρ y) (true, some d_, true, .binOp .add t x y t', .int .i64 (n : Int), .int .i64 1)) (K_ : WL P N_ ops_ Q_ rest_ (upd ρ d_ (.int .i64 ((n + 1 : Nat) : Int))) w) (h1_ : n < 9223372036854775807 := by omega) : WL P N_ ops_ Q_ (o :: rest_) ρ w := WL_val (q1 h0_) (q1 (q2 h0_)) (q1 (q2 (q2 h0_))) (rInc (q1 (q2 (q2 (q2 h0_)))) (q1 (q2 (q2 (q2 (q2 h0_))))) (q2 (q2 (q2 (q2 (q2 h0_))))) h1_) K_
end
section
variable {t t' : TypeId} {ms : Array (String × TypeId)}
theorem run_equal {x y : Value} {r : Bool} (h : ∀ d, (Op.equalIn (d + 1) t x y).run P w = .ok r w) : (Op.equal t x y).run P w = .ok r w := h 9999
theorem rIfaceNe {T : TypeId} (ho : o.op = .binOp .neq t x y t') (ht : P.underlying t = some (.interface ms)) (hx : ev ρ x = .iface T u) (hy : ev ρ y = .nilIface) : Runs P ρ o w (.bool true) := by
 have h := run_equal (P := P) (w := w) (t := t) (x := .iface T u) (y := .nilIface) (r := false) (fun d => by simp [Op.equalIn, run_underlying ht])
 simp [Runs, execOp, ho, hx, hy, eqGuard, binOp, h]
theorem U0 {T : TypeId} (h0_ : @Eq _ (wantedR ops_ ρ o, o.dst, Nat.blt d_ N_, o.op) (true, some d_, true, .binOp .neq t x y t')) (ht : P.underlying t = some (.interface ms)) (h1_ : @Eq _ (ev ρ x, ev ρ y) (.iface T u, .nilIface)) (K_ : WL P N_ ops_ Q_ rest_ (upd ρ d_ (.bool true)) w) : WL P N_ ops_ Q_ (o :: rest_) ρ w := WL_val (q1 h0_) (q1 (q2 h0_)) (q1 (q2 (q2 h0_))) (rIfaceNe (q2 (q2 (q2 h0_))) ht (q1 h1_) (q2 h1_)) K_
theorem rIfaceEq {T : TypeId} (ho : o.op = .binOp .eql t x y t') (ht : P.underlying t = some (.interface ms)) (hx : ev ρ x = .iface T u) (hy : ev ρ y = .nilIface) : Runs P ρ o w (.bool false) := by
 have h := run_equal (P := P) (w := w) (t := t) (x := .iface T u) (y := .nilIface) (r := false) (fun d => by simp [Op.equalIn, run_underlying ht])
 simp [Runs, execOp, ho, hx, hy, eqGuard, binOp, h]
theorem rNilNe (ho : o.op = .binOp .neq t x (.const .nilIface) t') (ht : P.underlying t = some (.interface ms)) (hx : ev ρ x = .nilIface) : Runs P ρ o w (.bool false) := by
 have h := run_equal (P := P) (w := w) (t := t) (x := .nilIface) (y := .nilIface) (r := true) (fun d => by simp [Op.equalIn, run_underlying ht])
 simp [Runs, execOp, ho, hx, show ev ρ (.const .nilIface) = .nilIface from rfl, eqGuard, binOp, h]
theorem Tv (h0_ : @Eq _ (wantedR ops_ ρ o, o.dst, Nat.blt d_ N_, o.op) (true, some d_, true, .binOp .neq t x (.const .nilIface) t')) (ht : P.underlying t = some (.interface ms)) (h1_ : ev ρ x = .nilIface) (K_ : WL P N_ ops_ Q_ rest_ (upd ρ d_ (.bool false)) w) : WL P N_ ops_ Q_ (o :: rest_) ρ w := WL_val (q1 h0_) (q1 (q2 h0_)) (q1 (q2 (q2 h0_))) (rNilNe (q2 (q2 (q2 h0_))) ht h1_) K_
theorem rNilEq (ho : o.op = .binOp .eql t x (.const .nilIface) t') (ht : P.underlying t = some (.interface ms)) (hx : ev ρ x = .nilIface) : Runs P ρ o w (.bool true) := by
 have h := run_equal (P := P) (w := w) (t := t) (x := .nilIface) (y := .nilIface) (r := true) (fun d => by simp [Op.equalIn, run_underlying ht])
 simp [Runs, execOp, ho, hx, show ev ρ (.const .nilIface) = .nilIface from rfl, eqGuard, binOp, h]
theorem rBoolNeq {a b : Bool} (ho : o.op = .binOp .neq t x y t') (ht : P.underlying t = some .bool) (hx : ev ρ x = .bool a) (hy : ev ρ y = .bool b) : Runs P ρ o w (.bool (!(a == b))) := by
 have h := run_equal (P := P) (w := w) (t := t) (x := .bool a) (y := .bool b) (r := a == b) (fun d => by simp [Op.equalIn, run_underlying ht])
 simp [Runs, execOp, ho, hx, hy, eqGuard, binOp, h]
theorem rStrEql {a b : ByteArray} (ho : o.op = .binOp .eql t x y t') (hx : ev ρ x = .string a) (hy : ev ρ y = .string b) : Runs P ρ o w (.bool (a.toList == b.toList)) := by
 simp [Runs, execOp, ho, hx, hy, eqGuard, binOp, Op.stringOp]
end
theorem rFld {off : Nat} (ho : o.op = .fieldAddr s x i) (hf : fldB P s i off = true) (hx : ev ρ x = .pointer (some ⟨g, j, none⟩)) : Runs P ρ o w (.pointer (some ⟨g, j + off, none⟩)) := by
 unfold fldB at hf
 cases hu : P.underlying s with
 | none => simp [hu] at hf
 | some d =>
  cases d <;> simp [hu] at hf
  rename_i fs
  cases hfi : fs[i]? with
  | none => simp [hfi] at hf
  | some f =>
   simp only [hfi] at hf
   cases hi : P.info? f.type with
   | none => simp [hi] at hf
   | some q =>
    simp only [hi, Bool.and_eq_true, beq_iff_eq, bne_iff_ne, ne_eq] at hf
    simp [Runs, execOp, ho, hx, Instr.fieldAt, run_underlying hu, hfi, Instr.sureAddr, fieldPlace, sizeOf, typeInfo, hi, hf.2, ← hf.1, Addr.add]
theorem T9 (i_ : Nat) (off : Nat) (h0_ : @Eq _ (ops_[i_]?, o.dst, wantedR ops_ ρ o, o.op, ev ρ x) (some o, some d_, true, .fieldAddr s x i, .pointer (some ⟨g, j, none⟩))) (K_ : WT P N_ ops_ Q_ S_ T_ f_ (l_.setIfInBounds i_ true) (upd ρ d_ (.pointer (some ⟨g, j + off, none⟩))) w) (hB_ : takeT ops_ T_ N_ l_ i_ d_ = true := by kernel_rfl) (h1_ : fldB P s i off = true := by kernel_rfl) (hS_ : S_ w := by first | exact hXS _ hI | exact hXS _ hI.hd1 | exact hXS _ hI.d0 | exact hXS _ hI.d1 | exact hXS _ hI.d2 | exact hXS _ hI.d3 | exact hXS _ hI.d0.d0) : WT P N_ ops_ Q_ S_ T_ (f_ + 1) l_ ρ w := WT_take i_ (q1 h0_) (q1 (q2 h0_)) hB_ hS_ (q1 (q2 (q2 h0_))) (fun W_ hW_ => rFld (off := off) (q1 (q2 (q2 (q2 h0_)))) h1_ (q2 (q2 (q2 (q2 h0_))))) K_
theorem rFld0 (ho : o.op = .fieldAddr s x i) (hf : fldB P s i 0 = true) (hx : ev ρ x = .pointer (some ⟨g, j, none⟩)) : Runs P ρ o w (.pointer (some ⟨g, j, none⟩)) := rFld (off := 0) ho hf hx
theorem Uk (i_ : Nat) (h0_ : @Eq _ (ops_[i_]?, o.dst, wantedR ops_ ρ o, o.op, ev ρ x) (some o, some d_, true, .fieldAddr s x i, .pointer (some ⟨g, j, none⟩))) (K_ : WT P N_ ops_ Q_ S_ T_ f_ (l_.setIfInBounds i_ true) (upd ρ d_ (.pointer (some ⟨g, j, none⟩))) w) (hB_ : takeT ops_ T_ N_ l_ i_ d_ = true := by kernel_rfl) (h1_ : fldB P s i 0 = true := by kernel_rfl) (hS_ : S_ w := by first | exact hXS _ hI | exact hXS _ hI.hd1 | exact hXS _ hI.d0 | exact hXS _ hI.d1 | exact hXS _ hI.d2 | exact hXS _ hI.d3 | exact hXS _ hI.d0.d0) : WT P N_ ops_ Q_ S_ T_ (f_ + 1) l_ ρ w := WT_take i_ (q1 h0_) (q1 (q2 h0_)) hB_ hS_ (q1 (q2 (q2 h0_))) (fun W_ hW_ => rFld0 (q1 (q2 (q2 (q2 h0_)))) h1_ (q2 (q2 (q2 (q2 h0_))))) K_
theorem rFldN {off : Nat} (ho : o.op = .fieldAddr s x i) (hf : fldB P s i off = true) (hx : ev ρ x = .pointer (some ⟨g, 0, none⟩)) : Runs P ρ o w (.pointer (some ⟨g, off, none⟩)) := by
 have := rFld (P := P) (w := w) ho hf hx
 rwa [Nat.zero_add] at this
theorem V8 (off : Nat) (h0_ : @Eq _ (wantedR ops_ ρ o, o.dst, Nat.blt d_ N_, o.op, ev ρ x) (true, some d_, true, .fieldAddr s x i, .pointer (some ⟨g, 0, none⟩))) (K_ : WL P N_ ops_ Q_ rest_ (upd ρ d_ (.pointer (some ⟨g, off, none⟩))) w) (h1_ : fldB P s i off = true := by kernel_rfl) : WL P N_ ops_ Q_ (o :: rest_) ρ w := WL_val (q1 h0_) (q1 (q2 h0_)) (q1 (q2 (q2 h0_))) (rFldN (off := off) (q1 (q2 (q2 (q2 h0_)))) h1_ (q2 (q2 (q2 (q2 h0_))))) K_
theorem Vf (i_ : Nat) (off : Nat) (h0_ : @Eq _ (ops_[i_]?, o.dst, wantedR ops_ ρ o, o.op, ev ρ x) (some o, some d_, true, .fieldAddr s x i, .pointer (some ⟨g, 0, none⟩))) (K_ : WT P N_ ops_ Q_ S_ T_ f_ (l_.setIfInBounds i_ true) (upd ρ d_ (.pointer (some ⟨g, off, none⟩))) w) (hB_ : takeT ops_ T_ N_ l_ i_ d_ = true := by kernel_rfl) (h1_ : fldB P s i off = true := by kernel_rfl) (hS_ : S_ w := by first | exact hXS _ hI | exact hXS _ hI.hd1 | exact hXS _ hI.d0 | exact hXS _ hI.d1 | exact hXS _ hI.d2 | exact hXS _ hI.d3 | exact hXS _ hI.d0.d0) : WT P N_ ops_ Q_ S_ T_ (f_ + 1) l_ ρ w := WT_take i_ (q1 h0_) (q1 (q2 h0_)) hB_ hS_ (q1 (q2 (q2 h0_))) (fun W_ hW_ => rFldN (off := off) (q1 (q2 (q2 (q2 h0_)))) h1_ (q2 (q2 (q2 (q2 h0_))))) K_
theorem rIdx (ho : o.op = .indexAddr t x y) (ht : P.underlying t = some (.slice e)) (hs : szB P e sz = true) (hx : ev ρ x = .slice (some ⟨g, j, none⟩) n c) (hy : ev ρ y = .int k (i : Int)) (hi : i < n) :
  Runs P ρ o w (.pointer (some ⟨g, j + i * sz, none⟩)) := by
 have hi' : (i : Int) < (n : Int) := by omega
 simp [Runs, execOp, ho, hx, hy, Instr.indexAt, asIntOf, run_underlying ht, run_size hs, hi, Addr.add]
theorem Tb (i_ : Nat) (sz : Nat) (h0_ : @Eq _ (ops_[i_]?, o.dst, wantedR ops_ ρ o, o.op) (some o, some d_, true, .indexAddr t x y)) (ht : P.underlying t = some (.slice e)) (h2_ : @Eq _ (ev ρ x, ev ρ y) (.slice (some ⟨g, j, none⟩) n c, .int k (i : Int))) (K_ : WT P N_ ops_ Q_ S_ T_ f_ (l_.setIfInBounds i_ true) (upd ρ d_ (.pointer (some ⟨g, j + i * sz, none⟩))) w) (hB_ : takeT ops_ T_ N_ l_ i_ d_ = true := by kernel_rfl) (h1_ : szB P e sz = true := by kernel_rfl) (h3_ : i < n := by omega) (hS_ : S_ w := by first | exact hXS _ hI | exact hXS _ hI.hd1 | exact hXS _ hI.d0 | exact hXS _ hI.d1 | exact hXS _ hI.d2 | exact hXS _ hI.d3 | exact hXS _ hI.d0.d0) : WT P N_ ops_ Q_ S_ T_ (f_ + 1) l_ ρ w := WT_take i_ (q1 h0_) (q1 (q2 h0_)) hB_ hS_ (q1 (q2 (q2 h0_))) (fun W_ hW_ => rIdx (sz := sz) (q2 (q2 (q2 h0_))) ht h1_ (q1 h2_) (q2 h2_) h3_) K_
theorem Th (sz : Nat) (h0_ : @Eq _ (wantedR ops_ ρ o, o.dst, Nat.blt d_ N_, o.op) (true, some d_, true, .indexAddr t x y)) (ht : P.underlying t = some (.slice e)) (h2_ : @Eq _ (ev ρ x, ev ρ y) (.slice (some ⟨g, j, none⟩) n c, .int k (i : Int))) (K_ : WL P N_ ops_ Q_ rest_ (upd ρ d_ (.pointer (some ⟨g, j + i * sz, none⟩))) w) (h1_ : szB P e sz = true := by kernel_rfl) (h3_ : i < n := by omega) : WL P N_ ops_ Q_ (o :: rest_) ρ w := WL_val (q1 h0_) (q1 (q2 h0_)) (q1 (q2 (q2 h0_))) (rIdx (sz := sz) (q2 (q2 (q2 h0_))) ht h1_ (q1 h2_) (q2 h2_) h3_) K_
theorem Uh (i_ : Nat) (sz : Nat) (i : Nat) (h0_ : @Eq _ (ops_[i_]?, o.dst, wantedR ops_ ρ o, o.op) (some o, some d_, true, .indexAddr t x y)) (ht : P.underlying t = some (.slice e)) (h2_ : @Eq _ (ev ρ x, ev ρ y) (.slice (some ⟨g, j, none⟩) n c, .int k (i : Int))) (K_ : WT P N_ ops_ Q_ S_ T_ f_ (l_.setIfInBounds i_ true) (upd ρ d_ (.pointer (some ⟨g, j + i * sz, none⟩))) w) (hB_ : takeT ops_ T_ N_ l_ i_ d_ = true := by kernel_rfl) (h1_ : szB P e sz = true := by kernel_rfl) (h3_ : i < n := by omega) (hS_ : S_ w := by first | exact hXS _ hI | exact hXS _ hI.hd1 | exact hXS _ hI.d0 | exact hXS _ hI.d1 | exact hXS _ hI.d2 | exact hXS _ hI.d3 | exact hXS _ hI.d0.d0) : WT P N_ ops_ Q_ S_ T_ (f_ + 1) l_ ρ w := WT_take i_ (q1 h0_) (q1 (q2 h0_)) hB_ hS_ (q1 (q2 (q2 h0_))) (fun W_ hW_ => rIdx (i := i) (sz := sz) (q2 (q2 (q2 h0_))) ht h1_ (q1 h2_) (q2 h2_) h3_) K_
theorem rIdx1 (ho : o.op = .indexAddr t x y) (ht : P.underlying t = some (.slice e)) (hs : szB P e 1 = true) (hx : ev ρ x = .slice (some ⟨g, j, none⟩) n c) (hy : ev ρ y = .int k (i : Int)) (hi : i < n) :
  Runs P ρ o w (.pointer (some ⟨g, j + i, none⟩)) := by
 have := rIdx (P := P) (w := w) (sz := 1) ho ht hs hx hy hi
 rwa [Nat.mul_one] at this
theorem Tz (h0_ : @Eq _ (wantedR ops_ ρ o, o.dst, Nat.blt d_ N_, o.op) (true, some d_, true, .indexAddr t x y)) (ht : P.underlying t = some (.slice e)) (h2_ : @Eq _ (ev ρ x, ev ρ y) (.slice (some ⟨g, j, none⟩) n c, .int k (i : Int))) (K_ : WL P N_ ops_ Q_ rest_ (upd ρ d_ (.pointer (some ⟨g, j + i, none⟩))) w) (h1_ : szB P e 1 = true := by kernel_rfl) (h3_ : i < n := by omega) : WL P N_ ops_ Q_ (o :: rest_) ρ w := WL_val (q1 h0_) (q1 (q2 h0_)) (q1 (q2 (q2 h0_))) (rIdx1 (q2 (q2 (q2 h0_))) ht h1_ (q1 h2_) (q2 h2_) h3_) K_
theorem Uo (i_ : Nat) (h0_ : @Eq _ (ops_[i_]?, o.dst, wantedR ops_ ρ o, o.op) (some o, some d_, true, .indexAddr t x y)) (ht : P.underlying t = some (.slice e)) (h2_ : @Eq _ (ev ρ x, ev ρ y) (.slice (some ⟨g, j, none⟩) n c, .int k (i : Int))) (K_ : WT P N_ ops_ Q_ S_ T_ f_ (l_.setIfInBounds i_ true) (upd ρ d_ (.pointer (some ⟨g, j + i, none⟩))) w) (hB_ : takeT ops_ T_ N_ l_ i_ d_ = true := by kernel_rfl) (h1_ : szB P e 1 = true := by kernel_rfl) (h3_ : i < n := by omega) (hS_ : S_ w := by first | exact hXS _ hI | exact hXS _ hI.hd1 | exact hXS _ hI.d0 | exact hXS _ hI.d1 | exact hXS _ hI.d2 | exact hXS _ hI.d3 | exact hXS _ hI.d0.d0) : WT P N_ ops_ Q_ S_ T_ (f_ + 1) l_ ρ w := WT_take i_ (q1 h0_) (q1 (q2 h0_)) hB_ hS_ (q1 (q2 (q2 h0_))) (fun W_ hW_ => rIdx1 (q2 (q2 (q2 h0_))) ht h1_ (q1 h2_) (q2 h2_) h3_) K_
theorem rIdx0 {z : Int} (ho : o.op = .indexAddr t x y) (ht : P.underlying t = some (.slice e)) (hs : szB P e 1 = true) (hx : ev ρ x = .slice (some ⟨g, 0, none⟩) n c) (hy : ev ρ y = .int k z) (hz : z = (i : Int)) (hi : i < n) :
  Runs P ρ o w (.pointer (some ⟨g, i, none⟩)) := by
 have := rIdx1 (P := P) (w := w) ho ht hs hx (by rw [hy, hz]) hi
 rwa [Nat.zero_add] at this
theorem T6 {z : Int} (h0_ : @Eq _ (wantedR ops_ ρ o, o.dst, Nat.blt d_ N_, o.op) (true, some d_, true, .indexAddr t x y)) (ht : P.underlying t = some (.slice e)) (h2_ : @Eq _ (ev ρ x, ev ρ y, z) (.slice (some ⟨g, 0, none⟩) n c, .int k z, (i : Int))) (K_ : WL P N_ ops_ Q_ rest_ (upd ρ d_ (.pointer (some ⟨g, i, none⟩))) w) (h1_ : szB P e 1 = true := by kernel_rfl) (h3_ : i < n := by omega) : WL P N_ ops_ Q_ (o :: rest_) ρ w := WL_val (q1 h0_) (q1 (q2 h0_)) (q1 (q2 (q2 h0_))) (rIdx0 (q2 (q2 (q2 h0_))) ht h1_ (q1 h2_) (q1 (q2 h2_)) (q2 (q2 h2_)) h3_) K_
theorem Te (i_ : Nat) {z : Int} (h0_ : @Eq _ (ops_[i_]?, o.dst, wantedR ops_ ρ o, o.op) (some o, some d_, true, .indexAddr t x y)) (ht : P.underlying t = some (.slice e)) (h2_ : @Eq _ (ev ρ x, ev ρ y, z) (.slice (some ⟨g, 0, none⟩) n c, .int k z, (i : Int))) (K_ : WT P N_ ops_ Q_ S_ T_ f_ (l_.setIfInBounds i_ true) (upd ρ d_ (.pointer (some ⟨g, i, none⟩))) w) (hB_ : takeT ops_ T_ N_ l_ i_ d_ = true := by kernel_rfl) (h1_ : szB P e 1 = true := by kernel_rfl) (h3_ : i < n := by omega) (hS_ : S_ w := by first | exact hXS _ hI | exact hXS _ hI.hd1 | exact hXS _ hI.d0 | exact hXS _ hI.d1 | exact hXS _ hI.d2 | exact hXS _ hI.d3 | exact hXS _ hI.d0.d0) : WT P N_ ops_ Q_ S_ T_ (f_ + 1) l_ ρ w := WT_take i_ (q1 h0_) (q1 (q2 h0_)) hB_ hS_ (q1 (q2 (q2 h0_))) (fun W_ hW_ => rIdx0 (q2 (q2 (q2 h0_))) ht h1_ (q1 h2_) (q1 (q2 h2_)) (q2 (q2 h2_)) h3_) K_
theorem rLen (ho : o.op = .call { callee := .builtin .len, args := #[x], argTypes := #[t] }) (ht : P.underlying t = some (.slice e)) (hx : ev ρ x = .slice A n c) : Runs P ρ o w (.int .i64 (n : Int)) := by
 simp [Runs, execOp, ho, resolve, invoke, builtin, Builtin.len_, run_underlying ht, hx, goInt]
theorem Vo (h0_ : @Eq _ (wantedR ops_ ρ o, o.dst, Nat.blt d_ N_, o.op) (true, some d_, true, .call { callee := .builtin .len, args := #[x], argTypes := #[t] })) (ht : P.underlying t = some (.slice e)) (h1_ : ev ρ x = .slice A n c) (K_ : WL P N_ ops_ Q_ rest_ (upd ρ d_ (.int .i64 (n : Int))) w) : WL P N_ ops_ Q_ (o :: rest_) ρ w := WL_val (q1 h0_) (q1 (q2 h0_)) (q1 (q2 (q2 h0_))) (rLen (q2 (q2 (q2 h0_))) ht h1_) K_
theorem U2 (i_ : Nat) (h0_ : @Eq _ (ops_[i_]?, o.dst, wantedR ops_ ρ o, o.op) (some o, some d_, true, .call { callee := .builtin .len, args := #[x], argTypes := #[t] })) (ht : P.underlying t = some (.slice e)) (h1_ : ev ρ x = .slice A n c) (K_ : WT P N_ ops_ Q_ S_ T_ f_ (l_.setIfInBounds i_ true) (upd ρ d_ (.int .i64 (n : Int))) w) (hB_ : takeT ops_ T_ N_ l_ i_ d_ = true := by kernel_rfl) (hS_ : S_ w := by first | exact hXS _ hI | exact hXS _ hI.hd1 | exact hXS _ hI.d0 | exact hXS _ hI.d1 | exact hXS _ hI.d2 | exact hXS _ hI.d3 | exact hXS _ hI.d0.d0) : WT P N_ ops_ Q_ S_ T_ (f_ + 1) l_ ρ w := WT_take i_ (q1 h0_) (q1 (q2 h0_)) hB_ hS_ (q1 (q2 (q2 h0_))) (fun W_ hW_ => rLen (q2 (q2 (q2 h0_))) ht h1_) K_
theorem rLenStr {s : ByteArray} (ho : o.op = .call { callee := .builtin .len, args := #[x], argTypes := #[t] }) (ht : P.underlying t = some .string) (hx : ev ρ x = .string s) : Runs P ρ o w (.int .i64 (s.size : Int)) := by
 simp [Runs, execOp, ho, resolve, invoke, builtin, Builtin.len_, run_underlying ht, hx, goInt]
theorem rLd (ho : o.op = .load t x) (ht : plainB P t = true) (hx : ev ρ x = .pointer (some p)) (hc : w.cell? p = some v) : Runs P ρ o w v := by
 simp [Runs, execOp, ho, hx, Instr.loadAt, Instr.sureAddr, loadVar, run_isAgg_plain ht, hc]
theorem V6 (v : Value) (h0_ : @Eq _ (wantedR ops_ ρ o, o.dst, Nat.blt d_ N_, o.op, ev ρ x) (true, some d_, true, .load t x, .pointer (some p))) (hc : w.cell? p = some v) (K_ : WL P N_ ops_ Q_ rest_ (upd ρ d_ v) w) (h1_ : plainB P t = true := by kernel_rfl) : WL P N_ ops_ Q_ (o :: rest_) ρ w := WL_val (q1 h0_) (q1 (q2 h0_)) (q1 (q2 (q2 h0_))) (rLd (v := v) (q1 (q2 (q2 (q2 h0_)))) h1_ (q2 (q2 (q2 (q2 h0_)))) hc) K_
theorem V9 (i_ : Nat) (v : Value) (h0_ : @Eq _ (ops_[i_]?, o.dst, wantedR ops_ ρ o, o.op, ev ρ x) (some o, some d_, true, .load t x, .pointer (some p))) (hc : ∀ W_, S_ W_ → W_.cell? p = some v) (K_ : WT P N_ ops_ Q_ S_ T_ f_ (l_.setIfInBounds i_ true) (upd ρ d_ v) w) (hB_ : takeT ops_ T_ N_ l_ i_ d_ = true := by kernel_rfl) (h1_ : plainB P t = true := by kernel_rfl) (hS_ : S_ w := by first | exact hXS _ hI | exact hXS _ hI.hd1 | exact hXS _ hI.d0 | exact hXS _ hI.d1 | exact hXS _ hI.d2 | exact hXS _ hI.d3 | exact hXS _ hI.d0.d0) : WT P N_ ops_ Q_ S_ T_ (f_ + 1) l_ ρ w := WT_take i_ (q1 h0_) (q1 (q2 h0_)) hB_ hS_ (q1 (q2 (q2 h0_))) (fun W_ hW_ => rLd (v := v) (q1 (q2 (q2 (q2 h0_)))) h1_ (q2 (q2 (q2 (q2 h0_)))) (hc W_ hW_)) K_
theorem run_loadCellsFrom {b : Nat} {w : World} : ∀ (l : List Value) (j i : Nat) (acc : Array Value), (∀ k u, l[k]? = some u → w.cell? ⟨b, j + (i + k), none⟩ = some u) → (loadCellsFrom ⟨b, j, none⟩ i l.length acc).run P w = .ok (acc ++ l.toArray) w
 | [], j, i, acc, _ => by simp [loadCellsFrom]
 | u :: l, j, i, acc, h => by
  have h0 := h 0 u rfl
  have ih := run_loadCellsFrom l j (i + 1) (acc.push u) (fun k x hk => by have := h (k + 1) x hk; rwa [show i + 1 + k = i + (k + 1) by omega])
  simp only [Nat.add_zero] at h0
  simp [loadCellsFrom, Addr.add_lit, h0, ih]
theorem rLdA {l : List Value} (ho : o.op = .load t x) (ht : aggB P t = true) (hs : szB P t n = true) (hx : ev ρ x = .pointer (some ⟨b, j, none⟩)) (hn : l.length = n) (hc : ∀ k u, l[k]? = some u → w.cell? ⟨b, j + k, none⟩ = some u) : Runs P ρ o w (.agg l.toArray) := by
 have h1 := run_loadCellsFrom (P := P) (b := b) (w := w) l j 0 #[] (by simpa using hc)
 rw [hn] at h1
 simp [Runs, execOp, ho, hx, Instr.loadAt, Instr.sureAddr, loadVar, run_isAgg_agg ht, run_size hs, loadCells, h1]
theorem Ts (n : Nat) {l : List Value} (h0_ : @Eq _ (wantedR ops_ ρ o, o.dst, Nat.blt d_ N_, o.op, ev ρ x) (true, some d_, true, .load t x, .pointer (some ⟨b, j, none⟩))) (hn : l.length = n) (hc : ∀ k u, l[k]? = some u → w.cell? ⟨b, j + k, none⟩ = some u) (K_ : WL P N_ ops_ Q_ rest_ (upd ρ d_ (.agg l.toArray)) w) (h1_ : aggB P t = true := by kernel_rfl) (h2_ : szB P t n = true := by kernel_rfl) : WL P N_ ops_ Q_ (o :: rest_) ρ w := WL_val (q1 h0_) (q1 (q2 h0_)) (q1 (q2 (q2 h0_))) (rLdA (n := n) (q1 (q2 (q2 (q2 h0_)))) h1_ h2_ (q2 (q2 (q2 (q2 h0_)))) hn hc) K_
theorem Ug (i_ : Nat) (n : Nat) {l : List Value} (h0_ : @Eq _ (ops_[i_]?, o.dst, wantedR ops_ ρ o, o.op, ev ρ x) (some o, some d_, true, .load t x, .pointer (some ⟨b, j, none⟩))) (hn : l.length = n) (hc : ∀ W_, S_ W_ → ∀ k u, l[k]? = some u → W_.cell? ⟨b, j + k, none⟩ = some u) (K_ : WT P N_ ops_ Q_ S_ T_ f_ (l_.setIfInBounds i_ true) (upd ρ d_ (.agg l.toArray)) w) (hB_ : takeT ops_ T_ N_ l_ i_ d_ = true := by kernel_rfl) (h1_ : aggB P t = true := by kernel_rfl) (h2_ : szB P t n = true := by kernel_rfl) (hS_ : S_ w := by first | exact hXS _ hI | exact hXS _ hI.hd1 | exact hXS _ hI.d0 | exact hXS _ hI.d1 | exact hXS _ hI.d2 | exact hXS _ hI.d3 | exact hXS _ hI.d0.d0) : WT P N_ ops_ Q_ S_ T_ (f_ + 1) l_ ρ w := WT_take i_ (q1 h0_) (q1 (q2 h0_)) hB_ hS_ (q1 (q2 (q2 h0_))) (fun W_ hW_ => rLdA (n := n) (q1 (q2 (q2 (q2 h0_)))) h1_ h2_ (q2 (q2 (q2 (q2 h0_)))) hn (hc W_ hW_)) K_
theorem rLd3 {a0 a1 a2 : Value} (ho : o.op = .load t x) (ht : aggB P t = true) (hs : szB P t 3 = true) (hx : ev ρ x = .pointer (some ⟨b, j, none⟩)) (h0 : w.cell? ⟨b, j, none⟩ = some a0) (h1 : w.cell? ⟨b, j + 1, none⟩ = some a1) (h2 : w.cell? ⟨b, j + 2, none⟩ = some a2) : Runs P ρ o w (.agg #[a0, a1, a2]) :=
 rLdA (l := [a0, a1, a2]) ho ht hs hx rfl (fun k u hk => by match k, hk with | 0, hk => cases hk; exact h0 | 1, hk => cases hk; exact h1 | 2, hk => cases hk; exact h2)
theorem Up {a0 : Value} {a1 : Value} {a2 : Value} (h0_ : @Eq _ (wantedR ops_ ρ o, o.dst, Nat.blt d_ N_, o.op, ev ρ x) (true, some d_, true, .load t x, .pointer (some ⟨b, j, none⟩))) (h0 : w.cell? ⟨b, j, none⟩ = some a0) (h1 : w.cell? ⟨b, j + 1, none⟩ = some a1) (h2 : w.cell? ⟨b, j + 2, none⟩ = some a2) (K_ : WL P N_ ops_ Q_ rest_ (upd ρ d_ (.agg #[a0, a1, a2])) w) (h1_ : aggB P t = true := by kernel_rfl) (h2_ : szB P t 3 = true := by kernel_rfl) : WL P N_ ops_ Q_ (o :: rest_) ρ w := WL_val (q1 h0_) (q1 (q2 h0_)) (q1 (q2 (q2 h0_))) (rLd3 (q1 (q2 (q2 (q2 h0_)))) h1_ h2_ (q2 (q2 (q2 (q2 h0_)))) h0 h1 h2) K_
theorem rLdB (ho : o.op = .load t x) (ht : aggB P t = true) (hs : szB P t n = true) (hx : ev ρ x = .pointer (some ⟨b, 0, none⟩)) (hn : cs.size = n) (hc : Blk w b T cs) : Runs P ρ o w (.agg cs) := by
 have := rLdA (P := P) (w := w) (l := cs.toList) ho ht hs hx (by simpa using hn) (fun k u hk => by rw [Nat.zero_add, hc.cell]; simpa using hk)
 simpa using this
theorem Tt (n : Nat) (h0_ : @Eq _ (wantedR ops_ ρ o, o.dst, Nat.blt d_ N_, o.op, ev ρ x, cs.size) (true, some d_, true, .load t x, .pointer (some ⟨b, 0, none⟩), n)) (hc : Blk w b T cs) (K_ : WL P N_ ops_ Q_ rest_ (upd ρ d_ (.agg cs)) w) (h1_ : aggB P t = true := by kernel_rfl) (h2_ : szB P t n = true := by kernel_rfl) : WL P N_ ops_ Q_ (o :: rest_) ρ w := WL_val (q1 h0_) (q1 (q2 h0_)) (q1 (q2 (q2 h0_))) (rLdB (n := n) (q1 (q2 (q2 (q2 h0_)))) h1_ h2_ (q1 (q2 (q2 (q2 (q2 h0_))))) (q2 (q2 (q2 (q2 (q2 h0_))))) hc) K_
theorem Ul (i_ : Nat) (n : Nat) (h0_ : @Eq _ (ops_[i_]?, o.dst, wantedR ops_ ρ o, o.op, ev ρ x, cs.size) (some o, some d_, true, .load t x, .pointer (some ⟨b, 0, none⟩), n)) (hc : ∀ W_, S_ W_ → Blk W_ b T cs) (K_ : WT P N_ ops_ Q_ S_ T_ f_ (l_.setIfInBounds i_ true) (upd ρ d_ (.agg cs)) w) (hB_ : takeT ops_ T_ N_ l_ i_ d_ = true := by kernel_rfl) (h1_ : aggB P t = true := by kernel_rfl) (h2_ : szB P t n = true := by kernel_rfl) (hS_ : S_ w := by first | exact hXS _ hI | exact hXS _ hI.hd1 | exact hXS _ hI.d0 | exact hXS _ hI.d1 | exact hXS _ hI.d2 | exact hXS _ hI.d3 | exact hXS _ hI.d0.d0) : WT P N_ ops_ Q_ S_ T_ (f_ + 1) l_ ρ w := WT_take i_ (q1 h0_) (q1 (q2 h0_)) hB_ hS_ (q1 (q2 (q2 h0_))) (fun W_ hW_ => rLdB (n := n) (q1 (q2 (q2 (q2 h0_)))) h1_ h2_ (q1 (q2 (q2 (q2 (q2 h0_))))) (q2 (q2 (q2 (q2 (q2 h0_))))) (hc W_ hW_)) K_
theorem rCall {as : List Operand} {vs : List Value} (ho : o.op = .call { callee := .value (.func f), args := as.toArray, argTypes := ts }) (hf : P.funcs[f]? = some fn) (hn : (fn.name == "runtime.NumGoroutine") = false) (hb : fn.body.isNone = false) (hv : as.map (ev ρ) = vs) :
  (execOp (ev ρ) o).run P w = .ok (.enter f vs.toArray) w := by
 simp [execOp, ho, resolve, ev, Deferred.ofValue, invoke, callFunc, hf, hn, hb, hv, -Option.isNone_eq_false_iff, -Option.isNone_iff_eq_none, -beq_iff_eq]
theorem Vd {as : List Operand} (vs : List Value) (h0_ : @Eq _ (wantedR ops_ ρ o, o.dst, Nat.blt d_ N_, o.op) (true, some d_, true, .call { callee := .value (.func f), args := as.toArray, argTypes := ts })) (hf : P.funcs[f]? = some fn) (h1_ : @Eq _ ((fn.name == "runtime.NumGoroutine"), fn.body.isNone, as.map (ev ρ)) (false, false, vs)) (K_ : Calls P f vs.toArray w fun e_ w_ => ∃ v_, e_ = .returned v_ ∧ WL P N_ ops_ Q_ rest_ (upd ρ d_ v_) w_) : WL P N_ ops_ Q_ (o :: rest_) ρ w := WL_call (q1 h0_) (q1 (q2 h0_)) (q1 (q2 (q2 h0_))) (rCall (vs := vs) (q2 (q2 (q2 h0_))) hf (q1 h1_) (q1 (q2 h1_)) (q2 (q2 h1_))) K_
theorem rCallF {as : List Operand} {vs first cap : List Value} (ho : o.op = .call { callee := .value z, args := as.toArray, argTypes := ts }) (hz : ev ρ z = .func (.func f) first.toArray cap.toArray) (hf : P.funcs[f]? = some fn) (hn : (fn.name == "runtime.NumGoroutine") = false) (hb : fn.body.isNone = false) (hv : first ++ as.map (ev ρ) ++ cap = vs) :
  (execOp (ev ρ) o).run P w = .ok (.enter f vs.toArray) w := by
 simp [execOp, ho, resolve, hz, Deferred.ofValue, invoke, callFunc, hf, hn, hb, ← hv, -Option.isNone_eq_false_iff, -Option.isNone_iff_eq_none, -beq_iff_eq]
theorem Tx (f : FuncId) {as : List Operand} (vs : List Value) (first : List Value) (cap : List Value) (h0_ : @Eq _ (wantedR ops_ ρ o, o.dst, Nat.blt d_ N_, o.op, ev ρ z) (true, some d_, true, .call { callee := .value z, args := as.toArray, argTypes := ts }, .func (.func f) first.toArray cap.toArray)) (hf : P.funcs[f]? = some fn) (h1_ : @Eq _ ((fn.name == "runtime.NumGoroutine"), fn.body.isNone, first ++ as.map (ev ρ) ++ cap) (false, false, vs)) (K_ : Calls P f vs.toArray w fun e_ w_ => ∃ v_, e_ = .returned v_ ∧ WL P N_ ops_ Q_ rest_ (upd ρ d_ v_) w_) : WL P N_ ops_ Q_ (o :: rest_) ρ w := WL_call (q1 h0_) (q1 (q2 h0_)) (q1 (q2 (q2 h0_))) (rCallF (cap := cap) (f := f) (first := first) (vs := vs) (q1 (q2 (q2 (q2 h0_)))) (q2 (q2 (q2 (q2 h0_)))) hf (q1 h1_) (q1 (q2 h1_)) (q2 (q2 h1_))) K_
theorem Ue {as : List Operand} (vs : List Value) (first : List Value) (cap : List Value) (h0_ : @Eq _ (wantedR ops_ ρ o, o.dst, Nat.blt d_ N_, o.op, ev ρ z) (true, some d_, true, .call { callee := .value z, args := as.toArray, argTypes := ts }, .func (.func f) first.toArray cap.toArray)) (hf : P.funcs[f]? = some fn) (h1_ : @Eq _ ((fn.name == "runtime.NumGoroutine"), fn.body.isNone, first ++ as.map (ev ρ) ++ cap) (false, false, vs)) (K_ : Calls P f vs.toArray w fun e_ w_ => ∃ v_, e_ = .returned v_ ∧ WL P N_ ops_ Q_ rest_ (upd ρ d_ v_) w_) : WL P N_ ops_ Q_ (o :: rest_) ρ w := WL_call (q1 h0_) (q1 (q2 h0_)) (q1 (q2 (q2 h0_))) (rCallF (cap := cap) (first := first) (vs := vs) (q1 (q2 (q2 (q2 h0_)))) (q2 (q2 (q2 (q2 h0_)))) hf (q1 h1_) (q1 (q2 h1_)) (q2 (q2 h1_))) K_
theorem run_box (ho : o.op = .box t x) (hx : ev ρ x = u) : (execOp (ev ρ) o).run P w = .ok (.value (.pointer (some ⟨w.heap.size, 0, none⟩))) (w.alloc (.cells u.cells t)) := by
 simp [execOp, ho, hx, Instr.box, newVar, newRow]
theorem run_alloc (ho : o.op = .alloc t) (hz : (P.info? t).bind (·.zero) = some u) : (execOp (ev ρ) o).run P w = .ok (.value (.pointer (some ⟨w.heap.size, 0, none⟩))) (w.alloc (.cells u.cells t)) := by
 cases hi : P.info? t with
 | none => simp [hi] at hz
 | some i =>
  simp only [hi, Option.bind_some] at hz
  simp [execOp, ho, Instr.alloc, zeroValue, typeInfo, hi, hz, newVar, newRow]
end
open Go
section
variable {P : Program} {N : Nat} {ops : Array Oper} {Q : XPost} {rest : List Oper} {ρ : Env} {o : Oper} {w0 w w' : World} {S : Nat → Prop} {H : List Ent} {d g t tt : Nat} {cs : Array Value} {v : Value}
theorem WL_box (hI : Inv S w0 w H) (hw : wantedR ops ρ o = true) (hd : o.dst = some d) (hN : Nat.blt d N = true) (ho : o.op = .box t x) (hx : ev ρ x = u) (hu : u.cells = vs)
  (h : ∀ g w', Pure w w' → g = w.heap.size → Inv S w0 w' (B g t vs :: H) → WL P N ops Q rest (upd ρ d (.pointer (some ⟨g, 0, none⟩))) w') : WL P N ops Q (o :: rest) ρ w :=
 WL_eff hw hd hN (run_box ho hx) (h _ _ ((Pure.refl w).alloc _) rfl (hu ▸ hI.box t u.cells))
theorem Tq (u : Value) (vs : Array Value) (hI : Inv S w0 w H) (h0_ : @Eq _ (wantedR ops ρ o, o.dst, Nat.blt d N, o.op, ev ρ x, u.cells) (true, some d, true, .box t x, u, vs)) (h1_ : ∀ g w', Pure w w' → g = w.heap.size → Inv S w0 w' (B g t vs :: H) → WL P N ops Q rest (upd ρ d (.pointer (some ⟨g, 0, none⟩))) w') : WL P N ops Q (o :: rest) ρ w := WL_box (u := u) (vs := vs) hI (q1 h0_) (q1 (q2 h0_)) (q1 (q2 (q2 h0_))) (q1 (q2 (q2 (q2 h0_)))) (q1 (q2 (q2 (q2 (q2 h0_))))) (q2 (q2 (q2 (q2 (q2 h0_))))) h1_
theorem WL_alloc (hI : Inv S w0 w H) (hw : wantedR ops ρ o = true) (hd : o.dst = some d) (hN : Nat.blt d N = true) (ho : o.op = .alloc t) (hz : (P.info? t).bind (·.zero) = some u) (hu : u.cells = vs)
  (h : ∀ g w', Pure w w' → g = w.heap.size → Inv S w0 w' (B g t vs :: H) → WL P N ops Q rest (upd ρ d (.pointer (some ⟨g, 0, none⟩))) w') : WL P N ops Q (o :: rest) ρ w :=
 WL_eff hw hd hN (run_alloc ho hz) (h _ _ ((Pure.refl w).alloc _) rfl (hu ▸ hI.box t u.cells))
theorem Vz (u : Value) (vs : Array Value) (hI : Inv S w0 w H) (h0_ : @Eq _ (wantedR ops ρ o, o.dst, Nat.blt d N, o.op, u.cells) (true, some d, true, .alloc t, vs)) (h2_ : ∀ g w', Pure w w' → g = w.heap.size → Inv S w0 w' (B g t vs :: H) → WL P N ops Q rest (upd ρ d (.pointer (some ⟨g, 0, none⟩))) w') (h1_ : (P.info? t).bind (·.zero) = some u := by kernel_rfl) : WL P N ops Q (o :: rest) ρ w := WL_alloc (u := u) (vs := vs) hI (q1 h0_) (q1 (q2 h0_)) (q1 (q2 (q2 h0_))) (q1 (q2 (q2 (q2 h0_)))) h1_ (q2 (q2 (q2 (q2 h0_)))) h2_
theorem run_store (ho : o.op = .store tt x y) (hx : ev ρ x = .pointer (some ⟨g, j, none⟩)) (hy : ev ρ y = u) (hu : u.cells = vs) (hs : szB P tt n = true) (hn : vs.size = n)
  (hB : Blk w g t cs) (hj : j + n ≤ cs.size) (h1 : vs.toList.all (·.oneCell') = true) : (execOp (ev ρ) o).run P w = .ok .skip (w.setCells g j vs.toList) := by
 subst hu
 have hst := run_storeCells_cells (P := P) g j u.cells.toList 0 w (fun k hk => by
   rw [Nat.add_zero, hB.cell]
   have : j + k < cs.size := by simp at hk; omega
   simp [this]) (fun k hk => hB.frozen _) (fun v hv => List.all_eq_true.1 h1 v hv)
 simp only [Nat.add_zero] at hst
 simp [execOp, ho, hx, hy, Instr.storeAt, Instr.sureAddr, storeVar, run_size hs, hn, hst]
theorem splice_self (h : cs.size = vs.size) : splice cs 0 vs.toList = vs := by
 apply Array.ext'
 rw [splice_list _ _ _ (by simp [h])]
 simp [h]
theorem WL_stw (i : Nat) (hi : H[i]? = some (B g t cs)) (hI : Inv S w0 w H) (hw : wantedR ops ρ o = true) (hd : o.dst = none) (ho : o.op = .store tt x y) (hx : ev ρ x = .pointer (some ⟨g, 0, none⟩)) (hy : ev ρ y = u) (hu : u.cells = vs)
  (hs : szB P tt n = true) (hn : vs.size = n) (hcs : cs.size = n) (h1 : vs.toList.all (·.oneCell') = true) (h : ∀ w', Inv S w0 w' (H.set i (B g t vs)) → WL P N ops Q rest ρ w') : WL P N ops Q (o :: rest) ρ w := by
 have hB : Blk w g t cs := (hI.ok _ (gM_ hi)).1
 refine WL_store hw hd (run_store ho hx hy hu hs hn hB (by omega) h1) (h _ (hI.upd i hi (Chg.setCells (S := (B g t cs).D) (b := g) (.inl Z) _ _ (Chg.refl (B g t cs).D w)) (B.ok ?_) (fun _ hk => .inl hk)))
 have := hB.setCells vs.toList 0
 rwa [splice_self (by omega)] at this
theorem WL_st (i : Nat) (hi : H[i]? = some (B g t cs)) (hI : Inv S w0 w H) (hw : wantedR ops ρ o = true) (hd : o.dst = none) (ho : o.op = .store tt x y) (hx : ev ρ x = .pointer (some ⟨g, j, none⟩)) (hy : ev ρ y = u) (hu : u.cells = #[u])
  (hs : szB P tt 1 = true) (h1 : u.oneCell' = true) (hj : Nat.blt j cs.size = true) (hc : cs.setIfInBounds j u = cs') (h : ∀ w', Inv S w0 w' (H.set i (B g t cs')) → WL P N ops Q rest ρ w') : WL P N ops Q (o :: rest) ρ w := by
 have hB : Blk w g t cs := (hI.ok _ (gM_ hi)).1
 subst hc
 exact WL_store hw hd (run_store ho hx hy hu hs Z hB (Nat.le_of_ble_eq_true hj) (by simp [h1])) (h _ (hI.set i hi j u))
theorem rSliceFrom (ho : o.op = .slice t x (some y) none none) (ht : P.underlying t = some (.slice e)) (hs : szB P e sz = true) (hx : ev ρ x = .slice (some ⟨g, j, none⟩) n c) (hy : ev ρ y = .int k (i : Int)) (hi : i ≤ n) (hc : i < c) :
  Runs P ρ o w (.slice (some ⟨g, j + i * sz, none⟩) (n - i) (c - i)) := by
 have h1 : ¬ c = i := by omega
 simp [Runs, execOp, ho, hx, hy, Instr.sliceAt, Instr.slice, Instr.sliceBounds, Instr.sliceBound, asIntOf, run_underlying ht, run_size hs, hi, h1, Addr.add_lit]
theorem rSliceTo (ho : o.op = .slice t x none (some y) none) (ht : P.underlying t = some (.slice e)) (hs : szB P e sz = true) (hx : ev ρ x = .slice A n c) (hy : ev ρ y = .int k (i : Int)) (hi : i ≤ c) :
  Runs P ρ o w (.slice A i c) := by
 cases A with
 | none => simp [Runs, execOp, ho, hx, hy, Instr.sliceAt, Instr.slice, Instr.sliceBounds, Instr.sliceBound, asIntOf, run_underlying ht, run_size hs, hi]
 | some p =>
  have h0 : p.add 0 = p := by simp [Addr.add]
  simp [Runs, execOp, ho, hx, hy, Instr.sliceAt, Instr.slice, Instr.sliceBounds, Instr.sliceBound, asIntOf, run_underlying ht, run_size hs, hi, h0]
theorem retC {e : Exit} {a : Tmp} (he : e = .normal ∨ e = .ret) (hr : fn.results = #[.cell a t]) (ha : ρ a = .pointer (some ⟨g, 0, none⟩)) (ht : aggB P t = true) (hs : szB P t n = true) (hn : cs.size = n) (hb : Blk w g T cs) (h : R (.returned (.agg cs)) w) : retQ P fn R e ρ w := by
 have h1 := run_loadCellsFrom (P := P) (b := g) (w := w) cs.toList 0 0 #[] (fun k u hk => by rw [Nat.zero_add, Nat.zero_add, hb.cell]; simpa using hk)
 have hn' : cs.toList.length = n := by simpa using hn
 rw [hn'] at h1
 refine retQ_intro he fun b hb' => ⟨.agg cs, ?_, h⟩
 have h2 := hb'.get a
 rw [ha] at h2
 simp only [Array.getD_eq_getD_getElem?] at h2
 simp [results, hr, h2, asAddr, loadVar, run_isAgg_agg ht, run_size hs, loadCells, h1]
theorem WL_clear (hi : H[i]? = some (B g tt cs)) (hI : Inv S w0 w H) (hw : wantedR ops ρ o = true) (hd : o.dst = none) (ho : o.op = .call { callee := .builtin .clear, args := #[x], argTypes := #[t] }) (ht : P.underlying t = some (.slice e)) (hz : (P.info? e).bind (·.zero) = some z) (hz1 : z.cells = #[z]) (h1 : z.oneCell' = true)
  (hx : ev ρ x = .slice (some ⟨g, j, none⟩) n c) (hn : 0 < n) (hj : j + n ≤ cs.size) (h : ∀ w' cs', cs'.size = cs.size → (∀ k, k < j → cs'[k]? = cs[k]?) → Inv S w0 w' (H.set i (B g tt cs')) → WL P N ops Q rest ρ w') : WL P N ops Q (o :: rest) ρ w := by
 have hB : Blk w g tt cs := (hI.ok _ (gM_ hi)).1
 have hv : ∀ w, (zeroValue e).run P w = .ok z w := fun w => by
  cases hi : P.info? e with
  | none => simp [hi] at hz
  | some q => simp only [hi, Option.bind_some] at hz; simp [zeroValue, typeInfo, hi, hz]
 have hsz : z.cells.size = 1 := by rw [hz1]; rfl
 have hc : ∀ k, k < n * z.cells.size → (w.cell? ⟨g, j + k, none⟩).isSome = true := by
  intro k hk
  rw [hsz] at hk
  have hlt : j + k < cs.size := by omega
  rw [hB.cell]
  simp [hlt]
 have hr := run_clear_row (P := P) w t e o.type z ht hv (by rw [hz1]; simpa using h1) g j n c hn hc (fun k _ => hB.frozen _)
 have hlen : (Builtin.zeroCells z.cells n).toList.length = n := by simp [Builtin.zeroCells, hsz]
 refine WL_eff0 hw hd (v := .tuple #[]) (w' := w.setCells g j (Builtin.zeroCells z.cells n).toList) (by simp [execOp, ho, resolve, invoke, builtin, hx, hr]) (h _ (splice cs j (Builtin.zeroCells z.cells n).toList) (splice_size ..) (fun k hk => ?_) ?_)
 ·rw [splice_get _ _ _ _ (by omega), if_neg (by omega)]
 exact hI.upd i hi (Chg.setCells (S := (B g tt cs).D) (b := g) (.inl Z) _ _ (Chg.refl (B g tt cs).D w)) (B.ok (hB.setCells _ _)) (fun _ hk => .inl hk)
theorem WL_make {i : TypeInfo} (hI : Inv S w0 w H) (hw : wantedR ops ρ o = true) (hd : o.dst = some d) (hN : Nat.blt d N = true) (ho : o.op = .makeSlice t x y) (hx : ev ρ x = .int .i64 (n : Int)) (hy : ev ρ y = .int .i64 (n : Int))
  (ht : P.underlying t = some (.slice e)) (hi : P.info? e = some i) (hz : i.zero = some z) (hz1 : z.cells = #[z]) (hs : i.size = 1) (hb : i.bytes * n ≤ 281474976710656) (h63 : n ≤ 9223372036854775807)
  (h : ∀ g w', Pure w w' → g = w.heap.size → Inv S w0 w' (B g e (rep z n) :: H) → WL P N ops Q rest (upd ρ d (.slice (some ⟨g, 0, none⟩) n n)) w') : WL P N ops Q (o :: rest) ρ w := by
 have hr := run_make_rep (P := P) t e i z ht hi hz hz1 hs n hb h63 w
 exact WL_eff hw hd hN (by simp [execOp, ho, hx, hy, hr]) (h _ _ ((Pure.refl w).alloc _) Z (hI.box e (rep z n)))
theorem WL_mk (hI : Inv S w0 w H) (hw : wantedR ops ρ o = true) (hd : o.dst = some d) (hN : Nat.blt d N = true) (ho : o.op = .makeSlice t x y) (hx : ev ρ x = .int .i64 (n : Int)) (hy : ev ρ y = .int .i64 (n : Int))
  (ht : P.underlying t = some (.slice e)) (hi : (P.info? e).map (fun i => (i.zero, i.size, i.bytes)) = some (some z, 1, by_)) (hz1 : z.cells = #[z]) (hb : by_ * n ≤ 281474976710656) (h63 : n ≤ 9223372036854775807)
  (h : ∀ g w', Pure w w' → g = w.heap.size → Inv S w0 w' (B g e (rep z n) :: H) → WL P N ops Q rest (upd ρ d (.slice (some ⟨g, 0, none⟩) n n)) w') : WL P N ops Q (o :: rest) ρ w := by
 cases hp : P.info? e with
 | none => simp [hp] at hi
 | some i =>
  simp only [hp, Option.map_some, Option.some.injEq, Prod.mk.injEq] at hi
  obtain ⟨h1, h2, h3⟩ := hi
  exact WL_make hI hw hd hN ho hx hy ht hp h1 hz1 h2 (by rw [h3]; exact hb) h63 h
def putC (cs : List Value) (o : Nat) : List Value → List Value
 | [] => cs
 | u :: r => putC (cs.set o u) (o + 1) r
def putAll (cs : List Value) : List Nat → List (Nat × Value) → List Value
 | o :: os, (_, v) :: qs => putAll (putC cs o v.cells.toList) os qs
 | _, _ => cs
theorem WL_lit {qs : List (Nat × Value)} {vs : List Value} (zs : List Value) (os : List Nat) (hI : Inv S w0 w H) (hw : wantedR ops ρ o = true) (hd : o.dst = some d) (hN : Nat.blt d N = true) (ho : o.op = .buildSlice t n ps.toArray) (hq : (ps.map fun p => (p.1, ev ρ p.2)) = qs) (hv : putAll zs os qs = vs) (ht : P.underlying t = some (.slice e))
  (hr : ∀ w : World, (Instr.buildSlice t n qs.toArray).run P w = .ok (.slice (some ⟨w.heap.size, 0, none⟩) n n) (w.alloc (.cells vs.toArray e)))
  (h : ∀ g w', Pure w w' → g = w.heap.size → Inv S w0 w' (B g e vs.toArray :: H) → WL P N ops Q rest (upd ρ d (.slice (some ⟨g, 0, none⟩) n n)) w') : WL P N ops Q (o :: rest) ρ w := by
 subst hq
 refine WL_eff hw hd hN ?_ (h _ _ ((Pure.refl w).alloc _) Z (hI.box e vs.toArray))
 have := hr w
 simp only [execOp, ho]
 simp [this]
theorem T3 (qs : List (Nat × Value)) (vs : List Value) (zs : List Value) (os : List Nat) (hI : Inv S w0 w H) (h0_ : @Eq _ (wantedR ops ρ o, o.dst, Nat.blt d N, o.op, (ps.map fun p => (p.1, ev ρ p.2)), putAll zs os qs) (true, some d, true, .buildSlice t n ps.toArray, qs, vs)) (ht : P.underlying t = some (.slice e)) (hr : ∀ w : World, (Instr.buildSlice t n qs.toArray).run P w = .ok (.slice (some ⟨w.heap.size, 0, none⟩) n n) (w.alloc (.cells vs.toArray e))) (h1_ : ∀ g w', Pure w w' → g = w.heap.size → Inv S w0 w' (B g e vs.toArray :: H) → WL P N ops Q rest (upd ρ d (.slice (some ⟨g, 0, none⟩) n n)) w') : WL P N ops Q (o :: rest) ρ w := WL_lit (qs := qs) (vs := vs) zs os hI (q1 h0_) (q1 (q2 h0_)) (q1 (q2 (q2 h0_))) (q1 (q2 (q2 (q2 h0_)))) (q1 (q2 (q2 (q2 (q2 h0_))))) (q2 (q2 (q2 (q2 (q2 h0_))))) ht hr h1_
theorem rBuild {qs : List (Nat × Value)} {vs : List Value} (zs : List Value) (os : List Nat) (ho : o.op = .build t ps.toArray) (hq : (ps.map fun p => (p.1, ev ρ p.2)) = qs) (hv : putAll zs os qs = vs) (hr : ∀ w : World, (Instr.build t qs.toArray).run P w = .ok (.agg vs.toArray) w) : Runs P ρ o w (.agg vs.toArray) := by
 subst hq
 have := hr w
 simp only [Runs, execOp, ho]
 simp [this]
theorem Tc (qs : List (Nat × Value)) (vs : List Value) (h0_ : @Eq _ (wantedR ops_ ρ o, o.dst, Nat.blt d_ N_) (true, some d_, true)) (zs : List Value) (os : List Nat) (h1_ : @Eq _ (o.op, (ps.map fun p => (p.1, ev ρ p.2)), putAll zs os qs) (.build t ps.toArray, qs, vs)) (hr : ∀ w : World, (Instr.build t qs.toArray).run P w = .ok (.agg vs.toArray) w) (K_ : WL P N_ ops_ Q_ rest_ (upd ρ d_ (.agg vs.toArray)) w) : WL P N_ ops_ Q_ (o :: rest_) ρ w := WL_val (q1 h0_) (q1 (q2 h0_)) (q2 (q2 h0_)) (rBuild (qs := qs) (vs := vs) zs os (q1 h1_) (q1 (q2 h1_)) (q2 (q2 h1_)) hr) K_
theorem Inv.c0 (h : Inv S w0 w (B g t cs :: H)) (hc : cs[j]? = some v) : w.cell? ⟨g, j, none⟩ = some v := h.cell 0 rfl hc
theorem Inv.g0 {e : Ent} (h : Inv S w0 w (e :: H)) : e.Φ w := (h.ok e (gM_ (i := 0) rfl)).1
theorem Inv.s0 (h : Inv S w0 w (B g t cs :: H)) (j : Nat) (v : Value) : Inv S w0 (w.setCell ⟨g, j, none⟩ v) (B g t (cs.setIfInBounds j v) :: H) := h.set 0 rfl j v
theorem Inv.d0 {e : Ent} (h : Inv S w0 w (e :: H)) : Inv S w0 w (H) := h.erase 0
theorem Inv.u0 {e : Ent} (h : Inv S w0 w (e :: H)) (hc : Chg e.D w w') (ho : e'.ok w') (hD : ∀ k, e'.D k → e.D k ∨ w.heap.size ≤ k) : Inv S w0 w' (e' :: H) := h.upd 0 rfl hc ho hD
theorem WL_stw0 (hI : Inv S w0 w (B g t cs :: H)) (hw : wantedR ops ρ o = true) (hd : o.dst = none) (ho : o.op = .store tt x y) (hx : ev ρ x = .pointer (some ⟨g, 0, none⟩)) (hy : ev ρ y = u) (hu : u.cells = vs) (hs : szB P tt n = true) (hn : vs.size = n) (hcs : cs.size = n) (h1 : vs.toList.all (·.oneCell') = true) (h : ∀ w', Inv S w0 w' (B g t vs :: H) → WL P N ops Q rest ρ w') : WL P N ops Q (o :: rest) ρ w := WL_stw 0 rfl hI hw hd ho hx hy hu hs hn hcs h1 h
theorem T2 (n : Nat) (vs : Array Value) (u : Value) (hI : Inv S w0 w (B g t cs :: H)) (h0_ : @Eq _ (wantedR ops ρ o, o.dst, o.op, ev ρ x, ev ρ y, u.cells, vs.size, cs.size, vs.toList.all (·.oneCell')) (true, none, .store tt x y, .pointer (some ⟨g, 0, none⟩), u, vs, n, n, true)) (h2_ : ∀ w', Inv S w0 w' (B g t vs :: H) → WL P N ops Q rest ρ w') (h1_ : szB P tt n = true := by kernel_rfl) : WL P N ops Q (o :: rest) ρ w := WL_stw0 (n := n) (u := u) (vs := vs) hI (q1 h0_) (q1 (q2 h0_)) (q1 (q2 (q2 h0_))) (q1 (q2 (q2 (q2 h0_)))) (q1 (q2 (q2 (q2 (q2 h0_))))) (q1 (q2 (q2 (q2 (q2 (q2 h0_)))))) h1_ (q1 (q2 (q2 (q2 (q2 (q2 (q2 h0_))))))) (q1 (q2 (q2 (q2 (q2 (q2 (q2 (q2 h0_)))))))) (q2 (q2 (q2 (q2 (q2 (q2 (q2 (q2 h0_)))))))) h2_
theorem WL_st0 (hI : Inv S w0 w (B g t cs :: H)) (hw : wantedR ops ρ o = true) (hd : o.dst = none) (ho : o.op = .store tt x y) (hx : ev ρ x = .pointer (some ⟨g, j, none⟩)) (hy : ev ρ y = u) (hu : u.cells = #[u]) (hs : szB P tt 1 = true) (h1 : u.oneCell' = true) (hj : Nat.blt j cs.size = true) (hc : cs.setIfInBounds j u = cs') (h : ∀ w', Inv S w0 w' (B g t cs' :: H) → WL P N ops Q rest ρ w') : WL P N ops Q (o :: rest) ρ w := WL_st 0 rfl hI hw hd ho hx hy hu hs h1 hj hc h
theorem Inv.c1 (h : Inv S w0 w (e0 :: B g t cs :: H)) (hc : cs[j]? = some v) : w.cell? ⟨g, j, none⟩ = some v := h.cell 1 rfl hc
theorem Inv.g1 {e : Ent} (h : Inv S w0 w (e0 :: e :: H)) : e.Φ w := (h.ok e (gM_ (i := 1) rfl)).1
theorem Inv.d1 {e : Ent} (h : Inv S w0 w (e0 :: e :: H)) : Inv S w0 w (e0 :: H) := h.erase 1
theorem Inv.u1 {e : Ent} (h : Inv S w0 w (e0 :: e :: H)) (hc : Chg e.D w w') (ho : e'.ok w') (hD : ∀ k, e'.D k → e.D k ∨ w.heap.size ≤ k) : Inv S w0 w' (e0 :: e' :: H) := h.upd 1 rfl hc ho hD
theorem WL_stw1 (hI : Inv S w0 w (e0 :: B g t cs :: H)) (hw : wantedR ops ρ o = true) (hd : o.dst = none) (ho : o.op = .store tt x y) (hx : ev ρ x = .pointer (some ⟨g, 0, none⟩)) (hy : ev ρ y = u) (hu : u.cells = vs) (hs : szB P tt n = true) (hn : vs.size = n) (hcs : cs.size = n) (h1 : vs.toList.all (·.oneCell') = true) (h : ∀ w', Inv S w0 w' (e0 :: B g t vs :: H) → WL P N ops Q rest ρ w') : WL P N ops Q (o :: rest) ρ w := WL_stw 1 rfl hI hw hd ho hx hy hu hs hn hcs h1 h
theorem Ui (n : Nat) (vs : Array Value) (u : Value) (hI : Inv S w0 w (e0 :: B g t cs :: H)) (h0_ : @Eq _ (wantedR ops ρ o, o.dst, o.op, ev ρ x, ev ρ y, u.cells, vs.size, cs.size, vs.toList.all (·.oneCell')) (true, none, .store tt x y, .pointer (some ⟨g, 0, none⟩), u, vs, n, n, true)) (h2_ : ∀ w', Inv S w0 w' (e0 :: B g t vs :: H) → WL P N ops Q rest ρ w') (h1_ : szB P tt n = true := by kernel_rfl) : WL P N ops Q (o :: rest) ρ w := WL_stw1 (n := n) (u := u) (vs := vs) hI (q1 h0_) (q1 (q2 h0_)) (q1 (q2 (q2 h0_))) (q1 (q2 (q2 (q2 h0_)))) (q1 (q2 (q2 (q2 (q2 h0_))))) (q1 (q2 (q2 (q2 (q2 (q2 h0_)))))) h1_ (q1 (q2 (q2 (q2 (q2 (q2 (q2 h0_))))))) (q1 (q2 (q2 (q2 (q2 (q2 (q2 (q2 h0_)))))))) (q2 (q2 (q2 (q2 (q2 (q2 (q2 (q2 h0_)))))))) h2_
theorem WL_st1 (hI : Inv S w0 w (e0 :: B g t cs :: H)) (hw : wantedR ops ρ o = true) (hd : o.dst = none) (ho : o.op = .store tt x y) (hx : ev ρ x = .pointer (some ⟨g, j, none⟩)) (hy : ev ρ y = u) (hu : u.cells = #[u]) (hs : szB P tt 1 = true) (h1 : u.oneCell' = true) (hj : Nat.blt j cs.size = true) (hc : cs.setIfInBounds j u = cs') (h : ∀ w', Inv S w0 w' (e0 :: B g t cs' :: H) → WL P N ops Q rest ρ w') : WL P N ops Q (o :: rest) ρ w := WL_st 1 rfl hI hw hd ho hx hy hu hs h1 hj hc h
theorem Inv.c2 (h : Inv S w0 w (e0 :: e1 :: B g t cs :: H)) (hc : cs[j]? = some v) : w.cell? ⟨g, j, none⟩ = some v := h.cell 2 rfl hc
theorem Inv.g2 {e : Ent} (h : Inv S w0 w (e0 :: e1 :: e :: H)) : e.Φ w := (h.ok e (gM_ (i := 2) rfl)).1
theorem Inv.s2 (h : Inv S w0 w (e0 :: e1 :: B g t cs :: H)) (j : Nat) (v : Value) : Inv S w0 (w.setCell ⟨g, j, none⟩ v) (e0 :: e1 :: B g t (cs.setIfInBounds j v) :: H) := h.set 2 rfl j v
theorem Inv.f2 (h : Inv S w0 w (e0 :: e1 :: B g t cs :: H)) (j : Nat) : w.frozen? ⟨g, j, none⟩ = false := ((h.ok (B g t cs) (gM_ (i := 2) rfl)).1 : Blk w g t cs).frozen j
theorem Inv.d2 {e : Ent} (h : Inv S w0 w (e0 :: e1 :: e :: H)) : Inv S w0 w (e0 :: e1 :: H) := h.erase 2
theorem Inv.u2 {e : Ent} (h : Inv S w0 w (e0 :: e1 :: e :: H)) (hc : Chg e.D w w') (ho : e'.ok w') (hD : ∀ k, e'.D k → e.D k ∨ w.heap.size ≤ k) : Inv S w0 w' (e0 :: e1 :: e' :: H) := h.upd 2 rfl hc ho hD
theorem WL_stw2 (hI : Inv S w0 w (e0 :: e1 :: B g t cs :: H)) (hw : wantedR ops ρ o = true) (hd : o.dst = none) (ho : o.op = .store tt x y) (hx : ev ρ x = .pointer (some ⟨g, 0, none⟩)) (hy : ev ρ y = u) (hu : u.cells = vs) (hs : szB P tt n = true) (hn : vs.size = n) (hcs : cs.size = n) (h1 : vs.toList.all (·.oneCell') = true) (h : ∀ w', Inv S w0 w' (e0 :: e1 :: B g t vs :: H) → WL P N ops Q rest ρ w') : WL P N ops Q (o :: rest) ρ w := WL_stw 2 rfl hI hw hd ho hx hy hu hs hn hcs h1 h
theorem WL_st2 (hI : Inv S w0 w (e0 :: e1 :: B g t cs :: H)) (hw : wantedR ops ρ o = true) (hd : o.dst = none) (ho : o.op = .store tt x y) (hx : ev ρ x = .pointer (some ⟨g, j, none⟩)) (hy : ev ρ y = u) (hu : u.cells = #[u]) (hs : szB P tt 1 = true) (h1 : u.oneCell' = true) (hj : Nat.blt j cs.size = true) (hc : cs.setIfInBounds j u = cs') (h : ∀ w', Inv S w0 w' (e0 :: e1 :: B g t cs' :: H) → WL P N ops Q rest ρ w') : WL P N ops Q (o :: rest) ρ w := WL_st 2 rfl hI hw hd ho hx hy hu hs h1 hj hc h
theorem Inv.c3 (h : Inv S w0 w (e0 :: e1 :: e2 :: B g t cs :: H)) (hc : cs[j]? = some v) : w.cell? ⟨g, j, none⟩ = some v := h.cell 3 rfl hc
theorem Inv.g3 {e : Ent} (h : Inv S w0 w (e0 :: e1 :: e2 :: e :: H)) : e.Φ w := (h.ok e (gM_ (i := 3) rfl)).1
theorem Inv.d3 {e : Ent} (h : Inv S w0 w (e0 :: e1 :: e2 :: e :: H)) : Inv S w0 w (e0 :: e1 :: e2 :: H) := h.erase 3
theorem Inv.u3 {e : Ent} (h : Inv S w0 w (e0 :: e1 :: e2 :: e :: H)) (hc : Chg e.D w w') (ho : e'.ok w') (hD : ∀ k, e'.D k → e.D k ∨ w.heap.size ≤ k) : Inv S w0 w' (e0 :: e1 :: e2 :: e' :: H) := h.upd 3 rfl hc ho hD
theorem Inv.c4 (h : Inv S w0 w (e0 :: e1 :: e2 :: e3 :: B g t cs :: H)) (hc : cs[j]? = some v) : w.cell? ⟨g, j, none⟩ = some v := h.cell 4 rfl hc
theorem Inv.g4 {e : Ent} (h : Inv S w0 w (e0 :: e1 :: e2 :: e3 :: e :: H)) : e.Φ w := (h.ok e (gM_ (i := 4) rfl)).1
theorem Inv.d4 {e : Ent} (h : Inv S w0 w (e0 :: e1 :: e2 :: e3 :: e :: H)) : Inv S w0 w (e0 :: e1 :: e2 :: e3 :: H) := h.erase 4
theorem WL_stw4 (hI : Inv S w0 w (e0 :: e1 :: e2 :: e3 :: B g t cs :: H)) (hw : wantedR ops ρ o = true) (hd : o.dst = none) (ho : o.op = .store tt x y) (hx : ev ρ x = .pointer (some ⟨g, 0, none⟩)) (hy : ev ρ y = u) (hu : u.cells = vs) (hs : szB P tt n = true) (hn : vs.size = n) (hcs : cs.size = n) (h1 : vs.toList.all (·.oneCell') = true) (h : ∀ w', Inv S w0 w' (e0 :: e1 :: e2 :: e3 :: B g t vs :: H) → WL P N ops Q rest ρ w') : WL P N ops Q (o :: rest) ρ w := WL_stw 4 rfl hI hw hd ho hx hy hu hs hn hcs h1 h
theorem Inv.c5 (h : Inv S w0 w (e0 :: e1 :: e2 :: e3 :: e4 :: B g t cs :: H)) (hc : cs[j]? = some v) : w.cell? ⟨g, j, none⟩ = some v := h.cell 5 rfl hc
theorem Inv.g5 {e : Ent} (h : Inv S w0 w (e0 :: e1 :: e2 :: e3 :: e4 :: e :: H)) : e.Φ w := (h.ok e (gM_ (i := 5) rfl)).1
theorem Inv.d5 {e : Ent} (h : Inv S w0 w (e0 :: e1 :: e2 :: e3 :: e4 :: e :: H)) : Inv S w0 w (e0 :: e1 :: e2 :: e3 :: e4 :: H) := h.erase 5
theorem WL_stw5 (hI : Inv S w0 w (e0 :: e1 :: e2 :: e3 :: e4 :: B g t cs :: H)) (hw : wantedR ops ρ o = true) (hd : o.dst = none) (ho : o.op = .store tt x y) (hx : ev ρ x = .pointer (some ⟨g, 0, none⟩)) (hy : ev ρ y = u) (hu : u.cells = vs) (hs : szB P tt n = true) (hn : vs.size = n) (hcs : cs.size = n) (h1 : vs.toList.all (·.oneCell') = true) (h : ∀ w', Inv S w0 w' (e0 :: e1 :: e2 :: e3 :: e4 :: B g t vs :: H) → WL P N ops Q rest ρ w') : WL P N ops Q (o :: rest) ρ w := WL_stw 5 rfl hI hw hd ho hx hy hu hs hn hcs h1 h
theorem Inv.c6 (h : Inv S w0 w (e0 :: e1 :: e2 :: e3 :: e4 :: e5 :: B g t cs :: H)) (hc : cs[j]? = some v) : w.cell? ⟨g, j, none⟩ = some v := h.cell 6 rfl hc
theorem Inv.g6 {e : Ent} (h : Inv S w0 w (e0 :: e1 :: e2 :: e3 :: e4 :: e5 :: e :: H)) : e.Φ w := (h.ok e (gM_ (i := 6) rfl)).1
theorem Inv.d6 {e : Ent} (h : Inv S w0 w (e0 :: e1 :: e2 :: e3 :: e4 :: e5 :: e :: H)) : Inv S w0 w (e0 :: e1 :: e2 :: e3 :: e4 :: e5 :: H) := h.erase 6
theorem WL_stw6 (hI : Inv S w0 w (e0 :: e1 :: e2 :: e3 :: e4 :: e5 :: B g t cs :: H)) (hw : wantedR ops ρ o = true) (hd : o.dst = none) (ho : o.op = .store tt x y) (hx : ev ρ x = .pointer (some ⟨g, 0, none⟩)) (hy : ev ρ y = u) (hu : u.cells = vs) (hs : szB P tt n = true) (hn : vs.size = n) (hcs : cs.size = n) (h1 : vs.toList.all (·.oneCell') = true) (h : ∀ w', Inv S w0 w' (e0 :: e1 :: e2 :: e3 :: e4 :: e5 :: B g t vs :: H) → WL P N ops Q rest ρ w') : WL P N ops Q (o :: rest) ρ w := WL_stw 6 rfl hI hw hd ho hx hy hu hs hn hcs h1 h
theorem Inv.c8 {e6 e7 : Ent} (h : Inv S w0 w (e0 :: e1 :: e2 :: e3 :: e4 :: e5 :: e6 :: e7 :: B g t cs :: H)) (hc : cs[j]? = some v) : w.cell? ⟨g, j, none⟩ = some v := h.cell 8 rfl hc
theorem Wi {fuel : Nat} {listed : Array Bool} {T : List Nat} (hI : Inv S w0 w H) (h : ∀ Sx : World → Prop, (∀ W, Sx W → Inv S w0 W H) → (∀ W, Inv S w0 W H → Sx W) → WT P N ops Q Sx T fuel listed ρ w) : WA P N ops Q fuel listed ρ w :=
 WA_T (fun W => Inv S w0 W H) T (h _ (fun _ h => h) (fun _ h => h))
theorem upd_self (h : ρ d = v) : ρ = upd ρ d v := by
 funext i
 unfold upd
 cases hb : Nat.beq i d with
 | false => rfl
 | true => rw [Nat.eq_of_beq_eq_true hb]; exact h
end
theorem Inv.own1 (h : Blk w g t cs) : Inv (fun k => k = g) w w [B g t cs] :=
 ⟨Chg.refl _ w, fun e he => by rcases List.mem_singleton.1 he with rfl; exact B.ok h, fun e he k hk => by rcases List.mem_singleton.1 he with rfl; exact .inl hk, List.pairwise_singleton ..⟩
def Has (ρ : Env) : List (Nat × Value) → Prop
 | [] => True
 | p :: l => ρ p.1 = p.2 ∧ Has ρ l
def upds (σ : Env) : List (Nat × Value) → Env
 | [] => σ
 | p :: l => upd (upds σ l) p.1 p.2
theorem Has.self {ρ : Env} : ∀ {l : List (Nat × Value)}, Has ρ l → upds ρ l = ρ
 | [], _ => rfl
 | p :: l, h => by
  show upd (upds ρ l) p.1 p.2 = ρ
  rw [Has.self h.2]
  exact (upd_self h.1).symm
theorem Has.open {l : List (Nat × Value)} (h : Has ρ l) : ∃ σ, ρ = upds σ l := ⟨ρ, h.self.symm⟩
theorem Yc {P : Program} {ρ : Env} {w : World} {o : Oper} {x : Operand} {n : Int} {g j : Nat} {TT : TypeId} {cs : Array Value} {S : Nat → Prop} {w0 : World} {H : List Ent} {N_ d_ : Nat} {ops_ : Array Oper} {Q_ : XPost} {rest_ : List Oper} {t : Nat} (hI : Inv S w0 w (B g TT cs :: H)) (h0_ : @Eq _ (wantedR ops_ ρ o, o.dst, Nat.blt d_ N_, o.op, ev ρ x) (true, some d_, true, .load t x, .pointer (some ⟨g, j, none⟩))) (hc : cs[j]? = some (.int .i64 n)) (K_ : WL P N_ ops_ Q_ rest_ (upd ρ d_ (.int .i64 n)) w) (h1_ : plainB P t = true := by kernel_rfl) : WL P N_ ops_ Q_ (o :: rest_) ρ w := V6 (.int .i64 n) h0_ (hI.c0 hc) K_ h1_
theorem Yd {P : Program} {ρ : Env} {w : World} {o : Oper} {x : Operand} {n : Int} {g j : Nat} {TT : TypeId} {cs : Array Value} {S : Nat → Prop} {w0 : World} {H : List Ent} {e0 : Ent} {N_ d_ : Nat} {ops_ : Array Oper} {Q_ : XPost} {rest_ : List Oper} {t : Nat} (hI : Inv S w0 w (e0 :: B g TT cs :: H)) (h0_ : @Eq _ (wantedR ops_ ρ o, o.dst, Nat.blt d_ N_, o.op, ev ρ x) (true, some d_, true, .load t x, .pointer (some ⟨g, j, none⟩))) (hc : cs[j]? = some (.int .i64 n)) (K_ : WL P N_ ops_ Q_ rest_ (upd ρ d_ (.int .i64 n)) w) (h1_ : plainB P t = true := by kernel_rfl) : WL P N_ ops_ Q_ (o :: rest_) ρ w := V6 (.int .i64 n) h0_ (hI.c1 hc) K_ h1_
theorem Yo {K : World → Prop} {w0 : World} {H : List Ent} {p : Addr} {v : Value} (h : ∀ W, K W → Inv NF w0 W H) (hv : w0.cell? p = some v) : ∀ W, K W → W.cell? p = some v := fun W hW => (h W hW).oldp hv
theorem Ye {P : Program} {ρ : Env} {w : World} {o : Oper} {x : Operand} (i_ : Nat) {n : Int} {g j : Nat} {TT : TypeId} {cs : Array Value} {S : Nat → Prop} {w0 : World} {H : List Ent} (hY : ∀ W, S_ W → Inv S w0 W (B g TT cs :: H)) {t : Nat} (h0_ : @Eq _ (ops_[i_]?, o.dst, wantedR ops_ ρ o, o.op, ev ρ x) (some o, some d_, true, .load t x, .pointer (some ⟨g, j, none⟩))) (hc : cs[j]? = some (.int .i64 n)) (K_ : WT P N_ ops_ Q_ S_ T_ f_ (l_.setIfInBounds i_ true) (upd ρ d_ (.int .i64 n)) w) (hB_ : takeT ops_ T_ N_ l_ i_ d_ = true := by kernel_rfl) (h1_ : plainB P t = true := by kernel_rfl) (hS_ : S_ w := by first | exact hXS _ hI | exact hXS _ hI.hd1 | exact hXS _ hI.d0 | exact hXS _ hI.d1 | exact hXS _ hI.d2 | exact hXS _ hI.d3 | exact hXS _ hI.d0.d0) : WT P N_ ops_ Q_ S_ T_ (f_ + 1) l_ ρ w := V9 i_ (.int .i64 n) h0_ (fun W hW => (hY W hW).c0 hc) K_ (hB_ := hB_) (h1_ := h1_) (hS_ := hS_)
theorem Yi {id : Nat} {P : Program} {N : Nat} {ops : Array Oper} {Q : XPost} {ρ : Env} {w w0 : World} {S : Nat → Prop} {H : List Ent} (hI : Inv S w0 w H) (h : ∀ Sx : World → Prop, (∀ W, Sx W → Inv S w0 W H) → (∀ W, Inv S w0 W H → Sx W) → Inv S w0 w.drew H → WT P N ops Q Sx [] ops.size (Array.replicate ops.size false) ρ w.drew) (hm : P.follows .mixedOrders = true := by kernel_rfl) : W P N (.region id ops true) Q ρ w := Wd hm (Wi hI.drew fun Sx a b => h Sx a b hI.drew)
theorem Yj {id : Nat} {P : Program} {N : Nat} {ops : Array Oper} {Q : XPost} {ρ : Env} {w w0 : World} {S : Nat → Prop} {H : List Ent} (T : List Nat) (hI : Inv S w0 w H) (h : ∀ Sx : World → Prop, (∀ W, Sx W → Inv S w0 W H) → (∀ W, Inv S w0 W H → Sx W) → Inv S w0 w.drew H → WT P N ops Q Sx T ops.size (Array.replicate ops.size false) ρ w.drew) (hm : P.follows .mixedOrders = true := by kernel_rfl) : W P N (.region id ops true) Q ρ w := Wd hm (Wi (T := T) hI.drew fun Sx a b => h Sx a b hI.drew)
theorem Yz {P : Program} {N : Nat} {ops : Array Oper} {Q : XPost} {ρ : Env} {w : World} {S : World → Prop} {T : List Nat} {fuel : Nat} {listed : Array Bool} (h : Q .normal ρ w) (hr : Region.ready .any ops listed = [] := by kernel_rfl) : WT P N ops Q S T fuel listed ρ w := We hr h
theorem Yt {P : Program} {N : Nat} {ops : Array Oper} {Q : XPost} {ρ : Env} {w : World} {c : Operand} {x y : Code} (hc : ev ρ c = .bool true) (h : W P N (cond true x y) Q ρ w) : WL P N ops (thenQ (fun ρ w => W P N (.cond c x y) Q ρ w) Q) [] ρ w := Wn (Wc true hc h)
theorem Yf {P : Program} {N : Nat} {ops : Array Oper} {Q : XPost} {ρ : Env} {w : World} {c : Operand} {x y : Code} (hc : ev ρ c = .bool false) (h : W P N (cond false x y) Q ρ w) : WL P N ops (thenQ (fun ρ w => W P N (.cond c x y) Q ρ w) Q) [] ρ w := Wn (Wc false hc h)
theorem Yu {P : Program} {N : Nat} {ops : Array Oper} {Q : XPost} {ρ : Env} {w : World} {c : Operand} {x y z : Code} (hc : ev ρ c = .bool true) (h : W P N (cond true x y) (thenQ (fun ρ w => W P N z Q ρ w) Q) ρ w) : WL P N ops (thenQ (fun ρ w => W P N (.seq (.cond c x y) z) Q ρ w) Q) [] ρ w := Wn (Ws (Wc true hc h))
theorem Yg {P : Program} {N : Nat} {ops : Array Oper} {Q : XPost} {ρ : Env} {w : World} {c : Operand} {x y z : Code} (hc : ev ρ c = .bool false) (h : W P N (cond false x y) (thenQ (fun ρ w => W P N z Q ρ w) Q) ρ w) : WL P N ops (thenQ (fun ρ w => W P N (.seq (.cond c x y) z) Q ρ w) Q) [] ρ w := Wn (Ws (Wc false hc h))
theorem g1_ {ρ : Env} {a0 : Nat} : Has ρ [(a0, ρ a0)] := ⟨rfl, trivial⟩
theorem g2_ {ρ : Env} {a0 a1 : Nat} : Has ρ [(a0, ρ a0), (a1, ρ a1)] := ⟨rfl, g1_⟩
theorem g3_ {ρ : Env} {a0 a1 a2 : Nat} : Has ρ [(a0, ρ a0), (a1, ρ a1), (a2, ρ a2)] := ⟨rfl, g2_⟩
theorem g4_ {ρ : Env} {a0 a1 a2 a3 : Nat} : Has ρ [(a0, ρ a0), (a1, ρ a1), (a2, ρ a2), (a3, ρ a3)] := ⟨rfl, g3_⟩
theorem g5_ {ρ : Env} {a0 a1 a2 a3 a4 : Nat} : Has ρ [(a0, ρ a0), (a1, ρ a1), (a2, ρ a2), (a3, ρ a3), (a4, ρ a4)] := ⟨rfl, g4_⟩
theorem g6_ {ρ : Env} {a0 a1 a2 a3 a4 a5 : Nat} : Has ρ [(a0, ρ a0), (a1, ρ a1), (a2, ρ a2), (a3, ρ a3), (a4, ρ a4), (a5, ρ a5)] := ⟨rfl, g5_⟩
theorem g7_ {ρ : Env} {a0 a1 a2 a3 a4 a5 a6 : Nat} : Has ρ [(a0, ρ a0), (a1, ρ a1), (a2, ρ a2), (a3, ρ a3), (a4, ρ a4), (a5, ρ a5), (a6, ρ a6)] := ⟨rfl, g6_⟩
theorem g8_ {ρ : Env} {a0 a1 a2 a3 a4 a5 a6 a7 : Nat} : Has ρ [(a0, ρ a0), (a1, ρ a1), (a2, ρ a2), (a3, ρ a3), (a4, ρ a4), (a5, ρ a5), (a6, ρ a6), (a7, ρ a7)] := ⟨rfl, g7_⟩
theorem g9_ {ρ : Env} {a0 a1 a2 a3 a4 a5 a6 a7 a8 : Nat} : Has ρ [(a0, ρ a0), (a1, ρ a1), (a2, ρ a2), (a3, ρ a3), (a4, ρ a4), (a5, ρ a5), (a6, ρ a6), (a7, ρ a7), (a8, ρ a8)] := ⟨rfl, g8_⟩
theorem g10_ {ρ : Env} {a0 a1 a2 a3 a4 a5 a6 a7 a8 a9 : Nat} : Has ρ [(a0, ρ a0), (a1, ρ a1), (a2, ρ a2), (a3, ρ a3), (a4, ρ a4), (a5, ρ a5), (a6, ρ a6), (a7, ρ a7), (a8, ρ a8), (a9, ρ a9)] := ⟨rfl, g9_⟩
theorem g11_ {ρ : Env} {a0 a1 a2 a3 a4 a5 a6 a7 a8 a9 a10 : Nat} : Has ρ [(a0, ρ a0), (a1, ρ a1), (a2, ρ a2), (a3, ρ a3), (a4, ρ a4), (a5, ρ a5), (a6, ρ a6), (a7, ρ a7), (a8, ρ a8), (a9, ρ a9), (a10, ρ a10)] := ⟨rfl, g10_⟩
theorem g12_ {ρ : Env} {a0 a1 a2 a3 a4 a5 a6 a7 a8 a9 a10 a11 : Nat} : Has ρ [(a0, ρ a0), (a1, ρ a1), (a2, ρ a2), (a3, ρ a3), (a4, ρ a4), (a5, ρ a5), (a6, ρ a6), (a7, ρ a7), (a8, ρ a8), (a9, ρ a9), (a10, ρ a10), (a11, ρ a11)] := ⟨rfl, g11_⟩
theorem g13_ {ρ : Env} {a0 a1 a2 a3 a4 a5 a6 a7 a8 a9 a10 a11 a12 : Nat} : Has ρ [(a0, ρ a0), (a1, ρ a1), (a2, ρ a2), (a3, ρ a3), (a4, ρ a4), (a5, ρ a5), (a6, ρ a6), (a7, ρ a7), (a8, ρ a8), (a9, ρ a9), (a10, ρ a10), (a11, ρ a11), (a12, ρ a12)] := ⟨rfl, g12_⟩
theorem g14_ {ρ : Env} {a0 a1 a2 a3 a4 a5 a6 a7 a8 a9 a10 a11 a12 a13 : Nat} : Has ρ [(a0, ρ a0), (a1, ρ a1), (a2, ρ a2), (a3, ρ a3), (a4, ρ a4), (a5, ρ a5), (a6, ρ a6), (a7, ρ a7), (a8, ρ a8), (a9, ρ a9), (a10, ρ a10), (a11, ρ a11), (a12, ρ a12), (a13, ρ a13)] := ⟨rfl, g13_⟩
theorem g15_ {ρ : Env} {a0 a1 a2 a3 a4 a5 a6 a7 a8 a9 a10 a11 a12 a13 a14 : Nat} : Has ρ [(a0, ρ a0), (a1, ρ a1), (a2, ρ a2), (a3, ρ a3), (a4, ρ a4), (a5, ρ a5), (a6, ρ a6), (a7, ρ a7), (a8, ρ a8), (a9, ρ a9), (a10, ρ a10), (a11, ρ a11), (a12, ρ a12), (a13, ρ a13), (a14, ρ a14)] := ⟨rfl, g14_⟩
def cnt : Value → Nat
 | .int _ n => n.toNat
 | _ => 0
theorem Ent.mk_ok {D : Nat → Prop} {Φ : World → Prop} (h : Φ w) (hD : ∀ k, D k → k < w.heap.size) (hc : ∀ (S : Nat → Prop) (w1 w2 : World), Chg S w1 w2 → (∀ k, D k → ¬ S k) → Φ w1 → Φ w2) : Ent.ok ⟨D, Φ⟩ w := ⟨h, hD, hc⟩
open Go
section
variable {P : Program} {ρ : Env} {o : Oper} {w : World} {x y z : Operand} {v : Value} {t t' : TypeId}
theorem wrap_u64 (h : n < 18446744073709551616) : IntKind.u64.wrap (n : Int) = n := by simp [IntKind.wrap, IntKind.signed, IntKind.bits]; omega
theorem rConvW {s d : TypeId} {k' : IntKind} {ds : TypeDesc} {n : Int} (ho : o.op = .convert s d x) (hs : P.underlying s = some ds) (hd : P.underlying d = some (.int k)) (hx : ev ρ x = .int k' n) : Runs P ρ o w (.int k (k.wrap n)) := by
 simp [Runs, execOp, ho, hx, convert, run_underlying hs, run_underlying hd, Conv.intToInt]
theorem rConv_u64s {s d : TypeId} {k' : IntKind} {ds : TypeDesc} (ho : o.op = .convert s d x) (hs : P.underlying s = some ds) (hd : P.underlying d = some (.int .u64)) (hx : ev ρ x = .int k' (n : Int)) (h : n < 18446744073709551616) : Runs P ρ o w (.int .u64 (n : Int)) := by
 have := rConvW (P := P) (w := w) ho hs hd hx
 rwa [wrap_u64 h] at this
theorem rBits {op : BinOp} {b : Int} {r : BitVec k.bits → BitVec k.bits → BitVec k.bits} (ho : o.op = .binOp op t x y t') (hx : ev ρ x = .int k a) (hy : ev ρ y = .int k b) (hr : (match op with | .and => some (fun p q : BitVec k.bits => p &&& q) | .or => some (fun p q => p ||| q) | .xor => some (fun p q => p ^^^ q) | _ => none) = some r) :
  Runs P ρ o w (.int k (k.wrap (r (BitVec.ofInt k.bits a) (BitVec.ofInt k.bits b)).toNat)) := by
 cases op <;> simp at hr <;> subst hr <;> simp [Runs, execOp, ho, hx, hy, eqGuard, binOp, Op.intBits]
theorem rShrW {k' : IntKind} {c : Int} (ho : o.op = .binOp .shr t x y t') (hx : ev ρ x = .int k a) (hy : ev ρ y = .int k' c) (hc : 0 ≤ c) : Runs P ρ o w (.int k (a.fdiv (2 ^ min c.toNat k.bits))) := by
 have : ¬ c < 0 := by omega
 simp [Runs, execOp, ho, hx, hy, eqGuard, binOp, Op.shift, this]
theorem rNegW (ho : o.op = .unOp .neg t x) (hx : ev ρ x = .int k a) : Runs P ρ o w (.int k (k.wrap (0 - a))) := by simp [Runs, execOp, ho, hx, Op.unary, Op.intArith]
theorem rQuoW {b : Int} (ho : o.op = .binOp .quo t x y t') (hx : ev ρ x = .int k a) (hy : ev ρ y = .int k b) (hb : b ≠ 0) : Runs P ρ o w (.int k (k.wrap (a.tdiv b))) := by simp [Runs, execOp, ho, hx, hy, eqGuard, binOp, Op.intDiv, hb]
theorem rNilChk (ho : o.op = .nilCheck x) (hx : ev ρ x = .pointer (some p)) : Runs P ρ o w (.pointer (some p)) := by simp [Runs, execOp, ho, hx]
theorem T8 (i_ : Nat) (h0_ : @Eq _ (ops_[i_]?, o.dst, wantedR ops_ ρ o, o.op, ev ρ x) (some o, some d_, true, .nilCheck x, .pointer (some p))) (K_ : WT P N_ ops_ Q_ S_ T_ f_ (l_.setIfInBounds i_ true) (upd ρ d_ (.pointer (some p))) w) (hB_ : takeT ops_ T_ N_ l_ i_ d_ = true := by kernel_rfl) (hS_ : S_ w := by first | exact hXS _ hI | exact hXS _ hI.hd1 | exact hXS _ hI.d0 | exact hXS _ hI.d1 | exact hXS _ hI.d2 | exact hXS _ hI.d3 | exact hXS _ hI.d0.d0) : WT P N_ ops_ Q_ S_ T_ (f_ + 1) l_ ρ w := WT_take i_ (q1 h0_) (q1 (q2 h0_)) hB_ hS_ (q1 (q2 (q2 h0_))) (fun W_ hW_ => rNilChk (q1 (q2 (q2 (q2 h0_)))) (q2 (q2 (q2 (q2 h0_))))) K_
theorem Tj (h0_ : @Eq _ (wantedR ops_ ρ o, o.dst, Nat.blt d_ N_, o.op, ev ρ x) (true, some d_, true, .nilCheck x, .pointer (some p))) (K_ : WL P N_ ops_ Q_ rest_ (upd ρ d_ (.pointer (some p))) w) : WL P N_ ops_ Q_ (o :: rest_) ρ w := WL_val (q1 h0_) (q1 (q2 h0_)) (q1 (q2 (q2 h0_))) (rNilChk (q1 (q2 (q2 (q2 h0_)))) (q2 (q2 (q2 (q2 h0_))))) K_
theorem rIdxArr {zz : Int} (ho : o.op = .indexAddr t x y) (ht : P.underlying t = some (.array n e)) (hs : szB P e sz = true) (hx : ev ρ x = .pointer (some ⟨g, j, none⟩)) (hy : ev ρ y = .int k zz) (hz : zz = (i : Int)) (hi : i < n) :
  Runs P ρ o w (.pointer (some ⟨g, j + i * sz, none⟩)) := by
 subst hz
 have hi' : (i : Int) < (n : Int) := by omega
 simp [Runs, execOp, ho, hx, hy, Instr.indexAt, asIntOf, Instr.sureAddr, run_underlying ht, run_size hs, hi, Addr.add]
theorem rCap (ho : o.op = .call { callee := .builtin .cap, args := #[x], argTypes := #[t] }) (ht : P.underlying t = some (.slice e)) (hx : ev ρ x = .slice A n c) : Runs P ρ o w (.int .i64 (c : Int)) := by
 simp [Runs, execOp, ho, resolve, invoke, builtin, Builtin.cap_, run_underlying ht, hx, goInt]
theorem rApp0 {c' : Nat} {A' : Option Addr} (ho : o.op = .call { callee := .builtin .append, args := #[x, y], argTypes := #[t, t] }) (ht : P.underlying t = some (.slice e)) (hs : szB P e sz = true) (hx : ev ρ x = .slice A n c) (hy : ev ρ y = .slice A' 0 c') (hn : n ≤ c) : Runs P ρ o w (.slice A n c) := by
 cases A <;> cases A' <;> simp [Runs, execOp, ho, resolve, invoke, builtin, hx, hy, Builtin.append_, run_underlying ht, run_size hs, Builtin.lenOf, Builtin.firstCells, storeCells, loadCells, loadCellsFrom, hn]
theorem rSliceFromG {K : IntKind} (ho : o.op = .slice t x (some y) none none) (ht : P.underlying t = some (.slice e)) (hs : szB P e sz = true) (hx : ev ρ x = .slice A n c) (hy : ev ρ y = .int K (i : Int)) (hi : i ≤ n) :
  Runs P ρ o w (.slice (if c = i then A else A.map (·.add (i * sz))) (n - i) (c - i)) := by
 simp [Runs, execOp, ho, hx, hy, Instr.sliceAt, Instr.slice, Instr.sliceBounds, Instr.sliceBound, asIntOf, run_underlying ht, run_size hs, hi]
end
theorem retC2 {e : Exit} {a s : Tmp} (he : e = .normal ∨ e = .ret) (hr : fn.results = #[.cell a t, .tmp s]) (ha : ρ a = .pointer (some ⟨g, 0, none⟩)) (ht : aggB P t = true) (hs : szB P t n = true) (hn : cs.size = n) (hb : Blk w g T cs) (h : R (.returned (.tuple #[.agg cs, ρ s])) w) : retQ P fn R e ρ w := by
 have h1 := run_loadCellsFrom (P := P) (b := g) (w := w) cs.toList 0 0 #[] (fun k u hk => by rw [Nat.zero_add, Nat.zero_add, hb.cell]; simpa using hk)
 have hn' : cs.toList.length = n := by simpa using hn
 rw [hn'] at h1
 refine retQ_intro he fun b hb' => ⟨_, ?_, h⟩
 have h2 := hb'.get a
 have h3 := hb'.get s
 rw [ha] at h2
 simp only [Array.getD_eq_getD_getElem?] at h2 h3
 simp [results, hr, h2, h3, asAddr, loadVar, run_isAgg_agg ht, run_size hs, loadCells, h1]
def Row (base e size : Nat) (A : Option Addr) (n c : Nat) (xs : List Value) : Ent := ⟨fun k => A.map (·.block) = some k, fun w => w.ownsRow base e size (.slice A n c) n xs⟩
theorem ownBlock_slice (A : Option Addr) (n c : Nat) : (Value.slice A n c).ownBlock = A.map (·.block) := by cases A <;> rfl
theorem Row.ok (h : w.ownsRow base e size (.slice A n c) n xs) : (Row base e size A n c xs).ok w := by
 refine Ent.mk_ok h (fun k hk => ?_) (fun S w1 w2 hc hS h1 => ?_)
 ·rcases h.2 with ⟨hv, _⟩ | ⟨g, cap, cur, hv, _, hh, _⟩
  ·injection hv with hv; subst hv; simp at hk
  injection hv with hv; subst hv
  simp at hk
  subst hk
  exact Blk.lt (t := e) (cs := cur) hh
 refine ⟨h1.1, ?_⟩
 rcases h1.2 with h2 | ⟨g, cap, cur, hv, hg, hh, h3⟩
 ·exact .inl h2
 injection hv with hv _ hv2
 subst hv hv2
 exact .inr ⟨g, _, cur, Z, hg, (Blk.chg (t := e) (cs := cur) hh hc (hS g Z)), h3⟩
theorem Row.nil (w : World) (base e size : Nat) : (Row base e size none 0 0 []).ok w := Row.ok (World.ownsRow_nil w base e size)
theorem Row.of_blk (h : Blk w g e cs) (hb : base ≤ g) (hn : cs.size = n * size) (hm : n ≤ 9223372036854775807) : (Row base e size (some ⟨g, 0, none⟩) n n cs.toList).ok w :=
 Row.ok ⟨by simpa using hn, .inr ⟨g, n, cs, rfl, hb, h, Nat.le_refl _, hm, hn, by rw [List.take_of_length_le]; simp [hn]⟩⟩
section
variable {P : Program} {N : Nat} {ops : Array Oper} {Q : XPost} {rest : List Oper} {ρ : Env} {o : Oper} {w0 w : World} {S : Nat → Prop} {H : List Ent} {d t : Nat}
theorem WL_app {c2 : Nat} {news : List Value} (i : Nat) (hi : H[i]? = some (Row base e size A n c xs)) (hI : Inv S w0 w H) (hw : wantedR ops ρ o = true) (hd : o.dst = some d) (hN : Nat.blt d N = true)
  (ho : o.op = .call { callee := .builtin .append, args := #[x, y], argTypes := #[t, t] }) (hx : ev ρ x = .slice A n c) (hy : ev ρ y = .slice (some ⟨b, j, none⟩) m c2) (ht : P.underlying t = some (.slice e))
  (hi0 : (P.info? e).map (fun i => (i.zero, i.size, i.bytes)) = some (some z, size, by_)) (hz1 : z.cells.size = size) (hsz : 0 < size) (hlen : news.length = m * size) (hcells : ∀ k u, news[k]? = some u → w.cell? ⟨b, j + k, none⟩ = some u) (h1 : news.all (·.oneCell') = true)
  (h63 : n + m ≤ 9223372036854775807) (hby : (n + m) * by_ ≤ 140737488355328) (hbase : base ≤ w.heap.size)
  (h : ∀ A' c' w', n + m ≤ c' → c' ≤ 9223372036854775807 → Inv S w0 w' (H.set i (Row base e size A' (n + m) c' (xs ++ news))) → WL P N ops Q rest (upd ρ d (.slice A' (n + m) c')) w') : WL P N ops Q (o :: rest) ρ w := by
 cases hp : P.info? e with
 | none => simp [hp] at hi0
 | some q =>
  simp only [hp, Option.map_some, Option.some.injEq, Prod.mk.injEq] at hi0
  obtain ⟨q1, q2, q3⟩ := hi0
  have hown : w.ownsRow base e size (.slice A n c) n xs := (hI.ok _ (gM_ hi)).1
  obtain ⟨v', w', hrun, r1, r2, _, r3⟩ := run_append_own_at (P := P) w base t o.type e q z size by_ ht hp q1 q2 q3 hz1 hsz (.slice A n c) n xs hown ⟨b, j, none⟩ m c2 news hlen (fun k u hk => by rw [Addr.add_lit]; exact hcells k u hk) (List.all_eq_true.1 h1) (by simpa [maxLen] using h63) hby hbase
  have hform : ∃ A' c', v' = .slice A' (n + m) c' ∧ n + m ≤ c' ∧ c' ≤ 9223372036854775807 := (Rd.of_own (D := fun _ => True) r1 (fun _ _ _ => trivial)).form
  obtain ⟨A', c', rfl, hc1, hc2⟩ := hform
  refine WL_eff hw hd hN (v := .slice A' (n + m) c') (w' := w') (by simp [execOp, ho, resolve, invoke, builtin, hx, hy, hrun]) (h A' c' w' hc1 hc2 (hI.upd i hi ((Chg.refl _ w).grown r2 (fun k hk => .inl ?_)) (Row.ok r1) (fun k hk => ?_)))
  ·rw [ownBlock_slice] at hk; exact hk
  rw [ownBlock_slice, ownBlock_slice] at r3
  have hk' : A'.map (·.block) = some k := hk
  rcases r3 with r3 | r3
  ·exact .inl (show A.map (·.block) = some k by rw [← r3]; exact hk')
  rw [hk'] at r3
  injection r3 with r3
  exact .inr (by omega)
theorem WL_app0 {c2 : Nat} {news : List Value} (hI : Inv S w0 w (Row base e size A n c xs :: H)) (hw : wantedR ops ρ o = true) (hd : o.dst = some d) (hN : Nat.blt d N = true)
  (ho : o.op = .call { callee := .builtin .append, args := #[x, y], argTypes := #[t, t] }) (hx : ev ρ x = .slice A n c) (hy : ev ρ y = .slice (some ⟨b, j, none⟩) m c2) (ht : P.underlying t = some (.slice e))
  (hi0 : (P.info? e).map (fun i => (i.zero, i.size, i.bytes)) = some (some z, size, by_)) (hz1 : z.cells.size = size) (hsz : 0 < size) (hlen : news.length = m * size) (hcells : ∀ k u, news[k]? = some u → w.cell? ⟨b, j + k, none⟩ = some u) (h1 : news.all (·.oneCell') = true)
  (h63 : n + m ≤ 9223372036854775807) (hby : (n + m) * by_ ≤ 140737488355328) (hbase : base ≤ w.heap.size)
  (h : ∀ A' c' w', n + m ≤ c' → c' ≤ 9223372036854775807 → Inv S w0 w' (Row base e size A' (n + m) c' (xs ++ news) :: H) → WL P N ops Q rest (upd ρ d (.slice A' (n + m) c')) w') : WL P N ops Q (o :: rest) ρ w :=
 WL_app 0 rfl hI hw hd hN ho hx hy ht hi0 hz1 hsz hlen hcells h1 h63 hby hbase h
theorem WL_app1 {c2 : Nat} {news : List Value} (hI : Inv S w0 w (e0 :: Row base e size A n c xs :: H)) (hw : wantedR ops ρ o = true) (hd : o.dst = some d) (hN : Nat.blt d N = true)
  (ho : o.op = .call { callee := .builtin .append, args := #[x, y], argTypes := #[t, t] }) (hx : ev ρ x = .slice A n c) (hy : ev ρ y = .slice (some ⟨b, j, none⟩) m c2) (ht : P.underlying t = some (.slice e))
  (hi0 : (P.info? e).map (fun i => (i.zero, i.size, i.bytes)) = some (some z, size, by_)) (hz1 : z.cells.size = size) (hsz : 0 < size) (hlen : news.length = m * size) (hcells : ∀ k u, news[k]? = some u → w.cell? ⟨b, j + k, none⟩ = some u) (h1 : news.all (·.oneCell') = true)
  (h63 : n + m ≤ 9223372036854775807) (hby : (n + m) * by_ ≤ 140737488355328) (hbase : base ≤ w.heap.size)
  (h : ∀ A' c' w', n + m ≤ c' → c' ≤ 9223372036854775807 → Inv S w0 w' (e0 :: Row base e size A' (n + m) c' (xs ++ news) :: H) → WL P N ops Q rest (upd ρ d (.slice A' (n + m) c')) w') : WL P N ops Q (o :: rest) ρ w :=
 WL_app 1 rfl hI hw hd hN ho hx hy ht hi0 hz1 hsz hlen hcells h1 h63 hby hbase h
theorem WL_app2 {c2 : Nat} {news : List Value} (hI : Inv S w0 w (e0 :: e1 :: Row base e size A n c xs :: H)) (hw : wantedR ops ρ o = true) (hd : o.dst = some d) (hN : Nat.blt d N = true)
  (ho : o.op = .call { callee := .builtin .append, args := #[x, y], argTypes := #[t, t] }) (hx : ev ρ x = .slice A n c) (hy : ev ρ y = .slice (some ⟨b, j, none⟩) m c2) (ht : P.underlying t = some (.slice e))
  (hi0 : (P.info? e).map (fun i => (i.zero, i.size, i.bytes)) = some (some z, size, by_)) (hz1 : z.cells.size = size) (hsz : 0 < size) (hlen : news.length = m * size) (hcells : ∀ k u, news[k]? = some u → w.cell? ⟨b, j + k, none⟩ = some u) (h1 : news.all (·.oneCell') = true)
  (h63 : n + m ≤ 9223372036854775807) (hby : (n + m) * by_ ≤ 140737488355328) (hbase : base ≤ w.heap.size)
  (h : ∀ A' c' w', n + m ≤ c' → c' ≤ 9223372036854775807 → Inv S w0 w' (e0 :: e1 :: Row base e size A' (n + m) c' (xs ++ news) :: H) → WL P N ops Q rest (upd ρ d (.slice A' (n + m) c')) w') : WL P N ops Q (o :: rest) ρ w :=
 WL_app 2 rfl hI hw hd hN ho hx hy ht hi0 hz1 hsz hlen hcells h1 h63 hby hbase h
theorem WL_app3 {c2 : Nat} {news : List Value} (hI : Inv S w0 w (e0 :: e1 :: e2 :: Row base e size A n c xs :: H)) (hw : wantedR ops ρ o = true) (hd : o.dst = some d) (hN : Nat.blt d N = true)
  (ho : o.op = .call { callee := .builtin .append, args := #[x, y], argTypes := #[t, t] }) (hx : ev ρ x = .slice A n c) (hy : ev ρ y = .slice (some ⟨b, j, none⟩) m c2) (ht : P.underlying t = some (.slice e))
  (hi0 : (P.info? e).map (fun i => (i.zero, i.size, i.bytes)) = some (some z, size, by_)) (hz1 : z.cells.size = size) (hsz : 0 < size) (hlen : news.length = m * size) (hcells : ∀ k u, news[k]? = some u → w.cell? ⟨b, j + k, none⟩ = some u) (h1 : news.all (·.oneCell') = true)
  (h63 : n + m ≤ 9223372036854775807) (hby : (n + m) * by_ ≤ 140737488355328) (hbase : base ≤ w.heap.size)
  (h : ∀ A' c' w', n + m ≤ c' → c' ≤ 9223372036854775807 → Inv S w0 w' (e0 :: e1 :: e2 :: Row base e size A' (n + m) c' (xs ++ news) :: H) → WL P N ops Q rest (upd ρ d (.slice A' (n + m) c')) w') : WL P N ops Q (o :: rest) ρ w :=
 WL_app 3 rfl hI hw hd hN ho hx hy ht hi0 hz1 hsz hlen hcells h1 h63 hby hbase h
theorem WL_app4 {c2 : Nat} {news : List Value} (hI : Inv S w0 w (e0 :: e1 :: e2 :: e3 :: Row base e size A n c xs :: H)) (hw : wantedR ops ρ o = true) (hd : o.dst = some d) (hN : Nat.blt d N = true)
  (ho : o.op = .call { callee := .builtin .append, args := #[x, y], argTypes := #[t, t] }) (hx : ev ρ x = .slice A n c) (hy : ev ρ y = .slice (some ⟨b, j, none⟩) m c2) (ht : P.underlying t = some (.slice e))
  (hi0 : (P.info? e).map (fun i => (i.zero, i.size, i.bytes)) = some (some z, size, by_)) (hz1 : z.cells.size = size) (hsz : 0 < size) (hlen : news.length = m * size) (hcells : ∀ k u, news[k]? = some u → w.cell? ⟨b, j + k, none⟩ = some u) (h1 : news.all (·.oneCell') = true)
  (h63 : n + m ≤ 9223372036854775807) (hby : (n + m) * by_ ≤ 140737488355328) (hbase : base ≤ w.heap.size)
  (h : ∀ A' c' w', n + m ≤ c' → c' ≤ 9223372036854775807 → Inv S w0 w' (e0 :: e1 :: e2 :: e3 :: Row base e size A' (n + m) c' (xs ++ news) :: H) → WL P N ops Q rest (upd ρ d (.slice A' (n + m) c')) w') : WL P N ops Q (o :: rest) ρ w :=
 WL_app 4 rfl hI hw hd hN ho hx hy ht hi0 hz1 hsz hlen hcells h1 h63 hby hbase h
theorem WL_app5 {c2 : Nat} {news : List Value} (hI : Inv S w0 w (e0 :: e1 :: e2 :: e3 :: e4 :: Row base e size A n c xs :: H)) (hw : wantedR ops ρ o = true) (hd : o.dst = some d) (hN : Nat.blt d N = true)
  (ho : o.op = .call { callee := .builtin .append, args := #[x, y], argTypes := #[t, t] }) (hx : ev ρ x = .slice A n c) (hy : ev ρ y = .slice (some ⟨b, j, none⟩) m c2) (ht : P.underlying t = some (.slice e))
  (hi0 : (P.info? e).map (fun i => (i.zero, i.size, i.bytes)) = some (some z, size, by_)) (hz1 : z.cells.size = size) (hsz : 0 < size) (hlen : news.length = m * size) (hcells : ∀ k u, news[k]? = some u → w.cell? ⟨b, j + k, none⟩ = some u) (h1 : news.all (·.oneCell') = true)
  (h63 : n + m ≤ 9223372036854775807) (hby : (n + m) * by_ ≤ 140737488355328) (hbase : base ≤ w.heap.size)
  (h : ∀ A' c' w', n + m ≤ c' → c' ≤ 9223372036854775807 → Inv S w0 w' (e0 :: e1 :: e2 :: e3 :: e4 :: Row base e size A' (n + m) c' (xs ++ news) :: H) → WL P N ops Q rest (upd ρ d (.slice A' (n + m) c')) w') : WL P N ops Q (o :: rest) ρ w :=
 WL_app 5 rfl hI hw hd hN ho hx hy ht hi0 hz1 hsz hlen hcells h1 h63 hby hbase h
end
open Go
def eqIntsB (P : Program) (t n : Nat) : Bool := match P.underlying t with
 | some (.struct fs) => (fs.toList.map (fun f => f.offset) == List.range n) && fs.toList.all (fun f => f.name != "_" && (match P.underlying f.type with | some (.int _) => true | _ => false)) && !P.stoodInHeld t && !P.eqGuardType P.depth t
 | _ => false
def i64s (l : List Int) : List Value := l.map (Value.int .i64)
section
variable {P : Program} {ρ : Env} {o : Oper} {w : World} {x y z : Operand} {v : Value} {t t' : TypeId}
theorem run_part_i64 {f : Nat} (hu : P.underlying f = some (.int k)) (hi : i < la.length) : (part f (i64s la).toArray i).run P w = .ok (.int .i64 (la.getD i 0)) w := by
 have hp : plainB P f = true := by simp [plainB, hu]
 simp [part, run_isAgg_plain hp, i64s, gE_ hi, List.getD]
theorem run_eqFields_i64 (d n : Nat) (la lb : List Int) (ha : la.length = n) (hb : lb.length = n) : ∀ (fs : List Field), (fs.all (fun f => f.name != "_" && (match P.underlying f.type with | some (.int _) => true | _ => false)) = true) → (∀ f ∈ fs, f.offset < n) →
  (Op.eqFields (d + 1) (i64s la).toArray (i64s lb).toArray fs).run P w = .ok (fs.all fun f => la.getD f.offset 0 == lb.getD f.offset 0) w
 | [], _, _ => by simp [Op.eqFields]
 | f :: fs, h1, h2 => by
  rw [List.all_cons, Bool.and_eq_true, Bool.and_eq_true] at h1
  obtain ⟨⟨hn, hu⟩, hr⟩ := h1
  have hn' : f.name ≠ "_" := by simpa using hn
  split at hu
  ·rename_i k hk
   have hlt := h2 f (by simp)
   rw [Op.eqFields, if_pos hn']
   simp only [Sem.run_bind, run_part_i64 hk (show f.offset < la.length by omega), run_part_i64 hk (show f.offset < lb.length by omega), Result.andThen_ok, run_equalIn_int w d f.type .i64 k _ _ hk, List.all_cons]
   cases hc : la.getD f.offset 0 == lb.getD f.offset 0
   ·simp
   simp only [Bool.not_true, Bool.false_eq_true, if_false, Bool.true_and]
   exact run_eqFields_i64 d n la lb ha hb fs hr (fun g hg => h2 g (by simp [hg]))
  cases hu
theorem all_range_eq (ha : la.length = n) (hb : lb.length = n) : ((List.range n).all fun i => la.getD i 0 == lb.getD i 0) = decide (la = lb) := by
 rw [Bool.eq_iff_iff, decide_eq_true_iff, List.all_eq_true]
 constructor
 ·intro h
  refine List.ext_getElem (by omega) (fun i h1 h2 => ?_)
  have := h i (by simp; omega)
  simpa [List.getD, gE_ h1, gE_ h2] using this
 rintro rfl i _
 simp
theorem run_equal_i64s (hB : eqIntsB P t n = true) (ha : la.length = n) (hb : lb.length = n) : (Op.equalIn 10000 t (.agg (i64s la).toArray) (.agg (i64s lb).toArray)).run P w = .ok (decide (la = lb)) w := by
 unfold eqIntsB at hB
 split at hB
 ·rename_i fs hfs
  simp only [Bool.and_eq_true, Bool.not_eq_true', beq_iff_eq] at hB
  obtain ⟨⟨⟨h1, h2⟩, h3⟩, h4⟩ := hB
  have hf : P.fieldsOf t = fs := by unfold Program.fieldsOf; rw [hfs]
  rw [run_equalIn_struct w 9999 t _ _ (by rw [hf]; exact hfs) h3, hf]
  rw [run_eqFields_i64 9998 n la lb ha hb fs.toList h2 (fun f hf => by
   have : f.offset ∈ fs.toList.map (fun f => f.offset) := List.mem_map_of_mem hf
   rw [h1] at this
   simpa using this)]
  rw [← all_range_eq ha hb, ← h1, List.all_map]
  rfl
 cases hB
theorem rEqlS (ho : o.op = .binOp .eql t x y t') (hB : eqIntsB P t n = true) (hx : ev ρ x = .agg (i64s la).toArray) (hy : ev ρ y = .agg (i64s lb).toArray) (ha : la.length = n) (hb : lb.length = n) : Runs P ρ o w (.bool (decide (la = lb))) := by
 have hg : P.eqGuardType P.depth t = false := by
  unfold eqIntsB at hB
  split at hB
  ·simp only [Bool.and_eq_true, Bool.not_eq_true'] at hB; exact hB.2
  cases hB
 have h1 := run_eqGuard_agg (P := P) w .eql t x y (i64s la).toArray (i64s lb).toArray hg
 have h2 := run_eql_struct (P := P) w t (i64s la).toArray (i64s lb).toArray
 rw [run_equal_i64s hB ha hb] at h2
 simp [Runs, execOp, ho, hx, hy, h1, h2]
end
open Go
section
variable {P : Program} {ρ : Env} {o : Oper} {w : World} {x y z : Operand} {v : Value} {t t' : TypeId}
def arrB (P : Program) (t n : Nat) : Bool := match P.underlying t with
 | some (.array m e) => m == n && (P.info? e).isSome && (P.cellsOf e == 1) && (match P.underlying e with | some (.int _) => true | _ => false)
 | _ => false
theorem run_eqItems_i64 (d n : Nat) {e : TypeId} {k : IntKind} (he : P.underlying e = some (.int k)) (la lb : List Int) (ha : la.length = n) (hb : lb.length = n) : ∀ (is : List Nat), (∀ i ∈ is, i < n) →
  (Op.eqItems (d + 1) e 1 (i64s la).toArray (i64s lb).toArray is).run P w = .ok (is.all fun i => la.getD i 0 == lb.getD i 0) w
 | [], _ => by simp [Op.eqItems]
 | i :: is, h => by
  have hi := h i (by simp)
  simp only [Op.eqItems, Sem.run_bind, Nat.mul_one, run_part_i64 he (show i < la.length by omega), run_part_i64 he (show i < lb.length by omega), Result.andThen_ok, run_equalIn_int w d e .i64 k _ _ he, List.all_cons]
  cases hc : la.getD i 0 == lb.getD i 0
  ·simp
  simp only [Bool.not_true, Bool.false_eq_true, if_false, Bool.true_and]
  exact run_eqItems_i64 d n he la lb ha hb is (fun j hj => h j (by simp [hj]))
theorem run_equalIn_arr (d : Nat) (hB : arrB P t n = true) (ha : la.length = n) (hb : lb.length = n) : (Op.equalIn (d + 2) t (.agg (i64s la).toArray) (.agg (i64s lb).toArray)).run P w = .ok (decide (la = lb)) w := by
 unfold arrB at hB
 split at hB
 ·rename_i m e hu
  simp only [Bool.and_eq_true, beq_iff_eq] at hB
  obtain ⟨⟨⟨rfl, h1⟩, h2⟩, h3⟩ := hB
  obtain ⟨i, hi⟩ := Option.isSome_iff_exists.1 h1
  split at h3
  ·rename_i k hk
   rw [run_equalIn_array w (d + 1) _ _ hu hi, h2, run_eqItems_i64 d m hk la lb ha hb _ (fun j hj => by simpa using hj), all_range_eq ha hb]
  cases h3
 cases hB
theorem run_part_arr {f off : Nat} {l : List Int} (ha : aggB P f = true) (hs : szB P f n = true) : (part f (i64s l).toArray off).run P w = .ok (.agg (i64s ((l.drop off).take n)).toArray) w := by
 simp [part, run_isAgg_agg ha, run_size hs, i64s, List.map_take, List.map_drop, List.take_drop]
end
open Go
section
variable {P : Program} {ρ : Env} {o : Oper} {w : World} {x y z : Operand} {v : Value} {t t' : TypeId}
theorem rMax {b : Int} (ho : o.op = .call { callee := .builtin .max, args := #[x, y], argTypes := #[t, t'] }) (hx : ev ρ x = .int .i64 a) (hy : ev ρ y = .int .i64 b) : Runs P ρ o w (.int .i64 (max a b)) := by
 have e : max a b = if b > a then b else a := by rw [Int.max_def]; split <;> split <;> omega
 rw [e]
 simp [Runs, execOp, ho, resolve, invoke, builtin, hx, hy, Builtin.max_, Builtin.max2]
end
open Go
section
variable {P : Program} {ρ : Env} {o : Oper} {w : World} {x y z : Operand} {v : Value} {t t' : TypeId}
theorem rCallI {name : String} {as : List Operand} {vs : List Value} (ho : o.op = .call { callee := .invoke x name, args := as.toArray, argTypes := ts }) (hx : ev ρ x = .iface t u) (hv : as.map (ev ρ) = vs)
  (hm : ∀ w : World, (callMethod (.iface t u) name vs.toArray).run P w = .ok (.enter f (u :: vs).toArray) w) : (execOp (ev ρ) o).run P w = .ok (.enter f (u :: vs).toArray) w := by
 have := hm w
 simp [execOp, ho, resolve, invoke, hx, hv, Array.extract_append, this]
end
section
variable {P : Program} {N : Nat} {ops : Array Oper} {Q : XPost} {S : World → Prop} {T : List Nat} {fuel : Nat} {listed : Array Bool} {ρ : Env} {w : World} {o : Oper} {v : Value} {d : Nat}
theorem WT_any (l : List Nat) (hr : Region.ready .any ops listed = l) (hne : l ≠ []) (hT : ∀ i ∈ l, T.contains i = false)
  (h : ∀ i ∈ l, ∃ o, ops[i]? = some o ∧ WL P N ops (thenQ (fun ρ' w' => S w' ∧ WT P N ops Q S T fuel (listed.setIfInBounds i true) ρ' w') Q) [o] ρ w) : WT P N ops Q S T (fuel + 1) listed ρ w := by
 unfold WT
 intro a ha
 refine ⟨fun h0 => (by rw [hr] at h0; exact absurd h0 hne), fun i hi => ?_⟩
 rw [hr] at hi
 obtain ⟨o, ho, h1⟩ := h i hi
 rw [hT i hi]
 exact wpOp_of_list ho (WL_elim h1 a ha) fun ρ' a' w' h1 h2 => by
  have h3 := h2.2
  unfold WT at h3
  exact ⟨h2.1, h3 _ h1⟩
theorem WT_three (i j k : Nat) {oi oj ok : Oper} (hi : ops[i]? = some oi) (hj : ops[j]? = some oj) (hk : ops[k]? = some ok) (hr : Region.ready .any ops listed = [i, j, k]) (hiT : T.contains i = false) (hjT : T.contains j = false) (hkT : T.contains k = false)
  (h0 : WL P N ops (thenQ (fun ρ' w' => S w' ∧ WT P N ops Q S T fuel (listed.setIfInBounds i true) ρ' w') Q) [oi] ρ w)
  (h1 : WL P N ops (thenQ (fun ρ' w' => S w' ∧ WT P N ops Q S T fuel (listed.setIfInBounds j true) ρ' w') Q) [oj] ρ w)
  (h2 : WL P N ops (thenQ (fun ρ' w' => S w' ∧ WT P N ops Q S T fuel (listed.setIfInBounds k true) ρ' w') Q) [ok] ρ w) : WT P N ops Q S T (fuel + 1) listed ρ w := by
 refine WT_any _ hr (by simp) (fun m hm => ?_) (fun m hm => ?_)
 ·simp only [List.mem_cons, List.not_mem_nil, or_false] at hm
  rcases hm with rfl | rfl | rfl <;> assumption
 simp only [List.mem_cons, List.not_mem_nil, or_false] at hm
 rcases hm with rfl | rfl | rfl
 ·exact ⟨_, hi, h0⟩
 ·exact ⟨_, hj, h1⟩
 exact ⟨_, hk, h2⟩
end
section
variable {S : Nat → Prop} {w0 w : World} {H : List Ent}
theorem Inv.perm {H' : List Ent} (h : Inv S w0 w H) (p : H.Perm H') : Inv S w0 w H' :=
 ⟨h.chg, fun e he => h.ok e (p.mem_iff.2 he), fun e he => h.own e (p.mem_iff.2 he), (p.pairwise_iff (fun {a b} hab k h1 h2 => hab k h2 h1)).1 h.apart⟩
theorem Inv.sw0 {a b : Ent} (h : Inv S w0 w (a :: b :: H)) : Inv S w0 w (b :: a :: H) := h.perm (.swap ..)
theorem Inv.sw1 {a b c : Ent} (h : Inv S w0 w (a :: b :: c :: H)) : Inv S w0 w (a :: c :: b :: H) := h.perm (.cons _ (.swap ..))
theorem Inv.sw2 {a b c d : Ent} (h : Inv S w0 w (a :: b :: c :: d :: H)) : Inv S w0 w (a :: b :: d :: c :: H) := h.perm (.cons _ (.cons _ (.swap ..)))
theorem Inv.sw3 {a b c d e : Ent} (h : Inv S w0 w (a :: b :: c :: d :: e :: H)) : Inv S w0 w (a :: b :: c :: e :: d :: H) := h.perm (.cons _ (.cons _ (.cons _ (.swap ..))))
end
open Go
theorem zip_fold (l : List Value) : ∀ (j off : Nat) (cs : Array Value), (l.zipIdx j).foldl (fun cs (p : Value × Nat) => cs.setIfInBounds (off + p.2) p.1) cs = splice cs (off + j) l := by
 induction l with
 | nil => intro j off cs; rfl
 | cons u l ih =>
  intro j off cs
  rw [List.zipIdx_cons, List.foldl_cons, ih]
  rfl
theorem fill_aggs {size : Nat} : ∀ (ls : List (List Value)) (i : Nat) (done junk : List Value), done.length = i * size → junk.length = ls.length * size → (∀ l ∈ ls, l.length = size) →
  Instr.fill (fun i => some (i * size, size)) (done ++ junk).toArray ((ls.zipIdx i).map fun x => (x.2, Value.agg x.1.toArray)) = some (done ++ ls.flatten).toArray
 | [], i, done, junk, h1, h2, h3 => by
  have : junk = [] := by simpa using h2
  simp [Instr.fill, this]
 | l :: ls, i, done, junk, h1, h2, h3 => by
  have hl := h3 l (by simp)
  rw [List.length_cons, Nat.add_mul, Nat.one_mul] at h2
  rw [List.zipIdx_cons, List.map_cons, Instr.fill]
  have hc : (Value.agg l.toArray).cells = l.toArray := rfl
  simp only [hc]
  rw [if_neg (by simp [hl, h1, h2])]
  have hf : l.toArray.zipIdx.foldl (fun cs (x : Value × Nat) => cs.setIfInBounds (i * size + x.2) x.1) (done ++ junk).toArray = ((done ++ l) ++ junk.drop size).toArray := by
   have := zip_fold l 0 (i * size) (done ++ junk).toArray
   rw [Nat.add_zero] at this
   have e : l.toArray.zipIdx = (l.zipIdx).toArray := by simp
   rw [e, List.foldl_toArray']
   ·refine Eq.trans this ?_
    apply Array.ext'
    rw [splice_list _ _ _ (by simp [h1, h2]; omega)]
    simp [← h1, hl]
   simp
  have ih := fill_aggs ls (i + 1) (done ++ l) (junk.drop size) (by simp [h1, hl, Nat.add_mul]) (by simp [h2]) (fun m hm => h3 m (by simp [hm]))
  rw [hf, ih]
  simp
section
variable {P : Program} {N : Nat} {ops : Array Oper} {Q : XPost} {rest : List Oper} {ρ : Env} {o : Oper} {w0 w w' : World} {S : Nat → Prop} {H : List Ent} {d g t tt : Nat} {cs : Array Value} {v : Value}
theorem run_litA (ls : List (List Value)) (ht : P.underlying t = some (.slice e)) (hs : szB P e size = true) (hz : (P.info? e).bind (·.zero) = some z) (hn : ls.length = n) (hl : ∀ l ∈ ls, l.length = size) (hm : n * size ≤ 16777216) :
  (Instr.buildSlice t n (((ls.zipIdx).map fun x => (x.2, Value.agg x.1.toArray)).toArray)).run P w = .ok (.slice (some ⟨w.heap.size, 0, none⟩) n n) (w.alloc (.cells ls.flatten.toArray e)) := by
 have hm' : ¬ n * size > 16777216 := by omega
 have hzv : (zeroValue e).run P w = .ok z w := by
  cases hi : P.info? e with
  | none => simp [hi] at hz
  | some q => simp only [hi, Option.bind_some] at hz; simp [zeroValue, typeInfo, hi, hz]
 have key : ∀ zero : Array Value, Instr.fill (fun i => some (i * size, size)) ((Array.range (n * size)).map (zero[· % zero.size]!)) ((ls.zipIdx).map fun x => (x.2, Value.agg x.1.toArray)) = some ls.flatten.toArray := by
  intro zero
  have := fill_aggs (size := size) ls 0 [] (((Array.range (n * size)).map (zero[· % zero.size]!)).toList) (by simp) (by simp [hn]) hl
  rw [List.nil_append, List.nil_append, Array.toArray_toList] at this
  exact this
 unfold Instr.buildSlice
 simp only [Sem.run_bind, run_underlying ht, Result.andThen_ok, run_size hs]
 by_cases h0 : n * size = 0
 ·simp [h0, key #[], newRow] at *
  have := key #[]
  simp at this
  simp [this, newRow]
 simp [hm', h0, hzv, key z.cells, newRow]
theorem WL_litA (ls : List (List Value)) (hI : Inv S w0 w H) (hw : wantedR ops ρ o = true) (hd : o.dst = some d) (hN : Nat.blt d N = true) (ho : o.op = .buildSlice t n ps.toArray) (hq : (ps.map fun p => (p.1, ev ρ p.2)) = (ls.zipIdx).map fun x => (x.2, Value.agg x.1.toArray))
  (ht : P.underlying t = some (.slice e)) (hs : szB P e size = true) (hz : ((P.info? e).bind (·.zero)).isSome = true) (hn : ls.length = n) (hl : ∀ l ∈ ls, l.length = size) (hm : n * size ≤ 16777216)
  (h : ∀ g w', Pure w w' → g = w.heap.size → Inv S w0 w' (B g e ls.flatten.toArray :: H) → WL P N ops Q rest (upd ρ d (.slice (some ⟨g, 0, none⟩) n n)) w') : WL P N ops Q (o :: rest) ρ w := by
 obtain ⟨z, hz⟩ := Option.isSome_iff_exists.1 hz
 refine WL_eff hw hd hN ?_ (h _ _ ((Pure.refl w).alloc _) Z (hI.box e ls.flatten.toArray))
 have := run_litA (P := P) (w := w) ls ht hs hz hn hl hm
 rw [← hq] at this
 simp only [execOp, ho]
 simp [this]
end
end Go.Proofs.YtnckdmogdehnoaaGreatDoor
