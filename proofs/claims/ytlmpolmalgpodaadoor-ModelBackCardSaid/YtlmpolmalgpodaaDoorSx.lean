/- Sx: frames as functions of slots; one rule for each form of code; regions that draw their order. Nothing of the program. -/
import Derived.Test.YtlmpolmalgpodaaDoorBase
import Derived.Test.YtlmpolmalgpodaaDoorReg
namespace Go.Proofs.YtlmpolmalgpodaaDoor
open Go

abbrev Env := Nat → Value
def upd (ρ : Env) (d : Nat) (v : Value) : Env := fun i => cond (Nat.beq i d) v (ρ i)
def ev (ρ : Env) : Operand → Value
  | .tmp t => ρ t
  | .const v => v
  | .global g => .pointer (some ⟨g, 0, none⟩)
  | .func f => .func (.func f) #[] #[]
structure Fit (N : Nat) (ρ : Env) (a : Act) : Prop where
  size : a.tmps.size = N
  get : ∀ i, a.tmps.getD i undef = ρ i
  defers : a.defers = []

section
variable {N : Nat} {ρ : Env} {a : Act}
theorem Fit.eval (h : Fit N ρ a) : a.eval = ev ρ := by
  funext x
  cases x with
  | tmp t => exact h.get t
  | const v => rfl
  | global g => rfl
  | func f => rfl
theorem Fit.env (h : Fit N ρ a) : (fun i => a.tmps.getD i undef) = ρ := funext h.get
theorem Fit.put (h : Fit N ρ a) {d : Nat} (hd : d < N) (v : Value) : Fit N (upd ρ d v) (a.put (some d) v) := by
  refine ⟨by simp [Act.put, h.size], fun i => ?_, h.defers⟩
  simp only [Act.put, upd]
  by_cases hi : i = d
  · subst hi
    have : Nat.beq i i = true := by simp
    rw [this, Array.getD_eq_getD_getElem?, Array.getElem?_setIfInBounds]
    simp [h.size, hd]
  · have : Nat.beq i d = false := by
      rw [Bool.eq_false_iff]
      exact fun h => hi (Nat.eq_of_beq_eq_true h)
    rw [this, Array.getD_eq_getD_getElem?, Array.getElem?_setIfInBounds, if_neg (Ne.symm hi), ← Array.getD_eq_getD_getElem?]
    exact h.get i
end

abbrev XPost := Exit → Env → World → Prop
def LiftQ (N : Nat) (Q : XPost) : Exit → Act → World → Prop
  | .panic _, _, _ => False
  | .outgrown, _, _ => False
  | e, a, w => ∃ ρ, Fit N ρ a ∧ Q e ρ w
def thenQ (K : Env → World → Prop) (Q : XPost) : XPost
  | .normal, ρ, w => K ρ w
  | e, ρ, w => Q e ρ w
def blockQ (id : Nat) (Q : XPost) : XPost
  | .normal, ρ, w => Q .normal ρ w
  | .exit i, ρ, w => cond (Nat.beq i id) (Q .normal ρ w) (Q (.exit i) ρ w)
  | e, ρ, w => Q e ρ w
def W (P : Program) (N : Nat) (c : Code) (Q : XPost) (ρ : Env) (w : World) : Prop := ∀ a, Fit N ρ a → c.wp P (LiftQ N Q) a w

section
variable {P : Program} {N : Nat} {Q : XPost} {ρ : Env} {w : World}
theorem W_seq {x y : Code} (h : W P N x (thenQ (fun ρ w => W P N y Q ρ w) Q) ρ w) : W P N (.seq x y) Q ρ w := by
  intro a ha
  refine wp_seq (wp_mono (h a ha) fun e a w q => ?_)
  cases e <;> first | exact q | (obtain ⟨ρ', h1, h2⟩ := q; exact h2 a h1)
theorem W_block {id : Nat} {c : Code} (h : W P N c (blockQ id Q) ρ w) : W P N (.block id c) Q ρ w := by
  intro a ha
  refine wp_block (wp_mono (h a ha) fun e a w q => ?_)
  cases e with
  | normal => exact q
  | exit i =>
    obtain ⟨ρ', h1, h2⟩ := q
    simp only [blockQ] at h2
    simp only [Exit.inBlock]
    by_cases hi : i = id
    · rw [if_pos hi]
      rw [show Nat.beq i id = true from by simp [hi]] at h2
      exact ⟨ρ', h1, h2⟩
    · rw [if_neg hi]
      rw [show Nat.beq i id = false from by rw [Bool.eq_false_iff]; exact fun h => hi (Nat.eq_of_beq_eq_true h)] at h2
      exact ⟨ρ', h1, h2⟩
  | goto l => exact q
  | ret => exact q
  | panic c => exact q
  | outgrown => exact q
theorem W_exit {id : Nat} (h : Q (.exit id) ρ w) : W P N (.exit id) Q ρ w := fun _ ha => wp_exit ⟨ρ, ha, h⟩
theorem W_ret (h : Q .ret ρ w) : W P N .ret Q ρ w := fun _ ha => wp_ret ⟨ρ, ha, h⟩
theorem W_skip (h : Q .normal ρ w) : W P N .skip Q ρ w := fun _ ha => wp_skip ⟨ρ, ha, h⟩
theorem W_cond {c : Operand} {x y : Code} (t : Bool) (hc : ev ρ c = .bool t) (h : W P N (cond t x y) Q ρ w) : W P N (.cond c x y) Q ρ w := fun a ha =>
  wp_cond (t := t) (by rw [ha.eval]; exact hc) (by cases t <;> exact h a ha)
theorem W_if {c : Operand} {x y : Code} {t : Bool} (hc : ev ρ c = .bool t) (h1 : t = true → W P N x Q ρ w) (h2 : t = false → W P N y Q ρ w) : W P N (.cond c x y) Q ρ w :=
  W_cond t hc (by cases t; exact h2 rfl; exact h1 rfl)
theorem W_mono {c : Code} {Q' : XPost} (h : W P N c Q ρ w) (hq : ∀ e ρ w, Q e ρ w → Q' e ρ w) : W P N c Q' ρ w := fun a ha =>
  wp_mono (h a ha) fun e a w q => by cases e <;> first | exact q | (obtain ⟨ρ', h1, h2⟩ := q; exact ⟨ρ', h1, hq _ _ _ h2⟩)
theorem W_seq_cut {x y : Code} (M : Env → World → Prop) (h1 : W P N x (thenQ M Q) ρ w) (h2 : ∀ ρ w, M ρ w → W P N y Q ρ w) : W P N (.seq x y) Q ρ w :=
  W_seq (W_mono h1 fun e ρ w q => by cases e <;> first | exact q | exact h2 _ _ q)
theorem W_loop {c : Code} (I : Env → World → Prop) (μ : Env → World → Nat) (h0 : I ρ w)
    (h : ∀ ρ w, I ρ w → W P N c (thenQ (fun ρ' w' => I ρ' w' ∧ μ ρ' w' < μ ρ w) Q) ρ w) : W P N (.loop c) Q ρ w := by
  intro a ha
  refine wp_loop (fun a w => ∃ ρ, Fit N ρ a ∧ I ρ w) (fun a w => μ (fun i => a.tmps.getD i undef) w) ⟨ρ, ha, h0⟩ fun a w hI => ?_
  obtain ⟨ρ, ha, hI⟩ := hI
  refine wp_mono (h ρ w hI a ha) fun e a' w' q => ?_
  cases e <;> first | exact q | (obtain ⟨ρ', h1, h2, h3⟩ := q; exact ⟨⟨ρ', h1, h2⟩, by rw [h1.env, ha.env]; exact h3⟩)

/-! ### Functions -/
def retQ (P : Program) (fn : Func) (R : Ending → World → Prop) : XPost
  | .normal, ρ, w | .ret, ρ, w => ∀ a, Fit fn.ntmps ρ a → ∃ v, (results fn a.tmps).run P w = .ok v w ∧ R (.returned v) w
  | _, _, _ => False
def entry (args : Array Value) : Env := fun i => args.getD i undef
theorem calls_of_W {f : FuncId} {fn : Func} {c : Code} {args : Array Value} {R : Ending → World → Prop} (hf : P.funcs[f]? = some fn) (hb : fn.body = some c) (hn : fn.ntmps = N) (hN : Nat.ble args.size N = true)
    (h : W P N c (retQ P fn R) (entry args) w) : Calls P f args w R := by
  subst hn
  refine calls_of_wp hf hb (wp_mono (h _ ⟨?_, fun i => ?_, rfl⟩) fun e a w q => ?_)
  · have := Nat.le_of_ble_eq_true hN
    simp; omega
  · unfold entry
    rw [Array.getD_eq_getD_getElem?, Array.getElem?_append, Array.getD_eq_getD_getElem?]
    split
    · rfl
    · rename_i hlt
      rw [Array.getElem?_eq_none (xs := args) (by omega), Array.getElem?_replicate]
      split <;> rfl
  · cases e <;> first | exact q.elim | (obtain ⟨ρ, h1, h2⟩ := q; first | exact ⟨h1.defers, h2 a h1⟩ | exact h2.elim)
theorem retQ_intro {fn : Func} {R : Ending → World → Prop} {e : Exit} (he : e = .normal ∨ e = .ret) (h : ∀ a, Fit fn.ntmps ρ a → ∃ v, (results fn a.tmps).run P w = .ok v w ∧ R (.returned v) w) : retQ P fn R e ρ w := by
  rcases he with rfl | rfl <;> exact h
theorem ret0 {fn : Func} {R : Ending → World → Prop} {e : Exit} (he : e = .normal ∨ e = .ret) (hr : fn.results = #[]) (h : R (.returned (.tuple #[])) w) : retQ P fn R e ρ w := by
  rcases he with rfl | rfl <;> exact fun a ha => ⟨_, by simp [results, hr], h⟩
theorem ret1 {fn : Func} {R : Ending → World → Prop} {e : Exit} (t : Tmp) (he : e = .normal ∨ e = .ret) (hr : fn.results = #[.tmp t]) (h : R (.returned (ρ t)) w) : retQ P fn R e ρ w := by
  rcases he with rfl | rfl <;> exact fun a ha => ⟨_, by have h1 := ha.get t; simp only [Array.getD_eq_getD_getElem?] at h1; simp [results, hr, h1], h⟩
theorem ret2 {fn : Func} {R : Ending → World → Prop} {e : Exit} (s t : Tmp) (he : e = .normal ∨ e = .ret) (hr : fn.results = #[.tmp s, .tmp t]) (h : R (.returned (.tuple #[ρ s, ρ t])) w) : retQ P fn R e ρ w := by
  rcases he with rfl | rfl <;> exact fun a ha => ⟨_, by have h1 := ha.get t; have h2 := ha.get s; simp only [Array.getD_eq_getD_getElem?] at h1 h2; simp [results, hr, h1, h2], h⟩
theorem ret3 {fn : Func} {R : Ending → World → Prop} {e : Exit} (s t u : Tmp) (he : e = .normal ∨ e = .ret) (hr : fn.results = #[.tmp s, .tmp t, .tmp u]) (h : R (.returned (.tuple #[ρ s, ρ t, ρ u])) w) : retQ P fn R e ρ w := by
  rcases he with rfl | rfl <;> exact fun a ha => ⟨_, by have h1 := ha.get t; have h2 := ha.get s; have h3 := ha.get u; simp only [Array.getD_eq_getD_getElem?] at h1 h2 h3; simp [results, hr, h1, h2, h3], h⟩

/-! ### Regions in the text's order -/
def wantedR (ops : Array Oper) (ρ : Env) (o : Oper) : Bool := match o.guard with
  | none => true
  | some (j, b) => match (ops[j]?).bind (·.dst) with
    | some d => match ρ d with
      | .bool c => c == b
      | _ => false
    | none => false
theorem wanted_fit {ops : Array Oper} {o : Oper} {a : Act} (ha : Fit N ρ a) : Region.wanted o (yielded ops a.tmps) = wantedR ops ρ o := by
  unfold Region.wanted wantedR
  cases o.guard with
  | none => rfl
  | some g =>
    obtain ⟨j, b⟩ := g
    simp only [yielded]
    cases hd : (ops[j]?).bind (·.dst) with
    | none => simp
    | some d =>
      have h1 := ha.get d
      rw [Array.getD_eq_getD_getElem?] at h1
      simp only [Option.bind_some]
      cases h2 : a.tmps[d]? with
      | none =>
        rw [h2] at h1
        simp only [Option.getD_none] at h1
        rw [← h1]
        rfl
      | some v =>
        rw [h2] at h1
        simp only [Option.getD_some] at h1
        rw [← h1]
        cases v <;> rfl

def WL (P : Program) (N : Nat) (ops : Array Oper) (Q : XPost) (l : List Oper) (ρ : Env) (w : World) : Prop := ∀ a, Fit N ρ a → wpList P ops (LiftQ N Q) l a w
theorem W_region {id : Nat} {l : List Oper} (h : WL P N l.toArray Q l ρ w) : W P N (.region id l.toArray false) Q ρ w := fun a ha => wp_region_lit (h a ha)
/-- Operation o leaves v, and the world as it is. -/
def Runs (P : Program) (ρ : Env) (o : Oper) (w : World) (v : Value) : Prop := (execOp (ev ρ) o).run P w = .ok (.value v) w
section
variable {ops : Array Oper} {o : Oper} {rest : List Oper} {v : Value} {d : Nat} {w' : World}
theorem WL_nil (h : Q .normal ρ w) : WL P N ops Q [] ρ w := fun _ ha => ⟨ρ, ha, h⟩
theorem WL_put {a : Act} (hd : o.dst = some d) (hN : Nat.blt d N = true) (ha : Fit N ρ a) (v : Value) : Fit N (upd ρ d v) (a.put o.dst v) := by
  rw [hd]
  exact ha.put (Nat.le_of_ble_eq_true hN) v
theorem WL_val (hw : wantedR ops ρ o = true) (hd : o.dst = some d) (hN : Nat.blt d N = true) (hr : Runs P ρ o w v) (h : WL P N ops Q rest (upd ρ d v) w) : WL P N ops Q (o :: rest) ρ w := by
  intro a ha
  unfold wpList
  rw [wanted_fit ha, if_pos hw]
  refine .inl ?_
  unfold Oper.wp
  rw [ha.eval, show (execOp (ev ρ) o).run P w = _ from hr]
  exact h _ (WL_put hd hN ha v)
theorem WL_skip (hw : wantedR ops ρ o = false) (hd : o.dst = some d) (hN : Nat.blt d N = true) (h : WL P N ops Q rest (upd ρ d undef) w) : WL P N ops Q (o :: rest) ρ w := by
  intro a ha
  unfold wpList
  rw [wanted_fit ha, if_neg (by rw [hw]; simp)]
  exact h _ (WL_put hd hN ha _)
/-- An operation that turns the world. -/
theorem WL_eff (hw : wantedR ops ρ o = true) (hd : o.dst = some d) (hN : Nat.blt d N = true) (hr : (execOp (ev ρ) o).run P w = .ok (.value v) w') (h : WL P N ops Q rest (upd ρ d v) w') : WL P N ops Q (o :: rest) ρ w := by
  intro a ha
  unfold wpList
  rw [wanted_fit ha, if_pos hw]
  refine .inl ?_
  unfold Oper.wp
  rw [ha.eval, hr]
  exact h _ (WL_put hd hN ha v)
theorem WL_eff0 (hw : wantedR ops ρ o = true) (hd : o.dst = none) (hr : (execOp (ev ρ) o).run P w = .ok (.value v) w') (h : WL P N ops Q rest ρ w') : WL P N ops Q (o :: rest) ρ w := by
  intro a ha
  unfold wpList
  rw [wanted_fit ha, if_pos hw]
  refine .inl ?_
  unfold Oper.wp
  rw [ha.eval, hr]
  simp only [Oper.upon, hd, Act.put]
  exact h _ ha
theorem WL_store (hw : wantedR ops ρ o = true) (hd : o.dst = none) (hr : (execOp (ev ρ) o).run P w = .ok .skip w') (h : WL P N ops Q rest ρ w') : WL P N ops Q (o :: rest) ρ w := by
  intro a ha
  unfold wpList
  rw [wanted_fit ha, if_pos hw]
  refine .inl ?_
  unfold Oper.wp
  rw [ha.eval, hr]
  simp only [Oper.upon, hd, Act.put]
  exact h _ ha
theorem WL_call {f : FuncId} {args : Array Value} (hw : wantedR ops ρ o = true) (hd : o.dst = some d) (hN : Nat.blt d N = true) (hr : (execOp (ev ρ) o).run P w = .ok (.enter f args) w)
    (h : Calls P f args w fun e w' => ∃ v, e = .returned v ∧ WL P N ops Q rest (upd ρ d v) w') : WL P N ops Q (o :: rest) ρ w := by
  intro a ha
  unfold wpList
  rw [wanted_fit ha, if_pos hw]
  refine .inl ?_
  unfold Oper.wp
  rw [ha.eval, hr]
  refine Calls.mono h fun e w' he => ?_
  obtain ⟨v, rfl, hv⟩ := he
  exact hv _ (WL_put hd hN ha v)
theorem WL_call0 {f : FuncId} {args : Array Value} (hw : wantedR ops ρ o = true) (hd : o.dst = none) (hr : (execOp (ev ρ) o).run P w = .ok (.enter f args) w)
    (h : Calls P f args w fun e w' => ∃ v, e = .returned v ∧ WL P N ops Q rest ρ w') : WL P N ops Q (o :: rest) ρ w := by
  intro a ha
  unfold wpList
  rw [wanted_fit ha, if_pos hw]
  refine .inl ?_
  unfold Oper.wp
  rw [ha.eval, hr]
  refine Calls.mono h fun e w' he => ?_
  obtain ⟨v, rfl, hv⟩ := he
  simp only [hd, Act.put]
  exact hv _ ha
end
theorem W_intro {c : Code} (h : ∀ a, Fit N ρ a → c.wp P (LiftQ N Q) a w) : W P N c Q ρ w := h
theorem WL_intro {ops : Array Oper} {l : List Oper} (h : ∀ a, Fit N ρ a → wpList P ops (LiftQ N Q) l a w) : WL P N ops Q l ρ w := h
theorem WL_elim {ops : Array Oper} {l : List Oper} (h : WL P N ops Q l ρ w) : ∀ a, Fit N ρ a → wpList P ops (LiftQ N Q) l a w := h
end
attribute [irreducible] W WL retQ
end Go.Proofs.YtlmpolmalgpodaaDoor
