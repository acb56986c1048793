/- Texts of the proof, merged: SxA. -/
import Derived.Test.YtkkmokodaejheaaDoorPReg
import Derived.Laws.StructEq
import Derived.ChangeKeysEq
set_option linter.unusedVariables false
set_option linter.unusedSimpArgs false
set_option linter.unusedSectionVars false
namespace Go.Proofs.YtkkmokodaejheaaDoor
open Go
abbrev Env := Nat → Value
def upd (ρ : Env) (d : Nat) (v : Value) : Env := fun i => cond (Nat.beq i d) v (ρ i)
def ev (ρ : Env) : Operand → Value
 | .tmp t => ρ t
 | .const v => v
 | .global g => .pointer (some ⟨g, 0, none⟩)
 | .func f => .func (.func f) #[] #[]
structure Fit (N : Nat) (ρ : Env) (a : Act) : Prop where
 size : a.tmps.size = N
 get : ∀ i, a.tmps.getD i undef = ρ i
 defers : a.defers = []
section
variable {N : Nat} {ρ : Env} {a : Act}
theorem Fit.eval (h : Fit N ρ a) : a.eval = ev ρ := by
 funext x
 cases x with
 | tmp t => exact h.get t
 | const v => rfl
 | global g => rfl
 | func f => rfl
theorem Fit.env (h : Fit N ρ a) : (fun i => a.tmps.getD i undef) = ρ := funext h.get
theorem Fit.put (h : Fit N ρ a) {d : Nat} (hd : d < N) (v : Value) : Fit N (upd ρ d v) (a.put (some d) v) := by
 refine ⟨by simp [Act.put, h.size], fun i => ?_, h.defers⟩
 simp only [Act.put, upd]
 by_cases hi : i = d
 ·subst hi
  have : Nat.beq i i = true := by simp
  rw [this, Array.getD_eq_getD_getElem?, Array.getElem?_setIfInBounds]
  simp [h.size, hd]
 ·have : Nat.beq i d = false := by
   rw [Bool.eq_false_iff]
   exact fun h => hi (Nat.eq_of_beq_eq_true h)
  rw [this, Array.getD_eq_getD_getElem?, Array.getElem?_setIfInBounds, if_neg (Ne.symm hi), ← Array.getD_eq_getD_getElem?]
  exact h.get i
end
abbrev A9 := Exit → Env → World → Prop
def Ru (N : Nat) (ρ : Env) : Env := fun i => bif Nat.beq N 43 && Nat.beq i 4 then ρ i else undef
theorem U5 {N d : Nat} {a : Act} {v : Value} (h : (!(Nat.beq N 43) || !(Nat.beq d 4)) = true) : Ru N (fun i => (a.put (some d) v).tmps.getD i undef) = Ru N (fun i => a.tmps.getD i undef) := by
 funext i
 unfold Ru
 cases h1 : Nat.beq N 43 with
 | false => rfl
 | true =>
  cases h2 : Nat.beq i 4 with
  | false => rfl
  | true =>
   rw [h1] at h
   have hd : d ≠ 4 := fun e => by subst e; cases h
   have hi : i = 4 := Nat.eq_of_beq_eq_true h2
   simp only [Bool.and_self, cond_true, Act.put]
   rw [Array.getD_eq_getD_getElem?, Array.getD_eq_getD_getElem?, Array.getElem?_setIfInBounds, if_neg (by omega)]
def J7 (N : Nat) (Q : A9) : Exit → Act → World → Prop
 | .panic c, a, w => a.defers = [] ∧ Q (.panic c) (Ru N fun i => a.tmps.getD i undef) w
 | .outgrown, _, _ => False
 | e, a, w => ∃ ρ, Fit N ρ a ∧ Q e ρ w
def Cy (K : Env → World → Prop) (Q : A9) : A9
 | .normal, ρ, w => K ρ w
 | e, ρ, w => Q e ρ w
def VS (id : Nat) (Q : A9) : A9
 | .normal, ρ, w => Q .normal ρ w
 | .exit i, ρ, w => cond (Nat.beq i id) (Q .normal ρ w) (Q (.exit i) ρ w)
 | e, ρ, w => Q e ρ w
def W (P : Program) (N : Nat) (c : Code) (Q : A9) (ρ : Env) (w : World) : Prop := ∀ a, Fit N ρ a → c.wp P (J7 N Q) a w
section
variable {P : Program} {N : Nat} {Q : A9} {ρ : Env} {w : World}
theorem Ac {x y : Code} (h : W P N x (Cy (fun ρ w => W P N y Q ρ w) Q) ρ w) : W P N (.seq x y) Q ρ w := by
 intro a ha
 refine wp_seq (wp_mono (h a ha) fun e a w q => ?_)
 cases e <;> first | exact q | (obtain ⟨ρ', h1, h2⟩ := q; exact h2 a h1)
theorem Al {id : Nat} {c : Code} (h : W P N c (VS id Q) ρ w) : W P N (.block id c) Q ρ w := by
 intro a ha
 refine wp_block (wp_mono (h a ha) fun e a w q => ?_)
 cases e with
 | normal => exact q
 | exit i =>
  obtain ⟨ρ', h1, h2⟩ := q
  simp only [VS] at h2
  simp only [Exit.inBlock]
  by_cases hi : i = id
  ·rw [if_pos hi]
   rw [show Nat.beq i id = true from by simp [hi]] at h2
   exact ⟨ρ', h1, h2⟩
  ·rw [if_neg hi]
   rw [show Nat.beq i id = false from by rw [Bool.eq_false_iff]; exact fun h => hi (Nat.eq_of_beq_eq_true h)] at h2
   exact ⟨ρ', h1, h2⟩
 | goto l => exact q
 | ret => exact q
 | panic c => exact q
 | outgrown => exact q
theorem BG {id : Nat} (h : Q (.exit id) ρ w) : W P N (.exit id) Q ρ w := fun _ ha => wp_exit ⟨ρ, ha, h⟩
theorem Aj (h : Q .ret ρ w) : W P N .ret Q ρ w := fun _ ha => wp_ret ⟨ρ, ha, h⟩
theorem Ah (h : Q .normal ρ w) : W P N .skip Q ρ w := fun _ ha => wp_skip ⟨ρ, ha, h⟩
theorem Ad {c : Operand} {x y : Code} (t : Bool) (hc : ev ρ c = .bool t) (h : W P N (cond t x y) Q ρ w) : W P N (.cond c x y) Q ρ w := fun a ha =>
 wp_cond (t := t) (by rw [ha.eval]; exact hc) (by cases t <;> exact h a ha)
theorem Oa {c : Code} {Q' : A9} (h : W P N c Q ρ w) (hq : ∀ e ρ w, Q e ρ w → Q' e ρ w) : W P N c Q' ρ w := fun a ha =>
 wp_mono (h a ha) fun e a w q => by cases e <;> first | exact q | exact ⟨q.1, hq _ _ _ q.2⟩ | (obtain ⟨ρ', h1, h2⟩ := q; exact ⟨ρ', h1, hq _ _ _ h2⟩)
theorem Bt {x y : Code} (M : Env → World → Prop) (h1 : W P N x (Cy M Q) ρ w) (h2 : ∀ ρ w, M ρ w → W P N y Q ρ w) : W P N (.seq x y) Q ρ w :=
 Ac (Oa h1 fun e ρ w q => by cases e <;> first | exact q | exact h2 _ _ q)
theorem Ff {c : Code} (I : Env → World → Prop) (μ : Env → World → Nat) (h0 : I ρ w)
  (h : ∀ ρ w, I ρ w → W P N c (Cy (fun ρ' w' => I ρ' w' ∧ μ ρ' w' < μ ρ w) Q) ρ w) : W P N (.loop c) Q ρ w := by
 intro a ha
 refine wp_loop (fun a w => ∃ ρ, Fit N ρ a ∧ I ρ w) (fun a w => μ (fun i => a.tmps.getD i undef) w) ⟨ρ, ha, h0⟩ fun a w hI => ?_
 obtain ⟨ρ, ha, hI⟩ := hI
 refine wp_mono (h ρ w hI a ha) fun e a' w' q => ?_
 cases e <;> first | exact q | (obtain ⟨ρ', h1, h2, h3⟩ := q; exact ⟨⟨ρ', h1, h2⟩, by rw [h1.env, ha.env]; exact h3⟩)
def DR (P : Program) (fn : Func) (R : Ending → World → Prop) : A9
 | .normal, ρ, w | .ret, ρ, w => ∀ a, Fit fn.ntmps ρ a → ∃ v, (results fn a.tmps).run P w = .ok v w ∧ R (.returned v) w
 | _, _, _ => False
def entry (args : Array Value) : Env := fun i => args.getD i undef
theorem QO {f : FuncId} {fn : Func} {c : Code} {args : Array Value} {R : Ending → World → Prop} (hf : P.funcs[f]? = some fn) (hb : fn.body = some c) (hn : fn.ntmps = N) (hN : Nat.ble args.size N = true)
  (h : W P N c (DR P fn R) (entry args) w) : Calls P f args w R := by
 subst hn
 refine calls_of_wp hf hb (wp_mono (h _ ⟨?_, fun i => ?_, rfl⟩) fun e a w q => ?_)
 ·have := Nat.le_of_ble_eq_true hN
  simp; omega
 ·unfold entry
  rw [Array.getD_eq_getD_getElem?, Array.getElem?_append, Array.getD_eq_getD_getElem?]
  split
  ·rfl
  ·rename_i hlt
   rw [Array.getElem?_eq_none (xs := args) (by omega), Array.getElem?_replicate]
   split <;> rfl
 ·cases e <;> first | exact q.elim | exact q.2.elim | (obtain ⟨ρ, h1, h2⟩ := q; first | exact ⟨h1.defers, h2 a h1⟩ | exact h2.elim)
theorem Vx (N : Nat) {f : FuncId} {fn : Func} {c : Code} {args : Array Value} {R : Ending → World → Prop} (hf : P.funcs[f]? = some fn) (h0_ : @Eq _ (fn.body, fn.ntmps, Nat.ble args.size N) (some c, N, true)) (h1_ : W P N c (DR P fn R) (entry args) w) : Calls P f args w R := QO (N := N) hf (q1 h0_) (q1 (q2 h0_)) (q2 (q2 h0_)) h1_
theorem Qj {fn : Func} {R : Ending → World → Prop} {e : Exit} (he : e = .normal ∨ e = .ret) (h : ∀ a, Fit fn.ntmps ρ a → ∃ v, (results fn a.tmps).run P w = .ok v w ∧ R (.returned v) w) : DR P fn R e ρ w := by
 rcases he with rfl | rfl <;> exact h
theorem Bw {fn : Func} {R : Ending → World → Prop} {e : Exit} (t : Tmp) (he : e = .normal ∨ e = .ret) (hr : fn.results = #[.tmp t]) (h : R (.returned (ρ t)) w) : DR P fn R e ρ w := by
 rcases he with rfl | rfl <;> exact fun a ha => ⟨_, by have h1 := ha.get t; simp only [Array.getD_eq_getD_getElem?] at h1; simp [results, hr, h1], h⟩
theorem DV {fn : Func} {R : Ending → World → Prop} {e : Exit} (s t : Tmp) (he : e = .normal ∨ e = .ret) (hr : fn.results = #[.tmp s, .tmp t]) (h : R (.returned (.tuple #[ρ s, ρ t])) w) : DR P fn R e ρ w := by
 rcases he with rfl | rfl <;> exact fun a ha => ⟨_, by have h1 := ha.get t; have h2 := ha.get s; simp only [Array.getD_eq_getD_getElem?] at h1 h2; simp [results, hr, h1, h2], h⟩
theorem LQ {fn : Func} {R : Ending → World → Prop} {e : Exit} (s t u : Tmp) (he : e = .normal ∨ e = .ret) (hr : fn.results = #[.tmp s, .tmp t, .tmp u]) (h : R (.returned (.tuple #[ρ s, ρ t, ρ u])) w) : DR P fn R e ρ w := by
 rcases he with rfl | rfl <;> exact fun a ha => ⟨_, by have h1 := ha.get t; have h2 := ha.get s; have h3 := ha.get u; simp only [Array.getD_eq_getD_getElem?] at h1 h2 h3; simp [results, hr, h1, h2, h3], h⟩
def Ag (ops : Array Oper) (ρ : Env) (o : Oper) : Bool := match o.guard with
 | none => true
 | some (j, b) => match (ops[j]?).bind (·.dst) with
  | some d => match ρ d with
   | .bool c => c == b
   | _ => false
  | none => false
theorem Dl {ops : Array Oper} {o : Oper} {a : Act} (ha : Fit N ρ a) : Region.wanted o (yielded ops a.tmps) = Ag ops ρ o := by
 unfold Region.wanted Ag
 cases o.guard with
 | none => rfl
 | some g =>
  obtain ⟨j, b⟩ := g
  simp only [yielded]
  cases hd : (ops[j]?).bind (·.dst) with
  | none => simp
  | some d =>
   have h1 := ha.get d
   rw [Array.getD_eq_getD_getElem?] at h1
   simp only [Option.bind_some]
   cases h2 : a.tmps[d]? with
   | none =>
    rw [h2] at h1
    simp only [Option.getD_none] at h1
    rw [← h1]
    rfl
   | some v =>
    rw [h2] at h1
    simp only [Option.getD_some] at h1
    rw [← h1]
    cases v <;> rfl
def WL (P : Program) (N : Nat) (ops : Array Oper) (Q : A9) (l : List Oper) (ρ : Env) (w : World) : Prop := ∀ a, Fit N ρ a → wpList P ops (J7 N Q) l a w
theorem Ab {id : Nat} {l : List Oper} (h : WL P N l.toArray Q l ρ w) : W P N (.region id l.toArray false) Q ρ w := fun a ha => wp_region_lit (h a ha)
def Ar (P : Program) (ρ : Env) (o : Oper) (w : World) (v : Value) : Prop := (execOp (ev ρ) o).run P w = .ok (.value v) w
section
variable {ops : Array Oper} {o : Oper} {rest : List Oper} {v : Value} {d : Nat} {w' : World}
theorem Aa (h : Q .normal ρ w) : WL P N ops Q [] ρ w := fun _ ha => ⟨ρ, ha, h⟩
theorem LA {a : Act} (hd : o.dst = some d) (hN : Nat.blt d N = true) (ha : Fit N ρ a) (v : Value) : Fit N (upd ρ d v) (a.put o.dst v) := by
 rw [hd]
 exact ha.put (Nat.le_of_ble_eq_true hN) v
theorem Af (hw : Ag ops ρ o = true) (hd : o.dst = some d) (hN : Nat.blt d N = true) (hr : Ar P ρ o w v) (h : WL P N ops Q rest (upd ρ d v) w) : WL P N ops Q (o :: rest) ρ w := by
 intro a ha
 unfold wpList
 rw [Dl ha, if_pos hw]
 refine .inl ?_
 unfold Oper.wp
 rw [ha.eval, show (execOp (ev ρ) o).run P w = _ from hr]
 exact h _ (LA hd hN ha v)
theorem XX (hw : Ag ops ρ o = false) (hd : o.dst = some d) (hN : Nat.blt d N = true) (h : WL P N ops Q rest (upd ρ d undef) w) : WL P N ops Q (o :: rest) ρ w := by
 intro a ha
 unfold wpList
 rw [Dl ha, if_neg (by rw [hw]; simp)]
 exact h _ (LA hd hN ha _)
theorem V4 (h0_ : @Eq _ (Ag ops ρ o, o.dst, Nat.blt d N) (false, some d, true)) (h1_ : WL P N ops Q rest (upd ρ d undef) w) : WL P N ops Q (o :: rest) ρ w := XX (q1 h0_) (q1 (q2 h0_)) (q2 (q2 h0_)) h1_
theorem Fg (hw : Ag ops ρ o = true) (hd : o.dst = some d) (hN : Nat.blt d N = true) (hr : (execOp (ev ρ) o).run P w = .ok (.value v) w') (h : WL P N ops Q rest (upd ρ d v) w') : WL P N ops Q (o :: rest) ρ w := by
 intro a ha
 unfold wpList
 rw [Dl ha, if_pos hw]
 refine .inl ?_
 unfold Oper.wp
 rw [ha.eval, hr]
 exact h _ (LA hd hN ha v)
theorem IW (hw : Ag ops ρ o = true) (hd : o.dst = none) (hr : (execOp (ev ρ) o).run P w = .ok .skip w') (h : WL P N ops Q rest ρ w') : WL P N ops Q (o :: rest) ρ w := by
 intro a ha
 unfold wpList
 rw [Dl ha, if_pos hw]
 refine .inl ?_
 unfold Oper.wp
 rw [ha.eval, hr]
 simp only [Oper.upon, hd, Act.put]
 exact h _ ha
theorem Ob {f : FuncId} {args : Array Value} (hw : Ag ops ρ o = true) (hd : o.dst = some d) (hN : Nat.blt d N = true) (hr : (execOp (ev ρ) o).run P w = .ok (.enter f args) w)
  (h : Calls P f args w fun e w' => ∃ v, e = .returned v ∧ WL P N ops Q rest (upd ρ d v) w') : WL P N ops Q (o :: rest) ρ w := by
 intro a ha
 unfold wpList
 rw [Dl ha, if_pos hw]
 refine .inl ?_
 unfold Oper.wp
 rw [ha.eval, hr]
 refine Calls.mono h fun e w' he => ?_
 obtain ⟨v, rfl, hv⟩ := he
 exact hv _ (LA hd hN ha v)
end
theorem XP {c : Code} (h : ∀ a, Fit N ρ a → c.wp P (J7 N Q) a w) : W P N c Q ρ w := h
theorem IX {ops : Array Oper} {l : List Oper} (h : WL P N ops Q l ρ w) : ∀ a, Fit N ρ a → wpList P ops (J7 N Q) l a w := h
end
attribute [irreducible] W WL DR
end Go.Proofs.YtkkmokodaejheaaDoor
namespace Go.Proofs.YtkkmokodaejheaaDoor
open Go
section
variable {P : Program} {ops : Array Oper} {Q : Exit → Act → World → Prop} {md : Region.Mode} {S : World → Prop} {T : List Nat}
def Km (P : Program) (md : Region.Mode) (ops : Array Oper) (Q : Exit → Act → World → Prop) (S : World → Prop) (T : List Nat) : Nat → Array Bool → Act → World → Prop
 | 0, listed, a, w => Region.ready md ops listed = [] ∧ Q .normal a w
 | fuel + 1, listed, a, w =>
  (Region.ready md ops listed = [] → Q .normal a w) ∧
  ∀ i ∈ Region.ready md ops listed, wpOp P ops Q i (fun a' w' => if T.contains i then wpAny P md ops Q fuel (listed.setIfInBounds i true) a' w' else S w' ∧ Km P md ops Q S T fuel (listed.setIfInBounds i true) a' w') a w
theorem Kl : ∀ (fuel : Nat) (listed : Array Bool) (a : Act) (w : World), Km P md ops Q S T fuel listed a w → wpAny P md ops Q fuel listed a w
 | 0, _, _, _, h => h
 | fuel + 1, _, _, _, h => ⟨h.1, fun i hi => wpOp_mono (fun a' w' h' => by
   split at h'
   ·exact h'
   ·exact Kl fuel _ a' w' h'.2) (h.2 i hi)⟩
def GM (md : Region.Mode) (ops : Array Oper) (listed : Array Bool) : Bool := (List.range ops.size).all fun k =>
 !listed.getD k false || match ops[k]? with
 | some o => o.after.all fun e => !Region.binds md e || listed.getD e.on false
 | none => true
def Jh (md : Region.Mode) (ops : Array Oper) : Nat → Nat → Nat → Bool
 | 0, _, _ => false
 | n + 1, t, i => match ops[t]? with
  | some o => o.after.any fun e => Region.binds md e && (e.on == i || Jh md ops n e.on i)
  | none => false
theorem JZ {listed : Array Bool} (hc : GM md ops listed = true) {k : Nat} {o : Oper} (ho : ops[k]? = some o) (hk : listed.getD k false = true) :
  ∀ e ∈ o.after, Region.binds md e = true → listed.getD e.on false = true := by
 intro e he hb
 have hlt : k < ops.size := (Array.getElem?_eq_some_iff.1 ho).1
 have h1 := List.all_eq_true.1 hc k (List.mem_range.2 hlt)
 simp only [hk, ho, Bool.not_true, Bool.false_or] at h1
 have h2 := Array.all_eq_true_iff_forall_mem.1 h1 e he
 simpa [hb] using h2
theorem Ip {listed : Array Bool} (hc : GM md ops listed = true) : ∀ (n t i : Nat), Jh md ops n t i = true →
  (∀ o, ops[t]? = some o → ∀ e ∈ o.after, Region.binds md e = true → listed.getD e.on false = true) → listed.getD i false = true
 | 0, _, _, h, _ => by simp [Jh] at h
 | n + 1, t, i, h, ht => by
  unfold Jh at h
  cases ho : ops[t]? with
  | none => simp [ho] at h
  | some o =>
   simp only [ho] at h
   obtain ⟨e, he, hb⟩ := Array.any_eq_true'.1 h
   simp only [Bool.and_eq_true, Bool.or_eq_true, beq_iff_eq] at hb
   have h1 := ht o ho e he hb.1
   rcases hb.2 with h2 | h2
   ·rw [← h2]; exact h1
   ·exact Ip hc n e.on i h2 (fun o' ho' => JZ hc ho' h1)
theorem Ju {listed : Array Bool} {k : Nat} (h : listed.getD k true = false) : listed.getD k false = false ∧ k < listed.size := by
 have hlt : k < listed.size := by
  rcases Nat.lt_or_ge k listed.size with h' | h'
  ·exact h'
  ·simp [Array.getElem?_eq_none h'] at h
 refine ⟨?_, hlt⟩
 simpa [hlt] using h
theorem QM {listed : Array Bool} (hc : GM md ops listed = true) {j : Nat} (hj : j ∈ Region.ready md ops listed) : GM md ops (listed.setIfInBounds j true) = true := by
 obtain ⟨hjun, oj, hoj, hall⟩ := mem_ready.1 hj
 have hjs := (Ju hjun).2
 have up : ∀ m, listed.getD m false = true → (listed.setIfInBounds j true).getD m false = true := by
  intro m hm
  by_cases hjm : j = m
  ·subst hjm; simp [hjs]
  ·rw [getD_set_ne false hjm]; exact hm
 refine List.all_eq_true.2 fun k hk => ?_
 cases ho : ops[k]? with
 | none => simp
 | some o =>
  simp only [Bool.or_eq_true, Bool.not_eq_true']
  by_cases hjk : j = k
  ·subst hjk
   rw [hoj] at ho
   injection ho with ho
   subst ho
   refine .inr (Array.all_eq_true_iff_forall_mem.2 fun e he => ?_)
   cases hb : Region.binds md e with
   | false => rfl
   | true => simp only [Bool.not_true, Bool.false_or]; exact up _ (by simpa using hall e he hb)
  ·rw [getD_set_ne false hjk]
   cases hl : listed.getD k false with
   | false => exact .inl rfl
   | true =>
    refine .inr (Array.all_eq_true_iff_forall_mem.2 fun e he => ?_)
    cases hb : Region.binds md e with
    | false => rfl
    | true => simp only [Bool.not_true, Bool.false_or]; exact up _ (JZ hc ho hl e he hb)
theorem Nn {i : Nat} {oi : Oper} {v : Value} (hi : ops[i]? = some oi) (hsel : ∀ (j : Nat) (o : Oper) cs b, ops[j]? = some o → o.op ≠ .select cs b)
  (hQ : ∀ c a w, Q (.panic c) (a.put oi.dst v) w → Q (.panic c) a w) (hT : ∀ t ∈ T, Jh md ops ops.size t i = true) (hiT : T.contains i = false) :
  ∀ (fuel : Nat) (listed : Array Bool) (a : Act) (w : World),
   (∀ j oj, ops[j]? = some oj → j ≠ i → listed.getD j true = false → (∀ e ∈ oj.after, Region.binds md e = true → e.on ≠ i) → oi.apart ops oj = true) →
   GM md ops listed = true → i ∈ Region.ready md ops listed → Ea P ops S oi v a → S w →
   Km P md ops Q S T fuel (listed.setIfInBounds i true) (a.put oi.dst v) w → Km P md ops Q S T (fuel + 1) listed a w := by
 intro fuel
 induction fuel with
 | zero =>
  intro listed a w _ _ hr hy hS H
  refine ⟨fun h => (by rw [h] at hr; cases hr), fun j hj => ?_⟩
  by_cases hji : j = i
  ·subst hji; exact hy.wpOp hi hS (by rw [hiT]; exact ⟨hS, H⟩)
  ·have := ready_mono hj hji
   rw [H.1] at this
   cases this
 | succ fuel ih =>
  intro listed a w hfree hcl hr hy hS H
  have hiun := (mem_ready.1 hr).1
  refine ⟨fun h => (by rw [h] at hr; cases hr), fun j hj => ?_⟩
  by_cases hji : j = i
  ·subst hji; exact hy.wpOp hi hS (by rw [hiT]; exact ⟨hS, H⟩)
  ·have h1 := H.2 j (ready_mono hj hji)
   obtain ⟨hjun, oj, hoj, hall⟩ := mem_ready.1 hj
   have hjT : T.contains j = false := by
    cases hc : T.contains j with
    | false => rfl
    | true =>
     have h2 := Ip hcl ops.size j i (hT j (by simpa using hc)) (fun o ho => by rw [hoj] at ho; injection ho with ho; subst ho; exact fun e he hb => by simpa using hall e he hb)
     rw [(Ju hiun).1] at h2
     cases h2
   rw [hjT] at h1 ⊢
   have hnot : ∀ e ∈ oj.after, Region.binds md e = true → e.on ≠ i := fun e he hbd heq => by
    have h1 := hall e he hbd
    rw [heq] at h1
    have h0 := Ju hiun
    simp [h0.2] at h0 h1
    rw [h0] at h1
    cases h1
   have hap := hfree j oj hoj hji hjun hnot
   have hyF : YieldsIf P ops (fun _ => False) oi v a := hy.imp (fun h => ⟨h.1, fun _ h => h.elim⟩) id
   have h2 := PO hoj (wpOp_putIf hoj hap (fun cs b => hsel i oi cs b hi) (fun cs b => hsel j oj cs b hoj) hQ hyF h1)
   have hfree' : ∀ k ok, ops[k]? = some ok → k ≠ i → (listed.setIfInBounds j true).getD k true = false →
     (∀ e ∈ ok.after, Region.binds md e = true → e.on ≠ i) → oi.apart ops ok = true := fun k ok hk hki hun hno => by
    refine hfree k ok hk hki ?_ hno
    by_cases hjk : j = k
    ·subst hjk; exact hjun
    ·rw [getD_set_ne true hjk] at hun; exact hun
   refine wpOp_mono (fun a' w' h3 => ?_) h2
   obtain ⟨⟨u, ds, ha'⟩, h3⟩ := h3
   simp only [Bool.false_eq_true, if_false] at h3 ⊢
   have hy' : Ea P ops S oi v a' := by
    obtain ⟨_, _, h3'⟩ := Oper.apart_spec hap
    rw [ha']
    have hyd : Ea P ops S oi v { a with defers := ds } := hy.of_same rfl rfl
    exact hyd.of_same (execOp_put oi (fun cs b => hsel i oi cs b hi) _ oj.dst u h3') (wanted_put oi _ oj.dst u h3')
   replace h3 := h3.2
   refine ⟨h3.1, ih (listed.setIfInBounds j true) a' w' hfree' (QM hcl hj) (ready_mono hr (Ne.symm hji)) hy' h3.1 ?_⟩
   rw [Array.setIfInBounds_comm _ _ hji]
   exact h3.2
end
def WT (P : Program) (N : Nat) (ops : Array Oper) (Q : A9) (S : World → Prop) (T : List Nat) (fuel : Nat) (listed : Array Bool) (ρ : Env) (w : World) : Prop :=
 ∀ a, Fit N ρ a → Km P .any ops (J7 N Q) S T fuel listed a w
def WA (P : Program) (N : Nat) (ops : Array Oper) (Q : A9) (fuel : Nat) (listed : Array Bool) (ρ : Env) (w : World) : Prop :=
 ∀ a, Fit N ρ a → wpAny P .any ops (J7 N Q) fuel listed a w
def EP (ops : Array Oper) (T : List Nat) (N : Nat) (listed : Array Bool) (i d : Nat) : Bool :=
 (Region.ready .any ops listed).contains i && Region.free .any ops listed i && GM .any ops listed && Region.noSelect ops && Nat.blt d N && !T.contains i && T.all (fun t => Jh .any ops ops.size t i) && (!(Nat.beq N 43) || !(Nat.beq d 4))
section
variable {P : Program} {N : Nat} {ops : Array Oper} {Q : A9} {S : World → Prop} {T : List Nat} {fuel : Nat} {listed : Array Bool} {ρ : Env} {w : World} {o : Oper} {v : Value} {d : Nat}
theorem BB {id : Nat} (hm : P.follows .mixedOrders = true) (h : WA P N ops Q ops.size (Array.replicate ops.size false) ρ w.drew) : W P N (.region id ops true) Q ρ w :=
 XP fun a ha => wp_region_any hm (h a ha)
theorem Cm (S : World → Prop) (T : List Nat) (h : WT P N ops Q S T fuel listed ρ w) : WA P N ops Q fuel listed ρ w := fun a ha => Kl _ _ _ _ (h a ha)
theorem Mh {i : Nat} (ho : ops[i]? = some o) (hd : o.dst = some d) (hB : EP ops T N listed i d = true) (hS : S w)
  (hy : ∀ a, Fit N ρ a → Ea P ops S o v a) (h : WT P N ops Q S T fuel (listed.setIfInBounds i true) (upd ρ d v) w) : WT P N ops Q S T (fuel + 1) listed ρ w := by
 intro a ha
 unfold EP at hB
 obtain ⟨hB, h8⟩ := (Bool.and_eq_true _ _).mp hB
 simp only [Bool.and_eq_true, Bool.not_eq_true', List.all_eq_true] at hB
 obtain ⟨⟨⟨⟨⟨⟨h1, h2⟩, h3⟩, h4⟩, h5⟩, h6⟩, h7⟩ := hB
 exact Nn ho (Region.noSelect_spec h4) (fun c a w h => ⟨by have h1 := h.1; rw [hd] at h1; exact h1, by have h2 := h.2; rw [hd, U5 h8] at h2; exact h2⟩) h7 h6 _ listed a w (Region.free_spec ho h2) h3 (by simpa using h1) (hy a ha) hS (h _ (LA hd h5 ha v))
theorem Ae (i : Nat) (ho : ops[i]? = some o) (hd : o.dst = some d) (hB : EP ops T N listed i d = true) (hS : S w) (hw : Ag ops ρ o = true)
  (hr : ∀ W, S W → Ar P ρ o W v) (h : WT P N ops Q S T fuel (listed.setIfInBounds i true) (upd ρ d v) w) : WT P N ops Q S T (fuel + 1) listed ρ w :=
 Mh ho hd hB hS (fun a ha => .inl ⟨by rw [Dl ha]; exact hw, fun W hW => by
  unfold Nu
  rw [ha.eval, show (execOp (ev ρ) o).run P W = _ from hr W hW]
  exact ⟨rfl, rfl⟩⟩) h
theorem XQ (i : Nat) (ho : ops[i]? = some o) (hd : o.dst = some d) (hB : EP ops T N listed i d = true) (hS : S w) (hw : Ag ops ρ o = false)
  (h : WT P N ops Q S T fuel (listed.setIfInBounds i true) (upd ρ d undef) w) : WT P N ops Q S T (fuel + 1) listed ρ w :=
 Mh ho hd hB hS (fun a ha => .inr ⟨by rw [Dl ha]; exact hw, rfl⟩) h
theorem Vn (i : Nat) (h0_ : @Eq _ (ops[i]?, o.dst) (some o, some d)) (hS : S w) (h2_ : Ag ops ρ o = false) (h3_ : WT P N ops Q S T fuel (listed.setIfInBounds i true) (upd ρ d undef) w) (h1_ : EP ops T N listed i d = true := by kernel_rfl) : WT P N ops Q S T (fuel + 1) listed ρ w := XQ i (q1 h0_) (q2 h0_) h1_ hS h2_ h3_
theorem Dx {K : Act → World → Prop} {L : Env → World → Prop} {k : Nat} {a : Act} (ho : ops[k]? = some o) (h : wpList P ops (J7 N (Cy L Q)) [o] a w)
  (hK : ∀ ρ' a' w', Fit N ρ' a' → L ρ' w' → K a' w') : wpOp P ops (J7 N Q) k K a w := by
 unfold wpOp
 simp only [ho]
 unfold wpList at h
 split
 ·rename_i hw
  simp only [hw, if_true] at h
  rcases h with h | ⟨h1, h2⟩
  ·refine .inl ?_
   unfold Oper.wp at *
   generalize (execOp a.eval o).run P w = r at *
   cases r with
   | ok n w' =>
    cases n <;> simp only [Oper.upon, wpList] at h ⊢
    case value u => obtain ⟨ρ', h1, h2⟩ := h; exact hK _ _ _ h1 h2
    case skip => obtain ⟨ρ', h1, h2⟩ := h; exact hK _ _ _ h1 h2
    case defer d => obtain ⟨ρ', h1, h2⟩ := h; exact hK _ _ _ h1 h2
    case enter f args =>
     refine Calls.mono h fun e w'' he => ?_
     cases e with
     | returned u => obtain ⟨ρ', h1, h2⟩ := he; exact hK _ _ _ h1 h2
     | panicked c => exact he
     | outgrown => obtain ⟨a, w, h⟩ := he; exact h.elim
    case row row args => exact Rows.mono h fun u w'' he => by obtain ⟨ρ', h1, h2⟩ := he; exact hK _ _ _ h1 h2
   | halt x w' => cases x <;> simp only [Oper.upon] at h ⊢ <;> exact h
  ·obtain ⟨a, w, h⟩ := h2; exact h.elim
 ·rename_i hw
  simp only [hw] at h
  obtain ⟨ρ', h1, h2⟩ := h; exact hK _ _ _ h1 h2
theorem Zz (k : Nat) (ho : ops[k]? = some o) (hr : Region.ready .any ops listed = [k]) (hT : T.contains k = false)
  (h : WL P N ops (Cy (fun ρ' w' => S w' ∧ WT P N ops Q S T fuel (listed.setIfInBounds k true) ρ' w') Q) [o] ρ w) : WT P N ops Q S T (fuel + 1) listed ρ w := by
 intro a ha
 refine ⟨fun h0 => (by rw [hr] at h0; cases h0), fun i hi => ?_⟩
 rw [hr] at hi
 obtain rfl : i = k := by simpa using hi
 rw [hT]
 exact Dx ho (IX h a ha) fun ρ' a' w' h1 h2 => ⟨h2.1, h2.2 _ h1⟩
theorem V2 (k : Nat) (h0_ : @Eq _ (ops[k]?, T.contains k) (some o, false)) (h2_ : WL P N ops (Cy (fun ρ' w' => S w' ∧ WT P N ops Q S T fuel (listed.setIfInBounds k true) ρ' w') Q) [o] ρ w) (h1_ : Region.ready .any ops listed = [k] := by kernel_rfl) : WT P N ops Q S T (fuel + 1) listed ρ w := Zz k (q1 h0_) h1_ (q2 h0_) h2_
theorem HY (k : Nat) (ho : ops[k]? = some o) (hr : Region.ready .any ops listed = [k])
  (h : WL P N ops (Cy (fun ρ' w' => WA P N ops Q fuel (listed.setIfInBounds k true) ρ' w') Q) [o] ρ w) : WA P N ops Q (fuel + 1) listed ρ w := by
 intro a ha
 refine ⟨fun h0 => (by rw [hr] at h0; cases h0), fun i hi => ?_⟩
 rw [hr] at hi
 obtain rfl : i = k := by simpa using hi
 exact Dx ho (IX h a ha) fun ρ' a' w' h1 h2 => h2 _ h1
theorem Zy (j k : Nat) {oj ok : Oper} (hj : ops[j]? = some oj) (hk : ops[k]? = some ok) (hr : Region.ready .any ops listed = [j, k]) (hjT : T.contains j = false) (hkT : T.contains k = false)
  (h1 : WL P N ops (Cy (fun ρ' w' => S w' ∧ WT P N ops Q S T fuel (listed.setIfInBounds j true) ρ' w') Q) [oj] ρ w)
  (h2 : WL P N ops (Cy (fun ρ' w' => S w' ∧ WT P N ops Q S T fuel (listed.setIfInBounds k true) ρ' w') Q) [ok] ρ w) : WT P N ops Q S T (fuel + 1) listed ρ w := by
 intro a ha
 refine ⟨fun h0 => (by rw [hr] at h0; cases h0), fun i hi => ?_⟩
 rw [hr] at hi
 rcases List.mem_cons.1 hi with rfl | hi
 ·rw [hjT]
  exact Dx hj (IX h1 a ha) fun ρ' a' w' h1 h2 => ⟨h2.1, h2.2 _ h1⟩
 ·obtain rfl : i = k := by simpa using hi
  rw [hkT]
  exact Dx hk (IX h2 a ha) fun ρ' a' w' h1 h2 => ⟨h2.1, h2.2 _ h1⟩
theorem T1 {oj : Oper} {ok : Oper} (j : Nat) (k : Nat) (h0_ : @Eq _ (ops[j]?, ops[k]?, T.contains j, T.contains k) (some oj, some ok, false, false)) (h2_ : WL P N ops (Cy (fun ρ' w' => S w' ∧ WT P N ops Q S T fuel (listed.setIfInBounds j true) ρ' w') Q) [oj] ρ w) (h3_ : WL P N ops (Cy (fun ρ' w' => S w' ∧ WT P N ops Q S T fuel (listed.setIfInBounds k true) ρ' w') Q) [ok] ρ w) (h1_ : Region.ready .any ops listed = [j, k] := by kernel_rfl) : WT P N ops Q S T (fuel + 1) listed ρ w := Zy j k (q1 h0_) (q1 (q2 h0_)) h1_ (q1 (q2 (q2 h0_))) (q2 (q2 (q2 h0_))) h2_ h3_
theorem HZ (hr : Region.ready .any ops listed = []) (h : Q .normal ρ w) : WA P N ops Q fuel listed ρ w := by
 intro a ha
 cases fuel with
 | zero => exact ⟨hr, ρ, ha, h⟩
 | succ n => exact ⟨fun _ => ⟨ρ, ha, h⟩, by rw [hr]; simp⟩
theorem Av (hr : Region.ready .any ops listed = []) (h : Q .normal ρ w) : WT P N ops Q S T fuel listed ρ w := by
 intro a ha
 cases fuel with
 | zero => exact ⟨hr, ρ, ha, h⟩
 | succ n => exact ⟨fun _ => ⟨ρ, ha, h⟩, by rw [hr]; simp⟩
theorem BV (hr : (Region.ready .any ops listed).all (fun i => T.contains i) = true) (h : WA P N ops Q fuel listed ρ w) : WT P N ops Q S T fuel listed ρ w := by
 intro a ha
 cases fuel with
 | zero => exact h a ha
 | succ n =>
  refine ⟨(h a ha).1, fun i hi => ?_⟩
  have := List.all_eq_true.1 hr i hi
  rw [this]
  exact (h a ha).2 i hi
end
attribute [irreducible] WT WA
end Go.Proofs.YtkkmokodaejheaaDoor
namespace Go.Proofs.YtkkmokodaejheaaDoor
open Go
structure Ent where
 D : Nat → Prop
 Φ : World → Prop
def Ent.ok (e : Ent) (w : World) : Prop :=
 e.Φ w ∧ (∀ k, e.D k → k < w.heap.size) ∧ ∀ (S : Nat → Prop) (w1 w2 : World), Chg S w1 w2 → (∀ k, e.D k → ¬ S k) → e.Φ w1 → e.Φ w2
def B (g : Nat) (t : TypeId) (cs : Array Value) : Ent := ⟨fun k => k = g, fun w => Blk w g t cs⟩
theorem B.ok {w : World} {g : Nat} {t : TypeId} {cs : Array Value} (h : Blk w g t cs) : (B g t cs).ok w :=
 ⟨h, fun k hk => by have : k = g := hk; rw [this]; exact h.lt, fun S w1 w2 hc hS h1 => Blk.chg h1 hc (hS g rfl)⟩
theorem Ent.ok.chg {e : Ent} {w w' : World} {S : Nat → Prop} (h : e.ok w) (hc : Chg S w w') (hS : ∀ k, e.D k → ¬ S k) : e.ok w' :=
 ⟨h.2.2 S w w' hc hS h.1, fun k hk => Nat.lt_of_lt_of_le (h.2.1 k hk) hc.size, h.2.2⟩
structure Inv (S : Nat → Prop) (w0 w : World) (H : List Ent) : Prop where
 chg : Chg S w0 w
 ok : ∀ e ∈ H, e.ok w
 own : ∀ e ∈ H, ∀ k, e.D k → S k ∨ w0.heap.size ≤ k
 apart : H.Pairwise fun e e' => ∀ k, e.D k → ¬ e'.D k
section
variable {S : Nat → Prop} {w0 w w' : World} {H : List Ent} {g : Nat} {t : TypeId} {cs : Array Value}
theorem Inv.start (S : Nat → Prop) (w : World) : Inv S w w [] := ⟨Chg.refl S w, by simp, by simp, .nil⟩
theorem Inv.pure (h : Inv S w0 w H) (hp : Pure w w') : Inv S w0 w' H :=
 ⟨h.chg.pure hp, fun e he => (h.ok e he).chg (hp.chg (fun _ => False)) (fun _ _ h => h), h.own, h.apart⟩
theorem Inv.drew (h : Inv S w0 w H) : Inv S w0 w.drew H := h.pure (Pure.refl w).drew
theorem Inv.alloc (h : Inv S w0 w H) (o : Obj) : Inv S w0 (w.alloc o) H := h.pure ((Pure.refl w).alloc o)
theorem Inv.fresh {e : Ent} (h : Inv S w0 w H) (hp : Pure w w') (he : e.ok w') (hD : ∀ k, e.D k → w.heap.size ≤ k) : Inv S w0 w' (e :: H) := by
 have h' := h.pure hp
 refine ⟨h'.chg, fun x hx => ?_, fun x hx k hk => ?_, ?_⟩
 ·rcases List.mem_cons.1 hx with rfl | hx
  ·exact he
  ·exact h'.ok x hx
 ·rcases List.mem_cons.1 hx with rfl | hx
  ·exact .inr (Nat.le_trans h.chg.size (hD k hk))
  ·exact h'.own x hx k hk
 ·refine List.pairwise_cons.2 ⟨fun x hx k hk hxk => ?_, h'.apart⟩
  have h1 := (h.ok x hx).2.1 k hxk
  have h2 := hD k hk
  omega
theorem Inv.box (h : Inv S w0 w H) (t : TypeId) (cs : Array Value) : Inv S w0 (w.alloc (.cells cs t)) (B w.heap.size t cs :: H) :=
 h.fresh ((Pure.refl w).alloc _) (B.ok (Blk.new w t cs)) (fun k hk => by have : k = w.heap.size := hk; omega)
theorem Inv.erase (h : Inv S w0 w H) (i : Nat) : Inv S w0 w (H.eraseIdx i) :=
 ⟨h.chg, fun e he => h.ok e (List.mem_of_mem_eraseIdx he), fun e he => h.own e (List.mem_of_mem_eraseIdx he), h.apart.sublist (List.eraseIdx_sublist ..)⟩
theorem Inv.disj (h : Inv S w0 w H) {i j : Nat} {e e' : Ent} (hi : H[i]? = some e) (hj : H[j]? = some e') (hne : i ≠ j) : ∀ k, e.D k → ¬ e'.D k := by
 obtain ⟨hi', hie⟩ := List.getElem?_eq_some_iff.1 hi
 obtain ⟨hj', hje⟩ := List.getElem?_eq_some_iff.1 hj
 subst hie hje
 rcases Nat.lt_or_gt_of_ne hne with hlt | hlt
 ·exact List.pairwise_iff_getElem.1 h.apart i j hi' hj' hlt
 ·exact fun k h1 h2 => List.pairwise_iff_getElem.1 h.apart j i hj' hi' hlt k h2 h1
theorem Inv.upd {e e' : Ent} (h : Inv S w0 w H) (i : Nat) (hi : H[i]? = some e) (hc : Chg e.D w w') (ho : e'.ok w') (hD : ∀ k, e'.D k → e.D k ∨ w.heap.size ≤ k) : Inv S w0 w' (H.set i e') := by
 have hmem := List.mem_of_getElem? hi
 have hlt : i < H.length := (List.getElem?_eq_some_iff.1 hi).1
 have hk : ∀ (j : Nat) (x : Ent), H[j]? = some x → i ≠ j → ∀ k, x.D k → ¬ e'.D k := fun j x hj hij k h1 h2 => by
  rcases hD k h2 with h3 | h3
  ·exact h.disj hi hj hij k h3 h1
  ·have := (h.ok x (List.mem_of_getElem? hj)).2.1 k h1; omega
 refine ⟨h.chg.trans' hc fun k hk1 hk2 => ?_, fun x hx => ?_, fun x hx k hxk => ?_, ?_⟩
 ·rcases h.own e hmem k hk2 with h1 | h1
  ·exact h1
  ·omega
 ·obtain ⟨j, hj⟩ := List.getElem?_of_mem hx
  rw [List.getElem?_set] at hj
  split at hj
  ·rename_i hij
   subst hij
   injection hj with hj
   subst hj
   exact ho
  ·rename_i hij
   exact (h.ok x (List.mem_of_getElem? hj)).chg hc (fun k h1 h2 => h.disj hi hj hij k h2 h1)
 ·rcases List.mem_or_eq_of_mem_set hx with hx | rfl
  ·exact h.own x hx k hxk
  ·rcases hD k hxk with h3 | h3
   ·exact h.own e hmem k h3
   ·exact .inr (Nat.le_trans h.chg.size h3)
 ·rw [List.pairwise_iff_getElem]
  intro a b ha hb hab k h1 h2
  rw [List.length_set] at ha hb
  rw [List.getElem_set] at h1 h2
  split at h1
  ·rename_i hia
   subst hia
   rw [if_neg (by omega)] at h2
   exact hk b _ (List.getElem?_eq_getElem hb) (by omega) k h2 h1
  ·rename_i hia
   split at h2
   ·exact hk a _ (List.getElem?_eq_getElem ha) hia k h1 h2
   ·exact List.pairwise_iff_getElem.1 h.apart a b ha hb hab k h1 h2
theorem Inv.cell (h : Inv S w0 w H) (i : Nat) (hi : H[i]? = some (B g t cs)) {j : Nat} {v : Value} (hc : cs[j]? = some v) : w.cell? ⟨g, j, none⟩ = some v :=
 (((h.ok _ (List.mem_of_getElem? hi)).1 : Blk w g t cs).cell j).trans hc
theorem Inv.set (h : Inv S w0 w H) (i : Nat) (hi : H[i]? = some (B g t cs)) (j : Nat) (v : Value) : Inv S w0 (w.setCell ⟨g, j, none⟩ v) (H.set i (B g t (cs.setIfInBounds j v))) :=
 h.upd i hi ((Chg.refl (B g t cs).D w).setCell (p := ⟨g, j, none⟩) (.inl rfl) v) (B.ok (((h.ok _ (List.mem_of_getElem? hi)).1 : Blk w g t cs).set_ j v)) (fun _ hk => .inl hk)
theorem Inv.old (h : Inv S w0 w H) {p : Addr} {v : Value} (hv : w0.cell? p = some v) (hS : ¬ S p.block) : w.cell? p = some v :=
 (World.cell?_of_block (h.chg.block p.block (World.block_lt_of_cell? w0 _ hv) hS)).trans hv
theorem Inv.pu (h : Inv (fun _ => False) w0 w H) : Pure w0 w := h.chg.toPure
theorem Inv.oldp (h : Inv (fun _ => False) w0 w H) {p : Addr} {v : Value} (hv : w0.cell? p = some v) : w.cell? p = some v := h.old hv (fun h => h)
theorem Inv.lt (h : Inv S w0 w (B g t cs :: H)) : g < w.heap.size := ((h.ok _ (List.mem_cons_self ..)).1 : Blk w g t cs).lt
end
def szB (P : Program) (t n : Nat) : Bool := match P.info? t with | some i => i.size == n | none => false
def Hm (P : Program) (t : Nat) : Bool := match P.underlying t with | none => false | some (.struct _) => false | some (.array _ _) => false | _ => true
def Pz (P : Program) (t : Nat) : Bool := match P.underlying t with | some (.struct _) => true | some (.array _ _) => true | _ => false
def VD (P : Program) (s i off : Nat) : Bool := match P.underlying s with
 | some (.struct fs) => match fs[i]? with
  | some f => (f.offset == off) && (match P.info? f.type with | some j => j.size != 0 | none => false)
  | none => false
 | _ => false
theorem Cc {P : Program} {w : World} {t n : Nat} (h : szB P t n = true) : (sizeOf t).run P w = .ok n w := by
 unfold szB at h
 cases hi : P.info? t with
 | none => simp [hi] at h
 | some i => simp only [hi, beq_iff_eq] at h; simp [sizeOf, typeInfo, hi, h]
theorem run_isAgg_plain {P : Program} {w : World} {t : Nat} (h : Hm P t = true) : (isAgg t).run P w = .ok false w := by
 unfold Hm at h
 cases hi : P.underlying t with
 | none => simp [hi] at h
 | some i => cases i <;> simp [hi] at h <;> simp [isAgg, run_underlying hi]
theorem GV {P : Program} {w : World} {t : Nat} (h : Pz P t = true) : (isAgg t).run P w = .ok true w := by
 unfold Pz at h
 cases hi : P.underlying t with
 | none => simp [hi] at h
 | some i => cases i <;> simp [hi] at h <;> simp [isAgg, run_underlying hi]
section
variable {P : Program} {ρ : Env} {o : Oper} {w : World} {x y z : Operand} {v : Value}
theorem ES (ho : o.op = .move x) : Ar P ρ o w (ev ρ x) := by simp [Ar, execOp, ho]
theorem Iw (ho : o.op = .assign x) : Ar P ρ o w (ev ρ x) := by simp [Ar, execOp, ho]
theorem NG {k : IntKind} {n : Int} (ho : o.op = .move x) (hx : ev ρ x = .int k n) : Ar P ρ o w (.int k n) := hx ▸ ES ho
theorem V0 {N_ : Nat} {ops_ : Array Oper} {Q_ : A9} {rest_ : List Oper} {d_ : Nat} {k : IntKind} {n : Int} (h0_ : @Eq _ (Ag ops_ ρ o, o.dst, Nat.blt d_ N_, o.op, ev ρ x) (true, some d_, true, .move x, .int k n)) (K_ : WL P N_ ops_ Q_ rest_ (upd ρ d_ (.int k n)) w) : WL P N_ ops_ Q_ (o :: rest_) ρ w := Af (q1 h0_) (q1 (q2 h0_)) (q1 (q2 (q2 h0_))) (NG (q1 (q2 (q2 (q2 h0_)))) (q2 (q2 (q2 (q2 h0_))))) K_
theorem Vs {N_ : Nat} {ops_ : Array Oper} {Q_ : A9} {S_ : World → Prop} {T_ : List Nat} {f_ : Nat} {l_ : Array Bool} {d_ : Nat} (i_ : Nat) {k : IntKind} {n : Int} (hS_ : S_ w) (h0_ : @Eq _ (ops_[i_]?, o.dst, Ag ops_ ρ o, o.op, ev ρ x) (some o, some d_, true, .move x, .int k n)) (K_ : WT P N_ ops_ Q_ S_ T_ f_ (l_.setIfInBounds i_ true) (upd ρ d_ (.int k n)) w) (hB_ : EP ops_ T_ N_ l_ i_ d_ = true := by kernel_rfl) : WT P N_ ops_ Q_ S_ T_ (f_ + 1) l_ ρ w := Ae i_ (q1 h0_) (q1 (q2 h0_)) hB_ hS_ (q1 (q2 (q2 h0_))) (fun W_ hW_ => NG (q1 (q2 (q2 (q2 h0_)))) (q2 (q2 (q2 (q2 h0_))))) K_
theorem Uk {b : Bool} (ho : o.op = .move x) (hx : ev ρ x = .bool b) : Ar P ρ o w (.bool b) := hx ▸ ES ho
theorem V5 {N_ : Nat} {ops_ : Array Oper} {Q_ : A9} {rest_ : List Oper} {d_ : Nat} {b : Bool} (h0_ : @Eq _ (Ag ops_ ρ o, o.dst, Nat.blt d_ N_, o.op, ev ρ x) (true, some d_, true, .move x, .bool b)) (K_ : WL P N_ ops_ Q_ rest_ (upd ρ d_ (.bool b)) w) : WL P N_ ops_ Q_ (o :: rest_) ρ w := Af (q1 h0_) (q1 (q2 h0_)) (q1 (q2 (q2 h0_))) (Uk (q1 (q2 (q2 (q2 h0_)))) (q2 (q2 (q2 (q2 h0_))))) K_
theorem Ti {N_ : Nat} {ops_ : Array Oper} {Q_ : A9} {S_ : World → Prop} {T_ : List Nat} {f_ : Nat} {l_ : Array Bool} {d_ : Nat} (i_ : Nat) {b : Bool} (hS_ : S_ w) (h0_ : @Eq _ (ops_[i_]?, o.dst, Ag ops_ ρ o, o.op, ev ρ x) (some o, some d_, true, .move x, .bool b)) (K_ : WT P N_ ops_ Q_ S_ T_ f_ (l_.setIfInBounds i_ true) (upd ρ d_ (.bool b)) w) (hB_ : EP ops_ T_ N_ l_ i_ d_ = true := by kernel_rfl) : WT P N_ ops_ Q_ S_ T_ (f_ + 1) l_ ρ w := Ae i_ (q1 h0_) (q1 (q2 h0_)) hB_ hS_ (q1 (q2 (q2 h0_))) (fun W_ hW_ => Uk (q1 (q2 (q2 (q2 h0_)))) (q2 (q2 (q2 (q2 h0_))))) K_
theorem NF {A : Option Addr} {n c : Nat} (ho : o.op = .move x) (hx : ev ρ x = .slice A n c) : Ar P ρ o w (.slice A n c) := hx ▸ ES ho
theorem V8 {N_ : Nat} {ops_ : Array Oper} {Q_ : A9} {rest_ : List Oper} {d_ : Nat} {A : Option Addr} {n : Nat} {c : Nat} (h0_ : @Eq _ (Ag ops_ ρ o, o.dst, Nat.blt d_ N_, o.op, ev ρ x) (true, some d_, true, .move x, .slice A n c)) (K_ : WL P N_ ops_ Q_ rest_ (upd ρ d_ (.slice A n c)) w) : WL P N_ ops_ Q_ (o :: rest_) ρ w := Af (q1 h0_) (q1 (q2 h0_)) (q1 (q2 (q2 h0_))) (NF (q1 (q2 (q2 (q2 h0_)))) (q2 (q2 (q2 (q2 h0_))))) K_
theorem Vv {N_ : Nat} {ops_ : Array Oper} {Q_ : A9} {S_ : World → Prop} {T_ : List Nat} {f_ : Nat} {l_ : Array Bool} {d_ : Nat} (i_ : Nat) {A : Option Addr} {n : Nat} {c : Nat} (hS_ : S_ w) (h0_ : @Eq _ (ops_[i_]?, o.dst, Ag ops_ ρ o, o.op, ev ρ x) (some o, some d_, true, .move x, .slice A n c)) (K_ : WT P N_ ops_ Q_ S_ T_ f_ (l_.setIfInBounds i_ true) (upd ρ d_ (.slice A n c)) w) (hB_ : EP ops_ T_ N_ l_ i_ d_ = true := by kernel_rfl) : WT P N_ ops_ Q_ S_ T_ (f_ + 1) l_ ρ w := Ae i_ (q1 h0_) (q1 (q2 h0_)) hB_ hS_ (q1 (q2 (q2 h0_))) (fun W_ hW_ => NF (q1 (q2 (q2 (q2 h0_)))) (q2 (q2 (q2 (q2 h0_))))) K_
theorem Qp {l : Array Value} (ho : o.op = .move x) (hx : ev ρ x = .tuple l) : Ar P ρ o w (.tuple l) := hx ▸ ES ho
theorem Ta {N_ : Nat} {ops_ : Array Oper} {Q_ : A9} {rest_ : List Oper} {d_ : Nat} {l : Array Value} (h0_ : @Eq _ (Ag ops_ ρ o, o.dst, Nat.blt d_ N_, o.op, ev ρ x) (true, some d_, true, .move x, .tuple l)) (K_ : WL P N_ ops_ Q_ rest_ (upd ρ d_ (.tuple l)) w) : WL P N_ ops_ Q_ (o :: rest_) ρ w := Af (q1 h0_) (q1 (q2 h0_)) (q1 (q2 (q2 h0_))) (Qp (q1 (q2 (q2 (q2 h0_)))) (q2 (q2 (q2 (q2 h0_))))) K_
theorem Ui {p : Option Addr} (ho : o.op = .move x) (hx : ev ρ x = .pointer p) : Ar P ρ o w (.pointer p) := hx ▸ ES ho
theorem T3 {N_ : Nat} {ops_ : Array Oper} {Q_ : A9} {S_ : World → Prop} {T_ : List Nat} {f_ : Nat} {l_ : Array Bool} {d_ : Nat} (i_ : Nat) {p : Option Addr} (hS_ : S_ w) (h0_ : @Eq _ (ops_[i_]?, o.dst, Ag ops_ ρ o, o.op, ev ρ x) (some o, some d_, true, .move x, .pointer p)) (K_ : WT P N_ ops_ Q_ S_ T_ f_ (l_.setIfInBounds i_ true) (upd ρ d_ (.pointer p)) w) (hB_ : EP ops_ T_ N_ l_ i_ d_ = true := by kernel_rfl) : WT P N_ ops_ Q_ S_ T_ (f_ + 1) l_ ρ w := Ae i_ (q1 h0_) (q1 (q2 h0_)) hB_ hS_ (q1 (q2 (q2 h0_))) (fun W_ hW_ => Ui (q1 (q2 (q2 (q2 h0_)))) (q2 (q2 (q2 (q2 h0_))))) K_
theorem T8 {N_ : Nat} {ops_ : Array Oper} {Q_ : A9} {rest_ : List Oper} {d_ : Nat} {p : Option Addr} (h0_ : @Eq _ (Ag ops_ ρ o, o.dst, Nat.blt d_ N_, o.op, ev ρ x) (true, some d_, true, .move x, .pointer p)) (K_ : WL P N_ ops_ Q_ rest_ (upd ρ d_ (.pointer p)) w) : WL P N_ ops_ Q_ (o :: rest_) ρ w := Af (q1 h0_) (q1 (q2 h0_)) (q1 (q2 (q2 h0_))) (Ui (q1 (q2 (q2 (q2 h0_)))) (q2 (q2 (q2 (q2 h0_))))) K_
theorem Fb (ho : o.op = .move x) (hx : ev ρ x = .nilIface) : Ar P ρ o w .nilIface := hx ▸ ES ho
theorem EH {t : TypeId} {u : Value} (ho : o.op = .move x) (hx : ev ρ x = .iface t u) : Ar P ρ o w (.iface t u) := hx ▸ ES ho
theorem YW {f : Fn} {a b : Array Value} (ho : o.op = .move x) (hx : ev ρ x = .func f a b) : Ar P ρ o w (.func f a b) := hx ▸ ES ho
theorem KW {s : ByteArray} (ho : o.op = .move x) (hx : ev ρ x = .string s) : Ar P ρ o w (.string s) := hx ▸ ES ho
theorem Uj {m : Option Nat} (ho : o.op = .move x) (hx : ev ρ x = .map m) : Ar P ρ o w (.map m) := hx ▸ ES ho
theorem Ji {k : IntKind} {n : Int} (ho : o.op = .assign x) (hx : ev ρ x = .int k n) : Ar P ρ o w (.int k n) := hx ▸ Iw ho
theorem V9 {N_ : Nat} {ops_ : Array Oper} {Q_ : A9} {rest_ : List Oper} {d_ : Nat} {k : IntKind} {n : Int} (h0_ : @Eq _ (Ag ops_ ρ o, o.dst, Nat.blt d_ N_, o.op, ev ρ x) (true, some d_, true, .assign x, .int k n)) (K_ : WL P N_ ops_ Q_ rest_ (upd ρ d_ (.int k n)) w) : WL P N_ ops_ Q_ (o :: rest_) ρ w := Af (q1 h0_) (q1 (q2 h0_)) (q1 (q2 (q2 h0_))) (Ji (q1 (q2 (q2 (q2 h0_)))) (q2 (q2 (q2 (q2 h0_))))) K_
theorem Jj {b : Bool} (ho : o.op = .assign x) (hx : ev ρ x = .bool b) : Ar P ρ o w (.bool b) := hx ▸ Iw ho
theorem V6 {N_ : Nat} {ops_ : Array Oper} {Q_ : A9} {rest_ : List Oper} {d_ : Nat} {b : Bool} (h0_ : @Eq _ (Ag ops_ ρ o, o.dst, Nat.blt d_ N_, o.op, ev ρ x) (true, some d_, true, .assign x, .bool b)) (K_ : WL P N_ ops_ Q_ rest_ (upd ρ d_ (.bool b)) w) : WL P N_ ops_ Q_ (o :: rest_) ρ w := Af (q1 h0_) (q1 (q2 h0_)) (q1 (q2 (q2 h0_))) (Jj (q1 (q2 (q2 (q2 h0_)))) (q2 (q2 (q2 (q2 h0_))))) K_
theorem Ur {A : Option Addr} {n c : Nat} (ho : o.op = .assign x) (hx : ev ρ x = .slice A n c) : Ar P ρ o w (.slice A n c) := hx ▸ Iw ho
theorem Vf {N_ : Nat} {ops_ : Array Oper} {Q_ : A9} {rest_ : List Oper} {d_ : Nat} {A : Option Addr} {n : Nat} {c : Nat} (h0_ : @Eq _ (Ag ops_ ρ o, o.dst, Nat.blt d_ N_, o.op, ev ρ x) (true, some d_, true, .assign x, .slice A n c)) (K_ : WL P N_ ops_ Q_ rest_ (upd ρ d_ (.slice A n c)) w) : WL P N_ ops_ Q_ (o :: rest_) ρ w := Af (q1 h0_) (q1 (q2 h0_)) (q1 (q2 (q2 h0_))) (Ur (q1 (q2 (q2 (q2 h0_)))) (q2 (q2 (q2 (q2 h0_))))) K_
theorem Tn {N_ : Nat} {ops_ : Array Oper} {Q_ : A9} {S_ : World → Prop} {T_ : List Nat} {f_ : Nat} {l_ : Array Bool} {d_ : Nat} (i_ : Nat) {A : Option Addr} {n : Nat} {c : Nat} (hS_ : S_ w) (h0_ : @Eq _ (ops_[i_]?, o.dst, Ag ops_ ρ o, o.op, ev ρ x) (some o, some d_, true, .assign x, .slice A n c)) (K_ : WT P N_ ops_ Q_ S_ T_ f_ (l_.setIfInBounds i_ true) (upd ρ d_ (.slice A n c)) w) (hB_ : EP ops_ T_ N_ l_ i_ d_ = true := by kernel_rfl) : WT P N_ ops_ Q_ S_ T_ (f_ + 1) l_ ρ w := Ae i_ (q1 h0_) (q1 (q2 h0_)) hB_ hS_ (q1 (q2 (q2 h0_))) (fun W_ hW_ => Ur (q1 (q2 (q2 (q2 h0_)))) (q2 (q2 (q2 (q2 h0_))))) K_
theorem Y0 {p : Option Addr} (ho : o.op = .assign x) (hx : ev ρ x = .pointer p) : Ar P ρ o w (.pointer p) := hx ▸ Iw ho
theorem Us (ho : o.op = .assign x) (hx : ev ρ x = .nilIface) : Ar P ρ o w .nilIface := hx ▸ Iw ho
theorem Vy {N_ : Nat} {ops_ : Array Oper} {Q_ : A9} {rest_ : List Oper} {d_ : Nat} (h0_ : @Eq _ (Ag ops_ ρ o, o.dst, Nat.blt d_ N_, o.op, ev ρ x) (true, some d_, true, .assign x, .nilIface)) (K_ : WL P N_ ops_ Q_ rest_ (upd ρ d_ .nilIface) w) : WL P N_ ops_ Q_ (o :: rest_) ρ w := Af (q1 h0_) (q1 (q2 h0_)) (q1 (q2 (q2 h0_))) (Us (q1 (q2 (q2 (q2 h0_)))) (q2 (q2 (q2 (q2 h0_))))) K_
theorem Ut {t : TypeId} {u : Value} (ho : o.op = .assign x) (hx : ev ρ x = .iface t u) : Ar P ρ o w (.iface t u) := hx ▸ Iw ho
theorem T6 {N_ : Nat} {ops_ : Array Oper} {Q_ : A9} {rest_ : List Oper} {d_ : Nat} {t : TypeId} {u : Value} (h0_ : @Eq _ (Ag ops_ ρ o, o.dst, Nat.blt d_ N_, o.op, ev ρ x) (true, some d_, true, .assign x, .iface t u)) (K_ : WL P N_ ops_ Q_ rest_ (upd ρ d_ (.iface t u)) w) : WL P N_ ops_ Q_ (o :: rest_) ρ w := Af (q1 h0_) (q1 (q2 h0_)) (q1 (q2 (q2 h0_))) (Ut (q1 (q2 (q2 (q2 h0_)))) (q2 (q2 (q2 (q2 h0_))))) K_
theorem Iu {s : ByteArray} (ho : o.op = .assign x) (hx : ev ρ x = .string s) : Ar P ρ o w (.string s) := hx ▸ Iw ho
theorem Y1 {m : Option Nat} (ho : o.op = .assign x) (hx : ev ρ x = .map m) : Ar P ρ o w (.map m) := hx ▸ Iw ho
theorem YU (ho : o.op = .pick x y z) (hx : ev ρ x = .bool true) (hy : ev ρ y = v) : Ar P ρ o w v := by simp [Ar, execOp, ho, hx, hy, asBool]
theorem YV (ho : o.op = .pick x y z) (hx : ev ρ x = .bool false) (hz : ev ρ z = v) : Ar P ρ o w v := by simp [Ar, execOp, ho, hx, hz, asBool]
theorem ER {b : Bool} (ho : o.op = .pick x y z) (hx : ev ρ x = .bool true) (hy : ev ρ y = .bool b) : Ar P ρ o w (.bool b) := YU ho hx hy
theorem Vg {N_ : Nat} {ops_ : Array Oper} {Q_ : A9} {rest_ : List Oper} {d_ : Nat} {b : Bool} (h0_ : @Eq _ (Ag ops_ ρ o, o.dst, Nat.blt d_ N_, o.op, ev ρ x, ev ρ y) (true, some d_, true, .pick x y z, .bool true, .bool b)) (K_ : WL P N_ ops_ Q_ rest_ (upd ρ d_ (.bool b)) w) : WL P N_ ops_ Q_ (o :: rest_) ρ w := Af (q1 h0_) (q1 (q2 h0_)) (q1 (q2 (q2 h0_))) (ER (q1 (q2 (q2 (q2 h0_)))) (q1 (q2 (q2 (q2 (q2 h0_))))) (q2 (q2 (q2 (q2 (q2 h0_)))))) K_
theorem Iq {b : Bool} (ho : o.op = .pick x y z) (hx : ev ρ x = .bool false) (hz : ev ρ z = .bool b) : Ar P ρ o w (.bool b) := YV ho hx hz
theorem Vd {N_ : Nat} {ops_ : Array Oper} {Q_ : A9} {rest_ : List Oper} {d_ : Nat} {b : Bool} (h0_ : @Eq _ (Ag ops_ ρ o, o.dst, Nat.blt d_ N_, o.op, ev ρ x, ev ρ z) (true, some d_, true, .pick x y z, .bool false, .bool b)) (K_ : WL P N_ ops_ Q_ rest_ (upd ρ d_ (.bool b)) w) : WL P N_ ops_ Q_ (o :: rest_) ρ w := Af (q1 h0_) (q1 (q2 h0_)) (q1 (q2 (q2 h0_))) (Iq (q1 (q2 (q2 (q2 h0_)))) (q1 (q2 (q2 (q2 (q2 h0_))))) (q2 (q2 (q2 (q2 (q2 h0_)))))) K_
theorem Z5 {t : TypeId} {b : Bool} (ho : o.op = .unOp .not t x) (hx : ev ρ x = .bool b) : Ar P ρ o w (.bool (!b)) := by simp [Ar, execOp, ho, hx, Op.unary]
theorem Yf {t : TypeId} (ho : o.op = .unOp .not t x) (hx : ev ρ x = .bool true) : Ar P ρ o w (.bool false) := Z5 ho hx
theorem T5 {N_ : Nat} {ops_ : Array Oper} {Q_ : A9} {rest_ : List Oper} {d_ : Nat} {t : TypeId} (h0_ : @Eq _ (Ag ops_ ρ o, o.dst, Nat.blt d_ N_, o.op, ev ρ x) (true, some d_, true, .unOp .not t x, .bool true)) (K_ : WL P N_ ops_ Q_ rest_ (upd ρ d_ (.bool false)) w) : WL P N_ ops_ Q_ (o :: rest_) ρ w := Af (q1 h0_) (q1 (q2 h0_)) (q1 (q2 (q2 h0_))) (Yf (q1 (q2 (q2 (q2 h0_)))) (q2 (q2 (q2 (q2 h0_))))) K_
theorem Ug {t : TypeId} (ho : o.op = .unOp .not t x) (hx : ev ρ x = .bool false) : Ar P ρ o w (.bool true) := Z5 ho hx
theorem Tf {N_ : Nat} {ops_ : Array Oper} {Q_ : A9} {rest_ : List Oper} {d_ : Nat} {t : TypeId} (h0_ : @Eq _ (Ag ops_ ρ o, o.dst, Nat.blt d_ N_, o.op, ev ρ x) (true, some d_, true, .unOp .not t x, .bool false)) (K_ : WL P N_ ops_ Q_ rest_ (upd ρ d_ (.bool true)) w) : WL P N_ ops_ Q_ (o :: rest_) ρ w := Af (q1 h0_) (q1 (q2 h0_)) (q1 (q2 (q2 h0_))) (Ug (q1 (q2 (q2 (q2 h0_)))) (q2 (q2 (q2 (q2 h0_))))) K_
theorem KX {i : Nat} {l : Array Value} (ho : o.op = .extract x i) (hx : ev ρ x = .tuple l) (hv : l[i]? = some v) : Ar P ρ o w v := by simp [Ar, execOp, ho, hx, Instr.extract, hv]
theorem Vk {N_ : Nat} {ops_ : Array Oper} {Q_ : A9} {rest_ : List Oper} {d_ : Nat} {i : Nat} {l : Array Value} (h0_ : @Eq _ (Ag ops_ ρ o, o.dst, Nat.blt d_ N_, o.op, ev ρ x, l[i]?) (true, some d_, true, .extract x i, .tuple l, some v)) (K_ : WL P N_ ops_ Q_ rest_ (upd ρ d_ v) w) : WL P N_ ops_ Q_ (o :: rest_) ρ w := Af (q1 h0_) (q1 (q2 h0_)) (q1 (q2 (q2 h0_))) (KX (q1 (q2 (q2 (q2 h0_)))) (q1 (q2 (q2 (q2 (q2 h0_))))) (q2 (q2 (q2 (q2 (q2 h0_)))))) K_
theorem El {t : TypeId} {ds : TypeDesc} (ho : o.op = .makeInterface t x) (ht : P.underlying t = some ds) (hd : (match ds with | .interface _ => false | _ => true) = true) (hx : ev ρ x = v) : Ar P ρ o w (.iface t v) := by
 cases ds <;> simp at hd <;> simp [Ar, execOp, ho, hx, Instr.makeInterface, run_underlying ht]
section
variable {t t' : TypeId} {a b : Int} {k : IntKind}
theorem R7 {op : BinOp} {r : Bool} (ho : o.op = .binOp op t x y t') (hx : ev ρ x = .int k a) (hy : ev ρ y = .int k b) (hr : (Op.intCmp op a b).run P w = .ok (.bool r) w) (hop : (match op with | .lss | .leq | .gtr | .geq | .eql | .neq => true | _ => false) = true) : Ar P ρ o w (.bool r) := by
 cases op <;> simp at hop <;> simp [Ar, execOp, ho, hx, hy, eqGuard, binOp, hr]
theorem Aad (ho : o.op = .binOp .lss t x y t') (hx : ev ρ x = .int k a) (hy : ev ρ y = .int k b) : Ar P ρ o w (.bool (decide (a < b))) := R7 ho hx hy (by simp [Op.intCmp]) rfl
theorem YX (ho : o.op = .binOp .leq t x y t') (hx : ev ρ x = .int k a) (hy : ev ρ y = .int k b) : Ar P ρ o w (.bool (decide (a ≤ b))) := R7 ho hx hy (by simp [Op.intCmp]) rfl
theorem Aag (ho : o.op = .binOp .gtr t x y t') (hx : ev ρ x = .int k a) (hy : ev ρ y = .int k b) : Ar P ρ o w (.bool (decide (b < a))) := R7 ho hx hy (by simp [Op.intCmp]) rfl
theorem Aaj (ho : o.op = .binOp .geq t x y t') (hx : ev ρ x = .int k a) (hy : ev ρ y = .int k b) : Ar P ρ o w (.bool (decide (b ≤ a))) := R7 ho hx hy (by simp [Op.intCmp]) rfl
theorem NH (ho : o.op = .binOp .eql t x y t') (hx : ev ρ x = .int k a) (hy : ev ρ y = .int k b) : Ar P ρ o w (.bool (decide (a = b))) := R7 ho hx hy (by simp [Op.intCmp]; rfl) rfl
theorem Z6 (ho : o.op = .binOp .neq t x y t') (hx : ev ρ x = .int k a) (hy : ev ρ y = .int k b) : Ar P ρ o w (.bool (!decide (a = b))) := R7 ho hx hy (by simp [Op.intCmp]; rfl) rfl
theorem Aab (ho : o.op = .binOp .lss t x y t') (hx : ev ρ x = .int k a) (hy : ev ρ y = .int k b) (h : a < b) : Ar P ρ o w (.bool true) := by
 have := Aad (P := P) (w := w) ho hx hy
 rwa [show decide (a < b) = true from by simp; omega] at this
theorem Vt {N_ : Nat} {ops_ : Array Oper} {Q_ : A9} {rest_ : List Oper} {d_ : Nat} (h0_ : @Eq _ (Ag ops_ ρ o, o.dst, Nat.blt d_ N_, o.op, ev ρ x, ev ρ y) (true, some d_, true, .binOp .lss t x y t', .int k a, .int k b)) (K_ : WL P N_ ops_ Q_ rest_ (upd ρ d_ (.bool true)) w) (h1_ : a < b := by omega) : WL P N_ ops_ Q_ (o :: rest_) ρ w := Af (q1 h0_) (q1 (q2 h0_)) (q1 (q2 (q2 h0_))) (Aab (q1 (q2 (q2 (q2 h0_)))) (q1 (q2 (q2 (q2 (q2 h0_))))) (q2 (q2 (q2 (q2 (q2 h0_))))) h1_) K_
theorem Aac (ho : o.op = .binOp .lss t x y t') (hx : ev ρ x = .int k a) (hy : ev ρ y = .int k b) (h : b ≤ a) : Ar P ρ o w (.bool false) := by
 have := Aad (P := P) (w := w) ho hx hy
 rwa [show decide (a < b) = false from by simp; omega] at this
theorem Vo {N_ : Nat} {ops_ : Array Oper} {Q_ : A9} {rest_ : List Oper} {d_ : Nat} (h0_ : @Eq _ (Ag ops_ ρ o, o.dst, Nat.blt d_ N_, o.op, ev ρ x, ev ρ y) (true, some d_, true, .binOp .lss t x y t', .int k a, .int k b)) (K_ : WL P N_ ops_ Q_ rest_ (upd ρ d_ (.bool false)) w) (h1_ : b ≤ a := by omega) : WL P N_ ops_ Q_ (o :: rest_) ρ w := Af (q1 h0_) (q1 (q2 h0_)) (q1 (q2 (q2 h0_))) (Aac (q1 (q2 (q2 (q2 h0_)))) (q1 (q2 (q2 (q2 (q2 h0_))))) (q2 (q2 (q2 (q2 (q2 h0_))))) h1_) K_
theorem Mw (ho : o.op = .binOp .leq t x y t') (hx : ev ρ x = .int k a) (hy : ev ρ y = .int k b) (h : a ≤ b) : Ar P ρ o w (.bool true) := by
 have := YX (P := P) (w := w) ho hx hy
 rwa [show decide (a ≤ b) = true from by simp; omega] at this
theorem Ra (ho : o.op = .binOp .leq t x y t') (hx : ev ρ x = .int k a) (hy : ev ρ y = .int k b) (h : b < a) : Ar P ρ o w (.bool false) := by
 have := YX (P := P) (w := w) ho hx hy
 rwa [show decide (a ≤ b) = false from by simp; omega] at this
theorem Mx (ho : o.op = .binOp .gtr t x y t') (hx : ev ρ x = .int k a) (hy : ev ρ y = .int k b) (h : b < a) : Ar P ρ o w (.bool true) := by
 have := Aag (P := P) (w := w) ho hx hy
 rwa [show decide (b < a) = true from by simp; omega] at this
theorem JR (ho : o.op = .binOp .gtr t x y t') (hx : ev ρ x = .int k a) (hy : ev ρ y = .int k b) (h : a ≤ b) : Ar P ρ o w (.bool false) := by
 have := Aag (P := P) (w := w) ho hx hy
 rwa [show decide (b < a) = false from by simp; omega] at this
theorem Aah (ho : o.op = .binOp .geq t x y t') (hx : ev ρ x = .int k a) (hy : ev ρ y = .int k b) (h : b ≤ a) : Ar P ρ o w (.bool true) := by
 have := Aaj (P := P) (w := w) ho hx hy
 rwa [show decide (b ≤ a) = true from by simp; omega] at this
theorem Tc {N_ : Nat} {ops_ : Array Oper} {Q_ : A9} {rest_ : List Oper} {d_ : Nat} (h0_ : @Eq _ (Ag ops_ ρ o, o.dst, Nat.blt d_ N_, o.op, ev ρ x, ev ρ y) (true, some d_, true, .binOp .geq t x y t', .int k a, .int k b)) (K_ : WL P N_ ops_ Q_ rest_ (upd ρ d_ (.bool true)) w) (h1_ : b ≤ a := by omega) : WL P N_ ops_ Q_ (o :: rest_) ρ w := Af (q1 h0_) (q1 (q2 h0_)) (q1 (q2 (q2 h0_))) (Aah (q1 (q2 (q2 (q2 h0_)))) (q1 (q2 (q2 (q2 (q2 h0_))))) (q2 (q2 (q2 (q2 (q2 h0_))))) h1_) K_
theorem Aai (ho : o.op = .binOp .geq t x y t') (hx : ev ρ x = .int k a) (hy : ev ρ y = .int k b) (h : a < b) : Ar P ρ o w (.bool false) := by
 have := Aaj (P := P) (w := w) ho hx hy
 rwa [show decide (b ≤ a) = false from by simp; omega] at this
theorem Tg {N_ : Nat} {ops_ : Array Oper} {Q_ : A9} {rest_ : List Oper} {d_ : Nat} (h0_ : @Eq _ (Ag ops_ ρ o, o.dst, Nat.blt d_ N_, o.op, ev ρ x, ev ρ y) (true, some d_, true, .binOp .geq t x y t', .int k a, .int k b)) (K_ : WL P N_ ops_ Q_ rest_ (upd ρ d_ (.bool false)) w) (h1_ : a < b := by omega) : WL P N_ ops_ Q_ (o :: rest_) ρ w := Af (q1 h0_) (q1 (q2 h0_)) (q1 (q2 (q2 h0_))) (Aai (q1 (q2 (q2 (q2 h0_)))) (q1 (q2 (q2 (q2 (q2 h0_))))) (q2 (q2 (q2 (q2 (q2 h0_))))) h1_) K_
theorem Un (ho : o.op = .binOp .eql t x y t') (hx : ev ρ x = .int k a) (hy : ev ρ y = .int k b) (h : a = b) : Ar P ρ o w (.bool true) := by
 have := NH (P := P) (w := w) ho hx hy
 rwa [show decide (a = b) = true from by simp; omega] at this
theorem Vu {N_ : Nat} {ops_ : Array Oper} {Q_ : A9} {rest_ : List Oper} {d_ : Nat} (h0_ : @Eq _ (Ag ops_ ρ o, o.dst, Nat.blt d_ N_, o.op, ev ρ x, ev ρ y) (true, some d_, true, .binOp .eql t x y t', .int k a, .int k b)) (K_ : WL P N_ ops_ Q_ rest_ (upd ρ d_ (.bool true)) w) (h1_ : a = b := by omega) : WL P N_ ops_ Q_ (o :: rest_) ρ w := Af (q1 h0_) (q1 (q2 h0_)) (q1 (q2 (q2 h0_))) (Un (q1 (q2 (q2 (q2 h0_)))) (q1 (q2 (q2 (q2 (q2 h0_))))) (q2 (q2 (q2 (q2 (q2 h0_))))) h1_) K_
theorem Uo (ho : o.op = .binOp .eql t x y t') (hx : ev ρ x = .int k a) (hy : ev ρ y = .int k b) (h : a ≠ b) : Ar P ρ o w (.bool false) := by
 have := NH (P := P) (w := w) ho hx hy
 rwa [show decide (a = b) = false from by simp; omega] at this
theorem Vj {N_ : Nat} {ops_ : Array Oper} {Q_ : A9} {rest_ : List Oper} {d_ : Nat} (h0_ : @Eq _ (Ag ops_ ρ o, o.dst, Nat.blt d_ N_, o.op, ev ρ x, ev ρ y) (true, some d_, true, .binOp .eql t x y t', .int k a, .int k b)) (K_ : WL P N_ ops_ Q_ rest_ (upd ρ d_ (.bool false)) w) (h1_ : a ≠ b := by omega) : WL P N_ ops_ Q_ (o :: rest_) ρ w := Af (q1 h0_) (q1 (q2 h0_)) (q1 (q2 (q2 h0_))) (Uo (q1 (q2 (q2 (q2 h0_)))) (q1 (q2 (q2 (q2 (q2 h0_))))) (q2 (q2 (q2 (q2 (q2 h0_))))) h1_) K_
theorem OI (ho : o.op = .binOp .neq t x y t') (hx : ev ρ x = .int k a) (hy : ev ρ y = .int k b) (h : a ≠ b) : Ar P ρ o w (.bool true) := by
 have := Z6 (P := P) (w := w) ho hx hy
 rwa [show (!decide (a = b)) = true from by simp; omega] at this
theorem Tm {N_ : Nat} {ops_ : Array Oper} {Q_ : A9} {rest_ : List Oper} {d_ : Nat} (h0_ : @Eq _ (Ag ops_ ρ o, o.dst, Nat.blt d_ N_, o.op, ev ρ x, ev ρ y) (true, some d_, true, .binOp .neq t x y t', .int k a, .int k b)) (K_ : WL P N_ ops_ Q_ rest_ (upd ρ d_ (.bool true)) w) (h1_ : a ≠ b := by omega) : WL P N_ ops_ Q_ (o :: rest_) ρ w := Af (q1 h0_) (q1 (q2 h0_)) (q1 (q2 (q2 h0_))) (OI (q1 (q2 (q2 (q2 h0_)))) (q1 (q2 (q2 (q2 (q2 h0_))))) (q2 (q2 (q2 (q2 (q2 h0_))))) h1_) K_
theorem Uh (ho : o.op = .binOp .neq t x y t') (hx : ev ρ x = .int k a) (hy : ev ρ y = .int k b) (h : a = b) : Ar P ρ o w (.bool false) := by
 have := Z6 (P := P) (w := w) ho hx hy
 rwa [show (!decide (a = b)) = false from by simp; omega] at this
theorem Tl {N_ : Nat} {ops_ : Array Oper} {Q_ : A9} {rest_ : List Oper} {d_ : Nat} (h0_ : @Eq _ (Ag ops_ ρ o, o.dst, Nat.blt d_ N_, o.op, ev ρ x, ev ρ y) (true, some d_, true, .binOp .neq t x y t', .int k a, .int k b)) (K_ : WL P N_ ops_ Q_ rest_ (upd ρ d_ (.bool false)) w) (h1_ : a = b := by omega) : WL P N_ ops_ Q_ (o :: rest_) ρ w := Af (q1 h0_) (q1 (q2 h0_)) (q1 (q2 (q2 h0_))) (Uh (q1 (q2 (q2 (q2 h0_)))) (q1 (q2 (q2 (q2 (q2 h0_))))) (q2 (q2 (q2 (q2 (q2 h0_))))) h1_) K_
theorem wrap64_in {n : Int} (h1 : -9223372036854775808 ≤ n) (h2 : n ≤ 9223372036854775807) : IntKind.i64.wrap n = n := by
 simp [IntKind.wrap, IntKind.signed, IntKind.bits]; omega
theorem Yj (ho : o.op = .binOp .add t x y t') (hx : ev ρ x = .int k a) (hy : ev ρ y = .int k b) : Ar P ρ o w (.int k (k.wrap (a + b))) := by simp [Ar, execOp, ho, hx, hy, eqGuard, binOp, Op.intArith]
theorem Ye (ho : o.op = .binOp .sub t x y t') (hx : ev ρ x = .int k a) (hy : ev ρ y = .int k b) : Ar P ρ o w (.int k (k.wrap (a - b))) := by simp [Ar, execOp, ho, hx, hy, eqGuard, binOp, Op.intArith]
theorem Yg (ho : o.op = .binOp .mul t x y t') (hx : ev ρ x = .int k a) (hy : ev ρ y = .int k b) : Ar P ρ o w (.int k (k.wrap (a * b))) := by simp [Ar, execOp, ho, hx, hy, eqGuard, binOp, Op.intArith]
theorem AaE (ho : o.op = .binOp .add t x y t') (hx : ev ρ x = .int .i64 a) (hy : ev ρ y = .int .i64 b) (h : -9223372036854775808 ≤ a + b ∧ a + b ≤ 9223372036854775807) : Ar P ρ o w (.int .i64 (a + b)) := by
 have := Yj (P := P) (w := w) ho hx hy
 rwa [wrap64_in h.1 h.2] at this
theorem YT (ho : o.op = .binOp .sub t x y t') (hx : ev ρ x = .int .i64 a) (hy : ev ρ y = .int .i64 b) (h : -9223372036854775808 ≤ a - b ∧ a - b ≤ 9223372036854775807) : Ar P ρ o w (.int .i64 (a - b)) := by
 have := Ye (P := P) (w := w) ho hx hy
 rwa [wrap64_in h.1 h.2] at this
theorem AaC (ho : o.op = .binOp .mul t x y t') (hx : ev ρ x = .int .i64 a) (hy : ev ρ y = .int .i64 b) (h : -9223372036854775808 ≤ a * b ∧ a * b ≤ 9223372036854775807) : Ar P ρ o w (.int .i64 (a * b)) := by
 have := Yg (P := P) (w := w) ho hx hy
 rwa [wrap64_in h.1 h.2] at this
theorem AaD {n : Nat} (ho : o.op = .binOp .add t x y t') (hx : ev ρ x = .int .i64 (n : Int)) (hy : ev ρ y = .int .i64 1) (h : n < 9223372036854775807) : Ar P ρ o w (.int .i64 ((n + 1 : Nat) : Int)) := by
 have := AaE (P := P) (w := w) ho hx hy (by omega)
 simpa using this
theorem Vb {N_ : Nat} {ops_ : Array Oper} {Q_ : A9} {rest_ : List Oper} {d_ : Nat} {n : Nat} (h0_ : @Eq _ (Ag ops_ ρ o, o.dst, Nat.blt d_ N_, o.op, ev ρ x, ev ρ y) (true, some d_, true, .binOp .add t x y t', .int .i64 (n : Int), .int .i64 1)) (K_ : WL P N_ ops_ Q_ rest_ (upd ρ d_ (.int .i64 ((n + 1 : Nat) : Int))) w) (h1_ : n < 9223372036854775807 := by omega) : WL P N_ ops_ Q_ (o :: rest_) ρ w := Af (q1 h0_) (q1 (q2 h0_)) (q1 (q2 (q2 h0_))) (AaD (q1 (q2 (q2 (q2 h0_)))) (q1 (q2 (q2 (q2 (q2 h0_))))) (q2 (q2 (q2 (q2 (q2 h0_))))) h1_) K_
end
section
variable {t t' : TypeId} {ms : Array (String × TypeId)}
theorem Fu {x y : Value} {r : Bool} (h : ∀ d, (Op.equalIn (d + 1) t x y).run P w = .ok r w) : (Op.equal t x y).run P w = .ok r w := h 9999
theorem Fv {T : TypeId} {u : Value} (ho : o.op = .binOp .neq t x y t') (ht : P.underlying t = some (.interface ms)) (hx : ev ρ x = .iface T u) (hy : ev ρ y = .nilIface) : Ar P ρ o w (.bool true) := by
 have h := Fu (P := P) (w := w) (t := t) (x := .iface T u) (y := .nilIface) (r := false) (fun d => by simp [Op.equalIn, run_underlying ht])
 simp [Ar, execOp, ho, hx, hy, eqGuard, binOp, h]
theorem Hg (ho : o.op = .binOp .neq t x (.const .nilIface) t') (ht : P.underlying t = some (.interface ms)) (hx : ev ρ x = .nilIface) : Ar P ρ o w (.bool false) := by
 have h := Fu (P := P) (w := w) (t := t) (x := .nilIface) (y := .nilIface) (r := true) (fun d => by simp [Op.equalIn, run_underlying ht])
 simp [Ar, execOp, ho, hx, show ev ρ (.const .nilIface) = .nilIface from rfl, eqGuard, binOp, h]
theorem Qo (ho : o.op = .binOp .eql t x (.const .nilIface) t') (ht : P.underlying t = some (.interface ms)) (hx : ev ρ x = .nilIface) : Ar P ρ o w (.bool true) := by
 have h := Fu (P := P) (w := w) (t := t) (x := .nilIface) (y := .nilIface) (r := true) (fun d => by simp [Op.equalIn, run_underlying ht])
 simp [Ar, execOp, ho, hx, show ev ρ (.const .nilIface) = .nilIface from rfl, eqGuard, binOp, h]
end
theorem YZ {s i off g j : Nat} (ho : o.op = .fieldAddr s x i) (hf : VD P s i off = true) (hx : ev ρ x = .pointer (some ⟨g, j, none⟩)) : Ar P ρ o w (.pointer (some ⟨g, j + off, none⟩)) := by
 unfold VD at hf
 cases hu : P.underlying s with
 | none => simp [hu] at hf
 | some d =>
  cases d <;> simp [hu] at hf
  rename_i fs
  cases hfi : fs[i]? with
  | none => simp [hfi] at hf
  | some f =>
   simp only [hfi] at hf
   cases hi : P.info? f.type with
   | none => simp [hi] at hf
   | some q =>
    simp only [hi, Bool.and_eq_true, beq_iff_eq, bne_iff_ne, ne_eq] at hf
    simp [Ar, execOp, ho, hx, Instr.fieldAt, run_underlying hu, hfi, Instr.sureAddr, fieldPlace, sizeOf, typeInfo, hi, hf.2, ← hf.1, Addr.add]
theorem Yh {s i off g : Nat} (ho : o.op = .fieldAddr s x i) (hf : VD P s i off = true) (hx : ev ρ x = .pointer (some ⟨g, 0, none⟩)) : Ar P ρ o w (.pointer (some ⟨g, off, none⟩)) := by
 have := YZ (P := P) (w := w) ho hf hx
 rwa [Nat.zero_add] at this
theorem V7 {N_ : Nat} {ops_ : Array Oper} {Q_ : A9} {rest_ : List Oper} {d_ : Nat} {s : Nat} {i : Nat} (off : Nat) {g : Nat} (h0_ : @Eq _ (Ag ops_ ρ o, o.dst, Nat.blt d_ N_, o.op, ev ρ x) (true, some d_, true, .fieldAddr s x i, .pointer (some ⟨g, 0, none⟩))) (K_ : WL P N_ ops_ Q_ rest_ (upd ρ d_ (.pointer (some ⟨g, off, none⟩))) w) (h1_ : VD P s i off = true := by kernel_rfl) : WL P N_ ops_ Q_ (o :: rest_) ρ w := Af (q1 h0_) (q1 (q2 h0_)) (q1 (q2 (q2 h0_))) (Yh (off := off) (q1 (q2 (q2 (q2 h0_)))) h1_ (q2 (q2 (q2 (q2 h0_))))) K_
theorem Vq {N_ : Nat} {ops_ : Array Oper} {Q_ : A9} {S_ : World → Prop} {T_ : List Nat} {f_ : Nat} {l_ : Array Bool} {d_ : Nat} (i_ : Nat) {s : Nat} {i : Nat} (off : Nat) {g : Nat} (hS_ : S_ w) (h0_ : @Eq _ (ops_[i_]?, o.dst, Ag ops_ ρ o, o.op, ev ρ x) (some o, some d_, true, .fieldAddr s x i, .pointer (some ⟨g, 0, none⟩))) (K_ : WT P N_ ops_ Q_ S_ T_ f_ (l_.setIfInBounds i_ true) (upd ρ d_ (.pointer (some ⟨g, off, none⟩))) w) (hB_ : EP ops_ T_ N_ l_ i_ d_ = true := by kernel_rfl) (h1_ : VD P s i off = true := by kernel_rfl) : WT P N_ ops_ Q_ S_ T_ (f_ + 1) l_ ρ w := Ae i_ (q1 h0_) (q1 (q2 h0_)) hB_ hS_ (q1 (q2 (q2 h0_))) (fun W_ hW_ => Yh (off := off) (q1 (q2 (q2 (q2 h0_)))) h1_ (q2 (q2 (q2 (q2 h0_))))) K_
theorem LV {t e n c sz g j i : Nat} {k : IntKind} (ho : o.op = .indexAddr t x y) (ht : P.underlying t = some (.slice e)) (hs : szB P e sz = true) (hx : ev ρ x = .slice (some ⟨g, j, none⟩) n c) (hy : ev ρ y = .int k (i : Int)) (hi : i < n) :
  Ar P ρ o w (.pointer (some ⟨g, j + i * sz, none⟩)) := by
 have hi' : (i : Int) < (n : Int) := by omega
 simp [Ar, execOp, ho, hx, hy, Instr.indexAt, asIntOf, run_underlying ht, Cc hs, hi, Addr.add]
theorem Th {N_ : Nat} {ops_ : Array Oper} {Q_ : A9} {rest_ : List Oper} {d_ : Nat} {t : Nat} {e : Nat} {n : Nat} {c : Nat} (sz : Nat) {g : Nat} {j : Nat} {i : Nat} {k : IntKind} (h0_ : @Eq _ (Ag ops_ ρ o, o.dst, Nat.blt d_ N_, o.op) (true, some d_, true, .indexAddr t x y)) (ht : P.underlying t = some (.slice e)) (h2_ : @Eq _ (ev ρ x, ev ρ y) (.slice (some ⟨g, j, none⟩) n c, .int k (i : Int))) (K_ : WL P N_ ops_ Q_ rest_ (upd ρ d_ (.pointer (some ⟨g, j + i * sz, none⟩))) w) (h1_ : szB P e sz = true := by kernel_rfl) (h3_ : i < n := by omega) : WL P N_ ops_ Q_ (o :: rest_) ρ w := Af (q1 h0_) (q1 (q2 h0_)) (q1 (q2 (q2 h0_))) (LV (sz := sz) (q2 (q2 (q2 h0_))) ht h1_ (q1 h2_) (q2 h2_) h3_) K_
theorem Dz {t e n c g j i : Nat} {k : IntKind} (ho : o.op = .indexAddr t x y) (ht : P.underlying t = some (.slice e)) (hs : szB P e 1 = true) (hx : ev ρ x = .slice (some ⟨g, j, none⟩) n c) (hy : ev ρ y = .int k (i : Int)) (hi : i < n) :
  Ar P ρ o w (.pointer (some ⟨g, j + i, none⟩)) := by
 have := LV (P := P) (w := w) (sz := 1) ho ht hs hx hy hi
 rwa [Nat.mul_one] at this
theorem Bz {t e n c g i : Nat} {z : Int} {k : IntKind} (ho : o.op = .indexAddr t x y) (ht : P.underlying t = some (.slice e)) (hs : szB P e 1 = true) (hx : ev ρ x = .slice (some ⟨g, 0, none⟩) n c) (hy : ev ρ y = .int k z) (hz : z = (i : Int)) (hi : i < n) :
  Ar P ρ o w (.pointer (some ⟨g, i, none⟩)) := by
 have := Dz (P := P) (w := w) ho ht hs hx (by rw [hy, hz]) hi
 rwa [Nat.zero_add] at this
theorem Vl {N_ : Nat} {ops_ : Array Oper} {Q_ : A9} {S_ : World → Prop} {T_ : List Nat} {f_ : Nat} {l_ : Array Bool} {d_ : Nat} (i_ : Nat) {t : Nat} {e : Nat} {n : Nat} {c : Nat} {g : Nat} {i : Nat} {z : Int} {k : IntKind} (hS_ : S_ w) (h0_ : @Eq _ (ops_[i_]?, o.dst, Ag ops_ ρ o, o.op) (some o, some d_, true, .indexAddr t x y)) (ht : P.underlying t = some (.slice e)) (h2_ : @Eq _ (ev ρ x, ev ρ y, z) (.slice (some ⟨g, 0, none⟩) n c, .int k z, (i : Int))) (K_ : WT P N_ ops_ Q_ S_ T_ f_ (l_.setIfInBounds i_ true) (upd ρ d_ (.pointer (some ⟨g, i, none⟩))) w) (hB_ : EP ops_ T_ N_ l_ i_ d_ = true := by kernel_rfl) (h1_ : szB P e 1 = true := by kernel_rfl) (h3_ : i < n := by omega) : WT P N_ ops_ Q_ S_ T_ (f_ + 1) l_ ρ w := Ae i_ (q1 h0_) (q1 (q2 h0_)) hB_ hS_ (q1 (q2 (q2 h0_))) (fun W_ hW_ => Bz (q2 (q2 (q2 h0_))) ht h1_ (q1 h2_) (q1 (q2 h2_)) (q2 (q2 h2_)) h3_) K_
theorem Tb {N_ : Nat} {ops_ : Array Oper} {Q_ : A9} {rest_ : List Oper} {d_ : Nat} {t : Nat} {e : Nat} {n : Nat} {c : Nat} {g : Nat} {i : Nat} {z : Int} {k : IntKind} (h0_ : @Eq _ (Ag ops_ ρ o, o.dst, Nat.blt d_ N_, o.op) (true, some d_, true, .indexAddr t x y)) (ht : P.underlying t = some (.slice e)) (h2_ : @Eq _ (ev ρ x, ev ρ y, z) (.slice (some ⟨g, 0, none⟩) n c, .int k z, (i : Int))) (K_ : WL P N_ ops_ Q_ rest_ (upd ρ d_ (.pointer (some ⟨g, i, none⟩))) w) (h1_ : szB P e 1 = true := by kernel_rfl) (h3_ : i < n := by omega) : WL P N_ ops_ Q_ (o :: rest_) ρ w := Af (q1 h0_) (q1 (q2 h0_)) (q1 (q2 (q2 h0_))) (Bz (q2 (q2 (q2 h0_))) ht h1_ (q1 h2_) (q1 (q2 h2_)) (q2 (q2 h2_)) h3_) K_
theorem OJ {t e n c : Nat} {A : Option Addr} (ho : o.op = .call { callee := .builtin .len, args := #[x], argTypes := #[t] }) (ht : P.underlying t = some (.slice e)) (hx : ev ρ x = .slice A n c) : Ar P ρ o w (.int .i64 (n : Int)) := by
 simp [Ar, execOp, ho, resolve, invoke, builtin, Builtin.len_, run_underlying ht, hx, goInt]
theorem Vi {N_ : Nat} {ops_ : Array Oper} {Q_ : A9} {rest_ : List Oper} {d_ : Nat} {t : Nat} {e : Nat} {n : Nat} {c : Nat} {A : Option Addr} (h0_ : @Eq _ (Ag ops_ ρ o, o.dst, Nat.blt d_ N_, o.op) (true, some d_, true, .call { callee := .builtin .len, args := #[x], argTypes := #[t] })) (ht : P.underlying t = some (.slice e)) (h1_ : ev ρ x = .slice A n c) (K_ : WL P N_ ops_ Q_ rest_ (upd ρ d_ (.int .i64 (n : Int))) w) : WL P N_ ops_ Q_ (o :: rest_) ρ w := Af (q1 h0_) (q1 (q2 h0_)) (q1 (q2 (q2 h0_))) (OJ (q2 (q2 (q2 h0_))) ht h1_) K_
theorem rLd {t : Nat} {p : Addr} (ho : o.op = .load t x) (ht : Hm P t = true) (hx : ev ρ x = .pointer (some p)) (hc : w.cell? p = some v) : Ar P ρ o w v := by
 simp [Ar, execOp, ho, hx, Instr.loadAt, Instr.sureAddr, loadVar, run_isAgg_plain ht, hc]
theorem V3 {N_ : Nat} {ops_ : Array Oper} {Q_ : A9} {rest_ : List Oper} {d_ : Nat} (v : Value) {t : Nat} {p : Addr} (h0_ : @Eq _ (Ag ops_ ρ o, o.dst, Nat.blt d_ N_, o.op, ev ρ x) (true, some d_, true, .load t x, .pointer (some p))) (hc : w.cell? p = some v) (K_ : WL P N_ ops_ Q_ rest_ (upd ρ d_ v) w) (h1_ : Hm P t = true := by kernel_rfl) : WL P N_ ops_ Q_ (o :: rest_) ρ w := Af (q1 h0_) (q1 (q2 h0_)) (q1 (q2 (q2 h0_))) (rLd (v := v) (q1 (q2 (q2 (q2 h0_)))) h1_ (q2 (q2 (q2 (q2 h0_)))) hc) K_
theorem Vh {N_ : Nat} {ops_ : Array Oper} {Q_ : A9} {S_ : World → Prop} {T_ : List Nat} {f_ : Nat} {l_ : Array Bool} {d_ : Nat} (i_ : Nat) (v : Value) {t : Nat} {p : Addr} (hS_ : S_ w) (h0_ : @Eq _ (ops_[i_]?, o.dst, Ag ops_ ρ o, o.op, ev ρ x) (some o, some d_, true, .load t x, .pointer (some p))) (hc : ∀ W_, S_ W_ → W_.cell? p = some v) (K_ : WT P N_ ops_ Q_ S_ T_ f_ (l_.setIfInBounds i_ true) (upd ρ d_ v) w) (hB_ : EP ops_ T_ N_ l_ i_ d_ = true := by kernel_rfl) (h1_ : Hm P t = true := by kernel_rfl) : WT P N_ ops_ Q_ S_ T_ (f_ + 1) l_ ρ w := Ae i_ (q1 h0_) (q1 (q2 h0_)) hB_ hS_ (q1 (q2 (q2 h0_))) (fun W_ hW_ => rLd (v := v) (q1 (q2 (q2 (q2 h0_)))) h1_ (q2 (q2 (q2 (q2 h0_)))) (hc W_ hW_)) K_
theorem run_loadCellsFrom {b : Nat} {w : World} : ∀ (l : List Value) (j i : Nat) (acc : Array Value), (∀ k u, l[k]? = some u → w.cell? ⟨b, j + (i + k), none⟩ = some u) → (loadCellsFrom ⟨b, j, none⟩ i l.length acc).run P w = .ok (acc ++ l.toArray) w
 | [], j, i, acc, _ => by simp [loadCellsFrom]
 | u :: l, j, i, acc, h => by
  have h0 := h 0 u rfl
  have ih := run_loadCellsFrom l j (i + 1) (acc.push u) (fun k x hk => by have := h (k + 1) x hk; rwa [show i + 1 + k = i + (k + 1) by omega])
  simp only [Nat.add_zero] at h0
  simp [loadCellsFrom, Addr.add_lit, h0, ih]
theorem LU {t n b j : Nat} {l : List Value} (ho : o.op = .load t x) (ht : Pz P t = true) (hs : szB P t n = true) (hx : ev ρ x = .pointer (some ⟨b, j, none⟩)) (hn : l.length = n) (hc : ∀ k u, l[k]? = some u → w.cell? ⟨b, j + k, none⟩ = some u) : Ar P ρ o w (.agg l.toArray) := by
 have h1 := run_loadCellsFrom (P := P) (b := b) (w := w) l j 0 #[] (by simpa using hc)
 rw [hn] at h1
 simp [Ar, execOp, ho, hx, Instr.loadAt, Instr.sureAddr, loadVar, GV ht, Cc hs, loadCells, h1]
theorem Tj {N_ : Nat} {ops_ : Array Oper} {Q_ : A9} {rest_ : List Oper} {d_ : Nat} {t : Nat} (n : Nat) {b : Nat} {j : Nat} {l : List Value} (h0_ : @Eq _ (Ag ops_ ρ o, o.dst, Nat.blt d_ N_, o.op, ev ρ x) (true, some d_, true, .load t x, .pointer (some ⟨b, j, none⟩))) (hn : l.length = n) (hc : ∀ k u, l[k]? = some u → w.cell? ⟨b, j + k, none⟩ = some u) (K_ : WL P N_ ops_ Q_ rest_ (upd ρ d_ (.agg l.toArray)) w) (h1_ : Pz P t = true := by kernel_rfl) (h2_ : szB P t n = true := by kernel_rfl) : WL P N_ ops_ Q_ (o :: rest_) ρ w := Af (q1 h0_) (q1 (q2 h0_)) (q1 (q2 (q2 h0_))) (LU (n := n) (q1 (q2 (q2 (q2 h0_)))) h1_ h2_ (q2 (q2 (q2 (q2 h0_)))) hn hc) K_
theorem Aaf {t b j : Nat} {a0 a1 a2 : Value} (ho : o.op = .load t x) (ht : Pz P t = true) (hs : szB P t 3 = true) (hx : ev ρ x = .pointer (some ⟨b, j, none⟩)) (h0 : w.cell? ⟨b, j, none⟩ = some a0) (h1 : w.cell? ⟨b, j + 1, none⟩ = some a1) (h2 : w.cell? ⟨b, j + 2, none⟩ = some a2) : Ar P ρ o w (.agg #[a0, a1, a2]) :=
 LU (l := [a0, a1, a2]) ho ht hs hx rfl (fun k u hk => by match k, hk with | 0, hk => cases hk; exact h0 | 1, hk => cases hk; exact h1 | 2, hk => cases hk; exact h2)
theorem Um {t n b T : Nat} {cs : Array Value} (ho : o.op = .load t x) (ht : Pz P t = true) (hs : szB P t n = true) (hx : ev ρ x = .pointer (some ⟨b, 0, none⟩)) (hn : cs.size = n) (hc : Blk w b T cs) : Ar P ρ o w (.agg cs) := by
 have := LU (P := P) (w := w) (l := cs.toList) ho ht hs hx (by simpa using hn) (fun k u hk => by rw [Nat.zero_add, hc.cell]; simpa using hk)
 simpa using this
theorem Tk {N_ : Nat} {ops_ : Array Oper} {Q_ : A9} {rest_ : List Oper} {d_ : Nat} {t : Nat} (n : Nat) {b : Nat} {T : Nat} {cs : Array Value} (h0_ : @Eq _ (Ag ops_ ρ o, o.dst, Nat.blt d_ N_, o.op, ev ρ x, cs.size) (true, some d_, true, .load t x, .pointer (some ⟨b, 0, none⟩), n)) (hc : Blk w b T cs) (K_ : WL P N_ ops_ Q_ rest_ (upd ρ d_ (.agg cs)) w) (h1_ : Pz P t = true := by kernel_rfl) (h2_ : szB P t n = true := by kernel_rfl) : WL P N_ ops_ Q_ (o :: rest_) ρ w := Af (q1 h0_) (q1 (q2 h0_)) (q1 (q2 (q2 h0_))) (Um (n := n) (q1 (q2 (q2 (q2 h0_)))) h1_ h2_ (q1 (q2 (q2 (q2 (q2 h0_))))) (q2 (q2 (q2 (q2 (q2 h0_))))) hc) K_
theorem Rc {f : FuncId} {fn : Func} {as : List Operand} {ts : Array TypeId} {vs : List Value} (ho : o.op = .call { callee := .value (.func f), args := as.toArray, argTypes := ts }) (hf : P.funcs[f]? = some fn) (hn : (fn.name == "runtime.NumGoroutine") = false) (hb : fn.body.isNone = false) (hv : as.map (ev ρ) = vs) :
  (execOp (ev ρ) o).run P w = .ok (.enter f vs.toArray) w := by
 simp [execOp, ho, resolve, ev, Deferred.ofValue, invoke, callFunc, hf, hn, hb, hv, -Option.isNone_eq_false_iff, -Option.isNone_iff_eq_none, -beq_iff_eq]
theorem Va {N_ : Nat} {ops_ : Array Oper} {Q_ : A9} {rest_ : List Oper} {d_ : Nat} {f : FuncId} {fn : Func} {as : List Operand} {ts : Array TypeId} (vs : List Value) (h0_ : @Eq _ (Ag ops_ ρ o, o.dst, Nat.blt d_ N_, o.op) (true, some d_, true, .call { callee := .value (.func f), args := as.toArray, argTypes := ts })) (hf : P.funcs[f]? = some fn) (h1_ : @Eq _ ((fn.name == "runtime.NumGoroutine"), fn.body.isNone, as.map (ev ρ)) (false, false, vs)) (K_ : Calls P f vs.toArray w fun e_ w_ => ∃ v_, e_ = .returned v_ ∧ WL P N_ ops_ Q_ rest_ (upd ρ d_ v_) w_) : WL P N_ ops_ Q_ (o :: rest_) ρ w := Ob (q1 h0_) (q1 (q2 h0_)) (q1 (q2 (q2 h0_))) (Rc (vs := vs) (q2 (q2 (q2 h0_))) hf (q1 h1_) (q1 (q2 h1_)) (q2 (q2 h1_))) K_
theorem Uq {f : FuncId} {fn : Func} {z : Operand} {as : List Operand} {ts : Array TypeId} {vs first cap : List Value} (ho : o.op = .call { callee := .value z, args := as.toArray, argTypes := ts }) (hz : ev ρ z = .func (.func f) first.toArray cap.toArray) (hf : P.funcs[f]? = some fn) (hn : (fn.name == "runtime.NumGoroutine") = false) (hb : fn.body.isNone = false) (hv : first ++ as.map (ev ρ) ++ cap = vs) :
  (execOp (ev ρ) o).run P w = .ok (.enter f vs.toArray) w := by
 simp [execOp, ho, resolve, hz, Deferred.ofValue, invoke, callFunc, hf, hn, hb, ← hv, -Option.isNone_eq_false_iff, -Option.isNone_iff_eq_none, -beq_iff_eq]
theorem WU {t : Nat} {u : Value} (ho : o.op = .box t x) (hx : ev ρ x = u) : (execOp (ev ρ) o).run P w = .ok (.value (.pointer (some ⟨w.heap.size, 0, none⟩))) (w.alloc (.cells u.cells t)) := by
 simp [execOp, ho, hx, Instr.box, newVar, newRow]
theorem Jg {t : Nat} {u : Value} (ho : o.op = .alloc t) (hz : (P.info? t).bind (·.zero) = some u) : (execOp (ev ρ) o).run P w = .ok (.value (.pointer (some ⟨w.heap.size, 0, none⟩))) (w.alloc (.cells u.cells t)) := by
 cases hi : P.info? t with
 | none => simp [hi] at hz
 | some i =>
  simp only [hi, Option.bind_some] at hz
  simp [execOp, ho, Instr.alloc, zeroValue, typeInfo, hi, hz, newVar, newRow]
end
end Go.Proofs.YtkkmokodaejheaaDoor
namespace Go.Proofs.YtkkmokodaejheaaDoor
open Go
set_option linter.unusedVariables false
section
variable {P : Program} {N : Nat} {ops : Array Oper} {Q : A9} {rest : List Oper} {ρ : Env} {o : Oper} {w0 w w' : World} {S : Nat → Prop} {H : List Ent} {d g t tt : Nat} {cs : Array Value} {v : Value}
theorem JD {x : Operand} {u : Value} {vs : Array Value} (hI : Inv S w0 w H) (hw : Ag ops ρ o = true) (hd : o.dst = some d) (hN : Nat.blt d N = true) (ho : o.op = .box t x) (hx : ev ρ x = u) (hu : u.cells = vs)
  (h : ∀ g w', Pure w w' → g = w.heap.size → Inv S w0 w' (B g t vs :: H) → WL P N ops Q rest (upd ρ d (.pointer (some ⟨g, 0, none⟩))) w') : WL P N ops Q (o :: rest) ρ w :=
 Fg hw hd hN (WU ho hx) (h _ _ ((Pure.refl w).alloc _) rfl (hu ▸ hI.box t u.cells))
theorem Wh {u : Value} {vs : Array Value} (hI : Inv S w0 w H) (hw : Ag ops ρ o = true) (hd : o.dst = some d) (hN : Nat.blt d N = true) (ho : o.op = .alloc t) (hz : (P.info? t).bind (·.zero) = some u) (hu : u.cells = vs)
  (h : ∀ g w', Pure w w' → g = w.heap.size → Inv S w0 w' (B g t vs :: H) → WL P N ops Q rest (upd ρ d (.pointer (some ⟨g, 0, none⟩))) w') : WL P N ops Q (o :: rest) ρ w :=
 Fg hw hd hN (Jg ho hz) (h _ _ ((Pure.refl w).alloc _) rfl (hu ▸ hI.box t u.cells))
theorem Vw (u : Value) (vs : Array Value) (hI : Inv S w0 w H) (h0_ : @Eq _ (Ag ops ρ o, o.dst, Nat.blt d N, o.op, u.cells) (true, some d, true, .alloc t, vs)) (h2_ : ∀ g w', Pure w w' → g = w.heap.size → Inv S w0 w' (B g t vs :: H) → WL P N ops Q rest (upd ρ d (.pointer (some ⟨g, 0, none⟩))) w') (h1_ : (P.info? t).bind (·.zero) = some u := by kernel_rfl) : WL P N ops Q (o :: rest) ρ w := Wh (u := u) (vs := vs) hI (q1 h0_) (q1 (q2 h0_)) (q1 (q2 (q2 h0_))) (q1 (q2 (q2 (q2 h0_)))) h1_ (q2 (q2 (q2 (q2 h0_)))) h2_
theorem run_store {x y : Operand} {n j : Nat} {u : Value} {vs : Array Value} (ho : o.op = .store tt x y) (hx : ev ρ x = .pointer (some ⟨g, j, none⟩)) (hy : ev ρ y = u) (hu : u.cells = vs) (hs : szB P tt n = true) (hn : vs.size = n)
  (hB : Blk w g t cs) (hj : j + n ≤ cs.size) (h1 : vs.toList.all (·.oneCell') = true) : (execOp (ev ρ) o).run P w = .ok .skip (w.setCells g j vs.toList) := by
 subst hu
 have hst := run_storeCells_cells (P := P) g j u.cells.toList 0 w (fun k hk => by
   rw [Nat.add_zero, hB.cell]
   have : j + k < cs.size := by simp at hk; omega
   simp [this]) (fun k hk => hB.frozen _) (fun v hv => List.all_eq_true.1 h1 v hv)
 simp only [Nat.add_zero] at hst
 simp [execOp, ho, hx, hy, Instr.storeAt, Instr.sureAddr, storeVar, Cc hs, hn, hst]
theorem OB {vs : Array Value} (h : cs.size = vs.size) : splice cs 0 vs.toList = vs := by
 apply Array.ext'
 rw [JM _ _ _ (by simp [h])]
 simp [h]
theorem Lx {x y : Operand} {n : Nat} {u : Value} {vs : Array Value} (i : Nat) (hi : H[i]? = some (B g t cs)) (hI : Inv S w0 w H) (hw : Ag ops ρ o = true) (hd : o.dst = none) (ho : o.op = .store tt x y) (hx : ev ρ x = .pointer (some ⟨g, 0, none⟩)) (hy : ev ρ y = u) (hu : u.cells = vs)
  (hs : szB P tt n = true) (hn : vs.size = n) (hcs : cs.size = n) (h1 : vs.toList.all (·.oneCell') = true) (h : ∀ w', Inv S w0 w' (H.set i (B g t vs)) → WL P N ops Q rest ρ w') : WL P N ops Q (o :: rest) ρ w := by
 have hB : Blk w g t cs := (hI.ok _ (List.mem_of_getElem? hi)).1
 refine IW hw hd (run_store ho hx hy hu hs hn hB (by omega) h1) (h _ ?_)
 refine hI.upd i hi (Chg.setCells (S := (B g t cs).D) (b := g) (.inl rfl) _ _ (Chg.refl (B g t cs).D w)) (B.ok ?_) (fun _ hk => .inl hk)
 have := hB.setCells vs.toList 0
 rwa [OB (by omega)] at this
theorem G5 {x y : Operand} {j : Nat} {u : Value} {cs' : Array Value} (i : Nat) (hi : H[i]? = some (B g t cs)) (hI : Inv S w0 w H) (hw : Ag ops ρ o = true) (hd : o.dst = none) (ho : o.op = .store tt x y) (hx : ev ρ x = .pointer (some ⟨g, j, none⟩)) (hy : ev ρ y = u) (hu : u.cells = #[u])
  (hs : szB P tt 1 = true) (h1 : u.oneCell' = true) (hj : Nat.blt j cs.size = true) (hc : cs.setIfInBounds j u = cs') (h : ∀ w', Inv S w0 w' (H.set i (B g t cs')) → WL P N ops Q rest ρ w') : WL P N ops Q (o :: rest) ρ w := by
 have hB : Blk w g t cs := (hI.ok _ (List.mem_of_getElem? hi)).1
 subst hc
 exact IW hw hd (run_store ho hx hy hu hs rfl hB (Nat.le_of_ble_eq_true hj) (by simp [h1])) (h _ (hI.set i hi j u))
theorem Qn {x y : Operand} {e n c j i sz : Nat} {k : IntKind} (ho : o.op = .slice t x (some y) none none) (ht : P.underlying t = some (.slice e)) (hs : szB P e sz = true) (hx : ev ρ x = .slice (some ⟨g, j, none⟩) n c) (hy : ev ρ y = .int k (i : Int)) (hi : i ≤ n) (hc : i < c) :
  Ar P ρ o w (.slice (some ⟨g, j + i * sz, none⟩) (n - i) (c - i)) := by
 have h1 : ¬ c = i := by omega
 simp [Ar, execOp, ho, hx, hy, Instr.sliceAt, Instr.slice, Instr.sliceBounds, Instr.sliceBound, asIntOf, run_underlying ht, Cc hs, hi, h1, Addr.add_lit]
theorem Gc {x y : Operand} {e n c i sz : Nat} {A : Option Addr} {k : IntKind} (ho : o.op = .slice t x none (some y) none) (ht : P.underlying t = some (.slice e)) (hs : szB P e sz = true) (hx : ev ρ x = .slice A n c) (hy : ev ρ y = .int k (i : Int)) (hi : i ≤ c) :
  Ar P ρ o w (.slice A i c) := by
 cases A with
 | none => simp [Ar, execOp, ho, hx, hy, Instr.sliceAt, Instr.slice, Instr.sliceBounds, Instr.sliceBound, asIntOf, run_underlying ht, Cc hs, hi]
 | some p =>
  have h0 : p.add 0 = p := by simp [Addr.add]
  simp [Ar, execOp, ho, hx, hy, Instr.sliceAt, Instr.slice, Instr.sliceBounds, Instr.sliceBound, asIntOf, run_underlying ht, Cc hs, hi, h0]
theorem XZ {x y : Operand} {e n : Nat} {i : TypeInfo} {z : Value} (hI : Inv S w0 w H) (hw : Ag ops ρ o = true) (hd : o.dst = some d) (hN : Nat.blt d N = true) (ho : o.op = .makeSlice t x y) (hx : ev ρ x = .int .i64 (n : Int)) (hy : ev ρ y = .int .i64 (n : Int))
  (ht : P.underlying t = some (.slice e)) (hi : P.info? e = some i) (hz : i.zero = some z) (hz1 : z.cells = #[z]) (hs : i.size = 1) (hb : i.bytes * n ≤ 281474976710656) (h63 : n ≤ 9223372036854775807)
  (h : ∀ g w', Pure w w' → g = w.heap.size → Inv S w0 w' (B g e (rep z n) :: H) → WL P N ops Q rest (upd ρ d (.slice (some ⟨g, 0, none⟩) n n)) w') : WL P N ops Q (o :: rest) ρ w := by
 have hr := NB (P := P) t e i z ht hi hz hz1 hs n hb h63 w
 exact Fg hw hd hN (by simp [execOp, ho, hx, hy, hr]) (h _ _ ((Pure.refl w).alloc _) rfl (hI.box e (rep z n)))
theorem Ni {x y : Operand} {e n by_ : Nat} {z : Value} (hI : Inv S w0 w H) (hw : Ag ops ρ o = true) (hd : o.dst = some d) (hN : Nat.blt d N = true) (ho : o.op = .makeSlice t x y) (hx : ev ρ x = .int .i64 (n : Int)) (hy : ev ρ y = .int .i64 (n : Int))
  (ht : P.underlying t = some (.slice e)) (hi : (P.info? e).map (fun i => (i.zero, i.size, i.bytes)) = some (some z, 1, by_)) (hz1 : z.cells = #[z]) (hb : by_ * n ≤ 281474976710656) (h63 : n ≤ 9223372036854775807)
  (h : ∀ g w', Pure w w' → g = w.heap.size → Inv S w0 w' (B g e (rep z n) :: H) → WL P N ops Q rest (upd ρ d (.slice (some ⟨g, 0, none⟩) n n)) w') : WL P N ops Q (o :: rest) ρ w := by
 cases hp : P.info? e with
 | none => simp [hp] at hi
 | some i =>
  simp only [hp, Option.map_some, Option.some.injEq, Prod.mk.injEq] at hi
  obtain ⟨h1, h2, h3⟩ := hi
  exact XZ hI hw hd hN ho hx hy ht hp h1 hz1 h2 (by rw [h3]; exact hb) h63 h
def Aal (cs : List Value) (o : Nat) : List Value → List Value
 | [] => cs
 | u :: r => Aal (cs.set o u) (o + 1) r
def NI (cs : List Value) : List Nat → List (Nat × Value) → List Value
 | o :: os, (_, v) :: qs => NI (Aal cs o v.cells.toList) os qs
 | _, _ => cs
theorem ZG {e n : Nat} {ps : List (Nat × Operand)} {qs : List (Nat × Value)} {vs : List Value} (zs : List Value) (os : List Nat) (hI : Inv S w0 w H) (hw : Ag ops ρ o = true) (hd : o.dst = some d) (hN : Nat.blt d N = true) (ho : o.op = .buildSlice t n ps.toArray) (hq : (ps.map fun p => (p.1, ev ρ p.2)) = qs) (hv : NI zs os qs = vs) (ht : P.underlying t = some (.slice e))
  (hr : ∀ w : World, (Instr.buildSlice t n qs.toArray).run P w = .ok (.slice (some ⟨w.heap.size, 0, none⟩) n n) (w.alloc (.cells vs.toArray e)))
  (h : ∀ g w', Pure w w' → g = w.heap.size → Inv S w0 w' (B g e vs.toArray :: H) → WL P N ops Q rest (upd ρ d (.slice (some ⟨g, 0, none⟩) n n)) w') : WL P N ops Q (o :: rest) ρ w := by
 subst hq
 refine Fg hw hd hN ?_ (h _ _ ((Pure.refl w).alloc _) rfl (hI.box e vs.toArray))
 have := hr w
 simp only [execOp, ho]
 simp [this]
theorem Vm {e : Nat} {n : Nat} {ps : List (Nat × Operand)} (qs : List (Nat × Value)) (vs : List Value) (zs : List Value) (os : List Nat) (hI : Inv S w0 w H) (h0_ : @Eq _ (Ag ops ρ o, o.dst, Nat.blt d N, o.op, (ps.map fun p => (p.1, ev ρ p.2)), NI zs os qs) (true, some d, true, .buildSlice t n ps.toArray, qs, vs)) (ht : P.underlying t = some (.slice e)) (hr : ∀ w : World, (Instr.buildSlice t n qs.toArray).run P w = .ok (.slice (some ⟨w.heap.size, 0, none⟩) n n) (w.alloc (.cells vs.toArray e))) (h1_ : ∀ g w', Pure w w' → g = w.heap.size → Inv S w0 w' (B g e vs.toArray :: H) → WL P N ops Q rest (upd ρ d (.slice (some ⟨g, 0, none⟩) n n)) w') : WL P N ops Q (o :: rest) ρ w := ZG (qs := qs) (vs := vs) zs os hI (q1 h0_) (q1 (q2 h0_)) (q1 (q2 (q2 h0_))) (q1 (q2 (q2 (q2 h0_)))) (q1 (q2 (q2 (q2 (q2 h0_))))) (q2 (q2 (q2 (q2 (q2 h0_))))) ht hr h1_
theorem EI {ps : List (Nat × Operand)} {qs : List (Nat × Value)} {vs : List Value} (zs : List Value) (os : List Nat) (ho : o.op = .build t ps.toArray) (hq : (ps.map fun p => (p.1, ev ρ p.2)) = qs) (hv : NI zs os qs = vs) (hr : ∀ w : World, (Instr.build t qs.toArray).run P w = .ok (.agg vs.toArray) w) : Ar P ρ o w (.agg vs.toArray) := by
 subst hq
 have := hr w
 simp only [Ar, execOp, ho]
 simp [this]
theorem Inv.c0 (h : Inv S w0 w (B g t cs :: H)) {j : Nat} {v : Value} (hc : cs[j]? = some v) : w.cell? ⟨g, j, none⟩ = some v := h.cell 0 rfl hc
theorem Inv.g0 {e : Ent} (h : Inv S w0 w (e :: H)) : e.Φ w := (h.ok e (List.mem_of_getElem? (i := 0) rfl)).1
theorem Inv.f0 (h : Inv S w0 w (B g t cs :: H)) (j : Nat) : w.frozen? ⟨g, j, none⟩ = false := ((h.ok (B g t cs) (List.mem_of_getElem? (i := 0) rfl)).1 : Blk w g t cs).frozen j
theorem Inv.d0 {e : Ent} (h : Inv S w0 w (e :: H)) : Inv S w0 w (H) := h.erase 0
theorem Inv.u0 {e e' : Ent} {w' : World} (h : Inv S w0 w (e :: H)) (hc : Chg e.D w w') (ho : e'.ok w') (hD : ∀ k, e'.D k → e.D k ∨ w.heap.size ≤ k) : Inv S w0 w' (e' :: H) := h.upd 0 rfl hc ho hD
theorem XW {x y : Operand} {g : Nat} {n : Nat} {vs : Array Value} {u : Value} (hI : Inv S w0 w (B g t cs :: H)) (hw : Ag ops ρ o = true) (hd : o.dst = none) (ho : o.op = .store tt x y) (hx : ev ρ x = .pointer (some ⟨g, 0, none⟩)) (hy : ev ρ y = u) (hu : u.cells = vs) (hs : szB P tt n = true) (hn : vs.size = n) (hcs : cs.size = n) (h1 : vs.toList.all (·.oneCell') = true) (h : ∀ w', Inv S w0 w' (B g t vs :: H) → WL P N ops Q rest ρ w') : WL P N ops Q (o :: rest) ρ w := Lx 0 rfl hI hw hd ho hx hy hu hs hn hcs h1 h
theorem Vz {x : Operand} {y : Operand} {g : Nat} (n : Nat) (vs : Array Value) (u : Value) (hI : Inv S w0 w (B g t cs :: H)) (h0_ : @Eq _ (Ag ops ρ o, o.dst, o.op, ev ρ x, ev ρ y, u.cells, vs.size, cs.size, vs.toList.all (·.oneCell')) (true, none, .store tt x y, .pointer (some ⟨g, 0, none⟩), u, vs, n, n, true)) (h2_ : ∀ w', Inv S w0 w' (B g t vs :: H) → WL P N ops Q rest ρ w') (h1_ : szB P tt n = true := by kernel_rfl) : WL P N ops Q (o :: rest) ρ w := XW (n := n) (u := u) (vs := vs) hI (q1 h0_) (q1 (q2 h0_)) (q1 (q2 (q2 h0_))) (q1 (q2 (q2 (q2 h0_)))) (q1 (q2 (q2 (q2 (q2 h0_))))) (q1 (q2 (q2 (q2 (q2 (q2 h0_)))))) h1_ (q1 (q2 (q2 (q2 (q2 (q2 (q2 h0_))))))) (q1 (q2 (q2 (q2 (q2 (q2 (q2 (q2 h0_)))))))) (q2 (q2 (q2 (q2 (q2 (q2 (q2 (q2 h0_)))))))) h2_
theorem QT {x y : Operand} {g j : Nat} {u : Value} {cs' : Array Value} (hI : Inv S w0 w (B g t cs :: H)) (hw : Ag ops ρ o = true) (hd : o.dst = none) (ho : o.op = .store tt x y) (hx : ev ρ x = .pointer (some ⟨g, j, none⟩)) (hy : ev ρ y = u) (hu : u.cells = #[u]) (hs : szB P tt 1 = true) (h1 : u.oneCell' = true) (hj : Nat.blt j cs.size = true) (hc : cs.setIfInBounds j u = cs') (h : ∀ w', Inv S w0 w' (B g t cs' :: H) → WL P N ops Q rest ρ w') : WL P N ops Q (o :: rest) ρ w := G5 0 rfl hI hw hd ho hx hy hu hs h1 hj hc h
theorem Vp {x : Operand} {y : Operand} {g : Nat} (j : Nat) (u : Value) {cs' : Array Value} (hI : Inv S w0 w (B g t cs :: H)) (h0_ : @Eq _ (Ag ops ρ o, o.dst, o.op, ev ρ x, ev ρ y, u.cells, u.oneCell') (true, none, .store tt x y, .pointer (some ⟨g, j, none⟩), u, #[u], true)) (hj : Nat.blt j cs.size = true) (h2_ : cs.setIfInBounds j u = cs') (h3_ : ∀ w', Inv S w0 w' (B g t cs' :: H) → WL P N ops Q rest ρ w') (h1_ : szB P tt 1 = true := by kernel_rfl) : WL P N ops Q (o :: rest) ρ w := QT (j := j) (u := u) hI (q1 h0_) (q1 (q2 h0_)) (q1 (q2 (q2 h0_))) (q1 (q2 (q2 (q2 h0_)))) (q1 (q2 (q2 (q2 (q2 h0_))))) (q1 (q2 (q2 (q2 (q2 (q2 h0_)))))) h1_ (q2 (q2 (q2 (q2 (q2 (q2 h0_)))))) hj h2_ h3_
theorem Inv.c1 {e0 : Ent} (h : Inv S w0 w (e0 :: B g t cs :: H)) {j : Nat} {v : Value} (hc : cs[j]? = some v) : w.cell? ⟨g, j, none⟩ = some v := h.cell 1 rfl hc
theorem Inv.g1 {e0 : Ent} {e : Ent} (h : Inv S w0 w (e0 :: e :: H)) : e.Φ w := (h.ok e (List.mem_of_getElem? (i := 1) rfl)).1
theorem Inv.s1 {e0 : Ent} (h : Inv S w0 w (e0 :: B g t cs :: H)) (j : Nat) (v : Value) : Inv S w0 (w.setCell ⟨g, j, none⟩ v) (e0 :: B g t (cs.setIfInBounds j v) :: H) := h.set 1 rfl j v
theorem Inv.f1 {e0 : Ent} (h : Inv S w0 w (e0 :: B g t cs :: H)) (j : Nat) : w.frozen? ⟨g, j, none⟩ = false := ((h.ok (B g t cs) (List.mem_of_getElem? (i := 1) rfl)).1 : Blk w g t cs).frozen j
theorem Inv.d1 {e0 : Ent} {e : Ent} (h : Inv S w0 w (e0 :: e :: H)) : Inv S w0 w (e0 :: H) := h.erase 1
theorem XV {e0 : Ent} {x y : Operand} {g : Nat} {n : Nat} {vs : Array Value} {u : Value} (hI : Inv S w0 w (e0 :: B g t cs :: H)) (hw : Ag ops ρ o = true) (hd : o.dst = none) (ho : o.op = .store tt x y) (hx : ev ρ x = .pointer (some ⟨g, 0, none⟩)) (hy : ev ρ y = u) (hu : u.cells = vs) (hs : szB P tt n = true) (hn : vs.size = n) (hcs : cs.size = n) (h1 : vs.toList.all (·.oneCell') = true) (h : ∀ w', Inv S w0 w' (e0 :: B g t vs :: H) → WL P N ops Q rest ρ w') : WL P N ops Q (o :: rest) ρ w := Lx 1 rfl hI hw hd ho hx hy hu hs hn hcs h1 h
theorem ZF {e0 : Ent} {x y : Operand} {g j : Nat} {u : Value} {cs' : Array Value} (hI : Inv S w0 w (e0 :: B g t cs :: H)) (hw : Ag ops ρ o = true) (hd : o.dst = none) (ho : o.op = .store tt x y) (hx : ev ρ x = .pointer (some ⟨g, j, none⟩)) (hy : ev ρ y = u) (hu : u.cells = #[u]) (hs : szB P tt 1 = true) (h1 : u.oneCell' = true) (hj : Nat.blt j cs.size = true) (hc : cs.setIfInBounds j u = cs') (h : ∀ w', Inv S w0 w' (e0 :: B g t cs' :: H) → WL P N ops Q rest ρ w') : WL P N ops Q (o :: rest) ρ w := G5 1 rfl hI hw hd ho hx hy hu hs h1 hj hc h
theorem Vr {e0 : Ent} {x : Operand} {y : Operand} {g : Nat} (j : Nat) (u : Value) {cs' : Array Value} (hI : Inv S w0 w (e0 :: B g t cs :: H)) (h0_ : @Eq _ (Ag ops ρ o, o.dst, o.op, ev ρ x, ev ρ y, u.cells, u.oneCell') (true, none, .store tt x y, .pointer (some ⟨g, j, none⟩), u, #[u], true)) (hj : Nat.blt j cs.size = true) (h2_ : cs.setIfInBounds j u = cs') (h3_ : ∀ w', Inv S w0 w' (e0 :: B g t cs' :: H) → WL P N ops Q rest ρ w') (h1_ : szB P tt 1 = true := by kernel_rfl) : WL P N ops Q (o :: rest) ρ w := ZF (j := j) (u := u) hI (q1 h0_) (q1 (q2 h0_)) (q1 (q2 (q2 h0_))) (q1 (q2 (q2 (q2 h0_)))) (q1 (q2 (q2 (q2 (q2 h0_))))) (q1 (q2 (q2 (q2 (q2 (q2 h0_)))))) h1_ (q2 (q2 (q2 (q2 (q2 (q2 h0_)))))) hj h2_ h3_
theorem Inv.c2 {e0 e1 : Ent} (h : Inv S w0 w (e0 :: e1 :: B g t cs :: H)) {j : Nat} {v : Value} (hc : cs[j]? = some v) : w.cell? ⟨g, j, none⟩ = some v := h.cell 2 rfl hc
theorem Inv.g2 {e0 e1 : Ent} {e : Ent} (h : Inv S w0 w (e0 :: e1 :: e :: H)) : e.Φ w := (h.ok e (List.mem_of_getElem? (i := 2) rfl)).1
theorem Inv.s2 {e0 e1 : Ent} (h : Inv S w0 w (e0 :: e1 :: B g t cs :: H)) (j : Nat) (v : Value) : Inv S w0 (w.setCell ⟨g, j, none⟩ v) (e0 :: e1 :: B g t (cs.setIfInBounds j v) :: H) := h.set 2 rfl j v
theorem Inv.f2 {e0 e1 : Ent} (h : Inv S w0 w (e0 :: e1 :: B g t cs :: H)) (j : Nat) : w.frozen? ⟨g, j, none⟩ = false := ((h.ok (B g t cs) (List.mem_of_getElem? (i := 2) rfl)).1 : Blk w g t cs).frozen j
theorem Inv.d2 {e0 e1 : Ent} {e : Ent} (h : Inv S w0 w (e0 :: e1 :: e :: H)) : Inv S w0 w (e0 :: e1 :: H) := h.erase 2
theorem Inv.u2 {e0 e1 : Ent} {e e' : Ent} {w' : World} (h : Inv S w0 w (e0 :: e1 :: e :: H)) (hc : Chg e.D w w') (ho : e'.ok w') (hD : ∀ k, e'.D k → e.D k ∨ w.heap.size ≤ k) : Inv S w0 w' (e0 :: e1 :: e' :: H) := h.upd 2 rfl hc ho hD
theorem XU {e0 e1 : Ent} {x y : Operand} {g : Nat} {n : Nat} {vs : Array Value} {u : Value} (hI : Inv S w0 w (e0 :: e1 :: B g t cs :: H)) (hw : Ag ops ρ o = true) (hd : o.dst = none) (ho : o.op = .store tt x y) (hx : ev ρ x = .pointer (some ⟨g, 0, none⟩)) (hy : ev ρ y = u) (hu : u.cells = vs) (hs : szB P tt n = true) (hn : vs.size = n) (hcs : cs.size = n) (h1 : vs.toList.all (·.oneCell') = true) (h : ∀ w', Inv S w0 w' (e0 :: e1 :: B g t vs :: H) → WL P N ops Q rest ρ w') : WL P N ops Q (o :: rest) ρ w := Lx 2 rfl hI hw hd ho hx hy hu hs hn hcs h1 h
theorem ZE {e0 e1 : Ent} {x y : Operand} {g j : Nat} {u : Value} {cs' : Array Value} (hI : Inv S w0 w (e0 :: e1 :: B g t cs :: H)) (hw : Ag ops ρ o = true) (hd : o.dst = none) (ho : o.op = .store tt x y) (hx : ev ρ x = .pointer (some ⟨g, j, none⟩)) (hy : ev ρ y = u) (hu : u.cells = #[u]) (hs : szB P tt 1 = true) (h1 : u.oneCell' = true) (hj : Nat.blt j cs.size = true) (hc : cs.setIfInBounds j u = cs') (h : ∀ w', Inv S w0 w' (e0 :: e1 :: B g t cs' :: H) → WL P N ops Q rest ρ w') : WL P N ops Q (o :: rest) ρ w := G5 2 rfl hI hw hd ho hx hy hu hs h1 hj hc h
theorem Inv.c3 {e0 e1 e2 : Ent} (h : Inv S w0 w (e0 :: e1 :: e2 :: B g t cs :: H)) {j : Nat} {v : Value} (hc : cs[j]? = some v) : w.cell? ⟨g, j, none⟩ = some v := h.cell 3 rfl hc
theorem Inv.g3 {e0 e1 e2 : Ent} {e : Ent} (h : Inv S w0 w (e0 :: e1 :: e2 :: e :: H)) : e.Φ w := (h.ok e (List.mem_of_getElem? (i := 3) rfl)).1
theorem Inv.s3 {e0 e1 e2 : Ent} (h : Inv S w0 w (e0 :: e1 :: e2 :: B g t cs :: H)) (j : Nat) (v : Value) : Inv S w0 (w.setCell ⟨g, j, none⟩ v) (e0 :: e1 :: e2 :: B g t (cs.setIfInBounds j v) :: H) := h.set 3 rfl j v
theorem Inv.f3 {e0 e1 e2 : Ent} (h : Inv S w0 w (e0 :: e1 :: e2 :: B g t cs :: H)) (j : Nat) : w.frozen? ⟨g, j, none⟩ = false := ((h.ok (B g t cs) (List.mem_of_getElem? (i := 3) rfl)).1 : Blk w g t cs).frozen j
theorem Inv.d3 {e0 e1 e2 : Ent} {e : Ent} (h : Inv S w0 w (e0 :: e1 :: e2 :: e :: H)) : Inv S w0 w (e0 :: e1 :: e2 :: H) := h.erase 3
theorem ZC {e0 e1 e2 : Ent} {x y : Operand} {g j : Nat} {u : Value} {cs' : Array Value} (hI : Inv S w0 w (e0 :: e1 :: e2 :: B g t cs :: H)) (hw : Ag ops ρ o = true) (hd : o.dst = none) (ho : o.op = .store tt x y) (hx : ev ρ x = .pointer (some ⟨g, j, none⟩)) (hy : ev ρ y = u) (hu : u.cells = #[u]) (hs : szB P tt 1 = true) (h1 : u.oneCell' = true) (hj : Nat.blt j cs.size = true) (hc : cs.setIfInBounds j u = cs') (h : ∀ w', Inv S w0 w' (e0 :: e1 :: e2 :: B g t cs' :: H) → WL P N ops Q rest ρ w') : WL P N ops Q (o :: rest) ρ w := G5 3 rfl hI hw hd ho hx hy hu hs h1 hj hc h
theorem Inv.c4 {e0 e1 e2 e3 : Ent} (h : Inv S w0 w (e0 :: e1 :: e2 :: e3 :: B g t cs :: H)) {j : Nat} {v : Value} (hc : cs[j]? = some v) : w.cell? ⟨g, j, none⟩ = some v := h.cell 4 rfl hc
theorem Inv.g4 {e0 e1 e2 e3 : Ent} {e : Ent} (h : Inv S w0 w (e0 :: e1 :: e2 :: e3 :: e :: H)) : e.Φ w := (h.ok e (List.mem_of_getElem? (i := 4) rfl)).1
theorem Inv.s4 {e0 e1 e2 e3 : Ent} (h : Inv S w0 w (e0 :: e1 :: e2 :: e3 :: B g t cs :: H)) (j : Nat) (v : Value) : Inv S w0 (w.setCell ⟨g, j, none⟩ v) (e0 :: e1 :: e2 :: e3 :: B g t (cs.setIfInBounds j v) :: H) := h.set 4 rfl j v
theorem Inv.f4 {e0 e1 e2 e3 : Ent} (h : Inv S w0 w (e0 :: e1 :: e2 :: e3 :: B g t cs :: H)) (j : Nat) : w.frozen? ⟨g, j, none⟩ = false := ((h.ok (B g t cs) (List.mem_of_getElem? (i := 4) rfl)).1 : Blk w g t cs).frozen j
theorem Inv.d4 {e0 e1 e2 e3 : Ent} {e : Ent} (h : Inv S w0 w (e0 :: e1 :: e2 :: e3 :: e :: H)) : Inv S w0 w (e0 :: e1 :: e2 :: e3 :: H) := h.erase 4
theorem XT {e0 e1 e2 e3 : Ent} {x y : Operand} {g : Nat} {n : Nat} {vs : Array Value} {u : Value} (hI : Inv S w0 w (e0 :: e1 :: e2 :: e3 :: B g t cs :: H)) (hw : Ag ops ρ o = true) (hd : o.dst = none) (ho : o.op = .store tt x y) (hx : ev ρ x = .pointer (some ⟨g, 0, none⟩)) (hy : ev ρ y = u) (hu : u.cells = vs) (hs : szB P tt n = true) (hn : vs.size = n) (hcs : cs.size = n) (h1 : vs.toList.all (·.oneCell') = true) (h : ∀ w', Inv S w0 w' (e0 :: e1 :: e2 :: e3 :: B g t vs :: H) → WL P N ops Q rest ρ w') : WL P N ops Q (o :: rest) ρ w := Lx 4 rfl hI hw hd ho hx hy hu hs hn hcs h1 h
theorem ZB {e0 e1 e2 e3 : Ent} {x y : Operand} {g j : Nat} {u : Value} {cs' : Array Value} (hI : Inv S w0 w (e0 :: e1 :: e2 :: e3 :: B g t cs :: H)) (hw : Ag ops ρ o = true) (hd : o.dst = none) (ho : o.op = .store tt x y) (hx : ev ρ x = .pointer (some ⟨g, j, none⟩)) (hy : ev ρ y = u) (hu : u.cells = #[u]) (hs : szB P tt 1 = true) (h1 : u.oneCell' = true) (hj : Nat.blt j cs.size = true) (hc : cs.setIfInBounds j u = cs') (h : ∀ w', Inv S w0 w' (e0 :: e1 :: e2 :: e3 :: B g t cs' :: H) → WL P N ops Q rest ρ w') : WL P N ops Q (o :: rest) ρ w := G5 4 rfl hI hw hd ho hx hy hu hs h1 hj hc h
theorem Inv.c5 {e0 e1 e2 e3 e4 : Ent} (h : Inv S w0 w (e0 :: e1 :: e2 :: e3 :: e4 :: B g t cs :: H)) {j : Nat} {v : Value} (hc : cs[j]? = some v) : w.cell? ⟨g, j, none⟩ = some v := h.cell 5 rfl hc
theorem Inv.g5 {e0 e1 e2 e3 e4 : Ent} {e : Ent} (h : Inv S w0 w (e0 :: e1 :: e2 :: e3 :: e4 :: e :: H)) : e.Φ w := (h.ok e (List.mem_of_getElem? (i := 5) rfl)).1
theorem Inv.d5 {e0 e1 e2 e3 e4 : Ent} {e : Ent} (h : Inv S w0 w (e0 :: e1 :: e2 :: e3 :: e4 :: e :: H)) : Inv S w0 w (e0 :: e1 :: e2 :: e3 :: e4 :: H) := h.erase 5
theorem Inv.c6 {e0 e1 e2 e3 e4 e5 : Ent} (h : Inv S w0 w (e0 :: e1 :: e2 :: e3 :: e4 :: e5 :: B g t cs :: H)) {j : Nat} {v : Value} (hc : cs[j]? = some v) : w.cell? ⟨g, j, none⟩ = some v := h.cell 6 rfl hc
theorem Inv.g6 {e0 e1 e2 e3 e4 e5 : Ent} {e : Ent} (h : Inv S w0 w (e0 :: e1 :: e2 :: e3 :: e4 :: e5 :: e :: H)) : e.Φ w := (h.ok e (List.mem_of_getElem? (i := 6) rfl)).1
theorem Inv.s6 {e0 e1 e2 e3 e4 e5 : Ent} (h : Inv S w0 w (e0 :: e1 :: e2 :: e3 :: e4 :: e5 :: B g t cs :: H)) (j : Nat) (v : Value) : Inv S w0 (w.setCell ⟨g, j, none⟩ v) (e0 :: e1 :: e2 :: e3 :: e4 :: e5 :: B g t (cs.setIfInBounds j v) :: H) := h.set 6 rfl j v
theorem Inv.f6 {e0 e1 e2 e3 e4 e5 : Ent} (h : Inv S w0 w (e0 :: e1 :: e2 :: e3 :: e4 :: e5 :: B g t cs :: H)) (j : Nat) : w.frozen? ⟨g, j, none⟩ = false := ((h.ok (B g t cs) (List.mem_of_getElem? (i := 6) rfl)).1 : Blk w g t cs).frozen j
theorem Inv.d6 {e0 e1 e2 e3 e4 e5 : Ent} {e : Ent} (h : Inv S w0 w (e0 :: e1 :: e2 :: e3 :: e4 :: e5 :: e :: H)) : Inv S w0 w (e0 :: e1 :: e2 :: e3 :: e4 :: e5 :: H) := h.erase 6
theorem Rz {e0 e1 e2 e3 e4 e5 : Ent} {x y : Operand} {g : Nat} {n : Nat} {vs : Array Value} {u : Value} (hI : Inv S w0 w (e0 :: e1 :: e2 :: e3 :: e4 :: e5 :: B g t cs :: H)) (hw : Ag ops ρ o = true) (hd : o.dst = none) (ho : o.op = .store tt x y) (hx : ev ρ x = .pointer (some ⟨g, 0, none⟩)) (hy : ev ρ y = u) (hu : u.cells = vs) (hs : szB P tt n = true) (hn : vs.size = n) (hcs : cs.size = n) (h1 : vs.toList.all (·.oneCell') = true) (h : ∀ w', Inv S w0 w' (e0 :: e1 :: e2 :: e3 :: e4 :: e5 :: B g t vs :: H) → WL P N ops Q rest ρ w') : WL P N ops Q (o :: rest) ρ w := Lx 6 rfl hI hw hd ho hx hy hu hs hn hcs h1 h
theorem Inv.c7 {e0 e1 e2 e3 e4 e5 e6 : Ent} (h : Inv S w0 w (e0 :: e1 :: e2 :: e3 :: e4 :: e5 :: e6 :: B g t cs :: H)) {j : Nat} {v : Value} (hc : cs[j]? = some v) : w.cell? ⟨g, j, none⟩ = some v := h.cell 7 rfl hc
theorem Inv.g7 {e0 e1 e2 e3 e4 e5 e6 : Ent} {e : Ent} (h : Inv S w0 w (e0 :: e1 :: e2 :: e3 :: e4 :: e5 :: e6 :: e :: H)) : e.Φ w := (h.ok e (List.mem_of_getElem? (i := 7) rfl)).1
theorem Inv.s7 {e0 e1 e2 e3 e4 e5 e6 : Ent} (h : Inv S w0 w (e0 :: e1 :: e2 :: e3 :: e4 :: e5 :: e6 :: B g t cs :: H)) (j : Nat) (v : Value) : Inv S w0 (w.setCell ⟨g, j, none⟩ v) (e0 :: e1 :: e2 :: e3 :: e4 :: e5 :: e6 :: B g t (cs.setIfInBounds j v) :: H) := h.set 7 rfl j v
theorem Inv.f7 {e0 e1 e2 e3 e4 e5 e6 : Ent} (h : Inv S w0 w (e0 :: e1 :: e2 :: e3 :: e4 :: e5 :: e6 :: B g t cs :: H)) (j : Nat) : w.frozen? ⟨g, j, none⟩ = false := ((h.ok (B g t cs) (List.mem_of_getElem? (i := 7) rfl)).1 : Blk w g t cs).frozen j
theorem Inv.c8 {e0 e1 e2 e3 e4 e5 e6 e7 : Ent} (h : Inv S w0 w (e0 :: e1 :: e2 :: e3 :: e4 :: e5 :: e6 :: e7 :: B g t cs :: H)) {j : Nat} {v : Value} (hc : cs[j]? = some v) : w.cell? ⟨g, j, none⟩ = some v := h.cell 8 rfl hc
theorem Inv.g8 {e0 e1 e2 e3 e4 e5 e6 e7 : Ent} {e : Ent} (h : Inv S w0 w (e0 :: e1 :: e2 :: e3 :: e4 :: e5 :: e6 :: e7 :: e :: H)) : e.Φ w := (h.ok e (List.mem_of_getElem? (i := 8) rfl)).1
theorem Inv.s8 {e0 e1 e2 e3 e4 e5 e6 e7 : Ent} (h : Inv S w0 w (e0 :: e1 :: e2 :: e3 :: e4 :: e5 :: e6 :: e7 :: B g t cs :: H)) (j : Nat) (v : Value) : Inv S w0 (w.setCell ⟨g, j, none⟩ v) (e0 :: e1 :: e2 :: e3 :: e4 :: e5 :: e6 :: e7 :: B g t (cs.setIfInBounds j v) :: H) := h.set 8 rfl j v
theorem Inv.f8 {e0 e1 e2 e3 e4 e5 e6 e7 : Ent} (h : Inv S w0 w (e0 :: e1 :: e2 :: e3 :: e4 :: e5 :: e6 :: e7 :: B g t cs :: H)) (j : Nat) : w.frozen? ⟨g, j, none⟩ = false := ((h.ok (B g t cs) (List.mem_of_getElem? (i := 8) rfl)).1 : Blk w g t cs).frozen j
theorem Inv.d8 {e0 e1 e2 e3 e4 e5 e6 e7 : Ent} {e : Ent} (h : Inv S w0 w (e0 :: e1 :: e2 :: e3 :: e4 :: e5 :: e6 :: e7 :: e :: H)) : Inv S w0 w (e0 :: e1 :: e2 :: e3 :: e4 :: e5 :: e6 :: e7 :: H) := h.erase 8
theorem Inv.u8 {e0 e1 e2 e3 e4 e5 e6 e7 : Ent} {e e' : Ent} {w' : World} (h : Inv S w0 w (e0 :: e1 :: e2 :: e3 :: e4 :: e5 :: e6 :: e7 :: e :: H)) (hc : Chg e.D w w') (ho : e'.ok w') (hD : ∀ k, e'.D k → e.D k ∨ w.heap.size ≤ k) : Inv S w0 w' (e0 :: e1 :: e2 :: e3 :: e4 :: e5 :: e6 :: e7 :: e' :: H) := h.upd 8 rfl hc ho hD
theorem Inv.g9 {e0 e1 e2 e3 e4 e5 e6 e7 e8 : Ent} {e : Ent} (h : Inv S w0 w (e0 :: e1 :: e2 :: e3 :: e4 :: e5 :: e6 :: e7 :: e8 :: e :: H)) : e.Φ w := (h.ok e (List.mem_of_getElem? (i := 9) rfl)).1
theorem Inv.s9 {e0 e1 e2 e3 e4 e5 e6 e7 e8 : Ent} (h : Inv S w0 w (e0 :: e1 :: e2 :: e3 :: e4 :: e5 :: e6 :: e7 :: e8 :: B g t cs :: H)) (j : Nat) (v : Value) : Inv S w0 (w.setCell ⟨g, j, none⟩ v) (e0 :: e1 :: e2 :: e3 :: e4 :: e5 :: e6 :: e7 :: e8 :: B g t (cs.setIfInBounds j v) :: H) := h.set 9 rfl j v
theorem BC {fuel : Nat} {listed : Array Bool} {T : List Nat} (hI : Inv S w0 w H) (h : ∀ Sx : World → Prop, (∀ W, Sx W → Inv S w0 W H) → (∀ W, Inv S w0 W H → Sx W) → WT P N ops Q Sx T fuel listed ρ w) : WA P N ops Q fuel listed ρ w :=
 Cm (fun W => Inv S w0 W H) T (h _ (fun _ h => h) (fun _ h => h))
theorem Tq {ρ : Env} {d : Nat} {v : Value} (h : ρ d = v) : ρ = upd ρ d v := by
 funext i
 unfold upd
 cases hb : Nat.beq i d with
 | false => rfl
 | true => rw [Nat.eq_of_beq_eq_true hb]; exact h
end
def Has (ρ : Env) : List (Nat × Value) → Prop
 | [] => True
 | p :: l => ρ p.1 = p.2 ∧ Has ρ l
def Tp (σ : Env) : List (Nat × Value) → Env
 | [] => σ
 | p :: l => upd (Tp σ l) p.1 p.2
theorem Has.self {ρ : Env} : ∀ {l : List (Nat × Value)}, Has ρ l → Tp ρ l = ρ
 | [], _ => rfl
 | p :: l, h => by
  show upd (Tp ρ l) p.1 p.2 = ρ
  rw [Has.self h.2]
  exact (Tq h.1).symm
theorem Has.open {ρ : Env} {l : List (Nat × Value)} (h : Has ρ l) : ∃ σ, ρ = Tp σ l := ⟨ρ, h.self.symm⟩
def cnt : Value → Nat
 | .int _ n => n.toNat
 | _ => 0
theorem Ent.mk_ok {D : Nat → Prop} {Φ : World → Prop} {w : World} (h : Φ w) (hD : ∀ k, D k → k < w.heap.size) (hc : ∀ (S : Nat → Prop) (w1 w2 : World), Chg S w1 w2 → (∀ k, D k → ¬ S k) → Φ w1 → Φ w2) : Ent.ok ⟨D, Φ⟩ w := ⟨h, hD, hc⟩
end Go.Proofs.YtkkmokodaejheaaDoor
namespace Go.Proofs.YtkkmokodaejheaaDoor
open Go
set_option linter.unusedVariables false
section
variable {P : Program} {ρ : Env} {o : Oper} {w : World} {x y z : Operand} {v : Value} {t t' : TypeId}
theorem wrap_u64 {n : Nat} (h : n < 18446744073709551616) : IntKind.u64.wrap (n : Int) = n := by simp [IntKind.wrap, IntKind.signed, IntKind.bits]; omega
theorem Qr {s d : TypeId} {k k' : IntKind} {ds : TypeDesc} {n : Int} (ho : o.op = .convert s d x) (hs : P.underlying s = some ds) (hd : P.underlying d = some (.int k)) (hx : ev ρ x = .int k' n) : Ar P ρ o w (.int k (k.wrap n)) := by
 simp [Ar, execOp, ho, hx, convert, run_underlying hs, run_underlying hd, Conv.intToInt]
theorem Qq {s d : TypeId} {k' : IntKind} {ds : TypeDesc} {n : Nat} (ho : o.op = .convert s d x) (hs : P.underlying s = some ds) (hd : P.underlying d = some (.int .u64)) (hx : ev ρ x = .int k' (n : Int)) (h : n < 18446744073709551616) : Ar P ρ o w (.int .u64 (n : Int)) := by
 have := Qr (P := P) (w := w) ho hs hd hx
 rwa [wrap_u64 h] at this
theorem Yi {op : BinOp} {k : IntKind} {a b : Int} {r : BitVec k.bits → BitVec k.bits → BitVec k.bits} (ho : o.op = .binOp op t x y t') (hx : ev ρ x = .int k a) (hy : ev ρ y = .int k b) (hr : (match op with | .and => some (fun p q : BitVec k.bits => p &&& q) | .or => some (fun p q => p ||| q) | .xor => some (fun p q => p ^^^ q) | _ => none) = some r) :
  Ar P ρ o w (.int k (k.wrap (r (BitVec.ofInt k.bits a) (BitVec.ofInt k.bits b)).toNat)) := by
 cases op <;> simp at hr <;> subst hr <;> simp [Ar, execOp, ho, hx, hy, eqGuard, binOp, Op.intBits]
theorem ZZ {k k' : IntKind} {a c : Int} (ho : o.op = .binOp .shr t x y t') (hx : ev ρ x = .int k a) (hy : ev ρ y = .int k' c) (hc : 0 ≤ c) : Ar P ρ o w (.int k (a.fdiv (2 ^ min c.toNat k.bits))) := by
 have : ¬ c < 0 := by omega
 simp [Ar, execOp, ho, hx, hy, eqGuard, binOp, Op.shift, this]
theorem Z7 {k : IntKind} {a : Int} (ho : o.op = .unOp .neg t x) (hx : ev ρ x = .int k a) : Ar P ρ o w (.int k (k.wrap (0 - a))) := by simp [Ar, execOp, ho, hx, Op.unary, Op.intArith]
theorem Z0 {k : IntKind} {a b : Int} (ho : o.op = .binOp .quo t x y t') (hx : ev ρ x = .int k a) (hy : ev ρ y = .int k b) (hb : b ≠ 0) : Ar P ρ o w (.int k (k.wrap (a.tdiv b))) := by simp [Ar, execOp, ho, hx, hy, eqGuard, binOp, Op.intDiv, hb]
theorem Q9 {p : Addr} (ho : o.op = .nilCheck x) (hx : ev ρ x = .pointer (some p)) : Ar P ρ o w (.pointer (some p)) := by simp [Ar, execOp, ho, hx]
theorem T9 {N_ : Nat} {ops_ : Array Oper} {Q_ : A9} {S_ : World → Prop} {T_ : List Nat} {f_ : Nat} {l_ : Array Bool} {d_ : Nat} (i_ : Nat) {p : Addr} (hS_ : S_ w) (h0_ : @Eq _ (ops_[i_]?, o.dst, Ag ops_ ρ o, o.op, ev ρ x) (some o, some d_, true, .nilCheck x, .pointer (some p))) (K_ : WT P N_ ops_ Q_ S_ T_ f_ (l_.setIfInBounds i_ true) (upd ρ d_ (.pointer (some p))) w) (hB_ : EP ops_ T_ N_ l_ i_ d_ = true := by kernel_rfl) : WT P N_ ops_ Q_ S_ T_ (f_ + 1) l_ ρ w := Ae i_ (q1 h0_) (q1 (q2 h0_)) hB_ hS_ (q1 (q2 (q2 h0_))) (fun W_ hW_ => Q9 (q1 (q2 (q2 (q2 h0_)))) (q2 (q2 (q2 (q2 h0_))))) K_
theorem Td {N_ : Nat} {ops_ : Array Oper} {Q_ : A9} {rest_ : List Oper} {d_ : Nat} {p : Addr} (h0_ : @Eq _ (Ag ops_ ρ o, o.dst, Nat.blt d_ N_, o.op, ev ρ x) (true, some d_, true, .nilCheck x, .pointer (some p))) (K_ : WL P N_ ops_ Q_ rest_ (upd ρ d_ (.pointer (some p))) w) : WL P N_ ops_ Q_ (o :: rest_) ρ w := Af (q1 h0_) (q1 (q2 h0_)) (q1 (q2 (q2 h0_))) (Q9 (q1 (q2 (q2 (q2 h0_)))) (q2 (q2 (q2 (q2 h0_))))) K_
theorem FO {e n sz g j i : Nat} {k : IntKind} {zz : Int} (ho : o.op = .indexAddr t x y) (ht : P.underlying t = some (.array n e)) (hs : szB P e sz = true) (hx : ev ρ x = .pointer (some ⟨g, j, none⟩)) (hy : ev ρ y = .int k zz) (hz : zz = (i : Int)) (hi : i < n) :
  Ar P ρ o w (.pointer (some ⟨g, j + i * sz, none⟩)) := by
 subst hz
 have hi' : (i : Int) < (n : Int) := by omega
 simp [Ar, execOp, ho, hx, hy, Instr.indexAt, asIntOf, Instr.sureAddr, run_underlying ht, Cc hs, hi, Addr.add]
theorem Aak {e n c c' sz : Nat} {A A' : Option Addr} (ho : o.op = .call { callee := .builtin .append, args := #[x, y], argTypes := #[t, t] }) (ht : P.underlying t = some (.slice e)) (hs : szB P e sz = true) (hx : ev ρ x = .slice A n c) (hy : ev ρ y = .slice A' 0 c') (hn : n ≤ c) : Ar P ρ o w (.slice A n c) := by
 cases A <;> cases A' <;> simp [Ar, execOp, ho, resolve, invoke, builtin, hx, hy, Builtin.append_, run_underlying ht, Cc hs, Builtin.lenOf, Builtin.firstCells, storeCells, loadCells, loadCellsFrom, hn]
theorem OH {A : Option Addr} {e n c i sz : Nat} {K : IntKind} (ho : o.op = .slice t x (some y) none none) (ht : P.underlying t = some (.slice e)) (hs : szB P e sz = true) (hx : ev ρ x = .slice A n c) (hy : ev ρ y = .int K (i : Int)) (hi : i ≤ n) :
  Ar P ρ o w (.slice (if c = i then A else A.map (·.add (i * sz))) (n - i) (c - i)) := by
 simp [Ar, execOp, ho, hx, hy, Instr.sliceAt, Instr.slice, Instr.sliceBounds, Instr.sliceBound, asIntOf, run_underlying ht, Cc hs, hi]
end
theorem JQ {P : Program} {ρ : Env} {w : World} {g t : Nat} {cs : Array Value} {fn : Func} {R : Ending → World → Prop} {e : Exit} {a s : Tmp} {n T : Nat} (he : e = .normal ∨ e = .ret) (hr : fn.results = #[.cell a t, .tmp s]) (ha : ρ a = .pointer (some ⟨g, 0, none⟩)) (ht : Pz P t = true) (hs : szB P t n = true) (hn : cs.size = n) (hb : Blk w g T cs) (h : R (.returned (.tuple #[.agg cs, ρ s])) w) : DR P fn R e ρ w := by
 have h1 := run_loadCellsFrom (P := P) (b := g) (w := w) cs.toList 0 0 #[] (fun k u hk => by rw [Nat.zero_add, Nat.zero_add, hb.cell]; simpa using hk)
 have hn' : cs.toList.length = n := by simpa using hn
 rw [hn'] at h1
 refine Qj he fun b hb' => ⟨_, ?_, h⟩
 have h2 := hb'.get a
 have h3 := hb'.get s
 rw [ha] at h2
 simp only [Array.getD_eq_getD_getElem?] at h2 h3
 simp [results, hr, h2, h3, asAddr, loadVar, GV ht, Cc hs, loadCells, h1]
def Row (base e size : Nat) (A : Option Addr) (n c : Nat) (xs : List Value) : Ent := ⟨fun k => A.map (·.block) = some k, fun w => w.ownsRow base e size (.slice A n c) n xs⟩
theorem CS (A : Option Addr) (n c : Nat) : (Value.slice A n c).ownBlock = A.map (·.block) := by cases A <;> rfl
theorem Row.ok {w : World} {base e size n c : Nat} {A : Option Addr} {xs : List Value} (h : w.ownsRow base e size (.slice A n c) n xs) : (Row base e size A n c xs).ok w := by
 refine Ent.mk_ok h (fun k hk => ?_) (fun S w1 w2 hc hS h1 => ?_)
 ·rcases h.2 with ⟨hv, _⟩ | ⟨g, cap, cur, hv, _, hh, _⟩
  ·injection hv with hv; subst hv; simp at hk
  ·injection hv with hv; subst hv
   simp at hk
   subst hk
   exact Blk.lt (t := e) (cs := cur) hh
 ·refine ⟨h1.1, ?_⟩
  rcases h1.2 with h2 | ⟨g, cap, cur, hv, hg, hh, h3⟩
  ·exact .inl h2
  ·injection hv with hv _ hv2
   subst hv hv2
   refine .inr ⟨g, _, cur, rfl, hg, ?_, h3⟩
   exact Blk.chg (t := e) (cs := cur) hh hc (hS g rfl)
theorem Row.nil (w : World) (base e size : Nat) : (Row base e size none 0 0 []).ok w := Row.ok (World.ownsRow_nil w base e size)
theorem Row.of_blk {w : World} {base g e n size : Nat} {cs : Array Value} (h : Blk w g e cs) (hb : base ≤ g) (hn : cs.size = n * size) (hm : n ≤ 9223372036854775807) : (Row base e size (some ⟨g, 0, none⟩) n n cs.toList).ok w :=
 Row.ok ⟨by simpa using hn, .inr ⟨g, n, cs, rfl, hb, h, Nat.le_refl _, hm, hn, by rw [List.take_of_length_le]; simp [hn]⟩⟩
section
variable {P : Program} {N : Nat} {ops : Array Oper} {Q : A9} {rest : List Oper} {ρ : Env} {o : Oper} {w0 w : World} {S : Nat → Prop} {H : List Ent} {d t : Nat}
theorem LB {x y : Operand} {base e size n c m c2 b j by_ : Nat} {A : Option Addr} {xs news : List Value} {z : Value} (i : Nat) (hi : H[i]? = some (Row base e size A n c xs)) (hI : Inv S w0 w H) (hw : Ag ops ρ o = true) (hd : o.dst = some d) (hN : Nat.blt d N = true)
  (ho : o.op = .call { callee := .builtin .append, args := #[x, y], argTypes := #[t, t] }) (hx : ev ρ x = .slice A n c) (hy : ev ρ y = .slice (some ⟨b, j, none⟩) m c2) (ht : P.underlying t = some (.slice e))
  (hi0 : (P.info? e).map (fun i => (i.zero, i.size, i.bytes)) = some (some z, size, by_)) (hz1 : z.cells.size = size) (hsz : 0 < size) (hlen : news.length = m * size) (hcells : ∀ k u, news[k]? = some u → w.cell? ⟨b, j + k, none⟩ = some u) (h1 : news.all (·.oneCell') = true)
  (h63 : n + m ≤ 9223372036854775807) (hby : (n + m) * by_ ≤ 140737488355328) (hbase : base ≤ w.heap.size)
  (h : ∀ A' c' w', n + m ≤ c' → c' ≤ 9223372036854775807 → Inv S w0 w' (H.set i (Row base e size A' (n + m) c' (xs ++ news))) → WL P N ops Q rest (upd ρ d (.slice A' (n + m) c')) w') : WL P N ops Q (o :: rest) ρ w := by
 cases hp : P.info? e with
 | none => simp [hp] at hi0
 | some q =>
  simp only [hp, Option.map_some, Option.some.injEq, Prod.mk.injEq] at hi0
  obtain ⟨q1, q2, q3⟩ := hi0
  have hown : w.ownsRow base e size (.slice A n c) n xs := (hI.ok _ (List.mem_of_getElem? hi)).1
  obtain ⟨v', w', hrun, r1, r2, _, r3⟩ := run_append_own_at (P := P) w base t o.type e q z size by_ ht hp q1 q2 q3 hz1 hsz (.slice A n c) n xs hown ⟨b, j, none⟩ m c2 news hlen (fun k u hk => by rw [Addr.add_lit]; exact hcells k u hk) (List.all_eq_true.1 h1) (by simpa [maxLen] using h63) hby hbase
  have hform : ∃ A' c', v' = .slice A' (n + m) c' ∧ n + m ≤ c' ∧ c' ≤ 9223372036854775807 := (Rd.of_own (D := fun _ => True) r1 (fun _ _ _ => trivial)).form
  obtain ⟨A', c', rfl, hc1, hc2⟩ := hform
  refine Fg hw hd hN (v := .slice A' (n + m) c') (w' := w') (by simp [execOp, ho, resolve, invoke, builtin, hx, hy, hrun]) (h A' c' w' hc1 hc2 ?_)
  refine hI.upd i hi ((Chg.refl _ w).grown r2 (fun k hk => .inl ?_)) (Row.ok r1) (fun k hk => ?_)
  ·rw [CS] at hk; exact hk
  ·rw [CS, CS] at r3
   have hk' : A'.map (·.block) = some k := hk
   rcases r3 with r3 | r3
   ·exact .inl (show A.map (·.block) = some k by rw [← r3]; exact hk')
   ·rw [hk'] at r3
    injection r3 with r3
    exact .inr (by omega)
theorem X5 {x y : Operand} {base e size n c m c2 b j by_ : Nat} {A : Option Addr} {xs news : List Value} {z : Value} (hI : Inv S w0 w (Row base e size A n c xs :: H)) (hw : Ag ops ρ o = true) (hd : o.dst = some d) (hN : Nat.blt d N = true)
  (ho : o.op = .call { callee := .builtin .append, args := #[x, y], argTypes := #[t, t] }) (hx : ev ρ x = .slice A n c) (hy : ev ρ y = .slice (some ⟨b, j, none⟩) m c2) (ht : P.underlying t = some (.slice e))
  (hi0 : (P.info? e).map (fun i => (i.zero, i.size, i.bytes)) = some (some z, size, by_)) (hz1 : z.cells.size = size) (hsz : 0 < size) (hlen : news.length = m * size) (hcells : ∀ k u, news[k]? = some u → w.cell? ⟨b, j + k, none⟩ = some u) (h1 : news.all (·.oneCell') = true)
  (h63 : n + m ≤ 9223372036854775807) (hby : (n + m) * by_ ≤ 140737488355328) (hbase : base ≤ w.heap.size)
  (h : ∀ A' c' w', n + m ≤ c' → c' ≤ 9223372036854775807 → Inv S w0 w' (Row base e size A' (n + m) c' (xs ++ news) :: H) → WL P N ops Q rest (upd ρ d (.slice A' (n + m) c')) w') : WL P N ops Q (o :: rest) ρ w :=
 LB 0 rfl hI hw hd hN ho hx hy ht hi0 hz1 hsz hlen hcells h1 h63 hby hbase h
theorem Eb {e0 : Ent} {x y : Operand} {base e size n c m c2 b j by_ : Nat} {A : Option Addr} {xs news : List Value} {z : Value} (hI : Inv S w0 w (e0 :: Row base e size A n c xs :: H)) (hw : Ag ops ρ o = true) (hd : o.dst = some d) (hN : Nat.blt d N = true)
  (ho : o.op = .call { callee := .builtin .append, args := #[x, y], argTypes := #[t, t] }) (hx : ev ρ x = .slice A n c) (hy : ev ρ y = .slice (some ⟨b, j, none⟩) m c2) (ht : P.underlying t = some (.slice e))
  (hi0 : (P.info? e).map (fun i => (i.zero, i.size, i.bytes)) = some (some z, size, by_)) (hz1 : z.cells.size = size) (hsz : 0 < size) (hlen : news.length = m * size) (hcells : ∀ k u, news[k]? = some u → w.cell? ⟨b, j + k, none⟩ = some u) (h1 : news.all (·.oneCell') = true)
  (h63 : n + m ≤ 9223372036854775807) (hby : (n + m) * by_ ≤ 140737488355328) (hbase : base ≤ w.heap.size)
  (h : ∀ A' c' w', n + m ≤ c' → c' ≤ 9223372036854775807 → Inv S w0 w' (e0 :: Row base e size A' (n + m) c' (xs ++ news) :: H) → WL P N ops Q rest (upd ρ d (.slice A' (n + m) c')) w') : WL P N ops Q (o :: rest) ρ w :=
 LB 1 rfl hI hw hd hN ho hx hy ht hi0 hz1 hsz hlen hcells h1 h63 hby hbase h
theorem X4 {e0 e1 e2 : Ent} {x y : Operand} {base e size n c m c2 b j by_ : Nat} {A : Option Addr} {xs news : List Value} {z : Value} (hI : Inv S w0 w (e0 :: e1 :: e2 :: Row base e size A n c xs :: H)) (hw : Ag ops ρ o = true) (hd : o.dst = some d) (hN : Nat.blt d N = true)
  (ho : o.op = .call { callee := .builtin .append, args := #[x, y], argTypes := #[t, t] }) (hx : ev ρ x = .slice A n c) (hy : ev ρ y = .slice (some ⟨b, j, none⟩) m c2) (ht : P.underlying t = some (.slice e))
  (hi0 : (P.info? e).map (fun i => (i.zero, i.size, i.bytes)) = some (some z, size, by_)) (hz1 : z.cells.size = size) (hsz : 0 < size) (hlen : news.length = m * size) (hcells : ∀ k u, news[k]? = some u → w.cell? ⟨b, j + k, none⟩ = some u) (h1 : news.all (·.oneCell') = true)
  (h63 : n + m ≤ 9223372036854775807) (hby : (n + m) * by_ ≤ 140737488355328) (hbase : base ≤ w.heap.size)
  (h : ∀ A' c' w', n + m ≤ c' → c' ≤ 9223372036854775807 → Inv S w0 w' (e0 :: e1 :: e2 :: Row base e size A' (n + m) c' (xs ++ news) :: H) → WL P N ops Q rest (upd ρ d (.slice A' (n + m) c')) w') : WL P N ops Q (o :: rest) ρ w :=
 LB 3 rfl hI hw hd hN ho hx hy ht hi0 hz1 hsz hlen hcells h1 h63 hby hbase h
theorem EY {e0 e1 e2 e3 : Ent} {x y : Operand} {base e size n c m c2 b j by_ : Nat} {A : Option Addr} {xs news : List Value} {z : Value} (hI : Inv S w0 w (e0 :: e1 :: e2 :: e3 :: Row base e size A n c xs :: H)) (hw : Ag ops ρ o = true) (hd : o.dst = some d) (hN : Nat.blt d N = true)
  (ho : o.op = .call { callee := .builtin .append, args := #[x, y], argTypes := #[t, t] }) (hx : ev ρ x = .slice A n c) (hy : ev ρ y = .slice (some ⟨b, j, none⟩) m c2) (ht : P.underlying t = some (.slice e))
  (hi0 : (P.info? e).map (fun i => (i.zero, i.size, i.bytes)) = some (some z, size, by_)) (hz1 : z.cells.size = size) (hsz : 0 < size) (hlen : news.length = m * size) (hcells : ∀ k u, news[k]? = some u → w.cell? ⟨b, j + k, none⟩ = some u) (h1 : news.all (·.oneCell') = true)
  (h63 : n + m ≤ 9223372036854775807) (hby : (n + m) * by_ ≤ 140737488355328) (hbase : base ≤ w.heap.size)
  (h : ∀ A' c' w', n + m ≤ c' → c' ≤ 9223372036854775807 → Inv S w0 w' (e0 :: e1 :: e2 :: e3 :: Row base e size A' (n + m) c' (xs ++ news) :: H) → WL P N ops Q rest (upd ρ d (.slice A' (n + m) c')) w') : WL P N ops Q (o :: rest) ρ w :=
 LB 4 rfl hI hw hd hN ho hx hy ht hi0 hz1 hsz hlen hcells h1 h63 hby hbase h
theorem X3 {e0 e1 e2 e3 e4 : Ent} {x y : Operand} {base e size n c m c2 b j by_ : Nat} {A : Option Addr} {xs news : List Value} {z : Value} (hI : Inv S w0 w (e0 :: e1 :: e2 :: e3 :: e4 :: Row base e size A n c xs :: H)) (hw : Ag ops ρ o = true) (hd : o.dst = some d) (hN : Nat.blt d N = true)
  (ho : o.op = .call { callee := .builtin .append, args := #[x, y], argTypes := #[t, t] }) (hx : ev ρ x = .slice A n c) (hy : ev ρ y = .slice (some ⟨b, j, none⟩) m c2) (ht : P.underlying t = some (.slice e))
  (hi0 : (P.info? e).map (fun i => (i.zero, i.size, i.bytes)) = some (some z, size, by_)) (hz1 : z.cells.size = size) (hsz : 0 < size) (hlen : news.length = m * size) (hcells : ∀ k u, news[k]? = some u → w.cell? ⟨b, j + k, none⟩ = some u) (h1 : news.all (·.oneCell') = true)
  (h63 : n + m ≤ 9223372036854775807) (hby : (n + m) * by_ ≤ 140737488355328) (hbase : base ≤ w.heap.size)
  (h : ∀ A' c' w', n + m ≤ c' → c' ≤ 9223372036854775807 → Inv S w0 w' (e0 :: e1 :: e2 :: e3 :: e4 :: Row base e size A' (n + m) c' (xs ++ news) :: H) → WL P N ops Q rest (upd ρ d (.slice A' (n + m) c')) w') : WL P N ops Q (o :: rest) ρ w :=
 LB 5 rfl hI hw hd hN ho hx hy ht hi0 hz1 hsz hlen hcells h1 h63 hby hbase h
theorem Ve {e0 : Ent} {e1 : Ent} {e2 : Ent} {e3 : Ent} {e4 : Ent} {x : Operand} {y : Operand} {base : Nat} {e : Nat} {size : Nat} {n : Nat} {c : Nat} {m : Nat} {c2 : Nat} {b : Nat} {j : Nat} (by_ : Nat) {A : Option Addr} {xs : List Value} {news : List Value} (z : Value) (hI : Inv S w0 w (e0 :: e1 :: e2 :: e3 :: e4 :: Row base e size A n c xs :: H)) (h0_ : @Eq _ (Ag ops ρ o, o.dst, Nat.blt d N, o.op, ev ρ x, ev ρ y) (true, some d, true, .call { callee := .builtin .append, args := #[x, y], argTypes := #[t, t] }, .slice A n c, .slice (some ⟨b, j, none⟩) m c2)) (ht : P.underlying t = some (.slice e)) (h2_ : z.cells.size = size) (hlen : news.length = m * size) (hcells : ∀ k u, news[k]? = some u → w.cell? ⟨b, j + k, none⟩ = some u) (h1 : news.all (·.oneCell') = true) (hbase : base ≤ w.heap.size) (h6_ : ∀ A' c' w', n + m ≤ c' → c' ≤ 9223372036854775807 → Inv S w0 w' (e0 :: e1 :: e2 :: e3 :: e4 :: Row base e size A' (n + m) c' (xs ++ news) :: H) → WL P N ops Q rest (upd ρ d (.slice A' (n + m) c')) w') (h1_ : (P.info? e).map (fun i => (i.zero, i.size, i.bytes)) = some (some z, size, by_) := by kernel_rfl) (h3_ : 0 < size := by omega) (h4_ : n + m ≤ 9223372036854775807 := by omega) (h5_ : (n + m) * by_ ≤ 140737488355328 := by omega) : WL P N ops Q (o :: rest) ρ w := X3 (by_ := by_) (z := z) hI (q1 h0_) (q1 (q2 h0_)) (q1 (q2 (q2 h0_))) (q1 (q2 (q2 (q2 h0_)))) (q1 (q2 (q2 (q2 (q2 h0_))))) (q2 (q2 (q2 (q2 (q2 h0_))))) ht h1_ h2_ h3_ hlen hcells h1 h4_ h5_ hbase h6_
end
end Go.Proofs.YtkkmokodaejheaaDoor
namespace Go.Proofs.YtkkmokodaejheaaDoor
open Go
set_option linter.unusedVariables false
set_option linter.unusedSimpArgs false
def Ba (l : List Int) : List Value := l.map (Value.int .i64)
section
variable {P : Program} {ρ : Env} {o : Oper} {w : World} {x y z : Operand} {v : Value} {t t' : TypeId}
end
end Go.Proofs.YtkkmokodaejheaaDoor
namespace Go.Proofs.YtkkmokodaejheaaDoor
open Go
set_option linter.unusedVariables false
set_option linter.unusedSimpArgs false
section
variable {P : Program} {ρ : Env} {o : Oper} {w : World} {x y z : Operand} {v : Value} {t t' : TypeId}
end
end Go.Proofs.YtkkmokodaejheaaDoor
namespace Go.Proofs.YtkkmokodaejheaaDoor
open Go
set_option linter.unusedVariables false
set_option linter.unusedSimpArgs false
section
variable {P : Program} {ρ : Env} {o : Oper} {w : World} {x y z : Operand} {v : Value} {t t' : TypeId}
end
end Go.Proofs.YtkkmokodaejheaaDoor
namespace Go.Proofs.YtkkmokodaejheaaDoor
open Go
set_option linter.unusedVariables false
set_option linter.unusedSimpArgs false
section
variable {P : Program} {ρ : Env} {o : Oper} {w : World} {x y z : Operand} {v : Value} {t t' : TypeId}
end
section
variable {P : Program} {N : Nat} {ops : Array Oper} {Q : A9} {S : World → Prop} {T : List Nat} {fuel : Nat} {listed : Array Bool} {ρ : Env} {w : World} {o : Oper} {v : Value} {d : Nat}
theorem VY (l : List Nat) (hr : Region.ready .any ops listed = l) (hne : l ≠ []) (hT : ∀ i ∈ l, T.contains i = false)
  (h : ∀ i ∈ l, ∃ o, ops[i]? = some o ∧ WL P N ops (Cy (fun ρ' w' => S w' ∧ WT P N ops Q S T fuel (listed.setIfInBounds i true) ρ' w') Q) [o] ρ w) : WT P N ops Q S T (fuel + 1) listed ρ w := by
 unfold WT
 intro a ha
 refine ⟨fun h0 => (by rw [hr] at h0; exact absurd h0 hne), fun i hi => ?_⟩
 rw [hr] at hi
 obtain ⟨o, ho, h1⟩ := h i hi
 rw [hT i hi]
 exact Dx ho (IX h1 a ha) fun ρ' a' w' h1 h2 => by
  have h3 := h2.2
  unfold WT at h3
  exact ⟨h2.1, h3 _ h1⟩
theorem FI (i j k : Nat) {oi oj ok : Oper} (hi : ops[i]? = some oi) (hj : ops[j]? = some oj) (hk : ops[k]? = some ok) (hr : Region.ready .any ops listed = [i, j, k]) (hiT : T.contains i = false) (hjT : T.contains j = false) (hkT : T.contains k = false)
  (h0 : WL P N ops (Cy (fun ρ' w' => S w' ∧ WT P N ops Q S T fuel (listed.setIfInBounds i true) ρ' w') Q) [oi] ρ w)
  (h1 : WL P N ops (Cy (fun ρ' w' => S w' ∧ WT P N ops Q S T fuel (listed.setIfInBounds j true) ρ' w') Q) [oj] ρ w)
  (h2 : WL P N ops (Cy (fun ρ' w' => S w' ∧ WT P N ops Q S T fuel (listed.setIfInBounds k true) ρ' w') Q) [ok] ρ w) : WT P N ops Q S T (fuel + 1) listed ρ w := by
 refine VY _ hr (by simp) (fun m hm => ?_) (fun m hm => ?_)
 ·simp only [List.mem_cons, List.not_mem_nil, or_false] at hm
  rcases hm with rfl | rfl | rfl <;> assumption
 ·simp only [List.mem_cons, List.not_mem_nil, or_false] at hm
  rcases hm with rfl | rfl | rfl
  ·exact ⟨_, hi, h0⟩
  ·exact ⟨_, hj, h1⟩
  ·exact ⟨_, hk, h2⟩
theorem XR (i j k l : Nat) {oi oj ok ol : Oper} (hi : ops[i]? = some oi) (hj : ops[j]? = some oj) (hk : ops[k]? = some ok) (hl : ops[l]? = some ol) (hr : Region.ready .any ops listed = [i, j, k, l]) (hiT : T.contains i = false) (hjT : T.contains j = false) (hkT : T.contains k = false) (hlT : T.contains l = false)
  (h0 : WL P N ops (Cy (fun ρ' w' => S w' ∧ WT P N ops Q S T fuel (listed.setIfInBounds i true) ρ' w') Q) [oi] ρ w)
  (h1 : WL P N ops (Cy (fun ρ' w' => S w' ∧ WT P N ops Q S T fuel (listed.setIfInBounds j true) ρ' w') Q) [oj] ρ w)
  (h2 : WL P N ops (Cy (fun ρ' w' => S w' ∧ WT P N ops Q S T fuel (listed.setIfInBounds k true) ρ' w') Q) [ok] ρ w)
  (h3 : WL P N ops (Cy (fun ρ' w' => S w' ∧ WT P N ops Q S T fuel (listed.setIfInBounds l true) ρ' w') Q) [ol] ρ w) : WT P N ops Q S T (fuel + 1) listed ρ w := by
 refine VY _ hr (by simp) (fun m hm => ?_) (fun m hm => ?_)
 ·simp only [List.mem_cons, List.not_mem_nil, or_false] at hm
  rcases hm with rfl | rfl | rfl | rfl <;> assumption
 ·simp only [List.mem_cons, List.not_mem_nil, or_false] at hm
  rcases hm with rfl | rfl | rfl | rfl
  ·exact ⟨_, hi, h0⟩
  ·exact ⟨_, hj, h1⟩
  ·exact ⟨_, hk, h2⟩
  ·exact ⟨_, hl, h3⟩
end
section
variable {S : Nat → Prop} {w0 w : World} {H : List Ent}
theorem Inv.perm {H' : List Ent} (h : Inv S w0 w H) (p : H.Perm H') : Inv S w0 w H' :=
 ⟨h.chg, fun e he => h.ok e (p.mem_iff.2 he), fun e he => h.own e (p.mem_iff.2 he), (p.pairwise_iff (fun {a b} hab k h1 h2 => hab k h2 h1)).1 h.apart⟩
theorem Inv.sw0 {a b : Ent} (h : Inv S w0 w (a :: b :: H)) : Inv S w0 w (b :: a :: H) := h.perm (.swap ..)
theorem Inv.sw1 {a b c : Ent} (h : Inv S w0 w (a :: b :: c :: H)) : Inv S w0 w (a :: c :: b :: H) := h.perm (.cons _ (.swap ..))
end
end Go.Proofs.YtkkmokodaejheaaDoor
namespace Go.Proofs.YtkkmokodaejheaaDoor
open Go
set_option linter.unusedVariables false
set_option linter.unusedSimpArgs false
theorem SL (l : List Value) : ∀ (j off : Nat) (cs : Array Value), (l.zipIdx j).foldl (fun cs (p : Value × Nat) => cs.setIfInBounds (off + p.2) p.1) cs = splice cs (off + j) l := by
 induction l with
 | nil => intro j off cs; rfl
 | cons u l ih =>
  intro j off cs
  rw [List.zipIdx_cons, List.foldl_cons, ih]
  rfl
theorem M6 {size : Nat} : ∀ (ls : List (List Value)) (i : Nat) (done junk : List Value), done.length = i * size → junk.length = ls.length * size → (∀ l ∈ ls, l.length = size) →
  Instr.fill (fun i => some (i * size, size)) (done ++ junk).toArray ((ls.zipIdx i).map fun x => (x.2, Value.agg x.1.toArray)) = some (done ++ ls.flatten).toArray
 | [], i, done, junk, h1, h2, h3 => by
  have : junk = [] := by simpa using h2
  simp [Instr.fill, this]
 | l :: ls, i, done, junk, h1, h2, h3 => by
  have hl := h3 l (by simp)
  rw [List.length_cons, Nat.add_mul, Nat.one_mul] at h2
  rw [List.zipIdx_cons, List.map_cons, Instr.fill]
  have hc : (Value.agg l.toArray).cells = l.toArray := rfl
  simp only [hc]
  rw [if_neg (by simp [hl, h1, h2])]
  have hf : l.toArray.zipIdx.foldl (fun cs (x : Value × Nat) => cs.setIfInBounds (i * size + x.2) x.1) (done ++ junk).toArray = ((done ++ l) ++ junk.drop size).toArray := by
   have := SL l 0 (i * size) (done ++ junk).toArray
   rw [Nat.add_zero] at this
   have e : l.toArray.zipIdx = (l.zipIdx).toArray := by simp
   rw [e, List.foldl_toArray']
   ·refine Eq.trans this ?_
    apply Array.ext'
    rw [JM _ _ _ (by simp [h1, h2]; omega)]
    simp [← h1, hl]
   ·simp
  have ih := M6 ls (i + 1) (done ++ l) (junk.drop size) (by simp [h1, hl, Nat.add_mul]) (by simp [h2]) (fun m hm => h3 m (by simp [hm]))
  rw [hf, ih]
  simp
section
variable {P : Program} {N : Nat} {ops : Array Oper} {Q : A9} {rest : List Oper} {ρ : Env} {o : Oper} {w0 w w' : World} {S : Nat → Prop} {H : List Ent} {d g t tt : Nat} {cs : Array Value} {v : Value}
theorem Ua {e n size : Nat} {z : Value} (ls : List (List Value)) (ht : P.underlying t = some (.slice e)) (hs : szB P e size = true) (hz : (P.info? e).bind (·.zero) = some z) (hn : ls.length = n) (hl : ∀ l ∈ ls, l.length = size) (hm : n * size ≤ 16777216) :
  (Instr.buildSlice t n (((ls.zipIdx).map fun x => (x.2, Value.agg x.1.toArray)).toArray)).run P w = .ok (.slice (some ⟨w.heap.size, 0, none⟩) n n) (w.alloc (.cells ls.flatten.toArray e)) := by
 have hm' : ¬ n * size > 16777216 := by omega
 have hzv : (zeroValue e).run P w = .ok z w := by
  cases hi : P.info? e with
  | none => simp [hi] at hz
  | some q => simp only [hi, Option.bind_some] at hz; simp [zeroValue, typeInfo, hi, hz]
 have key : ∀ zero : Array Value, Instr.fill (fun i => some (i * size, size)) ((Array.range (n * size)).map (zero[· % zero.size]!)) ((ls.zipIdx).map fun x => (x.2, Value.agg x.1.toArray)) = some ls.flatten.toArray := by
  intro zero
  have := M6 (size := size) ls 0 [] (((Array.range (n * size)).map (zero[· % zero.size]!)).toList) (by simp) (by simp [hn]) hl
  rw [List.nil_append, List.nil_append, Array.toArray_toList] at this
  exact this
 unfold Instr.buildSlice
 simp only [Sem.run_bind, run_underlying ht, Result.andThen_ok, Cc hs]
 by_cases h0 : n * size = 0
 ·simp [h0, key #[], newRow] at *
  have := key #[]
  simp at this
  simp [this, newRow]
 ·simp [hm', h0, hzv, key z.cells, newRow]
theorem X0 {e n size : Nat} {ps : List (Nat × Operand)} (ls : List (List Value)) (hI : Inv S w0 w H) (hw : Ag ops ρ o = true) (hd : o.dst = some d) (hN : Nat.blt d N = true) (ho : o.op = .buildSlice t n ps.toArray) (hq : (ps.map fun p => (p.1, ev ρ p.2)) = (ls.zipIdx).map fun x => (x.2, Value.agg x.1.toArray))
  (ht : P.underlying t = some (.slice e)) (hs : szB P e size = true) (hz : ((P.info? e).bind (·.zero)).isSome = true) (hn : ls.length = n) (hl : ∀ l ∈ ls, l.length = size) (hm : n * size ≤ 16777216)
  (h : ∀ g w', Pure w w' → g = w.heap.size → Inv S w0 w' (B g e ls.flatten.toArray :: H) → WL P N ops Q rest (upd ρ d (.slice (some ⟨g, 0, none⟩) n n)) w') : WL P N ops Q (o :: rest) ρ w := by
 obtain ⟨z, hz⟩ := Option.isSome_iff_exists.1 hz
 refine Fg hw hd hN ?_ (h _ _ ((Pure.refl w).alloc _) rfl (hI.box e ls.flatten.toArray))
 have := Ua (P := P) (w := w) ls ht hs hz hn hl hm
 rw [← hq] at this
 simp only [execOp, ho]
 simp [this]
theorem Te (e : Nat) {n : Nat} (size : Nat) {ps : List (Nat × Operand)} (ls : List (List Value)) (hI : Inv S w0 w H) (h0_ : @Eq _ (Ag ops ρ o, o.dst, Nat.blt d N, o.op, (ps.map fun p => (p.1, ev ρ p.2))) (true, some d, true, .buildSlice t n ps.toArray, (ls.zipIdx).map fun x => (x.2, Value.agg x.1.toArray))) (ht : P.underlying t = some (.slice e)) (h3_ : ls.length = n) (hl : ∀ l ∈ ls, l.length = size) (h5_ : ∀ g w', Pure w w' → g = w.heap.size → Inv S w0 w' (B g e ls.flatten.toArray :: H) → WL P N ops Q rest (upd ρ d (.slice (some ⟨g, 0, none⟩) n n)) w') (h1_ : szB P e size = true := by kernel_rfl) (h2_ : ((P.info? e).bind (·.zero)).isSome = true := by kernel_rfl) (h4_ : n * size ≤ 16777216 := by omega) : WL P N ops Q (o :: rest) ρ w := X0 (e := e) (size := size) ls hI (q1 h0_) (q1 (q2 h0_)) (q1 (q2 (q2 h0_))) (q1 (q2 (q2 (q2 h0_)))) (q2 (q2 (q2 (q2 h0_)))) ht h1_ h2_ h3_ hl h4_ h5_
end
end Go.Proofs.YtkkmokodaejheaaDoor
