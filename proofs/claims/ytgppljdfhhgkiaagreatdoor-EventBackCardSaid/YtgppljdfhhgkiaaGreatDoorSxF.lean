/- SxF: ranges over functions: rounds, iterators. Nothing of the program. -/
import Derived.Test.YtgppljdfhhgkiaaGreatDoorSxX
import Derived.Test.YtgppljdfhhgkiaaGreatDoorSxB
import Derived.RangeFuncRecord
import Derived.RangeFuncSeq
import Derived.OrdersIn
import Derived.ControlIn
import Derived.TacticsIn
namespace Go.Proofs.YtgppljdfhhgkiaaGreatDoor
open Go
set_option linter.unusedVariables false

def fen (ro : Option Nat) : Fence := { Fence.wide with round := ro }
def wd (ds : List Deferred) (a : Act) : Act := { a with defers := a.defers ++ ds }
def LiftD (ds : List Deferred) (Q : Exit → Act → World → Prop) : Exit → Act → World → Prop := fun e a w => ∃ a0, a = wd ds a0 ∧ Q e a0 w
/-- No operation is a defer statement. -/
def calm (l : List Oper) : Bool := l.all fun o => match o.op with
  | .defer _ => false
  | _ => true
theorem calm_mem {l : List Oper} (h : calm l = true) {o : Oper} (ho : o ∈ l) : ∀ c, o.op ≠ .defer c := fun c hc => by
  have := List.all_eq_true.1 h o ho
  rw [hc] at this
  cases this
theorem wd_put (ds : List Deferred) (a : Act) (d : Option Tmp) (v : Value) : (wd ds a).put d v = wd ds (a.put d v) := by cases d <;> rfl
theorem wd_eval (ds : List Deferred) (a : Act) : (wd ds a).eval = a.eval := by funext x; cases x <;> rfl
theorem fen_depth {ro : Option Nat} : (fen ro).depth.isSome = true → 1 ≤ 0 := fun h => by cases h
theorem callsIn_fen {ro : Option Nat} {n : Nat} {P : Program} {f : FuncId} {args : Array Value} {w : World} {R : Ending → World → Prop} (h : Calls P f args w R) : CallsIn (fen ro) n P f args w R := callsIn_wide.2 h
theorem rowsIn_fen {ro : Option Nat} {n : Nat} {P : Program} {row : String} {args : Array Value} {w : World} {R : Value → World → Prop} (h : Rows P row args w R) : RowsIn (fen ro) n P row args w R :=
  fun c cs _ => let ⟨v, w', r, s⟩ := h c cs; ⟨v, w', r, stepsIn_wide.2 s⟩
section
variable {P : Program} {N : Nat} {ops : Array Oper} {ds : List Deferred} {ro : Option Nat} {o : Oper}
theorem opIn {a : Act} {w : World} {K K' : Act → World → Prop} {Q : Exit → Act → World → Prop} (hc : ∀ c, o.op ≠ .defer c) (hL : ¬ LetsOut Q) (hK : ∀ a w, K a w → K' (wd ds a) w)
    (h : o.wp P a w K Q) : o.wpIn (fen ro) 0 P (wd ds a) w K' (LiftD ds Q) := by
  refine ⟨fun _ _ => trivial, ?_⟩
  rw [Oper.semAt_eq _ _ _ hc, wd_eval]
  unfold Oper.wp at h
  generalize (execOp a.eval o).run P w = r at *
  cases r with
  | ok n w' =>
    cases n <;> simp only [Oper.upon, Oper.uponIn] at h ⊢
    case value u => rw [wd_put]; exact hK _ _ h
    case skip => rw [wd_put]; exact hK _ _ h
    case defer d =>
      have := hK _ _ h
      rw [← wd_put] at this
      exact this
    case enter f args =>
      refine ⟨fen_depth, callsIn_fen (h.mono fun e w'' he => ?_)⟩
      cases e with
      | returned u => simp only [wd_put]; exact hK _ _ he
      | panicked c => exact ⟨_, rfl, he⟩
      | outgrown => exact (hL he).elim
    case row row args => exact ⟨fen_depth, rowsIn_fen (Rows.mono h fun u w'' he => by rw [wd_put]; exact hK _ _ he)⟩
  | halt x w' => cases x <;> simp only [Oper.upon, Oper.uponIn] at h ⊢ <;> first | exact h | exact ⟨_, rfl, h⟩
theorem listIn {Q : Exit → Act → World → Prop} (hL : ¬ LetsOut Q) {K' : Act → World → Prop} {Q' : Exit → Act → World → Prop} : ∀ (l : List Oper) (a : Act) (w : World), calm l = true → wpList P ops Q l a w → wpListIn (fen ro) 0 P ops (LiftD ds Q) l (wd ds a) w
  | [], a, w, _, h => ⟨a, rfl, h⟩
  | o :: rest, a, w, hc, h => by
    unfold wpList at h
    unfold wpListIn
    have hr : calm rest = true := by
      unfold calm at hc ⊢
      rw [List.all_cons, Bool.and_eq_true] at hc
      exact hc.2
    show (if Region.wanted o (yielded ops a.tmps) then _ else _)
    split
    · rename_i hw
      rw [if_pos hw] at h
      rcases h with h | ⟨_, h⟩
      · exact opIn (calm_mem hc (List.mem_cons_self ..)) hL (fun a w h => listIn hL (K' := K') (Q' := Q') rest a w hr h) h
      · exact (hL h).elim
    · rename_i hw
      rw [if_neg hw] at h
      refine ⟨fun _ _ => trivial, ?_⟩
      rw [wd_put]
      exact listIn hL (K' := K') (Q' := Q') rest _ w hr h
theorem wpOp_fen {Q : Exit → Act → World → Prop} (hL : ¬ LetsOut Q) (hc : calm ops.toList = true) {K K' : Act → World → Prop} {i : Nat} {a : Act} {w : World} (hK : ∀ a w, K a w → K' (wd ds a) w)
    (h : wpOp P ops Q i K a w) : wpOpIn (fen ro) 0 P ops (LiftD ds Q) i K' (wd ds a) w := by
  unfold wpOp at h
  unfold wpOpIn
  cases ho : ops[i]? with
  | none => rw [ho] at h; exact hK _ _ h
  | some o =>
    simp only [ho] at h ⊢
    show (if Region.wanted o (yielded ops a.tmps) then _ else _)
    split
    · rename_i hw
      rw [if_pos hw] at h
      rcases h with h | ⟨_, h⟩
      · exact opIn (calm_mem hc (Array.mem_toList_iff.2 (Array.mem_of_getElem? ho))) hL hK h
      · exact (hL h).elim
    · rename_i hw
      rw [if_neg hw] at h
      refine ⟨fun _ _ => trivial, ?_⟩
      rw [wd_put]
      exact hK _ _ h
theorem anyIn {md : Region.Mode} {Q : Exit → Act → World → Prop} (hL : ¬ LetsOut Q) (hc : calm ops.toList = true) : ∀ (fuel : Nat) (listed : Array Bool) (a : Act) (w : World), wpAny P md ops Q fuel listed a w →
    wpAnyIn (fen ro) 0 P md ops (LiftD ds Q) fuel listed (wd ds a) w
  | 0, listed, a, w, h => ⟨h.1, a, rfl, h.2⟩
  | fuel + 1, listed, a, w, h => ⟨fun hr => ⟨a, rfl, h.1 hr⟩, fun i hi => wpOp_fen hL hc (fun a w h => anyIn hL hc fuel _ a w h) (h.2 i hi)⟩
theorem liftQ_outs {Q : XPost} : ¬ LetsOut (LiftQ N Q) := fun ⟨_, _, h⟩ => h
end

/-! ### A round's frame (or a function's own, with ds to be done at its end) -/
namespace Rd
def W (ro : Option Nat) (ds : List Deferred) (P : Program) (N : Nat) (c : Code) (Q : XPost) (ρ : Env) (w : World) : Prop := ∀ a, Fit N ρ a → c.wpIn (fen ro) 0 P (LiftD ds (LiftQ N Q)) (wd ds a) w
def WI (ro : Option Nat) (ds : List Deferred) (P : Program) (N : Nat) (ops : Array Oper) (Q : XPost) (l : List Oper) (ρ : Env) (w : World) : Prop := ∀ a, Fit N ρ a → wpListIn (fen ro) 0 P ops (LiftD ds (LiftQ N Q)) l (wd ds a) w
section
variable {ro : Option Nat} {ds : List Deferred} {P : Program} {N : Nat} {Q : XPost} {ρ : Env} {w : World}
theorem W_mono {c : Code} {Q' : XPost} (h : W ro ds P N c Q ρ w) (hq : ∀ e ρ w, Q e ρ w → Q' e ρ w) : W ro ds P N c Q' ρ w := fun a ha =>
  wpIn_mono (h a ha) fun e a w q => by
    obtain ⟨a0, rfl, q⟩ := q
    exact ⟨a0, rfl, by cases e <;> first | exact q | (obtain ⟨ρ', h1, h2⟩ := q; exact ⟨ρ', h1, hq _ _ _ h2⟩)⟩
theorem W_seq {x y : Code} (h : W ro ds P N x (thenQ (fun ρ w => W ro ds P N y Q ρ w) Q) ρ w) : W ro ds P N (.seq x y) Q ρ w := by
  intro a ha
  refine wpIn_seq (wpIn_mono (h a ha) fun e a w q => ?_)
  obtain ⟨a0, rfl, q⟩ := q
  cases e <;> first | exact ⟨a0, rfl, q⟩ | (obtain ⟨ρ', h1, h2⟩ := q; exact h2 a0 h1)
theorem W_block {id : Nat} {c : Code} (h : W ro ds P N c (blockQ id Q) ρ w) : W ro ds P N (.block id c) Q ρ w := by
  intro a ha
  refine wpIn_block (wpIn_mono (h a ha) fun e a w q => ?_)
  obtain ⟨a0, rfl, q⟩ := q
  cases e with
  | exit i =>
    obtain ⟨ρ', h1, h2⟩ := q
    simp only [blockQ] at h2
    simp only [Exit.inBlock]
    by_cases hi : i = id
    · rw [if_pos hi]
      rw [show Nat.beq i id = true from by simp [hi]] at h2
      exact ⟨a0, rfl, ρ', h1, h2⟩
    · rw [if_neg hi]
      rw [show Nat.beq i id = false from by rw [Bool.eq_false_iff]; exact fun h => hi (Nat.eq_of_beq_eq_true h)] at h2
      exact ⟨a0, rfl, ρ', h1, h2⟩
  | normal => exact ⟨a0, rfl, q⟩
  | goto l => exact ⟨a0, rfl, q⟩
  | ret => exact ⟨a0, rfl, q⟩
  | panic c => exact ⟨a0, rfl, q⟩
  | outgrown => exact ⟨a0, rfl, q⟩
theorem W_exit {id : Nat} (h : Q (.exit id) ρ w) : W ro ds P N (.exit id) Q ρ w := fun a ha => wpIn_exit ⟨a, rfl, ρ, ha, h⟩
theorem W_ret (h : Q .ret ρ w) : W ro ds P N .ret Q ρ w := fun a ha => wpIn_ret ⟨a, rfl, ρ, ha, h⟩
theorem W_skip (h : Q .normal ρ w) : W ro ds P N .skip Q ρ w := fun a ha => wpIn_skip ⟨a, rfl, ρ, ha, h⟩
theorem W_cond {c : Operand} {x y : Code} (t : Bool) (hc : ev ρ c = .bool t) (h : W ro ds P N (cond t x y) Q ρ w) : W ro ds P N (.cond c x y) Q ρ w := fun a ha =>
  wpIn_cond (t := t) (by rw [wd_eval, ha.eval]; exact hc) (by cases t <;> exact h a ha)
theorem W_if {c : Operand} {x y : Code} {t : Bool} (hc : ev ρ c = .bool t) (h1 : t = true → W ro ds P N x Q ρ w) (h2 : t = false → W ro ds P N y Q ρ w) : W ro ds P N (.cond c x y) Q ρ w :=
  W_cond t hc (by cases t; exact h2 rfl; exact h1 rfl)
theorem W_seq_cut {x y : Code} (M : Env → World → Prop) (h1 : W ro ds P N x (thenQ M Q) ρ w) (h2 : ∀ ρ w, M ρ w → W ro ds P N y Q ρ w) : W ro ds P N (.seq x y) Q ρ w :=
  W_seq (W_mono h1 fun e ρ w q => by cases e <;> first | exact q | exact h2 _ _ q)
theorem W_loop {c : Code} (I : Env → World → Prop) (μ : Env → World → Nat) (h0 : I ρ w)
    (h : ∀ ρ w, I ρ w → W ro ds P N c (thenQ (fun ρ' w' => I ρ' w' ∧ μ ρ' w' < μ ρ w) Q) ρ w) : W ro ds P N (.loop c) Q ρ w := by
  intro a ha
  refine wpIn_loop (fun a w => ∃ a0, a = wd ds a0 ∧ ∃ ρ, Fit N ρ a0 ∧ I ρ w) (fun a w => μ (fun i => a.tmps.getD i undef) w) ⟨a, rfl, ρ, ha, h0⟩ fun a w hI => ?_
  obtain ⟨a, rfl, ρ, ha, hI⟩ := hI
  refine wpIn_mono (h ρ w hI a ha) fun e a' w' q => ?_
  obtain ⟨a', rfl, q⟩ := q
  cases e <;> first | exact ⟨a', rfl, q⟩ | (obtain ⟨ρ', h1, h2, h3⟩ := q; exact ⟨⟨a', rfl, ρ', h1, h2⟩, by
    show μ (fun i => a'.tmps.getD i undef) w' < μ (fun i => a.tmps.getD i undef) w
    rw [h1.env, ha.env]; exact h3⟩)
theorem W_region {id : Nat} {l : List Oper} (h : WL P N l.toArray Q l ρ w) (hc : calm l = true := by kernel_rfl) : W ro ds P N (.region id l.toArray false) Q ρ w := fun a ha =>
  wpIn_region_lit (listIn (K' := fun _ _ => True) (Q' := fun _ _ _ => True) liftQ_outs l a w hc (WL_elim h a ha))
theorem W_draw {id : Nat} {ops : Array Oper} (hm : P.follows .mixedOrders = true) (h : WA P N ops Q ops.size (Array.replicate ops.size false) ρ w.drew) (hc : calm ops.toList = true := by kernel_rfl) : W ro ds P N (.region id ops true) Q ρ w := fun a ha =>
  wpIn_region_any hm (anyIn liftQ_outs hc _ _ a _ ((by unfold WA at h; exact h : ∀ a, Fit N ρ a → wpAny P .any ops (LiftQ N Q) ops.size (Array.replicate ops.size false) a w.drew) a ha))
/-- A region with a call of yield in it: the operations ahead of it; it; those behind it. -/
theorem W_regionI {id : Nat} {l : List Oper} (i : Nat) (h : WL P N l.toArray (thenQ (fun ρ w => WI ro ds P N l.toArray Q (l.drop i) ρ w) (fun _ _ _ => False)) (l.take i) ρ w) (hc : calm (l.take i) = true := by kernel_rfl) : W ro ds P N (.region id l.toArray false) Q ρ w := fun a ha => by
  refine wpIn_region_lit ?_
  have key : ∀ (l1 l2 : List Oper) (a : Act) (w : World), wpListIn (fen ro) 0 P l.toArray (LiftD ds (LiftQ N (thenQ (fun ρ w => WI ro ds P N l.toArray Q l2 ρ w) (fun _ _ _ => False)))) l1 a w →
      wpListIn (fen ro) 0 P l.toArray (LiftD ds (LiftQ N Q)) (l1 ++ l2) a w := by
    intro l1
    induction l1 with
    | nil =>
      intro l2 a w h
      obtain ⟨a0, rfl, ρ', h1, h2⟩ := h
      exact h2 a0 h1
    | cons o l1 ih =>
      intro l2 a w h
      show wpListIn _ _ _ _ _ (o :: (l1 ++ l2)) a w
      unfold wpListIn at h ⊢
      split
      · rename_i hw
        rw [if_pos hw] at h
        refine ⟨h.1, ?_⟩
        have h2 := h.2
        generalize (o.semAt (fen ro).round a.eval).run P w = r at *
        cases r with
        | ok x w' =>
          cases x <;> simp only [Oper.uponIn] at h2 ⊢ <;>
            first
              | exact ih _ _ _ h2
              | exact ⟨h2.1, CallsIn.mono h2.2 (fun e w'' he => by cases e <;> first | exact ih _ _ _ he | (obtain ⟨a0, e0, q⟩ := he; exact q.elim) | (obtain ⟨_, _, a0, e0, q⟩ := he; exact q.elim))⟩
              | exact ⟨h2.1, RowsIn.mono h2.2 (fun _ _ he => ih _ _ _ he)⟩
              | exact ⟨h2.1, RoundIn.mono h2.2 (fun e w'' he => by cases e <;> first | exact ih _ _ _ he | (obtain ⟨a0, e0, q⟩ := he; exact q.elim) | (obtain ⟨_, _, a0, e0, q⟩ := he; exact q.elim))⟩
        | halt x w' => cases x <;> simp only [Oper.uponIn] at h2 ⊢ <;> first | exact h2 | (obtain ⟨a0, e0, q⟩ := h2; exact q.elim)
      · rename_i hw
        rw [if_neg hw] at h
        exact ⟨h.1, ih _ _ _ h.2⟩
  have := key (l.take i) (l.drop i) (wd ds a) w (listIn (K' := fun _ _ => True) (Q' := fun _ _ _ => True) liftQ_outs _ a w hc (WL_elim h a ha))
  rwa [List.take_append_drop] at this
theorem WI_of {l : List Oper} {ops : Array Oper} (h : WL P N ops Q l ρ w) (hc : calm l = true := by kernel_rfl) : WI ro ds P N ops Q l ρ w := fun a ha =>
  listIn (K' := fun _ _ => True) (Q' := fun _ _ _ => True) liftQ_outs l a w hc (WL_elim h a ha)
end
end Rd

/-! ### pointers that are not nil -/
section
variable {P : Program} {ρ : Env} {w : World} {o : Oper} {t t' el : TypeId} {x y : Operand} {a : Addr}
end
/-! ### yield -/
abbrev Yields1 (P : Program) (l : Nat) (args : Array Value) (W : World) (R : Ending → World → Prop) : Prop := YieldAt Fence.wide 0 P l args W R
section
variable {P : Program} {N : Nat} {Q : XPost} {ρ : Env} {w : World} {o : Oper} {ops : Array Oper} {rest : List Oper} {ro : Option Nat} {ds : List Deferred}
theorem rYield {z : Operand} {as : List Operand} {ts : Array TypeId} {vs : List Value} {l : Nat} (ho : o.op = .call { callee := .value z, args := as.toArray, argTypes := ts }) (hz : ev ρ z = .func (.yield l) #[] #[]) (hv : as.map (ev ρ) = vs) :
    (execOp (ev ρ) o).run P w = (Instr.yield l vs.toArray).run P w := by
  simp [execOp, ho, resolve, hz, Deferred.ofValue, invoke, callFunc, ← hv]
theorem Rd.WI_yield {d l : Nat} {args : Array Value} (hw : wantedR ops ρ o = true) (hd : o.dst = some d) (hN : Nat.blt d N = true) (hc : calm [o] = true) (hr : (execOp (ev ρ) o).run P w = (Instr.yield l args).run P w)
    (h : Yields1 P l args w fun e w' => ∃ v, e = .returned v ∧ Rd.WI ro ds P N ops Q rest (upd ρ d v) w') : Rd.WI ro ds P N ops Q (o :: rest) ρ w := by
  intro a ha
  unfold wpListIn
  show (if Region.wanted o (yielded ops a.tmps) then _ else _)
  rw [wanted_fit ha, if_pos hw]
  refine ⟨fun _ _ => trivial, ?_⟩
  rw [Oper.semAt_eq _ _ _ (calm_mem hc (List.mem_cons_self ..)), wd_eval, ha.eval, hr]
  obtain ⟨fn, tmps, assign, body, h1, h2⟩ := h
  rw [h1]
  refine ⟨fen_depth, RoundIn.mono (show RoundIn (fen ro) 0 P l fn tmps assign body w _ from h2) fun e w' he => ?_⟩
  obtain ⟨v, rfl, hv⟩ := he
  have := hv _ (WL_put hd hN ha v)
  rw [← wd_put] at this
  exact this
end
namespace Rd
section
variable {ro : Option Nat} {ds : List Deferred} {P : Program} {N : Nat} {Q : XPost} {ρ : Env} {w : World}
/-- A loop whose measure is told by the invariant. -/
theorem W_loopN {c : Code} (I : Nat → Env → World → Prop) (n0 : Nat) (h0 : I n0 ρ w)
    (h : ∀ n ρ w, I n ρ w → Rd.W ro ds P N c (thenQ (fun ρ' w' => ∃ m, m < n ∧ I m ρ' w') Q) ρ w) : Rd.W ro ds P N (.loop c) Q ρ w := by
  classical
  let μ : Env → World → Nat := fun ρ w => if hx : ∃ n, I n ρ w then Classical.choose (min_ex hx) else 0
  have hμ : ∀ ρ w, (∃ n, I n ρ w) → I (μ ρ w) ρ w ∧ ∀ m, I m ρ w → μ ρ w ≤ m := fun ρ w hx => by
    have hs := Classical.choose_spec (min_ex hx)
    have he : μ ρ w = Classical.choose (min_ex hx) := dif_pos hx
    rw [he]
    refine ⟨hs.1, fun m hm => ?_⟩
    rcases Nat.lt_or_ge m (Classical.choose (min_ex hx)) with h1 | h1
    · exact absurd hm (hs.2 m h1)
    · exact h1
  refine Rd.W_loop (fun ρ w => ∃ n, I n ρ w) μ ⟨n0, h0⟩ fun ρ w hI => ?_
  refine Rd.W_mono (h _ ρ w (hμ ρ w hI).1) fun e ρ' w' q => ?_
  cases e <;> first | exact q | (obtain ⟨m, h1, h2⟩ := q; exact ⟨⟨m, h2⟩, Nat.lt_of_le_of_lt ((hμ ρ' w' ⟨m, h2⟩).2 m h2) h1⟩)
end
end Rd
end Go.Proofs.YtgppljdfhhgkiaaGreatDoor
