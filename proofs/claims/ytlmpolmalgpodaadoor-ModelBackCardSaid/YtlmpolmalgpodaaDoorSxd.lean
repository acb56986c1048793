/- Sx: regions that draw their order. T: the operations behind which S need not hold (they wait for all that is taken first). -/
import Derived.Test.YtlmpolmalgpodaaDoorSx
namespace Go.Proofs.YtlmpolmalgpodaaDoor
open Go

section
variable {P : Program} {ops : Array Oper} {Q : Exit → Act → World → Prop} {md : Region.Mode} {S : World → Prop} {T : List Nat}
def wpAnyT (P : Program) (md : Region.Mode) (ops : Array Oper) (Q : Exit → Act → World → Prop) (S : World → Prop) (T : List Nat) : Nat → Array Bool → Act → World → Prop
  | 0, listed, a, w => Region.ready md ops listed = [] ∧ Q .normal a w
  | fuel + 1, listed, a, w =>
    (Region.ready md ops listed = [] → Q .normal a w) ∧
    ∀ i ∈ Region.ready md ops listed, wpOp P ops Q i (fun a' w' => if T.contains i then wpAny P md ops Q fuel (listed.setIfInBounds i true) a' w' else S w' ∧ wpAnyT P md ops Q S T fuel (listed.setIfInBounds i true) a' w') a w

theorem wpAny_of_T : ∀ (fuel : Nat) (listed : Array Bool) (a : Act) (w : World), wpAnyT P md ops Q S T fuel listed a w → wpAny P md ops Q fuel listed a w
  | 0, _, _, _, h => h
  | fuel + 1, _, _, _, h => ⟨h.1, fun i hi => wpOp_mono (fun a' w' h' => by
      split at h'
      · exact h'
      · exact wpAny_of_T fuel _ a' w' h'.2) (h.2 i hi)⟩

/-- What is listed waits for nothing that is not. -/
def closedB (md : Region.Mode) (ops : Array Oper) (listed : Array Bool) : Bool := (List.range ops.size).all fun k =>
  !listed.getD k false || match ops[k]? with
  | some o => o.after.all fun e => !Region.binds md e || listed.getD e.on false
  | none => true
/-- Number t waits for number i, over others too. -/
def reachB (md : Region.Mode) (ops : Array Oper) : Nat → Nat → Nat → Bool
  | 0, _, _ => false
  | n + 1, t, i => match ops[t]? with
    | some o => o.after.any fun e => Region.binds md e && (e.on == i || reachB md ops n e.on i)
    | none => false
theorem closed_step {listed : Array Bool} (hc : closedB md ops listed = true) {k : Nat} {o : Oper} (ho : ops[k]? = some o) (hk : listed.getD k false = true) :
    ∀ e ∈ o.after, Region.binds md e = true → listed.getD e.on false = true := by
  intro e he hb
  have hlt : k < ops.size := (Array.getElem?_eq_some_iff.1 ho).1
  have h1 := List.all_eq_true.1 hc k (List.mem_range.2 hlt)
  simp only [hk, ho, Bool.not_true, Bool.false_or] at h1
  have h2 := Array.all_eq_true_iff_forall_mem.1 h1 e he
  simpa [hb] using h2
theorem reach_listed {listed : Array Bool} (hc : closedB md ops listed = true) : ∀ (n t i : Nat), reachB md ops n t i = true →
    (∀ o, ops[t]? = some o → ∀ e ∈ o.after, Region.binds md e = true → listed.getD e.on false = true) → listed.getD i false = true
  | 0, _, _, h, _ => by simp [reachB] at h
  | n + 1, t, i, h, ht => by
    unfold reachB at h
    cases ho : ops[t]? with
    | none => simp [ho] at h
    | some o =>
      simp only [ho] at h
      obtain ⟨e, he, hb⟩ := Array.any_eq_true'.1 h
      simp only [Bool.and_eq_true, Bool.or_eq_true, beq_iff_eq] at hb
      have h1 := ht o ho e he hb.1
      rcases hb.2 with h2 | h2
      · rw [← h2]; exact h1
      · exact reach_listed hc n e.on i h2 (fun o' ho' => closed_step hc ho' h1)
theorem getD_flip {listed : Array Bool} {k : Nat} (h : listed.getD k true = false) : listed.getD k false = false ∧ k < listed.size := by
  have hlt : k < listed.size := by
    rcases Nat.lt_or_ge k listed.size with h' | h'
    · exact h'
    · simp [Array.getElem?_eq_none h'] at h
  refine ⟨?_, hlt⟩
  simpa [hlt] using h
theorem closed_set {listed : Array Bool} (hc : closedB md ops listed = true) {j : Nat} (hj : j ∈ Region.ready md ops listed) : closedB md ops (listed.setIfInBounds j true) = true := by
  obtain ⟨hjun, oj, hoj, hall⟩ := mem_ready.1 hj
  have hjs := (getD_flip hjun).2
  have up : ∀ m, listed.getD m false = true → (listed.setIfInBounds j true).getD m false = true := by
    intro m hm
    by_cases hjm : j = m
    · subst hjm; simp [hjs]
    · rw [getD_set_ne false hjm]; exact hm
  refine List.all_eq_true.2 fun k hk => ?_
  cases ho : ops[k]? with
  | none => simp
  | some o =>
    simp only [Bool.or_eq_true, Bool.not_eq_true']
    by_cases hjk : j = k
    · subst hjk
      rw [hoj] at ho
      injection ho with ho
      subst ho
      refine .inr (Array.all_eq_true_iff_forall_mem.2 fun e he => ?_)
      cases hb : Region.binds md e with
      | false => rfl
      | true => simp only [Bool.not_true, Bool.false_or]; exact up _ (by simpa using hall e he hb)
    · rw [getD_set_ne false hjk]
      cases hl : listed.getD k false with
      | false => exact .inl rfl
      | true =>
        refine .inr (Array.all_eq_true_iff_forall_mem.2 fun e he => ?_)
        cases hb : Region.binds md e with
        | false => rfl
        | true => simp only [Bool.not_true, Bool.false_or]; exact up _ (closed_step hc ho hl e he hb)

theorem wpAnyT_first {i : Nat} {oi : Oper} {v : Value} (hi : ops[i]? = some oi) (hsel : ∀ (j : Nat) (o : Oper) cs b, ops[j]? = some o → o.op ≠ .select cs b)
    (hQ : ∀ c a w, Q (.panic c) (a.put oi.dst v) w → Q (.panic c) a w) (hT : ∀ t ∈ T, reachB md ops ops.size t i = true) (hiT : T.contains i = false) :
    ∀ (fuel : Nat) (listed : Array Bool) (a : Act) (w : World),
      (∀ j oj, ops[j]? = some oj → j ≠ i → listed.getD j true = false → (∀ e ∈ oj.after, Region.binds md e = true → e.on ≠ i) → oi.apart ops oj = true) →
      closedB md ops listed = true → i ∈ Region.ready md ops listed → YieldsA P ops S oi v a → S w →
      wpAnyT P md ops Q S T fuel (listed.setIfInBounds i true) (a.put oi.dst v) w → wpAnyT P md ops Q S T (fuel + 1) listed a w := by
  intro fuel
  induction fuel with
  | zero =>
    intro listed a w _ _ hr hy hS H
    refine ⟨fun h => (by rw [h] at hr; cases hr), fun j hj => ?_⟩
    by_cases hji : j = i
    · subst hji; exact hy.wpOp hi hS (by rw [hiT]; exact ⟨hS, H⟩)
    · have := ready_mono hj hji
      rw [H.1] at this
      cases this
  | succ fuel ih =>
    intro listed a w hfree hcl hr hy hS H
    have hiun := (mem_ready.1 hr).1
    refine ⟨fun h => (by rw [h] at hr; cases hr), fun j hj => ?_⟩
    by_cases hji : j = i
    · subst hji; exact hy.wpOp hi hS (by rw [hiT]; exact ⟨hS, H⟩)
    · have h1 := H.2 j (ready_mono hj hji)
      obtain ⟨hjun, oj, hoj, hall⟩ := mem_ready.1 hj
      have hjT : T.contains j = false := by
        cases hc : T.contains j with
        | false => rfl
        | true =>
          have h2 := reach_listed hcl ops.size j i (hT j (by simpa using hc)) (fun o ho => by rw [hoj] at ho; injection ho with ho; subst ho; exact fun e he hb => by simpa using hall e he hb)
          rw [(getD_flip hiun).1] at h2
          cases h2
      rw [hjT] at h1 ⊢
      have hnot : ∀ e ∈ oj.after, Region.binds md e = true → e.on ≠ i := fun e he hbd heq => by
        have h1 := hall e he hbd
        rw [heq] at h1
        have h0 := getD_flip hiun
        simp [h0.2] at h0 h1
        rw [h0] at h1
        cases h1
      have hap := hfree j oj hoj hji hjun hnot
      have hyF : YieldsIf P ops (fun _ => False) oi v a := hy.imp (fun h => ⟨h.1, fun _ h => h.elim⟩) id
      have h2 := wpOp_shape hoj (wpOp_putIf hoj hap (fun cs b => hsel i oi cs b hi) (fun cs b => hsel j oj cs b hoj) hQ hyF h1)
      have hfree' : ∀ k ok, ops[k]? = some ok → k ≠ i → (listed.setIfInBounds j true).getD k true = false →
          (∀ e ∈ ok.after, Region.binds md e = true → e.on ≠ i) → oi.apart ops ok = true := fun k ok hk hki hun hno => by
        refine hfree k ok hk hki ?_ hno
        by_cases hjk : j = k
        · subst hjk; exact hjun
        · rw [getD_set_ne true hjk] at hun; exact hun
      refine wpOp_mono (fun a' w' h3 => ?_) h2
      obtain ⟨⟨u, ds, ha'⟩, h3⟩ := h3
      simp only [Bool.false_eq_true, if_false] at h3 ⊢
      have hy' : YieldsA P ops S oi v a' := by
        obtain ⟨_, _, h3'⟩ := Oper.apart_spec hap
        rw [ha']
        have hyd : YieldsA P ops S oi v { a with defers := ds } := hy.of_same rfl rfl
        exact hyd.of_same (execOp_put oi (fun cs b => hsel i oi cs b hi) _ oj.dst u h3') (wanted_put oi _ oj.dst u h3')
      replace h3 := h3.2
      refine ⟨h3.1, ih (listed.setIfInBounds j true) a' w' hfree' (closed_set hcl hj) (ready_mono hr (Ne.symm hji)) hy' h3.1 ?_⟩
      rw [Array.setIfInBounds_comm _ _ hji]
      exact h3.2
end

/-! ### Over frames as functions -/
def WT (P : Program) (N : Nat) (ops : Array Oper) (Q : XPost) (S : World → Prop) (T : List Nat) (fuel : Nat) (listed : Array Bool) (ρ : Env) (w : World) : Prop :=
  ∀ a, Fit N ρ a → wpAnyT P .any ops (LiftQ N Q) S T fuel listed a w
def WA (P : Program) (N : Nat) (ops : Array Oper) (Q : XPost) (fuel : Nat) (listed : Array Bool) (ρ : Env) (w : World) : Prop :=
  ∀ a, Fit N ρ a → wpAny P .any ops (LiftQ N Q) fuel listed a w
/-- What is asked of an operation that is taken first. -/
def takeT (ops : Array Oper) (T : List Nat) (N : Nat) (listed : Array Bool) (i d : Nat) : Bool :=
  (Region.ready .any ops listed).contains i && Region.free .any ops listed i && closedB .any ops listed && Region.noSelect ops && Nat.blt d N && !T.contains i && T.all (fun t => reachB .any ops ops.size t i)
section
variable {P : Program} {N : Nat} {ops : Array Oper} {Q : XPost} {S : World → Prop} {T : List Nat} {fuel : Nat} {listed : Array Bool} {ρ : Env} {w : World} {o : Oper} {v : Value} {d : Nat}
theorem W_draw {id : Nat} (hm : P.follows .mixedOrders = true) (h : WA P N ops Q ops.size (Array.replicate ops.size false) ρ w.drew) : W P N (.region id ops true) Q ρ w :=
  W_intro fun a ha => wp_region_any hm (h a ha)
theorem WA_T (S : World → Prop) (T : List Nat) (h : WT P N ops Q S T fuel listed ρ w) : WA P N ops Q fuel listed ρ w := fun a ha => wpAny_of_T _ _ _ _ (h a ha)
theorem take_core {i : Nat} (ho : ops[i]? = some o) (hd : o.dst = some d) (hB : takeT ops T N listed i d = true) (hS : S w)
    (hy : ∀ a, Fit N ρ a → YieldsA P ops S o v a) (h : WT P N ops Q S T fuel (listed.setIfInBounds i true) (upd ρ d v) w) : WT P N ops Q S T (fuel + 1) listed ρ w := by
  intro a ha
  simp only [takeT, Bool.and_eq_true, Bool.not_eq_true', List.all_eq_true] at hB
  obtain ⟨⟨⟨⟨⟨⟨h1, h2⟩, h3⟩, h4⟩, h5⟩, h6⟩, h7⟩ := hB
  exact wpAnyT_first ho (Region.noSelect_spec h4) (fun c a w h => h.elim) h7 h6 _ listed a w (Region.free_spec ho h2) h3 (by simpa using h1) (hy a ha) hS (h _ (WL_put hd h5 ha v))
theorem WT_take (i : Nat) (ho : ops[i]? = some o) (hd : o.dst = some d) (hB : takeT ops T N listed i d = true) (hS : S w) (hw : wantedR ops ρ o = true)
    (hr : ∀ W, S W → Runs P ρ o W v) (h : WT P N ops Q S T fuel (listed.setIfInBounds i true) (upd ρ d v) w) : WT P N ops Q S T (fuel + 1) listed ρ w :=
  take_core ho hd hB hS (fun a ha => .inl ⟨by rw [wanted_fit ha]; exact hw, fun W hW => by
    unfold stillV
    rw [ha.eval, show (execOp (ev ρ) o).run P W = _ from hr W hW]
    exact ⟨rfl, rfl⟩⟩) h
theorem WT_skip (i : Nat) (ho : ops[i]? = some o) (hd : o.dst = some d) (hB : takeT ops T N listed i d = true) (hS : S w) (hw : wantedR ops ρ o = false)
    (h : WT P N ops Q S T fuel (listed.setIfInBounds i true) (upd ρ d undef) w) : WT P N ops Q S T (fuel + 1) listed ρ w :=
  take_core ho hd hB hS (fun a ha => .inr ⟨by rw [wanted_fit ha]; exact hw, rfl⟩) h
/-- A call that leaves the world as it is, taken first. -/
theorem WT_quiet (i : Nat) {f : FuncId} {args : Array Value} (ho : ops[i]? = some o) (hd : o.dst = some d) (hB : takeT ops T N listed i d = true) (hS : S w) (hw : wantedR ops ρ o = true)
    (hr : ∀ W, (execOp (ev ρ) o).run P W = .ok (.enter f args) W) (hc : ∀ W, S W → Calls P f args W fun e w' => e = .returned v ∧ W = w')
    (h : WT P N ops Q S T fuel (listed.setIfInBounds i true) (upd ρ d v) w) : WT P N ops Q S T (fuel + 1) listed ρ w :=
  take_core ho hd hB hS (fun a ha => .inl ⟨by rw [wanted_fit ha]; exact hw, fun W hW => by
    unfold stillV
    rw [ha.eval, hr W]
    exact ⟨rfl, (hc W hW).mono fun e w' ⟨h1, h2⟩ => ⟨h1, h2.symm⟩⟩⟩) h

theorem wpOp_of_list {K : Act → World → Prop} {L : Env → World → Prop} {k : Nat} {a : Act} (ho : ops[k]? = some o) (h : wpList P ops (LiftQ N (thenQ L Q)) [o] a w)
    (hK : ∀ ρ' a' w', Fit N ρ' a' → L ρ' w' → K a' w') : wpOp P ops (LiftQ N Q) k K a w := by
  unfold wpOp
  simp only [ho]
  unfold wpList at h
  split
  · rename_i hw
    simp only [hw, if_true] at h
    rcases h with h | ⟨h1, h2⟩
    · refine .inl ?_
      unfold Oper.wp at *
      generalize (execOp a.eval o).run P w = r at *
      cases r with
      | ok n w' =>
        cases n <;> simp only [Oper.upon, wpList] at h ⊢
        case value u => obtain ⟨ρ', h1, h2⟩ := h; exact hK _ _ _ h1 h2
        case skip => obtain ⟨ρ', h1, h2⟩ := h; exact hK _ _ _ h1 h2
        case defer d => obtain ⟨ρ', h1, h2⟩ := h; exact hK _ _ _ h1 h2
        case enter f args =>
          refine Calls.mono h fun e w'' he => ?_
          cases e with
          | returned u => obtain ⟨ρ', h1, h2⟩ := he; exact hK _ _ _ h1 h2
          | panicked c => exact he
          | outgrown => obtain ⟨a, w, h⟩ := he; exact h.elim
        case row row args => exact Rows.mono h fun u w'' he => by obtain ⟨ρ', h1, h2⟩ := he; exact hK _ _ _ h1 h2
      | halt x w' => cases x <;> simp only [Oper.upon] at h ⊢ <;> exact h
    · obtain ⟨a, w, h⟩ := h2; exact h.elim
  · rename_i hw
    simp only [hw] at h
    obtain ⟨ρ', h1, h2⟩ := h; exact hK _ _ _ h1 h2

/-- The one operation that can come. -/
theorem WT_one (k : Nat) (ho : ops[k]? = some o) (hr : Region.ready .any ops listed = [k]) (hT : T.contains k = false)
    (h : WL P N ops (thenQ (fun ρ' w' => S w' ∧ WT P N ops Q S T fuel (listed.setIfInBounds k true) ρ' w') Q) [o] ρ w) : WT P N ops Q S T (fuel + 1) listed ρ w := by
  intro a ha
  refine ⟨fun h0 => (by rw [hr] at h0; cases h0), fun i hi => ?_⟩
  rw [hr] at hi
  obtain rfl : i = k := by simpa using hi
  rw [hT]
  exact wpOp_of_list ho (WL_elim h a ha) fun ρ' a' w' h1 h2 => ⟨h2.1, h2.2 _ h1⟩
theorem WA_one (k : Nat) (ho : ops[k]? = some o) (hr : Region.ready .any ops listed = [k])
    (h : WL P N ops (thenQ (fun ρ' w' => WA P N ops Q fuel (listed.setIfInBounds k true) ρ' w') Q) [o] ρ w) : WA P N ops Q (fuel + 1) listed ρ w := by
  intro a ha
  refine ⟨fun h0 => (by rw [hr] at h0; cases h0), fun i hi => ?_⟩
  rw [hr] at hi
  obtain rfl : i = k := by simpa using hi
  exact wpOp_of_list ho (WL_elim h a ha) fun ρ' a' w' h1 h2 => h2 _ h1
theorem WT_two (j k : Nat) {oj ok : Oper} (hj : ops[j]? = some oj) (hk : ops[k]? = some ok) (hr : Region.ready .any ops listed = [j, k]) (hjT : T.contains j = false) (hkT : T.contains k = false)
    (h1 : WL P N ops (thenQ (fun ρ' w' => S w' ∧ WT P N ops Q S T fuel (listed.setIfInBounds j true) ρ' w') Q) [oj] ρ w)
    (h2 : WL P N ops (thenQ (fun ρ' w' => S w' ∧ WT P N ops Q S T fuel (listed.setIfInBounds k true) ρ' w') Q) [ok] ρ w) : WT P N ops Q S T (fuel + 1) listed ρ w := by
  intro a ha
  refine ⟨fun h0 => (by rw [hr] at h0; cases h0), fun i hi => ?_⟩
  rw [hr] at hi
  rcases List.mem_cons.1 hi with rfl | hi
  · rw [hjT]
    exact wpOp_of_list hj (WL_elim h1 a ha) fun ρ' a' w' h1 h2 => ⟨h2.1, h2.2 _ h1⟩
  · obtain rfl : i = k := by simpa using hi
    rw [hkT]
    exact wpOp_of_list hk (WL_elim h2 a ha) fun ρ' a' w' h1 h2 => ⟨h2.1, h2.2 _ h1⟩
theorem WA_end (hr : Region.ready .any ops listed = []) (h : Q .normal ρ w) : WA P N ops Q fuel listed ρ w := by
  intro a ha
  cases fuel with
  | zero => exact ⟨hr, ρ, ha, h⟩
  | succ n => exact ⟨fun _ => ⟨ρ, ha, h⟩, by rw [hr]; simp⟩
theorem WT_end (hr : Region.ready .any ops listed = []) (h : Q .normal ρ w) : WT P N ops Q S T fuel listed ρ w := by
  intro a ha
  cases fuel with
  | zero => exact ⟨hr, ρ, ha, h⟩
  | succ n => exact ⟨fun _ => ⟨ρ, ha, h⟩, by rw [hr]; simp⟩
/-- From here on S need not hold: only what is of T is left. -/
theorem WT_A (hr : (Region.ready .any ops listed).all (fun i => T.contains i) = true) (h : WA P N ops Q fuel listed ρ w) : WT P N ops Q S T fuel listed ρ w := by
  intro a ha
  cases fuel with
  | zero => exact h a ha
  | succ n =>
    refine ⟨(h a ha).1, fun i hi => ?_⟩
    have := List.all_eq_true.1 hr i hi
    rw [this]
    exact (h a ha).2 i hi
theorem wpAnyT_true {Q : Exit → Act → World → Prop} : ∀ (fuel : Nat) (listed : Array Bool) (a : Act) (w : World), wpAny P .any ops Q fuel listed a w → wpAnyT P .any ops Q (fun _ => True) [] fuel listed a w
  | 0, _, _, _, h => h
  | fuel + 1, _, _, _, h => ⟨h.1, fun i hi => wpOp_mono (fun a' w' h' => by
      simp only [List.contains_nil, Bool.false_eq_true, if_false]
      exact ⟨trivial, wpAnyT_true fuel _ a' w' h'⟩) (h.2 i hi)⟩
theorem WT_true (h : WA P N ops Q fuel listed ρ w) : WT P N ops Q (fun _ => True) [] fuel listed ρ w := fun a ha => wpAnyT_true _ _ _ _ (h a ha)
end
attribute [irreducible] WT WA
end Go.Proofs.YtlmpolmalgpodaaDoor
