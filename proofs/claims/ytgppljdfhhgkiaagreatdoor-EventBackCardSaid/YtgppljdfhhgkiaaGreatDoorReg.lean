/- Regions that draw their order: what only reads is taken first, in any order of the text; what writes comes when nothing else can. -/
import Derived.OrdersHeld
import Derived.StillTactics
import Derived.OwnWalk
namespace Go.Proofs.YtgppljdfhhgkiaaGreatDoor
open Go

section
variable {P : Program} {ops : Array Oper} {Q : Exit → Act → World → Prop} {md : Region.Mode} {S : World → Prop}

/-- In world W operation o, run in state a, leaves v and the world as it is. -/
def stillV (P : Program) (o : Oper) (a : Act) (W : World) (v : Value) : Prop :=
  match (execOp a.eval o).run P W with
  | .ok (.value v') w' => w' = W ∧ v' = v
  | .ok .skip w' => w' = W ∧ undef = v
  | .ok (.enter f args) w' => w' = W ∧ Calls P f args W (fun e w'' => e = .returned v ∧ w'' = W)
  | _ => False
def YieldsA (P : Program) (ops : Array Oper) (S : World → Prop) (o : Oper) (v : Value) (a : Act) : Prop :=
  (Region.wanted o (yielded ops a.tmps) = true ∧ ∀ W, S W → stillV P o a W v) ∨ (Region.wanted o (yielded ops a.tmps) = false ∧ v = undef)

theorem YieldsA.wpOp {i : Nat} {o : Oper} {v : Value} {a : Act} (hi : ops[i]? = some o) (hy : YieldsA P ops S o v a)
    {K : Act → World → Prop} {w : World} (hS : S w) (h : K (a.put o.dst v) w) : wpOp P ops Q i K a w := by
  unfold Go.wpOp
  simp only [hi]
  rcases hy with ⟨hw, hv⟩ | ⟨hw, rfl⟩
  · simp only [hw, if_true]
    refine .inl ?_
    have h1 := hv w hS
    unfold stillV at h1
    unfold Oper.wp
    generalize (execOp a.eval o).run P w = r at *
    cases r with
    | ok n w' =>
      cases n <;> simp only [Oper.upon] at h1 ⊢
      case value u => rw [h1.1, h1.2]; exact h
      case skip => rw [h1.1, h1.2]; exact h
      case enter f args =>
        rw [h1.1]
        refine h1.2.mono fun e w'' he => ?_
        rw [he.1, he.2]
        exact h
    | halt x w' => exact h1.elim
  · simp only [hw, Bool.false_eq_true, if_false]; exact h

theorem YieldsA.of_same {o : Oper} {v : Value} {a a' : Act} (hy : YieldsA P ops S o v a) (he : execOp a'.eval o = execOp a.eval o)
    (hw : Region.wanted o (yielded ops a'.tmps) = Region.wanted o (yielded ops a.tmps)) : YieldsA P ops S o v a' := by
  unfold YieldsA stillV at *
  rw [he, hw]
  exact hy

/-- What an operation leaves of the state. -/
theorem wpOp_shape {j : Nat} {oj : Oper} (hj : ops[j]? = some oj) {K : Act → World → Prop} {a : Act} {w : World} (h : wpOp P ops Q j K a w) :
    wpOp P ops Q j (fun a' w' => (∃ u ds, a' = ({ a with defers := ds } : Act).put oj.dst u) ∧ K a' w') a w := by
  unfold wpOp at *
  simp only [hj] at *
  split
  · rename_i hw
    simp only [hw, if_true] at h
    rcases h with h | h
    case inr => exact .inr h
    refine .inl ?_
    unfold Oper.wp at *
    generalize (execOp a.eval oj).run P w = r at *
    cases r with
    | ok n w' =>
      cases n <;> simp only [Oper.upon] at h ⊢
      case value u => exact ⟨⟨u, a.defers, rfl⟩, h⟩
      case skip => exact ⟨⟨undef, a.defers, rfl⟩, h⟩
      case defer d => exact ⟨⟨undef, d :: a.defers, rfl⟩, h⟩
      case enter f args =>
        refine Calls.mono h fun e w'' he => ?_
        cases e with
        | returned u => exact ⟨⟨u, a.defers, rfl⟩, he⟩
        | panicked c => exact he
        | outgrown => exact he
      case row row args => exact Rows.mono h fun u w'' he => ⟨⟨u, a.defers, rfl⟩, he⟩
    | halt x w' => cases x <;> simp only [Oper.upon] at h ⊢ <;> exact h
  · rename_i hw
    simp only [hw] at h
    exact ⟨⟨undef, a.defers, rfl⟩, h⟩

/-- Whatever order is picked from here on; and S holds behind every operation but the last one. -/
def wpAnyG (P : Program) (md : Region.Mode) (ops : Array Oper) (Q : Exit → Act → World → Prop) (S : World → Prop) : Nat → Array Bool → Act → World → Prop
  | 0, listed, a, w => Region.ready md ops listed = [] ∧ Q .normal a w
  | fuel + 1, listed, a, w =>
    (Region.ready md ops listed = [] → Q .normal a w) ∧
    ∀ i ∈ Region.ready md ops listed, wpOp P ops Q i (fun a' w' => (S w' ∨ Region.ready md ops (listed.setIfInBounds i true) = []) ∧ wpAnyG P md ops Q S fuel (listed.setIfInBounds i true) a' w') a w

theorem wpAny_of_G : ∀ (fuel : Nat) (listed : Array Bool) (a : Act) (w : World), wpAnyG P md ops Q S fuel listed a w → wpAny P md ops Q fuel listed a w
  | 0, _, _, _, h => h
  | fuel + 1, _, _, _, h => ⟨h.1, fun i hi => wpOp_mono (fun a' w' h' => wpAny_of_G fuel _ a' w' h'.2) (h.2 i hi)⟩

/-- Edges lead back. -/
def backB (md : Region.Mode) (ops : Array Oper) : Bool := (List.range ops.size).all fun k => match ops[k]? with
  | some o => o.after.all fun e => !Region.binds md e || decide (e.on < k)
  | none => true
/-- Operation number l waits for number i. -/
def waitsB (md : Region.Mode) (ops : Array Oper) (l i : Nat) : Bool := match ops[l]? with
  | some o => o.after.any fun e => Region.binds md e && e.on == i
  | none => false

theorem ready_nil (hb : backB md ops = true) {listed : Array Bool} (hr : Region.ready md ops listed = []) : ∀ k, k < ops.size → listed.getD k true = true := by
  intro k
  induction k using Nat.strongRecOn with
  | ind k ih =>
    intro hk
    cases hl : listed.getD k true with
    | true => rfl
    | false =>
      have ho : ops[k]? = some ops[k] := Array.getElem?_eq_getElem hk
      have hmem : k ∈ Region.ready md ops listed := by
        rw [mem_ready]
        refine ⟨hl, ops[k], ho, fun e he hbd => ?_⟩
        have h1 := List.all_eq_true.1 hb k (List.mem_range.2 hk)
        simp only [ho] at h1
        have h2 := Array.all_eq_true_iff_forall_mem.1 h1 e he
        simp only [hbd, Bool.not_true, Bool.false_or, decide_eq_true_eq] at h2
        have h3 := ih e.on h2 (by omega)
        have hls : k < listed.size := by
          rcases Nat.lt_or_ge k listed.size with h | h
          · exact h
          · simp [Array.getElem?_eq_none h] at hl
        have hlt : e.on < listed.size := by omega
        simpa [hlt] using h3
      rw [hr] at hmem
      cases hmem

theorem wpAnyG_first {i last : Nat} {oi : Oper} {v : Value} (hi : ops[i]? = some oi) (hsel : ∀ (j : Nat) (o : Oper) cs b, ops[j]? = some o → o.op ≠ .select cs b)
    (hQ : ∀ c a w, Q (.panic c) (a.put oi.dst v) w → Q (.panic c) a w) (hb : backB md ops = true) (hlast : last < ops.size) (hw : waitsB md ops last i = true) (hne : last ≠ i) :
    ∀ (fuel : Nat) (listed : Array Bool) (a : Act) (w : World),
      (∀ j oj, ops[j]? = some oj → j ≠ i → listed.getD j true = false → (∀ e ∈ oj.after, Region.binds md e = true → e.on ≠ i) → oi.apart ops oj = true) →
      i ∈ Region.ready md ops listed → listed.getD last true = false → YieldsA P ops S oi v a → S w →
      wpAnyG P md ops Q S fuel (listed.setIfInBounds i true) (a.put oi.dst v) w → wpAnyG P md ops Q S (fuel + 1) listed a w := by
  have hwait : ∃ o, ops[last]? = some o ∧ ∃ e ∈ o.after, Region.binds md e = true ∧ e.on = i := by
    unfold waitsB at hw
    cases ho : ops[last]? with
    | none => simp [ho] at hw
    | some o =>
      simp only [ho] at hw
      obtain ⟨e, he, hb⟩ := Array.any_eq_true'.1 hw
      simp only [Bool.and_eq_true, beq_iff_eq] at hb
      exact ⟨o, rfl, e, he, hb.1, hb.2⟩
  obtain ⟨ol, hol, el, hel, helb, helo⟩ := hwait
  intro fuel
  induction fuel with
  | zero =>
    intro listed a w _ hr _ hy hS H
    refine ⟨fun h => (by rw [h] at hr; cases hr), fun j hj => ?_⟩
    by_cases hji : j = i
    · subst hji; exact hy.wpOp hi hS ⟨.inl hS, H⟩
    · have := ready_mono hj hji
      rw [H.1] at this
      cases this
  | succ fuel ih =>
    intro listed a w hfree hr hlu hy hS H
    have hiun := (mem_ready.1 hr).1
    have hilt : i < listed.size := by
      rcases Nat.lt_or_ge i listed.size with h | h
      · exact h
      · simp [Array.getElem?_eq_none h] at hiun
    refine ⟨fun h => (by rw [h] at hr; cases hr), fun j hj => ?_⟩
    by_cases hji : j = i
    · subst hji; exact hy.wpOp hi hS ⟨.inl hS, H⟩
    · have h1 := H.2 j (ready_mono hj hji)
      obtain ⟨hjun, oj, hoj, hall⟩ := mem_ready.1 hj
      have hjl : j ≠ last := by
        intro e
        subst e
        have heq : oj = ol := by rw [hoj] at hol; injection hol
        subst heq
        have := hall el hel helb
        rw [helo] at this
        have h0 := hiun
        simp [hilt] at h0 this
        rw [h0] at this
        cases this
      have hnot : ∀ e ∈ oj.after, Region.binds md e = true → e.on ≠ i := fun e he hbd heq => by
        have h1 := hall e he hbd
        rw [heq] at h1
        have h0 := hiun
        simp [hilt] at h0 h1
        rw [h0] at h1
        cases h1
      have hap := hfree j oj hoj hji hjun hnot
      have hyF : YieldsIf P ops (fun _ => False) oi v a := hy.imp (fun h => ⟨h.1, fun _ h => h.elim⟩) id
      have h2 := wpOp_shape hoj (wpOp_putIf hoj hap (fun cs b => hsel i oi cs b hi) (fun cs b => hsel j oj cs b hoj) hQ hyF h1)
      have hfree' : ∀ k ok, ops[k]? = some ok → k ≠ i → (listed.setIfInBounds j true).getD k true = false →
          (∀ e ∈ ok.after, Region.binds md e = true → e.on ≠ i) → oi.apart ops ok = true := fun k ok hk hki hun hno => by
        refine hfree k ok hk hki ?_ hno
        by_cases hjk : j = k
        · subst hjk; exact hjun
        · rw [getD_set_ne true hjk] at hun; exact hun
      have hlu' : (listed.setIfInBounds j true).getD last true = false := by rw [getD_set_ne true hjl]; exact hlu
      refine wpOp_mono (fun a' w' h3 => ?_) h2
      obtain ⟨⟨u, ds, ha'⟩, _, h3⟩ := h3
      have hy' : YieldsA P ops S oi v a' := by
        obtain ⟨_, _, h3'⟩ := Oper.apart_spec hap
        rw [ha']
        have hyd : YieldsA P ops S oi v { a with defers := ds } := hy.of_same rfl rfl
        exact hyd.of_same (execOp_put oi (fun cs b => hsel i oi cs b hi) _ oj.dst u h3') (wanted_put oi _ oj.dst u h3')
      have hS' : S w' := by
        rcases h3.1 with h | h
        · exact h
        · have := ready_nil hb h last hlast
          rw [getD_set_ne true hjl, getD_set_ne true (Ne.symm hne), hlu] at this
          cases this
      refine ⟨.inl hS', ih (listed.setIfInBounds j true) a' w' hfree' (ready_mono hr (Ne.symm hji)) hlu' hy' hS' ?_⟩
      rw [Array.setIfInBounds_comm _ _ hji]
      exact h3.2

/-- All of ms are listed. -/
def listAll (listed : Array Bool) : List Nat → Array Bool
  | [] => listed
  | i :: ms => listAll (listed.setIfInBounds i true) ms
/-- Each of ms, one behind the other, may be taken first; the last operation waits for it; no two leave their values at one place; each leaves it at a place that there is. -/
def takeB (md : Region.Mode) (ops : Array Oper) (last size : Nat) (listed : Array Bool) : List Nat → Bool
  | [] => true
  | i :: ms => (Region.ready md ops listed).contains i && Region.free md ops listed i && waitsB md ops last i && (last != i) && !listed.getD last true &&
      (match (ops[i]?).bind (·.dst) with
        | some d => decide (d < size) && ms.all (fun j => (ops[j]?).bind (·.dst) != some d)
        | none => false) && takeB md ops last size (listed.setIfInBounds i true) ms
def subOps (ops : Array Oper) (ms : List Nat) : List Oper := ms.filterMap fun i => ops[i]?

theorem still_keeps {W : World} {aF : Act} {d : Nat} : ∀ (l : List Oper) (a : Act), (∀ o ∈ l, o.dst ≠ some d) → wpStill P ops W (fun a' => a' = aF) l a → aF.tmps[d]? = a.tmps[d]?
  | [], a, _, h => by rw [show a = aF from h]
  | o :: l, a, hd, h => by
    have hput : ∀ v, (a.put o.dst v).tmps[d]? = a.tmps[d]? := fun v => by
      have h0 := hd o (List.mem_cons_self ..)
      cases ho : o.dst with
      | none => rfl
      | some e =>
        have : e ≠ d := fun h => h0 (by rw [ho, h])
        simp [Act.put, Array.getElem?_setIfInBounds_ne this]
    have hl : ∀ o' ∈ l, o'.dst ≠ some d := fun o' h' => hd o' (List.mem_cons_of_mem _ h')
    unfold wpStill at h
    split at h
    · unfold Oper.still Oper.stillUpon at h
      split at h
      · rw [still_keeps l _ hl h.2, hput]
      · rw [still_keeps l _ hl h.2, hput]
      · obtain ⟨_, v, _, h⟩ := h
        rw [still_keeps l _ hl h, hput]
      · exact h.elim
    · rw [still_keeps l _ hl h, hput]

theorem wpAnyG_takes (last : Nat) (hs : Region.noSelect ops = true) (hb : backB md ops = true) (hlast : last < ops.size)
    (hQ : ∀ c a w d v, Q (.panic c) (Act.put a (some d) v) w → Q (.panic c) a w) {aF : Act} {w : World} (hS : S w) {fuel : Nat} :
    ∀ (ms : List Nat) (listed : Array Bool) (a : Act), takeB md ops last a.tmps.size listed ms = true →
      (∀ W, S W → wpStill P ops W (fun a' => a' = aF) (subOps ops ms) a) → wpAnyG P md ops Q S fuel (listAll listed ms) aF w → wpAnyG P md ops Q S (fuel + ms.length) listed a w
  | [], listed, a, _, hst, h => by
    have : a = aF := hst w hS
    subst this
    exact h
  | i :: ms, listed, a, hB, hst, h => by
    simp only [takeB, Bool.and_eq_true] at hB
    obtain ⟨⟨⟨⟨⟨⟨h1, h2⟩, h3⟩, h4⟩, h5⟩, h6⟩, h7⟩ := hB
    cases hi : ops[i]? with
    | none => simp [hi] at h6
    | some oi =>
    cases hd : oi.dst with
    | none => simp [hi, hd] at h6
    | some d =>
    simp only [hi, hd, Option.bind_some, Bool.and_eq_true, decide_eq_true_eq, List.all_eq_true] at h6
    obtain ⟨hdl, hdis⟩ := h6
    have hsub : subOps ops (i :: ms) = oi :: subOps ops ms := by simp [subOps, hi]
    have hdd : ∀ o ∈ subOps ops ms, o.dst ≠ some d := fun o ho e => by
      simp only [subOps, List.mem_filterMap] at ho
      obtain ⟨j, hj, hoj⟩ := ho
      have := hdis j hj
      simp [hoj, e] at this
    -- the value that it leaves
    have hval : ∀ W u, wpStill P ops W (fun a' => a' = aF) (subOps ops ms) (a.put oi.dst u) → u = aF.tmps.getD d undef := fun W u hu => by
      have := still_keeps _ _ hdd hu
      rw [hd] at this
      simp only [Act.put, Array.getElem?_setIfInBounds_self, hdl, if_true] at this
      simp [Array.getD_eq_getD_getElem?, this]
    have hst' : ∀ W, S W → (if Region.wanted oi (yielded ops a.tmps) then oi.still P a W (wpStill P ops W (fun a' => a' = aF) (subOps ops ms)) else wpStill P ops W (fun a' => a' = aF) (subOps ops ms) (a.put oi.dst undef)) := fun W hW => by
      have := hst W hW
      rw [hsub] at this
      exact this
    have hy : YieldsA P ops S oi (aF.tmps.getD d undef) a ∧ ∀ W, S W → wpStill P ops W (fun a' => a' = aF) (subOps ops ms) (a.put oi.dst (aF.tmps.getD d undef)) := by
      cases hwant : Region.wanted oi (yielded ops a.tmps) with
      | false =>
        simp only [hwant, Bool.false_eq_true, if_false] at hst'
        have e := hval w undef (hst' w hS)
        rw [← e]
        exact ⟨.inr ⟨hwant, rfl⟩, hst'⟩
      | true =>
        simp only [hwant, if_true] at hst'
        refine ⟨.inl ⟨hwant, fun W hW => ?_⟩, fun W hW => ?_⟩
        · have h0 := hst' W hW
          unfold Oper.still Oper.stillUpon at h0
          unfold stillV
          generalize (execOp a.eval oi).run P W = r at *
          cases r with
          | ok n w' =>
            cases n <;> simp only at h0 ⊢
            case value u => exact ⟨h0.1, hval W _ h0.2⟩
            case skip => exact ⟨h0.1, hval W _ h0.2⟩
            case enter f args =>
              obtain ⟨h01, v, hc, h02⟩ := h0
              rw [← hval W v h02]
              exact ⟨h01, hc⟩
          | halt x w' => exact h0.elim
        · have h0 := hst' W hW
          unfold Oper.still Oper.stillUpon at h0
          split at h0
          · rw [← hval W _ h0.2]; exact h0.2
          · rw [← hval W _ h0.2]; exact h0.2
          · obtain ⟨_, v, _, h02⟩ := h0
            rw [← hval W v h02]; exact h02
          · exact h0.elim
    have hsz : (a.put oi.dst (aF.tmps.getD d undef)).tmps.size = a.tmps.size := by rw [hd]; simp [Act.put]
    have hrest := wpAnyG_takes last hs hb hlast hQ hS ms (listed.setIfInBounds i true) (a.put oi.dst (aF.tmps.getD d undef)) (by rw [hsz]; exact h7) hy.2 h
    have hne : last ≠ i := by simpa using h4
    rw [List.length_cons, ← Nat.add_assoc]
    exact wpAnyG_first hi (Region.noSelect_spec hs) (fun c a w h => hQ c a w d _ (by rw [hd] at h; exact h)) hb hlast h3 hne _ listed a w (Region.free_spec hi h2) (by simpa using h1) (by simpa using h5) hy.1 hS hrest

/-- Is the operation wanted? By the list of the region's places alone. -/
def wantedD (ds : List (Option Tmp)) (o : Oper) (tmps : Array Value) : Bool := match o.guard with
  | none => true
  | some (j, want) => (match ((ds[j]?).bind id).bind (tmps[·]?) with
    | some (.bool b) => some b
    | _ => none) == some want
/-- As wpStill, the region given by its places alone. -/
def wpStillD (P : Program) (ds : List (Option Tmp)) (w : World) (Q : Act → Prop) : List Oper → Act → Prop
  | [], a => Q a
  | o :: rest, a => if wantedD ds o a.tmps then o.still P a w (wpStillD P ds w Q rest) else wpStillD P ds w Q rest (a.put o.dst undef)
theorem wpStillD_nil {ds : List (Option Tmp)} {w : World} {Q : Act → Prop} {a : Act} (h : Q a) : wpStillD P ds w Q [] a := h
theorem wpStillD_step {ds : List (Option Tmp)} {w : World} {Q : Act → Prop} {a : Act} {o : Oper} {rest : List Oper}
    (h : ∀ K : Act → Prop, (∀ a, wpStillD P ds w Q rest a → K a) → if wantedD ds o a.tmps then o.still P a w K else K (a.put o.dst undef)) : wpStillD P ds w Q (o :: rest) a :=
  h _ (fun _ h => h)
theorem wantedD_eq {ds : List (Option Tmp)} (hd : ops.toList.map (·.dst) = ds) (o : Oper) (tmps : Array Value) : wantedD ds o tmps = Region.wanted o (yielded ops tmps) := by
  subst hd
  unfold wantedD Region.wanted yielded
  cases o.guard with
  | none => rfl
  | some g =>
    obtain ⟨j, want⟩ := g
    simp only [List.getElem?_map, Array.getElem?_toList]
    cases ops[j]? <;> rfl
theorem wpStill_of_D {ds : List (Option Tmp)} (hd : ops.toList.map (·.dst) = ds) {w : World} {Q : Act → Prop} : ∀ (l : List Oper) (a : Act), wpStillD P ds w Q l a → wpStill P ops w Q l a
  | [], _, h => h
  | o :: l, a, h => by
    unfold wpStillD at h
    unfold wpStill
    rw [wantedD_eq hd] at h
    split
    · rename_i hw
      rw [if_pos hw] at h
      exact Oper.still_mono (fun a => wpStill_of_D hd l a) h
    · rename_i hw
      rw [if_neg hw] at h
      exact wpStill_of_D hd l _ h

/-- Several at once, the operations told one by one. -/
theorem wpAnyG_take {l : List Oper} (ms : List Nat) (ls : List Oper) (ds : List (Option Tmp)) (last : Nat) (hs : Region.noSelect l.toArray = true) (hb : backB md l.toArray = true) (hlast : decide (last < l.toArray.size) = true)
    (hQ : ∀ c a w d v, Q (.panic c) (Act.put a (some d) v) w → Q (.panic c) a w) {aF a : Act} {w : World} (hS : S w) {n : Nat} (fuel : Nat) (hn : n = fuel + ms.length) {listed : Array Bool} (hB : takeB md l.toArray last a.tmps.size listed ms = true)
    (hls : subOps l.toArray ms = ls) (hds : l.map (·.dst) = ds)
    (hst : ∀ W, S W → wpStillD P ds W (fun a' => a' = aF) ls a) (h : wpAnyG P md l.toArray Q S fuel (listAll listed ms) aF w) : wpAnyG P md l.toArray Q S n listed a w :=
  hn ▸ wpAnyG_takes last hs hb (of_decide_eq_true hlast) hQ hS ms listed a hB (fun W hW => by rw [hls]; exact wpStill_of_D (by simpa using hds) _ _ (hst W hW)) h

/-- What is left to be shown behind an operation that comes alone. -/
def postG (P : Program) (md : Region.Mode) (ops : Array Oper) (Q : Exit → Act → World → Prop) (S : World → Prop) (fuel : Nat) (listed : Array Bool) : Exit → Act → World → Prop
  | .normal, a, w => (S w ∨ Region.ready md ops listed = []) ∧ wpAnyG P md ops Q S fuel listed a w
  | e, a, w => Q e a w

/-- The one operation that can come. -/
theorem wpAnyG_one {k fuel : Nat} {o : Oper} {listed : Array Bool} {a : Act} {w : World} (ho : ops[k]? = some o) (hr : Region.ready md ops listed = [k])
    (h : wpList P ops (postG P md ops Q S fuel (listed.setIfInBounds k true)) [o] a w) : wpAnyG P md ops Q S (fuel + 1) listed a w := by
  refine ⟨fun h0 => (by rw [hr] at h0; cases h0), fun i hi => ?_⟩
  rw [hr] at hi
  obtain rfl : i = k := by simpa using hi
  unfold wpOp
  simp only [ho]
  unfold wpList at h
  split
  · rename_i hw
    simp only [hw, if_true] at h
    rcases h with h | ⟨h1, h2⟩
    · refine .inl ?_
      unfold Oper.wp at *
      generalize (execOp a.eval o).run P w = r at *
      cases r with
      | ok n w' =>
        cases n <;> simp only [Oper.upon] at h ⊢
        case value u => exact h
        case skip => exact h
        case defer d => exact h
        case enter f args =>
          refine Calls.mono h fun e w'' he => ?_
          cases e with
          | returned u => exact he
          | panicked c => exact he
          | outgrown => exact he
        case row row args => exact Rows.mono h fun u w'' he => he
      | halt x w' => cases x <;> simp only [Oper.upon] at h ⊢ <;> exact h
    · exact .inr ⟨h1, h2⟩
  · rename_i hw
    simp only [hw] at h
    exact h

/-- The last one. -/
theorem wpAnyG_last {k fuel : Nat} {o : Oper} {listed : Array Bool} {a : Act} {w : World} (ho : ops[k]? = some o) (hr : Region.ready md ops listed = [k]) (hr' : Region.ready md ops (listed.setIfInBounds k true) = [])
    (h : wpList P ops Q [o] a w) : wpAnyG P md ops Q S (fuel + 1) listed a w := by
  refine ⟨fun h0 => (by rw [hr] at h0; cases h0), fun i hi => ?_⟩
  rw [hr] at hi
  obtain rfl : i = k := by simpa using hi
  have hd : ∀ a w, Q .normal a w → (S w ∨ Region.ready md ops (listed.setIfInBounds i true) = []) ∧ wpAnyG P md ops Q S fuel (listed.setIfInBounds i true) a w := fun a w hq => by
    refine ⟨.inr hr', ?_⟩
    cases fuel with
    | zero => exact ⟨hr', hq⟩
    | succ f => exact ⟨fun _ => hq, by rw [hr']; simp⟩
  unfold wpOp
  simp only [ho]
  unfold wpList at h
  split
  · rename_i hw
    simp only [hw, if_true] at h
    exact h.imp (Oper.wp_mono hd) id
  · rename_i hw
    simp only [hw] at h
    exact hd _ _ h

theorem wp_region_g {id : Nat} {a : Act} {w : World} (hm : P.follows .mixedOrders = true)
    (h : wpAnyG P .any ops Q S ops.size (Array.replicate ops.size false) a { w with drawn := w.drawn + 1 }) : (Code.region id ops true).wp P Q a w :=
  wp_region_any hm (wpAny_of_G _ _ _ _ h)
end
attribute [go_sem] wantedD
attribute [irreducible] wpStillD wpAnyG
end Go.Proofs.YtgppljdfhhgkiaaGreatDoor
