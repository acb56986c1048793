/- As Reg, where what is known of the world (S) holds behind every operation: no last operation is asked for. -/
import Derived.Test.YtlnjmkldpicpdaaDoorReg
namespace Go.Proofs.YtlnjmkldpicpdaaDoor
open Go

section
variable {P : Program} {ops : Array Oper} {Q : Exit → Act → World → Prop} {md : Region.Mode} {S : World → Prop}

def wpAnyH (P : Program) (md : Region.Mode) (ops : Array Oper) (Q : Exit → Act → World → Prop) (S : World → Prop) : Nat → Array Bool → Act → World → Prop
  | 0, listed, a, w => Region.ready md ops listed = [] ∧ Q .normal a w
  | fuel + 1, listed, a, w =>
    (Region.ready md ops listed = [] → Q .normal a w) ∧
    ∀ i ∈ Region.ready md ops listed, wpOp P ops Q i (fun a' w' => S w' ∧ wpAnyH P md ops Q S fuel (listed.setIfInBounds i true) a' w') a w

theorem wpAny_of_H : ∀ (fuel : Nat) (listed : Array Bool) (a : Act) (w : World), wpAnyH P md ops Q S fuel listed a w → wpAny P md ops Q fuel listed a w
  | 0, _, _, _, h => h
  | fuel + 1, _, _, _, h => ⟨h.1, fun i hi => wpOp_mono (fun a' w' h' => wpAny_of_H fuel _ a' w' h'.2) (h.2 i hi)⟩

theorem wpAnyH_first {i : Nat} {oi : Oper} {v : Value} (hi : ops[i]? = some oi) (hsel : ∀ (j : Nat) (o : Oper) cs b, ops[j]? = some o → o.op ≠ .select cs b)
    (hQ : ∀ c a w, Q (.panic c) (a.put oi.dst v) w → Q (.panic c) a w) :
    ∀ (fuel : Nat) (listed : Array Bool) (a : Act) (w : World),
      (∀ j oj, ops[j]? = some oj → j ≠ i → listed.getD j true = false → (∀ e ∈ oj.after, Region.binds md e = true → e.on ≠ i) → oi.apart ops oj = true) →
      i ∈ Region.ready md ops listed → YieldsA P ops S oi v a → S w →
      wpAnyH P md ops Q S fuel (listed.setIfInBounds i true) (a.put oi.dst v) w → wpAnyH P md ops Q S (fuel + 1) listed a w := by
  intro fuel
  induction fuel with
  | zero =>
    intro listed a w _ hr hy hS H
    refine ⟨fun h => (by rw [h] at hr; cases hr), fun j hj => ?_⟩
    by_cases hji : j = i
    · subst hji; exact hy.wpOp hi hS ⟨hS, H⟩
    · have := ready_mono hj hji
      rw [H.1] at this
      cases this
  | succ fuel ih =>
    intro listed a w hfree hr hy hS H
    have hiun := (mem_ready.1 hr).1
    have hilt : i < listed.size := by
      rcases Nat.lt_or_ge i listed.size with h | h
      · exact h
      · simp [Array.getElem?_eq_none h] at hiun
    refine ⟨fun h => (by rw [h] at hr; cases hr), fun j hj => ?_⟩
    by_cases hji : j = i
    · subst hji; exact hy.wpOp hi hS ⟨hS, H⟩
    · have h1 := H.2 j (ready_mono hj hji)
      obtain ⟨hjun, oj, hoj, hall⟩ := mem_ready.1 hj
      have hnot : ∀ e ∈ oj.after, Region.binds md e = true → e.on ≠ i := fun e he hbd heq => by
        have h1 := hall e he hbd
        rw [heq] at h1
        have h0 := hiun
        simp [hilt] at h0 h1
        rw [h0] at h1
        cases h1
      have hap := hfree j oj hoj hji hjun hnot
      have hyF : YieldsIf P ops (fun _ => False) oi v a := hy.imp (fun h => ⟨h.1, fun _ h => h.elim⟩) id
      have h2 := wpOp_shape hoj (wpOp_putIf hoj hap (fun cs b => hsel i oi cs b hi) (fun cs b => hsel j oj cs b hoj) hQ hyF h1)
      have hfree' : ∀ k ok, ops[k]? = some ok → k ≠ i → (listed.setIfInBounds j true).getD k true = false →
          (∀ e ∈ ok.after, Region.binds md e = true → e.on ≠ i) → oi.apart ops ok = true := fun k ok hk hki hun hno => by
        refine hfree k ok hk hki ?_ hno
        by_cases hjk : j = k
        · subst hjk; exact hjun
        · rw [getD_set_ne true hjk] at hun; exact hun
      refine wpOp_mono (fun a' w' h3 => ?_) h2
      obtain ⟨⟨u, ds, ha'⟩, _, h3⟩ := h3
      have hy' : YieldsA P ops S oi v a' := by
        obtain ⟨_, _, h3'⟩ := Oper.apart_spec hap
        rw [ha']
        have hyd : YieldsA P ops S oi v { a with defers := ds } := hy.of_same rfl rfl
        exact hyd.of_same (execOp_put oi (fun cs b => hsel i oi cs b hi) _ oj.dst u h3') (wanted_put oi _ oj.dst u h3')
      refine ⟨h3.1, ih (listed.setIfInBounds j true) a' w' hfree' (ready_mono hr (Ne.symm hji)) hy' h3.1 ?_⟩
      rw [Array.setIfInBounds_comm _ _ hji]
      exact h3.2

def takeH (md : Region.Mode) (ops : Array Oper) (size : Nat) (listed : Array Bool) : List Nat → Bool
  | [] => true
  | i :: ms => (Region.ready md ops listed).contains i && Region.free md ops listed i &&
      (match (ops[i]?).bind (·.dst) with
        | some d => decide (d < size) && ms.all (fun j => (ops[j]?).bind (·.dst) != some d)
        | none => false) && takeH md ops size (listed.setIfInBounds i true) ms

theorem wpAnyH_takes (hs : Region.noSelect ops = true)
    (hQ : ∀ c a w d v, Q (.panic c) (Act.put a (some d) v) w → Q (.panic c) a w) {aF : Act} {w : World} (hS : S w) {fuel : Nat} :
    ∀ (ms : List Nat) (listed : Array Bool) (a : Act), takeH md ops a.tmps.size listed ms = true →
      (∀ W, S W → wpStill P ops W (fun a' => a' = aF) (subOps ops ms) a) → wpAnyH P md ops Q S fuel (listAll listed ms) aF w → wpAnyH P md ops Q S (fuel + ms.length) listed a w
  | [], listed, a, _, hst, h => by
    have : a = aF := hst w hS
    subst this
    exact h
  | i :: ms, listed, a, hB, hst, h => by
    simp only [takeH, Bool.and_eq_true] at hB
    obtain ⟨⟨⟨h1, h2⟩, h6⟩, h7⟩ := hB
    cases hi : ops[i]? with
    | none => simp [hi] at h6
    | some oi =>
    cases hd : oi.dst with
    | none => simp [hi, hd] at h6
    | some d =>
    simp only [hi, hd, Option.bind_some, Bool.and_eq_true, decide_eq_true_eq, List.all_eq_true] at h6
    obtain ⟨hdl, hdis⟩ := h6
    have hsub : subOps ops (i :: ms) = oi :: subOps ops ms := by simp [subOps, hi]
    have hdd : ∀ o ∈ subOps ops ms, o.dst ≠ some d := fun o ho e => by
      simp only [subOps, List.mem_filterMap] at ho
      obtain ⟨j, hj, hoj⟩ := ho
      have := hdis j hj
      simp [hoj, e] at this
    -- the value that it leaves
    have hval : ∀ W u, wpStill P ops W (fun a' => a' = aF) (subOps ops ms) (a.put oi.dst u) → u = aF.tmps.getD d undef := fun W u hu => by
      have := still_keeps _ _ hdd hu
      rw [hd] at this
      simp only [Act.put, Array.getElem?_setIfInBounds_self, hdl, if_true] at this
      simp [Array.getD_eq_getD_getElem?, this]
    have hst' : ∀ W, S W → (if Region.wanted oi (yielded ops a.tmps) then oi.still P a W (wpStill P ops W (fun a' => a' = aF) (subOps ops ms)) else wpStill P ops W (fun a' => a' = aF) (subOps ops ms) (a.put oi.dst undef)) := fun W hW => by
      have := hst W hW
      rw [hsub] at this
      exact this
    have hy : YieldsA P ops S oi (aF.tmps.getD d undef) a ∧ ∀ W, S W → wpStill P ops W (fun a' => a' = aF) (subOps ops ms) (a.put oi.dst (aF.tmps.getD d undef)) := by
      cases hwant : Region.wanted oi (yielded ops a.tmps) with
      | false =>
        simp only [hwant, Bool.false_eq_true, if_false] at hst'
        have e := hval w undef (hst' w hS)
        rw [← e]
        exact ⟨.inr ⟨hwant, rfl⟩, hst'⟩
      | true =>
        simp only [hwant, if_true] at hst'
        refine ⟨.inl ⟨hwant, fun W hW => ?_⟩, fun W hW => ?_⟩
        · have h0 := hst' W hW
          unfold Oper.still Oper.stillUpon at h0
          unfold stillV
          generalize (execOp a.eval oi).run P W = r at *
          cases r with
          | ok n w' =>
            cases n <;> simp only at h0 ⊢
            case value u => exact ⟨h0.1, hval W _ h0.2⟩
            case skip => exact ⟨h0.1, hval W _ h0.2⟩
            case enter f args =>
              obtain ⟨h01, v, hc, h02⟩ := h0
              rw [← hval W v h02]
              exact ⟨h01, hc⟩
          | halt x w' => exact h0.elim
        · have h0 := hst' W hW
          unfold Oper.still Oper.stillUpon at h0
          split at h0
          · rw [← hval W _ h0.2]; exact h0.2
          · rw [← hval W _ h0.2]; exact h0.2
          · obtain ⟨_, v, _, h02⟩ := h0
            rw [← hval W v h02]; exact h02
          · exact h0.elim
    have hsz : (a.put oi.dst (aF.tmps.getD d undef)).tmps.size = a.tmps.size := by rw [hd]; simp [Act.put]
    have hrest := wpAnyH_takes hs hQ hS ms (listed.setIfInBounds i true) (a.put oi.dst (aF.tmps.getD d undef)) (by rw [hsz]; exact h7) hy.2 h
    rw [List.length_cons, ← Nat.add_assoc]
    exact wpAnyH_first hi (Region.noSelect_spec hs) (fun c a w h => hQ c a w d _ (by rw [hd] at h; exact h)) _ listed a w (Region.free_spec hi h2) (by simpa using h1) hy.1 hS hrest

theorem wpAnyH_take {l : List Oper} (ms : List Nat) (ls : List Oper) (ds : List (Option Tmp)) (hs : Region.noSelect l.toArray = true)
    (hQ : ∀ c a w d v, Q (.panic c) (Act.put a (some d) v) w → Q (.panic c) a w) {aF a : Act} {w : World} (hS : S w) {n : Nat} (fuel : Nat) (hn : n = fuel + ms.length) {listed : Array Bool} (hB : takeH md l.toArray a.tmps.size listed ms = true)
    (hls : subOps l.toArray ms = ls) (hds : l.map (·.dst) = ds)
    (hst : ∀ W, S W → wpStillD P ds W (fun a' => a' = aF) ls a) (h : wpAnyH P md l.toArray Q S fuel (listAll listed ms) aF w) : wpAnyH P md l.toArray Q S n listed a w :=
  hn ▸ wpAnyH_takes hs hQ hS ms listed a hB (fun W hW => by rw [hls]; exact wpStill_of_D (by simpa using hds) _ _ (hst W hW)) h

def postH (P : Program) (md : Region.Mode) (ops : Array Oper) (Q : Exit → Act → World → Prop) (S : World → Prop) (fuel : Nat) (listed : Array Bool) : Exit → Act → World → Prop
  | .normal, a, w => S w ∧ wpAnyH P md ops Q S fuel listed a w
  | e, a, w => Q e a w

/-- The one operation that can come. -/
theorem wpAnyH_one {k fuel : Nat} {o : Oper} {listed : Array Bool} {a : Act} {w : World} (ho : ops[k]? = some o) (hr : Region.ready md ops listed = [k])
    (h : wpList P ops (postH P md ops Q S fuel (listed.setIfInBounds k true)) [o] a w) : wpAnyH P md ops Q S (fuel + 1) listed a w := by
  refine ⟨fun h0 => (by rw [hr] at h0; cases h0), fun i hi => ?_⟩
  rw [hr] at hi
  obtain rfl : i = k := by simpa using hi
  unfold wpOp
  simp only [ho]
  unfold wpList at h
  split
  · rename_i hw
    simp only [hw, if_true] at h
    rcases h with h | ⟨h1, h2⟩
    · refine .inl ?_
      unfold Oper.wp at *
      generalize (execOp a.eval o).run P w = r at *
      cases r with
      | ok n w' =>
        cases n <;> simp only [Oper.upon] at h ⊢
        case value u => exact h
        case skip => exact h
        case defer d => exact h
        case enter f args =>
          refine Calls.mono h fun e w'' he => ?_
          cases e with
          | returned u => exact he
          | panicked c => exact he
          | outgrown => exact he
        case row row args => exact Rows.mono h fun u w'' he => he
      | halt x w' => cases x <;> simp only [Oper.upon] at h ⊢ <;> exact h
    · exact .inr ⟨h1, h2⟩
  · rename_i hw
    simp only [hw] at h
    exact h

/-- Nothing is left. -/
theorem wpAnyH_end {fuel : Nat} {listed : Array Bool} {a : Act} {w : World} (hr : Region.ready md ops listed = []) (h : Q .normal a w) : wpAnyH P md ops Q S fuel listed a w := by
  cases fuel with
  | zero => exact ⟨hr, h⟩
  | succ f => exact ⟨fun _ => h, by rw [hr]; simp⟩

theorem wp_region_h {id : Nat} {a : Act} {w : World} (hm : P.follows .mixedOrders = true)
    (h : wpAnyH P .any ops Q S ops.size (Array.replicate ops.size false) a { w with drawn := w.drawn + 1 }) : (Code.region id ops true).wp P Q a w :=
  wp_region_any hm (wpAny_of_H _ _ _ _ h)
end
attribute [irreducible] wpAnyH
end Go.Proofs.YtlnjmkldpicpdaaDoor
