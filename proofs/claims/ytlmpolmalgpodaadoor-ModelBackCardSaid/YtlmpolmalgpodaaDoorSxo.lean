/- Sx: a method called through an interface; several that can come; parts in another order. Nothing of the program. -/
import Derived.Test.YtlmpolmalgpodaaDoorSxn
namespace Go.Proofs.YtlmpolmalgpodaaDoor
open Go
set_option linter.unusedVariables false
set_option linter.unusedSimpArgs false
section
variable {P : Program} {ρ : Env} {o : Oper} {w : World} {x y z : Operand} {v : Value} {t t' : TypeId}
theorem rCallI {f : FuncId} {x : Operand} {name : String} {as : List Operand} {ts : Array TypeId} {vs : List Value} {u : Value} (ho : o.op = .call { callee := .invoke x name, args := as.toArray, argTypes := ts }) (hx : ev ρ x = .iface t u) (hv : as.map (ev ρ) = vs)
    (hm : ∀ w : World, (callMethod (.iface t u) name vs.toArray).run P w = .ok (.enter f (u :: vs).toArray) w) : (execOp (ev ρ) o).run P w = .ok (.enter f (u :: vs).toArray) w := by
  have := hm w
  simp [execOp, ho, resolve, invoke, hx, hv, Array.extract_append, this]
end
section
variable {P : Program} {N : Nat} {ops : Array Oper} {Q : XPost} {S : World → Prop} {T : List Nat} {fuel : Nat} {listed : Array Bool} {ρ : Env} {w : World} {o : Oper} {v : Value} {d : Nat}
theorem WT_any (l : List Nat) (hr : Region.ready .any ops listed = l) (hne : l ≠ []) (hT : ∀ i ∈ l, T.contains i = false)
    (h : ∀ i ∈ l, ∃ o, ops[i]? = some o ∧ WL P N ops (thenQ (fun ρ' w' => S w' ∧ WT P N ops Q S T fuel (listed.setIfInBounds i true) ρ' w') Q) [o] ρ w) : WT P N ops Q S T (fuel + 1) listed ρ w := by
  unfold WT
  intro a ha
  refine ⟨fun h0 => (by rw [hr] at h0; exact absurd h0 hne), fun i hi => ?_⟩
  rw [hr] at hi
  obtain ⟨o, ho, h1⟩ := h i hi
  rw [hT i hi]
  exact wpOp_of_list ho (WL_elim h1 a ha) fun ρ' a' w' h1 h2 => by
    have h3 := h2.2
    unfold WT at h3
    exact ⟨h2.1, h3 _ h1⟩
theorem WT_three (i j k : Nat) {oi oj ok : Oper} (hi : ops[i]? = some oi) (hj : ops[j]? = some oj) (hk : ops[k]? = some ok) (hr : Region.ready .any ops listed = [i, j, k]) (hiT : T.contains i = false) (hjT : T.contains j = false) (hkT : T.contains k = false)
    (h0 : WL P N ops (thenQ (fun ρ' w' => S w' ∧ WT P N ops Q S T fuel (listed.setIfInBounds i true) ρ' w') Q) [oi] ρ w)
    (h1 : WL P N ops (thenQ (fun ρ' w' => S w' ∧ WT P N ops Q S T fuel (listed.setIfInBounds j true) ρ' w') Q) [oj] ρ w)
    (h2 : WL P N ops (thenQ (fun ρ' w' => S w' ∧ WT P N ops Q S T fuel (listed.setIfInBounds k true) ρ' w') Q) [ok] ρ w) : WT P N ops Q S T (fuel + 1) listed ρ w := by
  refine WT_any _ hr (by simp) (fun m hm => ?_) (fun m hm => ?_)
  · simp only [List.mem_cons, List.not_mem_nil, or_false] at hm
    rcases hm with rfl | rfl | rfl <;> assumption
  · simp only [List.mem_cons, List.not_mem_nil, or_false] at hm
    rcases hm with rfl | rfl | rfl
    · exact ⟨_, hi, h0⟩
    · exact ⟨_, hj, h1⟩
    · exact ⟨_, hk, h2⟩
theorem WT_four (i j k l : Nat) {oi oj ok ol : Oper} (hi : ops[i]? = some oi) (hj : ops[j]? = some oj) (hk : ops[k]? = some ok) (hl : ops[l]? = some ol) (hr : Region.ready .any ops listed = [i, j, k, l]) (hiT : T.contains i = false) (hjT : T.contains j = false) (hkT : T.contains k = false) (hlT : T.contains l = false)
    (h0 : WL P N ops (thenQ (fun ρ' w' => S w' ∧ WT P N ops Q S T fuel (listed.setIfInBounds i true) ρ' w') Q) [oi] ρ w)
    (h1 : WL P N ops (thenQ (fun ρ' w' => S w' ∧ WT P N ops Q S T fuel (listed.setIfInBounds j true) ρ' w') Q) [oj] ρ w)
    (h2 : WL P N ops (thenQ (fun ρ' w' => S w' ∧ WT P N ops Q S T fuel (listed.setIfInBounds k true) ρ' w') Q) [ok] ρ w)
    (h3 : WL P N ops (thenQ (fun ρ' w' => S w' ∧ WT P N ops Q S T fuel (listed.setIfInBounds l true) ρ' w') Q) [ol] ρ w) : WT P N ops Q S T (fuel + 1) listed ρ w := by
  refine WT_any _ hr (by simp) (fun m hm => ?_) (fun m hm => ?_)
  · simp only [List.mem_cons, List.not_mem_nil, or_false] at hm
    rcases hm with rfl | rfl | rfl | rfl <;> assumption
  · simp only [List.mem_cons, List.not_mem_nil, or_false] at hm
    rcases hm with rfl | rfl | rfl | rfl
    · exact ⟨_, hi, h0⟩
    · exact ⟨_, hj, h1⟩
    · exact ⟨_, hk, h2⟩
    · exact ⟨_, hl, h3⟩
end
section
variable {S : Nat → Prop} {w0 w : World} {H : List Ent}
theorem Inv.perm {H' : List Ent} (h : Inv S w0 w H) (p : H.Perm H') : Inv S w0 w H' :=
  ⟨h.chg, fun e he => h.ok e (p.mem_iff.2 he), fun e he => h.own e (p.mem_iff.2 he), (p.pairwise_iff (fun {a b} hab k h1 h2 => hab k h2 h1)).1 h.apart⟩
theorem Inv.sw0 {a b : Ent} (h : Inv S w0 w (a :: b :: H)) : Inv S w0 w (b :: a :: H) := h.perm (.swap ..)
theorem Inv.sw1 {a b c : Ent} (h : Inv S w0 w (a :: b :: c :: H)) : Inv S w0 w (a :: c :: b :: H) := h.perm (.cons _ (.swap ..))
theorem Inv.sw2 {a b c d : Ent} (h : Inv S w0 w (a :: b :: c :: d :: H)) : Inv S w0 w (a :: b :: d :: c :: H) := h.perm (.cons _ (.cons _ (.swap ..)))
theorem Inv.sw3 {a b c d e : Ent} (h : Inv S w0 w (a :: b :: c :: d :: e :: H)) : Inv S w0 w (a :: b :: c :: e :: d :: H) := h.perm (.cons _ (.cons _ (.cons _ (.swap ..))))
end
end Go.Proofs.YtlmpolmalgpodaaDoor
