/- What is run in an order, call by call, is what it tells: plain. -/
import Derived.Test.YtlmpolmalgpodaaDoorModLaw2
namespace Go.Proofs.YtlmpolmalgpodaaDoor
set_option linter.unusedVariables false
set_option linter.unusedSimpArgs false
/-- Ops whose results are those that the steps give. -/
def Chain (o : Int) : List Int → List Op8 → List Int → Prop
  | st, [], st' => st = st'
  | st, p :: r, st' => p.key = 0 ∧ 0 ≤ p.ret ∧ ∃ st1, stepF o st p.kind p.a p.b = some (st1, p.res) ∧ Chain o st1 r st'
theorem Chain.snoc {o : Int} {p : Op8} {st2 : List Int} : ∀ {st : List Int} {l : List Op8} {st1 : List Int}, Chain o st l st1 → p.key = 0 → 0 ≤ p.ret → stepF o st1 p.kind p.a p.b = some (st2, p.res) → Chain o st (l ++ [p]) st2
  | st, [], st1, h, hk, hr, hs => by
    have h : st = st1 := h
    subst h
    exact ⟨hk, hr, st2, hs, rfl⟩
  | st, q :: l, st1, h, hk, hr, hs => by
    obtain ⟨h1, h2, s, h3, h4⟩ := h
    exact ⟨h1, h2, s, h3, h4.snoc hk hr hs⟩
def ordF (n : Nat) : List Int := (List.range n).map fun i => ((i : Nat) : Int)
theorem ordF_drop {n j : Nat} (h : j < n) : (ordF n).drop j = ((j : Nat) : Int) :: (ordF n).drop (j + 1) := by
  have hl : j < (ordF n).length := by simpa [ordF] using h
  rw [List.drop_eq_getElem_cons hl]
  simp [ordF]
theorem run_chain {o : Int} {ops : List Op8} {st' : List Int} : ∀ (m j : Nat) (g : Sts8) (st : List Int), ops.length - j = m → j ≤ ops.length → (g 0).getD (startF o) = st → Chain o st (ops.drop j) st' → runTo o ops ((ordF ops.length).drop j) j g = -1
  | 0, j, g, st, hm, hj, hg, hc => by
    rw [List.drop_eq_nil_of_le (by simp [ordF]; omega)]; rfl
  | m + 1, j, g, st, hm, hj, hg, hc => by
    have hjl : j < ops.length := by omega
    rw [ordF_drop hjl, runTo, if_neg (by omega), Int.toNat_natCast]
    have hd : ops.drop j = ops[j] :: ops.drop (j + 1) := List.drop_eq_getElem_cons hjl
    have ho : oAt ops j = ops[j] := by unfold oAt; rw [List.getD_eq_getElem?_getD, List.getElem?_eq_getElem hjl]; rfl
    rw [hd] at hc
    obtain ⟨h1, h2, s, h3, h4⟩ := hc
    rw [ho, h1, show (0 : Int).toNat = 0 from rfl, hg, h3]
    simp only
    rw [if_neg (fun h => h.2 rfl)]
    exact run_chain m (j + 1) _ s (by omega) (by omega) (by simp [updS]) h4
/-- The last one told otherwise. -/
theorem run_last {o : Int} {ops ops' : List Op8} {st' : List Int} (hl : ops'.length = ops.length) (hsame : ∀ i, i + 1 < ops.length → oAt ops' i = oAt ops i)
    (hlast : 0 < ops.length → (oAt ops' (ops.length - 1)).key = (oAt ops (ops.length - 1)).key ∧ (oAt ops' (ops.length - 1)).kind = (oAt ops (ops.length - 1)).kind ∧ (oAt ops' (ops.length - 1)).a = (oAt ops (ops.length - 1)).a ∧ (oAt ops' (ops.length - 1)).b = (oAt ops (ops.length - 1)).b ∧ 0 ≤ (oAt ops' (ops.length - 1)).ret ∧ (oAt ops (ops.length - 1)).res ≠ (oAt ops' (ops.length - 1)).res) :
    ∀ (m j : Nat) (g : Sts8) (st : List Int), ops.length - j = m → j < ops.length → (g 0).getD (startF o) = st → Chain o st (ops.drop j) st' → runTo o ops' ((ordF ops.length).drop j) j g = ((ops.length - 1 : Nat) : Int)
  | 0, j, g, st, hm, hj, hg, hc => by omega
  | m + 1, j, g, st, hm, hjl, hg, hc => by
    rw [ordF_drop hjl, runTo, if_neg (by omega), Int.toNat_natCast]
    have hd : ops.drop j = ops[j] :: ops.drop (j + 1) := List.drop_eq_getElem_cons hjl
    have ho : oAt ops j = ops[j] := by unfold oAt; rw [List.getD_eq_getElem?_getD, List.getElem?_eq_getElem hjl]; rfl
    rw [hd] at hc
    obtain ⟨h1, h2, s, h3, h4⟩ := hc
    rcases Nat.lt_or_ge (j + 1) ops.length with hlt | hge
    · rw [hsame j hlt, ho, h1, show (0 : Int).toNat = 0 from rfl, hg, h3]
      simp only
      rw [if_neg (fun h => h.2 rfl)]
      exact run_last hl hsame hlast m (j + 1) _ s (by omega) hlt (by simp [updS]) h4
    · have hj : ops.length - 1 = j := by omega
      obtain ⟨q1, q2, q3, q4, q5, q6⟩ := hlast (by omega)
      rw [hj] at q1 q2 q3 q4 q5 q6
      rw [q1, q2, q3, q4, ho, h1, show (0 : Int).toNat = 0 from rfl, hg, h3]
      simp only
      rw [ho] at q6
      rw [if_pos ⟨q5, q6⟩, hj]
end Go.Proofs.YtlmpolmalgpodaaDoor
