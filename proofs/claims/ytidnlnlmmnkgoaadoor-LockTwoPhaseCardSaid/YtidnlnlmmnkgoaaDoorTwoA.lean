/- lock: plain: the rounds end. -/
import Derived.Test.YtidnlnlmmnkgoaaDoorLckB
import Derived.Test.YtidnlnlmmnkgoaaDoorGraphLaw
namespace Go.Proofs.YtidnlnlmmnkgoaaDoor
open Go.RowKit
set_option linter.unusedVariables false
set_option linter.unusedSimpArgs false
theorem reachN_spec (w : Nat → List Nat) (hw : ∀ x, ∀ y ∈ w x, y < 8) (hl8 : ∀ x, (w x).length ≤ 8) : ∀ (fuel : Nat) (out l : List Nat), (8 - out.length) * 9 + l.length < fuel → out.Nodup → (∀ y ∈ out, y < 8) → (∀ y ∈ l, y < 8) →
    (∀ x ∈ out, ∀ y ∈ w x, y ∈ out ∨ y ∈ l) →
    (∀ x ∈ out, x ∈ reachN fuel w out l) ∧ (∀ x ∈ l, x ∈ reachN fuel w out l) ∧ (∀ x ∈ reachN fuel w out l, ∀ y ∈ w x, y ∈ reachN fuel w out l)
  | 0, out, l, h, _, _, _, _ => by omega
  | n + 1, out, [], h, h1, h2, h3, h4 => by
    rw [reachN]
    exact ⟨fun x hx => hx, fun x hx => by simp at hx, fun x hx y hy => (h4 x hx y hy).resolve_right (by simp)⟩
  | n + 1, out, x :: l, h, h1, h2, h3, h4 => by
    rw [reachN]
    by_cases hx : x ∈ out
    · rw [if_pos hx]
      have ih := reachN_spec w hw hl8 n out l (by simp at h; omega) h1 h2 (fun y hy => h3 y (by simp [hy])) (fun z hz y hy => by
        rcases h4 z hz y hy with h5 | h5
        · exact .inl h5
        · rcases List.mem_cons.1 h5 with rfl | h5
          · exact .inl hx
          · exact .inr h5)
      refine ⟨ih.1, fun y hy => ?_, ih.2.2⟩
      rcases List.mem_cons.1 hy with rfl | hy
      · exact ih.1 _ hx
      · exact ih.2.1 y hy
    · rw [if_neg hx]
      have hnd : (out ++ [x]).Nodup := by
        rw [List.nodup_append]
        refine ⟨h1, by simp, fun a ha b hb => ?_⟩
        rw [List.mem_singleton.1 hb]
        rintro rfl
        exact hx ha
      have hlt : ∀ y ∈ out ++ [x], y < 8 := fun y hy => by
        rcases List.mem_append.1 hy with hy | hy
        · exact h2 y hy
        · rw [List.mem_singleton.1 hy]; exact h3 x (by simp)
      have hle := nodup_le (out ++ [x]) (List.range 8) hnd (fun y hy => List.mem_range.2 (hlt y hy))
      simp at hle
      have hwl := hl8 x
      have ih := reachN_spec w hw hl8 n (out ++ [x]) (l ++ w x) (by simp at h ⊢; omega) hnd hlt (fun y hy => by
        rcases List.mem_append.1 hy with hy | hy
        · exact h3 y (by simp [hy])
        · exact hw x y hy) (fun z hz y hy => by
        rcases List.mem_append.1 hz with hz | hz
        · rcases h4 z hz y hy with h5 | h5
          · exact .inl (by simp [h5])
          · rcases List.mem_cons.1 h5 with rfl | h5
            · exact .inl (by simp)
            · exact .inr (by simp [h5])
        · rw [List.mem_singleton.1 hz] at hy
          exact .inr (by simp [hy]))
      refine ⟨fun y hy => ih.1 y (by simp [hy]), fun y hy => ?_, ih.2.2⟩
      rcases List.mem_cons.1 hy with rfl | hy
      · exact ih.1 _ (by simp)
      · exact ih.2.1 y (by simp [hy])
def WLt (wait : Nat → Option (List Nat)) : Prop := ∀ x l, wait x = some l → l.length ≤ 8 ∧ ∀ y ∈ l, y < 8
theorem wl_len {wait : Nat → Option (List Nat)} (h : WLt wait) (x : Nat) : (wl wait x).length ≤ 8 ∧ ∀ y ∈ wl wait x, y < 8 := by
  unfold wl
  cases hx : wait x with
  | none => simp
  | some l => exact h x l hx
theorem reach_spec {wait : Nat → Option (List Nat)} (h : WLt wait) (x : Nat) : (∀ y ∈ wl wait x, y ∈ reachF wait x) ∧ (∀ y ∈ reachF wait x, ∀ z ∈ wl wait y, z ∈ reachF wait x) := by
  have hx := wl_len h x
  have := reachN_spec (wl wait) (fun y => (wl_len h y).2) (fun y => (wl_len h y).1) 200 [] (wl wait x) (by simp; omega) (by simp) (by simp) hx.2 (by simp)
  exact ⟨this.2.1, this.2.2⟩
theorem reach_none {wait : Nat → Option (List Nat)} {x y : Nat} (h : y ∈ reachF wait x) : wait x ≠ none := fun hn => by
  unfold reachF wl at h
  rw [hn] at h
  simp [reachN] at h
theorem foldl_max : ∀ (l : List Nat) (m : Int), l.foldl (fun m (v : Nat) => max m (v : Int)) m = m ∨ ∃ v ∈ l, l.foldl (fun m (v : Nat) => max m (v : Int)) m = (v : Int)
  | [], m => .inl rfl
  | a :: l, m => by
    rw [List.foldl_cons]
    rcases foldl_max l (max m (a : Int)) with h | ⟨v, hv, h⟩
    · rw [h]
      rcases Int.le_total m (a : Int) with h1 | h1
      · exact .inr ⟨a, by simp, by omega⟩
      · exact .inl (by omega)
    · exact .inr ⟨v, by simp [hv], h⟩
theorem vic_spec {s : Rn} {tx : Nat} (h : tx ∈ reachF s.wait tx) : vicF s tx ∈ reachF s.wait tx ∧ tx ∈ reachF s.wait (vicF s tx) := by
  have h1 := viTo_ge (wait := s.wait) h h
  have h2 : vicF s tx = (viTo s.wait tx (reachF s.wait tx) (reachF s.wait tx).length).toNat := rfl
  unfold viTo at h1 h2
  rw [List.take_length] at h1 h2
  rcases foldl_max ((reachF s.wait tx).filter fun v => decide (tx ∈ reachF s.wait v)) (-1) with h3 | ⟨v, hv, h3⟩
  · rw [h3] at h1; omega
  · rw [h3] at h2
    have : vicF s tx = v := by omega
    rw [this]
    have := List.mem_filter.1 hv
    exact ⟨this.1, by simpa using this.2⟩
/-- How much is left to do. -/
def left1 (p : List (List St)) (s : Rn) (x : Nat) : Nat := if s.over.getD x false = true then 0 else (rowP p x).length - s.ats.getD x 0 + 1
def mu (p : List (List St)) (s : Rn) : Nat := ((List.range p.length).map (left1 p s)).sum
theorem sum_le_r {f g : Nat → Nat} : ∀ n, (∀ x, x < n → g x ≤ f x) → ((List.range n).map g).sum ≤ ((List.range n).map f).sum
  | 0, _ => Nat.le_refl _
  | n + 1, h => by
    have := sum_le_r n (fun x hx => h x (by omega))
    have := h n (by omega)
    rw [List.range_succ, List.map_append, List.map_append, List.sum_append, List.sum_append]
    simp
    omega
theorem sum_lt_r {f g : Nat → Nat} {x : Nat} : ∀ n, (∀ x, x < n → g x ≤ f x) → x < n → g x + 1 ≤ f x → ((List.range n).map g).sum + 1 ≤ ((List.range n).map f).sum
  | 0, _, hx, _ => by omega
  | n + 1, h, hx, h1 => by
    rw [List.range_succ, List.map_append, List.map_append, List.sum_append, List.sum_append]
    simp
    by_cases hxn : x = n
    · subst hxn
      have := sum_le_r (f := f) (g := g) x (fun y hy => h y (by omega))
      omega
    · have := sum_lt_r (f := f) (g := g) n (fun y hy => h y (by omega)) (by omega) h1
      have := h n (by omega)
      omega
theorem mu_init (p : List (List St)) : mu p (initR p.length) = p.length + sumTo p p.length := by
  have : ∀ n, n ≤ p.length → ((List.range n).map (left1 p (initR p.length))).sum = n + sumTo p n := fun n => by
    induction n with
    | zero => intro _; rfl
    | succ n ih =>
      intro hn
      have hrow : p[n]? = some (rowP p n) := by unfold rowP; rw [List.getD_eq_getElem?_getD, List.getElem?_eq_getElem (by omega)]; rfl
      rw [List.range_succ, List.map_append, List.sum_append, ih (by omega), sumTo_succ hrow]
      have e : left1 p (initR p.length) n = (rowP p n).length + 1 := by
        have e1 : (initR p.length).over.getD n false = false := by
          show (List.replicate p.length false).getD n false = false
          rw [List.getD_eq_getElem?_getD, List.getElem?_replicate]
          split <;> rfl
        have e2 : (initR p.length).ats.getD n 0 = 0 := by
          show (List.replicate p.length 0).getD n 0 = 0
          rw [List.getD_eq_getElem?_getD, List.getElem?_replicate]
          split <;> rfl
        unfold left1
        rw [e1, e2]
        rfl
      simp [e]
      omega
  exact this p.length (Nat.le_refl _)
theorem getD_set_eq {α : Type} {l : List α} {i : Nat} {v d : α} (h : i < l.length) : (l.set i v).getD i d = v := by
  rw [List.getD_eq_getElem?_getD, List.getElem?_set_self h]; rfl
theorem getD_set_ne {α : Type} {l : List α} {i j : Nat} {v d : α} (h : i ≠ j) : (l.set i v).getD j d = l.getD j d := by
  rw [List.getD_eq_getElem?_getD, List.getElem?_set_ne h, ← List.getD_eq_getElem?_getD]
def WOv (s : Rn) : Prop := ∀ x, s.wait x ≠ none → s.over.getD x false = false
def HOv (s : Rn) : Prop := ∀ k x, k < 8 → s.held k x ≠ 0 → s.over.getD x false = false
/-- Who stands against x's next step. -/
def agx (p : List (List St)) (s : Rn) (x : Nat) : List Nat := agR s (stepP p s x)
theorem agx_congr {p : List (List St)} {s s' : Rn} (h1 : s'.held = s.held) (h2 : s'.ats = s.ats) (x : Nat) : agx p s' x = agx p s x := by
  unfold agx agR stepP
  rw [h1, h2]
/-- One that ended: so much less is left. -/
theorem mu_end {p : List (List St)} {s s' : Rn} {v : Nat} (hv : v < p.length) (hl : s.over.length = p.length) (ho : s.over.getD v false = false) (h1 : s'.over = s.over.set v true) (h2 : s'.ats = s.ats) : mu p s' + 1 ≤ mu p s := by
  have key : ∀ x, left1 p s' x = if x = v then 0 else left1 p s x := fun x => by
    unfold left1
    rw [h1, h2]
    by_cases hx : x = v
    · subst hx
      rw [getD_set_eq (by omega), if_pos rfl, if_pos rfl]
    · rw [getD_set_ne (fun e => hx e.symm), if_neg hx]
  refine sum_lt_r (x := v) p.length (fun x _ => ?_) hv ?_
  · rw [key]
    split
    · exact Nat.zero_le _
    · exact Nat.le_refl _
  · rw [key, if_pos rfl]
    unfold left1
    rw [if_neg (by rw [ho]; simp)]
    omega
theorem mu_step {p : List (List St)} {s s' : Rn} {v : Nat} (hv : v < p.length) (hl : s.ats.length = p.length) (ho : s.over.getD v false = false) (hat : s.ats.getD v 0 < (rowP p v).length) (h1 : s'.over = s.over) (h2 : s'.ats = s.ats.set v (s.ats.getD v 0 + 1)) : mu p s' + 1 ≤ mu p s := by
  refine sum_lt_r (x := v) p.length (fun x _ => ?_) hv ?_
  · unfold left1
    rw [h1, h2]
    by_cases hx : x = v
    · subst hx
      rw [getD_set_eq (by omega)]
      split <;> omega
    · rw [getD_set_ne (fun e => hx e.symm)]
      exact Nat.le_refl _
  · unfold left1
    rw [h1, h2, getD_set_eq (by omega), if_neg (by rw [ho]; simp), if_neg (by rw [ho]; simp)]
    omega
/-- What one going on brings: one step more is done and less is left; or all is as it was, but for whom it waits. -/
def Same (s s' : Rn) : Prop := s'.held = s.held ∧ s'.ats = s.ats ∧ s'.over = s.over ∧ s'.done = s.done ∧ s'.vict = s.vict
theorem go_mu {p : List (List St)} {s : Rn} {m tx : Nat} (hp : PlanOk p) (hP : POk p.length p s m) (hW : WOv s) (ht : tx < p.length) :
    (mu p (goR p s tx) + 1 ≤ mu p s ∧ (goR p s tx).done.length = s.done.length + 1) ∨
    (Same s (goR p s tx) ∧ ((s.over.getD tx false = true ∧ goR p s tx = s) ∨
      (s.over.getD tx false = false ∧ s.ats.getD tx 0 ≠ (rowP p tx).length ∧ 0 < (agx p s tx).length ∧ (goR p s tx).wait = (fun x => if x = tx then some (agx p s tx) else s.wait x) ∧ tx ∉ reachF (goR p s tx).wait tx))) := by
  have h8 := hp.1
  unfold goR
  cases ho : s.over.getD tx false with
  | true =>
    rw [if_pos rfl]
    exact .inr ⟨⟨rfl, rfl, rfl, rfl, rfl⟩, .inl ⟨rfl, rfl⟩⟩
  | false =>
    rw [if_neg (by simp)]
    by_cases hat : s.ats.getD tx 0 = (rowP p tx).length
    · rw [if_pos (show (delW s tx).ats.getD tx 0 = _ from hat)]
      refine .inl ⟨mu_end ht hP.over ho rfl rfl, ?_⟩
      show (s.done ++ [_]).length = _
      simp
    · rw [if_neg (show ¬ (delW s tx).ats.getD tx 0 = _ from hat)]
      have hlt : s.ats.getD tx 0 < (rowP p tx).length := by have := hP.hat tx ht; omega
      by_cases hag : 0 < (agx p s tx).length
      · rw [if_pos (show 0 < (agR (delW s tx) (stepP p s tx)).length from hag)]
        have hw : (waitS (delW s tx) tx (agR (delW s tx) (stepP p s tx))).wait = fun x => if x = tx then some (agx p s tx) else s.wait x := by
          funext x
          show (if x = tx then some _ else (if x = tx then none else s.wait x)) = _
          by_cases hx : x = tx
          · rw [if_pos hx, if_pos hx]; rfl
          · rw [if_neg hx, if_neg hx, if_neg hx]
        unfold waitR
        dsimp only
        by_cases hr : tx ∈ reachF (waitS (delW s tx) tx (agR (delW s tx) (stepP p s tx))).wait tx
        · rw [if_pos hr]
          left
          obtain ⟨hv1, hv2⟩ := vic_spec hr
          obtain ⟨v, hv⟩ : ∃ v, vicF (waitS (delW s tx) tx (agR (delW s tx) (stepP p s tx))) tx = v := ⟨_, rfl⟩
          rw [hv] at hv1 hv2
          rw [hv]
          have hn := reach_none hv2
          rw [hw] at hn
          have hvo : v < p.length ∧ s.over.getD v false = false := by
            by_cases hvt : v = tx
            · subst hvt; exact ⟨ht, ho⟩
            · have hn : (if v = tx then some (agx p s tx) else s.wait v) ≠ none := hn
              rw [if_neg hvt] at hn
              obtain ⟨l, hl⟩ := Option.ne_none_iff_exists'.1 hn
              exact ⟨hP.wkey v l hl, hW v hn⟩
          refine ⟨mu_end hvo.1 hP.over hvo.2 rfl rfl, ?_⟩
          show (s.done ++ [_]).length = _
          simp
        · rw [if_neg hr]
          exact .inr ⟨⟨rfl, rfl, rfl, rfl, rfl⟩, .inr ⟨rfl, hat, hag, hw, hr⟩⟩
      · rw [if_neg (show ¬ 0 < (agR (delW s tx) (stepP p s tx)).length from hag)]
        refine .inl ⟨mu_step ht hP.ats ho hlt rfl rfl, ?_⟩
        show (s.done ++ [_]).length = _
        simp
end Go.Proofs.YtidnlnlmmnkgoaaDoor
