/- Sx: maps that are read, or nil; range over a map that lies elsewhere; delete; len. Nothing of the program. -/
import Derived.Test.YtkfciehgjhgmeaaSxR
import Derived.Laws.IdiomRangeMap
namespace Go.Proofs.Ytkfciehgjhgmeaa
open Go
set_option linter.unusedVariables false
set_option linter.unusedSimpArgs false
set_option linter.unusedSectionVars false
/-- A map, or nil, as it reads. -/
def MapRIs {κ : Type} (ok : κ → Prop) (K : κ → Value) (w : World) (A : Option Nat) (g : κ → Option Value) : Prop := match A with
  | none => g = fun _ => none
  | some b => MapKIs ok K w b g
/-- The iterator r of a map, or of nil, as the map lay in wb. -/
def RngRIs {κ : Type} (ok : κ → Prop) (K : κ → Value) (wb : World) (A : Option Nat) (w : World) (r : Nat) (g : κ → Option Value) (left : κ → Prop) (cnt : Nat) (cur : Option κ) : Prop := match A with
  | none => (∃ a s c, w.heap[r]? = some (.mapIter none a s c)) ∧ (∀ a, ¬ left a) ∧ cur = none
  | some b => ∃ W : World, W.heap[b]? = wb.heap[b]? ∧ W.heap[r]? = w.heap[r]? ∧ RngIs ok K W b r g left cnt cur
def RngR {κ : Type} (ok : κ → Prop) (K : κ → Value) (wb : World) (A : Option Nat) (r : Nat) (g : κ → Option Value) (left : κ → Prop) (cnt : Nat) (cur : Option κ) : Ent := ⟨fun k => k = r, fun w => RngRIs ok K wb A w r g left cnt cur⟩
section
variable {κ : Type} [DecidableEq κ] {ok : κ → Prop} {K : κ → Value} {P : Program} {N : Nat} {ops : Array Oper} {Q : XPost} {rest : List Oper} {ρ : Env} {o : Oper} {w0 w w' wb : World} {S : Nat → Prop} {H : List Ent} {d t t' kt et b r cnt : Nat} {A : Option Nat} {x y z : Operand} {zv v : Value} {a : κ} {g : κ → Option Value} {left : κ → Prop} {cur : Option κ}
theorem MapKIs.lt (h : MapKIs ok K w b g) : b < w.heap.size := by
  obtain ⟨es, clk, m, h1, _⟩ := h.ex
  exact (Array.getElem?_eq_some_iff.1 h1).1
theorem MapKIs.keep (h : MapKIs ok K w b g) (he : w'.heap[b]? = w.heap[b]?) : MapKIs ok K w' b g := by
  obtain ⟨es, clk, m, h1, h2⟩ := h.ex
  exact ⟨es, clk, m, he.trans h1, h2⟩
theorem MapRIs.pure (h : MapRIs ok K w A g) (hp : Pure w w') : MapRIs ok K w' A g := by
  cases A with
  | none => exact h
  | some b => exact MapKIs.keep h ((Inv.start (fun _ => False) w |>.pure hp).chg.block b (MapKIs.lt h) (fun h => h))
theorem RngIs.keep (h : RngIs ok K w b r g left cnt cur) (hb : w'.heap[b]? = w.heap[b]?) (hr : w'.heap[r]? = w.heap[r]?) : RngIs ok K w' b r g left cnt cur := by
  obtain ⟨es, clk, m, since, c0, seen, q1, q2, q3, q4, q5, q6, q7, q8⟩ := h.ex
  exact ⟨es, clk, m, since, c0, seen, hb.trans q1, q2, q3, q4, q5, q6, hr.trans q7, q8⟩
theorem rngR_ok (h : RngRIs ok K wb A w r g left cnt cur) : (RngR ok K wb A r g left cnt cur).ok w := by
  refine Ent.mk_ok h (fun k hk => ?_) (fun S w1 w2 hc hS h1 => ?_)
  · have : k = r := hk
    subst this
    cases A with
    | none => obtain ⟨⟨a, s, c, h1⟩, _⟩ := h; exact (Array.getElem?_eq_some_iff.1 h1).1
    | some b =>
      obtain ⟨W, _, h2, h3⟩ := h
      obtain ⟨es, clk, m, since, c0, seen, _, _, _, _, _, _, q7, _⟩ := h3.ex
      rw [h2] at q7
      exact (Array.getElem?_eq_some_iff.1 q7).1
  · cases A with
    | none =>
      obtain ⟨⟨a, s, c, h2⟩, h3⟩ := h1
      exact ⟨⟨a, s, c, (hc.block r (Array.getElem?_eq_some_iff.1 h2).1 (hS r rfl)).trans h2⟩, h3⟩
    | some b =>
      obtain ⟨W, h2, h3, h4⟩ := h1
      obtain ⟨es, clk, m, since, c0, seen, _, _, _, _, _, _, q7, _⟩ := id h4.ex
      rw [h3] at q7
      exact ⟨W, h2, h3.trans (hc.block r (Array.getElem?_eq_some_iff.1 q7).1 (hS r rfl)).symm, h4⟩
theorem WL_rangeR (hM : MapRIs ok K w A g) (hI : Inv S w0 w H) (hw : wantedR ops ρ o = true) (hd : o.dst = some d) (hN : Nat.blt d N = true) (ho : o.op = .range t x) (ht : P.underlying t = some (.map kt et)) (hx : ev ρ x = .map A)
    (h : ∀ r cnt w', Inv S w0 w' (RngR ok K w A r g (fun a => (g a).isSome = true) cnt none :: H) → WL P N ops Q rest (upd ρ d (.pointer (some ⟨r, 0, none⟩))) w') : WL P N ops Q (o :: rest) ρ w := by
  cases A with
  | none =>
    have hg : g = fun _ => none := hM
    refine WL_eff hw hd hN (v := .pointer (some ⟨w.heap.size, 0, none⟩)) (w' := w.alloc (.mapIter none 0 #[] 0)) (by simp [execOp, ho, hx, run_range_nilMap (P := P) w t kt et ht]) (h _ 0 _ ?_)
    exact hI.fresh ((Pure.refl w).alloc _) (rngR_ok ⟨⟨_, _, _, heap_alloc_new w _⟩, fun a => by rw [hg]; simp, rfl⟩) (fun k hk => by have : k = w.heap.size := hk; omega)
  | some b =>
    have hM : MapKIs ok K w b g := hM
    have hlt := hM.lt
    obtain ⟨es, clk, m, q1, q2, q3, q4, q5, q6⟩ := hM.ex
    have hrun := run_range_map (P := P) w t kt et b es clk ht q1
    refine WL_eff hw hd hN (v := .pointer (some ⟨w.heap.size, 0, none⟩)) (w' := w.alloc (.mapIter (some b) clk #[] clk)) (by simp [execOp, ho, hx, hrun]) (h _ (leftOf es #[]).size _ ?_)
    refine hI.fresh ((Pure.refl w).alloc _) (rngR_ok ⟨_, heap_alloc_old w _ hlt, rfl, ⟨es, clk, m, clk, clk, #[], (heap_alloc_old w _ hlt).trans q1, q2, q3, q4, q5, q6, heap_alloc_new w _, rfl, Nat.le_refl _, Nat.le_refl _, fun a => ?_, fun a h => by cases h⟩⟩) (fun k hk => by have : k = w.heap.size := hk; omega)
    constructor
    · intro hs
      obtain ⟨v, hv⟩ := Option.isSome_iff_exists.1 hs
      obtain ⟨j, hj⟩ := List.getElem?_of_mem ((q6 a v).2 hv)
      have hjl := (List.getElem?_eq_some_iff.1 hj).1
      have hjl2 : j < es.toList.length := by rw [q3.len]; exact hjl
      exact ⟨j, es.toList[j], v, List.getElem?_eq_getElem hjl2, hj, by simp⟩
    · rintro ⟨j, e, v, _, hj, _⟩
      rw [(q6 a v).1 (List.mem_of_getElem? hj)]; rfl
theorem WL_nextR (i : Nat) (hi : H[i]? = some (RngR ok K wb A r g left cnt cur)) (hI : Inv S w0 w H) (hwb : ∀ b, A = some b → w.heap[b]? = wb.heap[b]?) (hw : wantedR ops ρ o = true) (hd : o.dst = some d) (hN : Nat.blt d N = true) (ho : o.op = .next x false) (hx : ev ρ x = .pointer (some ⟨r, 0, none⟩))
    (hdone : (∀ a, ¬ left a) → WL P N ops Q rest (upd ρ d (.tuple #[.bool false])) w)
    (hnext : ∀ a v w', left a → g a = some v → 0 < cnt → Inv S w0 w' (H.set i (RngR ok K wb A r g (fun k => left k ∧ k ≠ a) (cnt - 1) (some a))) → WL P N ops Q rest (upd ρ d (.tuple #[.bool true, K a, v])) w') : WL P N ops Q (o :: rest) ρ w := by
  have hRR : RngRIs ok K wb A w r g left cnt cur := (hI.ok _ (List.mem_of_getElem? hi)).1
  cases A with
  | none =>
    obtain ⟨⟨a, s, c, h1⟩, h2, _⟩ := hRR
    have hrun : (Instr.next (.pointer (some ⟨r, 0, none⟩)) false o.type).run P w = .ok (.tuple #[.bool false]) w := by
      simp only [Instr.next, getObj, Sem.run_bind, Sem.run, h1, Result.andThen]
      rfl
    exact WL_eff hw hd hN (v := .tuple #[.bool false]) (w' := w) (by simp [execOp, ho, hx, hrun]) (hdone h2)
  | some b =>
  obtain ⟨W, g1, g2, hW⟩ := hRR
  have hR : RngIs ok K w b r g left cnt cur := hW.keep ((hwb b rfl).trans g1.symm) g2.symm
  obtain ⟨es, clk, m, since, c0, seen, q1, q2, q3, q4, q5, q6, q7, q8, q9, q10, q11, _⟩ := hR.ex
  subst q8
  have hne : r ≠ b := fun e => by rw [e, q1] at q7; cases q7
  rcases run_next_at (P := P) w o.type r b since c0 seen es since q7 q1 q2.1 q9 with ⟨h0, hrun⟩ | ⟨e, he, w1, hw1, hrun⟩
  · refine WL_eff hw hd hN (v := .tuple #[.bool false]) (w' := w) (by simp [execOp, ho, hx, hrun]) (hdone fun a ha => ?_)
    obtain ⟨j, e, v, hj, _, hs⟩ := (q11 a).1 ha
    have hm : e ∈ leftOf es seen := by
      unfold leftOf
      rw [Array.mem_filter]
      exact ⟨by simpa using List.mem_of_getElem? hj, by simpa using hs⟩
    have := Array.size_pos_of_mem hm
    omega
  · have he' : e ∈ leftOf es seen := by simpa using he
    have hmf : e ∈ es ∧ (!seen.contains e.born) = true := by
      unfold leftOf at he'
      rw [Array.mem_filter] at he'
      exact he'
    have hel : e ∈ es.toList := by simpa using hmf.1
    obtain ⟨j, hj⟩ := List.getElem?_of_mem hel
    have hjl := (List.getElem?_eq_some_iff.1 hj).1
    have hjm : j < m.length := by rw [← q3.len]; exact hjl
    obtain ⟨a, v, hmj⟩ : ∃ a v, m[j]? = some (a, v) := ⟨m[j].1, m[j].2, by rw [List.getElem?_eq_getElem hjm]⟩
    have hkv : e.key = K a ∧ e.val = v := by
      have := congrArg (fun l => l[j]?) q3
      simp only [List.getElem?_map, hj, hmj, Option.map_some, Option.some.injEq, Prod.mk.injEq] at this
      exact this
    have hga : g a = some v := (q6 a v).1 (List.mem_of_getElem? hmj)
    have hsz : (leftOf es (seen.push e.born)).size < (leftOf es seen).size := by
      have e1 : leftOf es (seen.push e.born) = (leftOf es seen).filter (fun x => !(x.born == e.born)) := by
        unfold leftOf
        rw [Array.filter_filter]
        congr 1
        funext x
        rw [Array.contains_push]
        cases x.born == e.born <;> cases seen.contains x.born <;> rfl
      have h2 := List.length_filter_lt_length_iff_exists (p := fun x : MapEntry => !(x.born == e.born)) (l := (leftOf es seen).toList)
      have h3 := h2.2 ⟨e, he, by simp⟩
      have h4 : ((leftOf es seen).filter (fun x => !(x.born == e.born))).toList.length < (leftOf es seen).toList.length := by rw [Array.toList_filter]; exact h3
      rw [Array.length_toList, Array.length_toList, ← e1] at h4
      exact h4
    have h1r : w1.heap = w.heap := by rcases hw1 with rfl | rfl <;> rfl
    have hlt : r < w.heap.size := (Array.getElem?_eq_some_iff.1 q7).1
    refine WL_eff hw hd hN (v := .tuple #[.bool true, e.key, e.val]) (w' := ChangeMaps.setBlock w1 r (.mapIter (some b) since (seen.push e.born) since)) (by simp [execOp, ho, hx, hrun]) ?_
    rw [hkv.1, hkv.2]
    refine hnext a v _ ((q11 a).2 ⟨j, e, v, hj, hmj, by simpa using hmf.2⟩) hga (by omega) ?_
    have hc : Chg (RngR ok K wb (some b) r g left cnt cur).D w w1 := by rcases hw1 with rfl | rfl <;> first | exact Chg.refl _ _ | exact (Chg.refl _ w).drew
    have hc2 : Chg (RngR ok K wb (some b) r g left cnt cur).D w1 (ChangeMaps.setBlock w1 r (.mapIter (some b) since (seen.push e.born) since)) :=
      ⟨rfl, rfl, rfl, by simp [ChangeMaps.setBlock], fun k hk hs => by
        have : r ≠ k := fun e => hs e.symm
        simp [ChangeMaps.setBlock, Array.getElem?_setIfInBounds, this]⟩
    have hb' : (ChangeMaps.setBlock w1 r (.mapIter (some b) since (seen.push e.born) since)).heap[b]? = w.heap[b]? := by
      show (w1.heap.setIfInBounds r _)[b]? = _
      rw [h1r, Array.getElem?_setIfInBounds, if_neg hne]
    refine hI.upd i hi (hc.trans' hc2 (fun _ _ h => h)) (rngR_ok ⟨_, hb'.trans (hwb b rfl), rfl, ⟨es, since, m, since, since, seen.push e.born, hb'.trans q1, q2, q3, q4, q5, q6, ?_, rfl, Nat.le_refl _, by omega, fun k => ?_, fun k hk => ?_⟩⟩) (fun k hk => .inl hk)
    · show (w1.heap.setIfInBounds r _)[r]? = _
      rw [h1r, Array.getElem?_setIfInBounds, if_pos rfl, if_pos hlt]
    · constructor
      · rintro ⟨hk, hne2⟩
        obtain ⟨j', e', v', g1, g2, g3⟩ := (q11 k).1 hk
        refine ⟨j', e', v', g1, g2, ?_⟩
        rw [Array.contains_push, g3, Bool.false_or]
        cases hbb : e'.born == e.born with
        | false => rfl
        | true =>
          exfalso
          have hb' : e'.born = e.born := by simpa using hbb
          have i1 : (es.toList.map (·.born))[j']? = some e.born := by simp [g1, hb']
          have i2 : (es.toList.map (·.born))[j]? = some e.born := by simp [hj]
          have hjj : j' = j := (List.getElem?_inj (List.getElem?_eq_some_iff.1 i1).1 q2.2).1 (i1.trans i2.symm)
          subst hjj
          rw [hmj] at g2
          injection g2 with g2
          injection g2 with g2 _
          exact hne2 g2.symm
      · rintro ⟨j', e', v', g1, g2, g3⟩
        rw [Array.contains_push, Bool.or_eq_false_iff] at g3
        refine ⟨(q11 k).2 ⟨j', e', v', g1, g2, g3.1⟩, fun e3 => ?_⟩
        subst e3
        have hjj := keyK_inj q4 g2 hmj
        subst hjj
        rw [hj] at g1
        injection g1 with g1
        subst g1
        simp at g3
    · injection hk with hk
      subst hk
      exact ⟨e, v, seen, hel, hga, hkv.1, hkv.2, rfl, rfl⟩
theorem rEntryR (hv : g a = some v) (ho : o.op = .entry x) (hx : ev ρ x = .pointer (some ⟨r, 0, none⟩)) (hwb : ∀ b, A = some b → w.heap[b]? = wb.heap[b]?) (hR : RngRIs ok K wb A w r g left cnt (some a)) : Runs P ρ o w (.tuple #[K a, v]) := by
  cases A with
  | none => obtain ⟨_, _, h⟩ := hR; cases h
  | some b =>
    obtain ⟨W, g1, g2, hW⟩ := hR
    exact rEntryK hv ho hx (hW.keep ((hwb b rfl).trans g1.symm) g2.symm)
/-! ### Delete -/
theorem BornOk.erase {es : Array MapEntry} {clk : Nat} (h : BornOk es clk) (j : Nat) (hj : j < es.size) : BornOk (es.eraseIdxIfInBounds j) clk := by
  have e : (es.eraseIdxIfInBounds j).toList = es.toList.eraseIdx j := by simp [Array.eraseIdxIfInBounds, hj]
  unfold BornOk
  rw [e]
  exact ⟨fun x hx => h.1 x (List.mem_of_mem_eraseIdx hx), (List.Sublist.map _ (List.eraseIdx_sublist ..)).nodup h.2⟩
theorem run_mapDelK (hK : KeyOk P kt ok K) (ho : o.op = .call { callee := .builtin .delete, args := #[x, y], argTypes := #[t, kt] }) (ht : P.underlying t = some (.map kt et)) (hx : ev ρ x = .map (some b)) (hy : ev ρ y = K a) (ha : ok a) (hM : MapKIs ok K w b g) :
    ∃ o', (execOp (ev ρ) o).run P w = .ok (.value (.tuple #[])) (setB w b o') ∧ MapKIs ok K (setB w b o') b (fun i => if i = a then none else g i) := by
  obtain ⟨es, clk, m, h1, hB, h2, h3, h5, h4⟩ := hM.ex
  have hlt : b < w.heap.size := hM.lt
  have hc := hK.check a ha es.isEmpty w
  rcases hK.find a ha es.toList m w h2 h5 with ⟨g1, g2⟩ | ⟨j, u, g1, g2⟩
  · refine ⟨.map es clk, ?_, _, _, m, heap_setB hlt, hB, h2, h3, h5, fun i u => ?_⟩
    · simp [execOp, ho, resolve, invoke, builtin, hx, hy, Builtin.delete_, run_underlying ht, run_getM h1, hc, g2, run_setM _ h1]
    · by_cases hia : i = a
      · rw [if_pos hia]
        constructor
        · intro hh; exact absurd hia (g1 _ hh)
        · intro hh; cases hh
      · rw [if_neg hia]; exact h4 i u
  · have hjl := (List.getElem?_eq_some_iff.1 g1).1
    have hlen := h2.len
    have hje : j < es.size := by
      have : es.size = m.length := by simpa using hlen
      omega
    refine ⟨.map (es.eraseIdxIfInBounds j) clk, ?_, _, _, m.eraseIdx j, heap_setB hlt, hB.erase j hje, ?_, ?_, fun p hp => h5 p (List.mem_of_mem_eraseIdx hp), fun i u' => ?_⟩
    · simp [execOp, ho, resolve, invoke, builtin, hx, hy, Builtin.delete_, run_underlying ht, run_getM h1, hc, g2, run_setM _ h1]
    · unfold EsK at h2 ⊢
      have : (es.eraseIdxIfInBounds j).toList = es.toList.eraseIdx j := by simp [Array.eraseIdxIfInBounds, hje]
      rw [this]
      simp only [List.eraseIdx_eq_take_drop_succ, List.map_append, List.map_take, List.map_drop, h2]
    · exact (List.Sublist.map _ (List.eraseIdx_sublist ..)).nodup h3
    · rw [List.mem_eraseIdx_iff_getElem?]
      by_cases hia : i = a
      · rw [if_pos hia]
        constructor
        · rintro ⟨k, hkj, hk'⟩
          subst hia
          exact absurd (keyK_inj h3 g1 hk') (fun e1 => hkj e1.symm)
        · intro hh; cases hh
      · rw [if_neg hia, ← h4]
        constructor
        · rintro ⟨k, _, hk'⟩; exact List.mem_of_getElem? hk'
        · intro hm
          obtain ⟨k, hk'⟩ := List.getElem?_of_mem hm
          exact ⟨k, fun e1 => by subst e1; rw [g1] at hk'; injection hk' with hk'; injection hk' with e1 _; exact hia e1.symm, hk'⟩
theorem WL_mapDelK (hK : KeyOk P kt ok K) (i : Nat) (hi : H[i]? = some (MapKE ok K b g)) (hI : Inv S w0 w H) (hw : wantedR ops ρ o = true) (hd : o.dst = none) (ho : o.op = .call { callee := .builtin .delete, args := #[x, y], argTypes := #[t, kt] }) (ht : P.underlying t = some (.map kt et)) (hx : ev ρ x = .map (some b)) (hy : ev ρ y = K a) (ha : ok a)
    (h : ∀ w', Inv S w0 w' (H.set i (MapKE ok K b (fun j => if j = a then none else g j))) → WL P N ops Q rest ρ w') : WL P N ops Q (o :: rest) ρ w := by
  have hM : MapKIs ok K w b g := (hI.ok _ (List.mem_of_getElem? hi)).1
  obtain ⟨o', h1, h2⟩ := run_mapDelK (P := P) hK ho ht hx hy ha hM
  exact WL_eff0 hw hd h1 (h _ (hI.upd i hi (chg_setB w b o') (MapKE.ok h2) (fun _ hk => .inl hk)))
/-! ### Reads of a map, or of nil -/
theorem rLookRY (hK : KeyOk P kt ok K) (hg : g a = some v) (ho : o.op = .lookup t x y true) (ht : P.underlying t = some (.map kt et)) (hx : ev ρ x = .map A) (hy : ev ρ y = K a) (ha : ok a) (hM : MapRIs ok K w A g) : Runs P ρ o w (.tuple #[v, .bool true]) := by
  cases A with
  | none => have e : g = fun _ => none := hM; rw [e] at hg; cases hg
  | some b => exact rLookKY hK hg ho ht hx hy ha hM
theorem rLookRN (hK : KeyOk P kt ok K) (hg : g a = none) (ho : o.op = .lookup t x y true) (ht : P.underlying t = some (.map kt et)) (hz : (P.info? et).bind (·.zero) = some zv) (hx : ev ρ x = .map A) (hy : ev ρ y = K a) (ha : ok a) (hM : MapRIs ok K w A g) : Runs P ρ o w (.tuple #[zv, .bool false]) := by
  cases A with
  | none =>
    have hc := hK.check a ha true w
    have hzv := zero_run hz w
    have hf : (Instr.findKey kt (K a) []).run P w = .ok none w := by
      rcases hK.find a ha [] [] w rfl (by simp) with ⟨_, h2⟩ | ⟨j, u, h1, _⟩
      · exact h2
      · simp at h1
    simp [Runs, execOp, ho, hx, hy, Instr.lookup, run_underlying ht, hc, hzv, hf]
  | some b => exact rLookKN hK hg ho ht hz hx hy ha hM
/-- How many entries. -/
def MapN (ok : κ → Prop) (K : κ → Value) (w : World) (A : Option Nat) (g : κ → Option Value) (n : Nat) : Prop := match A with
  | none => n = 0
  | some b => ∃ (es : Array MapEntry) (clk : Nat), w.heap[b]? = some (.map es clk) ∧ es.size = n
theorem rLenMap {n : Nat} (ho : o.op = .call { callee := .builtin .len, args := #[x], argTypes := #[t] }) (ht : P.underlying t = some (.map kt et)) (hx : ev ρ x = .map A) (hM : MapN ok K w A g n) : Runs P ρ o w (.int .i64 (n : Int)) := by
  cases A with
  | none =>
    have e : n = 0 := hM
    subst e
    simp [Runs, execOp, ho, resolve, invoke, builtin, hx, Builtin.len_, run_underlying ht]
    rfl
  | some b =>
    obtain ⟨es, clk, h1, h2⟩ := hM
    subst h2
    simp [Runs, execOp, ho, resolve, invoke, builtin, hx, Builtin.len_, run_underlying ht, run_getM h1]
    rfl
end
end Go.Proofs.Ytkfciehgjhgmeaa
