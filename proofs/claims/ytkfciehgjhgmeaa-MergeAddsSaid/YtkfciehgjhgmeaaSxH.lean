/- SxH: a loop over an iterator whose order is not known ahead (the values of a map). Nothing of the program. -/
import Derived.Test.YtkfciehgjhgmeaaSxG
namespace Go.Proofs.Ytkfciehgjhgmeaa
open Go
set_option linter.unusedVariables false
/-- Blocks from n on that hold cells. -/
def newC (n : Nat) (V : World) (b : Nat) : Prop := n ≤ b ∧ ∃ o, V.heap[b]? = some o ∧ cellsO o = true
/-- A round: it may change blocks of S0, and newer ones that hold cells. -/
def roundB (S0 : Nat → Prop) (n : Nat) (In : World → Prop) (Ix : Code → World → Prop) (V : World) : XPost
  | .normal, _, V' => Chg (fun b => S0 b ∨ newC n V b) V V' ∧ In V'
  | .ret, _, V' => Chg (fun b => S0 b ∨ newC n V b) V V' ∧ Ix .ret V'
  | .exit id, _, V' => Chg (fun b => S0 b ∨ newC n V b) V V' ∧ Ix (.exit id) V'
  | _, _, _ => False
/-- AN ITERATOR whose order is its own: what it has given is Ok at each time, and Full at the end. -/
def SeqBy (P : Program) (gf : Nat) (lb : Array Value) (Ok Full : List (Array Value) → Prop) (w : World) (M : Nat → Prop) : Prop :=
  ∀ (l : Nat) (S : Nat → Prop) (J : List (Array Value) → World → Prop) (Jx : World → Prop) (W : World), Pure w W → (∀ b, S b → ¬ M b ∧ b < W.heap.size) →
    (∀ k V V', J k V → Aside W.heap.size V V' → J k V') → (∀ V V', Jx V → Aside W.heap.size V V' → Jx V') →
    (∀ k args V, Ok (k ++ [args]) → J k V → Yields1 P l args V fun e V' => (e = .returned (.bool true) ∧ J (k ++ [args]) V' ∧ Chg (fun b => S b ∨ newC W.heap.size V b) V V') ∨ (e = .returned (.bool false) ∧ Jx V' ∧ Chg (fun b => S b ∨ newC W.heap.size V b) V V')) →
    J [] W → Calls P gf (#[.func (.yield l) #[] #[]] ++ lb) W fun e W' => (∃ v, e = .returned v) ∧ ((∃ ys, Full ys ∧ J ys W') ∨ Jx W')
section
variable {P : Program} {N : Nat} {ρ : Env} {w : World} {Q : Exit → Act → World → Prop} {ds : List Deferred}
theorem WX_rangeBy {g : Operand} {ps : Array Tmp} {assign body : Code} {gf : Nat} {lb : Array Value} {Ok Full : List (Array Value) → Prop} {M : Nat → Prop} {w0 : World}
    (hg : ev ρ g = .func (.func gf) #[] lb) (eg : ∀ args w, (callFunc gf args).run P w = .ok (.enter gf args) w)
    (hseq : SeqBy P gf lb Ok Full w0 M) (hw0 : Pure w0 w) (S0 : Nat → Prop) (hS0 : ∀ b, S0 b → ¬ M b ∧ b < w.heap.size) (hM : ∀ b, M b → b < w.heap.size)
    (I : List (Array Value) → World → Prop) (Ix : Code → World → Prop)
    (hI : ∀ k V V', I k V → Aside w.heap.size V V' → I k V') (hIx : ∀ c V V', Ix c V → Aside w.heap.size V V' → Ix c V') (h0 : I [] w)
    (hps : ∀ ys args, Ok (ys ++ [args]) → args.size = ps.size) (hN : ∀ p ∈ ps.toList, p < N)
    (hround : ∀ k args V, Ok (k ++ [args]) → I k V → w.heap.size + 2 ≤ V.heap.size →
      Rd.W (some (w.heap.size + 1)) [] P N assign (fun e ρ1 V1 => e = .normal ∧ V1 = V ∧ ∀ V2, I k V2 → w.heap.size + 2 ≤ V2.heap.size →
        Rd.W (some (w.heap.size + 1)) [] P N body (roundB S0 (w.heap.size + 2) (I (k ++ [args])) Ix V2) ρ1 V2) (setArgs ρ (ps.toList.zip args.toList)) V)
    (hdone : ∀ ys V, Full ys → I ys V → V.heap[w.heap.size]? = some (.deferred (some [])) → ∀ a, Fit N ρ a → Q .normal (wd (markD w.heap.size) a) V)
    (hstop : ∀ c V, Ix c V → V.heap[w.heap.size]? = some (.deferred (some [])) → WX P N c Q ρ (markD w.heap.size) V) :
    WX P N (.rangeFunc g ps assign body) Q ρ [] w := by
  intro a ha
  refine wpIn_rangeFunc ?_
  intro fn hfn
  obtain ⟨rec, hrec⟩ : ∃ rec : LoopState → Option Code → Loop, rec = fun st pe => { state := st, pending := pe, fn, tmps := a.tmps, params := ps, assign, body, defers := w.heap.size } := ⟨_, rfl⟩
  obtain ⟨W1, hW1⟩ : ∃ W1, (w.alloc (.deferred (some []))).alloc (.loop (rec .ready none)) = W1 := ⟨_, rfl⟩
  have hL1 : W1.heap[w.heap.size + 1]? = some (.loop (rec .ready none)) := by
    rw [← hW1]; have := World.alloc_heap_new (w.alloc (.deferred (some []))) (.loop (rec .ready none)); rwa [World.size_alloc] at this
  have hK1 : W1.heap[w.heap.size]? = some (.deferred (some [])) := by
    rw [← hW1]; exact ((((Pure.refl (w.alloc (.deferred (some [])))).alloc _).chg (fun _ => False)).block _ (by simp) (fun h => h)).trans (World.alloc_heap_new w _)
  have hp1 : Pure w W1 := by rw [← hW1]; exact ((Pure.refl w).alloc _).alloc _
  have hz1 : W1.heap.size = w.heap.size + 2 := by rw [← hW1]; simp
  have hmark : ({ wd [] a with defers := [{ target := .collected w.heap.size, args := #[] }] ++ (wd [] a).defers } : Act) = wd (markD w.heap.size) a := by simp [wd, ha.defers]
  refine ⟨w.heap.size + 1, [{ target := .collected w.heap.size, args := #[] }], W1, { target := .fn (.func gf) lb, args := #[.func (.yield (w.heap.size + 1)) #[] #[]] }, W1, gf,
    #[.func (.yield (w.heap.size + 1)) #[] #[]] ++ lb, W1, ?_, ?_, fun _ _ => trivial, ?_, fun h => (by cases h), ?_⟩
  · rw [← hW1, hrec]; exact run_enterLoop_outer _ _ _ _ _
  · have hg' : (wd [] a).eval g = .func (.func gf) #[] lb := by rw [wd_eval, ha.eval]; exact hg
    simp only [resolve, hg']
    simp [go_sem]
  · simp [invoke, go_sem, eg]
  · rw [hmark]
    refine callsIn_wide.2 ((hseq (w.heap.size + 1) (fun b => S0 b ∨ b = w.heap.size + 1)
      (fun k V => I k V ∧ V.heap[w.heap.size + 1]? = some (.loop (rec .ready none)) ∧ V.heap[w.heap.size]? = some (.deferred (some [])))
      (fun V => ∃ c, Ix c V ∧ V.heap[w.heap.size + 1]? = some (.loop (rec .done (some c))) ∧ V.heap[w.heap.size]? = some (.deferred (some [])))
      W1 (hw0.trans hp1) ?_ ?_ ?_ ?_ ⟨hI _ _ _ h0 (.of_pure hp1), hL1, hK1⟩).mono ?_)
    · rintro b (hb | rfl)
      · exact ⟨(hS0 b hb).1, by have := (hS0 b hb).2; omega⟩
      · exact ⟨fun h => (by have := hM _ h; omega), by omega⟩
    · rintro k V V' ⟨h1, h2, h3⟩ hp
      exact ⟨hI _ _ _ h1 (hp.mono (by omega)), (hp.old (Array.getElem?_eq_some_iff.1 h2).1 (by omega)).trans h2, (hp.old (Array.getElem?_eq_some_iff.1 h3).1 (by omega)).trans h3⟩
    · rintro V V' ⟨c, h1, h2, h3⟩ hp
      exact ⟨c, hIx _ _ _ h1 (hp.mono (by omega)), (hp.old (Array.getElem?_eq_some_iff.1 h2).1 (by omega)).trans h2, (hp.old (Array.getElem?_eq_some_iff.1 h3).1 (by omega)).trans h3⟩
    · -- ONE ROUND
      rintro k args V hx ⟨hi, hl, hk⟩
      have hlt : w.heap.size + 1 < V.heap.size := (Array.getElem?_eq_some_iff.1 hl).1
      have hsz : args.size = ps.size := hps _ args hx
      have hy := run_yield (P := P) (args := args) hl (by rw [hrec]; exact hsz)
      rw [hrec] at hy
      refine ⟨fn, _, assign, body, hy, roundIn_of_wpIn hfn ?_⟩
      have hfit : Fit N (setArgs ρ (ps.zip args).toList) { tmps := (ps.zip args).foldl (fun tmps (t, a) => tmps.setIfInBounds t a) a.tmps, defers := [] } := by
        have := fit_args (N := N) (ps.zip args).toList ρ a.tmps (fun p hp => by
          rw [Array.toList_zip] at hp
          exact hN _ (List.of_mem_zip hp).1) ⟨ha.size, ha.get, rfl⟩
        rw [Array.foldl_toList] at this
        exact this
      rw [Array.toList_zip] at hfit
      have hr := hround k args V hx hi (by omega) _ hfit
      refine wpIn_mono hr fun e a1 V1 q => ?_
      obtain ⟨a1, rfl, q⟩ := q
      cases e with
      | normal =>
        obtain ⟨ρ1, hf1, _, rfl, hb⟩ := q
        have hl2 : (V1.putObj (w.heap.size + 1) (.loop { rec .ready none with state := .busy })).heap[w.heap.size + 1]? = some (.loop { rec .ready none with state := .busy }) := World.putObj_heap_same hlt
        have hk2 : (V1.putObj (w.heap.size + 1) (.loop { rec .ready none with state := .busy })).heap[w.heap.size]? = some (.deferred (some [])) := (World.putObj_heap_other (by omega)).trans hk
        refine ⟨_, run_beginRound hl (by rw [hrec]), ?_⟩
        obtain ⟨V2, hV2⟩ : ∃ V2, V1.putObj (w.heap.size + 1) (.loop { rec .ready none with state := .busy }) = V2 := ⟨_, rfl⟩
        have hc2 : Chg (fun b => b = w.heap.size + 1) V1 V2 := by rw [← hV2]; exact chg_putObj _ _ rfl
        have hi2 : I k V2 := by rw [← hV2]; exact hI _ _ _ hi (.put _ (by omega) hl rfl)
        rw [hV2] at hl2 hk2 ⊢
        have hlt2 : w.heap.size + 1 < V2.heap.size := (Array.getElem?_eq_some_iff.1 hl2).1
        refine wpIn_mono (hb V2 hi2 (by omega) a1 hf1) fun e a3 V3 q => ?_
        obtain ⟨a3, rfl, q⟩ := q
        have fin : ∀ (jump : Option Code), Chg (fun b => S0 b ∨ newC (w.heap.size + 2) V2 b) V2 V3 →
            V3.heap[w.heap.size + 1]? = some (.loop { rec .ready none with state := .busy }) ∧
            (Instr.endRound (w.heap.size + 1) jump).run P V3 = .ok (.bool jump.isNone) (V3.putObj (w.heap.size + 1) (.loop (rec (if jump.isNone then .ready else .done) jump))) ∧
            (V3.putObj (w.heap.size + 1) (.loop (rec (if jump.isNone then .ready else .done) jump))).heap[w.heap.size + 1]? = some (.loop (rec (if jump.isNone then .ready else .done) jump)) ∧
            (V3.putObj (w.heap.size + 1) (.loop (rec (if jump.isNone then .ready else .done) jump))).heap[w.heap.size]? = some (.deferred (some [])) ∧
            Chg (fun b => (S0 b ∨ b = w.heap.size + 1) ∨ newC W1.heap.size V1 b) V1 (V3.putObj (w.heap.size + 1) (.loop (rec (if jump.isNone then .ready else .done) jump))) := fun jump hc => by
          have hl3 : V3.heap[w.heap.size + 1]? = some (.loop { rec .ready none with state := .busy }) := (hc.block _ hlt2 (fun h => by rcases h with h | h; have := (hS0 _ h).2; omega; have := h.1; omega)).trans hl2
          have hk3 : V3.heap[w.heap.size]? = some (.deferred (some [])) := (hc.block _ (by omega) (fun h => by rcases h with h | h; have := (hS0 _ h).2; omega; have := h.1; omega)).trans hk2
          have := run_endRound (P := P) jump hl3
          refine ⟨hl3, ?_, World.putObj_heap_same (Array.getElem?_eq_some_iff.1 hl3).1, (World.putObj_heap_other (by omega)).trans hk3, ?_⟩
          · rw [hrec] at this ⊢
            exact this
          · refine (Chg.trans' (hc2.mono fun _ _ h => .inl (.inr h)) hc fun b hb h => ?_).trans (chg_putObj _ _ (.inl (.inr rfl)))
            rcases h with h | ⟨h1, o, h2, h3⟩
            · exact .inl (.inl h)
            · rw [← hV2, World.putObj_heap_other (by omega)] at h2
              exact .inr ⟨by omega, o, h2, h3⟩
        cases e with
        | normal =>
          obtain ⟨ρ3, _, hc3, hi3⟩ := q
          obtain ⟨h0, h1, h2, h3, h4⟩ := fin none hc3
          exact ⟨_, _, h1, .inl ⟨rfl, ⟨hI _ _ _ hi3 (.put _ (by omega) h0 rfl), h2, h3⟩, h4⟩⟩
        | ret =>
          obtain ⟨ρ3, _, hc3, hi3⟩ := q
          obtain ⟨h0, h1, h2, h3, h4⟩ := fin (some .ret) hc3
          exact ⟨_, _, h1, .inr ⟨rfl, ⟨.ret, hIx _ _ _ hi3 (.put _ (by omega) h0 rfl), h2, h3⟩, h4⟩⟩
        | exit id =>
          obtain ⟨ρ3, _, hc3, hi3⟩ := q
          obtain ⟨h0, h1, h2, h3, h4⟩ := fin (some (.exit id)) hc3
          exact ⟨_, _, h1, .inr ⟨rfl, ⟨.exit id, hIx _ _ _ hi3 (.put _ (by omega) h0 rfl), h2, h3⟩, h4⟩⟩
        | goto l => obtain ⟨ρ3, _, h⟩ := q; exact h.elim
        | panic c => exact q.elim
        | outgrown => exact q.elim
      | exit i => obtain ⟨ρ1, _, h, _⟩ := q; cases h
      | goto l => obtain ⟨ρ1, _, h, _⟩ := q; cases h
      | ret => obtain ⟨ρ1, _, h, _⟩ := q; cases h
      | panic c => exact q.elim
      | outgrown => exact q.elim
    · rintro e W3 ⟨⟨v, rfl⟩, ⟨ys, hfull, hJ⟩ | hJ⟩
      · obtain ⟨hi, hl, hk⟩ := hJ
        refine ⟨_, _, run_endLoop hl (by rw [hrec]; simp), ?_⟩
        rw [hrec]
        exact hdone ys _ hfull (hI _ _ _ hi (.put _ (by omega) hl rfl)) ((World.putObj_heap_other (by omega)).trans hk) a ha
      · obtain ⟨c, hi, hl, hk⟩ := hJ
        refine ⟨_, _, run_endLoop hl (by rw [hrec]; simp), ?_⟩
        rw [hrec]
        exact hstop c _ (hIx _ _ _ hi (.put _ (by omega) hl rfl)) ((World.putObj_heap_other (by omega)).trans hk) a ha
end
namespace Rd
section
variable {ro : Option Nat} {ds : List Deferred} {P : Program} {N : Nat} {Q : XPost} {ρ : Env} {w : World}
/-- A loop whose measure is told by the invariant. -/
theorem W_loopN {c : Code} (I : Nat → Env → World → Prop) (n0 : Nat) (h0 : I n0 ρ w)
    (h : ∀ n ρ w, I n ρ w → Rd.W ro ds P N c (thenQ (fun ρ' w' => ∃ m, m < n ∧ I m ρ' w') Q) ρ w) : Rd.W ro ds P N (.loop c) Q ρ w := by
  classical
  let μ : Env → World → Nat := fun ρ w => if hx : ∃ n, I n ρ w then Classical.choose (min_ex hx) else 0
  have hμ : ∀ ρ w, (∃ n, I n ρ w) → I (μ ρ w) ρ w ∧ ∀ m, I m ρ w → μ ρ w ≤ m := fun ρ w hx => by
    have hs := Classical.choose_spec (min_ex hx)
    have he : μ ρ w = Classical.choose (min_ex hx) := dif_pos hx
    rw [he]
    refine ⟨hs.1, fun m hm => ?_⟩
    rcases Nat.lt_or_ge m (Classical.choose (min_ex hx)) with h1 | h1
    · exact absurd hm (hs.2 m h1)
    · exact h1
  refine Rd.W_loop (fun ρ w => ∃ n, I n ρ w) μ ⟨n0, h0⟩ fun ρ w hI => ?_
  refine Rd.W_mono (h _ ρ w (hμ ρ w hI).1) fun e ρ' w' q => ?_
  cases e <;> first | exact q | (obtain ⟨m, h1, h2⟩ := q; exact ⟨⟨m, h2⟩, Nat.lt_of_le_of_lt ((hμ ρ' w' ⟨m, h2⟩).2 m h2) h1⟩)
end
end Rd
end Go.Proofs.Ytkfciehgjhgmeaa
