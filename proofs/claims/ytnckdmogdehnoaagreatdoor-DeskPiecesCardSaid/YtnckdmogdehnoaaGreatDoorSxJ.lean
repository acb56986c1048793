/- Part of the proof that a desk answers in pieces. -/
import Derived.Test.YtnckdmogdehnoaaGreatDoorPSxI
set_option linter.unusedVariables false
namespace Go.Proofs.YtnckdmogdehnoaaGreatDoor
open Go
def SeqRelX (P : Program) (gf : Nat) (lb : Array Value) (n : Nat) (A : Nat → Array Value → World → Prop) (w : World) (M : Nat → Prop) : Prop :=
 ∀ (l : Nat) (X0 : Nat → Prop) (J : Nat → (Nat → Prop) → World → Prop) (Jx : (Nat → Prop) → World → Prop) (W : World), Pure w W → (∀ b, X0 b → ¬ M b ∧ b < W.heap.size) →
  (∀ k X V V', J k X V → Chg (notX W.heap.size X) V V' → J k X V') → (∀ X V V', Jx X V → Chg (notX W.heap.size X) V V' → Jx X V') →
  (∀ k X args V, k < n → A k args V → J k X V → W.heap.size ≤ V.heap.size → Yields1 P l args V fun e V' => ((e = .returned (.bool true) ∧ J (k + 1) (ownX X V V') V') ∨ (e = .returned (.bool false) ∧ Jx (ownX X V V') V')) ∧ Chg X V V') →
  J 0 X0 W → Calls P gf (#[.func (.yield l) #[] #[]] ++ lb) W fun e W' => (∃ v, e = .returned v) ∧ ((∃ X, J n X W') ∨ ∃ X, Jx X W')
def roundXr (X : Nat → Prop) (In Ix : (Nat → Prop) → World → Prop) (V : World) : XPost
 | .normal, _, V' => Chg X V V' ∧ In (ownX X V V') V'
 | .ret, _, V' => Chg X V V' ∧ Ix (ownX X V V') V'
 | _, _, _ => False
section
variable {P : Program} {N : Nat} {ρ : Env} {w : World} {Q : Exit → Act → World → Prop} {ds : List Deferred}
theorem WX_rangeRelX {g : Operand} {ps : Array Tmp} {assign body : Code} {gf : Nat} {lb : Array Value} {n : Nat} {A : Nat → Array Value → World → Prop} {M : Nat → Prop} {w0 : World}
  (hg : ev ρ g = .func (.func gf) #[] lb) (eg : ∀ args w, (callFunc gf args).run P w = .ok (.enter gf args) w)
  (hseq : SeqRelX P gf lb n A w0 M) (hw0 : Pure w0 w) (S0 : Nat → Prop) (hS0 : ∀ b, S0 b → ¬ M b ∧ b < w.heap.size) (hM : ∀ b, M b → b < w.heap.size)
  (hA : ∀ k args V V', A k args V → (∀ p v, V.cell? p = some v → V'.cell? p = some v) → A k args V')
  (I : Nat → (Nat → Prop) → World → Prop)
  (Ix : (Nat → Prop) → World → Prop) (hI : ∀ k X V V', I k X V → Chg (notX w.heap.size X) V V' → I k X V') (hIx : ∀ X V V', Ix X V → Chg (notX w.heap.size X) V V' → Ix X V') (h0 : I 0 S0 w)
  (hps : ∀ k args V, A k args V → args.size = ps.size) (hN : ∀ p ∈ ps.toList, p < N)
  (hround : ∀ k X args V, k < n → A k args V → I k X V → w.heap.size + 2 ≤ V.heap.size →
   Rd.W (some (w.heap.size + 1)) [] P N assign (fun e ρ1 V1 => e = .normal ∧ V1 = V ∧ ∀ V2, A k args V2 → I k X V2 → w.heap.size + 2 ≤ V2.heap.size →
    Rd.W (some (w.heap.size + 1)) [] P N body (roundXr X (I (k + 1)) Ix V2) ρ1 V2) (setArgs ρ (ps.toList.zip args.toList)) V)
  (hdone : ∀ X V, I n X V → V.heap[w.heap.size]? = some (.deferred (some [])) → ∀ a, Fit N ρ a → Q .normal (wd (markD w.heap.size) a) V)
  (hstop : ∀ X V, Ix X V → V.heap[w.heap.size]? = some (.deferred (some [])) → WX P N .ret Q ρ (markD w.heap.size) V) :
  WX P N (.rangeFunc g ps assign body) Q ρ [] w := by
 intro a ha
 refine wpIn_rangeFunc ?_
 intro fn hfn
 obtain ⟨rec, hrec⟩ : ∃ rec : LoopState → Option Code → Loop, rec = fun st pe => { state := st, pending := pe, fn, tmps := a.tmps, params := ps, assign, body, defers := w.heap.size } := ⟨_, rfl⟩
 obtain ⟨W1, hW1⟩ : ∃ W1, (w.alloc (.deferred (some []))).alloc (.loop (rec .ready none)) = W1 := ⟨_, rfl⟩
 have hL1 : W1.heap[w.heap.size + 1]? = some (.loop (rec .ready none)) := by
  rw [← hW1]; have := World.alloc_heap_new (w.alloc (.deferred (some []))) (.loop (rec .ready none)); rwa [World.size_alloc] at this
 have hK1 : W1.heap[w.heap.size]? = some (.deferred (some [])) := by
  rw [← hW1]; exact ((((Pure.refl (w.alloc (.deferred (some [])))).alloc _).chg NF).block _ (by simp) (fun h => h)).trans (World.alloc_heap_new w _)
 have hp1 : Pure w W1 := by rw [← hW1]; exact ((Pure.refl w).alloc _).alloc _
 have hz1 : W1.heap.size = w.heap.size + 2 := by rw [← hW1]; simp
 have hmark : ({ wd [] a with defers := [{ target := .collected w.heap.size, args := #[] }] ++ (wd [] a).defers } : Act) = wd (markD w.heap.size) a := by simp [wd, ha.defers]
 refine ⟨w.heap.size + 1, [{ target := .collected w.heap.size, args := #[] }], W1, { target := .fn (.func gf) lb, args := #[.func (.yield (w.heap.size + 1)) #[] #[]] }, W1, gf,
  #[.func (.yield (w.heap.size + 1)) #[] #[]] ++ lb, W1, ?_, ?_, fun _ _ => trivial, ?_, fun h => (by cases h), ?_⟩
 ·rw [← hW1, hrec]; exact run_enterLoop_outer _ _ _ _ _
 ·have hg' : (wd [] a).eval g = .func (.func gf) #[] lb := by rw [wd_eval, ha.eval]; exact hg
  simp only [resolve, hg']
  simp [go_sem]
 ·simp [invoke, go_sem, eg]
 rw [hmark]
 refine callsIn_wide.2 ((hseq (w.heap.size + 1) (fun b => S0 b ∨ b = w.heap.size ∨ b = w.heap.size + 1)
  (fun k X V => ∃ Xi, (∀ b, X b ↔ Xi b ∨ b = w.heap.size ∨ b = w.heap.size + 1) ∧ (∀ b, Xi b → b ≠ w.heap.size ∧ b ≠ w.heap.size + 1) ∧ I k Xi V ∧ V.heap[w.heap.size + 1]? = some (.loop (rec .ready none)) ∧ V.heap[w.heap.size]? = some (.deferred (some [])))
  (fun X V => ∃ Xi, (∀ b, X b ↔ Xi b ∨ b = w.heap.size ∨ b = w.heap.size + 1) ∧ (∀ b, Xi b → b ≠ w.heap.size ∧ b ≠ w.heap.size + 1) ∧ Ix Xi V ∧ V.heap[w.heap.size + 1]? = some (.loop (rec .done (some .ret))) ∧ V.heap[w.heap.size]? = some (.deferred (some [])))
  W1 (hw0.trans hp1) ?_ ?_ ?_ ?_ ⟨S0, fun _ => Iff.rfl, fun b hb => by have := (hS0 b hb).2; omega, hI _ _ _ _ h0 (hp1.chg _), hL1, hK1⟩).mono ?_)
 ·rintro b (hb | rfl | rfl)
  ·exact ⟨(hS0 b hb).1, by have := (hS0 b hb).2; omega⟩
  ·exact ⟨fun h => (by have := hM _ h; omega), by omega⟩
  exact ⟨fun h => (by have := hM _ h; omega), by omega⟩
 ·rintro k X V V' ⟨Xi, hX, hXi, h1, h2, h3⟩ hp
  refine ⟨Xi, hX, hXi, hI _ _ _ _ h1 (hp.mono fun b _ hb => ⟨by have := hb.1; omega, fun h => hb.2 ((hX b).2 (.inl h))⟩), ?_, ?_⟩
  ·exact (hp.block _ (Array.getElem?_eq_some_iff.1 h2).1 (fun h => h.2 ((hX _).2 (.inr (.inr Z))))).trans h2
  exact (hp.block _ (Array.getElem?_eq_some_iff.1 h3).1 (fun h => h.2 ((hX _).2 (.inr (.inl Z))))).trans h3
 ·rintro X V V' ⟨Xi, hX, hXi, h1, h2, h3⟩ hp
  refine ⟨Xi, hX, hXi, hIx _ _ _ h1 (hp.mono fun b _ hb => ⟨by have := hb.1; omega, fun h => hb.2 ((hX b).2 (.inl h))⟩), ?_, ?_⟩
  ·exact (hp.block _ (Array.getElem?_eq_some_iff.1 h2).1 (fun h => h.2 ((hX _).2 (.inr (.inr Z))))).trans h2
  exact (hp.block _ (Array.getElem?_eq_some_iff.1 h3).1 (fun h => h.2 ((hX _).2 (.inr (.inl Z))))).trans h3
 ·-- ONE ROUND
  rintro k X args V hkn hx ⟨Xi, hX, hXi, hi, hl, hk⟩ hsV
  have hlt : w.heap.size + 1 < V.heap.size := (Array.getElem?_eq_some_iff.1 hl).1
  have hsz : args.size = ps.size := hps _ args _ hx
  have hy := run_yield (P := P) (args := args) hl (by rw [hrec]; exact hsz)
  rw [hrec] at hy
  refine ⟨fn, _, assign, body, hy, roundIn_of_wpIn hfn ?_⟩
  have hfit : Fit N (setArgs ρ (ps.zip args).toList) { tmps := (ps.zip args).foldl (fun tmps (t, a) => tmps.setIfInBounds t a) a.tmps, defers := [] } := by
   have := fit_args (N := N) (ps.zip args).toList ρ a.tmps (fun p hp => by
    rw [Array.toList_zip] at hp
    exact hN _ (List.of_mem_zip hp).1) ⟨ha.size, ha.get, Z⟩
   rw [Array.foldl_toList] at this
   exact this
  rw [Array.toList_zip] at hfit
  have hr := hround k Xi args V hkn hx hi (by omega) _ hfit
  refine wpIn_mono hr fun e a1 V1 q => ?_
  obtain ⟨a1, rfl, q⟩ := q
  cases e with
  | normal =>
   obtain ⟨ρ1, hf1, _, rfl, hb⟩ := q
   have hl2 : (V1.putObj (w.heap.size + 1) (.loop { rec .ready none with state := .busy })).heap[w.heap.size + 1]? = some (.loop { rec .ready none with state := .busy }) := World.putObj_heap_same hlt
   have hk2 : (V1.putObj (w.heap.size + 1) (.loop { rec .ready none with state := .busy })).heap[w.heap.size]? = some (.deferred (some [])) := (World.putObj_heap_other (by omega)).trans hk
   refine ⟨_, run_beginRound hl (by rw [hrec]), ?_⟩
   obtain ⟨V2, hV2⟩ : ∃ V2, V1.putObj (w.heap.size + 1) (.loop { rec .ready none with state := .busy }) = V2 := ⟨_, rfl⟩
   have hz2 : V2.heap.size = V1.heap.size := by rw [← hV2, World.putObj_size]
   have hc2 : Chg (fun b => b = w.heap.size + 1) V1 V2 := by rw [← hV2]; exact chg_putObj _ _ rfl
   have hi2 : I k Xi V2 := hI _ _ _ _ hi (hc2.mono fun b _ h => by subst h; exact ⟨by omega, fun h => (hXi _ h).2 rfl⟩)
   have ha2 : A k args V2 := hA _ _ _ _ hx fun p v hv => by
    have hb := hc2.block p.block (World.block_lt_of_cell? _ p hv) (fun h => by
     unfold World.cell? at hv
     rw [h, hl] at hv
     cases hv)
    unfold World.cell? at *
    rw [hb]; exact hv
   rw [hV2] at hl2 hk2 ⊢
   have hlt2 : w.heap.size + 1 < V2.heap.size := (Array.getElem?_eq_some_iff.1 hl2).1
   refine wpIn_mono (hb V2 ha2 hi2 (by omega) a1 hf1) fun e a3 V3 q => ?_
   obtain ⟨a3, rfl, q⟩ := q
   cases e with
   | normal =>
    obtain ⟨ρ3, _, hc, hi3⟩ := q
    have hl3 : V3.heap[w.heap.size + 1]? = some (.loop { rec .ready none with state := .busy }) := (hc.block _ hlt2 (fun h => (hXi _ h).2 rfl)).trans hl2
    have hk3 : V3.heap[w.heap.size]? = some (.deferred (some [])) := (hc.block _ (by omega) (fun h => (hXi _ h).1 rfl)).trans hk2
    have h1 := run_endRound (P := P) none hl3
    have h2 : (V3.putObj (w.heap.size + 1) (.loop (rec .ready none))).heap[w.heap.size + 1]? = some (.loop (rec .ready none)) := World.putObj_heap_same (Array.getElem?_eq_some_iff.1 hl3).1
    have h3 : (V3.putObj (w.heap.size + 1) (.loop (rec .ready none))).heap[w.heap.size]? = some (.deferred (some [])) := (World.putObj_heap_other (by omega)).trans hk3
    have hz4 : (V3.putObj (w.heap.size + 1) (.loop (rec .ready none))).heap.size = V3.heap.size := by rw [World.putObj_size]
    have hn : ∀ b, ownX Xi V2 V3 b → b ≠ w.heap.size ∧ b ≠ w.heap.size + 1 := fun b hb => by
     rcases hb with hb | hb
     ·exact hXi _ hb
     omega
    have h1' : (Instr.endRound (w.heap.size + 1) none).run P V3 = .ok (.bool true) (V3.putObj (w.heap.size + 1) (.loop (rec .ready none))) := by rw [hrec] at h1 ⊢; exact h1
    refine ⟨_, _, h1', .inl ⟨Z, ⟨ownX Xi V2 V3, fun b => ?_, hn, hI _ _ _ _ hi3 (chg_putObj _ _ ⟨by omega, fun h => (hn _ h).2 Z⟩), ?_, ?_⟩⟩, ?_⟩
    ·show ownX X V1 _ b ↔ _
     unfold ownX
     rw [World.putObj_size, hX, hz2]
     constructor
     ·rintro ((h | h) | h)
      ·exact .inl (.inl h)
      ·exact .inr h
      exact .inl (.inr h)
     rintro ((h | h) | h)
     ·exact .inl (.inl h)
     ·exact .inr h
     exact .inl (.inr h)
    ·rw [hrec] at h2 ⊢; exact h2
    ·rw [hrec] at h3 ⊢; exact h3
    have c1 : Chg X V1 V2 := hc2.mono fun b _ h => (hX b).2 (.inr (.inr h))
    have c2 : Chg X V2 V3 := hc.mono fun b _ h => (hX b).2 (.inl h)
    exact (c1.trans c2).trans (chg_putObj _ _ ((hX _).2 (.inr (.inr Z))))
   | ret =>
    obtain ⟨ρ3, _, hc, hi3⟩ := q
    have hl3 : V3.heap[w.heap.size + 1]? = some (.loop { rec .ready none with state := .busy }) := (hc.block _ hlt2 (fun h => (hXi _ h).2 rfl)).trans hl2
    have hk3 : V3.heap[w.heap.size]? = some (.deferred (some [])) := (hc.block _ (by omega) (fun h => (hXi _ h).1 rfl)).trans hk2
    have h1 := run_endRound (P := P) (some .ret) hl3
    have h2 : (V3.putObj (w.heap.size + 1) (.loop (rec .done (some .ret)))).heap[w.heap.size + 1]? = some (.loop (rec .done (some .ret))) := World.putObj_heap_same (Array.getElem?_eq_some_iff.1 hl3).1
    have h3 : (V3.putObj (w.heap.size + 1) (.loop (rec .done (some .ret)))).heap[w.heap.size]? = some (.deferred (some [])) := (World.putObj_heap_other (by omega)).trans hk3
    have hz4 : (V3.putObj (w.heap.size + 1) (.loop (rec .done (some .ret)))).heap.size = V3.heap.size := by rw [World.putObj_size]
    have hn : ∀ b, ownX Xi V2 V3 b → b ≠ w.heap.size ∧ b ≠ w.heap.size + 1 := fun b hb => by
     rcases hb with hb | hb
     ·exact hXi _ hb
     omega
    have h1' : (Instr.endRound (w.heap.size + 1) (some .ret)).run P V3 = .ok (.bool false) (V3.putObj (w.heap.size + 1) (.loop (rec .done (some .ret)))) := by rw [hrec] at h1 ⊢; exact h1
    refine ⟨_, _, h1', .inr ⟨Z, ⟨ownX Xi V2 V3, fun b => ?_, hn, hIx _ _ _ hi3 (chg_putObj _ _ ⟨by omega, fun h => (hn _ h).2 Z⟩), ?_, ?_⟩⟩, ?_⟩
    ·show ownX X V1 _ b ↔ _
     unfold ownX
     rw [World.putObj_size, hX, hz2]
     constructor
     ·rintro ((h | h) | h)
      ·exact .inl (.inl h)
      ·exact .inr h
      exact .inl (.inr h)
     rintro ((h | h) | h)
     ·exact .inl (.inl h)
     ·exact .inr h
     exact .inl (.inr h)
    ·rw [hrec] at h2 ⊢; exact h2
    ·rw [hrec] at h3 ⊢; exact h3
    have c1 : Chg X V1 V2 := hc2.mono fun b _ h => (hX b).2 (.inr (.inr h))
    have c2 : Chg X V2 V3 := hc.mono fun b _ h => (hX b).2 (.inl h)
    exact (c1.trans c2).trans (chg_putObj _ _ ((hX _).2 (.inr (.inr Z))))
   | exit i => obtain ⟨ρ3, _, h⟩ := q; exact h.elim
   | goto l => obtain ⟨ρ3, _, h⟩ := q; exact h.elim
   | panic c => exact False.elim q.2
   | outgrown => exact q.elim
  | exit i => obtain ⟨ρ1, _, h, _⟩ := q; cases h
  | goto l => obtain ⟨ρ1, _, h, _⟩ := q; cases h
  | ret => obtain ⟨ρ1, _, h, _⟩ := q; cases h
  | panic c => obtain ⟨_, h, _⟩ := q; cases h
  | outgrown => exact q.elim
 rintro e W3 ⟨⟨v, rfl⟩, ⟨X, Xi, hX, hXi, hi, hl, hk⟩ | ⟨X, Xi, hX, hXi, hi, hl, hk⟩⟩
 ·refine ⟨_, _, run_endLoop hl (by rw [hrec]; simp), ?_⟩
  rw [hrec]
  exact hdone _ _ (hI _ _ _ _ hi (chg_putObj _ _ ⟨by omega, fun h => (hXi _ h).2 Z⟩)) ((World.putObj_heap_other (by omega)).trans hk) a ha
 refine ⟨_, _, run_endLoop hl (by rw [hrec]; simp), ?_⟩
 rw [hrec]
 exact hstop _ _ (hIx _ _ _ hi (chg_putObj _ _ ⟨by omega, fun h => (hXi _ h).2 Z⟩)) ((World.putObj_heap_other (by omega)).trans hk) a ha
end
end Go.Proofs.YtnckdmogdehnoaaGreatDoor
