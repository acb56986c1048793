/- SxG: a loop over an iterator: what the iterator promises, what the body owes. Nothing of the program. -/
import Derived.Test.YtgppljdfhhgkiaaGreatDoorSxF
namespace Go.Proofs.YtgppljdfhhgkiaaGreatDoor
open Go
set_option linter.unusedVariables false

def setArgs (ρ : Env) (l : List (Tmp × Value)) : Env := l.foldl (fun ρ p => upd ρ p.1 p.2) ρ
theorem fit_args {N : Nat} : ∀ (l : List (Tmp × Value)) (ρ : Env) (t : Array Value), (∀ p ∈ l, p.1 < N) → Fit N ρ { tmps := t, defers := [] } →
    Fit N (setArgs ρ l) { tmps := l.foldl (fun t (p : Tmp × Value) => t.setIfInBounds p.1 p.2) t, defers := [] }
  | [], _, _, _, h => h
  | p :: l, ρ, t, hl, h => fit_args l (upd ρ p.1 p.2) _ (fun q hq => hl q (List.mem_cons_of_mem _ hq)) (h.put (hl p (List.mem_cons_self ..)) p.2)
theorem chg_putObj {S : Nat → Prop} (V : World) {l : Nat} (o : Obj) (h : S l) : Chg S V (V.putObj l o) :=
  ⟨rfl, rfl, rfl, by rw [World.putObj_size]; exact Nat.le_refl _, fun k _ hk => World.putObj_heap_other (fun e => hk (e ▸ h))⟩
def cellsO : Obj → Bool
  | .cells .. => true
  | _ => false
/-- What an iterator does beside its calls of yield: new blocks; blocks from n on that hold no cells may turn. -/
def Aside (n : Nat) (V V' : World) : Prop := Chg (fun b => n ≤ b ∧ ∃ o, V.heap[b]? = some o ∧ cellsO o = false) V V'
theorem Aside.of_pure {n : Nat} {V V' : World} (h : Pure V V') : Aside n V V' := h.chg _
theorem Aside.mono {n m : Nat} {V V' : World} (h : Aside n V V') (hm : m ≤ n) : Aside m V V' := Chg.mono h fun _ _ hb => ⟨Nat.le_trans hm hb.1, hb.2⟩
theorem Aside.put {n l : Nat} {V : World} {o : Obj} (o' : Obj) (hl : n ≤ l) (h : V.heap[l]? = some o) (hc : cellsO o = false) : Aside n V (V.putObj l o') := chg_putObj V o' ⟨hl, o, h, hc⟩
theorem Aside.blk {n g : Nat} {t : TypeId} {cs : Array Value} {V V' : World} (h : Aside n V V') (hb : Blk V g t cs) : Blk V' g t cs :=
  Blk.chg hb h fun ⟨_, o, ho, hc⟩ => by rw [show V.heap[g]? = _ from hb] at ho; cases ho; cases hc
theorem Aside.old {n b : Nat} {V V' : World} (h : Aside n V V') (hb : b < V.heap.size) (hn : b < n) : V'.heap[b]? = V.heap[b]? := h.block b hb fun h => by have := h.1; omega
theorem Aside.cell {n : Nat} {V V' : World} {p : Addr} {v : Value} (h : Aside n V V') (hv : V.cell? p = some v) : V'.cell? p = some v := by
  have hb := h.block p.block (World.block_lt_of_cell? V p hv) (fun ⟨_, o, ho, hc⟩ => by
    unfold World.cell? at hv
    rw [ho] at hv
    cases o <;> simp_all [cellsO])
  unfold World.cell? at *
  rw [hb]; exact hv
theorem Aside.chg {S : Nat → Prop} {n : Nat} {A V V' : World} (h : Chg S A V) (k : Aside n V V') (hS : ∀ b, n ≤ b → b < A.heap.size → S b) : Chg S A V' :=
  h.trans' k fun b hb ⟨h1, _⟩ => hS b h1 hb
/-- AN ITERATOR: it calls yield with each of xs, in their order, until yield says no; it reads blocks of M, and blocks of its own; M is what a round must leave. -/
def SeqAt (P : Program) (gf : Nat) (lb : Array Value) (xs : List (Array Value)) (w : World) (M : Nat → Prop) : Prop :=
  ∀ (l : Nat) (S : Nat → Prop) (J : Nat → World → Prop) (Jx : World → Prop) (W : World), Pure w W → (∀ b, S b → ¬ M b ∧ b < W.heap.size) →
    (∀ k V V', J k V → Aside W.heap.size V V' → J k V') → (∀ V V', Jx V → Aside W.heap.size V V' → Jx V') →
    (∀ k args V, xs[k]? = some args → J k V → Yields1 P l args V fun e V' => (e = .returned (.bool true) ∧ J (k + 1) V' ∧ Chg S V V') ∨ (e = .returned (.bool false) ∧ Jx V' ∧ Chg S V V')) →
    J 0 W → Calls P gf (#[.func (.yield l) #[] #[]] ++ lb) W fun e W' => (∃ v, e = .returned v) ∧ (J xs.length W' ∨ Jx W')
theorem Yields1.mono {P : Program} {l : Nat} {args : Array Value} {W : World} {R R' : Ending → World → Prop} (h : Yields1 P l args W R) (hr : ∀ e w, R e w → R' e w) : Yields1 P l args W R' := by
  obtain ⟨fn, t, a, b, h1, h2⟩ := h
  exact ⟨fn, t, a, b, h1, h2.mono hr⟩
/-- The rest of a function's body, with ds to be done at its end. -/
def WX (P : Program) (N : Nat) (c : Code) (Q : Exit → Act → World → Prop) (ρ : Env) (ds : List Deferred) (w : World) : Prop := ∀ a, Fit N ρ a → c.wpIn Fence.wide 0 P Q (wd ds a) w
def roundQ (S0 : Nat → Prop) (In : World → Prop) (Ix : Code → World → Prop) (V : World) : XPost
  | .normal, _, V' => Chg S0 V V' ∧ In V'
  | .ret, _, V' => Chg S0 V V' ∧ Ix .ret V'
  | .exit id, _, V' => Chg S0 V V' ∧ Ix (.exit id) V'
  | _, _, _ => False
abbrev markD (D : Nat) : List Deferred := [{ target := .collected D, args := #[] }]
section
variable {P : Program} {N : Nat} {ρ : Env} {w : World} {Q : Exit → Act → World → Prop} {ds : List Deferred}
theorem wd_nil {a : Act} (h : a.defers = []) (ds : List Deferred) : wd ds a = { a with defers := ds } := by simp [wd, h]
theorem WX_seq {x y : Code} (h : WX P N x (Exit.then (fun a w => y.wpIn Fence.wide 0 P Q a w) Q) ρ ds w) : WX P N (.seq x y) Q ρ ds w := fun a ha => wpIn_seq (h a ha)
theorem WX_block {id : Nat} {c : Code} (h : WX P N c (Exit.inBlock id Q) ρ ds w) : WX P N (.block id c) Q ρ ds w := fun a ha => wpIn_block (h a ha)
theorem WX_W {c : Code} {Q' : XPost} (h : W P N c Q' ρ w) (hQ : ∀ e ρ' a w', Fit N ρ' a → Q' e ρ' w' → Q e a w') : WX P N c Q ρ [] w := fun a ha => by
  have h1 : c.wp P (LiftQ N Q') a w := by unfold W at h; exact h a ha
  rw [wd_nil ha.defers, show ({ a with defers := [] } : Act) = a from by cases a; have := ha.defers; simp_all]
  refine wpIn_mono (wpIn_wide.2 h1) fun e a w q => ?_
  cases e <;> first | exact q.elim | (obtain ⟨ρ', h2, h3⟩ := q; exact hQ _ _ _ _ h2 h3)
theorem WX_seqW {x y : Code} (h : W P N x (thenQ (fun ρ w => WX P N y Q ρ [] w) (fun e ρ w => ∀ a, Fit N ρ a → Q e a w)) ρ w) : WX P N (.seq x y) Q ρ [] w :=
  WX_seq (WX_W h fun e ρ' a w' ha q => by
    cases e with
    | normal =>
      have := q a ha
      rw [wd_nil ha.defers, show ({ a with defers := [] } : Act) = a from by cases a; have := ha.defers; simp_all] at this
      exact this
    | exit i => exact q a ha
    | goto i => exact q a ha
    | ret => exact q a ha
    | panic c => exact q a ha
    | outgrown => exact q a ha)
theorem WX_R {c : Code} {Q' : XPost} (h : Rd.W none ds P N c Q' ρ w) (hQ : ∀ e ρ' a w', Fit N ρ' a → Q' e ρ' w' → Q e (wd ds a) w') : WX P N c Q ρ ds w := fun a ha =>
  wpIn_mono (h a ha) fun e a w q => by
    obtain ⟨a0, rfl, q⟩ := q
    cases e <;> first | exact q.elim | (obtain ⟨ρ', h2, h3⟩ := q; exact hQ _ _ _ _ h2 h3)
theorem calls_of_WX {f : FuncId} {fn : Func} {c : Code} {args : Array Value} {R : Ending → World → Prop} (hf : P.funcs[f]? = some fn) (hb : fn.body = some c) (hn : fn.ntmps = N) (hN : Nat.ble args.size N = true)
    (h : WX P N c (bodyPostM Fence.wide 0 P fn R) (entry args) [] w) : Calls P f args w R := by
  subst hn
  refine callsIn_wide.1 (callsIn_of_wp_marks (F := Fence.wide) (n := 0) hf hb trivial ?_)
  refine h { tmps := args ++ Array.replicate (fn.ntmps - args.size) undef, defers := [] } ⟨?_, fun i => ?_, rfl⟩
  · have := Nat.le_of_ble_eq_true hN
    simp; omega
  · unfold entry
    rw [Array.getD_eq_getD_getElem?, Array.getElem?_append, Array.getD_eq_getD_getElem?]
    split
    · rfl
    · rename_i hlt
      rw [Array.getElem?_eq_none (xs := args) (by omega), Array.getElem?_replicate]
      split <;> rfl
/-- A function that calls yield. -/
theorem Rd.calls_of_W {f : FuncId} {fn : Func} {c : Code} {args : Array Value} {R : Ending → World → Prop} (hf : P.funcs[f]? = some fn) (hb : fn.body = some c) (hn : fn.ntmps = N) (hN : Nat.ble args.size N = true)
    (h : Rd.W none [] P N c (retQ P fn R) (entry args) w) : Calls P f args w R := by
  subst hn
  refine calls_of_WX hf hb rfl hN (WX_R h fun e ρ' a w' ha q => ?_)
  unfold retQ at q
  have hd : wd [] a = a := by cases a; have := ha.defers; simp_all [wd]
  have key : (e = .normal ∨ e = .ret) → bodyPostM Fence.wide 0 P fn R e a w' := fun he => by
    have h1 : LeavesInM Fence.wide 0 P fn a.tmps R [] .returning w' := by
      obtain ⟨v, h1, h2⟩ : ∃ v, (results fn a.tmps).run P w' = .ok v w' ∧ R (.returned v) w' := by rcases he with rfl | rfl <;> exact q a ha
      exact ⟨_, h1, h2⟩
    rcases he with rfl | rfl
    · show LeavesInM Fence.wide 0 P fn a.tmps R a.defers .returning w'
      rw [ha.defers]; exact h1
    · show LeavesInM Fence.wide 0 P fn a.tmps R a.defers .returning w'
      rw [ha.defers]; exact h1
  rw [hd]
  cases e with
  | normal => exact key (.inl rfl)
  | ret => exact key (.inr rfl)
  | exit i => exact q.elim
  | goto i => exact q.elim
  | panic c => exact q.elim
  | outgrown => exact q.elim
/-- At the end, with the mark. -/
theorem leaves_mark {fn : Func} {R : Ending → World → Prop} {e : Exit} {a : Act} {D : Nat} (he : e = .normal ∨ e = .ret) (ha : a.defers = []) (hD : w.heap[D]? = some (.deferred (some [])))
    (h : ∃ v, (results fn a.tmps).run P (w.putObj D (.deferred none)) = .ok v (w.putObj D (.deferred none)) ∧ R (.returned v) (w.putObj D (.deferred none))) : bodyPostM Fence.wide 0 P fn R e (wd (markD D) a) w := by
  have key : LeavesInM Fence.wide 0 P fn a.tmps R (markD D) .returning w := by
    refine ⟨by simp, .inl ⟨_, _, rfl, run_takeDeferred hD, ?_⟩⟩
    obtain ⟨v, h1, h2⟩ := h
    exact ⟨_, h1, h2⟩
  rcases he with rfl | rfl
  · show LeavesInM Fence.wide 0 P fn a.tmps R (a.defers ++ markD D) .returning w
    rw [ha]; exact key
  · show LeavesInM Fence.wide 0 P fn a.tmps R (a.defers ++ markD D) .returning w
    rw [ha]; exact key
/-- At the end of a function that has had no loop. -/
theorem leaves_plain {fn : Func} {R : Ending → World → Prop} {e : Exit} {a : Act} (he : e = .normal ∨ e = .ret) (ha : a.defers = []) (h : ∃ v, (results fn a.tmps).run P w = .ok v w ∧ R (.returned v) w) : bodyPostM Fence.wide 0 P fn R e a w := by
  have key : LeavesInM Fence.wide 0 P fn a.tmps R [] .returning w := by
    obtain ⟨v, h1, h2⟩ := h
    exact ⟨_, h1, h2⟩
  rcases he with rfl | rfl
  · show LeavesInM Fence.wide 0 P fn a.tmps R a.defers .returning w
    rw [ha]; exact key
  · show LeavesInM Fence.wide 0 P fn a.tmps R a.defers .returning w
    rw [ha]; exact key

theorem leaves_retQ {fn : Func} {R : Ending → World → Prop} {e : Exit} {a : Act} {D : Nat} (ha : Fit fn.ntmps ρ a) (hD : w.heap[D]? = some (.deferred (some []))) (h : retQ P fn R e ρ (w.putObj D (.deferred none))) : bodyPostM Fence.wide 0 P fn R e (wd (markD D) a) w := by
  unfold retQ at h
  cases e with
  | normal => exact leaves_mark (.inl rfl) ha.defers hD (h a ha)
  | ret => exact leaves_mark (.inr rfl) ha.defers hD (h a ha)
  | exit i => exact h.elim
  | goto i => exact h.elim
  | panic c => exact h.elim
  | outgrown => exact h.elim
theorem leaves_retQ0 {fn : Func} {R : Ending → World → Prop} {e : Exit} {a : Act} (ha : Fit fn.ntmps ρ a) (h : retQ P fn R e ρ w) : bodyPostM Fence.wide 0 P fn R e a w := by
  unfold retQ at h
  cases e with
  | normal => exact leaves_plain (.inl rfl) ha.defers (h a ha)
  | ret => exact leaves_plain (.inr rfl) ha.defers (h a ha)
  | exit i => exact h.elim
  | goto i => exact h.elim
  | panic c => exact h.elim
  | outgrown => exact h.elim
theorem enters_of {f : FuncId} {fn : Func} (hf : P.funcs[f]? = some fn) (hn : (fn.name == "runtime.NumGoroutine") = false) (hb : fn.body.isNone = false) (args : Array Value) (w : World) : (callFunc f args).run P w = .ok (.enter f args) w := by
  simp [callFunc, hf, hn, hb, -Option.isNone_eq_false_iff, -Option.isNone_iff_eq_none, -beq_iff_eq]
theorem WX_range {g : Operand} {ps : Array Tmp} {assign body : Code} {gf : Nat} {lb : Array Value} {xs : List (Array Value)} {M : Nat → Prop} {w0 : World}
    (hg : ev ρ g = .func (.func gf) #[] lb) (eg : ∀ args w, (callFunc gf args).run P w = .ok (.enter gf args) w)
    (hseq : SeqAt P gf lb xs w0 M) (hw0 : Pure w0 w) (S0 : Nat → Prop) (hS0 : ∀ b, S0 b → ¬ M b ∧ b < w.heap.size) (hM : ∀ b, M b → b < w.heap.size)
    (I : Nat → World → Prop) (Ix : Code → World → Prop)
    (hI : ∀ k V V', I k V → Aside w.heap.size V V' → I k V') (hIx : ∀ c V V', Ix c V → Aside w.heap.size V V' → Ix c V') (h0 : I 0 w)
    (hps : ∀ args ∈ xs, args.size = ps.size) (hN : ∀ p ∈ ps.toList, p < N)
    (hround : ∀ k args V, xs[k]? = some args → I k V → w.heap.size + 2 ≤ V.heap.size →
      Rd.W (some (w.heap.size + 1)) [] P N assign (fun e ρ1 V1 => e = .normal ∧ V1 = V ∧ ∀ V2, I k V2 → w.heap.size + 2 ≤ V2.heap.size →
        Rd.W (some (w.heap.size + 1)) [] P N body (roundQ S0 (I (k + 1)) Ix V2) ρ1 V2) (setArgs ρ (ps.toList.zip args.toList)) V)
    (hdone : ∀ V, I xs.length V → V.heap[w.heap.size]? = some (.deferred (some [])) → ∀ a, Fit N ρ a → Q .normal (wd (markD w.heap.size) a) V)
    (hstop : ∀ c V, Ix c V → V.heap[w.heap.size]? = some (.deferred (some [])) → WX P N c Q ρ (markD w.heap.size) V) :
    WX P N (.rangeFunc g ps assign body) Q ρ [] w := by
  intro a ha
  refine wpIn_rangeFunc ?_
  intro fn hfn
  obtain ⟨rec, hrec⟩ : ∃ rec : LoopState → Option Code → Loop, rec = fun st pe => { state := st, pending := pe, fn, tmps := a.tmps, params := ps, assign, body, defers := w.heap.size } := ⟨_, rfl⟩
  obtain ⟨W1, hW1⟩ : ∃ W1, (w.alloc (.deferred (some []))).alloc (.loop (rec .ready none)) = W1 := ⟨_, rfl⟩
  have hL1 : W1.heap[w.heap.size + 1]? = some (.loop (rec .ready none)) := by
    rw [← hW1]; have := World.alloc_heap_new (w.alloc (.deferred (some []))) (.loop (rec .ready none)); rwa [World.size_alloc] at this
  have hK1 : W1.heap[w.heap.size]? = some (.deferred (some [])) := by
    rw [← hW1]; exact ((((Pure.refl (w.alloc (.deferred (some [])))).alloc _).chg (fun _ => False)).block _ (by simp) (fun h => h)).trans (World.alloc_heap_new w _)
  have hp1 : Pure w W1 := by rw [← hW1]; exact ((Pure.refl w).alloc _).alloc _
  have hz1 : W1.heap.size = w.heap.size + 2 := by rw [← hW1]; simp
  have hmark : ({ wd [] a with defers := [{ target := .collected w.heap.size, args := #[] }] ++ (wd [] a).defers } : Act) = wd (markD w.heap.size) a := by simp [wd, ha.defers]
  refine ⟨w.heap.size + 1, [{ target := .collected w.heap.size, args := #[] }], W1, { target := .fn (.func gf) lb, args := #[.func (.yield (w.heap.size + 1)) #[] #[]] }, W1, gf,
    #[.func (.yield (w.heap.size + 1)) #[] #[]] ++ lb, W1, ?_, ?_, fun _ _ => trivial, ?_, fun h => (by cases h), ?_⟩
  · rw [← hW1, hrec]; exact run_enterLoop_outer _ _ _ _ _
  · have hg' : (wd [] a).eval g = .func (.func gf) #[] lb := by rw [wd_eval, ha.eval]; exact hg
    simp only [resolve, hg']
    simp [go_sem]
  · simp [invoke, go_sem, eg]
  · rw [hmark]
    refine callsIn_wide.2 ((hseq (w.heap.size + 1) (fun b => S0 b ∨ b = w.heap.size + 1)
      (fun k V => I k V ∧ V.heap[w.heap.size + 1]? = some (.loop (rec .ready none)) ∧ V.heap[w.heap.size]? = some (.deferred (some [])))
      (fun V => ∃ c, Ix c V ∧ V.heap[w.heap.size + 1]? = some (.loop (rec .done (some c))) ∧ V.heap[w.heap.size]? = some (.deferred (some [])))
      W1 (hw0.trans hp1) ?_ ?_ ?_ ?_ ⟨hI _ _ _ h0 (.of_pure hp1), hL1, hK1⟩).mono ?_)
    · rintro b (hb | rfl)
      · exact ⟨(hS0 b hb).1, by have := (hS0 b hb).2; omega⟩
      · exact ⟨fun h => (by have := hM _ h; omega), by omega⟩
    · rintro k V V' ⟨h1, h2, h3⟩ hp
      exact ⟨hI _ _ _ h1 (hp.mono (by omega)), (hp.old (Array.getElem?_eq_some_iff.1 h2).1 (by omega)).trans h2, (hp.old (Array.getElem?_eq_some_iff.1 h3).1 (by omega)).trans h3⟩
    · rintro V V' ⟨c, h1, h2, h3⟩ hp
      exact ⟨c, hIx _ _ _ h1 (hp.mono (by omega)), (hp.old (Array.getElem?_eq_some_iff.1 h2).1 (by omega)).trans h2, (hp.old (Array.getElem?_eq_some_iff.1 h3).1 (by omega)).trans h3⟩
    · -- ONE ROUND
      rintro k args V hx ⟨hi, hl, hk⟩
      have hlt : w.heap.size + 1 < V.heap.size := (Array.getElem?_eq_some_iff.1 hl).1
      have hsz : args.size = ps.size := hps args (List.mem_of_getElem? hx)
      have hy := run_yield (P := P) (args := args) hl (by rw [hrec]; exact hsz)
      rw [hrec] at hy
      refine ⟨fn, _, assign, body, hy, roundIn_of_wpIn hfn ?_⟩
      have hfit : Fit N (setArgs ρ (ps.zip args).toList) { tmps := (ps.zip args).foldl (fun tmps (t, a) => tmps.setIfInBounds t a) a.tmps, defers := [] } := by
        have := fit_args (N := N) (ps.zip args).toList ρ a.tmps (fun p hp => by
          rw [Array.toList_zip] at hp
          exact hN _ (List.of_mem_zip hp).1) ⟨ha.size, ha.get, rfl⟩
        rw [Array.foldl_toList] at this
        exact this
      rw [Array.toList_zip] at hfit
      have hr := hround k args V hx hi (by omega) _ hfit
      refine wpIn_mono hr fun e a1 V1 q => ?_
      obtain ⟨a1, rfl, q⟩ := q
      cases e with
      | normal =>
        obtain ⟨ρ1, hf1, _, rfl, hb⟩ := q
        have hl2 : (V1.putObj (w.heap.size + 1) (.loop { rec .ready none with state := .busy })).heap[w.heap.size + 1]? = some (.loop { rec .ready none with state := .busy }) := World.putObj_heap_same hlt
        have hk2 : (V1.putObj (w.heap.size + 1) (.loop { rec .ready none with state := .busy })).heap[w.heap.size]? = some (.deferred (some [])) := (World.putObj_heap_other (by omega)).trans hk
        refine ⟨_, run_beginRound hl (by rw [hrec]), ?_⟩
        obtain ⟨V2, hV2⟩ : ∃ V2, V1.putObj (w.heap.size + 1) (.loop { rec .ready none with state := .busy }) = V2 := ⟨_, rfl⟩
        have hc2 : Chg (fun b => b = w.heap.size + 1) V1 V2 := by rw [← hV2]; exact chg_putObj _ _ rfl
        have hi2 : I k V2 := by rw [← hV2]; exact hI _ _ _ hi (.put _ (by omega) hl rfl)
        rw [hV2] at hl2 hk2 ⊢
        have hlt2 : w.heap.size + 1 < V2.heap.size := (Array.getElem?_eq_some_iff.1 hl2).1
        refine wpIn_mono (hb V2 hi2 (by omega) a1 hf1) fun e a3 V3 q => ?_
        obtain ⟨a3, rfl, q⟩ := q
        have fin : ∀ (jump : Option Code), Chg S0 V2 V3 →
            V3.heap[w.heap.size + 1]? = some (.loop { rec .ready none with state := .busy }) ∧
            (Instr.endRound (w.heap.size + 1) jump).run P V3 = .ok (.bool jump.isNone) (V3.putObj (w.heap.size + 1) (.loop (rec (if jump.isNone then .ready else .done) jump))) ∧
            (V3.putObj (w.heap.size + 1) (.loop (rec (if jump.isNone then .ready else .done) jump))).heap[w.heap.size + 1]? = some (.loop (rec (if jump.isNone then .ready else .done) jump)) ∧
            (V3.putObj (w.heap.size + 1) (.loop (rec (if jump.isNone then .ready else .done) jump))).heap[w.heap.size]? = some (.deferred (some [])) ∧
            Chg (fun b => S0 b ∨ b = w.heap.size + 1) V1 (V3.putObj (w.heap.size + 1) (.loop (rec (if jump.isNone then .ready else .done) jump))) := fun jump hc => by
          have hl3 : V3.heap[w.heap.size + 1]? = some (.loop { rec .ready none with state := .busy }) := (hc.block _ hlt2 (fun h => by have := (hS0 _ h).2; omega)).trans hl2
          have hk3 : V3.heap[w.heap.size]? = some (.deferred (some [])) := (hc.block _ (by omega) (fun h => by have := (hS0 _ h).2; omega)).trans hk2
          have := run_endRound (P := P) jump hl3
          refine ⟨hl3, ?_, World.putObj_heap_same (Array.getElem?_eq_some_iff.1 hl3).1, (World.putObj_heap_other (by omega)).trans hk3, ?_⟩
          · rw [hrec] at this ⊢
            exact this
          · exact ((hc2.mono fun _ _ h => .inr h).trans (hc.mono fun _ _ h => .inl h)).trans (chg_putObj _ _ (.inr rfl))
        cases e with
        | normal =>
          obtain ⟨ρ3, _, hc3, hi3⟩ := q
          obtain ⟨h0, h1, h2, h3, h4⟩ := fin none hc3
          exact ⟨_, _, h1, .inl ⟨rfl, ⟨hI _ _ _ hi3 (.put _ (by omega) h0 rfl), h2, h3⟩, h4⟩⟩
        | ret =>
          obtain ⟨ρ3, _, hc3, hi3⟩ := q
          obtain ⟨h0, h1, h2, h3, h4⟩ := fin (some .ret) hc3
          exact ⟨_, _, h1, .inr ⟨rfl, ⟨.ret, hIx _ _ _ hi3 (.put _ (by omega) h0 rfl), h2, h3⟩, h4⟩⟩
        | exit id =>
          obtain ⟨ρ3, _, hc3, hi3⟩ := q
          obtain ⟨h0, h1, h2, h3, h4⟩ := fin (some (.exit id)) hc3
          exact ⟨_, _, h1, .inr ⟨rfl, ⟨.exit id, hIx _ _ _ hi3 (.put _ (by omega) h0 rfl), h2, h3⟩, h4⟩⟩
        | goto l => obtain ⟨ρ3, _, h⟩ := q; exact h.elim
        | panic c => exact q.elim
        | outgrown => exact q.elim
      | exit i => obtain ⟨ρ1, _, h, _⟩ := q; cases h
      | goto l => obtain ⟨ρ1, _, h, _⟩ := q; cases h
      | ret => obtain ⟨ρ1, _, h, _⟩ := q; cases h
      | panic c => exact q.elim
      | outgrown => exact q.elim
    · rintro e W3 ⟨⟨v, rfl⟩, hJ | hJ⟩
      · obtain ⟨hi, hl, hk⟩ := hJ
        refine ⟨_, _, run_endLoop hl (by rw [hrec]; simp), ?_⟩
        rw [hrec]
        exact hdone _ (hI _ _ _ hi (.put _ (by omega) hl rfl)) ((World.putObj_heap_other (by omega)).trans hk) a ha
      · obtain ⟨c, hi, hl, hk⟩ := hJ
        refine ⟨_, _, run_endLoop hl (by rw [hrec]; simp), ?_⟩
        rw [hrec]
        exact hstop c _ (hIx _ _ _ hi (.put _ (by omega) hl rfl)) ((World.putObj_heap_other (by omega)).trans hk) a ha
end
def cellsE (w : World) (e : Ent) : Prop := ∀ k, e.D k → ∃ o, w.heap[k]? = some o ∧ cellsO o = true
theorem B.cells {w : World} {g t : Nat} {cs : Array Value} (h : (B g t cs).ok w) : cellsE w (B g t cs) := fun k hk => by
  have hk : k = g := hk
  subst hk
  exact ⟨_, h.1, rfl⟩
theorem Row.cells {w : World} {base e size n c : Nat} {A : Option Addr} {xs : List Value} (h : (Row base e size A n c xs).ok w) : cellsE w (Row base e size A n c xs) := fun k hk => by
  have h1 : w.ownsRow base e size (.slice A n c) n xs := h.1
  rcases h1.2 with ⟨hv, _⟩ | ⟨g, cap, cur, hv, _, hh, _⟩
  · injection hv with hv; subst hv; simp [Row] at hk
  · injection hv with hv; subst hv
    have hk : some g = some k := hk
    injection hk with hk
    subst hk
    exact ⟨_, hh, rfl⟩
theorem Inv.aside {S : Nat → Prop} {n : Nat} {w0 w w' : World} {H : List Ent} (h : Inv S w0 w H) (ha : Aside n w w') (hn : w0.heap.size ≤ n) (hc : ∀ e ∈ H, cellsE w e) : Inv S w0 w' H :=
  ⟨h.chg.trans' ha fun b hb hx => (by have := hx.1; omega), fun e he => (h.ok e he).chg ha fun k hk hx => by
    obtain ⟨o, h1, h2⟩ := hc e he k hk
    obtain ⟨_, o', h3, h4⟩ := hx
    rw [h1] at h3
    injection h3 with h3
    rw [← h3, h2] at h4
    exact Bool.noConfusion h4, h.own, h.apart⟩
theorem Inv.cons {S : Nat → Prop} {w0 w : World} {H : List Ent} {e : Ent} (h : Inv S w0 w H) (he : e.ok w) (ho : ∀ k, e.D k → S k ∨ w0.heap.size ≤ k) (hd : ∀ x ∈ H, ∀ k, e.D k → ¬ x.D k) : Inv S w0 w (e :: H) :=
  ⟨h.chg, fun x hx => by
    rcases List.mem_cons.1 hx with rfl | hx
    · exact he
    · exact h.ok x hx, fun x hx => by
    rcases List.mem_cons.1 hx with rfl | hx
    · exact ho
    · exact h.own x hx, List.pairwise_cons.2 ⟨hd, h.apart⟩⟩
end Go.Proofs.YtgppljdfhhgkiaaGreatDoor
