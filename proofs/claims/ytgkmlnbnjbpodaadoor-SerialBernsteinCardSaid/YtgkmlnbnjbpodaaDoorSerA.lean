/- slices.DeleteFunc at ints, with serial.Clashes' own condition; serial.Clashes where there is an order. -/
import Derived.Test.YtgkmlnbnjbpodaaDoorSer8
import Derived.Test.YtgkmlnbnjbpodaaDoorGraphB
namespace Go.Proofs.YtgkmlnbnjbpodaaDoor
open Go.RowKit
set_option linter.unusedVariables false
set_option linter.unusedSimpArgs false
theorem keepB_next {p : Nat → Bool} {l : List Nat} {k x : Nat} (h : l[k]? = some x) : (l.take (k + 1)).filter p = (l.take k).filter p ++ (if p x then [x] else []) := by
  rw [List.take_add_one, h, List.filter_append]
  cases hp : p x <;> simp [hp]
theorem keepB_all {p : Nat → Bool} {l : List Nat} (h : ∀ y ∈ l, p y = true) : l.filter p = l := List.filter_eq_self.2 h
theorem take_snoc {α : Type} {l : List α} {k : Nat} {x : α} (h : l[k]? = some x) : l.take (k + 1) = l.take k ++ [x] := by
  rw [List.take_add_one, h]; rfl
def CloK (w0 : World) (g sb : Nat) (l : List Nat) (p : Nat → Bool) : Prop :=
  ∀ W, Chg (fun k => k = g) w0 W → ∀ x ∈ l, Calls Tryd.prog 17 #[.int .i64 ((x : Nat) : Int), .pointer (some ⟨sb, 0, none⟩)] W fun en w' => en = .returned (.bool (!p x)) ∧ Pure W w'
set_option maxHeartbeats 1000000 in
theorem idxC_any (sb g m cm : Nat) (A' : Option Addr) (l : List Nat) (p : Nat → Bool) (w0 : World) (hK : CloK w0 g sb l p) (hm : l.length = m) (hm63 : m < 9223372036854775807) (hr : ∀ (j x : Nat), l[j]? = some x → A' = some ⟨g, 0, none⟩ ∧ w0.cell? ⟨g, j, none⟩ = some (.int .i64 x)) :
    Calls Tryd.prog 34 #[.slice A' m cm, .func (.func 17) #[] #[.pointer (some ⟨sb, 0, none⟩)]] w0 fun en w' => ((∃ k x : Nat, en = .returned (.int .i64 ((k : Nat) : Int)) ∧ l[k]? = some x ∧ p x = false ∧ ∀ y ∈ l.take k, p y = true) ∨ (en = .returned (.int .i64 (-1)) ∧ ∀ y ∈ l, p y = true)) ∧ Pure w0 w' := by
  have hI := Inv.start (fun _ => False) w0
  refine calls_of_W (N := Tryd.f34.ntmps) Tryd.func34 rfl rfl rfl ?_
  refine W_seq ?_
  refine W_region ?_
  refine WL_val rfl rfl rfl (by first | exact rAsgnI rfl rfl | exact rAsgn rfl) ?_
  refine WL_nil ?_
  refine W_seq ?_
  refine W_seq ?_
  refine W_region ?_
  refine WL_val rfl rfl rfl (by first | exact rMoveS rfl rfl | exact rMove rfl) ?_
  refine WL_val rfl rfl rfl (rLen rfl Tryd.underlying23 rfl) ?_
  refine WL_val rfl rfl rfl (by first | exact rMoveI rfl rfl | exact rMove rfl) ?_
  refine WL_nil ?_
  refine W_block ?_
  refine W_loop (fun ρ w => ∃ k : Nat, k ≤ m ∧ Has ρ [(8, .int .i64 k), (7, .int .i64 m), (0, .slice A' m cm), (1, .func (.func 17) #[] #[.pointer (some ⟨sb, 0, none⟩)])] ∧ (∀ y ∈ l.take k, p y = true) ∧ Inv (fun _ => False) w0 w []) (fun ρ _ => m - cnt (ρ 8))
    ⟨0, by omega, ⟨rfl, rfl, rfl, rfl, trivial⟩, by simp, hI⟩ ?_
  clear hI
  rintro ρ w ⟨k, hk, hH, hno, hI⟩
  obtain ⟨σ, rfl⟩ := hH.open
  by_cases hkm : k < m
  · obtain ⟨x, hx⟩ : ∃ x, l[k]? = some x := ⟨_, List.getElem?_eq_getElem (by omega)⟩
    obtain ⟨rfl, hc⟩ := hr k x hx
    have hcall := hK w (hI.pu.chg _) x (List.mem_of_getElem? hx)
    have hcw : w.cell? ⟨g, k, none⟩ = some (.int .i64 (x : Int)) := hI.oldp hc
    refine W_seq ?_
    refine W_region ?_
    refine WL_val rfl rfl rfl (by first | exact rLssT rfl rfl rfl (by omega) | exact rLssF rfl rfl rfl (by omega) | exact rLss rfl rfl rfl) ?_
    refine WL_nil ?_
    refine W_seq ?_
    refine W_cond true rfl ?_
    refine W_skip ?_
    refine W_seq ?_
    refine W_block ?_
    refine W_seq ?_
    refine W_region ?_
    refine WL_val rfl rfl rfl (by first | exact rMoveI rfl rfl | exact rMove rfl) ?_
    refine WL_val rfl rfl rfl (by first | exact rAsgnI rfl rfl | exact rAsgn rfl) ?_
    refine WL_nil ?_
    cases hp : p x with
    | false =>
      rw [hp] at hcall
      refine W_seq ?_
      refine W_region ?_
      refine WL_val rfl rfl rfl (by first | exact rMoveF rfl rfl | exact rMove rfl) ?_
      refine WL_val rfl rfl rfl (by first | exact rMoveS rfl rfl | exact rMove rfl) ?_
      refine WL_val rfl rfl rfl (by first | exact rMoveI rfl rfl | exact rMove rfl) ?_
      refine WL_val rfl rfl rfl (by first | exact rIdx0 rfl Tryd.underlying23 (by kernel_rfl) rfl rfl rfl (by omega) | exact rIdx1 rfl Tryd.underlying23 (by kernel_rfl) rfl rfl (by omega)) ?_
      refine WL_val rfl rfl rfl (by first | exact rLd (v := .int .i64 _) rfl (by kernel_rfl) rfl (by first | exact hI.oldp hcw | exact hcw) | exact rLd rfl (by kernel_rfl) rfl (by first | exact hI.oldp hcw | exact hcw)) ?_
      refine WL_call rfl rfl rfl (rCallF (first := []) (cap := [_]) (vs := [.int .i64 _, .pointer _]) rfl rfl Tryd.func17 rfl rfl rfl) ?_
      refine hcall.mono ?_
      rintro e w1 ⟨rfl, hp1⟩
      refine ⟨_, rfl, ?_⟩
      replace hI := hI.pure hp1
      refine WL_nil ?_
      refine W_cond true rfl ?_
      refine W_seq ?_
      refine W_region ?_
      refine WL_val rfl rfl rfl (by first | exact rMoveI rfl rfl | exact rMove rfl) ?_
      refine WL_val rfl rfl rfl (by first | exact rAsgnI rfl rfl | exact rAsgn rfl) ?_
      refine WL_nil ?_
      refine W_ret ?_
      exact ret1 4 (.inr rfl) rfl ⟨.inl ⟨k, x, rfl, hx, hp, hno⟩, hI.pu⟩
    | true =>
      rw [hp] at hcall
      refine W_seq ?_
      refine W_region ?_
      refine WL_val rfl rfl rfl (by first | exact rMoveF rfl rfl | exact rMove rfl) ?_
      refine WL_val rfl rfl rfl (by first | exact rMoveS rfl rfl | exact rMove rfl) ?_
      refine WL_val rfl rfl rfl (by first | exact rMoveI rfl rfl | exact rMove rfl) ?_
      refine WL_val rfl rfl rfl (by first | exact rIdx0 rfl Tryd.underlying23 (by kernel_rfl) rfl rfl rfl (by omega) | exact rIdx1 rfl Tryd.underlying23 (by kernel_rfl) rfl rfl (by omega)) ?_
      refine WL_val rfl rfl rfl (by first | exact rLd (v := .int .i64 _) rfl (by kernel_rfl) rfl (by first | exact hI.oldp hcw | exact hcw) | exact rLd rfl (by kernel_rfl) rfl (by first | exact hI.oldp hcw | exact hcw)) ?_
      refine WL_call rfl rfl rfl (rCallF (first := []) (cap := [_]) (vs := [.int .i64 _, .pointer _]) rfl rfl Tryd.func17 rfl rfl rfl) ?_
      refine hcall.mono ?_
      rintro e w1 ⟨rfl, hp1⟩
      refine ⟨_, rfl, ?_⟩
      replace hI := hI.pure hp1
      refine WL_nil ?_
      refine W_cond false rfl ?_
      refine W_skip ?_
      refine W_region ?_
      refine WL_val rfl rfl rfl (by first | exact rInc rfl rfl rfl (by omega) | exact rAdd rfl rfl rfl (by omega) | exact rAddW rfl rfl rfl) ?_
      refine WL_val rfl rfl rfl (by first | exact rMoveI rfl rfl | exact rMove rfl) ?_
      refine WL_nil ?_
      refine ⟨⟨k + 1, by omega, ⟨rfl, rfl, rfl, rfl, trivial⟩, ?_, hI⟩, by show m - ((k + 1 : Nat) : Int).toNat < m - (k : Int).toNat; omega⟩
      rw [take_snoc hx]
      intro y hy
      rcases List.mem_append.1 hy with hy | hy
      · exact hno y hy
      · rw [List.mem_singleton.1 hy]; exact hp
  · refine W_seq ?_
    refine W_region ?_
    refine WL_val rfl rfl rfl (by first | exact rLssT rfl rfl rfl (by omega) | exact rLssF rfl rfl rfl (by omega) | exact rLss rfl rfl rfl) ?_
    refine WL_nil ?_
    refine W_seq ?_
    refine W_cond false rfl ?_
    refine W_exit ?_
    refine W_seq ?_
    refine W_region ?_
    refine WL_val rfl rfl rfl (by first | exact rAsgnI rfl rfl | exact rAsgn rfl) ?_
    refine WL_nil ?_
    refine W_ret ?_
    refine ret1 4 (.inr rfl) rfl ⟨.inr ⟨rfl, ?_⟩, hI.pu⟩
    rwa [List.take_of_length_le (by omega)] at hno
def DelPostC (w : World) (A' : Option Addr) (g cm : Nat) (r : List Nat) (e : Ending) (w' : World) : Prop :=
  Chg (fun k => k = g) w w' ∧ e = .returned (.slice A' r.length cm) ∧ ∀ (j x : Nat), r[j]? = some x → w'.cell? ⟨g, j, none⟩ = some (.int .i64 x)
theorem keepB_le (p : Nat → Bool) (l : List Nat) (k : Nat) : ((l.take k).filter p).length ≤ k := Nat.le_trans (List.length_filter_le _ _) (List.length_take_le _ _)
theorem mem_take {α : Type} {l : List α} {k j : Nat} {x : α} (h : l[k]? = some x) (hk : k < j) : x ∈ l.take j :=
  List.mem_of_getElem? (i := k) (by rw [List.getElem?_take, if_pos hk]; exact h)
theorem first_bad {p : Nat → Bool} : ∀ {l : List Nat}, ¬ (∀ y ∈ l, p y = true) → ∃ k x : Nat, l[k]? = some x ∧ p x = false ∧ ∀ y ∈ l.take k, p y = true
  | [], h => absurd (by simp) h
  | a :: l, h => by
    cases ha : p a with
    | false => exact ⟨0, a, rfl, ha, by simp⟩
    | true =>
      have h' : ¬ (∀ y ∈ l, p y = true) := fun hl => h (fun y hy => by
        rcases List.mem_cons.1 hy with rfl | hy
        · exact ha
        · exact hl y hy)
      obtain ⟨k, x, h1, h2, h3⟩ := first_bad h'
      refine ⟨k + 1, x, by simpa using h1, h2, fun y hy => ?_⟩
      rw [List.take_succ_cons] at hy
      rcases List.mem_cons.1 hy with rfl | hy
      · exact ha
      · exact h3 y hy
set_option maxHeartbeats 1000000 in
theorem delC_any (sb : Nat) (g m cm : Nat) (A' : Option Addr) (l : List Nat) (p : Nat → Bool) (w0 : World) (hK : CloK w0 g sb l p) (hm : l.length = m) (hmc : m ≤ cm) (hm63 : m < 9223372036854775807)
    (cur : Array Value) (hr : l = [] ∨ (A' = some ⟨g, 0, none⟩ ∧ cur.size = cm ∧ Blk w0 g 3 cur ∧ ∀ (j x : Nat), l[j]? = some x → cur[j]? = some (.int .i64 x))) :
    Calls Tryd.prog 16 #[.slice A' m cm, .func (.func 17) #[] #[.pointer (some ⟨sb, 0, none⟩)]] w0 (DelPostC w0 A' g cm (l.filter p)) := by
  have hrd : ∀ (j x : Nat), l[j]? = some x → A' = some ⟨g, 0, none⟩ ∧ w0.cell? ⟨g, j, none⟩ = some (.int .i64 x) := fun j x hx => by
    rcases hr with rfl | ⟨h1, h2, h3, h4⟩
    · simp at hx
    · exact ⟨h1, by rw [h3.cell]; exact h4 j x hx⟩
  have hI0 := Inv.start (fun _ => False) w0
  rcases hr with rfl | ⟨rfl, hcs, hB, hcur⟩
  · simp only [List.filter_nil]
    have hI := hI0
    clear hI0
    refine calls_of_W (N := Tryd.f16.ntmps) Tryd.func16 rfl rfl rfl ?_
    refine W_seq ?_
    refine W_region ?_
    refine WL_val rfl rfl rfl (by first | exact rAsgnS rfl rfl | exact rAsgn rfl) ?_
    refine WL_nil ?_
    refine W_seq ?_
    refine W_region ?_
    refine WL_val rfl rfl rfl (by first | exact rMoveS rfl rfl | exact rMove rfl) ?_
    refine WL_val rfl rfl rfl (by first | exact rMoveF rfl rfl | exact rMove rfl) ?_
    refine WL_call rfl rfl rfl (rCall (vs := [.slice _ _ _, .func _ _ _]) rfl Tryd.func34 rfl rfl rfl) ?_
    refine (idxC_any sb g m cm A' [] p _ (fun W hW => hK W (by first | exact hW | exact (hI.pu.chg (fun k => k = g)).trans hW)) hm (by omega) (fun j x hx => by simp at hx)).mono ?_
    rintro e w1 ⟨⟨k, x, rfl, hx, _⟩ | ⟨rfl, _⟩, hp⟩
    · simp at hx
    refine ⟨_, rfl, ?_⟩
    replace hI := hI.pure hp
    refine WL_val rfl rfl rfl (by first | exact rAsgnI rfl rfl | exact rAsgn rfl) ?_
    refine WL_nil ?_
    refine W_seq ?_
    refine W_seq ?_
    refine W_region ?_
    refine WL_val rfl rfl rfl (by first | exact rMoveI rfl rfl | exact rMove rfl) ?_
    refine WL_val rfl rfl rfl (by first | exact rEqlT rfl rfl rfl (by omega) | exact rEqlF rfl rfl rfl (by omega) | exact rEql rfl rfl rfl) ?_
    refine WL_nil ?_
    refine W_cond true rfl ?_
    refine W_seq ?_
    refine W_region ?_
    refine WL_val rfl rfl rfl (by first | exact rMoveS rfl rfl | exact rMove rfl) ?_
    refine WL_val rfl rfl rfl (by first | exact rAsgnS rfl rfl | exact rAsgn rfl) ?_
    refine WL_nil ?_
    refine W_ret ?_
    exact ret1 4 (.inr rfl) rfl ⟨hI.pu.chg _, by simp at hm; subst hm; rfl, fun j x hx => by simp at hx⟩
  have hI := Inv.own1 hB
  clear hI0
  refine calls_of_W (N := Tryd.f16.ntmps) Tryd.func16 rfl rfl rfl ?_
  refine W_seq ?_
  refine W_region ?_
  refine WL_val rfl rfl rfl (by first | exact rAsgnS rfl rfl | exact rAsgn rfl) ?_
  refine WL_nil ?_
  by_cases hall : ∀ y ∈ l, p y = true
  · refine W_seq ?_
    refine W_region ?_
    refine WL_val rfl rfl rfl (by first | exact rMoveS rfl rfl | exact rMove rfl) ?_
    refine WL_val rfl rfl rfl (by first | exact rMoveF rfl rfl | exact rMove rfl) ?_
    refine WL_call rfl rfl rfl (rCall (vs := [.slice _ _ _, .func _ _ _]) rfl Tryd.func34 rfl rfl rfl) ?_
    refine (idxC_any sb g m cm _ l p _ hK hm (by omega) hrd).mono ?_
    rintro e w1 ⟨⟨k, x, rfl, hx, hpx, _⟩ | ⟨rfl, _⟩, hp⟩
    · rw [hall x (List.mem_of_getElem? hx)] at hpx
      cases hpx
    refine ⟨_, rfl, ?_⟩
    replace hI := hI.pure hp
    refine WL_val rfl rfl rfl (by first | exact rAsgnI rfl rfl | exact rAsgn rfl) ?_
    refine WL_nil ?_
    refine W_seq ?_
    refine W_seq ?_
    refine W_region ?_
    refine WL_val rfl rfl rfl (by first | exact rMoveI rfl rfl | exact rMove rfl) ?_
    refine WL_val rfl rfl rfl (by first | exact rEqlT rfl rfl rfl (by omega) | exact rEqlF rfl rfl rfl (by omega) | exact rEql rfl rfl rfl) ?_
    refine WL_nil ?_
    refine W_cond true rfl ?_
    refine W_seq ?_
    refine W_region ?_
    refine WL_val rfl rfl rfl (by first | exact rMoveS rfl rfl | exact rMove rfl) ?_
    refine WL_val rfl rfl rfl (by first | exact rAsgnS rfl rfl | exact rAsgn rfl) ?_
    refine WL_nil ?_
    refine W_ret ?_
    exact ret1 4 (.inr rfl) rfl ⟨hI.chg, by rw [keepB_all hall, hm]; rfl, fun j x hx => by rw [keepB_all hall] at hx; exact hI.c0 (hcur j x hx)⟩
  obtain ⟨k, x, hx, hpx, hbef, hcallI⟩ : ∃ k x : Nat, l[k]? = some x ∧ p x = false ∧ (∀ y ∈ l.take k, p y = true) ∧ Calls Tryd.prog 34 #[.slice (some ⟨g, 0, none⟩) m cm, .func (.func 17) #[] #[.pointer (some ⟨sb, 0, none⟩)]] w0 fun en w' => en = .returned (.int .i64 ((k : Nat) : Int)) ∧ Pure w0 w' := by
    obtain ⟨k, x, hx, hpx, hbef⟩ := first_bad hall
    refine ⟨k, x, hx, hpx, hbef, (idxC_any sb g m cm _ l p _ hK hm (by omega) hrd).mono ?_⟩
    rintro e w1 ⟨⟨k', x', rfl, hx', hpx', hbef'⟩ | ⟨rfl, ha⟩, hp⟩
    · refine ⟨?_, hp⟩
      have : k' = k := by
        rcases Nat.lt_trichotomy k' k with h1 | h1 | h1
        · have := hbef x' (mem_take hx' h1)
          rw [hpx'] at this; cases this
        · exact h1
        · have := hbef' x (mem_take hx h1)
          rw [hpx] at this; cases this
      rw [this]
    · exact absurd ha hall
  have hk : k < m := by have := (List.getElem?_eq_some_iff.1 hx).1; omega
  refine W_seq ?_
  refine W_region ?_
  refine WL_val rfl rfl rfl (by first | exact rMoveS rfl rfl | exact rMove rfl) ?_
  refine WL_val rfl rfl rfl (by first | exact rMoveF rfl rfl | exact rMove rfl) ?_
  refine WL_call rfl rfl rfl (rCall (vs := [.slice _ _ _, .func _ _ _]) rfl Tryd.func34 rfl rfl rfl) ?_
  refine hcallI.mono ?_
  rintro e w1 ⟨rfl, hp⟩
  refine ⟨_, rfl, ?_⟩
  replace hI := hI.pure hp
  refine WL_val rfl rfl rfl (by first | exact rAsgnI rfl rfl | exact rAsgn rfl) ?_
  refine WL_nil ?_
  refine W_seq ?_
  refine W_seq ?_
  refine W_region ?_
  refine WL_val rfl rfl rfl (by first | exact rMoveI rfl rfl | exact rMove rfl) ?_
  refine WL_val rfl rfl rfl (by first | exact rEqlT rfl rfl rfl (by omega) | exact rEqlF rfl rfl rfl (by omega) | exact rEql rfl rfl rfl) ?_
  refine WL_nil ?_
  refine W_cond false rfl ?_
  refine W_skip ?_
  refine W_seq ?_
  refine W_seq ?_
  refine W_region ?_
  refine WL_val rfl rfl rfl (by first | exact rMoveI rfl rfl | exact rMove rfl) ?_
  refine WL_val rfl rfl rfl (by first | exact rInc rfl rfl rfl (by omega) | exact rAdd rfl rfl rfl (by omega) | exact rAddW rfl rfl rfl) ?_
  refine WL_val rfl rfl rfl (by first | exact rAsgnI rfl rfl | exact rAsgn rfl) ?_
  refine WL_nil ?_
  refine W_block ?_
  have hst : (l.take (k + 1)).filter p = l.take k := by
    rw [keepB_next hx, keepB_all hbef, hpx]
    simp
  refine W_loop (fun ρ w => ∃ (i j : Nat) (cu : Array Value), i < j ∧ j ≤ m ∧ Has ρ [(5, .int .i64 i), (6, .int .i64 j), (0, .slice (some ⟨g, 0, none⟩) m cm), (1, .func (.func 17) #[] #[.pointer (some ⟨sb, 0, none⟩)])] ∧ i = ((l.take j).filter p).length ∧ cu.size = cm ∧
    (∀ (q y : Nat), ((l.take j).filter p)[q]? = some y → cu[q]? = some (.int .i64 y)) ∧ (∀ (q y : Nat), j ≤ q → l[q]? = some y → cu[q]? = some (.int .i64 y)) ∧ Inv (fun k => k = g) w0 w [B g 3 cu]) (fun ρ _ => m - cnt (ρ 6))
    ⟨k, k + 1, cur, by omega, by omega, ⟨rfl, rfl, rfl, rfl, trivial⟩, by rw [hst]; simp; omega, hcs, fun q y hq => ?_, fun q y _ hq => hcur q y hq, hI⟩ ?_
  · rw [hst, List.getElem?_take] at hq
    split at hq
    · exact hcur q y hq
    · cases hq
  clear hI
  rintro ρ w ⟨i, j, cu, hij, hjm, hH, hi, hcu, h1, h2, hI⟩
  obtain ⟨σ, rfl⟩ := hH.open
  by_cases hlt : j < m
  · obtain ⟨y, hy⟩ : ∃ y, l[j]? = some y := ⟨_, List.getElem?_eq_getElem (by omega)⟩
    have hcy := h2 j y (Nat.le_refl _) hy
    refine W_seq ?_
    refine W_seq ?_
    refine W_region ?_
    refine WL_val rfl rfl rfl (by first | exact rMoveI rfl rfl | exact rMove rfl) ?_
    refine WL_val rfl rfl rfl (by first | exact rMoveS rfl rfl | exact rMove rfl) ?_
    refine WL_val rfl rfl rfl (rLen rfl Tryd.underlying23 rfl) ?_
    refine WL_val rfl rfl rfl (by first | exact rLssT rfl rfl rfl (by omega) | exact rLssF rfl rfl rfl (by omega) | exact rLss rfl rfl rfl) ?_
    refine WL_nil ?_
    refine W_cond true rfl ?_
    refine W_skip ?_
    refine W_seq_cut (fun ρ w => ∃ (i' : Nat) (cu : Array Value), i' < j + 1 ∧ Has ρ [(5, .int .i64 i'), (6, .int .i64 j), (0, .slice (some ⟨g, 0, none⟩) m cm), (1, .func (.func 17) #[] #[.pointer (some ⟨sb, 0, none⟩)])] ∧ i' = ((l.take (j + 1)).filter p).length ∧ cu.size = cm ∧
      (∀ (q y : Nat), ((l.take (j + 1)).filter p)[q]? = some y → cu[q]? = some (.int .i64 y)) ∧ (∀ (q y : Nat), j + 1 ≤ q → l[q]? = some y → cu[q]? = some (.int .i64 y)) ∧ Inv (fun k => k = g) w0 w [B g 3 cu]) ?_ ?_
    · refine W_block ?_
      have hcy' := hI.c0 hcy
      refine W_seq ?_
      refine W_region ?_
      refine WL_val rfl rfl rfl (by first | exact rMoveS rfl rfl | exact rMove rfl) ?_
      refine WL_val rfl rfl rfl (by first | exact rMoveI rfl rfl | exact rMove rfl) ?_
      refine WL_val rfl rfl rfl (by first | exact rIdx0 rfl Tryd.underlying23 (by kernel_rfl) rfl rfl rfl (by omega) | exact rIdx1 rfl Tryd.underlying23 (by kernel_rfl) rfl rfl (by omega)) ?_
      refine WL_val rfl rfl rfl (by first | exact rLd (v := .int .i64 _) rfl (by kernel_rfl) rfl (by first | exact hI.oldp hcy' | exact hcy') | exact rLd rfl (by kernel_rfl) rfl (by first | exact hI.oldp hcy' | exact hcy')) ?_
      refine WL_val rfl rfl rfl (by first | exact rAsgnI rfl rfl | exact rAsgn rfl) ?_
      refine WL_nil ?_
      have hcall := hK _ hI.chg y (List.mem_of_getElem? hy)
      have hkn := keepB_next (p := p) hy
      cases hc : p y with
      | true =>
        rw [hc, if_pos rfl] at hkn
        rw [hc] at hcall
        refine W_seq ?_
        refine W_region ?_
        refine WL_val rfl rfl rfl (by first | exact rMoveF rfl rfl | exact rMove rfl) ?_
        refine WL_val rfl rfl rfl (by first | exact rMoveI rfl rfl | exact rMove rfl) ?_
        refine WL_call rfl rfl rfl (rCallF (first := []) (cap := [_]) (vs := [.int .i64 _, .pointer _]) rfl rfl Tryd.func17 rfl rfl rfl) ?_
        refine hcall.mono ?_
        rintro e w1 ⟨rfl, hp⟩
        refine ⟨_, rfl, ?_⟩
        replace hI := hI.pure hp
        refine WL_val rfl rfl rfl (by first | exact rNotT rfl rfl | exact rNotF rfl rfl | exact rNot rfl rfl) ?_
        refine WL_nil ?_
        refine W_cond true rfl ?_
        refine W_seq ?_
        refine W_region ?_
        refine WL_val rfl rfl rfl (by first | exact rMoveS rfl rfl | exact rMove rfl) ?_
        refine WL_val rfl rfl rfl (by first | exact rMoveI rfl rfl | exact rMove rfl) ?_
        refine WL_val rfl rfl rfl (by first | exact rMoveI rfl rfl | exact rMove rfl) ?_
        refine WL_val rfl rfl rfl (by first | exact rIdx0 rfl Tryd.underlying23 (by kernel_rfl) rfl rfl rfl (by omega) | exact rIdx1 rfl Tryd.underlying23 (by kernel_rfl) rfl rfl (by omega)) ?_
        refine WL_st0 (u := .int .i64 _) (j := i) hI rfl rfl rfl rfl rfl rfl (by kernel_rfl) rfl (by simp [Nat.blt]; omega) rfl ?_
        clear hI; rintro w hI
        refine WL_nil ?_
        refine W_region ?_
        refine WL_val rfl rfl rfl (by first | exact rMoveI rfl rfl | exact rMove rfl) ?_
        refine WL_val rfl rfl rfl (by first | exact rInc rfl rfl rfl (by omega) | exact rAdd rfl rfl rfl (by omega) | exact rAddW rfl rfl rfl) ?_
        refine WL_val rfl rfl rfl (by first | exact rAsgnI rfl rfl | exact rAsgn rfl) ?_
        refine WL_nil ?_
        refine ⟨i + 1, _, by omega, ⟨rfl, rfl, rfl, rfl, trivial⟩, by rw [hkn]; simp [hi], by simpa using hcu, fun q z hq => ?_, fun q z hq hz => ?_, hI⟩
        · rw [Array.getElem?_setIfInBounds]
          rw [hkn] at hq
          by_cases hqi : i = q
          · subst hqi
            rw [hi, List.getElem?_append_right (Nat.le_refl _)] at hq
            simp at hq
            rw [if_pos rfl, if_pos (by omega), hq]
          · rw [if_neg hqi]
            refine h1 q z ?_
            have := (List.getElem?_eq_some_iff.1 hq).1
            simp at this
            rwa [List.getElem?_append_left (by omega)] at hq
        · rw [Array.getElem?_setIfInBounds, if_neg (by omega)]
          exact h2 q z (by omega) hz
      | false =>
        rw [hc] at hkn
        rw [hc] at hcall
        simp only [Bool.false_eq_true, if_false, List.append_nil] at hkn
        refine W_seq ?_
        refine W_region ?_
        refine WL_val rfl rfl rfl (by first | exact rMoveF rfl rfl | exact rMove rfl) ?_
        refine WL_val rfl rfl rfl (by first | exact rMoveI rfl rfl | exact rMove rfl) ?_
        refine WL_call rfl rfl rfl (rCallF (first := []) (cap := [_]) (vs := [.int .i64 _, .pointer _]) rfl rfl Tryd.func17 rfl rfl rfl) ?_
        refine hcall.mono ?_
        rintro e w1 ⟨rfl, hp⟩
        refine ⟨_, rfl, ?_⟩
        replace hI := hI.pure hp
        refine WL_val rfl rfl rfl (by first | exact rNotT rfl rfl | exact rNotF rfl rfl | exact rNot rfl rfl) ?_
        refine WL_nil ?_
        refine W_cond false rfl ?_
        refine W_skip ?_
        exact ⟨i, cu, by omega, ⟨rfl, rfl, rfl, rfl, trivial⟩, by rw [hkn]; exact hi, hcu, by rw [hkn]; exact h1, fun q z hq hz => h2 q z (by omega) hz, hI⟩
    · clear hI
      rintro ρ w ⟨i', cu', hi', hH, h3, h4, h5, h6, hI⟩
      obtain ⟨σ, rfl⟩ := hH.open
      refine W_region ?_
      refine WL_val rfl rfl rfl (by first | exact rMoveI rfl rfl | exact rMove rfl) ?_
      refine WL_val rfl rfl rfl (by first | exact rInc rfl rfl rfl (by omega) | exact rAdd rfl rfl rfl (by omega) | exact rAddW rfl rfl rfl) ?_
      refine WL_val rfl rfl rfl (by first | exact rAsgnI rfl rfl | exact rAsgn rfl) ?_
      refine WL_nil ?_
      exact ⟨⟨i', j + 1, cu', hi', by omega, ⟨rfl, rfl, rfl, rfl, trivial⟩, h3, h4, h5, h6, hI⟩, by show m - ((j + 1 : Nat) : Int).toNat < m - (j : Int).toNat; omega⟩
  · obtain rfl : m = j := by omega
    rw [List.take_of_length_le (by omega)] at hi h1
    refine W_seq ?_
    refine W_seq ?_
    refine W_region ?_
    refine WL_val rfl rfl rfl (by first | exact rMoveI rfl rfl | exact rMove rfl) ?_
    refine WL_val rfl rfl rfl (by first | exact rMoveS rfl rfl | exact rMove rfl) ?_
    refine WL_val rfl rfl rfl (rLen rfl Tryd.underlying23 rfl) ?_
    refine WL_val rfl rfl rfl (by first | exact rLssT rfl rfl rfl (by omega) | exact rLssF rfl rfl rfl (by omega) | exact rLss rfl rfl rfl) ?_
    refine WL_nil ?_
    refine W_cond false rfl ?_
    refine W_exit ?_
    refine W_seq ?_
    refine W_region ?_
    refine WL_val rfl rfl rfl (by first | exact rMoveS rfl rfl | exact rMove rfl) ?_
    refine WL_val rfl rfl rfl (by first | exact rMoveI rfl rfl | exact rMove rfl) ?_
    refine WL_val rfl rfl rfl (by first | exact rSliceFrom (sz := 1) rfl Tryd.underlying23 (by kernel_rfl) rfl rfl (by omega) (by omega) | exact rSliceFromG (sz := 1) rfl Tryd.underlying23 (by kernel_rfl) rfl rfl (by omega)) ?_
    refine WL_clear (i := 0) (z := .int .i64 0) rfl hI rfl rfl rfl Tryd.underlying23 (by kernel_rfl) rfl rfl rfl (by omega) (by omega) ?_
    clear hI; rintro w cu' hz1 hz2 hI
    refine WL_nil ?_
    refine W_seq ?_
    refine W_region ?_
    refine WL_val rfl rfl rfl (by first | exact rMoveS rfl rfl | exact rMove rfl) ?_
    refine WL_val rfl rfl rfl (by first | exact rMoveI rfl rfl | exact rMove rfl) ?_
    refine WL_val rfl rfl rfl (rSliceTo (sz := 1) rfl Tryd.underlying23 (by kernel_rfl) rfl rfl (by omega)) ?_
    refine WL_val rfl rfl rfl (by first | exact rAsgnS rfl rfl | exact rAsgn rfl) ?_
    refine WL_nil ?_
    refine W_ret ?_
    refine ret1 4 (.inr rfl) rfl ⟨hI.chg, by rw [← hi]; rfl, fun q y hq => ?_⟩
    have hlt := (List.getElem?_eq_some_iff.1 hq).1
    refine hI.c0 ?_
    rw [hz2 q (by omega)]
    exact h1 q y hq
theorem del_any (sb : Nat) (CA : Option Addr) (cn cc : Nat) (cs : List Int) (x : Int) (D : Nat → Prop) (w0 : World) (hs : w0.cell? ⟨sb, 0, none⟩ = some (.slice CA cn cc)) (h : Ints w0 D (.slice CA cn cc) cs) :
    Calls Tryd.prog 17 #[.int .i64 x, .pointer (some ⟨sb, 0, none⟩)] w0 fun en w' => en = .returned (.bool (!decide (x ∈ cs))) ∧ Pure w0 w' := by
  have hI := Inv.start (fun _ => False) w0
  refine calls_of_W (N := Tryd.f17.ntmps) Tryd.func17 rfl rfl rfl ?_
  refine W_seq ?_
  refine W_region ?_
  refine WL_val rfl rfl rfl (by first | exact rAsgnB rfl rfl | exact rAsgn rfl) ?_
  refine WL_nil ?_
  refine W_seq ?_
  refine W_region ?_
  refine WL_val rfl rfl rfl (by first | exact rLd (v := .slice _ _ _) rfl (by kernel_rfl) rfl (by first | exact hI.oldp hs | exact hs) | exact rLd rfl (by kernel_rfl) rfl (by first | exact hI.oldp hs | exact hs)) ?_
  refine WL_val rfl rfl rfl (by first | exact rMoveI rfl rfl | exact rMove rfl) ?_
  refine WL_call rfl rfl rfl (rCall (vs := [.slice _ _ _, .int .i64 _]) rfl Tryd.func18 rfl rfl rfl) ?_
  refine (conI_any CA cn cc cs x D _ (h.chg (hI.pu.chg (fun _ => False)) (fun _ _ h => h))).mono ?_
  rintro e w1 ⟨rfl, hp⟩
  refine ⟨_, rfl, ?_⟩
  replace hI := hI.pure hp
  refine WL_val rfl rfl rfl (by first | exact rNotT rfl rfl | exact rNotF rfl rfl | exact rNot rfl rfl) ?_
  refine WL_val rfl rfl rfl (by first | exact rAsgnB rfl rfl | exact rAsgn rfl) ?_
  refine WL_nil ?_
  refine W_ret ?_
  exact ret1 3 (.inr rfl) rfl ⟨rfl, hI.pu⟩
def inC (l : List St) (x : Nat) : Bool := decide (x ∈ commitsF l)
theorem inC_eq (l : List St) (x : Nat) : decide (((x : Nat) : Int) ∈ (commitsF l).map Int.ofNat) = inC l x := by
  unfold inC
  rw [decide_eq_decide]
  constructor
  · intro h
    obtain ⟨y, hy, he⟩ := List.mem_map.1 h
    have : y = x := by have he : ((y : Nat) : Int) = x := he; omega
    rwa [← this]
  · intro h
    exact List.mem_map.2 ⟨x, h, rfl⟩
set_option maxHeartbeats 1000000 in
theorem clashesOk_any (A : Option Addr) (n c : Nat) (l : List St) (D : Nat → Prop) (w0 : World) (h : Sts w0 D (.slice A n c) l) (hg : GlobOk w0) (hok : OkSteps l) (od : List Nat) (ho : orderF 8 (graphF l) = some od) :
    Calls Tryd.prog 5 #[.slice A n c] w0 fun en w' => (∃ OA oc, en = .returned (.tuple #[.slice OA (od.filter (inC l)).length oc, .slice none 0 0, .nilIface]) ∧ Ints w' (fun k => w0.heap.size ≤ k) (.slice OA (od.filter (inC l)).length oc) ((od.filter (inC l)).map Int.ofNat)) ∧ Pure w0 w' := by
  have hI := Inv.start (fun _ => False) w0
  have hspec := orderTo_spec 8 od ho
  refine calls_of_W (N := Tryd.f5.ntmps) Tryd.func5 rfl rfl rfl ?_
  refine W_seq ?_
  refine W_region ?_
  refine WL_val rfl rfl rfl (by first | exact rAsgnS rfl rfl | exact rAsgn rfl) ?_
  refine WL_val rfl rfl rfl (by first | exact rAsgnS rfl rfl | exact rAsgn rfl) ?_
  refine WL_val rfl rfl rfl (by first | exact rAsgnN rfl rfl | exact rAsgnE rfl rfl | exact rAsgn rfl) ?_
  refine WL_nil ?_
  refine W_seq ?_
  refine W_region ?_
  refine WL_val rfl rfl rfl (by first | exact rMoveS rfl rfl | exact rMove rfl) ?_
  refine WL_call rfl rfl rfl (rCall (vs := [.slice _ _ _]) rfl Tryd.func9 rfl rfl rfl) ?_
  refine (graph_any A n c l D _ h hg).mono ?_
  rintro e w1 ⟨⟨_, ob, rbs, rfl, hM, hob, hrb⟩ | ⟨hbad, _⟩, hp⟩
  rotate_left
  · exact absurd hok hbad
  have hS := hM.toSq (D := fun _ => True) (by omega) trivial (fun _ _ _ => trivial)
  refine ⟨_, rfl, ?_⟩
  replace hI := hI.pure hp
  refine WL_val rfl rfl rfl (by first | exact rMoveT rfl rfl | exact rMove rfl) ?_
  refine WL_val rfl rfl rfl (rExtr rfl rfl rfl) ?_
  refine WL_val rfl rfl rfl (rExtr rfl rfl rfl) ?_
  refine WL_val rfl rfl rfl (by first | exact rAsgnS rfl rfl | exact rAsgn rfl) ?_
  refine WL_val rfl rfl rfl (by first | exact rAsgnN rfl rfl | exact rAsgnE rfl rfl | exact rAsgn rfl) ?_
  refine WL_nil ?_
  refine W_seq ?_
  refine W_seq ?_
  refine W_region ?_
  refine WL_val rfl rfl rfl (by first | exact rMoveN rfl rfl | exact rMoveE rfl rfl | exact rMove rfl) ?_
  refine WL_val rfl rfl rfl (by first | exact rIfaceNe rfl Tryd.underlying25 rfl rfl | exact rNilNe rfl Tryd.underlying25 rfl) ?_
  refine WL_nil ?_
  refine W_cond false rfl ?_
  refine W_skip ?_
  refine W_seq ?_
  refine W_region ?_
  refine WL_val rfl rfl rfl (by first | exact rMoveS rfl rfl | exact rMove rfl) ?_
  refine WL_call rfl rfl rfl (rCall (vs := [.slice _ _ _]) rfl Tryd.func13 rfl rfl rfl) ?_
  refine (gorder2_any _ 8 8 _ _ _ hS (by omega)).mono ?_
  rintro e w2 (⟨l', v, ho', rfl, hown, hp2⟩ | ⟨ho', _⟩)
  rotate_left
  · rw [ho] at ho'; cases ho'
  obtain rfl : od = l' := by rw [ho] at ho'; injection ho'
  refine ⟨_, rfl, ?_⟩
  obtain ⟨OA, oc, rfl⟩ := own_slice hown
  replace hI := hI.freshR hp2 hown
  refine WL_val rfl rfl rfl (by first | exact rMoveT rfl rfl | exact rMove rfl) ?_
  refine WL_val rfl rfl rfl (rExtr rfl rfl rfl) ?_
  refine WL_val rfl rfl rfl (rExtr rfl rfl rfl) ?_
  refine WL_val rfl rfl rfl (by first | exact rAsgnS rfl rfl | exact rAsgn rfl) ?_
  refine WL_val rfl rfl rfl (by first | exact rAsgnN rfl rfl | exact rAsgnE rfl rfl | exact rAsgn rfl) ?_
  refine WL_nil ?_
  refine W_seq ?_
  refine W_seq ?_
  refine W_region ?_
  refine WL_val rfl rfl rfl (by first | exact rMoveN rfl rfl | exact rMoveE rfl rfl | exact rMove rfl) ?_
  refine WL_val rfl rfl rfl (by first | exact rIfaceNe rfl Tryd.underlying25 rfl rfl | exact rNilNe rfl Tryd.underlying25 rfl) ?_
  refine WL_nil ?_
  refine W_cond false rfl ?_
  refine W_skip ?_
  refine W_seq ?_
  refine W_region ?_
  refine WL_val rfl rfl rfl (by first | exact rMoveS rfl rfl | exact rMove rfl) ?_
  refine WL_call rfl rfl rfl (rCall (vs := [.slice _ _ _]) rfl Tryd.func15 rfl rfl rfl) ?_
  refine (commits_any A n c l D _ (h.chg (hI.pu.chg (fun _ => False)) (fun _ _ h => h))).mono ?_
  rintro e w3 ⟨⟨v, rfl, CA, cc, rfl, hown2⟩, hp3⟩
  refine ⟨_, rfl, ?_⟩
  replace hI := hI.freshR hp3 hown2
  refine WL_alloc (u := .slice none 0 0) (vs := #[.slice none 0 0]) hI rfl rfl rfl rfl (by kernel_rfl) rfl ?_
  clear hI; rintro b7 w - - hI
  first | refine WL_stw0 (u := .slice _ _ _) (vs := #[_]) (n := 1) hI rfl rfl rfl rfl rfl rfl (by kernel_rfl) rfl rfl rfl ?_ | refine WL_stw1 (u := .slice _ _ _) (vs := #[_]) (n := 1) hI rfl rfl rfl rfl rfl rfl (by kernel_rfl) rfl rfl rfl ?_ | refine WL_stw2 (u := .slice _ _ _) (vs := #[_]) (n := 1) hI rfl rfl rfl rfl rfl rfl (by kernel_rfl) rfl rfl rfl ?_ | refine WL_stw3 (u := .slice _ _ _) (vs := #[_]) (n := 1) hI rfl rfl rfl rfl rfl rfl (by kernel_rfl) rfl rfl rfl ?_ | refine WL_stw4 (u := .slice _ _ _) (vs := #[_]) (n := 1) hI rfl rfl rfl rfl rfl rfl (by kernel_rfl) rfl rfl rfl ?_ | refine WL_stw5 (u := .slice _ _ _) (vs := #[_]) (n := 1) hI rfl rfl rfl rfl rfl rfl (by kernel_rfl) rfl rfl rfl ?_ | refine WL_st0 (u := .slice _ _ _) hI rfl rfl rfl rfl rfl rfl (by kernel_rfl) rfl rfl rfl ?_ | refine WL_st1 (u := .slice _ _ _) hI rfl rfl rfl rfl rfl rfl (by kernel_rfl) rfl rfl rfl ?_ | refine WL_st2 (u := .slice _ _ _) hI rfl rfl rfl rfl rfl rfl (by kernel_rfl) rfl rfl rfl ?_ | refine WL_st3 (u := .slice _ _ _) hI rfl rfl rfl rfl rfl rfl (by kernel_rfl) rfl rfl rfl ?_ | refine WL_st4 (u := .slice _ _ _) hI rfl rfl rfl rfl rfl rfl (by kernel_rfl) rfl rfl rfl ?_ | refine WL_st5 (u := .slice _ _ _) hI rfl rfl rfl rfl rfl rfl (by kernel_rfl) rfl rfl rfl ?_
  clear hI; intro w hI
  refine WL_nil ?_
  have hOr := hI.g2
  rcases hOr.2 with ⟨hv, hl0⟩ | ⟨gb, cap, cur, hv, hgb, hh, hnc, hcm, hcs, htake⟩
  · have := hspec.1
    omega
  injection hv with e1 _ e3
  subst e1 e3
  have hd0 := hI.disj (i := 2) (j := 0) rfl rfl (by omega) gb rfl
  have hd1 := hI.disj (i := 2) (j := 1) rfl rfl (by omega) gb rfl
  have hgb0 : w0.heap.size ≤ gb := (hI.own _ (List.mem_of_getElem? (i := 2) rfl) gb rfl).resolve_left id
  have hs0 := hI.c0 (j := 0) rfl
  have hIn : Ints w (fun k => k ≠ gb) (.slice CA (commitsF l).length cc) ((commitsF l).map Int.ofNat) := by
    have h1 := Rd.of_own (D := fun k => k ≠ gb) hI.g1 (fun k hk _ e => by
      rw [ownBlock_slice] at hk
      exact hd1 (e ▸ hk))
    unfold Ints
    have e : ((commitsF l).map Int.ofNat).map (Value.int .i64) = natV (commitsF l) := by simp [natV]
    rw [e, List.length_map]
    exact h1
  have hBk : Blk w gb 3 cur := hh
  have hK : CloK w gb b7 od (inC l) := fun W hW x hx => by
    have hs : W.cell? ⟨b7, 0, none⟩ = _ := (World.cell?_of_block (hW.block _ (World.block_lt_of_cell? w _ hs0) (fun e => hd0 e.symm))).trans hs0
    have := del_any b7 CA _ cc _ (x : Int) (fun k => k ≠ gb) W hs (hIn.chg hW (fun k hk e => hk e))
    rw [inC_eq] at this
    exact this
  have hdel := delC_any b7 gb od.length oc (some ⟨gb, 0, none⟩) od (inC l) w hK rfl hnc (by have := hspec.1; omega) cur (.inr ⟨rfl, by omega, hBk, fun j x hx => by
    have h1 : (natV od)[j]? = some (.int .i64 x) := by simp [natV, hx]
    rw [← htake, List.getElem?_take] at h1
    split at h1
    · simpa using h1
    · cases h1⟩)
  refine W_seq ?_
  refine W_region ?_
  refine WL_val rfl rfl rfl (by first | exact rMoveS rfl rfl | exact rMove rfl) ?_
  refine WL_val rfl rfl rfl (rFunc (l := []) (m := [_]) rfl rfl rfl) ?_
  refine WL_call rfl rfl rfl (rCall (vs := [.slice _ _ _, .func _ _ _]) rfl Tryd.func16 rfl rfl rfl) ?_
  refine hdel.mono ?_
  rintro e w4 ⟨hc4, rfl, hcells⟩
  refine ⟨_, rfl, ?_⟩
  refine WL_val rfl rfl rfl (by first | exact rAsgnS rfl rfl | exact rAsgn rfl) ?_
  refine WL_val rfl rfl rfl (by first | exact rAsgnS rfl rfl | exact rAsgn rfl) ?_
  refine WL_val rfl rfl rfl (by first | exact rAsgnN rfl rfl | exact rAsgnE rfl rfl | exact rAsgn rfl) ?_
  refine WL_nil ?_
  refine W_ret ?_
  have hl8 := hspec.1
  have hfin : Ints w4 (fun k => w0.heap.size ≤ k) (.slice (some ⟨gb, 0, none⟩) (od.filter (inC l)).length oc) ((od.filter (inC l)).map Int.ofNat) := by
    unfold Ints
    rw [List.length_map]
    refine ⟨_, _, rfl, Nat.le_trans (List.length_filter_le _ _) hnc, by simpa [maxLen] using hcm, by simp, fun _ => ⟨gb, 0, rfl, hgb0, fun j u hj => ?_⟩⟩
    rw [List.getElem?_map, List.getElem?_map] at hj
    obtain ⟨y, hy, rfl⟩ := Option.map_eq_some_iff.1 hj
    obtain ⟨x, hx, rfl⟩ := Option.map_eq_some_iff.1 hy
    rw [Nat.zero_add]
    exact hcells j x hx
  refine ret3 2 3 4 (.inr rfl) rfl ⟨⟨_, oc, rfl, hfin⟩, (hI.chg.trans' hc4 fun k hk1 hk2 => ?_).toPure⟩
  omega
end Go.Proofs.YtgkmlnbnjbpodaaDoor
