/- serial: commits, Done. -/
import Derived.Test.YtgkmlnbnjbpodaaDoorSer5
namespace Go.Proofs.YtgkmlnbnjbpodaaDoor
open Go.RowKit
set_option linter.unusedVariables false
set_option linter.unusedSimpArgs false
theorem clo_any (s : St) (tx : Int) (b : Nat) (w0 : World) (hb : w0.cell? ⟨b, 0, none⟩ = some (.int .i64 tx)) : Calls Tryd.prog 33 #[.agg (stV s).toArray, .pointer (some ⟨b, 0, none⟩)] w0 fun en w' => en = .returned (.bool (decide (s.tx = tx ∧ s.kind = 3))) ∧ Pure w0 w' := by
  have hI := Inv.start (fun _ => False) w0
  obtain ⟨a, k, y⟩ := s
  refine calls_of_W (N := Tryd.f33.ntmps) Tryd.func33 rfl rfl rfl ?_
  refine W_seq ?_
  refine W_region ?_
  refine WL_box (u := .agg _) (vs := #[_, _, _]) hI rfl rfl rfl rfl rfl rfl ?_
  clear hI; rintro b2 w - - hI
  refine WL_val rfl rfl rfl (by first | exact rAsgnB rfl rfl | exact rAsgn rfl) ?_
  refine WL_nil ?_
  by_cases h1 : a = tx
  · by_cases h2 : k = 3
    · refine W_seq ?_
      refine W_region ?_
      refine WL_val rfl rfl rfl (by first | exact rFldN (off := 0) rfl (by kernel_rfl) rfl | exact rFld0 rfl (by kernel_rfl) rfl) ?_
      refine WL_val rfl rfl rfl (by first | exact rLd (v := .int .i64 _) rfl (by kernel_rfl) rfl (by first | exact hI.c0 rfl | exact hI.oldp hb | exact hb) | exact rLd rfl (by kernel_rfl) rfl (by first | exact hI.c0 rfl | exact hI.oldp hb | exact hb)) ?_
      refine WL_val rfl rfl rfl (by first | exact rLd (v := .int .i64 _) rfl (by kernel_rfl) rfl (by first | exact hI.c0 rfl | exact hI.oldp hb | exact hb) | exact rLd rfl (by kernel_rfl) rfl (by first | exact hI.c0 rfl | exact hI.oldp hb | exact hb)) ?_
      refine WL_val rfl rfl rfl (by first | exact rEqlT rfl rfl rfl (by omega) | exact rEqlF rfl rfl rfl (by omega) | exact rEql rfl rfl rfl) ?_
      refine WL_val rfl rfl rfl (by first | exact rMoveB rfl rfl | exact rMove rfl) ?_
      first | refine WL_val rfl rfl rfl (by first | exact rFldN (off := 1) rfl (by kernel_rfl) rfl | exact rFld (off := 1) rfl (by kernel_rfl) rfl) ?_ | refine WL_skip rfl rfl rfl ?_
      first | refine WL_val rfl rfl rfl (by first | exact rLd (v := .int .i64 _) rfl (by kernel_rfl) rfl (by first | exact hI.c0 rfl | exact hI.oldp hb | exact hb) | exact rLd rfl (by kernel_rfl) rfl (by first | exact hI.c0 rfl | exact hI.oldp hb | exact hb)) ?_ | refine WL_skip rfl rfl rfl ?_
      first | refine WL_val rfl rfl rfl (by first | exact rEqlT rfl rfl rfl (by omega) | exact rEqlF rfl rfl rfl (by omega) | exact rEql rfl rfl rfl) ?_ | refine WL_skip rfl rfl rfl ?_
      refine WL_val rfl rfl rfl (by first | exact rPickTB rfl rfl rfl | exact rPickFB rfl rfl rfl | exact rPickB rfl rfl rfl rfl) ?_
      refine WL_val rfl rfl rfl (by first | exact rAsgnB rfl rfl | exact rAsgn rfl) ?_
      refine WL_nil ?_
      refine W_ret ?_
      exact ret1 3 (.inr rfl) rfl ⟨by rw [decide_eq_true ⟨h1, h2⟩]; rfl, hI.pu⟩
    · refine W_seq ?_
      refine W_region ?_
      refine WL_val rfl rfl rfl (by first | exact rFldN (off := 0) rfl (by kernel_rfl) rfl | exact rFld0 rfl (by kernel_rfl) rfl) ?_
      refine WL_val rfl rfl rfl (by first | exact rLd (v := .int .i64 _) rfl (by kernel_rfl) rfl (by first | exact hI.c0 rfl | exact hI.oldp hb | exact hb) | exact rLd rfl (by kernel_rfl) rfl (by first | exact hI.c0 rfl | exact hI.oldp hb | exact hb)) ?_
      refine WL_val rfl rfl rfl (by first | exact rLd (v := .int .i64 _) rfl (by kernel_rfl) rfl (by first | exact hI.c0 rfl | exact hI.oldp hb | exact hb) | exact rLd rfl (by kernel_rfl) rfl (by first | exact hI.c0 rfl | exact hI.oldp hb | exact hb)) ?_
      refine WL_val rfl rfl rfl (by first | exact rEqlT rfl rfl rfl (by omega) | exact rEqlF rfl rfl rfl (by omega) | exact rEql rfl rfl rfl) ?_
      refine WL_val rfl rfl rfl (by first | exact rMoveB rfl rfl | exact rMove rfl) ?_
      first | refine WL_val rfl rfl rfl (by first | exact rFldN (off := 1) rfl (by kernel_rfl) rfl | exact rFld (off := 1) rfl (by kernel_rfl) rfl) ?_ | refine WL_skip rfl rfl rfl ?_
      first | refine WL_val rfl rfl rfl (by first | exact rLd (v := .int .i64 _) rfl (by kernel_rfl) rfl (by first | exact hI.c0 rfl | exact hI.oldp hb | exact hb) | exact rLd rfl (by kernel_rfl) rfl (by first | exact hI.c0 rfl | exact hI.oldp hb | exact hb)) ?_ | refine WL_skip rfl rfl rfl ?_
      first | refine WL_val rfl rfl rfl (by first | exact rEqlT rfl rfl rfl (by omega) | exact rEqlF rfl rfl rfl (by omega) | exact rEql rfl rfl rfl) ?_ | refine WL_skip rfl rfl rfl ?_
      refine WL_val rfl rfl rfl (by first | exact rPickTB rfl rfl rfl | exact rPickFB rfl rfl rfl | exact rPickB rfl rfl rfl rfl) ?_
      refine WL_val rfl rfl rfl (by first | exact rAsgnB rfl rfl | exact rAsgn rfl) ?_
      refine WL_nil ?_
      refine W_ret ?_
      exact ret1 3 (.inr rfl) rfl ⟨by rw [decide_eq_false (fun h => h2 h.2)]; rfl, hI.pu⟩
  · refine W_seq ?_
    refine W_region ?_
    refine WL_val rfl rfl rfl (by first | exact rFldN (off := 0) rfl (by kernel_rfl) rfl | exact rFld0 rfl (by kernel_rfl) rfl) ?_
    refine WL_val rfl rfl rfl (by first | exact rLd (v := .int .i64 _) rfl (by kernel_rfl) rfl (by first | exact hI.c0 rfl | exact hI.oldp hb | exact hb) | exact rLd rfl (by kernel_rfl) rfl (by first | exact hI.c0 rfl | exact hI.oldp hb | exact hb)) ?_
    refine WL_val rfl rfl rfl (by first | exact rLd (v := .int .i64 _) rfl (by kernel_rfl) rfl (by first | exact hI.c0 rfl | exact hI.oldp hb | exact hb) | exact rLd rfl (by kernel_rfl) rfl (by first | exact hI.c0 rfl | exact hI.oldp hb | exact hb)) ?_
    refine WL_val rfl rfl rfl (by first | exact rEqlT rfl rfl rfl (by omega) | exact rEqlF rfl rfl rfl (by omega) | exact rEql rfl rfl rfl) ?_
    refine WL_val rfl rfl rfl (by first | exact rMoveB rfl rfl | exact rMove rfl) ?_
    refine WL_skip rfl rfl rfl ?_
    refine WL_skip rfl rfl rfl ?_
    refine WL_skip rfl rfl rfl ?_
    refine WL_val rfl rfl rfl (by first | exact rPickTB rfl rfl rfl | exact rPickFB rfl rfl rfl | exact rPickB rfl rfl rfl rfl) ?_
    refine WL_val rfl rfl rfl (by first | exact rAsgnB rfl rfl | exact rAsgn rfl) ?_
    refine WL_nil ?_
    refine W_ret ?_
    exact ret1 3 (.inr rfl) rfl ⟨by rw [decide_eq_false (fun h => h1 h.1)]; rfl, hI.pu⟩
set_option maxHeartbeats 1000000 in
theorem idxF_any (A : Option Addr) (n c : Nat) (l : List St) (tx : Int) (b : Nat) (D : Nat → Prop) (w0 : World) (h : Sts w0 D (.slice A n c) l) (hb : w0.cell? ⟨b, 0, none⟩ = some (.int .i64 tx)) :
    Calls Tryd.prog 44 #[.slice A n c, .func (.func 33) #[] #[.pointer (some ⟨b, 0, none⟩)]] w0 fun en w' => (∃ o : Option Nat, en = .returned (.int .i64 (optI o)) ∧ (o.isSome = true ↔ ∃ s ∈ l, s.tx = tx ∧ s.kind = 3)) ∧ Pure w0 w' := by
  have hI := Inv.start (fun _ => False) w0
  obtain ⟨hn, hc1, hc2⟩ := h.len
  refine calls_of_W (N := Tryd.f44.ntmps) Tryd.func44 rfl rfl rfl ?_
  refine W_seq ?_
  refine W_region ?_
  refine WL_val rfl rfl rfl (by first | exact rAsgnI rfl rfl | exact rAsgn rfl) ?_
  refine WL_nil ?_
  refine W_seq ?_
  refine W_seq ?_
  refine W_region ?_
  refine WL_val rfl rfl rfl (by first | exact rMoveS rfl rfl | exact rMove rfl) ?_
  refine WL_val rfl rfl rfl (rLen rfl Tryd.underlying22 rfl) ?_
  refine WL_val rfl rfl rfl (by first | exact rMoveI rfl rfl | exact rMove rfl) ?_
  refine WL_nil ?_
  refine W_block ?_
  refine W_loop (fun ρ w => ∃ k : Nat, k ≤ n ∧ (∀ j, j < k → ¬ ((sAt l j).tx = tx ∧ (sAt l j).kind = 3)) ∧ Has ρ [(8, .int .i64 (k : Int)), (7, .int .i64 (n : Int)), (0, .slice A n c), (1, .func (.func 33) #[] #[.pointer (some ⟨b, 0, none⟩)])] ∧ Inv (fun _ => False) w0 w []) (fun ρ _ => n - cnt (ρ 8))
    ⟨0, by omega, fun j hj => by omega, ⟨rfl, rfl, rfl, rfl, trivial⟩, hI⟩ ?_
  clear hI
  rintro ρ w ⟨k, hk, hno, hH, hI⟩
  obtain ⟨σ, rfl⟩ := hH.open
  by_cases hkn : k < n
  · obtain ⟨bA, oA, rfl, q0, q1, q2⟩ := h.at (show k < l.length by omega)
    refine W_seq ?_
    refine W_region ?_
    refine WL_val rfl rfl rfl (by first | exact rLssT rfl rfl rfl (by omega) | exact rLssF rfl rfl rfl (by omega) | exact rLss rfl rfl rfl) ?_
    refine WL_nil ?_
    refine W_seq ?_
    refine W_cond true rfl ?_
    refine W_skip ?_
    refine W_seq ?_
    refine W_block ?_
    refine W_seq ?_
    refine W_region ?_
    refine WL_val rfl rfl rfl (by first | exact rMoveI rfl rfl | exact rMove rfl) ?_
    refine WL_val rfl rfl rfl (by first | exact rAsgnI rfl rfl | exact rAsgn rfl) ?_
    refine WL_nil ?_
    by_cases hx : (sAt l k).tx = tx ∧ (sAt l k).kind = 3
    · refine W_seq ?_
      refine W_region ?_
      refine WL_val rfl rfl rfl (by first | exact rMoveF rfl rfl | exact rMove rfl) ?_
      refine WL_val rfl rfl rfl (by first | exact rMoveS rfl rfl | exact rMove rfl) ?_
      refine WL_val rfl rfl rfl (by first | exact rMoveI rfl rfl | exact rMove rfl) ?_
      refine WL_val rfl rfl rfl (rIdx (sz := 3) rfl Tryd.underlying22 (by kernel_rfl) rfl rfl (by omega)) ?_
      refine WL_val rfl rfl rfl (by first | exact rLd3 rfl (by kernel_rfl) (by kernel_rfl) rfl (by first | exact hI.oldp q0 | exact q0 | exact hI.oldp q1 | exact q1 | exact hI.oldp q2 | exact q2) (by first | exact hI.oldp q0 | exact q0 | exact hI.oldp q1 | exact q1 | exact hI.oldp q2 | exact q2) (by first | exact hI.oldp q0 | exact q0 | exact hI.oldp q1 | exact q1 | exact hI.oldp q2 | exact q2)) ?_
      refine WL_call rfl rfl rfl (rCallF (first := []) (cap := [_]) (vs := [.agg (stV (sAt l k)).toArray, .pointer _]) rfl rfl Tryd.func33 rfl rfl rfl) ?_
      refine (clo_any (sAt l k) tx b _ (hI.oldp hb)).mono ?_
      rw [decide_eq_true hx]
      rintro e w1 ⟨rfl, hp⟩
      refine ⟨_, rfl, ?_⟩
      replace hI := hI.pure hp
      refine WL_nil ?_
      refine W_cond true rfl ?_
      refine W_seq ?_
      refine W_region ?_
      refine WL_val rfl rfl rfl (by first | exact rMoveI rfl rfl | exact rMove rfl) ?_
      refine WL_val rfl rfl rfl (by first | exact rAsgnI rfl rfl | exact rAsgn rfl) ?_
      refine WL_nil ?_
      refine W_ret ?_
      exact ret1 4 (.inr rfl) rfl ⟨⟨some k, rfl, by simp only [Option.isSome_some, true_iff]; exact ⟨sAt l k, by simp [sAt, List.getD, List.getElem?_eq_getElem (show k < l.length by omega)], hx⟩⟩, hI.pu⟩
    · refine W_seq ?_
      refine W_region ?_
      refine WL_val rfl rfl rfl (by first | exact rMoveF rfl rfl | exact rMove rfl) ?_
      refine WL_val rfl rfl rfl (by first | exact rMoveS rfl rfl | exact rMove rfl) ?_
      refine WL_val rfl rfl rfl (by first | exact rMoveI rfl rfl | exact rMove rfl) ?_
      refine WL_val rfl rfl rfl (rIdx (sz := 3) rfl Tryd.underlying22 (by kernel_rfl) rfl rfl (by omega)) ?_
      refine WL_val rfl rfl rfl (by first | exact rLd3 rfl (by kernel_rfl) (by kernel_rfl) rfl (by first | exact hI.oldp q0 | exact q0 | exact hI.oldp q1 | exact q1 | exact hI.oldp q2 | exact q2) (by first | exact hI.oldp q0 | exact q0 | exact hI.oldp q1 | exact q1 | exact hI.oldp q2 | exact q2) (by first | exact hI.oldp q0 | exact q0 | exact hI.oldp q1 | exact q1 | exact hI.oldp q2 | exact q2)) ?_
      refine WL_call rfl rfl rfl (rCallF (first := []) (cap := [_]) (vs := [.agg (stV (sAt l k)).toArray, .pointer _]) rfl rfl Tryd.func33 rfl rfl rfl) ?_
      refine (clo_any (sAt l k) tx b _ (hI.oldp hb)).mono ?_
      rw [decide_eq_false hx]
      rintro e w1 ⟨rfl, hp⟩
      refine ⟨_, rfl, ?_⟩
      replace hI := hI.pure hp
      refine WL_nil ?_
      refine W_cond false rfl ?_
      refine W_skip ?_
      refine W_region ?_
      refine WL_val rfl rfl rfl (by first | exact rInc rfl rfl rfl (by omega) | exact rAdd rfl rfl rfl (by omega) | exact rAddW rfl rfl rfl) ?_
      refine WL_val rfl rfl rfl (by first | exact rMoveI rfl rfl | exact rMove rfl) ?_
      refine WL_nil ?_
      refine ⟨⟨k + 1, by omega, fun j hj => ?_, ⟨rfl, rfl, rfl, rfl, trivial⟩, hI⟩, by show n - ((k + 1 : Nat) : Int).toNat < n - (k : Int).toNat; omega⟩
      rcases Nat.lt_or_ge j k with h1 | h1
      · exact hno j h1
      · have : j = k := by omega
        subst this; exact hx
  · refine W_seq ?_
    refine W_region ?_
    refine WL_val rfl rfl rfl (by first | exact rLssT rfl rfl rfl (by omega) | exact rLssF rfl rfl rfl (by omega) | exact rLss rfl rfl rfl) ?_
    refine WL_nil ?_
    refine W_seq ?_
    refine W_cond false rfl ?_
    refine W_exit ?_
    refine W_seq ?_
    refine W_region ?_
    refine WL_val rfl rfl rfl (by first | exact rAsgnI rfl rfl | exact rAsgn rfl) ?_
    refine WL_nil ?_
    refine W_ret ?_
    refine ret1 4 (.inr rfl) rfl ⟨⟨none, rfl, ?_⟩, hI.pu⟩
    simp only [Option.isSome_none, Bool.false_eq_true, false_iff]
    rintro ⟨s, hs, hp⟩
    exact all_getD (p := fun y => ¬ (y.tx = tx ∧ y.kind = 3)) (fun j hj => hno j (by omega)) s hs hp
theorem conF_any (A : Option Addr) (n c : Nat) (l : List St) (tx : Int) (b : Nat) (D : Nat → Prop) (w0 : World) (h : Sts w0 D (.slice A n c) l) (hb : w0.cell? ⟨b, 0, none⟩ = some (.int .i64 tx)) :
    Calls Tryd.prog 32 #[.slice A n c, .func (.func 33) #[] #[.pointer (some ⟨b, 0, none⟩)]] w0 fun en w' => en = .returned (.bool (l.any fun s => decide (s.tx = tx ∧ s.kind = 3))) ∧ Pure w0 w' := by
  have hI := Inv.start (fun _ => False) w0
  refine calls_of_W (N := Tryd.f32.ntmps) Tryd.func32 rfl rfl rfl ?_
  refine W_seq ?_
  refine W_region ?_
  refine WL_val rfl rfl rfl (by first | exact rAsgnB rfl rfl | exact rAsgn rfl) ?_
  refine WL_nil ?_
  refine W_seq ?_
  refine W_region ?_
  refine WL_val rfl rfl rfl (by first | exact rMoveS rfl rfl | exact rMove rfl) ?_
  refine WL_val rfl rfl rfl (by first | exact rMoveF rfl rfl | exact rMove rfl) ?_
  refine WL_call rfl rfl rfl (rCall (vs := [.slice _ _ _, .func _ _ _]) rfl Tryd.func44 rfl rfl rfl) ?_
  refine (idxF_any A n c l tx b D _ h hb).mono ?_
  rintro e w1 ⟨⟨o, rfl, ho⟩, hp⟩
  refine ⟨_, rfl, ?_⟩
  replace hI := hI.pure hp
  refine WL_val rfl rfl rfl (rGeq rfl rfl rfl) ?_
  refine WL_val rfl rfl rfl (by first | exact rAsgnB rfl rfl | exact rAsgn rfl) ?_
  refine WL_nil ?_
  refine W_ret ?_
  refine ret1 4 (.inr rfl) rfl ⟨?_, hI.pu⟩
  have : decide (0 ≤ optI o) = (l.any fun s => decide (s.tx = tx ∧ s.kind = 3)) := by
    rw [Bool.eq_iff_iff, decide_eq_true_eq, List.any_eq_true]
    simp only [decide_eq_true_eq]
    rw [← ho]
    cases o <;> simp [optI]
  rw [← this]; rfl
def comB (l : List St) (t : Nat) : Bool := l.any fun s => decide (s.tx = (t : Int) ∧ s.kind = 3)
def commitsTo (l : List St) (k : Nat) : List Nat := (List.range k).filter (comB l)
def commitsF (l : List St) : List Nat := commitsTo l 8
theorem commitsTo_succ (l : List St) (k : Nat) : commitsTo l (k + 1) = if comB l k then commitsTo l k ++ [k] else commitsTo l k := by
  unfold commitsTo
  rw [List.range_succ, List.filter_append]
  cases h : comB l k <;> simp [h]
theorem commitsTo_len (l : List St) (k : Nat) : (commitsTo l k).length ≤ k := by
  have := List.length_filter_le (comB l) (List.range k)
  simpa [commitsTo] using this
theorem com_of_mem {l : List St} {t : Nat} (h : (⟨(t : Int), 3, 0⟩ : St) ∈ l) : comB l t = true := by
  unfold comB
  rw [List.any_eq_true]
  exact ⟨_, h, by simp⟩
def OwnedInts (w0 w' : World) (v : Value) (l : List Nat) : Prop := ∃ A c, v = .slice A l.length c ∧ w'.ownsRow w0.heap.size 3 1 (.slice A l.length c) l.length (natV l)
set_option maxHeartbeats 1000000 in
theorem commits_any (A : Option Addr) (n c : Nat) (l : List St) (D : Nat → Prop) (w0 : World) (h : Sts w0 D (.slice A n c) l) :
    Calls Tryd.prog 15 #[.slice A n c] w0 fun en w' => (∃ v, en = .returned v ∧ OwnedInts w0 w' v (commitsF l)) ∧ Pure w0 w' := by
  have hI : Inv (fun _ => False) w0 w0 [Row w0.heap.size 3 1 none 0 0 (natV [])] := (Inv.start (fun _ => False) w0).fresh (Pure.refl w0) (Row.nil w0 _ _ _) (fun k hk => by simp [Row] at hk)
  refine calls_of_W (N := Tryd.f15.ntmps) Tryd.func15 rfl rfl rfl ?_
  refine W_seq ?_
  refine W_region ?_
  refine WL_val rfl rfl rfl (by first | exact rAsgnS rfl rfl | exact rAsgn rfl) ?_
  refine WL_nil ?_
  refine W_seq ?_
  refine W_region ?_
  refine WL_val rfl rfl rfl (by first | exact rAsgnS rfl rfl | exact rAsgn rfl) ?_
  refine WL_nil ?_
  refine W_seq ?_
  refine W_seq ?_
  refine W_region ?_
  refine WL_val rfl rfl rfl (by first | exact rMoveI rfl rfl | exact rMove rfl) ?_
  refine WL_nil ?_
  refine W_block ?_
  refine W_loop (fun ρ w => ∃ (k : Nat) (A' : Option Addr) (c' : Nat), k ≤ 8 ∧ Has ρ [(5, .int .i64 (k : Int)), (0, .slice A n c), (3, .slice A' (commitsTo l k).length c')] ∧ Inv (fun _ => False) w0 w [Row w0.heap.size 3 1 A' (commitsTo l k).length c' (natV (commitsTo l k))]) (fun ρ _ => 8 - cnt (ρ 5))
    ⟨0, none, 0, by omega, ⟨rfl, rfl, rfl, trivial⟩, hI⟩ ?_
  clear hI
  rintro ρ w ⟨k, A', c', hk, hH, hI⟩
  obtain ⟨σ, rfl⟩ := hH.open
  have hlen := commitsTo_len l k
  by_cases hk8 : k < 8
  · have hsu := commitsTo_succ l k
    refine W_seq ?_
    refine W_region ?_
    refine WL_val rfl rfl rfl (by first | exact rLssT rfl rfl rfl (by omega) | exact rLssF rfl rfl rfl (by omega) | exact rLss rfl rfl rfl) ?_
    refine WL_nil ?_
    refine W_seq ?_
    refine W_cond true rfl ?_
    refine W_skip ?_
    refine W_seq ?_
    refine W_block ?_
    refine W_seq ?_
    refine W_region ?_
    refine WL_val rfl rfl rfl (by first | exact rMoveI rfl rfl | exact rMove rfl) ?_
    refine WL_alloc (u := .int .i64 0) (vs := #[.int .i64 0]) hI rfl rfl rfl rfl (by kernel_rfl) rfl ?_
    clear hI; rintro b4 w - - hI
    first | refine WL_stw0 (u := .int .i64 _) (vs := #[_]) (n := 1) hI rfl rfl rfl rfl rfl rfl (by kernel_rfl) rfl rfl rfl ?_ | refine WL_stw1 (u := .int .i64 _) (vs := #[_]) (n := 1) hI rfl rfl rfl rfl rfl rfl (by kernel_rfl) rfl rfl rfl ?_ | refine WL_stw2 (u := .int .i64 _) (vs := #[_]) (n := 1) hI rfl rfl rfl rfl rfl rfl (by kernel_rfl) rfl rfl rfl ?_ | refine WL_stw3 (u := .int .i64 _) (vs := #[_]) (n := 1) hI rfl rfl rfl rfl rfl rfl (by kernel_rfl) rfl rfl rfl ?_ | refine WL_stw4 (u := .int .i64 _) (vs := #[_]) (n := 1) hI rfl rfl rfl rfl rfl rfl (by kernel_rfl) rfl rfl rfl ?_ | refine WL_stw5 (u := .int .i64 _) (vs := #[_]) (n := 1) hI rfl rfl rfl rfl rfl rfl (by kernel_rfl) rfl rfl rfl ?_ | refine WL_st0 (u := .int .i64 _) hI rfl rfl rfl rfl rfl rfl (by kernel_rfl) rfl rfl rfl ?_ | refine WL_st1 (u := .int .i64 _) hI rfl rfl rfl rfl rfl rfl (by kernel_rfl) rfl rfl rfl ?_ | refine WL_st2 (u := .int .i64 _) hI rfl rfl rfl rfl rfl rfl (by kernel_rfl) rfl rfl rfl ?_ | refine WL_st3 (u := .int .i64 _) hI rfl rfl rfl rfl rfl rfl (by kernel_rfl) rfl rfl rfl ?_ | refine WL_st4 (u := .int .i64 _) hI rfl rfl rfl rfl rfl rfl (by kernel_rfl) rfl rfl rfl ?_ | refine WL_st5 (u := .int .i64 _) hI rfl rfl rfl rfl rfl rfl (by kernel_rfl) rfl rfl rfl ?_
    clear hI; intro w hI
    refine WL_nil ?_
    refine W_seq_cut (fun ρ w => ∃ b4, Has ρ [(16, .bool (comB l k)), (4, .pointer (some ⟨b4, 0, none⟩)), (5, .int .i64 (k : Int)), (0, .slice A n c), (3, .slice A' (commitsTo l k).length c')] ∧ Inv (fun _ => False) w0 w [B b4 3 #[.int .i64 (k : Int)], Row w0.heap.size 3 1 A' (commitsTo l k).length c' (natV (commitsTo l k))]) ?_ ?_
    · by_cases hm : (⟨(k : Int), 3, 0⟩ : St) ∈ l
      · refine W_region ?_
        refine WL_val rfl rfl rfl (by first | exact rMoveS rfl rfl | exact rMove rfl) ?_
        refine WL_val rfl rfl rfl (by first | exact rLd (v := .int .i64 _) rfl (by kernel_rfl) rfl (by first | exact hI.c0 rfl) | exact rLd rfl (by kernel_rfl) rfl (by first | exact hI.c0 rfl)) ?_
        refine WL_val rfl rfl rfl (rBuild (qs := [(0, .int .i64 _), (1, .int .i64 _)]) (vs := [_, _, _]) [.int .i64 0, .int .i64 0, .int .i64 0] [0, 1] rfl rfl rfl (fun _ => by kernel_rfl)) ?_
        refine WL_call rfl rfl rfl (rCall (vs := [.slice _ _ _, .agg _]) rfl Tryd.func31 rfl rfl rfl) ?_
        refine (conS_any A n c l ⟨(k : Int), 3, 0⟩ D _ (h.pure hI.pu)).mono ?_
        rw [decide_eq_true hm]
        rintro e w1 ⟨rfl, hp⟩
        refine ⟨_, rfl, ?_⟩
        replace hI := hI.pure hp
        refine WL_val rfl rfl rfl (by first | exact rMoveB rfl rfl | exact rMove rfl) ?_
        refine WL_skip rfl rfl rfl ?_
        refine WL_skip rfl rfl rfl ?_
        refine WL_skip rfl rfl rfl ?_
        refine WL_val rfl rfl rfl (by first | exact rPickTB rfl rfl rfl | exact rPickFB rfl rfl rfl | exact rPickB rfl rfl rfl rfl) ?_
        refine WL_nil ?_
        exact ⟨b4, ⟨by rw [com_of_mem hm]; rfl, rfl, rfl, rfl, rfl, trivial⟩, hI⟩
      · refine W_region ?_
        refine WL_val rfl rfl rfl (by first | exact rMoveS rfl rfl | exact rMove rfl) ?_
        refine WL_val rfl rfl rfl (by first | exact rLd (v := .int .i64 _) rfl (by kernel_rfl) rfl (by first | exact hI.c0 rfl) | exact rLd rfl (by kernel_rfl) rfl (by first | exact hI.c0 rfl)) ?_
        refine WL_val rfl rfl rfl (rBuild (qs := [(0, .int .i64 _), (1, .int .i64 _)]) (vs := [_, _, _]) [.int .i64 0, .int .i64 0, .int .i64 0] [0, 1] rfl rfl rfl (fun _ => by kernel_rfl)) ?_
        refine WL_call rfl rfl rfl (rCall (vs := [.slice _ _ _, .agg _]) rfl Tryd.func31 rfl rfl rfl) ?_
        refine (conS_any A n c l ⟨(k : Int), 3, 0⟩ D _ (h.pure hI.pu)).mono ?_
        rw [decide_eq_false hm]
        rintro e w1 ⟨rfl, hp⟩
        refine ⟨_, rfl, ?_⟩
        replace hI := hI.pure hp
        refine WL_val rfl rfl rfl (by first | exact rMoveB rfl rfl | exact rMove rfl) ?_
        first | refine WL_val rfl rfl rfl (by first | exact rMoveS rfl rfl | exact rMove rfl) ?_ | refine WL_skip rfl rfl rfl ?_
        first | refine WL_val rfl rfl rfl (rFunc (l := []) (m := [_]) rfl rfl rfl) ?_ | refine WL_skip rfl rfl rfl ?_
        refine WL_call rfl rfl rfl (rCall (vs := [.slice _ _ _, .func _ _ _]) rfl Tryd.func32 rfl rfl rfl) ?_
        refine (conF_any A n c l (k : Int) b4 D _ (h.pure hI.pu) (hI.c0 rfl)).mono ?_
        rintro e w1 ⟨rfl, hp⟩
        refine ⟨_, rfl, ?_⟩
        replace hI := hI.pure hp
        refine WL_val rfl rfl rfl (by first | exact rPickTB rfl rfl rfl | exact rPickFB rfl rfl rfl | exact rPickB rfl rfl rfl rfl) ?_
        refine WL_nil ?_
        exact ⟨b4, ⟨rfl, rfl, rfl, rfl, rfl, trivial⟩, hI⟩
    clear hI
    rintro ρ w ⟨b4, hH, hI⟩
    obtain ⟨σ, rfl⟩ := hH.open
    cases hcb : comB l k with
    | true =>
      rw [hcb, if_pos rfl] at hsu
      refine W_cond true (by rw [← hcb]; rfl) ?_
      refine W_region ?_
      refine WL_val rfl rfl rfl (by first | exact rMoveS rfl rfl | exact rMove rfl) ?_
      refine WL_val rfl rfl rfl (by first | exact rLd (v := .int .i64 _) rfl (by kernel_rfl) rfl (by first | exact hI.c0 rfl | exact hI.c1 rfl | exact hI.c2 rfl | exact hI.c3 rfl | exact hI.c4 rfl | exact hI.c5 rfl) | exact rLd rfl (by kernel_rfl) rfl (by first | exact hI.c0 rfl | exact hI.c1 rfl | exact hI.c2 rfl | exact hI.c3 rfl | exact hI.c4 rfl | exact hI.c5 rfl)) ?_
      refine WL_lit (vs := [_]) (qs := [(0, .int .i64 _)]) [.int .i64 0] [0] hI rfl rfl rfl rfl rfl rfl Tryd.underlying23 (fun _ => by kernel_rfl) ?_
      clear hI; rintro b19 w - - hI
      first | refine WL_app1 (z := .int .i64 0) (by_ := 8) hI rfl rfl rfl rfl rfl rfl Tryd.underlying23 (by kernel_rfl) rfl (by omega) (by rfl) hI.lit0 (by first | rfl | simp [i64s, Value.oneCell']) (by omega) (by omega) (by first | exact Nat.zero_le _ | (have := hI.chg.size; omega)) ?_ | refine WL_app2 (z := .int .i64 0) (by_ := 8) hI rfl rfl rfl rfl rfl rfl Tryd.underlying23 (by kernel_rfl) rfl (by omega) (by rfl) hI.lit0 (by first | rfl | simp [i64s, Value.oneCell']) (by omega) (by omega) (by first | exact Nat.zero_le _ | (have := hI.chg.size; omega)) ?_ | refine WL_app3 (z := .int .i64 0) (by_ := 8) hI rfl rfl rfl rfl rfl rfl Tryd.underlying23 (by kernel_rfl) rfl (by omega) (by rfl) hI.lit0 (by first | rfl | simp [i64s, Value.oneCell']) (by omega) (by omega) (by first | exact Nat.zero_le _ | (have := hI.chg.size; omega)) ?_ | refine WL_app4 (z := .int .i64 0) (by_ := 8) hI rfl rfl rfl rfl rfl rfl Tryd.underlying23 (by kernel_rfl) rfl (by omega) (by rfl) hI.lit0 (by first | rfl | simp [i64s, Value.oneCell']) (by omega) (by omega) (by first | exact Nat.zero_le _ | (have := hI.chg.size; omega)) ?_ | refine WL_app5 (z := .int .i64 0) (by_ := 8) hI rfl rfl rfl rfl rfl rfl Tryd.underlying23 (by kernel_rfl) rfl (by omega) (by rfl) hI.lit0 (by first | rfl | simp [i64s, Value.oneCell']) (by omega) (by omega) (by first | exact Nat.zero_le _ | (have := hI.chg.size; omega)) ?_
      clear hI; rintro A20 c20 w hA20 hc20 hI
      replace hI := hI.d0
      refine WL_val rfl rfl rfl (by first | exact rAsgnS rfl rfl | exact rAsgn rfl) ?_
      refine WL_nil ?_
      replace hI := hI.d0
      refine W_region ?_
      refine WL_val rfl rfl rfl (by first | exact rInc rfl rfl rfl (by omega) | exact rAdd rfl rfl rfl (by omega) | exact rAddW rfl rfl rfl) ?_
      refine WL_val rfl rfl rfl (by first | exact rMoveI rfl rfl | exact rMove rfl) ?_
      refine WL_nil ?_
      have e1 : (commitsTo l k ++ [k]).length = (commitsTo l k).length + 1 := by simp
      have e2 : natV (commitsTo l k ++ [k]) = natV (commitsTo l k) ++ [.int .i64 ((k : Nat) : Int)] := by simp [natV]
      refine ⟨⟨k + 1, A20, c20, by omega, ⟨rfl, rfl, by rw [hsu, e1]; rfl, trivial⟩, by rw [hsu, e1, e2]; exact hI⟩, by show 8 - ((k + 1 : Nat) : Int).toNat < 8 - (k : Int).toNat; omega⟩
    | false =>
      rw [hcb, if_neg (by simp)] at hsu
      refine W_cond false (by rw [← hcb]; rfl) ?_
      refine W_skip ?_
      replace hI := hI.d0
      refine W_region ?_
      refine WL_val rfl rfl rfl (by first | exact rInc rfl rfl rfl (by omega) | exact rAdd rfl rfl rfl (by omega) | exact rAddW rfl rfl rfl) ?_
      refine WL_val rfl rfl rfl (by first | exact rMoveI rfl rfl | exact rMove rfl) ?_
      refine WL_nil ?_
      refine ⟨⟨k + 1, A', c', by omega, ⟨rfl, rfl, by rw [hsu]; rfl, trivial⟩, by rw [hsu]; exact hI⟩, by show 8 - ((k + 1 : Nat) : Int).toNat < 8 - (k : Int).toNat; omega⟩
  · obtain rfl : k = 8 := by omega
    refine W_seq ?_
    refine W_region ?_
    refine WL_val rfl rfl rfl (by first | exact rLssT rfl rfl rfl (by omega) | exact rLssF rfl rfl rfl (by omega) | exact rLss rfl rfl rfl) ?_
    refine WL_nil ?_
    refine W_seq ?_
    refine W_cond false rfl ?_
    refine W_exit ?_
    refine W_seq ?_
    refine W_region ?_
    refine WL_val rfl rfl rfl (by first | exact rMoveS rfl rfl | exact rMove rfl) ?_
    refine WL_val rfl rfl rfl (by first | exact rAsgnS rfl rfl | exact rAsgn rfl) ?_
    refine WL_nil ?_
    refine W_ret ?_
    exact ret1 2 (.inr rfl) rfl ⟨⟨_, rfl, A', c', rfl, hI.g0⟩, hI.pu⟩
end Go.Proofs.YtgkmlnbnjbpodaaDoor
