/- cmp.Compare, slices.Compare at ints; merge: Last.Join, Last.Same. -/
import Derived.Test.YtkfciehgjhgmeaaMrg5
namespace Go.Proofs.Ytkfciehgjhgmeaa
open Go.RowKit
set_option linter.unusedVariables false
set_option linter.unusedSimpArgs false

def cmpI (a b : Int) : Int := if a < b then -1 else if b < a then 1 else 0
def cmpL : List Int → List Int → Int
  | [], [] => 0
  | [], _ :: _ => -1
  | _ :: _, [] => 1
  | a :: l, b :: m => if cmpI a b ≠ 0 then cmpI a b else cmpL l m
theorem cmpL_lt : ∀ (l m : List Int), cmpL l m < 0 ↔ l < m
  | [], [] => by simp [cmpL]
  | [], _ :: _ => by simp [cmpL]
  | _ :: _, [] => by simp [cmpL]
  | a :: l, b :: m => by
    rw [cmpL, List.cons_lt_cons_iff, ← cmpL_lt l m]
    unfold cmpI
    by_cases h1 : a < b
    · simp [h1]
    · by_cases h2 : b < a
      · simp [h1, h2]; omega
      · have : a = b := by omega
        simp [this]
theorem isnan_any (a : Int) (w0 : World) : Calls Try.prog 57 #[.int .i64 a] w0 fun en w' => en = .returned (.bool false) ∧ Pure w0 w' := by
  have hI := Inv.start (fun _ => False) w0
  refine calls_of_W (N := Try.f57.ntmps) Try.func57 rfl rfl rfl ?_
  refine W_seq ?_
  refine W_region ?_
  refine WL_val rfl rfl rfl (by first | exact rAsgnB rfl rfl | exact rAsgn rfl) ?_
  refine WL_nil ?_
  refine W_seq ?_
  refine W_region ?_
  refine WL_val rfl rfl rfl (by first | exact rMoveI rfl rfl | exact rMove rfl) ?_
  refine WL_val rfl rfl rfl (by first | exact rMoveI rfl rfl | exact rMove rfl) ?_
  refine WL_val rfl rfl rfl (by first | exact rNeqT rfl rfl rfl (by omega) | exact rNeqF rfl rfl rfl (by omega) | exact rNeq rfl rfl rfl) ?_
  refine WL_val rfl rfl rfl (by first | exact rAsgnB rfl rfl | exact rAsgn rfl) ?_
  refine WL_nil ?_
  refine W_ret ?_
  exact ret1 2 (.inr rfl) rfl ⟨rfl, hI.pu⟩
theorem cmp_any (a b : Int) (w0 : World) : Calls Try.prog 77 #[.int .i64 a, .int .i64 b] w0 fun en w' => en = .returned (.int .i64 (cmpI a b)) ∧ Pure w0 w' := by
  have hI := Inv.start (fun _ => False) w0
  refine calls_of_W (N := Try.f77.ntmps) Try.func77 rfl rfl rfl ?_
  refine W_seq ?_
  refine W_region ?_
  refine WL_val rfl rfl rfl (by first | exact rAsgnI rfl rfl | exact rAsgn rfl) ?_
  refine WL_nil ?_
  refine W_seq ?_
  refine W_region ?_
  refine WL_val rfl rfl rfl (by first | exact rMoveI rfl rfl | exact rMove rfl) ?_
  refine WL_call rfl rfl rfl (rCall (vs := [.int .i64 _]) rfl Try.func57 rfl rfl rfl) ?_
  refine (isnan_any _ _).mono ?_
  rintro e w1 ⟨rfl, hp⟩
  refine ⟨_, rfl, ?_⟩
  replace hI := hI.pure hp
  refine WL_val rfl rfl rfl (by first | exact rAsgnB rfl rfl | exact rAsgn rfl) ?_
  refine WL_nil ?_
  refine W_seq ?_
  refine W_region ?_
  refine WL_val rfl rfl rfl (by first | exact rMoveI rfl rfl | exact rMove rfl) ?_
  refine WL_call rfl rfl rfl (rCall (vs := [.int .i64 _]) rfl Try.func57 rfl rfl rfl) ?_
  refine (isnan_any _ _).mono ?_
  rintro e w1 ⟨rfl, hp⟩
  refine ⟨_, rfl, ?_⟩
  replace hI := hI.pure hp
  refine WL_val rfl rfl rfl (by first | exact rAsgnB rfl rfl | exact rAsgn rfl) ?_
  refine WL_nil ?_
  refine W_seq ?_
  refine W_seq ?_
  refine W_region ?_
  refine WL_val rfl rfl rfl (by first | exact rMoveB rfl rfl | exact rMove rfl) ?_
  refine WL_nil ?_
  refine W_cond false rfl ?_
  refine W_skip ?_
  refine W_seq ?_
  refine W_seq ?_
  refine W_region ?_
  refine WL_val rfl rfl rfl (by first | exact rMoveB rfl rfl | exact rMove rfl) ?_
  refine WL_nil ?_
  refine W_cond false rfl ?_
  refine W_skip ?_
  by_cases h1 : a < b
  · refine W_seq ?_
    refine W_seq ?_
    refine W_region ?_
    refine WL_val rfl rfl rfl (by first | exact rMoveI rfl rfl | exact rMove rfl) ?_
    refine WL_val rfl rfl rfl (by first | exact rMoveI rfl rfl | exact rMove rfl) ?_
    refine WL_val rfl rfl rfl (by first | exact rLssT rfl rfl rfl (by omega) | exact rLssF rfl rfl rfl (by omega) | exact rLss rfl rfl rfl) ?_
    refine WL_nil ?_
    refine W_cond true rfl ?_
    refine W_seq ?_
    refine W_region ?_
    refine WL_val rfl rfl rfl (by first | exact rAsgnI rfl rfl | exact rAsgn rfl) ?_
    refine WL_nil ?_
    refine W_ret ?_
    exact ret1 4 (.inr rfl) rfl ⟨by simp [cmpI, h1, upd], hI.pu⟩
  · refine W_seq ?_
    refine W_seq ?_
    refine W_region ?_
    refine WL_val rfl rfl rfl (by first | exact rMoveI rfl rfl | exact rMove rfl) ?_
    refine WL_val rfl rfl rfl (by first | exact rMoveI rfl rfl | exact rMove rfl) ?_
    refine WL_val rfl rfl rfl (by first | exact rLssT rfl rfl rfl (by omega) | exact rLssF rfl rfl rfl (by omega) | exact rLss rfl rfl rfl) ?_
    refine WL_nil ?_
    refine W_cond false rfl ?_
    refine W_skip ?_
    by_cases h2 : b < a
    · refine W_seq ?_
      refine W_seq ?_
      refine W_region ?_
      refine WL_val rfl rfl rfl (by first | exact rMoveI rfl rfl | exact rMove rfl) ?_
      refine WL_val rfl rfl rfl (by first | exact rMoveI rfl rfl | exact rMove rfl) ?_
      refine WL_val rfl rfl rfl (by first | exact rGtrT rfl rfl rfl (by omega) | exact rGtrF rfl rfl rfl (by omega) | exact rGtr rfl rfl rfl) ?_
      refine WL_nil ?_
      refine W_cond true rfl ?_
      refine W_seq ?_
      refine W_region ?_
      refine WL_val rfl rfl rfl (by first | exact rAsgnI rfl rfl | exact rAsgn rfl) ?_
      refine WL_nil ?_
      refine W_ret ?_
      exact ret1 4 (.inr rfl) rfl ⟨by simp [cmpI, h1, h2, upd], hI.pu⟩
    · refine W_seq ?_
      refine W_seq ?_
      refine W_region ?_
      refine WL_val rfl rfl rfl (by first | exact rMoveI rfl rfl | exact rMove rfl) ?_
      refine WL_val rfl rfl rfl (by first | exact rMoveI rfl rfl | exact rMove rfl) ?_
      refine WL_val rfl rfl rfl (by first | exact rGtrT rfl rfl rfl (by omega) | exact rGtrF rfl rfl rfl (by omega) | exact rGtr rfl rfl rfl) ?_
      refine WL_nil ?_
      refine W_cond false rfl ?_
      refine W_skip ?_
      refine W_seq ?_
      refine W_region ?_
      refine WL_val rfl rfl rfl (by first | exact rAsgnI rfl rfl | exact rAsgn rfl) ?_
      refine WL_nil ?_
      refine W_ret ?_
      exact ret1 4 (.inr rfl) rfl ⟨by simp [cmpI, h1, h2, upd], hI.pu⟩
set_option maxHeartbeats 1000000 in
theorem compare_any (A : Option Addr) (n c : Nat) (l : List Int) (D : Nat → Prop) (A2 : Option Addr) (n2 c2 : Nat) (m : List Int) (D2 : Nat → Prop) (w0 : World) (h : Ints w0 D (.slice A n c) l) (hl : l.length = n) (h2 : Ints w0 D2 (.slice A2 n2 c2) m) (hl2 : m.length = n2) :
    Calls Try.prog 76 #[.slice A n c, .slice A2 n2 c2] w0 fun en w' => en = .returned (.int .i64 (cmpL l m)) ∧ Pure w0 w' := by
  have hI := Inv.start (fun _ => False) w0
  have hn : n ≤ 9223372036854775807 := by
    obtain ⟨A', c', he, h1, h2⟩ := Rd.form h
    injection he with _ _ e3
    subst e3
    omega
  refine calls_of_W (N := Try.f76.ntmps) Try.func76 rfl rfl rfl ?_
  refine W_seq ?_
  refine W_region ?_
  refine WL_val rfl rfl rfl (by first | exact rAsgnI rfl rfl | exact rAsgn rfl) ?_
  refine WL_nil ?_
  refine W_seq ?_
  refine W_seq ?_
  refine W_region ?_
  refine WL_val rfl rfl rfl (by first | exact rMoveS rfl rfl | exact rMove rfl) ?_
  refine WL_val rfl rfl rfl (rLen rfl Try.underlying22 rfl) ?_
  refine WL_val rfl rfl rfl (by first | exact rMoveI rfl rfl | exact rMove rfl) ?_
  refine WL_nil ?_
  refine W_block ?_
  refine W_loop (fun ρ w => ∃ (k : Nat), k ≤ n ∧ cmpL l m = cmpL (l.drop k) (m.drop k) ∧ k ≤ n2 ∧ Has ρ [(11, .int .i64 k), (10, .int .i64 n), (9, .slice A n c), (0, .slice A n c), (1, .slice A2 n2 c2)] ∧ Inv (fun _ => False) w0 w []) (fun ρ _ => n - cnt (ρ 11))
    ⟨0, by omega, rfl, by omega, ⟨rfl, rfl, rfl, rfl, rfl, trivial⟩, hI⟩ ?_
  clear hI
  rintro ρ w ⟨k, hk, hcmp, hk2, hH, hI⟩
  obtain ⟨σ, rfl⟩ := hH.open
  by_cases hkn : k < n
  · obtain ⟨bA, oA, rfl, hu⟩ := h.at (show k < l.length by omega)
    have hd1 : l.drop k = l.getD k 0 :: l.drop (k + 1) := by
      rw [List.drop_eq_getElem_cons (by omega)]
      simp [List.getD, List.getElem?_eq_getElem (show k < l.length by omega)]
    refine W_seq ?_
    refine W_region ?_
    refine WL_val rfl rfl rfl (by first | exact rLssT rfl rfl rfl (by omega) | exact rLssF rfl rfl rfl (by omega) | exact rLss rfl rfl rfl) ?_
    refine WL_nil ?_
    refine W_seq ?_
    refine W_cond true rfl ?_
    refine W_skip ?_
    refine W_seq ?_
    refine W_block ?_
    refine W_seq ?_
    refine W_region ?_
    refine WL_val rfl rfl rfl (by first | exact rMoveI rfl rfl | exact rMove rfl) ?_
    refine WL_val rfl rfl rfl (by first | exact rIdx0 rfl Try.underlying22 (by kernel_rfl) rfl rfl rfl (by omega) | exact rIdx1 rfl Try.underlying22 (by kernel_rfl) rfl rfl (by omega)) ?_
    refine WL_val rfl rfl rfl (by first | exact rLd (v := .int .i64 _) rfl (by kernel_rfl) rfl (by first | exact hI.c0 rfl | exact hI.c1 rfl | exact hI.c2 rfl | exact hI.c3 rfl | exact hI.c4 rfl | exact hI.c5 rfl | exact hI.oldp hu | exact hu) | exact rLd rfl (by kernel_rfl) rfl (by first | exact hI.c0 rfl | exact hI.c1 rfl | exact hI.c2 rfl | exact hI.c3 rfl | exact hI.c4 rfl | exact hI.c5 rfl | exact hI.oldp hu | exact hu)) ?_
    refine WL_val rfl rfl rfl (by first | exact rAsgnI rfl rfl | exact rAsgn rfl) ?_
    refine WL_val rfl rfl rfl (by first | exact rAsgnI rfl rfl | exact rAsgn rfl) ?_
    refine WL_nil ?_
    by_cases hm : k < n2
    · refine W_seq ?_
      refine W_seq ?_
      refine W_region ?_
      refine WL_val rfl rfl rfl (by first | exact rMoveI rfl rfl | exact rMove rfl) ?_
      refine WL_val rfl rfl rfl (by first | exact rMoveS rfl rfl | exact rMove rfl) ?_
      refine WL_val rfl rfl rfl (rLen rfl Try.underlying22 rfl) ?_
      refine WL_val rfl rfl rfl (by first | exact rGeqT rfl rfl rfl (by omega) | exact rGeqF rfl rfl rfl (by omega) | exact rGeq rfl rfl rfl) ?_
      refine WL_nil ?_
      refine W_cond false rfl ?_
      refine W_skip ?_
      obtain ⟨bB, oB, rfl, hu2⟩ := h2.at (show k < m.length by omega)
      have hd2 : m.drop k = m.getD k 0 :: m.drop (k + 1) := by
        rw [List.drop_eq_getElem_cons (by omega)]
        simp [List.getD, List.getElem?_eq_getElem (show k < m.length by omega)]
      refine W_seq ?_
      refine W_region ?_
      refine WL_val rfl rfl rfl (by first | exact rMoveS rfl rfl | exact rMove rfl) ?_
      refine WL_val rfl rfl rfl (by first | exact rMoveI rfl rfl | exact rMove rfl) ?_
      refine WL_val rfl rfl rfl (by first | exact rIdx0 rfl Try.underlying22 (by kernel_rfl) rfl rfl rfl (by omega) | exact rIdx1 rfl Try.underlying22 (by kernel_rfl) rfl rfl (by omega)) ?_
      refine WL_val rfl rfl rfl (by first | exact rLd (v := .int .i64 _) rfl (by kernel_rfl) rfl (by first | exact hI.c0 rfl | exact hI.c1 rfl | exact hI.c2 rfl | exact hI.c3 rfl | exact hI.c4 rfl | exact hI.c5 rfl | exact hI.oldp hu2 | exact hu2) | exact rLd rfl (by kernel_rfl) rfl (by first | exact hI.c0 rfl | exact hI.c1 rfl | exact hI.c2 rfl | exact hI.c3 rfl | exact hI.c4 rfl | exact hI.c5 rfl | exact hI.oldp hu2 | exact hu2)) ?_
      refine WL_val rfl rfl rfl (by first | exact rAsgnI rfl rfl | exact rAsgn rfl) ?_
      refine WL_nil ?_
      refine W_seq ?_
      refine W_region ?_
      refine WL_val rfl rfl rfl (by first | exact rMoveI rfl rfl | exact rMove rfl) ?_
      refine WL_val rfl rfl rfl (by first | exact rMoveI rfl rfl | exact rMove rfl) ?_
      refine WL_call rfl rfl rfl (rCall (vs := [.int .i64 _, .int .i64 _]) rfl Try.func77 rfl rfl rfl) ?_
      refine (cmp_any _ _ _).mono ?_
      rintro e w1 ⟨rfl, hp⟩
      refine ⟨_, rfl, ?_⟩
      replace hI := hI.pure hp
      refine WL_val rfl rfl rfl (by first | exact rAsgnI rfl rfl | exact rAsgn rfl) ?_
      refine WL_nil ?_
      rw [hd1, hd2, cmpL] at hcmp
      by_cases hz : cmpI (l.getD k 0) (m.getD k 0) = 0
      · rw [if_neg (by simp only [hz]; decide)] at hcmp
        refine W_seq ?_
        refine W_region ?_
        refine WL_val rfl rfl rfl (by first | exact rMoveI rfl rfl | exact rMove rfl) ?_
        refine WL_val rfl rfl rfl (by first | exact rNeqT rfl rfl rfl (by omega) | exact rNeqF rfl rfl rfl (by omega) | exact rNeq rfl rfl rfl) ?_
        refine WL_nil ?_
        refine W_cond false rfl ?_
        refine W_skip ?_
        refine W_region ?_
        refine WL_val rfl rfl rfl (by first | exact rInc rfl rfl rfl (by omega) | exact rAdd rfl rfl rfl (by omega) | exact rAddW rfl rfl rfl) ?_
        refine WL_val rfl rfl rfl (by first | exact rMoveI rfl rfl | exact rMove rfl) ?_
        refine WL_nil ?_
        exact ⟨⟨k + 1, by omega, hcmp, by omega, ⟨rfl, rfl, rfl, rfl, rfl, trivial⟩, hI⟩, by show n - ((k + 1 : Nat) : Int).toNat < n - (k : Int).toNat; omega⟩
      · rw [if_pos hz] at hcmp
        refine W_seq ?_
        refine W_region ?_
        refine WL_val rfl rfl rfl (by first | exact rMoveI rfl rfl | exact rMove rfl) ?_
        refine WL_val rfl rfl rfl (by first | exact rNeqT rfl rfl rfl (by omega) | exact rNeqF rfl rfl rfl (by omega) | exact rNeq rfl rfl rfl) ?_
        refine WL_nil ?_
        refine W_cond true rfl ?_
        refine W_seq ?_
        refine W_region ?_
        refine WL_val rfl rfl rfl (by first | exact rMoveI rfl rfl | exact rMove rfl) ?_
        refine WL_val rfl rfl rfl (by first | exact rAsgnI rfl rfl | exact rAsgn rfl) ?_
        refine WL_nil ?_
        refine W_ret ?_
        exact ret1 4 (.inr rfl) rfl ⟨by rw [hcmp]; rfl, hI.pu⟩
    · refine W_seq ?_
      refine W_seq ?_
      refine W_region ?_
      refine WL_val rfl rfl rfl (by first | exact rMoveI rfl rfl | exact rMove rfl) ?_
      refine WL_val rfl rfl rfl (by first | exact rMoveS rfl rfl | exact rMove rfl) ?_
      refine WL_val rfl rfl rfl (rLen rfl Try.underlying22 rfl) ?_
      refine WL_val rfl rfl rfl (by first | exact rGeqT rfl rfl rfl (by omega) | exact rGeqF rfl rfl rfl (by omega) | exact rGeq rfl rfl rfl) ?_
      refine WL_nil ?_
      refine W_cond true rfl ?_
      refine W_seq ?_
      refine W_region ?_
      refine WL_val rfl rfl rfl (by first | exact rAsgnI rfl rfl | exact rAsgn rfl) ?_
      refine WL_nil ?_
      refine W_ret ?_
      rw [hd1, show m.drop k = [] from List.drop_eq_nil_of_le (by omega), cmpL] at hcmp
      exact ret1 4 (.inr rfl) rfl ⟨by rw [hcmp]; rfl, hI.pu⟩
  · obtain rfl : k = n := by omega
    rw [List.drop_eq_nil_of_le (by omega)] at hcmp
    refine W_seq ?_
    refine W_region ?_
    refine WL_val rfl rfl rfl (by first | exact rLssT rfl rfl rfl (by omega) | exact rLssF rfl rfl rfl (by omega) | exact rLss rfl rfl rfl) ?_
    refine WL_nil ?_
    refine W_seq ?_
    refine W_cond false rfl ?_
    refine W_exit ?_
    by_cases hlt : k < n2
    · refine W_seq ?_
      refine W_seq ?_
      refine W_region ?_
      refine WL_val rfl rfl rfl (by first | exact rMoveS rfl rfl | exact rMove rfl) ?_
      refine WL_val rfl rfl rfl (rLen rfl Try.underlying22 rfl) ?_
      refine WL_val rfl rfl rfl (by first | exact rMoveS rfl rfl | exact rMove rfl) ?_
      refine WL_val rfl rfl rfl (rLen rfl Try.underlying22 rfl) ?_
      refine WL_val rfl rfl rfl (by first | exact rLssT rfl rfl rfl (by omega) | exact rLssF rfl rfl rfl (by omega) | exact rLss rfl rfl rfl) ?_
      refine WL_nil ?_
      refine W_cond true rfl ?_
      refine W_seq ?_
      refine W_region ?_
      refine WL_val rfl rfl rfl (by first | exact rAsgnI rfl rfl | exact rAsgn rfl) ?_
      refine WL_nil ?_
      refine W_ret ?_
      rw [List.drop_eq_getElem_cons (by omega), cmpL] at hcmp
      exact ret1 4 (.inr rfl) rfl ⟨by rw [hcmp]; rfl, hI.pu⟩
    · refine W_seq ?_
      refine W_seq ?_
      refine W_region ?_
      refine WL_val rfl rfl rfl (by first | exact rMoveS rfl rfl | exact rMove rfl) ?_
      refine WL_val rfl rfl rfl (rLen rfl Try.underlying22 rfl) ?_
      refine WL_val rfl rfl rfl (by first | exact rMoveS rfl rfl | exact rMove rfl) ?_
      refine WL_val rfl rfl rfl (rLen rfl Try.underlying22 rfl) ?_
      refine WL_val rfl rfl rfl (by first | exact rLssT rfl rfl rfl (by omega) | exact rLssF rfl rfl rfl (by omega) | exact rLss rfl rfl rfl) ?_
      refine WL_nil ?_
      refine W_cond false rfl ?_
      refine W_skip ?_
      refine W_seq ?_
      refine W_region ?_
      refine WL_val rfl rfl rfl (by first | exact rAsgnI rfl rfl | exact rAsgn rfl) ?_
      refine WL_nil ?_
      refine W_ret ?_
      rw [List.drop_eq_nil_of_le (by omega), cmpL] at hcmp
      exact ret1 4 (.inr rfl) rfl ⟨by rw [hcmp]; rfl, hI.pu⟩
def joinL (l m : List Int) : List Int := if cmpL l m < 0 then m else l
theorem joinL_len (l m : List Int) (hl : l.length = 3) (hm : m.length = 3) : (joinL l m).length = 3 := by unfold joinL; split <;> assumption
theorem list3 {l : List Int} (h : l.length = 3) : l = [l.getD 0 0, l.getD 1 0, l.getD 2 0] := by
  match l, h with
  | [a, b, c], _ => rfl
theorem ints_lit {w : World} {g T n : Nat} {l : List Int} {cs : Array Value} (hb : Blk w g T cs) (h : cs.toList = l.map (Value.int .i64)) (hn : l.length = n) (hle : n ≤ 1000) : Ints w (fun k => k < w.heap.size) (.slice (some ⟨g, 0, none⟩) n n) l := by
  subst hn
  refine ⟨_, _, rfl, Nat.le_refl _, by omega, by simp, fun h0 => ⟨g, 0, rfl, hb.lt, fun k u hk => ?_⟩⟩
  rw [Nat.zero_add, hb.cell, ← hk, ← h]
  simp
set_option maxHeartbeats 1000000 in
theorem joinL_any (l m : List Int) (w0 : World) (hl : l.length = 3) (hm : m.length = 3) : Calls Try.prog 74 #[.agg (i64s l).toArray, .agg (i64s m).toArray] w0 fun en w' => en = .returned (.agg (i64s (joinL l m)).toArray) ∧ Pure w0 w' := by
  have hI := Inv.start (fun _ => False) w0
  have u0 := i64s_get (l := l) (i := 0) (by omega)
  have u1 := i64s_get (l := l) (i := 1) (by omega)
  have u2 := i64s_get (l := l) (i := 2) (by omega)
  have v0 := i64s_get (l := m) (i := 0) (by omega)
  have v1 := i64s_get (l := m) (i := 1) (by omega)
  have v2 := i64s_get (l := m) (i := 2) (by omega)
  refine calls_of_W (N := Try.f74.ntmps) Try.func74 rfl rfl rfl ?_
  refine W_seq ?_
  refine W_region ?_
  refine WL_box (u := .agg _) (vs := _) hI rfl rfl rfl rfl rfl rfl ?_
  clear hI; rintro b2 w - - hI
  refine WL_box (u := .agg _) (vs := _) hI rfl rfl rfl rfl rfl rfl ?_
  clear hI; rintro b3 w - - hI
  refine WL_alloc (u := .agg #[.int .i64 0, .int .i64 0, .int .i64 0]) (vs := #[.int .i64 0, .int .i64 0, .int .i64 0]) hI rfl rfl rfl rfl (by kernel_rfl) rfl ?_
  clear hI; rintro b4 w - - hI
  refine WL_nil ?_
  refine W_seq ?_
  refine W_seq ?_
  refine W_region ?_
  refine WL_val rfl rfl rfl (by first | exact rFldN (off := 0) rfl (by kernel_rfl) rfl | exact rFld0 rfl (by kernel_rfl) rfl) ?_
  refine WL_val rfl rfl rfl (by first | exact rLd (v := .int .i64 _) rfl (by kernel_rfl) rfl (by first | exact (hI.c2 u0) | exact (hI.c2 u1) | exact (hI.c2 u2) | exact (hI.c2 v0) | exact (hI.c2 v1) | exact (hI.c2 v2) | exact (hI.c3 u0) | exact (hI.c3 u1) | exact (hI.c3 u2) | exact (hI.c1 u0) | exact (hI.c1 u1) | exact (hI.c1 u2) | exact (hI.c1 v0) | exact (hI.c1 v1) | exact (hI.c1 v2)) | exact rLd rfl (by kernel_rfl) rfl (by first | exact (hI.c2 u0) | exact (hI.c2 u1) | exact (hI.c2 u2) | exact (hI.c2 v0) | exact (hI.c2 v1) | exact (hI.c2 v2) | exact (hI.c3 u0) | exact (hI.c3 u1) | exact (hI.c3 u2) | exact (hI.c1 u0) | exact (hI.c1 u1) | exact (hI.c1 u2) | exact (hI.c1 v0) | exact (hI.c1 v1) | exact (hI.c1 v2))) ?_
  refine WL_val rfl rfl rfl (by first | exact rFldN (off := 1) rfl (by kernel_rfl) rfl | exact rFld (off := 1) rfl (by kernel_rfl) rfl) ?_
  refine WL_val rfl rfl rfl (by first | exact rLd (v := .int .i64 _) rfl (by kernel_rfl) rfl (by first | exact (hI.c2 u0) | exact (hI.c2 u1) | exact (hI.c2 u2) | exact (hI.c2 v0) | exact (hI.c2 v1) | exact (hI.c2 v2) | exact (hI.c3 u0) | exact (hI.c3 u1) | exact (hI.c3 u2) | exact (hI.c1 u0) | exact (hI.c1 u1) | exact (hI.c1 u2) | exact (hI.c1 v0) | exact (hI.c1 v1) | exact (hI.c1 v2)) | exact rLd rfl (by kernel_rfl) rfl (by first | exact (hI.c2 u0) | exact (hI.c2 u1) | exact (hI.c2 u2) | exact (hI.c2 v0) | exact (hI.c2 v1) | exact (hI.c2 v2) | exact (hI.c3 u0) | exact (hI.c3 u1) | exact (hI.c3 u2) | exact (hI.c1 u0) | exact (hI.c1 u1) | exact (hI.c1 u2) | exact (hI.c1 v0) | exact (hI.c1 v1) | exact (hI.c1 v2))) ?_
  refine WL_val rfl rfl rfl (by first | exact rFldN (off := 2) rfl (by kernel_rfl) rfl | exact rFld (off := 2) rfl (by kernel_rfl) rfl) ?_
  refine WL_val rfl rfl rfl (by first | exact rLd (v := .int .i64 _) rfl (by kernel_rfl) rfl (by first | exact (hI.c2 u0) | exact (hI.c2 u1) | exact (hI.c2 u2) | exact (hI.c2 v0) | exact (hI.c2 v1) | exact (hI.c2 v2) | exact (hI.c3 u0) | exact (hI.c3 u1) | exact (hI.c3 u2) | exact (hI.c1 u0) | exact (hI.c1 u1) | exact (hI.c1 u2) | exact (hI.c1 v0) | exact (hI.c1 v1) | exact (hI.c1 v2)) | exact rLd rfl (by kernel_rfl) rfl (by first | exact (hI.c2 u0) | exact (hI.c2 u1) | exact (hI.c2 u2) | exact (hI.c2 v0) | exact (hI.c2 v1) | exact (hI.c2 v2) | exact (hI.c3 u0) | exact (hI.c3 u1) | exact (hI.c3 u2) | exact (hI.c1 u0) | exact (hI.c1 u1) | exact (hI.c1 u2) | exact (hI.c1 v0) | exact (hI.c1 v1) | exact (hI.c1 v2))) ?_
  refine WL_lit (vs := [_, _, _]) (qs := [(0, .int .i64 _), (1, .int .i64 _), (2, .int .i64 _)]) [.int .i64 0, .int .i64 0, .int .i64 0] [0, 1, 2] hI rfl rfl rfl rfl rfl rfl Try.underlying22 (fun _ => by kernel_rfl) ?_
  clear hI; rintro b11 w - - hI
  refine WL_val rfl rfl rfl (by first | exact rFldN (off := 0) rfl (by kernel_rfl) rfl | exact rFld0 rfl (by kernel_rfl) rfl) ?_
  refine WL_val rfl rfl rfl (by first | exact rLd (v := .int .i64 _) rfl (by kernel_rfl) rfl (by first | exact (hI.c2 u0) | exact (hI.c2 u1) | exact (hI.c2 u2) | exact (hI.c2 v0) | exact (hI.c2 v1) | exact (hI.c2 v2) | exact (hI.c3 u0) | exact (hI.c3 u1) | exact (hI.c3 u2) | exact (hI.c1 u0) | exact (hI.c1 u1) | exact (hI.c1 u2) | exact (hI.c1 v0) | exact (hI.c1 v1) | exact (hI.c1 v2)) | exact rLd rfl (by kernel_rfl) rfl (by first | exact (hI.c2 u0) | exact (hI.c2 u1) | exact (hI.c2 u2) | exact (hI.c2 v0) | exact (hI.c2 v1) | exact (hI.c2 v2) | exact (hI.c3 u0) | exact (hI.c3 u1) | exact (hI.c3 u2) | exact (hI.c1 u0) | exact (hI.c1 u1) | exact (hI.c1 u2) | exact (hI.c1 v0) | exact (hI.c1 v1) | exact (hI.c1 v2))) ?_
  refine WL_val rfl rfl rfl (by first | exact rFldN (off := 1) rfl (by kernel_rfl) rfl | exact rFld (off := 1) rfl (by kernel_rfl) rfl) ?_
  refine WL_val rfl rfl rfl (by first | exact rLd (v := .int .i64 _) rfl (by kernel_rfl) rfl (by first | exact (hI.c2 u0) | exact (hI.c2 u1) | exact (hI.c2 u2) | exact (hI.c2 v0) | exact (hI.c2 v1) | exact (hI.c2 v2) | exact (hI.c3 u0) | exact (hI.c3 u1) | exact (hI.c3 u2) | exact (hI.c1 u0) | exact (hI.c1 u1) | exact (hI.c1 u2) | exact (hI.c1 v0) | exact (hI.c1 v1) | exact (hI.c1 v2)) | exact rLd rfl (by kernel_rfl) rfl (by first | exact (hI.c2 u0) | exact (hI.c2 u1) | exact (hI.c2 u2) | exact (hI.c2 v0) | exact (hI.c2 v1) | exact (hI.c2 v2) | exact (hI.c3 u0) | exact (hI.c3 u1) | exact (hI.c3 u2) | exact (hI.c1 u0) | exact (hI.c1 u1) | exact (hI.c1 u2) | exact (hI.c1 v0) | exact (hI.c1 v1) | exact (hI.c1 v2))) ?_
  refine WL_val rfl rfl rfl (by first | exact rFldN (off := 2) rfl (by kernel_rfl) rfl | exact rFld (off := 2) rfl (by kernel_rfl) rfl) ?_
  refine WL_val rfl rfl rfl (by first | exact rLd (v := .int .i64 _) rfl (by kernel_rfl) rfl (by first | exact (hI.c2 u0) | exact (hI.c2 u1) | exact (hI.c2 u2) | exact (hI.c2 v0) | exact (hI.c2 v1) | exact (hI.c2 v2) | exact (hI.c3 u0) | exact (hI.c3 u1) | exact (hI.c3 u2) | exact (hI.c1 u0) | exact (hI.c1 u1) | exact (hI.c1 u2) | exact (hI.c1 v0) | exact (hI.c1 v1) | exact (hI.c1 v2)) | exact rLd rfl (by kernel_rfl) rfl (by first | exact (hI.c2 u0) | exact (hI.c2 u1) | exact (hI.c2 u2) | exact (hI.c2 v0) | exact (hI.c2 v1) | exact (hI.c2 v2) | exact (hI.c3 u0) | exact (hI.c3 u1) | exact (hI.c3 u2) | exact (hI.c1 u0) | exact (hI.c1 u1) | exact (hI.c1 u2) | exact (hI.c1 v0) | exact (hI.c1 v1) | exact (hI.c1 v2))) ?_
  refine WL_lit (vs := [_, _, _]) (qs := [(0, .int .i64 _), (1, .int .i64 _), (2, .int .i64 _)]) [.int .i64 0, .int .i64 0, .int .i64 0] [0, 1, 2] hI rfl rfl rfl rfl rfl rfl Try.underlying22 (fun _ => by kernel_rfl) ?_
  clear hI; rintro b18 w - - hI
  refine WL_call rfl rfl rfl (rCall (vs := [.slice _ _ _, .slice _ _ _]) rfl Try.func76 rfl rfl rfl) ?_
  refine (compare_any (some ⟨b11, 0, none⟩) 3 3 [l.getD 0 0, l.getD 1 0, l.getD 2 0] _ (some ⟨b18, 0, none⟩) 3 3 [m.getD 0 0, m.getD 1 0, m.getD 2 0] _ _ (by first | exact ints_lit hI.g1 rfl rfl (by omega) | exact ints_lit hI.g0 rfl rfl (by omega)) rfl (by first | exact ints_lit hI.g0 rfl rfl (by omega) | exact ints_lit hI.g1 rfl rfl (by omega)) rfl).mono ?_
  rw [← list3 hl, ← list3 hm]
  rintro e w1 ⟨rfl, hp⟩
  refine ⟨_, rfl, ?_⟩
  replace hI := hI.pure hp
  refine WL_val rfl rfl rfl (by first | exact rLssT rfl rfl rfl (by omega) | exact rLssF rfl rfl rfl (by omega) | exact rLss rfl rfl rfl) ?_
  refine WL_nil ?_
  by_cases hc : cmpL l m < 0
  · have hc' := hc
    have hj : joinL l m = m := by unfold joinL; rw [if_pos hc]
    refine W_cond true (by simp [ev, upd, hc']) ?_
    refine W_seq ?_
    refine W_region ?_
    refine WL_val rfl rfl rfl (by first | exact rLdB (n := 3) rfl (by kernel_rfl) (by kernel_rfl) rfl (by first | rfl | (simp only [i64s, Value.cells, List.size_toArray, List.length_map]; omega)) hI.g0 | exact rLdB (n := 3) rfl (by kernel_rfl) (by kernel_rfl) rfl (by first | rfl | (simp only [i64s, Value.cells, List.size_toArray, List.length_map]; omega)) hI.g1 | exact rLdB (n := 3) rfl (by kernel_rfl) (by kernel_rfl) rfl (by first | rfl | (simp only [i64s, Value.cells, List.size_toArray, List.length_map]; omega)) hI.g2 | exact rLdB (n := 3) rfl (by kernel_rfl) (by kernel_rfl) rfl (by first | rfl | (simp only [i64s, Value.cells, List.size_toArray, List.length_map]; omega)) hI.g3 | exact rLdB (n := 3) rfl (by kernel_rfl) (by kernel_rfl) rfl (by first | rfl | (simp only [i64s, Value.cells, List.size_toArray, List.length_map]; omega)) hI.g4 | exact rLdB (n := 3) rfl (by kernel_rfl) (by kernel_rfl) rfl (by first | rfl | (simp only [i64s, Value.cells, List.size_toArray, List.length_map]; omega)) hI.g5 | exact rLd3 rfl (by kernel_rfl) (by kernel_rfl) rfl (by first | exact hI.c0 rfl | exact hI.c1 rfl | exact hI.c2 rfl | exact hI.c3 rfl | exact hI.c4 rfl | exact hI.c5 rfl) (by first | exact hI.c0 rfl | exact hI.c1 rfl | exact hI.c2 rfl | exact hI.c3 rfl | exact hI.c4 rfl | exact hI.c5 rfl) (by first | exact hI.c0 rfl | exact hI.c1 rfl | exact hI.c2 rfl | exact hI.c3 rfl | exact hI.c4 rfl | exact hI.c5 rfl)) ?_
    first | refine WL_stw0 (u := .agg _) (vs := _) (n := 3) hI rfl rfl rfl rfl rfl rfl (by kernel_rfl) (by first | rfl | (simp only [i64s, Value.cells, List.size_toArray, List.length_map]; omega)) (by first | rfl | (simp only [i64s, Value.cells, List.size_toArray, List.length_map]; omega)) (by first | rfl | simp [i64s, Value.cells, Value.oneCell']) ?_ | refine WL_stw1 (u := .agg _) (vs := _) (n := 3) hI rfl rfl rfl rfl rfl rfl (by kernel_rfl) (by first | rfl | (simp only [i64s, Value.cells, List.size_toArray, List.length_map]; omega)) (by first | rfl | (simp only [i64s, Value.cells, List.size_toArray, List.length_map]; omega)) (by first | rfl | simp [i64s, Value.cells, Value.oneCell']) ?_ | refine WL_stw2 (u := .agg _) (vs := _) (n := 3) hI rfl rfl rfl rfl rfl rfl (by kernel_rfl) (by first | rfl | (simp only [i64s, Value.cells, List.size_toArray, List.length_map]; omega)) (by first | rfl | (simp only [i64s, Value.cells, List.size_toArray, List.length_map]; omega)) (by first | rfl | simp [i64s, Value.cells, Value.oneCell']) ?_ | refine WL_stw3 (u := .agg _) (vs := _) (n := 3) hI rfl rfl rfl rfl rfl rfl (by kernel_rfl) (by first | rfl | (simp only [i64s, Value.cells, List.size_toArray, List.length_map]; omega)) (by first | rfl | (simp only [i64s, Value.cells, List.size_toArray, List.length_map]; omega)) (by first | rfl | simp [i64s, Value.cells, Value.oneCell']) ?_ | refine WL_stw4 (u := .agg _) (vs := _) (n := 3) hI rfl rfl rfl rfl rfl rfl (by kernel_rfl) (by first | rfl | (simp only [i64s, Value.cells, List.size_toArray, List.length_map]; omega)) (by first | rfl | (simp only [i64s, Value.cells, List.size_toArray, List.length_map]; omega)) (by first | rfl | simp [i64s, Value.cells, Value.oneCell']) ?_ | refine WL_stw5 (u := .agg _) (vs := _) (n := 3) hI rfl rfl rfl rfl rfl rfl (by kernel_rfl) (by first | rfl | (simp only [i64s, Value.cells, List.size_toArray, List.length_map]; omega)) (by first | rfl | (simp only [i64s, Value.cells, List.size_toArray, List.length_map]; omega)) (by first | rfl | simp [i64s, Value.cells, Value.oneCell']) ?_
    clear hI; intro w hI
    refine WL_nil ?_
    refine W_ret ?_
    refine retC (n := 3) (t := 24) (.inr rfl) rfl rfl (by kernel_rfl) (by kernel_rfl) (by simp [i64s, Value.cells, hm]) hI.g2 ?_
    exact ⟨by rw [hj]; rfl, hI.pu⟩
  · have hc' := hc
    have hj : joinL l m = l := by unfold joinL; rw [if_neg hc]
    refine W_cond false (by simp [ev, upd, hc']) ?_
    refine W_skip ?_
    refine W_seq ?_
    refine W_region ?_
    refine WL_val rfl rfl rfl (by first | exact rLdB (n := 3) rfl (by kernel_rfl) (by kernel_rfl) rfl (by first | rfl | (simp only [i64s, Value.cells, List.size_toArray, List.length_map]; omega)) hI.g0 | exact rLdB (n := 3) rfl (by kernel_rfl) (by kernel_rfl) rfl (by first | rfl | (simp only [i64s, Value.cells, List.size_toArray, List.length_map]; omega)) hI.g1 | exact rLdB (n := 3) rfl (by kernel_rfl) (by kernel_rfl) rfl (by first | rfl | (simp only [i64s, Value.cells, List.size_toArray, List.length_map]; omega)) hI.g2 | exact rLdB (n := 3) rfl (by kernel_rfl) (by kernel_rfl) rfl (by first | rfl | (simp only [i64s, Value.cells, List.size_toArray, List.length_map]; omega)) hI.g3 | exact rLdB (n := 3) rfl (by kernel_rfl) (by kernel_rfl) rfl (by first | rfl | (simp only [i64s, Value.cells, List.size_toArray, List.length_map]; omega)) hI.g4 | exact rLdB (n := 3) rfl (by kernel_rfl) (by kernel_rfl) rfl (by first | rfl | (simp only [i64s, Value.cells, List.size_toArray, List.length_map]; omega)) hI.g5 | exact rLd3 rfl (by kernel_rfl) (by kernel_rfl) rfl (by first | exact hI.c0 rfl | exact hI.c1 rfl | exact hI.c2 rfl | exact hI.c3 rfl | exact hI.c4 rfl | exact hI.c5 rfl) (by first | exact hI.c0 rfl | exact hI.c1 rfl | exact hI.c2 rfl | exact hI.c3 rfl | exact hI.c4 rfl | exact hI.c5 rfl) (by first | exact hI.c0 rfl | exact hI.c1 rfl | exact hI.c2 rfl | exact hI.c3 rfl | exact hI.c4 rfl | exact hI.c5 rfl)) ?_
    first | refine WL_stw0 (u := .agg _) (vs := _) (n := 3) hI rfl rfl rfl rfl rfl rfl (by kernel_rfl) (by first | rfl | (simp only [i64s, Value.cells, List.size_toArray, List.length_map]; omega)) (by first | rfl | (simp only [i64s, Value.cells, List.size_toArray, List.length_map]; omega)) (by first | rfl | simp [i64s, Value.cells, Value.oneCell']) ?_ | refine WL_stw1 (u := .agg _) (vs := _) (n := 3) hI rfl rfl rfl rfl rfl rfl (by kernel_rfl) (by first | rfl | (simp only [i64s, Value.cells, List.size_toArray, List.length_map]; omega)) (by first | rfl | (simp only [i64s, Value.cells, List.size_toArray, List.length_map]; omega)) (by first | rfl | simp [i64s, Value.cells, Value.oneCell']) ?_ | refine WL_stw2 (u := .agg _) (vs := _) (n := 3) hI rfl rfl rfl rfl rfl rfl (by kernel_rfl) (by first | rfl | (simp only [i64s, Value.cells, List.size_toArray, List.length_map]; omega)) (by first | rfl | (simp only [i64s, Value.cells, List.size_toArray, List.length_map]; omega)) (by first | rfl | simp [i64s, Value.cells, Value.oneCell']) ?_ | refine WL_stw3 (u := .agg _) (vs := _) (n := 3) hI rfl rfl rfl rfl rfl rfl (by kernel_rfl) (by first | rfl | (simp only [i64s, Value.cells, List.size_toArray, List.length_map]; omega)) (by first | rfl | (simp only [i64s, Value.cells, List.size_toArray, List.length_map]; omega)) (by first | rfl | simp [i64s, Value.cells, Value.oneCell']) ?_ | refine WL_stw4 (u := .agg _) (vs := _) (n := 3) hI rfl rfl rfl rfl rfl rfl (by kernel_rfl) (by first | rfl | (simp only [i64s, Value.cells, List.size_toArray, List.length_map]; omega)) (by first | rfl | (simp only [i64s, Value.cells, List.size_toArray, List.length_map]; omega)) (by first | rfl | simp [i64s, Value.cells, Value.oneCell']) ?_ | refine WL_stw5 (u := .agg _) (vs := _) (n := 3) hI rfl rfl rfl rfl rfl rfl (by kernel_rfl) (by first | rfl | (simp only [i64s, Value.cells, List.size_toArray, List.length_map]; omega)) (by first | rfl | (simp only [i64s, Value.cells, List.size_toArray, List.length_map]; omega)) (by first | rfl | simp [i64s, Value.cells, Value.oneCell']) ?_
    clear hI; intro w hI
    refine WL_nil ?_
    refine W_ret ?_
    refine retC (n := 3) (t := 24) (.inr rfl) rfl rfl (by kernel_rfl) (by kernel_rfl) (by simp [i64s, Value.cells, hl]) hI.g2 ?_
    exact ⟨by rw [hj]; rfl, hI.pu⟩
theorem sameL_any (l m : List Int) (w0 : World) (hl : l.length = 3) (hm : m.length = 3) : Calls Try.prog 75 #[.agg (i64s l).toArray, .agg (i64s m).toArray] w0 fun en w' => en = .returned (.bool (decide (l = m))) ∧ Pure w0 w' := by
  have hI := Inv.start (fun _ => False) w0
  refine calls_of_W (N := Try.f75.ntmps) Try.func75 rfl rfl rfl ?_
  refine W_seq ?_
  refine W_region ?_
  refine WL_box (u := .agg _) (vs := _) hI rfl rfl rfl rfl rfl rfl ?_
  clear hI; rintro b2 w - - hI
  refine WL_box (u := .agg _) (vs := _) hI rfl rfl rfl rfl rfl rfl ?_
  clear hI; rintro b3 w - - hI
  refine WL_val rfl rfl rfl (by first | exact rAsgnB rfl rfl | exact rAsgn rfl) ?_
  refine WL_nil ?_
  refine W_seq ?_
  refine W_region ?_
  refine WL_val rfl rfl rfl (by first | exact rLdB (n := 3) rfl (by kernel_rfl) (by kernel_rfl) rfl (by first | rfl | (simp only [i64s, Value.cells, List.size_toArray, List.length_map]; omega)) hI.g0 | exact rLdB (n := 3) rfl (by kernel_rfl) (by kernel_rfl) rfl (by first | rfl | (simp only [i64s, Value.cells, List.size_toArray, List.length_map]; omega)) hI.g1 | exact rLd3 rfl (by kernel_rfl) (by kernel_rfl) rfl (by first | exact hI.c0 rfl | exact hI.c1 rfl) (by first | exact hI.c0 rfl | exact hI.c1 rfl) (by first | exact hI.c0 rfl | exact hI.c1 rfl)) ?_
  refine WL_val rfl rfl rfl (by first | exact rLdB (n := 3) rfl (by kernel_rfl) (by kernel_rfl) rfl (by first | rfl | (simp only [i64s, Value.cells, List.size_toArray, List.length_map]; omega)) hI.g0 | exact rLdB (n := 3) rfl (by kernel_rfl) (by kernel_rfl) rfl (by first | rfl | (simp only [i64s, Value.cells, List.size_toArray, List.length_map]; omega)) hI.g1 | exact rLd3 rfl (by kernel_rfl) (by kernel_rfl) rfl (by first | exact hI.c0 rfl | exact hI.c1 rfl) (by first | exact hI.c0 rfl | exact hI.c1 rfl) (by first | exact hI.c0 rfl | exact hI.c1 rfl)) ?_
  refine WL_val rfl rfl rfl (rEqlS (n := 3) (la := l) (lb := m) rfl (by kernel_rfl) rfl rfl hl hm) ?_
  refine WL_val rfl rfl rfl (by first | exact rAsgnB rfl rfl | exact rAsgn rfl) ?_
  refine WL_nil ?_
  refine W_ret ?_
  exact ret1 4 (.inr rfl) rfl ⟨rfl, hI.pu⟩
theorem joinL_def (l m : List Int) : joinL l m = if l < m then m else l := by
  unfold joinL
  by_cases h : l < m
  · rw [if_pos h, if_pos ((cmpL_lt l m).2 h)]
  · rw [if_neg h, if_neg (fun h' => h ((cmpL_lt l m).1 h'))]
theorem lt_tri (a b : List Int) : a < b ∨ a = b ∨ b < a := by
  by_cases h1 : a < b
  · exact .inl h1
  · by_cases h2 : b < a
    · exact .inr (.inr h2)
    · exact .inr (.inl (List.le_antisymm (List.not_lt.1 h2) (List.not_lt.1 h1)))
theorem joinL_comm (a b : List Int) : joinL a b = joinL b a := by
  rw [joinL_def, joinL_def]
  rcases lt_tri a b with h | h | h
  · rw [if_pos h, if_neg (List.lt_asymm h)]
  · subst h; rfl
  · rw [if_pos h, if_neg (List.lt_asymm h)]
theorem joinL_idem (a : List Int) (ha : a.length = 3) : joinL a a = a := by
  rw [joinL_def]; split <;> rfl
theorem joinL_assoc (a b c : List Int) : joinL (joinL a b) c = joinL a (joinL b c) := by
  simp only [joinL_def]
  by_cases h1 : a < b
  · by_cases h2 : b < c
    · simp [h1, h2, List.lt_trans h1 h2]
    · simp [h1, h2]
  · by_cases h2 : b < c
    · simp [h1, h2]
    · simp only [h1, h2, if_false]
      rw [if_neg]
      intro h3
      rcases lt_tri b a with h | h | h
      · exact h2 (List.lt_trans h h3)
      · subst h; exact h2 h3
      · exact h1 h
theorem joinL_all (a b c : List Int) (ha : a.length = 3) (hb : b.length = 3) (hc : c.length = 3) : [b, c].foldl joinL a = [a, b, a].foldl joinL c := by
  show joinL (joinL a b) c = joinL (joinL (joinL c a) b) a
  rw [joinL_comm (joinL (joinL c a) b) a, ← joinL_assoc, ← joinL_assoc, joinL_comm a c, joinL_assoc c a a, joinL_idem a ha, joinL_comm (joinL a b) c, ← joinL_assoc]
end Go.Proofs.Ytkfciehgjhgmeaa
