/- clock: Steady, Below. -/
import Derived.Test.YtajbhabkhgpcfaaDoorClk11
namespace Go.Proofs.YtajbhabkhgpcfaaDoor
open Go.RowKit
set_option linter.unusedVariables false
set_option linter.unusedSimpArgs false
theorem vlA_len (f : Nat → Nat) : (i64s (vl f)).toArray.size = 8 := by simp [i64s, vl]
theorem vlA_one (f : Nat → Nat) : (i64s (vl f)).toArray.toList.all (·.oneCell') = true := by simp [i64s, Value.oneCell']
theorem hisC_len (l : List Ck) (As : Nat → Option Addr) (cs : Nat → Nat) (k : Nat) : (hisC l As cs k).size = 8 := by simp [hisC]
theorem hisC_one (l : List Ck) (As : Nat → Option Addr) (cs : Nat → Nat) (k : Nat) : (hisC l As cs k).toList.all (·.oneCell') = true := by simp [hisC, Value.oneCell']
def SteadyPost (l : List Ck) (c : Nat → Nat) (w0 : World) (en : Ending) (w' : World) : Prop :=
  ((OkClk l ∧ ∃ b : Bool, en = .returned (.tuple #[.bool b, .nilIface]) ∧ (b = true ↔ stdP l c)) ∨ (¬ OkClk l ∧ ∃ t u, en = .returned (.tuple #[.bool false, .iface t u]))) ∧ Pure w0 w'
set_option maxHeartbeats 2000000 in
theorem Steady_any (A : Option Addr) (n cp : Nat) (l : List Ck) (D : Nat → Prop) (c : Nat → Nat) (w0 : World) (h : Cks w0 D (.slice A n cp) l) (hg : GlobOk w0) (hc : OkClk l → hasP l c) :
    Calls Tryd.prog 13 #[.slice A n cp, .agg (i64s (vl c)).toArray] w0 (SteadyPost l c w0) := by
  obtain ⟨hn, hc1, hc2⟩ := h.len
  have hI := Inv.start (fun _ => False) w0
  refine calls_of_W (N := Tryd.f13.ntmps) Tryd.func13 rfl rfl rfl ?_
  refine W_seq ?_
  refine W_region ?_
  refine WL_box (u := .agg _) (vs := _) hI rfl rfl rfl rfl rfl rfl ?_
  clear hI; rintro b3 w - - hI
  refine WL_val rfl rfl rfl (by first | exact rAsgnB rfl rfl | exact rAsgn rfl) ?_
  refine WL_val rfl rfl rfl (by first | exact rAsgnN rfl rfl | exact rAsgnE rfl rfl | exact rAsgn rfl) ?_
  refine WL_nil ?_
  simp only [Value.cells] at hI
  by_cases hok : OkClk l
  rotate_left
  · refine W_seq ?_
    refine W_region ?_
    refine WL_val rfl rfl rfl (by first | exact rMoveS rfl rfl | exact rMove rfl) ?_
    refine WL_call rfl rfl rfl (rCall (vs := [.slice _ _ _]) rfl Tryd.func17 rfl rfl rfl) ?_
    refine (open_any A n cp l D _ (h.pure hI.pu) (hI.oldp hg)).mono ?_
    rintro e w1 (⟨hok', _⟩ | ⟨_, ⟨z, t, u, rfl, hz, hz1⟩, hp⟩)
    · exact absurd hok' hok
    refine ⟨_, rfl, ?_⟩
    replace hI := hI.pure hp
    refine WL_val rfl rfl rfl (by first | exact rMoveT rfl rfl | exact rMove rfl) ?_
    refine WL_val rfl rfl rfl (rExtr rfl rfl rfl) ?_
    refine WL_val rfl rfl rfl (rExtr rfl rfl rfl) ?_
    refine WL_alloc (u := .agg #[.slice none 0 0, .slice none 0 0, .slice none 0 0, .slice none 0 0, .slice none 0 0, .slice none 0 0, .slice none 0 0, .slice none 0 0]) (vs := #[.slice none 0 0, .slice none 0 0, .slice none 0 0, .slice none 0 0, .slice none 0 0, .slice none 0 0, .slice none 0 0, .slice none 0 0]) hI rfl rfl rfl rfl (by kernel_rfl) rfl ?_
    clear hI; rintro b6 w - - hI
    refine WL_stw0 (u := .agg z) (vs := z) (n := 8) hI rfl rfl rfl rfl rfl rfl (by kernel_rfl) hz rfl hz1 ?_
    clear hI; intro w hI
    refine WL_val rfl rfl rfl (by first | exact rAsgnN rfl rfl | exact rAsgnE rfl rfl | exact rAsgn rfl) ?_
    refine WL_nil ?_
    refine W_seq ?_
    refine W_block ?_
    refine W_seq ?_
    refine W_region ?_
    refine WL_val rfl rfl rfl (by first | exact rMoveN rfl rfl | exact rMoveE rfl rfl | exact rMove rfl) ?_
    refine WL_val rfl rfl rfl (by first | exact rIfaceNe rfl Tryd.underlying25 rfl rfl | exact rNilNe rfl Tryd.underlying25 rfl) ?_
    refine WL_val rfl rfl rfl (by first | exact rAsgnB rfl rfl | exact rAsgn rfl) ?_
    refine WL_nil ?_
    refine W_cond true rfl ?_
    refine W_seq ?_
    refine W_region ?_
    refine WL_val rfl rfl rfl (by first | exact rMoveN rfl rfl | exact rMoveE rfl rfl | exact rMove rfl) ?_
    refine WL_val rfl rfl rfl (by first | exact rAsgnB rfl rfl | exact rAsgn rfl) ?_
    refine WL_val rfl rfl rfl (by first | exact rAsgnN rfl rfl | exact rAsgnE rfl rfl | exact rAsgn rfl) ?_
    refine WL_nil ?_
    refine W_ret ?_
    exact ret2 4 5 (.inr rfl) rfl ⟨.inr ⟨hok, _, _, rfl⟩, hI.pu⟩
  refine W_seq ?_
  refine W_region ?_
  refine WL_val rfl rfl rfl (by first | exact rMoveS rfl rfl | exact rMove rfl) ?_
  refine WL_call rfl rfl rfl (rCall (vs := [.slice _ _ _]) rfl Tryd.func17 rfl rfl rfl) ?_
  refine (open_any A n cp l D _ (h.pure hI.pu) (hI.oldp hg)).mono ?_
  rintro e w1 (⟨_, As, cs, rfl, hIo⟩ | ⟨hbad, _⟩)
  rotate_left
  · exact absurd hok hbad
  refine ⟨_, rfl, ?_⟩
  replace hI := hI.app1 hIo
  refine WL_val rfl rfl rfl (by first | exact rMoveT rfl rfl | exact rMove rfl) ?_
  refine WL_val rfl rfl rfl (rExtr rfl rfl rfl) ?_
  refine WL_val rfl rfl rfl (rExtr rfl rfl rfl) ?_
  refine WL_alloc (u := .agg #[.slice none 0 0, .slice none 0 0, .slice none 0 0, .slice none 0 0, .slice none 0 0, .slice none 0 0, .slice none 0 0, .slice none 0 0]) (vs := #[.slice none 0 0, .slice none 0 0, .slice none 0 0, .slice none 0 0, .slice none 0 0, .slice none 0 0, .slice none 0 0, .slice none 0 0]) hI rfl rfl rfl rfl (by kernel_rfl) rfl ?_
  clear hI; rintro b6 w - - hI
  refine WL_stw0 (u := .agg (hisC l As cs l.length)) (vs := hisC l As cs l.length) (n := 8) hI rfl rfl rfl rfl rfl rfl (by kernel_rfl) (hisC_len ..) rfl (hisC_one ..) ?_
  clear hI; intro w hI
  refine WL_val rfl rfl rfl (by first | exact rAsgnN rfl rfl | exact rAsgnE rfl rfl | exact rAsgn rfl) ?_
  refine WL_nil ?_
  refine W_seq ?_
  refine W_block ?_
  refine W_seq ?_
  refine W_region ?_
  refine WL_val rfl rfl rfl (by first | exact rMoveN rfl rfl | exact rMoveE rfl rfl | exact rMove rfl) ?_
  refine WL_val rfl rfl rfl (by first | exact rIfaceNe rfl Tryd.underlying25 rfl rfl | exact rNilNe rfl Tryd.underlying25 rfl) ?_
  refine WL_val rfl rfl rfl (by first | exact rAsgnB rfl rfl | exact rAsgn rfl) ?_
  refine WL_nil ?_
  refine W_cond false rfl ?_
  refine W_seq ?_
  refine W_region ?_
  refine WL_val rfl rfl rfl (by first | exact rLdB (n := 8) rfl (by kernel_rfl) (by kernel_rfl) rfl (by first | rfl | (simp only [i64s, Value.cells, List.size_toArray, List.length_map]; omega)) hI.g0 | exact rLdB (n := 8) rfl (by kernel_rfl) (by kernel_rfl) rfl (by first | rfl | (simp only [i64s, Value.cells, List.size_toArray, List.length_map]; omega)) hI.g1 | exact rLdB (n := 8) rfl (by kernel_rfl) (by kernel_rfl) rfl (by first | rfl | (simp only [i64s, Value.cells, List.size_toArray, List.length_map]; omega)) hI.g2) ?_
  refine WL_val rfl rfl rfl (by first | exact rLdB (n := 8) rfl (by kernel_rfl) (by kernel_rfl) rfl (by first | rfl | (simp only [i64s, Value.cells, List.size_toArray, List.length_map]; omega)) hI.g0 | exact rLdB (n := 8) rfl (by kernel_rfl) (by kernel_rfl) rfl (by first | rfl | (simp only [i64s, Value.cells, List.size_toArray, List.length_map]; omega)) hI.g1 | exact rLdB (n := 8) rfl (by kernel_rfl) (by kernel_rfl) rfl (by first | rfl | (simp only [i64s, Value.cells, List.size_toArray, List.length_map]; omega)) hI.g2) ?_
  refine WL_call rfl rfl rfl (rCall (vs := [.agg _, .agg _]) rfl Tryd.func18 rfl rfl rfl) ?_
  refine (has_any l As cs c (hc hok) _).mono ?_
  rintro e w1 ⟨rfl, hp⟩
  refine ⟨_, rfl, ?_⟩
  replace hI := hI.pure hp
  refine WL_val rfl rfl rfl (by first | exact rNotT rfl rfl | exact rNotF rfl rfl | exact rNot rfl rfl) ?_
  refine WL_val rfl rfl rfl (by first | exact rAsgnB rfl rfl | exact rAsgn rfl) ?_
  refine WL_nil ?_
  refine W_cond false rfl ?_
  refine W_skip ?_
  refine W_seq ?_
  refine W_region ?_
  refine WL_val rfl rfl rfl (by first | exact rLdB (n := 8) rfl (by kernel_rfl) (by kernel_rfl) rfl (by first | rfl | (simp only [i64s, Value.cells, List.size_toArray, List.length_map]; omega)) hI.g0 | exact rLdB (n := 8) rfl (by kernel_rfl) (by kernel_rfl) rfl (by first | rfl | (simp only [i64s, Value.cells, List.size_toArray, List.length_map]; omega)) hI.g1 | exact rLdB (n := 8) rfl (by kernel_rfl) (by kernel_rfl) rfl (by first | rfl | (simp only [i64s, Value.cells, List.size_toArray, List.length_map]; omega)) hI.g2) ?_
  refine WL_val rfl rfl rfl (by first | exact rLdB (n := 8) rfl (by kernel_rfl) (by kernel_rfl) rfl (by first | rfl | (simp only [i64s, Value.cells, List.size_toArray, List.length_map]; omega)) hI.g0 | exact rLdB (n := 8) rfl (by kernel_rfl) (by kernel_rfl) rfl (by first | rfl | (simp only [i64s, Value.cells, List.size_toArray, List.length_map]; omega)) hI.g1 | exact rLdB (n := 8) rfl (by kernel_rfl) (by kernel_rfl) rfl (by first | rfl | (simp only [i64s, Value.cells, List.size_toArray, List.length_map]; omega)) hI.g2) ?_
  refine WL_call rfl rfl rfl (rCall (vs := [.agg _, .agg _]) rfl Tryd.func19 rfl rfl rfl) ?_
  refine (steady_any l As cs c (hc hok) _ hI.g1 hok.1).mono ?_
  rintro e w1 ⟨⟨b, rfl, hb⟩, hp⟩
  refine ⟨_, rfl, ?_⟩
  replace hI := hI.pure hp
  refine WL_val rfl rfl rfl (by first | exact rAsgnB rfl rfl | exact rAsgn rfl) ?_
  refine WL_val rfl rfl rfl (by first | exact rAsgnN rfl rfl | exact rAsgnE rfl rfl | exact rAsgn rfl) ?_
  refine WL_nil ?_
  refine W_ret ?_
  exact ret2 4 5 (.inr rfl) rfl ⟨.inl ⟨hok, b, rfl, hb⟩, hI.pu⟩
def asum (a : Nat → Nat) : Nat := a 0 + a 1 + a 2 + a 3 + a 4 + a 5 + a 6 + a 7
theorem asum_lt {a : Nat → Nat} {k : Nat} (hk : k < 8) (h : 0 < a k) : asum (fun x => if x = k then a k - 1 else a x) < asum a := by
  unfold asum
  match k, hk with
  | 0, _ => simp; omega
  | 1, _ => simp; omega
  | 2, _ => simp; omega
  | 3, _ => simp; omega
  | 4, _ => simp; omega
  | 5, _ => simp; omega
  | 6, _ => simp; omega
  | 7, _ => simp; omega
abbrev lowP (l : List Ck) (c a : Nat → Nat) : Prop := LowP (prc l) (fromF l) l.length c a
def BelowPost (l : List Ck) (c : Nat → Nat) (w0 : World) (en : Ending) (w' : World) : Prop :=
  ((OkClk l ∧ ∃ a : Nat → Nat, en = .returned (.tuple #[.agg (i64s (vl a)).toArray, .nilIface]) ∧ lowP l c a ∧ stdP l a) ∨ (¬ OkClk l ∧ ∃ t u, en = .returned (.tuple #[.agg (i64s (vl (fun _ => 0))).toArray, .iface t u]))) ∧ Pure w0 w'
set_option maxHeartbeats 4000000 in
theorem Below_any (A : Option Addr) (n cp : Nat) (l : List Ck) (D : Nat → Prop) (c : Nat → Nat) (w0 : World) (h : Cks w0 D (.slice A n cp) l) (hg : GlobOk w0) (hc : OkClk l → hasP l c) :
    Calls Tryd.prog 12 #[.slice A n cp, .agg (i64s (vl c)).toArray] w0 (BelowPost l c w0) := by
  obtain ⟨hn, hc1, hc2⟩ := h.len
  have hI := Inv.start (fun _ => False) w0
  refine calls_of_W (N := Tryd.f12.ntmps) Tryd.func12 rfl rfl rfl ?_
  refine W_seq ?_
  refine W_region ?_
  refine WL_box (u := .agg _) (vs := _) hI rfl rfl rfl rfl rfl rfl ?_
  clear hI; rintro b3 w - - hI
  refine WL_alloc (u := .agg #[.int .i64 0, .int .i64 0, .int .i64 0, .int .i64 0, .int .i64 0, .int .i64 0, .int .i64 0, .int .i64 0]) (vs := #[.int .i64 0, .int .i64 0, .int .i64 0, .int .i64 0, .int .i64 0, .int .i64 0, .int .i64 0, .int .i64 0]) hI rfl rfl rfl rfl (by kernel_rfl) rfl ?_
  clear hI; rintro b4 w - - hI
  refine WL_val rfl rfl rfl (by first | exact rAsgnN rfl rfl | exact rAsgnE rfl rfl | exact rAsgn rfl) ?_
  refine WL_nil ?_
  simp only [Value.cells] at hI
  refine W_scope ?_
  by_cases hok : OkClk l
  rotate_left
  · refine W_seq ?_
    refine W_region ?_
    refine WL_val rfl rfl rfl (by first | exact rMoveS rfl rfl | exact rMove rfl) ?_
    refine WL_call rfl rfl rfl (rCall (vs := [.slice _ _ _]) rfl Tryd.func17 rfl rfl rfl) ?_
    refine (open_any A n cp l D _ (h.pure hI.pu) (hI.oldp hg)).mono ?_
    rintro e w1 (⟨hok', _⟩ | ⟨_, ⟨z, t, u, rfl, hz, hz1⟩, hp⟩)
    · exact absurd hok' hok
    refine ⟨_, rfl, ?_⟩
    replace hI := hI.pure hp
    refine WL_val rfl rfl rfl (by first | exact rMoveT rfl rfl | exact rMove rfl) ?_
    refine WL_val rfl rfl rfl (rExtr rfl rfl rfl) ?_
    refine WL_val rfl rfl rfl (rExtr rfl rfl rfl) ?_
    refine WL_alloc (u := .agg #[.slice none 0 0, .slice none 0 0, .slice none 0 0, .slice none 0 0, .slice none 0 0, .slice none 0 0, .slice none 0 0, .slice none 0 0]) (vs := #[.slice none 0 0, .slice none 0 0, .slice none 0 0, .slice none 0 0, .slice none 0 0, .slice none 0 0, .slice none 0 0, .slice none 0 0]) hI rfl rfl rfl rfl (by kernel_rfl) rfl ?_
    clear hI; rintro b6 w - - hI
    refine WL_stw0 (u := .agg z) (vs := z) (n := 8) hI rfl rfl rfl rfl rfl rfl (by kernel_rfl) hz rfl hz1 ?_
    clear hI; intro w hI
    refine WL_val rfl rfl rfl (by first | exact rAsgnN rfl rfl | exact rAsgnE rfl rfl | exact rAsgn rfl) ?_
    refine WL_nil ?_
    refine W_seq ?_
    refine W_block ?_
    refine W_seq ?_
    refine W_region ?_
    refine WL_val rfl rfl rfl (by first | exact rMoveN rfl rfl | exact rMoveE rfl rfl | exact rMove rfl) ?_
    refine WL_val rfl rfl rfl (by first | exact rIfaceNe rfl Tryd.underlying25 rfl rfl | exact rNilNe rfl Tryd.underlying25 rfl) ?_
    refine WL_val rfl rfl rfl (by first | exact rAsgnB rfl rfl | exact rAsgn rfl) ?_
    refine WL_nil ?_
    refine W_cond true rfl ?_
    refine W_seq ?_
    refine W_region ?_
    refine WL_val rfl rfl rfl (rBuild (qs := []) (vs := [_, _, _, _, _, _, _, _]) [.int .i64 0, .int .i64 0, .int .i64 0, .int .i64 0, .int .i64 0, .int .i64 0, .int .i64 0, .int .i64 0] [] rfl rfl rfl (fun _ => by kernel_rfl)) ?_
    refine WL_val rfl rfl rfl (by first | exact rMoveN rfl rfl | exact rMoveE rfl rfl | exact rMove rfl) ?_
    first | refine WL_stw0 (u := .agg _) (vs := #[_, _, _, _, _, _, _, _]) (n := 8) hI rfl rfl rfl rfl rfl rfl (by kernel_rfl) rfl rfl rfl ?_ | refine WL_stw1 (u := .agg _) (vs := #[_, _, _, _, _, _, _, _]) (n := 8) hI rfl rfl rfl rfl rfl rfl (by kernel_rfl) rfl rfl rfl ?_
    clear hI; intro w hI
    refine WL_val rfl rfl rfl (by first | exact rAsgnN rfl rfl | exact rAsgnE rfl rfl | exact rAsgn rfl) ?_
    refine WL_nil ?_
    refine W_ret ?_
    refine retC2 (n := 8) (t := 37) (.inr rfl) rfl rfl (by kernel_rfl) (by kernel_rfl) rfl hI.g1 ?_
    exact ⟨.inr ⟨hok, _, _, rfl⟩, hI.pu⟩
  have hcH := hc hok
  have hl40 := hok.1
  refine W_seq ?_
  refine W_region ?_
  refine WL_val rfl rfl rfl (by first | exact rMoveS rfl rfl | exact rMove rfl) ?_
  refine WL_call rfl rfl rfl (rCall (vs := [.slice _ _ _]) rfl Tryd.func17 rfl rfl rfl) ?_
  refine (open_any A n cp l D _ (h.pure hI.pu) (hI.oldp hg)).mono ?_
  rintro e w1 (⟨_, As, cs, rfl, hIo⟩ | ⟨hbad, _⟩)
  rotate_left
  · exact absurd hok hbad
  refine ⟨_, rfl, ?_⟩
  replace hI := hI.app1 hIo
  refine WL_val rfl rfl rfl (by first | exact rMoveT rfl rfl | exact rMove rfl) ?_
  refine WL_val rfl rfl rfl (rExtr rfl rfl rfl) ?_
  refine WL_val rfl rfl rfl (rExtr rfl rfl rfl) ?_
  refine WL_alloc (u := .agg #[.slice none 0 0, .slice none 0 0, .slice none 0 0, .slice none 0 0, .slice none 0 0, .slice none 0 0, .slice none 0 0, .slice none 0 0]) (vs := #[.slice none 0 0, .slice none 0 0, .slice none 0 0, .slice none 0 0, .slice none 0 0, .slice none 0 0, .slice none 0 0, .slice none 0 0]) hI rfl rfl rfl rfl (by kernel_rfl) rfl ?_
  clear hI; rintro b6 w - - hI
  refine WL_stw0 (u := .agg (hisC l As cs l.length)) (vs := hisC l As cs l.length) (n := 8) hI rfl rfl rfl rfl rfl rfl (by kernel_rfl) (hisC_len ..) rfl (hisC_one ..) ?_
  clear hI; intro w hI
  refine WL_val rfl rfl rfl (by first | exact rAsgnN rfl rfl | exact rAsgnE rfl rfl | exact rAsgn rfl) ?_
  refine WL_nil ?_
  clear hIo
  refine W_seq ?_
  refine W_block ?_
  refine W_seq ?_
  refine W_region ?_
  refine WL_val rfl rfl rfl (by first | exact rMoveN rfl rfl | exact rMoveE rfl rfl | exact rMove rfl) ?_
  refine WL_val rfl rfl rfl (by first | exact rIfaceNe rfl Tryd.underlying25 rfl rfl | exact rNilNe rfl Tryd.underlying25 rfl) ?_
  refine WL_val rfl rfl rfl (by first | exact rAsgnB rfl rfl | exact rAsgn rfl) ?_
  refine WL_nil ?_
  refine W_cond false rfl ?_
  refine W_seq ?_
  refine W_region ?_
  refine WL_val rfl rfl rfl (by first | exact rLdB (n := 8) rfl (by kernel_rfl) (by kernel_rfl) rfl (by first | rfl | (simp only [i64s, Value.cells, List.size_toArray, List.length_map]; omega)) hI.g0 | exact rLdB (n := 8) rfl (by kernel_rfl) (by kernel_rfl) rfl (by first | rfl | (simp only [i64s, Value.cells, List.size_toArray, List.length_map]; omega)) hI.g1 | exact rLdB (n := 8) rfl (by kernel_rfl) (by kernel_rfl) rfl (by first | rfl | (simp only [i64s, Value.cells, List.size_toArray, List.length_map]; omega)) hI.g2 | exact rLdB (n := 8) rfl (by kernel_rfl) (by kernel_rfl) rfl (by first | rfl | (simp only [i64s, Value.cells, List.size_toArray, List.length_map]; omega)) hI.g3) ?_
  refine WL_val rfl rfl rfl (by first | exact rLdB (n := 8) rfl (by kernel_rfl) (by kernel_rfl) rfl (by first | rfl | (simp only [i64s, Value.cells, List.size_toArray, List.length_map]; omega)) hI.g0 | exact rLdB (n := 8) rfl (by kernel_rfl) (by kernel_rfl) rfl (by first | rfl | (simp only [i64s, Value.cells, List.size_toArray, List.length_map]; omega)) hI.g1 | exact rLdB (n := 8) rfl (by kernel_rfl) (by kernel_rfl) rfl (by first | rfl | (simp only [i64s, Value.cells, List.size_toArray, List.length_map]; omega)) hI.g2 | exact rLdB (n := 8) rfl (by kernel_rfl) (by kernel_rfl) rfl (by first | rfl | (simp only [i64s, Value.cells, List.size_toArray, List.length_map]; omega)) hI.g3) ?_
  refine WL_call rfl rfl rfl (rCall (vs := [.agg _, .agg _]) rfl Tryd.func18 rfl rfl rfl) ?_
  refine (has_any l As cs c hcH _).mono ?_
  rintro e w1 ⟨rfl, hp⟩
  refine ⟨_, rfl, ?_⟩
  replace hI := hI.pure hp
  refine WL_val rfl rfl rfl (by first | exact rNotT rfl rfl | exact rNotF rfl rfl | exact rNot rfl rfl) ?_
  refine WL_val rfl rfl rfl (by first | exact rAsgnB rfl rfl | exact rAsgn rfl) ?_
  refine WL_nil ?_
  clear hp
  refine W_cond false rfl ?_
  refine W_skip ?_
  refine W_seq ?_
  refine W_label ?_
  refine W_block ?_
  refine W_loopN (fun mu ρ w => ∃ a : Nat → Nat, mu = asum a ∧ lowP l c a ∧ Has ρ [(3, .pointer (some ⟨b3, 0, none⟩)), (4, .pointer (some ⟨b4, 0, none⟩)), (6, .pointer (some ⟨b6, 0, none⟩))] ∧ Inv (fun _ => False) w0 w [B b6 52 (hisC l As cs l.length), Many 8 (hisE l As cs l.length), B b4 37 (rep (.int .i64 0) 8), B b3 37 (i64s (vl a)).toArray]) (asum c)
    ⟨c, rfl, LowP.start c, ⟨rfl, rfl, rfl, trivial⟩, hI⟩ ?_
  clear hI
  rintro mu ρ w ⟨a, rfl, hlow, hH, hI⟩
  obtain ⟨σ, rfl⟩ := hH.open
  have hA : hasP l a := fun r hr => Nat.le_trans (hlow.1 r hr) (hcH r hr)
  refine W_block ?_
  refine W_seq ?_
  refine W_seq ?_
  refine W_region ?_
  refine WL_val rfl rfl rfl (by first | exact rLdB (n := 8) rfl (by kernel_rfl) (by kernel_rfl) rfl (by first | rfl | (simp only [i64s, Value.cells, List.size_toArray, List.length_map]; omega)) hI.g0 | exact rLdB (n := 8) rfl (by kernel_rfl) (by kernel_rfl) rfl (by first | rfl | (simp only [i64s, Value.cells, List.size_toArray, List.length_map]; omega)) hI.g1 | exact rLdB (n := 8) rfl (by kernel_rfl) (by kernel_rfl) rfl (by first | rfl | (simp only [i64s, Value.cells, List.size_toArray, List.length_map]; omega)) hI.g2 | exact rLdB (n := 8) rfl (by kernel_rfl) (by kernel_rfl) rfl (by first | rfl | (simp only [i64s, Value.cells, List.size_toArray, List.length_map]; omega)) hI.g3) ?_
  refine WL_val rfl rfl rfl (by first | exact rMoveI rfl rfl | exact rMove rfl) ?_
  refine WL_nil ?_
  refine W_block ?_
  refine W_loopN (fun mu ρ w => ∃ k : Nat, mu = 8 - k ∧ k ≤ 8 ∧ (∀ r, r < k → 0 < a r → ∀ q, q < 8 → stl l r (a r - 1) q ≤ a q) ∧ Has ρ [(28, .int .i64 (k : Int)), (27, .agg (i64s (vl a)).toArray), (3, .pointer (some ⟨b3, 0, none⟩)), (4, .pointer (some ⟨b4, 0, none⟩)), (6, .pointer (some ⟨b6, 0, none⟩))] ∧ Inv (fun _ => False) w0 w [B b6 52 (hisC l As cs l.length), Many 8 (hisE l As cs l.length), B b4 37 (rep (.int .i64 0) 8), B b3 37 (i64s (vl a)).toArray]) 8
    ⟨0, rfl, by omega, fun r hr => by omega, ⟨rfl, rfl, rfl, rfl, rfl, trivial⟩, hI⟩ ?_
  clear hI
  rintro mu ρ w ⟨k, rfl, hk, hall, hH, hI⟩
  obtain ⟨σ, rfl⟩ := hH.open
  by_cases hk8 : k < 8
  rotate_left
  · obtain rfl : k = 8 := by omega
    refine W_seq ?_
    refine W_region ?_
    refine WL_val rfl rfl rfl (by first | exact rLssT rfl rfl rfl (by omega) | exact rLssF rfl rfl rfl (by omega) | exact rLss rfl rfl rfl) ?_
    refine WL_nil ?_
    refine W_seq ?_
    refine W_cond false rfl ?_
    refine W_exit ?_
    refine W_seq ?_
    refine W_region ?_
    refine WL_val rfl rfl rfl (by first | exact rLdB (n := 8) rfl (by kernel_rfl) (by kernel_rfl) rfl (by first | rfl | (simp only [i64s, Value.cells, List.size_toArray, List.length_map]; omega)) hI.g0 | exact rLdB (n := 8) rfl (by kernel_rfl) (by kernel_rfl) rfl (by first | rfl | (simp only [i64s, Value.cells, List.size_toArray, List.length_map]; omega)) hI.g1 | exact rLdB (n := 8) rfl (by kernel_rfl) (by kernel_rfl) rfl (by first | rfl | (simp only [i64s, Value.cells, List.size_toArray, List.length_map]; omega)) hI.g2 | exact rLdB (n := 8) rfl (by kernel_rfl) (by kernel_rfl) rfl (by first | rfl | (simp only [i64s, Value.cells, List.size_toArray, List.length_map]; omega)) hI.g3) ?_
    refine WL_stw2 (u := .agg _) (vs := (i64s (vl a)).toArray) (n := 8) hI rfl rfl rfl rfl rfl rfl (by kernel_rfl) (vlA_len _) rfl (vlA_one _) ?_
    clear hI; intro w hI
    refine WL_val rfl rfl rfl (by first | exact rAsgnN rfl rfl | exact rAsgn rfl) ?_
    refine WL_nil ?_
    refine W_ret ?_
    refine retC2 (n := 8) (t := 37) (.inr rfl) rfl rfl (by kernel_rfl) (by kernel_rfl) (vlA_len _) hI.g2 ?_
    exact ⟨.inl ⟨hok, a, rfl, hlow, hall⟩, hI.pu⟩
  have hck : a k ≤ hlen l l.length k := hA k hk8
  have hln : hlen l l.length k ≤ l.length := hix_le ..
  have hgt := hisC_get (l := l) (As := As) (cs := cs) (k := l.length) hk8
  refine W_seq ?_
  refine W_region ?_
  refine WL_val rfl rfl rfl (by first | exact rLssT rfl rfl rfl (by omega) | exact rLssF rfl rfl rfl (by omega) | exact rLss rfl rfl rfl) ?_
  refine WL_nil ?_
  refine W_seq ?_
  refine W_cond true rfl ?_
  refine W_skip ?_
  refine W_seq ?_
  refine W_block ?_
  refine W_seq ?_
  refine W_region ?_
  refine WL_val rfl rfl rfl (by first | exact rMoveI rfl rfl | exact rMove rfl) ?_
  refine WL_val rfl rfl rfl ((vl_getD (f := a) hk8) ▸ rIdxA (la := vl a) rfl Tryd.underlying37 Tryd.underlying3 (by kernel_rfl) rfl rfl (vl_len a) hk8) ?_
  refine WL_val rfl rfl rfl (by first | exact rAsgnI rfl rfl | exact rAsgn rfl) ?_
  refine WL_val rfl rfl rfl (by first | exact rAsgnI rfl rfl | exact rAsgn rfl) ?_
  refine WL_nil ?_
  by_cases h0 : a k = 0
  · refine W_seq ?_
    refine W_draw (by kernel_rfl) ?_
    refine WA_inv (T := []) hI.drew ?_
    intro Sx hSx hXS
    replace hI := hI.drew
    refine WT_take 0 rfl rfl (by kernel_rfl) (hXS _ hI) rfl (fun W hW => have hI := hSx W hW; (by first | exact rMoveI rfl rfl | exact rMove rfl)) ?_
    refine WT_take 1 rfl rfl (by kernel_rfl) (hXS _ hI) rfl (fun W hW => have hI := hSx W hW; (by first | exact rGtrT rfl rfl rfl (by omega) | exact rGtrF rfl rfl rfl (by omega) | exact rGtr rfl rfl rfl)) ?_
    refine WT_take 2 rfl rfl (by kernel_rfl) (hXS _ hI) rfl (fun W hW => have hI := hSx W hW; (by first | exact rMoveB rfl rfl | exact rMove rfl)) ?_
    refine WT_skip 3 rfl rfl (by kernel_rfl) (hXS _ hI) rfl ?_
    refine WT_skip 4 rfl rfl (by kernel_rfl) (hXS _ hI) rfl ?_
    refine WT_skip 5 rfl rfl (by kernel_rfl) (hXS _ hI) rfl ?_
    refine WT_skip 6 rfl rfl (by kernel_rfl) (hXS _ hI) rfl ?_
    refine WT_skip 7 rfl rfl (by kernel_rfl) (hXS _ hI) rfl ?_
    refine WT_skip 8 rfl rfl (by kernel_rfl) (hXS _ hI) rfl ?_
    refine WT_skip 9 rfl rfl (by kernel_rfl) (hXS _ hI) rfl ?_
    refine WT_skip 10 rfl rfl (by kernel_rfl) (hXS _ hI) rfl ?_
    refine WT_skip 11 rfl rfl (by kernel_rfl) (hXS _ hI) rfl ?_
    refine WT_skip 12 rfl rfl (by kernel_rfl) (hXS _ hI) rfl ?_
    refine WT_take 13 rfl rfl (by kernel_rfl) (hXS _ hI) rfl (fun W hW => have hI := hSx W hW; (by first | exact rPickTB rfl rfl rfl | exact rPickFB rfl rfl rfl | exact rPickB rfl rfl rfl rfl)) ?_
    refine WT_end (by kernel_rfl) ?_
    refine W_cond false rfl ?_
    refine W_skip ?_
    refine W_region ?_
    refine WL_val rfl rfl rfl (by first | exact rInc rfl rfl rfl (by omega) | exact rAdd rfl rfl rfl (by omega) | exact rAddW rfl rfl rfl) ?_
    refine WL_val rfl rfl rfl (by first | exact rMoveI rfl rfl | exact rMove rfl) ?_
    refine WL_nil ?_
    refine ⟨8 - (k + 1), by omega, k + 1, rfl, by omega, fun r hr => ?_, ⟨rfl, rfl, rfl, rfl, rfl, trivial⟩, hI⟩
    rcases Nat.lt_or_ge r k with h1 | h1
    · exact hall r h1
    · have : r = k := by omega
      subst this; omega
  obtain ⟨rb, ro, hAk⟩ := his_addr hI.g1 hk8 (by omega)
  have hgt' : (hisC l As cs l.length)[k]? = some (.slice (some ⟨rb, ro, none⟩) (hlen l l.length k) (cs k)) := by rw [← hAk]; exact hgt
  by_cases hw : ∀ q, q < 8 → stl l k (a k - 1) q ≤ a q
  · refine W_seq ?_
    refine W_draw (by kernel_rfl) ?_
    refine WA_inv (T := []) hI.drew ?_
    intro Sx hSx hXS
    replace hI := hI.drew
    refine WT_take 0 rfl rfl (by kernel_rfl) (hXS _ hI) rfl (fun W hW => have hI := hSx W hW; (by first | exact rMoveI rfl rfl | exact rMove rfl)) ?_
    refine WT_take 1 rfl rfl (by kernel_rfl) (hXS _ hI) rfl (fun W hW => have hI := hSx W hW; (by first | exact rGtrT rfl rfl rfl (by omega) | exact rGtrF rfl rfl rfl (by omega) | exact rGtr rfl rfl rfl)) ?_
    refine WT_take 2 rfl rfl (by kernel_rfl) (hXS _ hI) rfl (fun W hW => have hI := hSx W hW; (by first | exact rMoveB rfl rfl | exact rMove rfl)) ?_
    first | refine WT_take 3 rfl rfl (by kernel_rfl) (hXS _ hI) rfl (fun W hW => have hI := hSx W hW; (by first | exact rMoveI rfl rfl | exact rMove rfl)) ?_ | refine WT_skip 3 rfl rfl (by kernel_rfl) (hXS _ hI) rfl ?_
    first | refine WT_take 4 rfl rfl (by kernel_rfl) (hXS _ hI) rfl (fun W hW => have hI := hSx W hW; (rIdxArr (sz := 1) rfl Tryd.underlying52 (by kernel_rfl) rfl rfl rfl (by omega))) ?_ | refine WT_skip 4 rfl rfl (by kernel_rfl) (hXS _ hI) rfl ?_
    first | refine WT_take 5 rfl rfl (by kernel_rfl) (hXS _ hI) rfl (fun W hW => have hI := hSx W hW; (by first | exact rLd (v := .slice _ _ _) rfl (by kernel_rfl) rfl (by first | exact hI.c0 rfl | exact hI.c1 rfl | exact hI.c2 rfl | exact hI.c3 rfl | exact (at_mul (hI.c0 hgt'))) | exact rLd rfl (by kernel_rfl) rfl (by first | exact hI.c0 rfl | exact hI.c1 rfl | exact hI.c2 rfl | exact hI.c3 rfl | exact (at_mul (hI.c0 hgt'))))) ?_ | refine WT_skip 5 rfl rfl (by kernel_rfl) (hXS _ hI) rfl ?_
    first | refine WT_take 6 rfl rfl (by kernel_rfl) (hXS _ hI) rfl (fun W hW => have hI := hSx W hW; (by first | exact rMoveI rfl rfl | exact rMove rfl)) ?_ | refine WT_skip 6 rfl rfl (by kernel_rfl) (hXS _ hI) rfl ?_
    first | refine WT_take 7 rfl rfl (by kernel_rfl) (hXS _ hI) rfl (fun W hW => have hI := hSx W hW; (rDecN (a := a k) (b := 1) rfl rfl rfl (by omega) (by omega))) ?_ | refine WT_skip 7 rfl rfl (by kernel_rfl) (hXS _ hI) rfl ?_
    first | refine WT_take 8 rfl rfl (by kernel_rfl) (hXS _ hI) rfl (fun W hW => have hI := hSx W hW; (rIdx (sz := 8) rfl Tryd.underlying23 (by kernel_rfl) rfl rfl (by omega))) ?_ | refine WT_skip 8 rfl rfl (by kernel_rfl) (hXS _ hI) rfl ?_
    first | refine WT_take 9 rfl rfl (by kernel_rfl) (hXS _ hI) rfl (fun W hW => have hI := hSx W hW; (by first | exact rLdB (n := 8) rfl (by kernel_rfl) (by kernel_rfl) rfl (by first | rfl | (simp only [i64s, Value.cells, List.size_toArray, List.length_map]; omega)) hI.g0 | exact rLdB (n := 8) rfl (by kernel_rfl) (by kernel_rfl) rfl (by first | rfl | (simp only [i64s, Value.cells, List.size_toArray, List.length_map]; omega)) hI.g1 | exact rLdB (n := 8) rfl (by kernel_rfl) (by kernel_rfl) rfl (by first | rfl | (simp only [i64s, Value.cells, List.size_toArray, List.length_map]; omega)) hI.g2 | exact rLdB (n := 8) rfl (by kernel_rfl) (by kernel_rfl) rfl (by first | rfl | (simp only [i64s, Value.cells, List.size_toArray, List.length_map]; omega)) hI.g3 | exact rLdA (n := 8) rfl (by kernel_rfl) (by kernel_rfl) rfl (by rfl) (fun k u hk => hI.oldp ((his_cell hI.g1 hk8 (m := a k - 1) (by omega) hAk) k u hk)) | exact rLdA (n := 8) rfl (by kernel_rfl) (by kernel_rfl) rfl (by rfl) (his_cell hI.g1 hk8 (m := a k - 1) (by omega) hAk))) ?_ | refine WT_skip 9 rfl rfl (by kernel_rfl) (hXS _ hI) rfl ?_
    first | refine WT_take 10 rfl rfl (by kernel_rfl) (hXS _ hI) rfl (fun W hW => have hI := hSx W hW; (by first | exact rLdB (n := 8) rfl (by kernel_rfl) (by kernel_rfl) rfl (by first | rfl | (simp only [i64s, Value.cells, List.size_toArray, List.length_map]; omega)) hI.g0 | exact rLdB (n := 8) rfl (by kernel_rfl) (by kernel_rfl) rfl (by first | rfl | (simp only [i64s, Value.cells, List.size_toArray, List.length_map]; omega)) hI.g1 | exact rLdB (n := 8) rfl (by kernel_rfl) (by kernel_rfl) rfl (by first | rfl | (simp only [i64s, Value.cells, List.size_toArray, List.length_map]; omega)) hI.g2 | exact rLdB (n := 8) rfl (by kernel_rfl) (by kernel_rfl) rfl (by first | rfl | (simp only [i64s, Value.cells, List.size_toArray, List.length_map]; omega)) hI.g3 | exact rLdA (n := 8) rfl (by kernel_rfl) (by kernel_rfl) rfl (by rfl) (fun k u hk => hI.oldp ((his_cell hI.g1 hk8 (m := a k - 1) (by omega) hAk) k u hk)) | exact rLdA (n := 8) rfl (by kernel_rfl) (by kernel_rfl) rfl (by rfl) (his_cell hI.g1 hk8 (m := a k - 1) (by omega) hAk))) ?_ | refine WT_skip 10 rfl rfl (by kernel_rfl) (hXS _ hI) rfl ?_
    refine WT_one 11 rfl (by kernel_rfl) rfl ?_
    refine WL_call rfl rfl rfl (rCall (vs := [.agg _, .agg _]) rfl Tryd.func14 rfl rfl rfl) ?_
    refine (within_any (vl (stl l k (a k - 1))) (vl a) _ (vl_len _) (vl_len _)).mono ?_
    rw [decide_eq_true (within_iff.2 hw)]
    rintro e w1 ⟨rfl, hp⟩
    refine ⟨_, rfl, ?_⟩
    replace hI := hI.pure hp
    refine WL_nil ⟨hXS _ hI, ?_⟩
    first | refine WT_take 12 rfl rfl (by kernel_rfl) (hXS _ hI) rfl (fun W hW => have hI := hSx W hW; (by first | exact rNotT rfl rfl | exact rNotF rfl rfl | exact rNot rfl rfl)) ?_ | refine WT_skip 12 rfl rfl (by kernel_rfl) (hXS _ hI) rfl ?_
    refine WT_take 13 rfl rfl (by kernel_rfl) (hXS _ hI) rfl (fun W hW => have hI := hSx W hW; (by first | exact rPickTB rfl rfl rfl | exact rPickFB rfl rfl rfl | exact rPickB rfl rfl rfl rfl)) ?_
    refine WT_end (by kernel_rfl) ?_
    refine W_cond false rfl ?_
    refine W_skip ?_
    refine W_region ?_
    refine WL_val rfl rfl rfl (by first | exact rInc rfl rfl rfl (by omega) | exact rAdd rfl rfl rfl (by omega) | exact rAddW rfl rfl rfl) ?_
    refine WL_val rfl rfl rfl (by first | exact rMoveI rfl rfl | exact rMove rfl) ?_
    refine WL_nil ?_
    refine ⟨8 - (k + 1), by omega, k + 1, rfl, by omega, fun r hr => ?_, ⟨rfl, rfl, rfl, rfl, rfl, trivial⟩, hI⟩
    rcases Nat.lt_or_ge r k with h1 | h1
    · exact hall r h1
    · have : r = k := by omega
      subst this; exact fun _ => hw
  · obtain ⟨q, hq⟩ := Classical.not_forall.1 hw
    obtain ⟨hq8, hqlt⟩ := Classical.not_imp.1 hq
    refine W_seq ?_
    refine W_draw (by kernel_rfl) ?_
    refine WA_inv (T := []) hI.drew ?_
    intro Sx hSx hXS
    replace hI := hI.drew
    refine WT_take 0 rfl rfl (by kernel_rfl) (hXS _ hI) rfl (fun W hW => have hI := hSx W hW; (by first | exact rMoveI rfl rfl | exact rMove rfl)) ?_
    refine WT_take 1 rfl rfl (by kernel_rfl) (hXS _ hI) rfl (fun W hW => have hI := hSx W hW; (by first | exact rGtrT rfl rfl rfl (by omega) | exact rGtrF rfl rfl rfl (by omega) | exact rGtr rfl rfl rfl)) ?_
    refine WT_take 2 rfl rfl (by kernel_rfl) (hXS _ hI) rfl (fun W hW => have hI := hSx W hW; (by first | exact rMoveB rfl rfl | exact rMove rfl)) ?_
    first | refine WT_take 3 rfl rfl (by kernel_rfl) (hXS _ hI) rfl (fun W hW => have hI := hSx W hW; (by first | exact rMoveI rfl rfl | exact rMove rfl)) ?_ | refine WT_skip 3 rfl rfl (by kernel_rfl) (hXS _ hI) rfl ?_
    first | refine WT_take 4 rfl rfl (by kernel_rfl) (hXS _ hI) rfl (fun W hW => have hI := hSx W hW; (rIdxArr (sz := 1) rfl Tryd.underlying52 (by kernel_rfl) rfl rfl rfl (by omega))) ?_ | refine WT_skip 4 rfl rfl (by kernel_rfl) (hXS _ hI) rfl ?_
    first | refine WT_take 5 rfl rfl (by kernel_rfl) (hXS _ hI) rfl (fun W hW => have hI := hSx W hW; (by first | exact rLd (v := .slice _ _ _) rfl (by kernel_rfl) rfl (by first | exact hI.c0 rfl | exact hI.c1 rfl | exact hI.c2 rfl | exact hI.c3 rfl | exact (at_mul (hI.c0 hgt'))) | exact rLd rfl (by kernel_rfl) rfl (by first | exact hI.c0 rfl | exact hI.c1 rfl | exact hI.c2 rfl | exact hI.c3 rfl | exact (at_mul (hI.c0 hgt'))))) ?_ | refine WT_skip 5 rfl rfl (by kernel_rfl) (hXS _ hI) rfl ?_
    first | refine WT_take 6 rfl rfl (by kernel_rfl) (hXS _ hI) rfl (fun W hW => have hI := hSx W hW; (by first | exact rMoveI rfl rfl | exact rMove rfl)) ?_ | refine WT_skip 6 rfl rfl (by kernel_rfl) (hXS _ hI) rfl ?_
    first | refine WT_take 7 rfl rfl (by kernel_rfl) (hXS _ hI) rfl (fun W hW => have hI := hSx W hW; (rDecN (a := a k) (b := 1) rfl rfl rfl (by omega) (by omega))) ?_ | refine WT_skip 7 rfl rfl (by kernel_rfl) (hXS _ hI) rfl ?_
    first | refine WT_take 8 rfl rfl (by kernel_rfl) (hXS _ hI) rfl (fun W hW => have hI := hSx W hW; (rIdx (sz := 8) rfl Tryd.underlying23 (by kernel_rfl) rfl rfl (by omega))) ?_ | refine WT_skip 8 rfl rfl (by kernel_rfl) (hXS _ hI) rfl ?_
    first | refine WT_take 9 rfl rfl (by kernel_rfl) (hXS _ hI) rfl (fun W hW => have hI := hSx W hW; (by first | exact rLdB (n := 8) rfl (by kernel_rfl) (by kernel_rfl) rfl (by first | rfl | (simp only [i64s, Value.cells, List.size_toArray, List.length_map]; omega)) hI.g0 | exact rLdB (n := 8) rfl (by kernel_rfl) (by kernel_rfl) rfl (by first | rfl | (simp only [i64s, Value.cells, List.size_toArray, List.length_map]; omega)) hI.g1 | exact rLdB (n := 8) rfl (by kernel_rfl) (by kernel_rfl) rfl (by first | rfl | (simp only [i64s, Value.cells, List.size_toArray, List.length_map]; omega)) hI.g2 | exact rLdB (n := 8) rfl (by kernel_rfl) (by kernel_rfl) rfl (by first | rfl | (simp only [i64s, Value.cells, List.size_toArray, List.length_map]; omega)) hI.g3 | exact rLdA (n := 8) rfl (by kernel_rfl) (by kernel_rfl) rfl (by rfl) (fun k u hk => hI.oldp ((his_cell hI.g1 hk8 (m := a k - 1) (by omega) hAk) k u hk)) | exact rLdA (n := 8) rfl (by kernel_rfl) (by kernel_rfl) rfl (by rfl) (his_cell hI.g1 hk8 (m := a k - 1) (by omega) hAk))) ?_ | refine WT_skip 9 rfl rfl (by kernel_rfl) (hXS _ hI) rfl ?_
    first | refine WT_take 10 rfl rfl (by kernel_rfl) (hXS _ hI) rfl (fun W hW => have hI := hSx W hW; (by first | exact rLdB (n := 8) rfl (by kernel_rfl) (by kernel_rfl) rfl (by first | rfl | (simp only [i64s, Value.cells, List.size_toArray, List.length_map]; omega)) hI.g0 | exact rLdB (n := 8) rfl (by kernel_rfl) (by kernel_rfl) rfl (by first | rfl | (simp only [i64s, Value.cells, List.size_toArray, List.length_map]; omega)) hI.g1 | exact rLdB (n := 8) rfl (by kernel_rfl) (by kernel_rfl) rfl (by first | rfl | (simp only [i64s, Value.cells, List.size_toArray, List.length_map]; omega)) hI.g2 | exact rLdB (n := 8) rfl (by kernel_rfl) (by kernel_rfl) rfl (by first | rfl | (simp only [i64s, Value.cells, List.size_toArray, List.length_map]; omega)) hI.g3 | exact rLdA (n := 8) rfl (by kernel_rfl) (by kernel_rfl) rfl (by rfl) (fun k u hk => hI.oldp ((his_cell hI.g1 hk8 (m := a k - 1) (by omega) hAk) k u hk)) | exact rLdA (n := 8) rfl (by kernel_rfl) (by kernel_rfl) rfl (by rfl) (his_cell hI.g1 hk8 (m := a k - 1) (by omega) hAk))) ?_ | refine WT_skip 10 rfl rfl (by kernel_rfl) (hXS _ hI) rfl ?_
    refine WT_one 11 rfl (by kernel_rfl) rfl ?_
    refine WL_call rfl rfl rfl (rCall (vs := [.agg _, .agg _]) rfl Tryd.func14 rfl rfl rfl) ?_
    refine (within_any (vl (stl l k (a k - 1))) (vl a) _ (vl_len _) (vl_len _)).mono ?_
    rw [decide_eq_false (fun h => hw (within_iff.1 h))]
    rintro e w1 ⟨rfl, hp⟩
    refine ⟨_, rfl, ?_⟩
    replace hI := hI.pure hp
    refine WL_nil ⟨hXS _ hI, ?_⟩
    first | refine WT_take 12 rfl rfl (by kernel_rfl) (hXS _ hI) rfl (fun W hW => have hI := hSx W hW; (by first | exact rNotT rfl rfl | exact rNotF rfl rfl | exact rNot rfl rfl)) ?_ | refine WT_skip 12 rfl rfl (by kernel_rfl) (hXS _ hI) rfl ?_
    refine WT_take 13 rfl rfl (by kernel_rfl) (hXS _ hI) rfl (fun W hW => have hI := hSx W hW; (by first | exact rPickTB rfl rfl rfl | exact rPickFB rfl rfl rfl | exact rPickB rfl rfl rfl rfl)) ?_
    refine WT_end (by kernel_rfl) ?_
    refine W_cond true rfl ?_
    refine W_seq ?_
    refine W_region ?_
    refine WL_val rfl rfl rfl (by first | exact rMoveI rfl rfl | exact rMove rfl) ?_
    refine WL_val rfl rfl rfl (rIdxArr (sz := 1) (i := k) rfl Tryd.underlying37 (by kernel_rfl) rfl rfl rfl hk8) ?_
    refine WL_val rfl rfl rfl (by first | exact rLd (v := .int .i64 _) rfl (by kernel_rfl) rfl (by first | exact (at_mul (hI.c3 (vl_getA hk8)))) | exact rLd rfl (by kernel_rfl) rfl (by first | exact (at_mul (hI.c3 (vl_getA hk8))))) ?_
    refine WL_val rfl rfl rfl (rDecN (a := a k) (b := 1) rfl rfl rfl (by omega) (by omega)) ?_
    refine WL_val rfl rfl rfl (rIdxArr (sz := 1) (i := k) rfl Tryd.underlying37 (by kernel_rfl) rfl rfl rfl hk8) ?_
    refine WL_st3 (u := .int .i64 _) (j := 0 + k * 1) hI rfl rfl rfl rfl rfl rfl (by kernel_rfl) rfl (by simp [Nat.blt, i64s, vl]; omega) rfl ?_
    rw [Nat.zero_add, Nat.mul_one, i64s_set, vl_set]
    clear hI; intro w hI
    refine WL_nil ?_
    refine W_exit ?_
    exact ⟨_, asum_lt hk8 (by omega), _, rfl, hlow.step hk8 (by omega) hq8 (Nat.lt_of_not_le hqlt), ⟨rfl, rfl, rfl, trivial⟩, hI⟩
end Go.Proofs.YtajbhabkhgpcfaaDoor
