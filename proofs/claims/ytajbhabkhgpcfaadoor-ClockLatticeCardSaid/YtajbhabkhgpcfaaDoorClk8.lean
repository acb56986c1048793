/- clock.Ahead. -/
import Derived.Test.YtajbhabkhgpcfaaDoorClk7
import Derived.Test.YtajbhabkhgpcfaaDoorSxt
namespace Go.Proofs.YtajbhabkhgpcfaaDoor
open Go.RowKit
set_option linter.unusedVariables false
set_option linter.unusedSimpArgs false
abbrev vec (l : List Ck) (i : Nat) : List Int := vl (vecF (prc l) (fromF l) i)
abbrev ahd (l : List Ck) (i k : Nat) : Bool := lessV (vec l i) (vec l k)
def ahRow (l : List Ck) (i m : Nat) : List Value := (List.range m).map fun k => Value.bool (ahd l i k)
theorem ahRow_succ (l : List Ck) (i m : Nat) : ahRow l i (m + 1) = ahRow l i m ++ [.bool (ahd l i m)] := by simp [ahRow, List.range_succ]
def ahOut (n : Nat) (As : Nat → Option Addr) (cs : Nat → Nat) (m : Nat) : List Value := (List.range m).map fun i => Value.slice (As i) n (cs i)
theorem ahOut_succ (n : Nat) (As : Nat → Option Addr) (cs : Nat → Nat) (m : Nat) (A : Option Addr) (c : Nat) : ahOut n (fun i => if i = m then A else As i) (fun i => if i = m then c else cs i) (m + 1) = ahOut n As cs m ++ [.slice A n c] := by
  simp only [ahOut, List.range_succ, List.map_append, List.map_cons, List.map_nil, if_pos rfl]
  congr 1
  refine List.map_congr_left fun i hi => ?_
  have : i ≠ m := by have := List.mem_range.1 hi; omega
  simp only [if_neg this]
def ahRows (l : List Ck) (As : Nat → Option Addr) (cs : Nat → Nat) (i : Nat) : Ent := Row 0 4 1 (As i) l.length (cs i) (ahRow l i l.length)
def AheadPost (l : List Ck) (w0 : World) (en : Ending) (w' : World) : Prop :=
  (OkClk l ∧ ∃ A c As cs, en = .returned (.tuple #[.slice A l.length c, .nilIface]) ∧ Inv (fun _ => False) w0 w' [Row 0 35 1 A l.length c (ahOut l.length As cs l.length), Many l.length (ahRows l As cs)]) ∨
    (¬ OkClk l ∧ (∃ e n, en = .returned (.tuple #[.slice none 0 0, e]) ∧ IsE w' e n) ∧ Pure w0 w')
set_option maxHeartbeats 2000000 in
theorem ahead_any (A : Option Addr) (n c : Nat) (l : List Ck) (D : Nat → Prop) (w0 : World) (h : Cks w0 D (.slice A n c) l) (hg : GlobOk w0) :
    Calls Tryd.prog 8 #[.slice A n c] w0 (AheadPost l w0) := by
  obtain ⟨hn, hc1, hc2⟩ := h.len
  have hI := Inv.start (fun _ => False) w0
  refine calls_of_W (N := Tryd.f8.ntmps) Tryd.func8 rfl rfl rfl ?_
  refine W_seq ?_
  refine W_region ?_
  refine WL_val rfl rfl rfl (by first | exact rAsgnS rfl rfl | exact rAsgn rfl) ?_
  refine WL_val rfl rfl rfl (by first | exact rAsgnN rfl rfl | exact rAsgnE rfl rfl | exact rAsgn rfl) ?_
  refine WL_nil ?_
  by_cases hok : OkClk l
  rotate_left
  · refine W_seq ?_
    refine W_region ?_
    refine WL_val rfl rfl rfl (by first | exact rMoveS rfl rfl | exact rMove rfl) ?_
    refine WL_call rfl rfl rfl (rCall (vs := [.slice _ _ _]) rfl Tryd.func6 rfl rfl rfl) ?_
    refine (vectors_any A n c l D _ h hg).mono ?_
    rintro e w1 ⟨⟨hok', _⟩ | ⟨_, e', m, rfl, hE⟩, hp⟩
    · exact absurd hok' hok
    obtain ⟨t, u, rfl⟩ := hE.form
    refine ⟨_, rfl, ?_⟩
    replace hI := hI.pure hp
    refine WL_val rfl rfl rfl (by first | exact rMoveT rfl rfl | exact rMove rfl) ?_
    refine WL_val rfl rfl rfl (rExtr rfl rfl rfl) ?_
    refine WL_val rfl rfl rfl (rExtr rfl rfl rfl) ?_
    refine WL_val rfl rfl rfl (by first | exact rAsgnS rfl rfl | exact rAsgn rfl) ?_
    refine WL_val rfl rfl rfl (by first | exact rAsgnN rfl rfl | exact rAsgnE rfl rfl | exact rAsgn rfl) ?_
    refine WL_nil ?_
    refine W_seq ?_
    refine W_seq ?_
    refine W_region ?_
    refine WL_val rfl rfl rfl (by first | exact rMoveN rfl rfl | exact rMoveE rfl rfl | exact rMove rfl) ?_
    refine WL_val rfl rfl rfl (by first | exact rIfaceNe rfl Tryd.underlying25 rfl rfl | exact rNilNe rfl Tryd.underlying25 rfl) ?_
    refine WL_nil ?_
    refine W_cond true rfl ?_
    refine W_seq ?_
    refine W_region ?_
    refine WL_val rfl rfl rfl (by first | exact rMoveN rfl rfl | exact rMoveE rfl rfl | exact rMove rfl) ?_
    refine WL_val rfl rfl rfl (by first | exact rAsgnS rfl rfl | exact rAsgn rfl) ?_
    refine WL_val rfl rfl rfl (by first | exact rAsgnN rfl rfl | exact rAsgnE rfl rfl | exact rAsgn rfl) ?_
    refine WL_nil ?_
    refine W_ret ?_
    exact ret2 2 3 (.inr rfl) rfl (.inr ⟨hok, ⟨_, m, rfl, hE⟩, hI.pu⟩)
  have h40 : n ≤ 40 := by have := hok.1; omega
  refine W_seq ?_
  refine W_region ?_
  refine WL_val rfl rfl rfl (by first | exact rMoveS rfl rfl | exact rMove rfl) ?_
  refine WL_call rfl rfl rfl (rCall (vs := [.slice _ _ _]) rfl Tryd.func6 rfl rfl rfl) ?_
  refine (vectors_any A n c l D _ h hg).mono ?_
  rintro e w1 ⟨⟨_, ob, rfl, hob, hge⟩ | ⟨hbad, _⟩, hp⟩
  rotate_left
  · exact absurd hok hbad
  rw [← hn] at hob
  refine ⟨.tuple #[.slice (some ⟨ob, 0, none⟩) n n, .nilIface], by rw [hn], ?_⟩
  replace hI := hI.fresh hp hob (fun k hk => by have : k = ob := hk; omega)
  refine WL_val rfl rfl rfl (by first | exact rMoveT rfl rfl | exact rMove rfl) ?_
  refine WL_val rfl rfl rfl (rExtr rfl rfl rfl) ?_
  refine WL_val rfl rfl rfl (rExtr rfl rfl rfl) ?_
  refine WL_val rfl rfl rfl (by first | exact rAsgnS rfl rfl | exact rAsgn rfl) ?_
  refine WL_val rfl rfl rfl (by first | exact rAsgnN rfl rfl | exact rAsgnE rfl rfl | exact rAsgn rfl) ?_
  refine WL_nil ?_
  refine W_seq ?_
  refine W_seq ?_
  refine W_region ?_
  refine WL_val rfl rfl rfl (by first | exact rMoveN rfl rfl | exact rMoveE rfl rfl | exact rMove rfl) ?_
  refine WL_val rfl rfl rfl (by first | exact rIfaceNe rfl Tryd.underlying25 rfl rfl | exact rNilNe rfl Tryd.underlying25 rfl) ?_
  refine WL_nil ?_
  refine W_cond false rfl ?_
  refine W_skip ?_
  refine W_seq ?_
  refine W_region ?_
  refine WL_val rfl rfl rfl (by first | exact rAsgnS rfl rfl | exact rAsgn rfl) ?_
  refine WL_nil ?_
  refine W_seq ?_
  refine W_seq ?_
  refine W_region ?_
  refine WL_val rfl rfl rfl (by first | exact rMoveS rfl rfl | exact rMove rfl) ?_
  refine WL_val rfl rfl rfl (rLen rfl Tryd.underlying23 rfl) ?_
  refine WL_val rfl rfl rfl (by first | exact rMoveI rfl rfl | exact rMove rfl) ?_
  refine WL_nil ?_
  replace hI := ((hI.many_nil (ahRows l (fun _ => none) (fun _ => 0))).fresh (Pure.refl _) (Row.nil _ 0 35 1) (fun k hk => by simp [Row] at hk))
  refine W_block ?_
  refine W_loop (fun ρ w => ∃ (k : Nat) (A' : Option Addr) (c' : Nat) (As : Nat → Option Addr) (cs : Nat → Nat), k ≤ n ∧ Has ρ [(22, .int .i64 (k : Int)), (21, .int .i64 (n : Int)), (20, .slice (some ⟨ob, 0, none⟩) n n), (4, .slice (some ⟨ob, 0, none⟩) n n), (6, .slice A' k c')] ∧ Inv (fun _ => False) w0 w [Row 0 35 1 A' k c' (ahOut n As cs k), Many k (ahRows l As cs), B ob 37 (vgr n (vecF (prc l) (fromF l)))]) (fun ρ _ => n - cnt (ρ 22))
    ⟨0, none, 0, _, _, by omega, ⟨rfl, rfl, rfl, rfl, rfl, trivial⟩, hI⟩ ?_
  clear hI
  rintro ρ w ⟨k, A', c', As, cs, hk, hH, hI⟩
  obtain ⟨σ, rfl⟩ := hH.open
  by_cases hkn : k < n
  rotate_left
  · obtain rfl : k = n := by omega
    refine W_seq ?_
    refine W_region ?_
    refine WL_val rfl rfl rfl (by first | exact rLssT rfl rfl rfl (by omega) | exact rLssF rfl rfl rfl (by omega) | exact rLss rfl rfl rfl) ?_
    refine WL_nil ?_
    refine W_seq ?_
    refine W_cond false rfl ?_
    refine W_exit ?_
    refine W_seq ?_
    refine W_region ?_
    refine WL_val rfl rfl rfl (by first | exact rMoveS rfl rfl | exact rMove rfl) ?_
    refine WL_val rfl rfl rfl (by first | exact rAsgnS rfl rfl | exact rAsgn rfl) ?_
    refine WL_val rfl rfl rfl (by first | exact rAsgnN rfl rfl | exact rAsgnE rfl rfl | exact rAsgn rfl) ?_
    refine WL_nil ?_
    refine W_ret ?_
    refine ret2 2 3 (.inr rfl) rfl (.inl ⟨hok, A', c', As, cs, by rw [← hn]; rfl, ?_⟩)
    rw [← hn]; exact hI.d2
  refine W_seq ?_
  refine W_region ?_
  refine WL_val rfl rfl rfl (by first | exact rLssT rfl rfl rfl (by omega) | exact rLssF rfl rfl rfl (by omega) | exact rLss rfl rfl rfl) ?_
  refine WL_nil ?_
  refine W_seq ?_
  refine W_cond true rfl ?_
  refine W_skip ?_
  refine W_seq ?_
  refine W_block ?_
  refine W_seq ?_
  refine W_region ?_
  refine WL_val rfl rfl rfl (rIdx (sz := 8) rfl Tryd.underlying23 (by kernel_rfl) rfl rfl (by omega)) ?_
  refine WL_val rfl rfl rfl (by first | exact rLdA (n := 8) rfl (by kernel_rfl) (by kernel_rfl) rfl (by rfl) (fun k u hk => hI.oldp ((vgr_row hI.g2 hkn) k u hk)) | exact rLdA (n := 8) rfl (by kernel_rfl) (by kernel_rfl) rfl (by rfl) (vgr_row hI.g2 hkn)) ?_
  refine WL_alloc (u := .agg #[.int .i64 0, .int .i64 0, .int .i64 0, .int .i64 0, .int .i64 0, .int .i64 0, .int .i64 0, .int .i64 0]) (vs := #[.int .i64 0, .int .i64 0, .int .i64 0, .int .i64 0, .int .i64 0, .int .i64 0, .int .i64 0, .int .i64 0]) hI rfl rfl rfl rfl (by kernel_rfl) rfl ?_
  clear hI; rintro b8 w - - hI
  refine WL_stw0 (u := .agg _) (vs := (i64s (vl _)).toArray) (n := 8) hI rfl rfl rfl rfl rfl rfl (by kernel_rfl) (by simp [i64s, vl]) rfl (by simp [i64s, Value.oneCell']) ?_
  clear hI; intro w hI
  refine WL_nil ?_
  refine W_seq ?_
  refine W_region ?_
  refine WL_val rfl rfl rfl (by first | exact rAsgnS rfl rfl | exact rAsgn rfl) ?_
  refine WL_nil ?_
  replace hI := hI.fresh (Pure.refl _) (Row.nil _ 0 4 1) (fun k hk => by simp [Row] at hk)
  refine W_seq_cut (fun ρ w => ∃ (A2 : Option Addr) (c2 : Nat), Has ρ [(22, .int .i64 (k : Int)), (21, .int .i64 (n : Int)), (20, .slice (some ⟨ob, 0, none⟩) n n), (4, .slice (some ⟨ob, 0, none⟩) n n), (6, .slice A' k c'), (9, .slice A2 n c2)] ∧ Inv (fun _ => False) w0 w [Row 0 4 1 A2 n c2 (ahRow l k n), Row 0 35 1 A' k c' (ahOut n As cs k), Many k (ahRows l As cs), B ob 37 (vgr n (vecF (prc l) (fromF l)))]) ?_ ?_
  · refine W_seq ?_
    refine W_region ?_
    refine WL_val rfl rfl rfl (by first | exact rMoveS rfl rfl | exact rMove rfl) ?_
    refine WL_val rfl rfl rfl (rLen rfl Tryd.underlying23 rfl) ?_
    refine WL_val rfl rfl rfl (by first | exact rMoveI rfl rfl | exact rMove rfl) ?_
    refine WL_nil ?_
    refine W_block ?_
    refine W_loop (fun ρ w => ∃ (m : Nat) (A2 : Option Addr) (c2 : Nat), m ≤ n ∧ Has ρ [(28, .int .i64 (m : Int)), (27, .int .i64 (n : Int)), (26, .slice (some ⟨ob, 0, none⟩) n n), (22, .int .i64 (k : Int)), (21, .int .i64 (n : Int)), (20, .slice (some ⟨ob, 0, none⟩) n n), (4, .slice (some ⟨ob, 0, none⟩) n n), (6, .slice A' k c'), (8, .pointer (some ⟨b8, 0, none⟩)), (9, .slice A2 m c2)] ∧ Inv (fun _ => False) w0 w [Row 0 4 1 A2 m c2 (ahRow l k m), B b8 37 (i64s (vec l k)).toArray, Row 0 35 1 A' k c' (ahOut n As cs k), Many k (ahRows l As cs), B ob 37 (vgr n (vecF (prc l) (fromF l)))]) (fun ρ _ => n - cnt (ρ 28))
      ⟨0, none, 0, by omega, ⟨rfl, rfl, rfl, rfl, rfl, rfl, rfl, rfl, rfl, rfl, trivial⟩, hI⟩ ?_
    clear hI
    rintro ρ w ⟨m, A2, c2, hm, hH, hI⟩
    obtain ⟨σ, rfl⟩ := hH.open
    by_cases hmn : m < n
    rotate_left
    · obtain rfl : m = n := by omega
      refine W_seq ?_
      refine W_region ?_
      refine WL_val rfl rfl rfl (by first | exact rLssT rfl rfl rfl (by omega) | exact rLssF rfl rfl rfl (by omega) | exact rLss rfl rfl rfl) ?_
      refine WL_nil ?_
      refine W_seq ?_
      refine W_cond false rfl ?_
      refine W_exit ?_
      exact ⟨A2, c2, ⟨rfl, rfl, rfl, rfl, rfl, rfl, trivial⟩, hI.d1⟩
    refine W_seq ?_
    refine W_region ?_
    refine WL_val rfl rfl rfl (by first | exact rLssT rfl rfl rfl (by omega) | exact rLssF rfl rfl rfl (by omega) | exact rLss rfl rfl rfl) ?_
    refine WL_nil ?_
    refine W_seq ?_
    refine W_cond true rfl ?_
    refine W_skip ?_
    refine W_seq ?_
    refine W_block ?_
    refine W_seq ?_
    refine W_region ?_
    refine WL_val rfl rfl rfl (rIdx (sz := 8) rfl Tryd.underlying23 (by kernel_rfl) rfl rfl (by omega)) ?_
    refine WL_val rfl rfl rfl (by first | exact rLdA (n := 8) rfl (by kernel_rfl) (by kernel_rfl) rfl (by rfl) (fun k u hk => hI.oldp ((vgr_row hI.g4 hmn) k u hk)) | exact rLdA (n := 8) rfl (by kernel_rfl) (by kernel_rfl) rfl (by rfl) (vgr_row hI.g4 hmn)) ?_
    refine WL_alloc (u := .agg #[.int .i64 0, .int .i64 0, .int .i64 0, .int .i64 0, .int .i64 0, .int .i64 0, .int .i64 0, .int .i64 0]) (vs := #[.int .i64 0, .int .i64 0, .int .i64 0, .int .i64 0, .int .i64 0, .int .i64 0, .int .i64 0, .int .i64 0]) hI rfl rfl rfl rfl (by kernel_rfl) rfl ?_
    clear hI; rintro b11 w - - hI
    refine WL_stw0 (u := .agg _) (vs := (i64s (vl _)).toArray) (n := 8) hI rfl rfl rfl rfl rfl rfl (by kernel_rfl) (by simp [i64s, vl]) rfl (by simp [i64s, Value.oneCell']) ?_
    clear hI; intro w hI
    refine WL_nil ?_
    refine W_region ?_
    refine WL_val rfl rfl rfl (by first | exact rMoveS rfl rfl | exact rMove rfl) ?_
    refine WL_val rfl rfl rfl (by first | exact rLdB (n := 8) rfl (by kernel_rfl) (by kernel_rfl) rfl (by first | rfl | (simp only [i64s, Value.cells, List.size_toArray, List.length_map]; omega)) hI.g0 | exact rLdB (n := 8) rfl (by kernel_rfl) (by kernel_rfl) rfl (by first | rfl | (simp only [i64s, Value.cells, List.size_toArray, List.length_map]; omega)) hI.g1 | exact rLdB (n := 8) rfl (by kernel_rfl) (by kernel_rfl) rfl (by first | rfl | (simp only [i64s, Value.cells, List.size_toArray, List.length_map]; omega)) hI.g2) ?_
    refine WL_val rfl rfl rfl (by first | exact rLdB (n := 8) rfl (by kernel_rfl) (by kernel_rfl) rfl (by first | rfl | (simp only [i64s, Value.cells, List.size_toArray, List.length_map]; omega)) hI.g0 | exact rLdB (n := 8) rfl (by kernel_rfl) (by kernel_rfl) rfl (by first | rfl | (simp only [i64s, Value.cells, List.size_toArray, List.length_map]; omega)) hI.g1 | exact rLdB (n := 8) rfl (by kernel_rfl) (by kernel_rfl) rfl (by first | rfl | (simp only [i64s, Value.cells, List.size_toArray, List.length_map]; omega)) hI.g2) ?_
    refine WL_call rfl rfl rfl (rCall (vs := [.agg _, .agg _]) rfl Tryd.func10 rfl rfl rfl) ?_
    refine (less_any _ _ _ (vl_len _) (vl_len _)).mono ?_
    rintro e w1 ⟨rfl, hp⟩
    refine ⟨_, rfl, ?_⟩
    replace hI := hI.pure hp
    refine WL_lit (vs := [_]) (qs := [(0, .bool _)]) [.bool false] [0] hI rfl rfl rfl rfl rfl rfl Tryd.underlying35 (fun _ => by kernel_rfl) ?_
    clear hI; rintro b36 w - - hI
    first | refine WL_app1 (z := .bool false) (by_ := 1) hI rfl rfl rfl rfl rfl rfl Tryd.underlying35 (by kernel_rfl) rfl (by omega) (by rfl) hI.lit0 (by first | rfl | simp [i64s, Value.oneCell']) (by omega) (by omega) (by first | exact Nat.zero_le _ | (have := hI.chg.size; omega)) ?_ | refine WL_app2 (z := .bool false) (by_ := 1) hI rfl rfl rfl rfl rfl rfl Tryd.underlying35 (by kernel_rfl) rfl (by omega) (by rfl) hI.lit0 (by first | rfl | simp [i64s, Value.oneCell']) (by omega) (by omega) (by first | exact Nat.zero_le _ | (have := hI.chg.size; omega)) ?_ | refine WL_app3 (z := .bool false) (by_ := 1) hI rfl rfl rfl rfl rfl rfl Tryd.underlying35 (by kernel_rfl) rfl (by omega) (by rfl) hI.lit0 (by first | rfl | simp [i64s, Value.oneCell']) (by omega) (by omega) (by first | exact Nat.zero_le _ | (have := hI.chg.size; omega)) ?_ | refine WL_app4 (z := .bool false) (by_ := 1) hI rfl rfl rfl rfl rfl rfl Tryd.underlying35 (by kernel_rfl) rfl (by omega) (by rfl) hI.lit0 (by first | rfl | simp [i64s, Value.oneCell']) (by omega) (by omega) (by first | exact Nat.zero_le _ | (have := hI.chg.size; omega)) ?_ | refine WL_app5 (z := .bool false) (by_ := 1) hI rfl rfl rfl rfl rfl rfl Tryd.underlying35 (by kernel_rfl) rfl (by omega) (by rfl) hI.lit0 (by first | rfl | simp [i64s, Value.oneCell']) (by omega) (by omega) (by first | exact Nat.zero_le _ | (have := hI.chg.size; omega)) ?_
    clear hI; rintro A37 c37 w hA37 hc37 hI
    replace hI := hI.d0
    refine WL_val rfl rfl rfl (by first | exact rAsgnS rfl rfl | exact rAsgn rfl) ?_
    refine WL_nil ?_
    replace hI := hI.d0
    refine W_region ?_
    refine WL_val rfl rfl rfl (by first | exact rInc rfl rfl rfl (by omega) | exact rAdd rfl rfl rfl (by omega) | exact rAddW rfl rfl rfl) ?_
    refine WL_val rfl rfl rfl (by first | exact rMoveI rfl rfl | exact rMove rfl) ?_
    refine WL_nil ?_
    exact ⟨⟨m + 1, _, _, by omega, ⟨rfl, rfl, rfl, rfl, rfl, rfl, rfl, rfl, rfl, rfl, trivial⟩, by rw [ahRow_succ]; exact hI⟩, by show n - ((m + 1 : Nat) : Int).toNat < n - (m : Int).toNat; omega⟩
  clear hI
  rintro ρ w ⟨A2, c2, hH, hI⟩
  obtain ⟨σ, rfl⟩ := hH.open
  refine W_region ?_
  refine WL_val rfl rfl rfl (by first | exact rMoveS rfl rfl | exact rMove rfl) ?_
  refine WL_val rfl rfl rfl (by first | exact rMoveS rfl rfl | exact rMove rfl) ?_
  refine WL_lit (vs := [_]) (qs := [(0, .slice _ _ _)]) [.slice none 0 0] [0] hI rfl rfl rfl rfl rfl rfl Tryd.underlying31 (fun _ => by kernel_rfl) ?_
  clear hI; rintro b41 w - - hI
  first | refine WL_app2 (z := .slice none 0 0) (by_ := 24) hI rfl rfl rfl rfl rfl rfl Tryd.underlying31 (by kernel_rfl) rfl (by omega) (by rfl) hI.lit0 (by first | rfl | simp [i64s, Value.oneCell']) (by omega) (by omega) (by first | exact Nat.zero_le _ | (have := hI.chg.size; omega)) ?_
  clear hI; rintro A42 c42 w hA42 hc42 hI
  replace hI := hI.d0
  refine WL_val rfl rfl rfl (by first | exact rAsgnS rfl rfl | exact rAsgn rfl) ?_
  refine WL_nil ?_
  replace hI := hI.sw1.many_push.sw0
  have e1 := ahOut_succ n As cs k A2 c2
  refine W_region ?_
  refine WL_val rfl rfl rfl (by first | exact rInc rfl rfl rfl (by omega) | exact rAdd rfl rfl rfl (by omega) | exact rAddW rfl rfl rfl) ?_
  refine WL_val rfl rfl rfl (by first | exact rMoveI rfl rfl | exact rMove rfl) ?_
  refine WL_nil ?_
  refine ⟨⟨k + 1, _, _, (fun i => if i = k then A2 else As i), (fun i => if i = k then c2 else cs i), by omega, ⟨rfl, rfl, rfl, rfl, rfl, trivial⟩, ?_⟩, by show n - ((k + 1 : Nat) : Int).toNat < n - (k : Int).toNat; omega⟩
  rw [e1]
  refine (hI.sw0.many_congr (fun i hi => ?_)).sw0
  by_cases hik : i = k
  · subst hik; simp only [ahRows]; rw [hn]; simp
  · simp only [if_neg hik, ahRows]
end Go.Proofs.YtajbhabkhgpcfaaDoor
