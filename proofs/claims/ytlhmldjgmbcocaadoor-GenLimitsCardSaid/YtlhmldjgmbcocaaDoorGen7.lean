/- gen: the parser's small words. -/
import Derived.Test.YtlhmldjgmbcocaaDoorGen3
import Derived.Test.YtlhmldjgmbcocaaDoorGen5
import Derived.Test.YtlhmldjgmbcocaaDoorGen6
namespace Go.Proofs.YtlhmldjgmbcocaaDoor
open Go.RowKit
set_option linter.unusedVariables false
set_option linter.unusedSimpArgs false
def sgE (g : Nat) (sgs : List Sg) : Ent := ⟨fun k => k = g, fun w => ∃ (T : TypeId) (cur : Array Value), Blk w g T cur ∧ ∀ (j : Nat) (u : Value), (sgs.flatMap sgL)[j]? = some u → cur[j]? = some u⟩
def parE (p g : Nat) (sgs : List Sg) (c i : Nat) : Ent := B p 51 #[.slice (some ⟨g, i * 2, none⟩) (sgs.length - i) (c - i)]
/-- What is read: the words of a text, an empty one behind them. -/
structure Ptx (T : List Tok) (sgs : List Sg) (c : Nat) : Prop where
  hs : sgs.map (·.1) = T ++ [[]]
  ne : ∀ t ∈ T, t ≠ []
  nc : sgs.length ≤ c
  c63 : c ≤ 9223372036854775807
  tl : T.length ≤ 100000
  tk : ∀ t ∈ T, t.length ≤ 1000000
section
variable {T : List Tok} {sgs : List Sg} {c i p g : Nat} {S : Nat → Prop} {w0 w : World} {H : List Ent}
theorem Ptx.len (h : Ptx T sgs c) : sgs.length = T.length + 1 := by
  have := congrArg List.length h.hs
  simpa using this
theorem Ptx.at_ (h : Ptx T sgs c) (hi : i ≤ T.length) : ∃ n, sgs[i]? = some (headT (T.drop i), n) := by
  have hl : i < sgs.length := by rw [h.len]; omega
  refine ⟨sgs[i].2, ?_⟩
  rw [List.getElem?_eq_getElem hl]
  congr 1
  have h1 : (sgs.map (·.1))[i]? = some sgs[i].1 := by rw [List.getElem?_map, List.getElem?_eq_getElem hl]; rfl
  rw [h.hs] at h1
  refine Prod.ext ?_ rfl
  show sgs[i].1 = headT (T.drop i)
  rcases Nat.lt_or_ge i T.length with h2 | h2
  · rw [List.getElem?_append_left h2, List.getElem?_eq_getElem h2] at h1
    rw [List.drop_eq_getElem_cons h2]
    exact (Option.some.inj h1).symm
  · obtain rfl : i = T.length := by omega
    rw [List.getElem?_append_right (Nat.le_refl _), Nat.sub_self] at h1
    rw [List.drop_of_length_le (Nat.le_refl _)]
    exact (Option.some.inj h1).symm
theorem Ptx.tok (h : Ptx T sgs c) (i : Nat) : (headT (T.drop i)).length ≤ 1000000 := by
  rcases Nat.lt_or_ge i T.length with h2 | h2
  · rw [List.drop_eq_getElem_cons h2]
    exact h.tk _ (List.getElem_mem h2)
  · rw [List.drop_of_length_le h2]; simp [headT]
theorem sgE.cells (hI : Inv S w0 w (sgE g sgs :: H)) {s : Sg} (hi : sgs[i]? = some s) : w.cell? ⟨g, i * 2, none⟩ = some (strV s.1) ∧ w.cell? ⟨g, i * 2 + 1, none⟩ = some (.int .i64 (s.2 : Int)) := by
  obtain ⟨T, cur, hb, hc⟩ := (hI.ok _ (List.mem_cons_self ..)).1
  have h0 := flat_get sgL_len sgs i 0 s hi (by omega)
  have h1 := flat_get sgL_len sgs i 1 s hi (by omega)
  rw [hb.cell, hb.cell]
  exact ⟨hc _ _ h0, hc _ _ h1⟩
/-- The next word. -/
theorem Ptx.cells (h : Ptx T sgs c) (hi : i ≤ T.length) (hI : Inv S w0 w (parE p g sgs c i :: sgE g sgs :: H)) : w.cell? ⟨g, i * 2, none⟩ = some (strV (headT (T.drop i))) ∧ ∃ n : Nat, w.cell? ⟨g, i * 2 + 1, none⟩ = some (.int .i64 (n : Int)) := by
  obtain ⟨n, hn⟩ := h.at_ hi
  have := sgE.cells hI.d0 hn
  exact ⟨this.1, n, this.2⟩
end
set_option maxHeartbeats 1000000 in
theorem wrong_any (T : List Tok) (sgs : List Sg) (c i p g : Nat) (S : Nat → Prop) (w0 w : World) (H : List Ent) (ec : Int) (hP : Ptx T sgs c) (hi : i ≤ T.length) (hI : Inv S w0 w (parE p g sgs c i :: sgE g sgs :: H)) :
    Calls Tryd.prog 15 #[at0 p, .int .i64 ec] w fun e w' => (∃ U u, e = .returned (.iface U u)) ∧ Inv S w0 w' (parE p g sgs c i :: sgE g sgs :: H) := by
  obtain ⟨hc, n, hn⟩ := hP.cells hi hI
  have hl := hP.len
  have hnc := hP.nc
  unfold parE at hI
  refine calls_of_W (N := Tryd.f15.ntmps) Tryd.func15 rfl rfl rfl ?_
  refine W_seq ?_
  refine W_region ?_
  refine WL_val rfl rfl rfl (by first | exact rAsgnN rfl rfl | exact rAsgnE rfl rfl | exact rAsgn rfl) ?_
  refine WL_nil ?_
  refine W_seq ?_
  refine W_region ?_
  refine WL_val rfl rfl rfl (by first | exact rMoveI rfl rfl | exact rMove rfl) ?_
  refine WL_val rfl rfl rfl (by first | exact rMoveP rfl rfl | exact rMove rfl) ?_
  refine WL_val rfl rfl rfl (rNilChk rfl rfl) ?_
  refine WL_val rfl rfl rfl (by first | exact rFldN (off := 0) rfl (by kernel_rfl) rfl | exact rFld0 rfl (by kernel_rfl) rfl) ?_
  refine WL_val rfl rfl rfl (by first | exact rLd (v := .slice _ _ _) rfl (by kernel_rfl) rfl (by first | exact hI.c0 rfl | exact hn) | exact rLd rfl (by kernel_rfl) rfl (by first | exact hI.c0 rfl | exact hn)) ?_
  refine WL_val rfl rfl rfl (rIdx (sz := 2) (i := 0) rfl Tryd.underlying48 (by kernel_rfl) rfl rfl (by omega)) ?_
  refine WL_val rfl rfl rfl (by first | exact rFldN (off := 1) rfl (by kernel_rfl) rfl | exact rFld (off := 1) rfl (by kernel_rfl) rfl) ?_
  refine WL_val rfl rfl rfl (by first | exact rLd (v := .int .i64 _) rfl (by kernel_rfl) rfl (by first | exact hI.c0 rfl | exact hn) | exact rLd rfl (by kernel_rfl) rfl (by first | exact hI.c0 rfl | exact hn)) ?_
  refine WL_val rfl rfl rfl (rBuild (qs := [(0, .int .i64 _), (1, .int .i64 _)]) (vs := [_, _]) [.int .i64 0, .int .i64 0] [0, 1] rfl rfl rfl (fun _ => by kernel_rfl)) ?_
  refine WL_box (u := .agg _) (vs := #[_, _]) hI rfl rfl rfl rfl rfl rfl ?_
  clear hI; rintro b14 w - - hI
  refine WL_val rfl rfl rfl (rIface rfl Tryd.underlying77 rfl rfl) ?_
  refine WL_val rfl rfl rfl (by first | exact rAsgnN rfl rfl | exact rAsgnE rfl rfl | exact rAsgn rfl) ?_
  refine WL_nil ?_
  refine W_ret ?_
  exact ret1 4 (.inr rfl) rfl ⟨⟨_, _, rfl⟩, hI.d0⟩
set_option maxHeartbeats 1000000 in
theorem ptake_any (T : List Tok) (sgs : List Sg) (c i p g : Nat) (S : Nat → Prop) (w0 w : World) (H : List Ent) (hP : Ptx T sgs c) (hi : i ≤ T.length) (hI : Inv S w0 w (parE p g sgs c i :: sgE g sgs :: H)) :
    Calls Tryd.prog 16 #[at0 p] w fun e w' => e = .returned (strV (headT (T.drop i))) ∧ ∃ i', i' ≤ T.length ∧ T.drop i' = (T.drop i).tail ∧ Inv S w0 w' (parE p g sgs c i' :: sgE g sgs :: H) := by
  obtain ⟨hc, n, hn⟩ := hP.cells hi hI
  have hl := hP.len
  have hnc := hP.nc
  unfold parE at hI
  refine calls_of_W (N := Tryd.f16.ntmps) Tryd.func16 rfl rfl rfl ?_
  refine W_seq ?_
  refine W_region ?_
  refine WL_val rfl rfl rfl (by first | exact rAsgnStr rfl rfl | exact rAsgn rfl) ?_
  refine WL_nil ?_
  refine W_seq ?_
  refine W_region ?_
  refine WL_val rfl rfl rfl (by first | exact rMoveP rfl rfl | exact rMove rfl) ?_
  refine WL_val rfl rfl rfl (rNilChk rfl rfl) ?_
  refine WL_val rfl rfl rfl (by first | exact rFldN (off := 0) rfl (by kernel_rfl) rfl | exact rFld0 rfl (by kernel_rfl) rfl) ?_
  refine WL_val rfl rfl rfl (by first | exact rLd (v := .slice _ _ _) rfl (by kernel_rfl) rfl (by first | exact hI.c0 rfl | exact hc) | exact rLd rfl (by kernel_rfl) rfl (by first | exact hI.c0 rfl | exact hc)) ?_
  refine WL_val rfl rfl rfl (rIdx (sz := 2) (i := 0) rfl Tryd.underlying48 (by kernel_rfl) rfl rfl (by omega)) ?_
  refine WL_val rfl rfl rfl (by first | exact rFldN (off := 0) rfl (by kernel_rfl) rfl | exact rFld0 rfl (by kernel_rfl) rfl) ?_
  refine WL_val rfl rfl rfl (by first | exact rLd (v := .string _) rfl (by kernel_rfl) rfl (by first | exact hI.c0 rfl | exact hc) | exact rLd rfl (by kernel_rfl) rfl (by first | exact hI.c0 rfl | exact hc)) ?_
  refine WL_val rfl rfl rfl (by first | exact rAsgnStr rfl rfl | exact rAsgn rfl) ?_
  refine WL_nil ?_
  rcases Nat.lt_or_ge i T.length with hlt | hge
  · have hne : headT (T.drop i) ≠ [] := by
      rw [List.drop_eq_getElem_cons hlt]
      exact hP.ne _ (List.getElem_mem hlt)
    refine W_seq ?_
    refine W_seq ?_
    refine W_region ?_
    refine WL_val rfl rfl rfl (by first | exact rMoveStr rfl rfl | exact rMove rfl) ?_
    refine WL_val rfl rfl rfl (by first | exact rStrNeT rfl rfl rfl (by first | assumption | decide) | exact rStrNeF rfl rfl rfl (by first | assumption | decide) | exact rStrNe rfl rfl rfl) ?_
    refine WL_nil ?_
    refine W_cond true rfl ?_
    refine W_region ?_
    refine WL_val rfl rfl rfl (by first | exact rMoveP rfl rfl | exact rMove rfl) ?_
    refine WL_val rfl rfl rfl (by first | exact rMoveP rfl rfl | exact rMove rfl) ?_
    refine WL_val rfl rfl rfl (rNilChk rfl rfl) ?_
    refine WL_val rfl rfl rfl (by first | exact rFldN (off := 0) rfl (by kernel_rfl) rfl | exact rFld0 rfl (by kernel_rfl) rfl) ?_
    refine WL_val rfl rfl rfl (by first | exact rLd (v := .slice _ _ _) rfl (by kernel_rfl) rfl (by first | exact hI.c0 rfl) | exact rLd rfl (by kernel_rfl) rfl (by first | exact hI.c0 rfl)) ?_
    refine WL_val rfl rfl rfl (by first | exact rSliceFrom (sz := 2) (i := 1) rfl Tryd.underlying48 (by kernel_rfl) rfl rfl (by omega) (by omega) | exact rSliceFromG (sz := 2) (i := 1) rfl Tryd.underlying48 (by kernel_rfl) rfl rfl (by omega)) ?_
    refine WL_val rfl rfl rfl (rNilChk rfl rfl) ?_
    refine WL_val rfl rfl rfl (by first | exact rFldN (off := 0) rfl (by kernel_rfl) rfl | exact rFld0 rfl (by kernel_rfl) rfl) ?_
    first | refine WL_stw0 (u := .slice _ _ _) (vs := #[_]) (n := 1) hI rfl rfl rfl rfl rfl rfl (by kernel_rfl) rfl rfl rfl ?_ | refine WL_st0 (u := .slice _ _ _) hI rfl rfl rfl rfl rfl rfl (by kernel_rfl) rfl rfl rfl ?_
    clear hI; intro w hI
    refine WL_nil ?_
    refine W_seq ?_
    refine W_region ?_
    refine WL_val rfl rfl rfl (by first | exact rMoveStr rfl rfl | exact rMove rfl) ?_
    refine WL_val rfl rfl rfl (by first | exact rAsgnStr rfl rfl | exact rAsgn rfl) ?_
    refine WL_nil ?_
    refine W_ret ?_
    refine ret1 2 (.inr rfl) rfl ⟨rfl, i + 1, by omega, ?_, ?_⟩
    · rw [List.drop_eq_getElem_cons hlt]; rfl
    · unfold parE
      rw [show (i + 1) * 2 = i * 2 + 1 * 2 by omega, Nat.sub_add_eq sgs.length, Nat.sub_add_eq c]
      exact hI
  · have he : headT (T.drop i) = [] := by rw [List.drop_of_length_le hge]; rfl
    refine W_seq ?_
    refine W_seq ?_
    refine W_region ?_
    refine WL_val rfl rfl rfl (by first | exact rMoveStr rfl rfl | exact rMove rfl) ?_
    refine WL_val rfl rfl rfl (by first | exact rStrNeT rfl rfl rfl (by first | assumption | decide) | exact rStrNeF rfl rfl rfl (by first | assumption | decide) | exact rStrNe rfl rfl rfl) ?_
    refine WL_nil ?_
    refine W_cond false rfl ?_
    refine W_skip ?_
    refine W_seq ?_
    refine W_region ?_
    refine WL_val rfl rfl rfl (by first | exact rMoveStr rfl rfl | exact rMove rfl) ?_
    refine WL_val rfl rfl rfl (by first | exact rAsgnStr rfl rfl | exact rAsgn rfl) ?_
    refine WL_nil ?_
    refine W_ret ?_
    refine ret1 2 (.inr rfl) rfl ⟨rfl, i, hi, ?_, hI⟩
    rw [List.drop_of_length_le hge]; rfl
set_option maxHeartbeats 1000000 in
theorem expect_any (T : List Tok) (sgs : List Sg) (c i p g : Nat) (S : Nat → Prop) (w0 w : World) (H : List Ent) (t : Tok) (hP : Ptx T sgs c) (hi : i ≤ T.length) (hI : Inv S w0 w (parE p g sgs c i :: sgE g sgs :: H)) :
    Calls Tryd.prog 14 #[at0 p, strV t] w fun e w' => (headT (T.drop i) = t ∧ e = .returned .nilIface ∧ ∃ i', i' ≤ T.length ∧ T.drop i' = (T.drop i).tail ∧ Inv S w0 w' (parE p g sgs c i' :: sgE g sgs :: H)) ∨
      (headT (T.drop i) ≠ t ∧ (∃ U u, e = .returned (.iface U u)) ∧ Inv S w0 w' (parE p g sgs c i :: sgE g sgs :: H)) := by
  obtain ⟨hc, n, hn⟩ := hP.cells hi hI
  have hl := hP.len
  have hnc := hP.nc
  have hI' := hI
  unfold parE at hI
  refine calls_of_W (N := Tryd.f14.ntmps) Tryd.func14 rfl rfl rfl ?_
  refine W_seq ?_
  refine W_region ?_
  refine WL_val rfl rfl rfl (by first | exact rAsgnN rfl rfl | exact rAsgnE rfl rfl | exact rAsgn rfl) ?_
  refine WL_nil ?_
  by_cases ht : headT (T.drop i) = t
  · refine W_seq ?_
    refine W_seq ?_
    refine W_region ?_
    refine WL_val rfl rfl rfl (by first | exact rMoveP rfl rfl | exact rMove rfl) ?_
    refine WL_val rfl rfl rfl (rNilChk rfl rfl) ?_
    refine WL_val rfl rfl rfl (by first | exact rFldN (off := 0) rfl (by kernel_rfl) rfl | exact rFld0 rfl (by kernel_rfl) rfl) ?_
    refine WL_val rfl rfl rfl (by first | exact rLd (v := .slice _ _ _) rfl (by kernel_rfl) rfl (by first | exact hI.c0 rfl | exact hc) | exact rLd rfl (by kernel_rfl) rfl (by first | exact hI.c0 rfl | exact hc)) ?_
    refine WL_val rfl rfl rfl (rIdx (sz := 2) (i := 0) rfl Tryd.underlying48 (by kernel_rfl) rfl rfl (by omega)) ?_
    refine WL_val rfl rfl rfl (by first | exact rFldN (off := 0) rfl (by kernel_rfl) rfl | exact rFld0 rfl (by kernel_rfl) rfl) ?_
    refine WL_val rfl rfl rfl (by first | exact rLd (v := .string _) rfl (by kernel_rfl) rfl (by first | exact hI.c0 rfl | exact hc) | exact rLd rfl (by kernel_rfl) rfl (by first | exact hI.c0 rfl | exact hc)) ?_
    refine WL_val rfl rfl rfl (by first | exact rMoveStr rfl rfl | exact rMove rfl) ?_
    refine WL_val rfl rfl rfl (by first | exact rStrNeT rfl rfl rfl (by first | assumption | decide) | exact rStrNeF rfl rfl rfl (by first | assumption | decide) | exact rStrNe rfl rfl rfl) ?_
    refine WL_nil ?_
    refine W_cond false rfl ?_
    refine W_skip ?_
    refine W_seq ?_
    refine W_region ?_
    refine WL_val rfl rfl rfl (by first | exact rMoveP rfl rfl | exact rMove rfl) ?_
    refine WL_call rfl rfl rfl (rCall (vs := [.pointer _]) rfl Tryd.func16 rfl rfl rfl) ?_
    refine (ptake_any T sgs c i p g S w0 _ H hP hi hI).mono ?_
    rintro e w1 ⟨rfl, i', hi', hd, hI1⟩
    refine ⟨_, rfl, ?_⟩
    refine WL_nil ?_
    refine W_seq ?_
    refine W_region ?_
    refine WL_val rfl rfl rfl (by first | exact rAsgnN rfl rfl | exact rAsgnE rfl rfl | exact rAsgn rfl) ?_
    refine WL_nil ?_
    refine W_ret ?_
    exact ret1 4 (.inr rfl) rfl (.inl ⟨ht, rfl, i', hi', hd, hI1⟩)
  · refine W_seq ?_
    refine W_seq ?_
    refine W_region ?_
    refine WL_val rfl rfl rfl (by first | exact rMoveP rfl rfl | exact rMove rfl) ?_
    refine WL_val rfl rfl rfl (rNilChk rfl rfl) ?_
    refine WL_val rfl rfl rfl (by first | exact rFldN (off := 0) rfl (by kernel_rfl) rfl | exact rFld0 rfl (by kernel_rfl) rfl) ?_
    refine WL_val rfl rfl rfl (by first | exact rLd (v := .slice _ _ _) rfl (by kernel_rfl) rfl (by first | exact hI.c0 rfl | exact hc) | exact rLd rfl (by kernel_rfl) rfl (by first | exact hI.c0 rfl | exact hc)) ?_
    refine WL_val rfl rfl rfl (rIdx (sz := 2) (i := 0) rfl Tryd.underlying48 (by kernel_rfl) rfl rfl (by omega)) ?_
    refine WL_val rfl rfl rfl (by first | exact rFldN (off := 0) rfl (by kernel_rfl) rfl | exact rFld0 rfl (by kernel_rfl) rfl) ?_
    refine WL_val rfl rfl rfl (by first | exact rLd (v := .string _) rfl (by kernel_rfl) rfl (by first | exact hI.c0 rfl | exact hc) | exact rLd rfl (by kernel_rfl) rfl (by first | exact hI.c0 rfl | exact hc)) ?_
    refine WL_val rfl rfl rfl (by first | exact rMoveStr rfl rfl | exact rMove rfl) ?_
    refine WL_val rfl rfl rfl (by first | exact rStrNeT rfl rfl rfl (by first | assumption | decide) | exact rStrNeF rfl rfl rfl (by first | assumption | decide) | exact rStrNe rfl rfl rfl) ?_
    refine WL_nil ?_
    refine W_cond true rfl ?_
    refine W_seq ?_
    refine W_region ?_
    refine WL_val rfl rfl rfl (by first | exact rMoveP rfl rfl | exact rMove rfl) ?_
    refine WL_call rfl rfl rfl (rCall (vs := [.pointer _, .int .i64 _]) rfl Tryd.func15 rfl rfl rfl) ?_
    refine (wrong_any T sgs c i p g S w0 _ H 3 hP hi hI).mono ?_
    rintro e w1 ⟨⟨U, u, rfl⟩, hI1⟩
    refine ⟨_, rfl, ?_⟩
    refine WL_val rfl rfl rfl (by first | exact rAsgnN rfl rfl | exact rAsgnE rfl rfl | exact rAsgn rfl) ?_
    refine WL_nil ?_
    refine W_ret ?_
    exact ret1 4 (.inr rfl) rfl (.inr ⟨ht, ⟨U, u, rfl⟩, hI1⟩)
set_option maxHeartbeats 2000000 in
theorem number_any (T : List Tok) (sgs : List Sg) (c i p g : Nat) (S : Nat → Prop) (w0 w : World) (H : List Ent) (a b : Int) (hP : Ptx T sgs c) (hi : i ≤ T.length) (hI : Inv S w0 w (parE p g sgs c i :: sgE g sgs :: H)) (hG : NumG w0) (hS : NoG S) :
    Calls Tryd.prog 17 #[at0 p, .int .i64 a, .int .i64 b] w fun e w' => (∃ n i', numT a b (T.drop i) = some (n, T.drop i') ∧ e = .returned (.tuple #[.int .i64 n, .nilIface]) ∧ i' ≤ T.length ∧ Inv S w0 w' (parE p g sgs c i' :: sgE g sgs :: H)) ∨
      (numT a b (T.drop i) = none ∧ (∃ U u, e = .returned (.tuple #[.int .i64 0, .iface U u])) ∧ Inv S w0 w' (parE p g sgs c i :: sgE g sgs :: H)) := by
  obtain ⟨hc, n, hn⟩ := hP.cells hi hI
  have hl := hP.len
  have hnc := hP.nc
  have hG1 : NumG w := hG.chg hI.chg hS
  have htok := hP.tok i
  rw [numT_head]
  obtain ⟨t, ht⟩ : ∃ t, headT (T.drop i) = t := ⟨_, rfl⟩
  rw [ht] at hc htok ⊢
  unfold parE at hI
  refine calls_of_W (N := Tryd.f17.ntmps) Tryd.func17 rfl rfl rfl ?_
  refine W_seq ?_
  refine W_region ?_
  refine WL_val rfl rfl rfl (by first | exact rAsgnI rfl rfl | exact rAsgn rfl) ?_
  refine WL_val rfl rfl rfl (by first | exact rAsgnN rfl rfl | exact rAsgnE rfl rfl | exact rAsgn rfl) ?_
  refine WL_nil ?_
  refine W_seq ?_
  refine W_region ?_
  refine WL_val rfl rfl rfl (by first | exact rMoveP rfl rfl | exact rMove rfl) ?_
  refine WL_val rfl rfl rfl (rNilChk rfl rfl) ?_
  refine WL_val rfl rfl rfl (by first | exact rFldN (off := 0) rfl (by kernel_rfl) rfl | exact rFld0 rfl (by kernel_rfl) rfl) ?_
  refine WL_val rfl rfl rfl (by first | exact rLd (v := .slice _ _ _) rfl (by kernel_rfl) rfl (by first | exact hI.c0 rfl | exact hc) | exact rLd rfl (by kernel_rfl) rfl (by first | exact hI.c0 rfl | exact hc)) ?_
  refine WL_val rfl rfl rfl (rIdx (sz := 2) (i := 0) rfl Tryd.underlying48 (by kernel_rfl) rfl rfl (by omega)) ?_
  refine WL_val rfl rfl rfl (by first | exact rFldN (off := 0) rfl (by kernel_rfl) rfl | exact rFld0 rfl (by kernel_rfl) rfl) ?_
  refine WL_val rfl rfl rfl (by first | exact rLd (v := .string _) rfl (by kernel_rfl) rfl (by first | exact hI.c0 rfl | exact hc) | exact rLd rfl (by kernel_rfl) rfl (by first | exact hI.c0 rfl | exact hc)) ?_
  refine WL_val rfl rfl rfl (by first | exact rAsgnStr rfl rfl | exact rAsgn rfl) ?_
  refine WL_nil ?_
  have hat := atoi_any t htok w hG1
  unfold atoiPost at hat
  cases hx : Lib.atoiAll t with
  | ok m =>
    rw [hx] at hat
    refine W_seq ?_
    refine W_region ?_
    refine WL_val rfl rfl rfl (by first | exact rMoveStr rfl rfl | exact rMove rfl) ?_
    refine WL_call rfl rfl rfl (rCall (vs := [.string _]) rfl Tryd.func20 rfl rfl rfl) ?_
    refine hat.mono ?_
    rintro e w1 ⟨⟨rfl, hm1, hm2⟩, hp⟩
    refine ⟨_, rfl, ?_⟩
    replace hI := hI.pure hp
    refine WL_val rfl rfl rfl (by first | exact rMoveT rfl rfl | exact rMove rfl) ?_
    refine WL_val rfl rfl rfl (rExtr rfl rfl rfl) ?_
    refine WL_val rfl rfl rfl (rExtr rfl rfl rfl) ?_
    refine WL_val rfl rfl rfl (by first | exact rAsgnI rfl rfl | exact rAsgn rfl) ?_
    refine WL_val rfl rfl rfl (by first | exact rAsgnN rfl rfl | exact rAsgnE rfl rfl | exact rAsgn rfl) ?_
    refine WL_nil ?_
    refine W_seq ?_
    refine W_block ?_
    by_cases hit : Lib.itoa m = t
    · refine W_seq ?_
      refine W_region ?_
      refine WL_val rfl rfl rfl (by first | exact rMoveN rfl rfl | exact rMoveE rfl rfl | exact rMove rfl) ?_
      refine WL_val rfl rfl rfl (by first | exact rIfaceNe rfl Tryd.underlying35 rfl rfl | exact rNilNe rfl Tryd.underlying35 rfl) ?_
      refine WL_val rfl rfl rfl (by first | exact rMoveB rfl rfl | exact rMove rfl) ?_
      first | refine WL_val rfl rfl rfl (by first | exact rMoveI rfl rfl | exact rMove rfl) ?_ | refine WL_skip rfl rfl rfl ?_
      refine WL_call rfl rfl rfl (rCall (vs := [.int .i64 _]) rfl Tryd.func21 rfl rfl rfl) ?_
      refine (itoa_any m hm1 hm2 _ (hG.chg hI.chg hS)).mono ?_
      rintro e w1 ⟨rfl, hp1⟩
      refine ⟨_, rfl, ?_⟩
      replace hI := hI.pure hp1
      first | refine WL_val rfl rfl rfl (by first | exact rMoveStr rfl rfl | exact rMove rfl) ?_ | refine WL_skip rfl rfl rfl ?_
      first | refine WL_val rfl rfl rfl (by first | exact rStrNeT rfl rfl rfl (by first | assumption | decide) | exact rStrNeF rfl rfl rfl (by first | assumption | decide) | exact rStrNe rfl rfl rfl) ?_ | refine WL_skip rfl rfl rfl ?_
      refine WL_val rfl rfl rfl (by first | exact rPickTB rfl rfl rfl | exact rPickFB rfl rfl rfl | exact rPickB rfl rfl rfl rfl) ?_
      refine WL_val rfl rfl rfl (by first | exact rAsgnB rfl rfl | exact rAsgn rfl) ?_
      refine WL_nil ?_
      refine W_cond false rfl ?_
      by_cases ha : m < a
      · refine W_seq ?_
        refine W_region ?_
        refine WL_val rfl rfl rfl (by first | exact rMoveI rfl rfl | exact rMove rfl) ?_
        refine WL_val rfl rfl rfl (by first | exact rMoveI rfl rfl | exact rMove rfl) ?_
        refine WL_val rfl rfl rfl (by first | exact rLssT rfl rfl rfl (by omega) | exact rLssF rfl rfl rfl (by omega) | exact rLss rfl rfl rfl) ?_
        refine WL_val rfl rfl rfl (by first | exact rMoveB rfl rfl | exact rMove rfl) ?_
        first | refine WL_val rfl rfl rfl (by first | exact rMoveI rfl rfl | exact rMove rfl) ?_ | refine WL_skip rfl rfl rfl ?_
        first | refine WL_val rfl rfl rfl (by first | exact rMoveI rfl rfl | exact rMove rfl) ?_ | refine WL_skip rfl rfl rfl ?_
        first | refine WL_val rfl rfl rfl (by first | exact rGtrT rfl rfl rfl (by omega) | exact rGtrF rfl rfl rfl (by omega) | exact rGtr rfl rfl rfl) ?_ | refine WL_skip rfl rfl rfl ?_
        refine WL_val rfl rfl rfl (by first | exact rPickTB rfl rfl rfl | exact rPickFB rfl rfl rfl | exact rPickB rfl rfl rfl rfl) ?_
        refine WL_val rfl rfl rfl (by first | exact rAsgnB rfl rfl | exact rAsgn rfl) ?_
        refine WL_nil ?_
        refine W_cond true rfl ?_
        refine W_seq ?_
        refine W_region ?_
        refine WL_val rfl rfl rfl (by first | exact rMoveP rfl rfl | exact rMove rfl) ?_
        refine WL_call rfl rfl rfl (rCall (vs := [.pointer _, .int .i64 _]) rfl Tryd.func15 rfl rfl rfl) ?_
        refine (wrong_any T sgs c i p g S w0 _ H 2 hP hi hI).mono ?_
        rintro e w2 ⟨⟨U, u, rfl⟩, hI2⟩
        refine ⟨_, rfl, ?_⟩
        refine WL_val rfl rfl rfl (by first | exact rAsgnI rfl rfl | exact rAsgn rfl) ?_
        refine WL_val rfl rfl rfl (by first | exact rAsgnN rfl rfl | exact rAsgnE rfl rfl | exact rAsgn rfl) ?_
        refine WL_nil ?_
        refine W_ret ?_
        exact ret2 6 7 (.inr rfl) rfl (.inr ⟨(by rw [Option.map_eq_none_iff]; exact Option.eq_none_iff_forall_ne_some.2 fun v hv => by obtain ⟨q1, q2, q3, q4⟩ := numF_ok.1 hv; rw [hx] at q1; cases q1; omega), ⟨U, u, rfl⟩, hI2⟩)
      · by_cases hb : b < m
        · refine W_seq ?_
          refine W_region ?_
          refine WL_val rfl rfl rfl (by first | exact rMoveI rfl rfl | exact rMove rfl) ?_
          refine WL_val rfl rfl rfl (by first | exact rMoveI rfl rfl | exact rMove rfl) ?_
          refine WL_val rfl rfl rfl (by first | exact rLssT rfl rfl rfl (by omega) | exact rLssF rfl rfl rfl (by omega) | exact rLss rfl rfl rfl) ?_
          refine WL_val rfl rfl rfl (by first | exact rMoveB rfl rfl | exact rMove rfl) ?_
          first | refine WL_val rfl rfl rfl (by first | exact rMoveI rfl rfl | exact rMove rfl) ?_ | refine WL_skip rfl rfl rfl ?_
          first | refine WL_val rfl rfl rfl (by first | exact rMoveI rfl rfl | exact rMove rfl) ?_ | refine WL_skip rfl rfl rfl ?_
          first | refine WL_val rfl rfl rfl (by first | exact rGtrT rfl rfl rfl (by omega) | exact rGtrF rfl rfl rfl (by omega) | exact rGtr rfl rfl rfl) ?_ | refine WL_skip rfl rfl rfl ?_
          refine WL_val rfl rfl rfl (by first | exact rPickTB rfl rfl rfl | exact rPickFB rfl rfl rfl | exact rPickB rfl rfl rfl rfl) ?_
          refine WL_val rfl rfl rfl (by first | exact rAsgnB rfl rfl | exact rAsgn rfl) ?_
          refine WL_nil ?_
          refine W_cond true rfl ?_
          refine W_seq ?_
          refine W_region ?_
          refine WL_val rfl rfl rfl (by first | exact rMoveP rfl rfl | exact rMove rfl) ?_
          refine WL_call rfl rfl rfl (rCall (vs := [.pointer _, .int .i64 _]) rfl Tryd.func15 rfl rfl rfl) ?_
          refine (wrong_any T sgs c i p g S w0 _ H 2 hP hi hI).mono ?_
          rintro e w2 ⟨⟨U, u, rfl⟩, hI2⟩
          refine ⟨_, rfl, ?_⟩
          refine WL_val rfl rfl rfl (by first | exact rAsgnI rfl rfl | exact rAsgn rfl) ?_
          refine WL_val rfl rfl rfl (by first | exact rAsgnN rfl rfl | exact rAsgnE rfl rfl | exact rAsgn rfl) ?_
          refine WL_nil ?_
          refine W_ret ?_
          exact ret2 6 7 (.inr rfl) rfl (.inr ⟨(by rw [Option.map_eq_none_iff]; exact Option.eq_none_iff_forall_ne_some.2 fun v hv => by obtain ⟨q1, q2, q3, q4⟩ := numF_ok.1 hv; rw [hx] at q1; cases q1; omega), ⟨U, u, rfl⟩, hI2⟩)
        · refine W_seq ?_
          refine W_region ?_
          refine WL_val rfl rfl rfl (by first | exact rMoveI rfl rfl | exact rMove rfl) ?_
          refine WL_val rfl rfl rfl (by first | exact rMoveI rfl rfl | exact rMove rfl) ?_
          refine WL_val rfl rfl rfl (by first | exact rLssT rfl rfl rfl (by omega) | exact rLssF rfl rfl rfl (by omega) | exact rLss rfl rfl rfl) ?_
          refine WL_val rfl rfl rfl (by first | exact rMoveB rfl rfl | exact rMove rfl) ?_
          first | refine WL_val rfl rfl rfl (by first | exact rMoveI rfl rfl | exact rMove rfl) ?_ | refine WL_skip rfl rfl rfl ?_
          first | refine WL_val rfl rfl rfl (by first | exact rMoveI rfl rfl | exact rMove rfl) ?_ | refine WL_skip rfl rfl rfl ?_
          first | refine WL_val rfl rfl rfl (by first | exact rGtrT rfl rfl rfl (by omega) | exact rGtrF rfl rfl rfl (by omega) | exact rGtr rfl rfl rfl) ?_ | refine WL_skip rfl rfl rfl ?_
          refine WL_val rfl rfl rfl (by first | exact rPickTB rfl rfl rfl | exact rPickFB rfl rfl rfl | exact rPickB rfl rfl rfl rfl) ?_
          refine WL_val rfl rfl rfl (by first | exact rAsgnB rfl rfl | exact rAsgn rfl) ?_
          refine WL_nil ?_
          refine W_cond false rfl ?_
          refine W_skip ?_
          refine W_seq ?_
          refine W_region ?_
          refine WL_val rfl rfl rfl (by first | exact rMoveP rfl rfl | exact rMove rfl) ?_
          refine WL_call rfl rfl rfl (rCall (vs := [.pointer _]) rfl Tryd.func16 rfl rfl rfl) ?_
          refine (ptake_any T sgs c i p g S w0 _ H hP hi hI).mono ?_
          rintro e w2 ⟨rfl, i', hi', hd, hI2⟩
          refine ⟨_, rfl, ?_⟩
          refine WL_nil ?_
          refine W_seq ?_
          refine W_region ?_
          refine WL_val rfl rfl rfl (by first | exact rMoveI rfl rfl | exact rMove rfl) ?_
          refine WL_val rfl rfl rfl (by first | exact rAsgnI rfl rfl | exact rAsgn rfl) ?_
          refine WL_val rfl rfl rfl (by first | exact rAsgnN rfl rfl | exact rAsgnE rfl rfl | exact rAsgn rfl) ?_
          refine WL_nil ?_
          refine W_ret ?_
          refine ret2 6 7 (.inr rfl) rfl (.inl ⟨m, i', ?_, rfl, hi', hI2⟩)
          rw [numF_ok.2 ⟨hx, hit, by omega, by omega⟩, hd]
          rfl
    · refine W_seq ?_
      refine W_region ?_
      refine WL_val rfl rfl rfl (by first | exact rMoveN rfl rfl | exact rMoveE rfl rfl | exact rMove rfl) ?_
      refine WL_val rfl rfl rfl (by first | exact rIfaceNe rfl Tryd.underlying35 rfl rfl | exact rNilNe rfl Tryd.underlying35 rfl) ?_
      refine WL_val rfl rfl rfl (by first | exact rMoveB rfl rfl | exact rMove rfl) ?_
      first | refine WL_val rfl rfl rfl (by first | exact rMoveI rfl rfl | exact rMove rfl) ?_ | refine WL_skip rfl rfl rfl ?_
      refine WL_call rfl rfl rfl (rCall (vs := [.int .i64 _]) rfl Tryd.func21 rfl rfl rfl) ?_
      refine (itoa_any m hm1 hm2 _ (hG.chg hI.chg hS)).mono ?_
      rintro e w1 ⟨rfl, hp1⟩
      refine ⟨_, rfl, ?_⟩
      replace hI := hI.pure hp1
      first | refine WL_val rfl rfl rfl (by first | exact rMoveStr rfl rfl | exact rMove rfl) ?_ | refine WL_skip rfl rfl rfl ?_
      first | refine WL_val rfl rfl rfl (by first | exact rStrNeT rfl rfl rfl (by first | assumption | decide) | exact rStrNeF rfl rfl rfl (by first | assumption | decide) | exact rStrNe rfl rfl rfl) ?_ | refine WL_skip rfl rfl rfl ?_
      refine WL_val rfl rfl rfl (by first | exact rPickTB rfl rfl rfl | exact rPickFB rfl rfl rfl | exact rPickB rfl rfl rfl rfl) ?_
      refine WL_val rfl rfl rfl (by first | exact rAsgnB rfl rfl | exact rAsgn rfl) ?_
      refine WL_nil ?_
      refine W_cond true rfl ?_
      refine W_seq ?_
      refine W_region ?_
      refine WL_val rfl rfl rfl (by first | exact rMoveP rfl rfl | exact rMove rfl) ?_
      refine WL_call rfl rfl rfl (rCall (vs := [.pointer _, .int .i64 _]) rfl Tryd.func15 rfl rfl rfl) ?_
      refine (wrong_any T sgs c i p g S w0 _ H 3 hP hi hI).mono ?_
      rintro e w2 ⟨⟨U, u, rfl⟩, hI2⟩
      refine ⟨_, rfl, ?_⟩
      refine WL_val rfl rfl rfl (by first | exact rAsgnI rfl rfl | exact rAsgn rfl) ?_
      refine WL_val rfl rfl rfl (by first | exact rAsgnN rfl rfl | exact rAsgnE rfl rfl | exact rAsgn rfl) ?_
      refine WL_nil ?_
      refine W_ret ?_
      exact ret2 6 7 (.inr rfl) rfl (.inr ⟨(by rw [Option.map_eq_none_iff]; exact Option.eq_none_iff_forall_ne_some.2 fun v hv => by obtain ⟨q1, q2, q3, q4⟩ := numF_ok.1 hv; rw [hx] at q1; cases q1; exact hit q2), ⟨U, u, rfl⟩, hI2⟩)
  | range =>
    rw [hx] at hat
    refine W_seq ?_
    refine W_region ?_
    refine WL_val rfl rfl rfl (by first | exact rMoveStr rfl rfl | exact rMove rfl) ?_
    refine WL_call rfl rfl rfl (rCall (vs := [.string _]) rfl Tryd.func20 rfl rfl rfl) ?_
    refine hat.mono ?_
    rintro e w1 ⟨⟨m, U0, u0, rfl⟩, hp⟩
    refine ⟨_, rfl, ?_⟩
    replace hI := hI.pure hp
    refine WL_val rfl rfl rfl (by first | exact rMoveT rfl rfl | exact rMove rfl) ?_
    refine WL_val rfl rfl rfl (rExtr rfl rfl rfl) ?_
    refine WL_val rfl rfl rfl (rExtr rfl rfl rfl) ?_
    refine WL_val rfl rfl rfl (by first | exact rAsgnI rfl rfl | exact rAsgn rfl) ?_
    refine WL_val rfl rfl rfl (by first | exact rAsgnN rfl rfl | exact rAsgnE rfl rfl | exact rAsgn rfl) ?_
    refine WL_nil ?_
    refine W_seq ?_
    refine W_block ?_
    refine W_seq ?_
    refine W_region ?_
    refine WL_val rfl rfl rfl (by first | exact rMoveN rfl rfl | exact rMoveE rfl rfl | exact rMove rfl) ?_
    refine WL_val rfl rfl rfl (by first | exact rIfaceNe rfl Tryd.underlying35 rfl rfl | exact rNilNe rfl Tryd.underlying35 rfl) ?_
    refine WL_val rfl rfl rfl (by first | exact rMoveB rfl rfl | exact rMove rfl) ?_
    refine WL_skip rfl rfl rfl ?_
    refine WL_skip rfl rfl rfl ?_
    refine WL_skip rfl rfl rfl ?_
    refine WL_skip rfl rfl rfl ?_
    refine WL_val rfl rfl rfl (by first | exact rPickTB rfl rfl rfl | exact rPickFB rfl rfl rfl | exact rPickB rfl rfl rfl rfl) ?_
    refine WL_val rfl rfl rfl (by first | exact rAsgnB rfl rfl | exact rAsgn rfl) ?_
    refine WL_nil ?_
    refine W_cond true rfl ?_
    refine W_seq ?_
    refine W_region ?_
    refine WL_val rfl rfl rfl (by first | exact rMoveP rfl rfl | exact rMove rfl) ?_
    refine WL_call rfl rfl rfl (rCall (vs := [.pointer _, .int .i64 _]) rfl Tryd.func15 rfl rfl rfl) ?_
    refine (wrong_any T sgs c i p g S w0 _ H 3 hP hi hI).mono ?_
    rintro e w2 ⟨⟨U, u, rfl⟩, hI2⟩
    refine ⟨_, rfl, ?_⟩
    refine WL_val rfl rfl rfl (by first | exact rAsgnI rfl rfl | exact rAsgn rfl) ?_
    refine WL_val rfl rfl rfl (by first | exact rAsgnN rfl rfl | exact rAsgnE rfl rfl | exact rAsgn rfl) ?_
    refine WL_nil ?_
    refine W_ret ?_
    exact ret2 6 7 (.inr rfl) rfl (.inr ⟨(by rw [Option.map_eq_none_iff]; exact Option.eq_none_iff_forall_ne_some.2 fun v hv => by obtain ⟨q1, q2, q3, q4⟩ := numF_ok.1 hv; rw [hx] at q1; cases q1), ⟨U, u, rfl⟩, hI2⟩)
  | _ =>
    rw [hx] at hat
    refine W_seq ?_
    refine W_region ?_
    refine WL_val rfl rfl rfl (by first | exact rMoveStr rfl rfl | exact rMove rfl) ?_
    refine WL_call rfl rfl rfl (rCall (vs := [.string _]) rfl Tryd.func20 rfl rfl rfl) ?_
    refine hat.mono ?_
    rintro e w1 ⟨⟨m, U0, u0, rfl⟩, hp⟩
    refine ⟨_, rfl, ?_⟩
    replace hI := hI.pure hp
    refine WL_val rfl rfl rfl (by first | exact rMoveT rfl rfl | exact rMove rfl) ?_
    refine WL_val rfl rfl rfl (rExtr rfl rfl rfl) ?_
    refine WL_val rfl rfl rfl (rExtr rfl rfl rfl) ?_
    refine WL_val rfl rfl rfl (by first | exact rAsgnI rfl rfl | exact rAsgn rfl) ?_
    refine WL_val rfl rfl rfl (by first | exact rAsgnN rfl rfl | exact rAsgnE rfl rfl | exact rAsgn rfl) ?_
    refine WL_nil ?_
    refine W_seq ?_
    refine W_block ?_
    refine W_seq ?_
    refine W_region ?_
    refine WL_val rfl rfl rfl (by first | exact rMoveN rfl rfl | exact rMoveE rfl rfl | exact rMove rfl) ?_
    refine WL_val rfl rfl rfl (by first | exact rIfaceNe rfl Tryd.underlying35 rfl rfl | exact rNilNe rfl Tryd.underlying35 rfl) ?_
    refine WL_val rfl rfl rfl (by first | exact rMoveB rfl rfl | exact rMove rfl) ?_
    refine WL_skip rfl rfl rfl ?_
    refine WL_skip rfl rfl rfl ?_
    refine WL_skip rfl rfl rfl ?_
    refine WL_skip rfl rfl rfl ?_
    refine WL_val rfl rfl rfl (by first | exact rPickTB rfl rfl rfl | exact rPickFB rfl rfl rfl | exact rPickB rfl rfl rfl rfl) ?_
    refine WL_val rfl rfl rfl (by first | exact rAsgnB rfl rfl | exact rAsgn rfl) ?_
    refine WL_nil ?_
    refine W_cond true rfl ?_
    refine W_seq ?_
    refine W_region ?_
    refine WL_val rfl rfl rfl (by first | exact rMoveP rfl rfl | exact rMove rfl) ?_
    refine WL_call rfl rfl rfl (rCall (vs := [.pointer _, .int .i64 _]) rfl Tryd.func15 rfl rfl rfl) ?_
    refine (wrong_any T sgs c i p g S w0 _ H 3 hP hi hI).mono ?_
    rintro e w2 ⟨⟨U, u, rfl⟩, hI2⟩
    refine ⟨_, rfl, ?_⟩
    refine WL_val rfl rfl rfl (by first | exact rAsgnI rfl rfl | exact rAsgn rfl) ?_
    refine WL_val rfl rfl rfl (by first | exact rAsgnN rfl rfl | exact rAsgnE rfl rfl | exact rAsgn rfl) ?_
    refine WL_nil ?_
    refine W_ret ?_
    exact ret2 6 7 (.inr rfl) rfl (.inr ⟨(by rw [Option.map_eq_none_iff]; exact Option.eq_none_iff_forall_ne_some.2 fun v hv => by obtain ⟨q1, q2, q3, q4⟩ := numF_ok.1 hv; rw [hx] at q1; cases q1), ⟨U, u, rfl⟩, hI2⟩)
/-- What reading a generator tells. -/
def ReadPost (T : List Tok) (sgs : List Sg) (c p g : Nat) (S : Nat → Prop) (w0 : World) (H : List Ent) (r : Option (Ge × List Tok)) (e : Ending) (w' : World) : Prop :=
  (∃ ge v L i', r = some (ge, T.drop i') ∧ e = .returned (.tuple #[v, .nilIface]) ∧ Rep ge v L ∧ i' ≤ T.length ∧ Inv S w0 w' (parE p g sgs c i' :: sgE g sgs :: (L ++ H))) ∨
  (r = none ∧ ∃ U u i', e = .returned (.tuple #[.nilIface, .iface U u]) ∧ i' ≤ T.length ∧ Inv S w0 w' (parE p g sgs c i' :: sgE g sgs :: H))
set_option maxHeartbeats 2000000 in
theorem pwrite_any (T : List Tok) (sgs : List Sg) (c i p g : Nat) (S : Nat → Prop) (w0 w : World) (H : List Ent) (hP : Ptx T sgs c) (hi : i ≤ T.length) (hI : Inv S w0 w (parE p g sgs c i :: sgE g sgs :: H)) (hG : NumG w0) (hS : NoG S) :
    Calls Tryd.prog 18 #[at0 p] w (ReadPost T sgs c p g S w0 H (pW (T.drop i))) := by
  unfold ReadPost
  refine calls_of_W (N := Tryd.f18.ntmps) Tryd.func18 rfl rfl rfl ?_
  refine W_seq ?_
  refine W_region ?_
  refine WL_val rfl rfl rfl (by first | exact rAsgnN rfl rfl | exact rAsgnE rfl rfl | exact rAsgn rfl) ?_
  refine WL_val rfl rfl rfl (by first | exact rAsgnN rfl rfl | exact rAsgnE rfl rfl | exact rAsgn rfl) ?_
  refine WL_nil ?_
  cases h1 : numT 0 7 (T.drop i) with
  | none =>
    refine W_seq ?_
    refine W_region ?_
    refine WL_val rfl rfl rfl (by first | exact rMoveP rfl rfl | exact rMove rfl) ?_
    refine WL_call rfl rfl rfl (rCall (vs := [.pointer _, .int .i64 _, .int .i64 _]) rfl Tryd.func17 rfl rfl rfl) ?_
    refine (number_any T sgs c i p g S w0 _ H 0 7 hP hi hI hG hS).mono ?_
    rintro e w1 (⟨n, i1, hk, -, -, -⟩ | ⟨hk, ⟨U, u, rfl⟩, hIe⟩)
    · rw [h1] at hk; cases hk
    refine ⟨_, rfl, ?_⟩
    refine WL_val rfl rfl rfl (by first | exact rMoveT rfl rfl | exact rMove rfl) ?_
    refine WL_val rfl rfl rfl (rExtr rfl rfl rfl) ?_
    refine WL_val rfl rfl rfl (rExtr rfl rfl rfl) ?_
    refine WL_val rfl rfl rfl (by first | exact rAsgnI rfl rfl | exact rAsgn rfl) ?_
    refine WL_val rfl rfl rfl (by first | exact rAsgnN rfl rfl | exact rAsgnE rfl rfl | exact rAsgn rfl) ?_
    refine WL_nil ?_
    refine W_seq ?_
    refine W_seq ?_
    refine W_region ?_
    refine WL_val rfl rfl rfl (by first | exact rMoveN rfl rfl | exact rMoveE rfl rfl | exact rMove rfl) ?_
    refine WL_val rfl rfl rfl (by first | exact rIfaceNe rfl Tryd.underlying35 rfl rfl | exact rNilNe rfl Tryd.underlying35 rfl) ?_
    refine WL_nil ?_
    refine W_cond true rfl ?_
    refine W_seq ?_
    refine W_region ?_
    refine WL_val rfl rfl rfl (by first | exact rMoveN rfl rfl | exact rMoveE rfl rfl | exact rMove rfl) ?_
    refine WL_val rfl rfl rfl (by first | exact rAsgnN rfl rfl | exact rAsgnE rfl rfl | exact rAsgn rfl) ?_
    refine WL_val rfl rfl rfl (by first | exact rAsgnN rfl rfl | exact rAsgnE rfl rfl | exact rAsgn rfl) ?_
    refine WL_nil ?_
    refine W_ret ?_
    exact ret2 2 3 (.inr rfl) rfl (.inr ⟨(by unfold pW; rw [h1]), U, u, i, rfl, hi, hIe⟩)
  | some q1 =>
    obtain ⟨k, r1⟩ := q1
    refine W_seq ?_
    refine W_region ?_
    refine WL_val rfl rfl rfl (by first | exact rMoveP rfl rfl | exact rMove rfl) ?_
    refine WL_call rfl rfl rfl (rCall (vs := [.pointer _, .int .i64 _, .int .i64 _]) rfl Tryd.func17 rfl rfl rfl) ?_
    refine (number_any T sgs c i p g S w0 _ H 0 7 hP hi hI hG hS).mono ?_
    rintro e w1 (⟨k', i1, hk, rfl, hi1, hI1⟩ | ⟨hk, -⟩)
    rotate_left
    · rw [h1] at hk; cases hk
    rw [h1] at hk
    cases hk
    refine ⟨_, rfl, ?_⟩
    refine WL_val rfl rfl rfl (by first | exact rMoveT rfl rfl | exact rMove rfl) ?_
    refine WL_val rfl rfl rfl (rExtr rfl rfl rfl) ?_
    refine WL_val rfl rfl rfl (rExtr rfl rfl rfl) ?_
    refine WL_val rfl rfl rfl (by first | exact rAsgnI rfl rfl | exact rAsgn rfl) ?_
    refine WL_val rfl rfl rfl (by first | exact rAsgnN rfl rfl | exact rAsgnE rfl rfl | exact rAsgn rfl) ?_
    refine WL_nil ?_
    refine W_seq ?_
    refine W_seq ?_
    refine W_region ?_
    refine WL_val rfl rfl rfl (by first | exact rMoveN rfl rfl | exact rMoveE rfl rfl | exact rMove rfl) ?_
    refine WL_val rfl rfl rfl (by first | exact rIfaceNe rfl Tryd.underlying35 rfl rfl | exact rNilNe rfl Tryd.underlying35 rfl) ?_
    refine WL_nil ?_
    refine W_cond false rfl ?_
    refine W_skip ?_
    cases h2 : numT (-1000000) 1000000 (T.drop i1) with
    | none =>
      refine W_seq ?_
      refine W_region ?_
      refine WL_val rfl rfl rfl (by first | exact rMoveP rfl rfl | exact rMove rfl) ?_
      refine WL_call rfl rfl rfl (rCall (vs := [.pointer _, .int .i64 _, .int .i64 _]) rfl Tryd.func17 rfl rfl rfl) ?_
      refine (number_any T sgs c i1 p g S w0 _ H (-1000000) 1000000 hP hi1 hI1 hG hS).mono ?_
      rintro e w1 (⟨n, i1, hk, -, -, -⟩ | ⟨hk, ⟨U, u, rfl⟩, hIe⟩)
      · rw [h2] at hk; cases hk
      refine ⟨_, rfl, ?_⟩
      refine WL_val rfl rfl rfl (by first | exact rMoveT rfl rfl | exact rMove rfl) ?_
      refine WL_val rfl rfl rfl (rExtr rfl rfl rfl) ?_
      refine WL_val rfl rfl rfl (rExtr rfl rfl rfl) ?_
      refine WL_val rfl rfl rfl (by first | exact rAsgnI rfl rfl | exact rAsgn rfl) ?_
      refine WL_val rfl rfl rfl (by first | exact rAsgnN rfl rfl | exact rAsgnE rfl rfl | exact rAsgn rfl) ?_
      refine WL_nil ?_
      refine W_seq ?_
      refine W_seq ?_
      refine W_region ?_
      refine WL_val rfl rfl rfl (by first | exact rMoveN rfl rfl | exact rMoveE rfl rfl | exact rMove rfl) ?_
      refine WL_val rfl rfl rfl (by first | exact rIfaceNe rfl Tryd.underlying35 rfl rfl | exact rNilNe rfl Tryd.underlying35 rfl) ?_
      refine WL_nil ?_
      refine W_cond true rfl ?_
      refine W_seq ?_
      refine W_region ?_
      refine WL_val rfl rfl rfl (by first | exact rMoveN rfl rfl | exact rMoveE rfl rfl | exact rMove rfl) ?_
      refine WL_val rfl rfl rfl (by first | exact rAsgnN rfl rfl | exact rAsgnE rfl rfl | exact rAsgn rfl) ?_
      refine WL_val rfl rfl rfl (by first | exact rAsgnN rfl rfl | exact rAsgnE rfl rfl | exact rAsgn rfl) ?_
      refine WL_nil ?_
      refine W_ret ?_
      exact ret2 2 3 (.inr rfl) rfl (.inr ⟨(by unfold pW; rw [h1]; simp only; rw [h2]), U, u, i1, rfl, hi1, hIe⟩)
    | some q2 =>
      obtain ⟨l, r2⟩ := q2
      refine W_seq ?_
      refine W_region ?_
      refine WL_val rfl rfl rfl (by first | exact rMoveP rfl rfl | exact rMove rfl) ?_
      refine WL_call rfl rfl rfl (rCall (vs := [.pointer _, .int .i64 _, .int .i64 _]) rfl Tryd.func17 rfl rfl rfl) ?_
      refine (number_any T sgs c i1 p g S w0 _ H (-1000000) 1000000 hP hi1 hI1 hG hS).mono ?_
      rintro e w1 (⟨l', i2, hk, rfl, hi2, hI2⟩ | ⟨hk, -⟩)
      rotate_left
      · rw [h2] at hk; cases hk
      rw [h2] at hk
      cases hk
      refine ⟨_, rfl, ?_⟩
      refine WL_val rfl rfl rfl (by first | exact rMoveT rfl rfl | exact rMove rfl) ?_
      refine WL_val rfl rfl rfl (rExtr rfl rfl rfl) ?_
      refine WL_val rfl rfl rfl (rExtr rfl rfl rfl) ?_
      refine WL_val rfl rfl rfl (by first | exact rAsgnI rfl rfl | exact rAsgn rfl) ?_
      refine WL_val rfl rfl rfl (by first | exact rAsgnN rfl rfl | exact rAsgnE rfl rfl | exact rAsgn rfl) ?_
      refine WL_nil ?_
      refine W_seq ?_
      refine W_seq ?_
      refine W_region ?_
      refine WL_val rfl rfl rfl (by first | exact rMoveN rfl rfl | exact rMoveE rfl rfl | exact rMove rfl) ?_
      refine WL_val rfl rfl rfl (by first | exact rIfaceNe rfl Tryd.underlying35 rfl rfl | exact rNilNe rfl Tryd.underlying35 rfl) ?_
      refine WL_nil ?_
      refine W_cond false rfl ?_
      refine W_skip ?_
      cases h3 : numT l 1000000 (T.drop i2) with
      | none =>
        refine W_seq ?_
        refine W_region ?_
        refine WL_val rfl rfl rfl (by first | exact rMoveP rfl rfl | exact rMove rfl) ?_
        refine WL_val rfl rfl rfl (by first | exact rMoveI rfl rfl | exact rMove rfl) ?_
        refine WL_call rfl rfl rfl (rCall (vs := [.pointer _, .int .i64 _, .int .i64 _]) rfl Tryd.func17 rfl rfl rfl) ?_
        refine (number_any T sgs c i2 p g S w0 _ H l 1000000 hP hi2 hI2 hG hS).mono ?_
        rintro e w1 (⟨n, i1, hk, -, -, -⟩ | ⟨hk, ⟨U, u, rfl⟩, hIe⟩)
        · rw [h3] at hk; cases hk
        refine ⟨_, rfl, ?_⟩
        refine WL_val rfl rfl rfl (by first | exact rMoveT rfl rfl | exact rMove rfl) ?_
        refine WL_val rfl rfl rfl (rExtr rfl rfl rfl) ?_
        refine WL_val rfl rfl rfl (rExtr rfl rfl rfl) ?_
        refine WL_val rfl rfl rfl (by first | exact rAsgnI rfl rfl | exact rAsgn rfl) ?_
        refine WL_val rfl rfl rfl (by first | exact rAsgnN rfl rfl | exact rAsgnE rfl rfl | exact rAsgn rfl) ?_
        refine WL_nil ?_
        refine W_seq ?_
        refine W_seq ?_
        refine W_region ?_
        refine WL_val rfl rfl rfl (by first | exact rMoveN rfl rfl | exact rMoveE rfl rfl | exact rMove rfl) ?_
        refine WL_val rfl rfl rfl (by first | exact rIfaceNe rfl Tryd.underlying35 rfl rfl | exact rNilNe rfl Tryd.underlying35 rfl) ?_
        refine WL_nil ?_
        refine W_cond true rfl ?_
        refine W_seq ?_
        refine W_region ?_
        refine WL_val rfl rfl rfl (by first | exact rMoveN rfl rfl | exact rMoveE rfl rfl | exact rMove rfl) ?_
        refine WL_val rfl rfl rfl (by first | exact rAsgnN rfl rfl | exact rAsgnE rfl rfl | exact rAsgn rfl) ?_
        refine WL_val rfl rfl rfl (by first | exact rAsgnN rfl rfl | exact rAsgnE rfl rfl | exact rAsgn rfl) ?_
        refine WL_nil ?_
        refine W_ret ?_
        exact ret2 2 3 (.inr rfl) rfl (.inr ⟨(by unfold pW; rw [h1]; simp only; rw [h2]; simp only; rw [h3]), U, u, i2, rfl, hi2, hIe⟩)
      | some q3 =>
        obtain ⟨t, r3⟩ := q3
        refine W_seq ?_
        refine W_region ?_
        refine WL_val rfl rfl rfl (by first | exact rMoveP rfl rfl | exact rMove rfl) ?_
        refine WL_val rfl rfl rfl (by first | exact rMoveI rfl rfl | exact rMove rfl) ?_
        refine WL_call rfl rfl rfl (rCall (vs := [.pointer _, .int .i64 _, .int .i64 _]) rfl Tryd.func17 rfl rfl rfl) ?_
        refine (number_any T sgs c i2 p g S w0 _ H l 1000000 hP hi2 hI2 hG hS).mono ?_
        rintro e w1 (⟨t', i3, hk, rfl, hi3, hI3⟩ | ⟨hk, -⟩)
        rotate_left
        · rw [h3] at hk; cases hk
        rw [h3] at hk
        cases hk
        refine ⟨_, rfl, ?_⟩
        refine WL_val rfl rfl rfl (by first | exact rMoveT rfl rfl | exact rMove rfl) ?_
        refine WL_val rfl rfl rfl (rExtr rfl rfl rfl) ?_
        refine WL_val rfl rfl rfl (rExtr rfl rfl rfl) ?_
        refine WL_val rfl rfl rfl (by first | exact rAsgnI rfl rfl | exact rAsgn rfl) ?_
        refine WL_val rfl rfl rfl (by first | exact rAsgnN rfl rfl | exact rAsgnE rfl rfl | exact rAsgn rfl) ?_
        refine WL_nil ?_
        refine W_seq ?_
        refine W_seq ?_
        refine W_region ?_
        refine WL_val rfl rfl rfl (by first | exact rMoveN rfl rfl | exact rMoveE rfl rfl | exact rMove rfl) ?_
        refine WL_val rfl rfl rfl (by first | exact rIfaceNe rfl Tryd.underlying35 rfl rfl | exact rNilNe rfl Tryd.underlying35 rfl) ?_
        refine WL_nil ?_
        refine W_cond false rfl ?_
        refine W_skip ?_
        have hI := hI3
        refine W_seq ?_
        refine W_region ?_
        refine WL_val rfl rfl rfl (by first | exact rMoveI rfl rfl | exact rMove rfl) ?_
        refine WL_val rfl rfl rfl (by first | exact rMoveI rfl rfl | exact rMove rfl) ?_
        refine WL_val rfl rfl rfl (by first | exact rMoveI rfl rfl | exact rMove rfl) ?_
        refine WL_val rfl rfl rfl (rBuild (qs := [(0, .int .i64 _), (1, .int .i64 _), (2, .int .i64 _)]) (vs := [_, _, _]) [.int .i64 0, .int .i64 0, .int .i64 0] [0, 1, 2] rfl rfl rfl (fun _ => by kernel_rfl)) ?_
        refine WL_box (u := .agg _) (vs := #[_, _, _]) hI rfl rfl rfl rfl rfl rfl ?_
        clear hI; rintro b37 w - - hI
        refine WL_val rfl rfl rfl (rIface rfl Tryd.underlying81 rfl rfl) ?_
        refine WL_val rfl rfl rfl (by first | exact rAsgnN rfl rfl | exact rAsgnE rfl rfl | exact rAsgn rfl) ?_
        refine WL_val rfl rfl rfl (by first | exact rAsgnN rfl rfl | exact rAsgnE rfl rfl | exact rAsgn rfl) ?_
        refine WL_nil ?_
        refine W_ret ?_
        have hb1 := numT_pre h2
        have hb2 := numT_pre h3
        refine ret2 2 3 (.inr rfl) rfl (.inl ⟨.wr k l t, _, _, i3, ?_, rfl, .wr (b := b37) hb1.1 hb2.1 hb2.2.1, hi3, ?_⟩)
        · unfold pW; rw [h1]; simp only; rw [h2]; simp only; rw [h3]
        · exact hI.sw0.sw1
end Go.Proofs.YtlhmldjgmbcocaaDoor
