/- store: Free, done, GiveUp. -/
import Derived.Test.YtglioflpblpmpaaStoD
namespace Go.Proofs.Ytglioflpblpmpaa
open Go.RowKit
set_option linter.unusedVariables false
set_option linter.unusedSimpArgs false
theorem cntV_one (L : StL) (s : SSt) (c : Nat) : (cntV L s c).oneCell' = true := by
  unfold cntV
  split <;> rfl
theorem clL_one (x : SCl) {cv : Value} (h : cv.oneCell' = true) : (clL x cv).all (·.oneCell') = true := by
  simp [clL, Value.oneCell']
  exact h
/-- Some cells behind one another of the i-th thing. -/
theorem fl_sub {w : World} {b k i m : Nat} {t : TypeId} {f : Nat → List Value} (h : Blk w b t (flatB k f)) (hm : ∀ i, (f i).length = m) (hi : i < k) (off : Nat) {l : List Value} (r : List Value) (hl : (f i).drop off = l ++ r) :
    ∀ (j : Nat) (v : Value), l[j]? = some v → w.cell? ⟨b, 0 + i * m + off + j, none⟩ = some v := fun j v hj => by
  rw [h.cell, Nat.zero_add, Nat.add_assoc]
  refine flatB_get hm hi ?_
  rw [← List.getElem?_drop, hl, List.getElem?_append_left (List.getElem?_eq_some_iff.1 hj).1]
  exact hj
section
variable {S : Nat → Prop} {w0 w : World} {H : List Ent} {b k c : Nat} {t : TypeId} {L : StL} {s : SSt} {x : SCl} {cv : Value}
theorem clF_sub (i : Nat) (hi : H[i]? = some (B b t (flatB k (clF L s)))) (hI : Inv S w0 w H) (hc : c < k) (off : Nat) {l : List Value} (r : List Value) (hl : (clF L s c).drop off = l ++ r) : ∀ (j : Nat) (v : Value), l[j]? = some v → w.cell? ⟨b, 0 + c * 15 + off + j, none⟩ = some v :=
  fl_sub (hI.ok _ (List.mem_of_getElem? hi)).1 (fun i => clF_len L s i) hc off r hl
theorem clF_all (i : Nat) (hi : H[i]? = some (B b t (flatB k (clF L s)))) (hI : Inv S w0 w H) (hc : c < k) : ∀ (j : Nat) (v : Value), (clF L s c)[j]? = some v → w.cell? ⟨b, 0 + c * 15 + j, none⟩ = some v :=
  clF_sub i hi hI hc 0 [] (by rw [List.drop_zero, List.append_nil])
end
/-- What Free tells where one may begin. -/
structure MayB (s : SSt) (c : Int) (c' : Nat) : Prop where
  eq : c = (c' : Int)
  lt : c' < s.k
  busy : (s.cl c').busy = false
  gone : (s.cl c').gone = false
  room : s.evs.length + 2 + busyN s s.k ≤ 120
set_option maxHeartbeats 2000000 in
theorem free_any (L : StL) (s : SSt) (c : Int) (hk8 : s.k ≤ 8) (hel : s.evs.length ≤ 1000) (S : Nat → Prop) (w0 : World) (hI : Inv S w0 w0 (spt L s)) :
    Calls Try.prog 18 #[.pointer (some ⟨L.sb, 0, none⟩), .int .i64 c] w0 fun en w' => ((en = .returned .nilIface ∧ ∃ c', MayB s c c') ∨ ((∃ n, en = .returned (.iface 46 (.int .i64 n))) ∧ ∀ c', ¬ MayB s c c')) ∧ Inv S w0 w' (spt L s) := by
  refine calls_of_W (N := Try.f18.ntmps) Try.func18 rfl rfl rfl ?_
  refine W_seq ?_
  refine W_region ?_
  refine WL_val rfl rfl rfl (by first | exact rAsgnN rfl rfl | exact rAsgnE rfl rfl | exact rAsgn rfl) ?_
  refine WL_nil ?_
  have hc6 : ∀ w X, Inv S w0 w (X ++ spt L s) → w.cell? ⟨L.sb, 6, none⟩ = some (.slice (some ⟨L.cb, 0, none⟩) s.k s.k) := fun w X hI => hI.fromB.cell 0 rfl rfl
  by_cases hc : 0 ≤ c ∧ c < (s.k : Int)
  rotate_left
  · refine W_seq ?_
    refine W_seq ?_
    refine W_region ?_
    refine WL_val rfl rfl rfl (by first | exact rMoveP rfl rfl | exact rMove rfl) ?_
    refine WL_val rfl rfl rfl (by first | exact rMoveI rfl rfl | exact rMove rfl) ?_
    refine WL_call rfl rfl rfl (rCall (vs := [.pointer _, .int .i64 _]) rfl Try.func29 rfl rfl rfl) ?_
    refine (shas_any L.sb c _ _ _ _ (hc6 _ [] hI)).mono ?_
    rintro e w1 ⟨rfl, hp⟩
    rw [decide_eq_false hc]
    refine ⟨_, rfl, ?_⟩
    replace hI := hI.pure hp
    refine WL_val rfl rfl rfl (by first | exact rNotT rfl rfl | exact rNotF rfl rfl | exact rNot rfl rfl) ?_
    refine WL_nil ?_
    refine W_cond true rfl ?_
    refine W_seq ?_
    refine W_region ?_
    refine WL_val rfl rfl rfl (rIface rfl Try.underlying46 rfl rfl) ?_
    refine WL_val rfl rfl rfl (by first | exact rAsgnN rfl rfl | exact rAsgnE rfl rfl | exact rAsgn rfl) ?_
    refine WL_nil ?_
    refine W_ret ?_
    exact ret1 4 (.inr rfl) rfl ⟨.inr ⟨⟨_, rfl⟩, fun c' hm => hc (by have := hm.eq; have := hm.lt; omega)⟩, hI⟩
  obtain ⟨j, rfl⟩ : ∃ j : Nat, c = (j : Int) := ⟨c.toNat, by omega⟩
  have hj : j < s.k := by omega
  refine W_seq ?_
  refine W_seq ?_
  refine W_region ?_
  refine WL_val rfl rfl rfl (by first | exact rMoveP rfl rfl | exact rMove rfl) ?_
  refine WL_val rfl rfl rfl (by first | exact rMoveI rfl rfl | exact rMove rfl) ?_
  refine WL_call rfl rfl rfl (rCall (vs := [.pointer _, .int .i64 _]) rfl Try.func29 rfl rfl rfl) ?_
  refine (shas_any L.sb (j : Int) _ _ _ _ (hc6 _ [] hI)).mono ?_
  rintro e w1 ⟨rfl, hp⟩
  rw [decide_eq_true hc]
  refine ⟨_, rfl, ?_⟩
  replace hI := hI.pure hp
  refine WL_val rfl rfl rfl (by first | exact rNotT rfl rfl | exact rNotF rfl rfl | exact rNot rfl rfl) ?_
  refine WL_nil ?_
  refine W_cond false rfl ?_
  refine W_skip ?_
  have hq : ∀ w, Inv S w0 w (spt L s) → ClAt w L.cb (0 + j * 15) (s.cl j) (cntV L s j) := fun w hI => clF_at 2 rfl hI hj
  have hc6' : ∀ w, Inv S w0 w (spt L s) → w.cell? ⟨L.sb, 6, none⟩ = some (.slice (some ⟨L.cb, 0, none⟩) s.k s.k) := fun w hI => hc6 w [] hI
  have hc10 : ∀ w, Inv S w0 w (spt L s) → w.cell? ⟨L.sb, 10, none⟩ = some (.slice L.EA s.evs.length L.ec) := fun w hI => hI.cell 0 rfl rfl
  refine W_seq ?_
  refine W_seq_cut (fun ρ w => (((s.cl j).busy = true ∨ (s.cl j).gone = true) → ρ 30 = .bool true) ∧ ((s.cl j).busy = false → (s.cl j).gone = false → ρ 30 = .bool false) ∧ Has ρ [(0, .pointer (some ⟨L.sb, 0, none⟩)), (1, .int .i64 (j : Int))] ∧ Inv S w0 w (spt L s)) ?_ ?_
  · cases hb : (s.cl j).busy with
    | true =>
      have hq0 : ∀ w, Inv S w0 w (spt L s) → w.cell? ⟨L.cb, 0 + j * 15, none⟩ = some (.bool true) := fun w hI => by have := (hq w hI).c0; rw [hb] at this; exact this
      refine W_region ?_
      refine WL_val rfl rfl rfl (by first | exact rMoveP rfl rfl | exact rMove rfl) ?_
      refine WL_val rfl rfl rfl (rNilChk rfl rfl) ?_
      refine WL_val rfl rfl rfl (by first | exact rFldN (off := 6) rfl (by kernel_rfl) rfl | exact rFld (off := 6) rfl (by kernel_rfl) rfl) ?_
      refine WL_val rfl rfl rfl (by first | exact rLd (v := .slice _ _ _) rfl (by kernel_rfl) rfl (by first | exact (hc6' _ hI) | exact (hq0 _ hI)) | exact rLd rfl (by kernel_rfl) rfl (by first | exact (hc6' _ hI) | exact (hq0 _ hI))) ?_
      refine WL_val rfl rfl rfl (by first | exact rMoveI rfl rfl | exact rMove rfl) ?_
      refine WL_val rfl rfl rfl (rIdx (sz := 15) rfl Try.underlying52 (by kernel_rfl) rfl rfl (by omega)) ?_
      refine WL_val rfl rfl rfl (by first | exact rFldN (off := 0) rfl (by kernel_rfl) rfl | exact rFld0 rfl (by kernel_rfl) rfl) ?_
      refine WL_val rfl rfl rfl (by first | exact rLd (v := .bool _) rfl (by kernel_rfl) rfl (by first | exact (hc6' _ hI) | exact (hq0 _ hI)) | exact rLd rfl (by kernel_rfl) rfl (by first | exact (hc6' _ hI) | exact (hq0 _ hI))) ?_
      refine WL_val rfl rfl rfl (by first | exact rMoveB rfl rfl | exact rMove rfl) ?_
      refine WL_skip rfl rfl rfl ?_
      refine WL_skip rfl rfl rfl ?_
      refine WL_skip rfl rfl rfl ?_
      refine WL_skip rfl rfl rfl ?_
      refine WL_skip rfl rfl rfl ?_
      refine WL_skip rfl rfl rfl ?_
      refine WL_skip rfl rfl rfl ?_
      refine WL_skip rfl rfl rfl ?_
      refine WL_val rfl rfl rfl (by first | exact rPickTB rfl rfl rfl | exact rPickFB rfl rfl rfl | exact rPickB rfl rfl rfl rfl) ?_
      refine WL_nil ?_
      exact ⟨fun _ => rfl, fun h => (by cases h), ⟨rfl, rfl, trivial⟩, hI⟩
    | false =>
      have hq0 : ∀ w, Inv S w0 w (spt L s) → w.cell? ⟨L.cb, 0 + j * 15, none⟩ = some (.bool false) := fun w hI => by have := (hq w hI).c0; rw [hb] at this; exact this
      cases hgn : (s.cl j).gone with
      | true =>
        have hq1 : ∀ w, Inv S w0 w (spt L s) → w.cell? ⟨L.cb, 0 + j * 15 + 1, none⟩ = some (.bool true) := fun w hI => by have := (hq w hI).c1; rw [hgn] at this; exact this
        refine W_region ?_
        refine WL_val rfl rfl rfl (by first | exact rMoveP rfl rfl | exact rMove rfl) ?_
        refine WL_val rfl rfl rfl (rNilChk rfl rfl) ?_
        refine WL_val rfl rfl rfl (by first | exact rFldN (off := 6) rfl (by kernel_rfl) rfl | exact rFld (off := 6) rfl (by kernel_rfl) rfl) ?_
        refine WL_val rfl rfl rfl (by first | exact rLd (v := .slice _ _ _) rfl (by kernel_rfl) rfl (by first | exact (hc6' _ hI) | exact (hq0 _ hI) | exact (hq1 _ hI)) | exact rLd rfl (by kernel_rfl) rfl (by first | exact (hc6' _ hI) | exact (hq0 _ hI) | exact (hq1 _ hI))) ?_
        refine WL_val rfl rfl rfl (by first | exact rMoveI rfl rfl | exact rMove rfl) ?_
        refine WL_val rfl rfl rfl (rIdx (sz := 15) rfl Try.underlying52 (by kernel_rfl) rfl rfl (by omega)) ?_
        refine WL_val rfl rfl rfl (by first | exact rFldN (off := 0) rfl (by kernel_rfl) rfl | exact rFld0 rfl (by kernel_rfl) rfl) ?_
        refine WL_val rfl rfl rfl (by first | exact rLd (v := .bool _) rfl (by kernel_rfl) rfl (by first | exact (hc6' _ hI) | exact (hq0 _ hI) | exact (hq1 _ hI)) | exact rLd rfl (by kernel_rfl) rfl (by first | exact (hc6' _ hI) | exact (hq0 _ hI) | exact (hq1 _ hI))) ?_
        refine WL_val rfl rfl rfl (by first | exact rMoveB rfl rfl | exact rMove rfl) ?_
        first | refine WL_val rfl rfl rfl (by first | exact rMoveP rfl rfl | exact rMove rfl) ?_ | refine WL_skip rfl rfl rfl ?_
        first | refine WL_val rfl rfl rfl (rNilChk rfl rfl) ?_ | refine WL_skip rfl rfl rfl ?_
        first | refine WL_val rfl rfl rfl (by first | exact rFldN (off := 6) rfl (by kernel_rfl) rfl | exact rFld (off := 6) rfl (by kernel_rfl) rfl) ?_ | refine WL_skip rfl rfl rfl ?_
        first | refine WL_val rfl rfl rfl (by first | exact rLd (v := .slice _ _ _) rfl (by kernel_rfl) rfl (by first | exact (hc6' _ hI) | exact (hq0 _ hI) | exact (hq1 _ hI)) | exact rLd rfl (by kernel_rfl) rfl (by first | exact (hc6' _ hI) | exact (hq0 _ hI) | exact (hq1 _ hI))) ?_ | refine WL_skip rfl rfl rfl ?_
        first | refine WL_val rfl rfl rfl (by first | exact rMoveI rfl rfl | exact rMove rfl) ?_ | refine WL_skip rfl rfl rfl ?_
        first | refine WL_val rfl rfl rfl (rIdx (sz := 15) rfl Try.underlying52 (by kernel_rfl) rfl rfl (by omega)) ?_ | refine WL_skip rfl rfl rfl ?_
        first | refine WL_val rfl rfl rfl (by first | exact rFldN (off := 1) rfl (by kernel_rfl) rfl | exact rFld (off := 1) rfl (by kernel_rfl) rfl) ?_ | refine WL_skip rfl rfl rfl ?_
        first | refine WL_val rfl rfl rfl (by first | exact rLd (v := .bool _) rfl (by kernel_rfl) rfl (by first | exact (hc6' _ hI) | exact (hq0 _ hI) | exact (hq1 _ hI)) | exact rLd rfl (by kernel_rfl) rfl (by first | exact (hc6' _ hI) | exact (hq0 _ hI) | exact (hq1 _ hI))) ?_ | refine WL_skip rfl rfl rfl ?_
        refine WL_val rfl rfl rfl (by first | exact rPickTB rfl rfl rfl | exact rPickFB rfl rfl rfl | exact rPickB rfl rfl rfl rfl) ?_
        refine WL_nil ?_
        exact ⟨fun _ => rfl, fun _ h => (by cases h), ⟨rfl, rfl, trivial⟩, hI⟩
      | false =>
        have hq1 : ∀ w, Inv S w0 w (spt L s) → w.cell? ⟨L.cb, 0 + j * 15 + 1, none⟩ = some (.bool false) := fun w hI => by have := (hq w hI).c1; rw [hgn] at this; exact this
        refine W_region ?_
        refine WL_val rfl rfl rfl (by first | exact rMoveP rfl rfl | exact rMove rfl) ?_
        refine WL_val rfl rfl rfl (rNilChk rfl rfl) ?_
        refine WL_val rfl rfl rfl (by first | exact rFldN (off := 6) rfl (by kernel_rfl) rfl | exact rFld (off := 6) rfl (by kernel_rfl) rfl) ?_
        refine WL_val rfl rfl rfl (by first | exact rLd (v := .slice _ _ _) rfl (by kernel_rfl) rfl (by first | exact (hc6' _ hI) | exact (hq0 _ hI) | exact (hq1 _ hI)) | exact rLd rfl (by kernel_rfl) rfl (by first | exact (hc6' _ hI) | exact (hq0 _ hI) | exact (hq1 _ hI))) ?_
        refine WL_val rfl rfl rfl (by first | exact rMoveI rfl rfl | exact rMove rfl) ?_
        refine WL_val rfl rfl rfl (rIdx (sz := 15) rfl Try.underlying52 (by kernel_rfl) rfl rfl (by omega)) ?_
        refine WL_val rfl rfl rfl (by first | exact rFldN (off := 0) rfl (by kernel_rfl) rfl | exact rFld0 rfl (by kernel_rfl) rfl) ?_
        refine WL_val rfl rfl rfl (by first | exact rLd (v := .bool _) rfl (by kernel_rfl) rfl (by first | exact (hc6' _ hI) | exact (hq0 _ hI) | exact (hq1 _ hI)) | exact rLd rfl (by kernel_rfl) rfl (by first | exact (hc6' _ hI) | exact (hq0 _ hI) | exact (hq1 _ hI))) ?_
        refine WL_val rfl rfl rfl (by first | exact rMoveB rfl rfl | exact rMove rfl) ?_
        first | refine WL_val rfl rfl rfl (by first | exact rMoveP rfl rfl | exact rMove rfl) ?_ | refine WL_skip rfl rfl rfl ?_
        first | refine WL_val rfl rfl rfl (rNilChk rfl rfl) ?_ | refine WL_skip rfl rfl rfl ?_
        first | refine WL_val rfl rfl rfl (by first | exact rFldN (off := 6) rfl (by kernel_rfl) rfl | exact rFld (off := 6) rfl (by kernel_rfl) rfl) ?_ | refine WL_skip rfl rfl rfl ?_
        first | refine WL_val rfl rfl rfl (by first | exact rLd (v := .slice _ _ _) rfl (by kernel_rfl) rfl (by first | exact (hc6' _ hI) | exact (hq0 _ hI) | exact (hq1 _ hI)) | exact rLd rfl (by kernel_rfl) rfl (by first | exact (hc6' _ hI) | exact (hq0 _ hI) | exact (hq1 _ hI))) ?_ | refine WL_skip rfl rfl rfl ?_
        first | refine WL_val rfl rfl rfl (by first | exact rMoveI rfl rfl | exact rMove rfl) ?_ | refine WL_skip rfl rfl rfl ?_
        first | refine WL_val rfl rfl rfl (rIdx (sz := 15) rfl Try.underlying52 (by kernel_rfl) rfl rfl (by omega)) ?_ | refine WL_skip rfl rfl rfl ?_
        first | refine WL_val rfl rfl rfl (by first | exact rFldN (off := 1) rfl (by kernel_rfl) rfl | exact rFld (off := 1) rfl (by kernel_rfl) rfl) ?_ | refine WL_skip rfl rfl rfl ?_
        first | refine WL_val rfl rfl rfl (by first | exact rLd (v := .bool _) rfl (by kernel_rfl) rfl (by first | exact (hc6' _ hI) | exact (hq0 _ hI) | exact (hq1 _ hI)) | exact rLd rfl (by kernel_rfl) rfl (by first | exact (hc6' _ hI) | exact (hq0 _ hI) | exact (hq1 _ hI))) ?_ | refine WL_skip rfl rfl rfl ?_
        refine WL_val rfl rfl rfl (by first | exact rPickTB rfl rfl rfl | exact rPickFB rfl rfl rfl | exact rPickB rfl rfl rfl rfl) ?_
        refine WL_nil ?_
        exact ⟨fun h => (by rcases h with h | h <;> cases h), fun _ _ => rfl, ⟨rfl, rfl, trivial⟩, hI⟩
  clear hI
  rintro ρ w ⟨hT, hF, hH, hI⟩
  by_cases hbg : (s.cl j).busy = true ∨ (s.cl j).gone = true
  · refine W_cond true (hT hbg) ?_
    refine W_seq ?_
    refine W_region ?_
    refine WL_val rfl rfl rfl (rIface rfl Try.underlying46 rfl rfl) ?_
    refine WL_val rfl rfl rfl (by first | exact rAsgnN rfl rfl | exact rAsgnE rfl rfl | exact rAsgn rfl) ?_
    refine WL_nil ?_
    refine W_ret ?_
    exact ret1 4 (.inr rfl) rfl ⟨.inr ⟨⟨_, rfl⟩, fun c' hm => by
      obtain rfl : j = c' := by have := hm.eq; omega
      rcases hbg with h | h
      · rw [hm.busy] at h; cases h
      · rw [hm.gone] at h; cases h⟩, hI⟩
  have hb : (s.cl j).busy = false := by cases h : (s.cl j).busy; rfl; exact absurd (.inl h) hbg
  have hgn : (s.cl j).gone = false := by cases h : (s.cl j).gone; rfl; exact absurd (.inr h) hbg
  refine W_cond false (hF hb hgn) ?_
  refine W_skip ?_
  clear hT hF
  obtain ⟨σ, rfl⟩ := hH.open
  have hbl : ∀ i, busyN s i ≤ i := busyN_le s
  refine W_seq ?_
  refine W_region ?_
  refine WL_val rfl rfl rfl (by first | exact rMoveP rfl rfl | exact rMove rfl) ?_
  refine WL_val rfl rfl rfl (rNilChk rfl rfl) ?_
  refine WL_val rfl rfl rfl (by first | exact rFldN (off := 10) rfl (by kernel_rfl) rfl | exact rFld (off := 10) rfl (by kernel_rfl) rfl) ?_
  refine WL_val rfl rfl rfl (by first | exact rLd (v := .slice _ _ _) rfl (by kernel_rfl) rfl (by first | exact (hc10 _ hI)) | exact rLd rfl (by kernel_rfl) rfl (by first | exact (hc10 _ hI))) ?_
  refine WL_val rfl rfl rfl (rLen rfl Try.underlying32 rfl) ?_
  refine WL_val rfl rfl rfl (by first | exact rInc rfl rfl rfl (by omega) | exact rAdd rfl rfl rfl (by omega) | exact rAddW rfl rfl rfl) ?_
  refine WL_val rfl rfl rfl (by first | exact rAsgnI rfl rfl | exact rAsgn rfl) ?_
  refine WL_nil ?_
  refine W_seq_cut (fun ρ w => Has ρ [(5, .int .i64 ((s.evs.length + 2 + busyN s s.k : Nat) : Int))] ∧ Inv S w0 w (spt L s)) ?_ ?_
  · refine W_seq ?_
    refine W_region ?_
    refine WL_val rfl rfl rfl (by first | exact rMoveP rfl rfl | exact rMove rfl) ?_
    refine WL_val rfl rfl rfl (rNilChk rfl rfl) ?_
    refine WL_val rfl rfl rfl (by first | exact rFldN (off := 6) rfl (by kernel_rfl) rfl | exact rFld (off := 6) rfl (by kernel_rfl) rfl) ?_
    refine WL_val rfl rfl rfl (by first | exact rLd (v := .slice _ _ _) rfl (by kernel_rfl) rfl (by first | exact (hc6' _ hI)) | exact rLd rfl (by kernel_rfl) rfl (by first | exact (hc6' _ hI))) ?_
    refine WL_val rfl rfl rfl (rLen rfl Try.underlying52 rfl) ?_
    refine WL_val rfl rfl rfl (by first | exact rMoveI rfl rfl | exact rMove rfl) ?_
    refine WL_nil ?_
    refine W_block ?_
    refine W_loop (fun ρ w => ∃ i : Nat, i ≤ s.k ∧ Has ρ [(43, .int .i64 (i : Int)), (42, .int .i64 (s.k : Int)), (41, .slice (some ⟨L.cb, 0, none⟩) s.k s.k), (5, .int .i64 ((s.evs.length + 2 + busyN s i : Nat) : Int))] ∧ Inv S w0 w (spt L s)) (fun ρ _ => s.k - cnt (ρ 43))
      ⟨0, by omega, ⟨rfl, rfl, rfl, rfl, trivial⟩, hI⟩ ?_
    clear hI
    rintro ρ w ⟨i, hi, hH, hI⟩
    obtain ⟨σ, rfl⟩ := hH.open
    have hbi := hbl i
    by_cases hik : i < s.k
    rotate_left
    · obtain rfl : i = s.k := by omega
      refine W_seq ?_
      refine W_region ?_
      refine WL_val rfl rfl rfl (by first | exact rLssT rfl rfl rfl (by omega) | exact rLssF rfl rfl rfl (by omega) | exact rLss rfl rfl rfl) ?_
      refine WL_nil ?_
      refine W_seq ?_
      refine W_cond false rfl ?_
      refine W_exit ?_
      exact ⟨⟨rfl, trivial⟩, hI⟩
    have hbs := busyN_succ s i
    refine W_seq ?_
    refine W_region ?_
    refine WL_val rfl rfl rfl (by first | exact rLssT rfl rfl rfl (by omega) | exact rLssF rfl rfl rfl (by omega) | exact rLss rfl rfl rfl) ?_
    refine WL_nil ?_
    refine W_seq ?_
    refine W_cond true rfl ?_
    refine W_skip ?_
    refine W_seq ?_
    refine W_block ?_
    refine W_seq ?_
    refine W_region ?_
    refine WL_val rfl rfl rfl (rIdx (sz := 15) rfl Try.underlying52 (by kernel_rfl) rfl rfl (by omega)) ?_
    refine WL_val rfl rfl rfl (rLdA (n := 15) (l := clF L s i) rfl (by kernel_rfl) (by kernel_rfl) rfl rfl (clF_all 2 rfl hI hik)) ?_
    refine WL_alloc (u := .agg #[.bool false, .bool false, .int .i64 0, .int .i64 0, .int .i64 0, .int .i64 0, .int .i64 0, .int .i64 0, .int .i64 0, .bool false, .int .i64 0, .slice none 0 0, .int .i64 0, .int .i64 0, .int .i64 0]) (vs := #[.bool false, .bool false, .int .i64 0, .int .i64 0, .int .i64 0, .int .i64 0, .int .i64 0, .int .i64 0, .int .i64 0, .bool false, .int .i64 0, .slice none 0 0, .int .i64 0, .int .i64 0, .int .i64 0]) hI rfl rfl rfl rfl (by kernel_rfl) rfl ?_
    clear hI; rintro b7 w - - hI
    refine WL_stw0 (u := .agg (clF L s i).toArray) (vs := (clF L s i).toArray) (n := 15) hI rfl rfl rfl rfl rfl rfl (by kernel_rfl) rfl rfl (clL_one _ (cntV_one L s i)) ?_
    clear hI; intro w hI
    refine WL_nil ?_
    cases hbz : (s.cl i).busy with
    | true =>
      rw [if_pos hbz] at hbs
      have hz : w.cell? ⟨b7, 0, none⟩ = some (.bool true) := by have := hI.c0 (j := 0) (v := .bool (s.cl i).busy) rfl; rw [hbz] at this; exact this
      refine W_seq ?_
      refine W_region ?_
      refine WL_val rfl rfl rfl (by first | exact rFldN (off := 0) rfl (by kernel_rfl) rfl | exact rFld0 rfl (by kernel_rfl) rfl) ?_
      refine WL_val rfl rfl rfl (by first | exact rLd (v := .bool _) rfl (by kernel_rfl) rfl (by first | exact hI.oldp hz | exact hz) | exact rLd rfl (by kernel_rfl) rfl (by first | exact hI.oldp hz | exact hz)) ?_
      refine WL_nil ?_
      refine W_cond true rfl ?_
      refine W_region ?_
      refine WL_val rfl rfl rfl (by first | exact rMoveI rfl rfl | exact rMove rfl) ?_
      refine WL_val rfl rfl rfl (by first | exact rInc rfl rfl rfl (by omega) | exact rAdd rfl rfl rfl (by omega) | exact rAddW rfl rfl rfl) ?_
      refine WL_val rfl rfl rfl (by first | exact rAsgnI rfl rfl | exact rAsgn rfl) ?_
      refine WL_nil ?_
      refine W_region ?_
      refine WL_val rfl rfl rfl (by first | exact rInc rfl rfl rfl (by omega) | exact rAdd rfl rfl rfl (by omega) | exact rAddW rfl rfl rfl) ?_
      refine WL_val rfl rfl rfl (by first | exact rMoveI rfl rfl | exact rMove rfl) ?_
      refine WL_nil ?_
      refine ⟨⟨i + 1, by omega, ⟨rfl, rfl, rfl, ?_, trivial⟩, hI.d0⟩, by show s.k - ((i + 1 : Nat) : Int).toNat < s.k - (i : Int).toNat; omega⟩
      rw [hbs]; rfl
    | false =>
      rw [if_neg (by rw [hbz]; decide)] at hbs
      have hz : w.cell? ⟨b7, 0, none⟩ = some (.bool false) := by have := hI.c0 (j := 0) (v := .bool (s.cl i).busy) rfl; rw [hbz] at this; exact this
      refine W_seq ?_
      refine W_region ?_
      refine WL_val rfl rfl rfl (by first | exact rFldN (off := 0) rfl (by kernel_rfl) rfl | exact rFld0 rfl (by kernel_rfl) rfl) ?_
      refine WL_val rfl rfl rfl (by first | exact rLd (v := .bool _) rfl (by kernel_rfl) rfl (by first | exact hI.oldp hz | exact hz) | exact rLd rfl (by kernel_rfl) rfl (by first | exact hI.oldp hz | exact hz)) ?_
      refine WL_nil ?_
      refine W_cond false rfl ?_
      refine W_skip ?_
      refine W_region ?_
      refine WL_val rfl rfl rfl (by first | exact rInc rfl rfl rfl (by omega) | exact rAdd rfl rfl rfl (by omega) | exact rAddW rfl rfl rfl) ?_
      refine WL_val rfl rfl rfl (by first | exact rMoveI rfl rfl | exact rMove rfl) ?_
      refine WL_nil ?_
      refine ⟨⟨i + 1, by omega, ⟨rfl, rfl, rfl, ?_, trivial⟩, hI.d0⟩, by show s.k - ((i + 1 : Nat) : Int).toNat < s.k - (i : Int).toNat; omega⟩
      rw [hbs]; rfl
  clear hI
  rintro ρ w ⟨hH, hI⟩
  obtain ⟨σ, rfl⟩ := hH.open
  by_cases hroom : s.evs.length + 2 + busyN s s.k ≤ 120
  · refine W_seq ?_
    refine W_seq ?_
    refine W_region ?_
    refine WL_val rfl rfl rfl (by first | exact rMoveI rfl rfl | exact rMove rfl) ?_
    refine WL_val rfl rfl rfl (by first | exact rGtrT rfl rfl rfl (by omega) | exact rGtrF rfl rfl rfl (by omega) | exact rGtr rfl rfl rfl) ?_
    refine WL_nil ?_
    refine W_cond false rfl ?_
    refine W_skip ?_
    refine W_seq ?_
    refine W_region ?_
    refine WL_val rfl rfl rfl (by first | exact rAsgnN rfl rfl | exact rAsgnE rfl rfl | exact rAsgn rfl) ?_
    refine WL_nil ?_
    refine W_ret ?_
    exact ret1 4 (.inr rfl) rfl ⟨.inl ⟨rfl, j, rfl, hj, hb, hgn, hroom⟩, hI⟩
  · refine W_seq ?_
    refine W_seq ?_
    refine W_region ?_
    refine WL_val rfl rfl rfl (by first | exact rMoveI rfl rfl | exact rMove rfl) ?_
    refine WL_val rfl rfl rfl (by first | exact rGtrT rfl rfl rfl (by omega) | exact rGtrF rfl rfl rfl (by omega) | exact rGtr rfl rfl rfl) ?_
    refine WL_nil ?_
    refine W_cond true rfl ?_
    refine W_seq ?_
    refine W_region ?_
    refine WL_val rfl rfl rfl (rIface rfl Try.underlying46 rfl rfl) ?_
    refine WL_val rfl rfl rfl (by first | exact rAsgnN rfl rfl | exact rAsgnE rfl rfl | exact rAsgn rfl) ?_
    refine WL_nil ?_
    refine W_ret ?_
    exact ret1 4 (.inr rfl) rfl ⟨.inr ⟨⟨_, rfl⟩, fun c' hm => hroom hm.room⟩, hI⟩
/-- A client's flag is turned. -/
theorem cl_back {S : Nat → Prop} {w0 w : World} {X : List Ent} {L : StL} {s : SSt} {c : Nat} {x' : SCl} (hc : c < s.k) (hct : x'.counted = (s.cl c).counted)
    (hI : Inv S w0 w (X ++ [B L.sb 59 (stoC L s), B L.nb 63 (flatB (s.n * 8) (ndF s)), B L.cb 68 (clX s.k L s c x' (cntV L s c)), Many s.k (cntE L s), Row 0 73 9 L.MA s.mails.length L.mc (s.mails.flatMap mailL),
    Row 0 66 1 L.LA L.ln L.lc L.lv, RowsE L.lv L.LD, Row 0 37 7 L.EA s.evs.length L.ec (s.evs.flatMap evL), Row 0 39 2 L.SA s.sts.length L.sc (s.sts.flatMap stL)])) : Inv S w0 w (X ++ spt L (setCl s c x')) := by
  have h1 : clX s.k L s c x' (cntV L s c) = flatB s.k (clF L (setCl s c x')) := clX_end (by
    unfold clF
    rw [show (setCl s c x').cl c = x' from if_pos rfl]; rfl) fun i _ hi => by
    unfold clF
    rw [show (setCl s c x').cl i = s.cl i from if_neg hi]; rfl
  have h2 : cntE L s = cntE L (setCl s c x') := by
    funext i
    unfold cntE
    by_cases hi : i = c
    · subst hi
      rw [show (setCl s i x').cl i = x' from if_pos rfl, hct]
    · rw [show (setCl s c x').cl i = s.cl i from if_neg hi]
  rw [h1, h2] at hI
  exact hI
set_option maxHeartbeats 2000000 in
theorem done_any (L : StL) (s : SSt) (c : Nat) (hc : c < s.k) (hk8 : s.k ≤ 8) (hel : s.evs.length ≤ 1000 ∧ s.sts.length ≤ 1000) (S : Nat → Prop) (w0 : World) (hI : Inv S w0 w0 (spt L s)) :
    Calls Try.prog 34 #[.pointer (some ⟨L.sb, 0, none⟩), .int .i64 (c : Int)] w0 fun en w' => en = .returned (.tuple #[]) ∧ ∃ EA ec SA sc, Inv S w0 w' (spt { L with EA := EA, ec := ec, SA := SA, sc := sc } (doneS s c)) := by
  refine calls_of_W (N := Try.f34.ntmps) Try.func34 rfl rfl rfl ?_
  refine W_seq ?_
  refine W_region ?_
  refine WL_val rfl rfl rfl (by first | exact rMoveP rfl rfl | exact rMove rfl) ?_
  refine WL_val rfl rfl rfl (rNilChk rfl rfl) ?_
  refine WL_val rfl rfl rfl (by first | exact rFldN (off := 6) rfl (by kernel_rfl) rfl | exact rFld (off := 6) rfl (by kernel_rfl) rfl) ?_
  refine WL_val rfl rfl rfl (by first | exact rLd (v := .slice _ _ _) rfl (by kernel_rfl) rfl (by first | exact (hI.cell 0 rfl rfl)) | exact rLd rfl (by kernel_rfl) rfl (by first | exact (hI.cell 0 rfl rfl))) ?_
  refine WL_val rfl rfl rfl (by first | exact rMoveI rfl rfl | exact rMove rfl) ?_
  refine WL_val rfl rfl rfl (rIdx (sz := 15) rfl Try.underlying52 (by kernel_rfl) rfl rfl (by omega)) ?_
  refine WL_val rfl rfl rfl (by first | exact rAsgnP rfl rfl | exact rAsgn rfl) ?_
  refine WL_nil ?_
  refine W_seq ?_
  refine W_region ?_
  refine WL_val rfl rfl rfl (by first | exact rMoveP rfl rfl | exact rMove rfl) ?_
  refine WL_val rfl rfl rfl (rNilChk rfl rfl) ?_
  refine WL_val rfl rfl rfl (by first | exact rFldN (off := 2) rfl (by kernel_rfl) rfl | exact rFld (off := 2) rfl (by kernel_rfl) rfl) ?_
  refine WL_val rfl rfl rfl (rLdA (n := 7) (l := evL (s.cl c).began) rfl (by kernel_rfl) (by kernel_rfl) rfl rfl (clF_sub 2 rfl hI hc 2 _ rfl)) ?_
  refine WL_alloc (u := .agg #[.int .i64 0, .int .i64 0, .int .i64 0, .int .i64 0, .int .i64 0, .int .i64 0, .int .i64 0]) (vs := #[.int .i64 0, .int .i64 0, .int .i64 0, .int .i64 0, .int .i64 0, .int .i64 0, .int .i64 0]) hI rfl rfl rfl rfl (by kernel_rfl) rfl ?_
  clear hI; rintro b5 w - - hI
  refine WL_stw0 (u := .agg (evL (s.cl c).began).toArray) (vs := (evL (s.cl c).began).toArray) (n := 7) hI rfl rfl rfl rfl rfl rfl (by kernel_rfl) rfl rfl rfl ?_
  clear hI; intro w hI
  refine WL_nil ?_
  refine W_seq ?_
  refine W_region ?_
  refine WL_val rfl rfl rfl (by first | exact rFldN (off := 1) rfl (by kernel_rfl) rfl | exact rFld (off := 1) rfl (by kernel_rfl) rfl) ?_
  refine WL_st0 (u := .int .i64 2) (j := 1) (cs' := (evL { (s.cl c).began with ty := 2 }).toArray) hI rfl rfl rfl rfl rfl rfl (by kernel_rfl) rfl rfl rfl ?_
  clear hI; intro w hI
  refine WL_nil ?_
  obtain ⟨x, hx⟩ : ∃ x, s.cl c = x := ⟨_, rfl⟩
  refine W_seq_cut (fun ρ w => Has ρ [(0, .pointer (some ⟨L.sb, 0, none⟩)), (1, .int .i64 (c : Int)), (4, .pointer (some ⟨L.cb, 0 + c * 15, none⟩)), (5, .pointer (some ⟨b5, 0, none⟩))] ∧ Inv S w0 w ([B b5 37 (evL (evD x)).toArray] ++ spt L s)) ?_ ?_
  · by_cases hk : x.began.kind = 1
    · have hz : w.cell? ⟨b5, 3, none⟩ = some (.int .i64 1) := by have := hI.c0 (j := 3) (v := .int .i64 (s.cl c).began.kind) rfl; rw [hx, hk] at this; exact this
      refine W_seq ?_
      refine W_region ?_
      refine WL_val rfl rfl rfl (by first | exact rFldN (off := 3) rfl (by kernel_rfl) rfl | exact rFld (off := 3) rfl (by kernel_rfl) rfl) ?_
      refine WL_val rfl rfl rfl (by first | exact rLd (v := .int .i64 _) rfl (by kernel_rfl) rfl (by first | exact hI.oldp hz | exact hz) | exact rLd rfl (by kernel_rfl) rfl (by first | exact hI.oldp hz | exact hz)) ?_
      refine WL_val rfl rfl rfl (by first | exact rEqlT rfl rfl rfl (by omega) | exact rEqlF rfl rfl rfl (by omega) | exact rEql rfl rfl rfl) ?_
      refine WL_nil ?_
      refine W_cond true rfl ?_
      refine W_region ?_
      refine WL_val rfl rfl rfl (by first | exact rMoveP rfl rfl | exact rMove rfl) ?_
      refine WL_val rfl rfl rfl (rNilChk rfl rfl) ?_
      refine WL_val rfl rfl rfl (by first | exact rFldN (off := 12) rfl (by kernel_rfl) rfl | exact rFld (off := 12) rfl (by kernel_rfl) rfl) ?_
      refine WL_val rfl rfl rfl (by first | exact rFldN (off := 2) rfl (by kernel_rfl) rfl | exact rFld (off := 2) rfl (by kernel_rfl) rfl) ?_
      refine WL_val rfl rfl rfl (by first | exact rLd (v := .int .i64 _) rfl (by kernel_rfl) rfl (by first | exact ((clF_at 3 rfl hI hc).c14)) | exact rLd rfl (by kernel_rfl) rfl (by first | exact ((clF_at 3 rfl hI hc).c14))) ?_
      refine WL_val rfl rfl rfl (by first | exact rFldN (off := 6) rfl (by kernel_rfl) rfl | exact rFld (off := 6) rfl (by kernel_rfl) rfl) ?_
      refine WL_st0 (u := .int .i64 (s.cl c).best.v) (j := 6) (cs' := (evL { (s.cl c).began with ty := 2, res := (s.cl c).best.v }).toArray) hI rfl rfl rfl rfl rfl rfl (by kernel_rfl) rfl rfl rfl ?_
      clear hI; intro w hI
      refine WL_nil ?_
      refine ⟨⟨rfl, rfl, rfl, rfl, trivial⟩, ?_⟩
      have : evD x = { (s.cl c).began with ty := 2, res := (s.cl c).best.v } := by unfold evD; rw [if_pos hk, hx]
      rw [this]
      exact hI
    · have hz : w.cell? ⟨b5, 3, none⟩ = some (.int .i64 x.began.kind) := by have := hI.c0 (j := 3) (v := .int .i64 (s.cl c).began.kind) rfl; rw [hx] at this; exact this
      refine W_seq ?_
      refine W_region ?_
      refine WL_val rfl rfl rfl (by first | exact rFldN (off := 3) rfl (by kernel_rfl) rfl | exact rFld (off := 3) rfl (by kernel_rfl) rfl) ?_
      refine WL_val rfl rfl rfl (by first | exact rLd (v := .int .i64 _) rfl (by kernel_rfl) rfl (by first | exact hI.oldp hz | exact hz) | exact rLd rfl (by kernel_rfl) rfl (by first | exact hI.oldp hz | exact hz)) ?_
      refine WL_val rfl rfl rfl (by first | exact rEqlT rfl rfl rfl (by omega) | exact rEqlF rfl rfl rfl (by omega) | exact rEql rfl rfl rfl) ?_
      refine WL_nil ?_
      refine W_cond false rfl ?_
      refine W_skip ?_
      refine ⟨⟨rfl, rfl, rfl, rfl, trivial⟩, ?_⟩
      have : evD x = { (s.cl c).began with ty := 2 } := by unfold evD; rw [if_neg hk, hx]
      rw [this]
      exact hI
  clear hI
  rintro ρ w ⟨hH, hI⟩
  obtain ⟨σ, rfl⟩ := hH.open
  refine W_seq ?_
  refine W_draw (by kernel_rfl) ?_
  refine WA_inv (T := [7]) hI.drew ?_
  intro Sx hSx hXS
  replace hI := hI.drew
  refine WT_take 0 rfl rfl (by kernel_rfl) (hXS _ hI) rfl (fun W hW => have hI := hSx W hW; (by first | exact rMoveP rfl rfl | exact rMove rfl)) ?_
  refine WT_take 1 rfl rfl (by kernel_rfl) (hXS _ hI) rfl (fun W hW => have hI := hSx W hW; (rLdA (n := 7) (l := evL (evD x)) rfl (by kernel_rfl) (by kernel_rfl) rfl rfl (fun k u hk => hI.cell 0 rfl (by rw [Nat.zero_add, List.getElem?_toArray]; exact hk)))) ?_
  refine WT_take 2 rfl rfl (by kernel_rfl) (hXS _ hI) rfl (fun W hW => have hI := hSx W hW; (by first | exact rMoveP rfl rfl | exact rMove rfl)) ?_
  refine WT_take 3 rfl rfl (by kernel_rfl) (hXS _ hI) rfl (fun W hW => have hI := hSx W hW; (rNilChk rfl rfl)) ?_
  refine WT_take 4 rfl rfl (by kernel_rfl) (hXS _ hI) rfl (fun W hW => have hI := hSx W hW; (by first | exact rFldN (off := 12) rfl (by kernel_rfl) rfl | exact rFld (off := 12) rfl (by kernel_rfl) rfl)) ?_
  refine WT_take 5 rfl rfl (by kernel_rfl) (hXS _ hI) rfl (fun W hW => have hI := hSx W hW; (by first | exact rFldN (off := 0) rfl (by kernel_rfl) rfl | exact rFld0 rfl (by kernel_rfl) rfl)) ?_
  refine WT_take 6 rfl rfl (by kernel_rfl) (hXS _ hI) rfl (fun W hW => have hI := hSx W hW; (rLdA (n := 2) (l := stL (s.cl c).best) rfl (by kernel_rfl) (by kernel_rfl) rfl rfl (clF_sub 3 rfl hI hc 12 _ rfl))) ?_
  refine WT_A (by kernel_rfl) ?_
  clear hXS hSx
  refine WA_one 7 rfl (by kernel_rfl) ?_
  refine WL_call rfl rfl rfl (rCall (vs := [.pointer _, .agg _, .agg _]) rfl Try.func19 rfl rfl rfl) ?_
  refine (see_any L s (evD x) ⟨(s.cl c).best.t, (s.cl c).best.c, 0⟩ (DLs _) _ (hI.fromB (X := [_])) hel).mono ?_
  rintro en w1 ⟨rfl, EA, ec, SA, sc, hJ⟩
  refine ⟨_, rfl, ?_⟩
  replace hI := hI.callB (X := [_]) hJ
  refine WL_nil ?_
  refine WA_end (by kernel_rfl) ?_
  replace hI := hI.d0
  unfold spt at hI
  rw [← clX_start (c := c)] at hI
  refine W_region ?_
  refine WL_val rfl rfl rfl (by first | exact rMoveP rfl rfl | exact rMove rfl) ?_
  refine WL_val rfl rfl rfl (rNilChk rfl rfl) ?_
  refine WL_val rfl rfl rfl (by first | exact rFldN (off := 0) rfl (by kernel_rfl) rfl | exact rFld0 rfl (by kernel_rfl) rfl) ?_
  refine WL_st 2 rfl (u := .bool false) (j := 0 + c * 15) hI rfl rfl rfl rfl rfl rfl (by kernel_rfl) rfl (clX_blt0 hc) (clX_set0 (x := (obsF s (evD x) ⟨(s.cl c).best.t, (s.cl c).best.c, 0⟩).cl c) (cv := cntV { L with EA := EA, ec := ec, SA := SA, sc := sc } (obsF s (evD x) ⟨(s.cl c).best.t, (s.cl c).best.c, 0⟩) c) (cv' := cntV { L with EA := EA, ec := ec, SA := SA, sc := sc } (obsF s (evD x) ⟨(s.cl c).best.t, (s.cl c).best.c, 0⟩) c) (x' := { (obsF s (evD x) ⟨(s.cl c).best.t, (s.cl c).best.c, 0⟩).cl c with busy := false }) hc rfl) ?_
  clear hI; intro w hI
  refine WL_nil ?_
  refine ret0 (.inl rfl) rfl ⟨rfl, EA, ec, SA, sc, ?_⟩
  subst hx
  exact cl_back (X := []) (L := { L with EA := EA, ec := ec, SA := SA, sc := sc }) (s := obsF s (evD (s.cl c)) ⟨(s.cl c).best.t, (s.cl c).best.c, 0⟩) hc rfl hI
end Go.Proofs.Ytglioflpblpmpaa
