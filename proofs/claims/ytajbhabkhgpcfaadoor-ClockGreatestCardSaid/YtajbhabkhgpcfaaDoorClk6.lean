/- clock.Times: the walk. -/
import Derived.Test.YtajbhabkhgpcfaaDoorClk5
namespace Go.Proofs.YtajbhabkhgpcfaaDoor
open Go.RowKit
set_option linter.unusedVariables false
set_option linter.unusedSimpArgs false
theorem froms_at {l : List Ck} {n k : Nat} (h : k < n) : (fromsV l n)[k]? = some (.int .i64 (optI (fromF l k))) := by simp [fromsV, h]
theorem rMaxN {P : Program} {ρ : Env} {o : Oper} {w : World} {x y : Operand} {t t' : TypeId} {a b : Nat} (ho : o.op = .call { callee := .builtin .max, args := #[x, y], argTypes := #[t, t'] }) (hx : ev ρ x = .int .i64 (a : Int)) (hy : ev ρ y = .int .i64 (b : Int)) : Runs P ρ o w (.int .i64 ((max a b : Nat) : Int)) := by
  have := rMax (P := P) (w := w) ho hx hy
  rwa [show max (a : Int) (b : Int) = ((max a b : Nat) : Int) by omega] at this
def TimesPost (l : List Ck) (w0 : World) (en : Ending) (w' : World) : Prop :=
  ((OkClk l ∧ ∃ ob, en = .returned (.tuple #[.slice (some ⟨ob, 0, none⟩) l.length l.length, .nilIface]) ∧ (B ob 3 (numC l.length (timeF (prc l) (fromF l)))).ok w' ∧ w0.heap.size ≤ ob) ∨
    (¬ OkClk l ∧ ∃ e n, en = .returned (.tuple #[.slice none 0 0, e]) ∧ IsE w' e n)) ∧ Pure w0 w'
theorem numC_congr {n : Nat} {f g : Nat → Nat} (h : ∀ i, i < n → f i = g i) : numC n f = numC n g := by
  unfold numC
  congr 1
  exact List.map_congr_left fun i hi => by rw [h i (List.mem_range.1 hi)]
set_option maxHeartbeats 2000000 in
theorem times_any (A : Option Addr) (n c : Nat) (l : List Ck) (D : Nat → Prop) (w0 : World) (h : Cks w0 D (.slice A n c) l) (hg : GlobOk w0) :
    Calls Tryd.prog 7 #[.slice A n c] w0 (TimesPost l w0) := by
  obtain ⟨hn, hc1, hc2⟩ := h.len
  have hI := Inv.start (fun _ => False) w0
  refine calls_of_W (N := Tryd.f7.ntmps) Tryd.func7 rfl rfl rfl ?_
  refine W_seq ?_
  refine W_region ?_
  refine WL_val rfl rfl rfl (by first | exact rAsgnS rfl rfl | exact rAsgn rfl) ?_
  refine WL_val rfl rfl rfl (by first | exact rAsgnN rfl rfl | exact rAsgnE rfl rfl | exact rAsgn rfl) ?_
  refine WL_nil ?_
  by_cases hok : OkClk l
  rotate_left
  · refine W_seq ?_
    refine W_region ?_
    refine WL_val rfl rfl rfl (by first | exact rMoveS rfl rfl | exact rMove rfl) ?_
    refine WL_call rfl rfl rfl (rCall (vs := [.slice _ _ _]) rfl Tryd.func15 rfl rfl rfl) ?_
    refine (senders_any A n c l D _ h hg).mono ?_
    rintro e w1 ⟨⟨hok', _⟩ | ⟨_, e', m, rfl, hE, _⟩, hp⟩
    · exact absurd hok' hok
    obtain ⟨t, u, rfl⟩ := hE.form
    refine ⟨_, rfl, ?_⟩
    replace hI := hI.pure hp
    refine WL_val rfl rfl rfl (by first | exact rMoveT rfl rfl | exact rMove rfl) ?_
    refine WL_val rfl rfl rfl (rExtr rfl rfl rfl) ?_
    refine WL_val rfl rfl rfl (rExtr rfl rfl rfl) ?_
    refine WL_val rfl rfl rfl (by first | exact rAsgnS rfl rfl | exact rAsgn rfl) ?_
    refine WL_val rfl rfl rfl (by first | exact rAsgnN rfl rfl | exact rAsgnE rfl rfl | exact rAsgn rfl) ?_
    refine WL_nil ?_
    refine W_seq ?_
    refine W_seq ?_
    refine W_region ?_
    refine WL_val rfl rfl rfl (by first | exact rMoveN rfl rfl | exact rMoveE rfl rfl | exact rMove rfl) ?_
    refine WL_val rfl rfl rfl (by first | exact rIfaceNe rfl Tryd.underlying25 rfl rfl | exact rNilNe rfl Tryd.underlying25 rfl) ?_
    refine WL_nil ?_
    refine W_cond true rfl ?_
    refine W_seq ?_
    refine W_region ?_
    refine WL_val rfl rfl rfl (by first | exact rMoveN rfl rfl | exact rMoveE rfl rfl | exact rMove rfl) ?_
    refine WL_val rfl rfl rfl (by first | exact rAsgnS rfl rfl | exact rAsgn rfl) ?_
    refine WL_val rfl rfl rfl (by first | exact rAsgnN rfl rfl | exact rAsgnE rfl rfl | exact rAsgn rfl) ?_
    refine WL_nil ?_
    refine W_ret ?_
    exact ret2 2 3 (.inr rfl) rfl ⟨.inr ⟨hok, _, m, rfl, hE⟩, hI.pu⟩
  have h40 : n ≤ 40 := by have := hok.1; omega
  refine W_seq ?_
  refine W_region ?_
  refine WL_val rfl rfl rfl (by first | exact rMoveS rfl rfl | exact rMove rfl) ?_
  refine WL_call rfl rfl rfl (rCall (vs := [.slice _ _ _]) rfl Tryd.func15 rfl rfl rfl) ?_
  refine (senders_any A n c l D _ h hg).mono ?_
  rintro e w1 ⟨⟨_, Af, cf, rfl, hown⟩ | ⟨hbad, _⟩, hp⟩
  rotate_left
  · exact absurd hok hbad
  rw [← hn] at hown
  refine ⟨.tuple #[.slice Af n cf, .nilIface], by rw [hn], ?_⟩
  replace hI := hI.freshR hp hown
  refine WL_val rfl rfl rfl (by first | exact rMoveT rfl rfl | exact rMove rfl) ?_
  refine WL_val rfl rfl rfl (rExtr rfl rfl rfl) ?_
  refine WL_val rfl rfl rfl (rExtr rfl rfl rfl) ?_
  refine WL_val rfl rfl rfl (by first | exact rAsgnS rfl rfl | exact rAsgn rfl) ?_
  refine WL_val rfl rfl rfl (by first | exact rAsgnN rfl rfl | exact rAsgnE rfl rfl | exact rAsgn rfl) ?_
  refine WL_nil ?_
  refine W_seq ?_
  refine W_seq ?_
  refine W_region ?_
  refine WL_val rfl rfl rfl (by first | exact rMoveN rfl rfl | exact rMoveE rfl rfl | exact rMove rfl) ?_
  refine WL_val rfl rfl rfl (by first | exact rIfaceNe rfl Tryd.underlying25 rfl rfl | exact rNilNe rfl Tryd.underlying25 rfl) ?_
  refine WL_nil ?_
  refine W_cond false rfl ?_
  refine W_skip ?_
  refine W_seq ?_
  refine W_region ?_
  refine WL_alloc (u := .agg #[.int .i64 0, .int .i64 0, .int .i64 0, .int .i64 0, .int .i64 0, .int .i64 0, .int .i64 0, .int .i64 0]) (vs := #[.int .i64 0, .int .i64 0, .int .i64 0, .int .i64 0, .int .i64 0, .int .i64 0, .int .i64 0, .int .i64 0]) hI rfl rfl rfl rfl (by kernel_rfl) rfl ?_
  clear hI; rintro b6 w - - hI
  refine WL_nil ?_
  refine W_seq ?_
  refine W_region ?_
  refine WL_val rfl rfl rfl (by first | exact rMoveS rfl rfl | exact rMove rfl) ?_
  refine WL_val rfl rfl rfl (rLen rfl Tryd.underlying22 rfl) ?_
  refine WL_mk (by_ := 8) (z := .int .i64 0) hI rfl rfl rfl rfl rfl rfl Tryd.underlying28 (by kernel_rfl) rfl (by omega) (by omega) ?_
  clear hI; rintro b21 w - - hI
  refine WL_val rfl rfl rfl (by first | exact rAsgnS rfl rfl | exact rAsgn rfl) ?_
  refine WL_nil ?_
  refine W_seq ?_
  refine W_seq ?_
  refine W_region ?_
  refine WL_val rfl rfl rfl (by first | exact rMoveS rfl rfl | exact rMove rfl) ?_
  refine WL_val rfl rfl rfl (rLen rfl Tryd.underlying22 rfl) ?_
  refine WL_val rfl rfl rfl (by first | exact rMoveI rfl rfl | exact rMove rfl) ?_
  refine WL_nil ?_
  rw [numC_zero] at hI
  have hob : w0.heap.size ≤ b21 := (hI.own _ (List.mem_of_getElem? (i := 0) rfl) b21 rfl).resolve_left (fun h => h)
  refine W_block ?_
  refine W_loop (fun ρ w => ∃ k : Nat, k ≤ n ∧ Has ρ [(24, .int .i64 (k : Int)), (23, .int .i64 (n : Int)), (22, .slice A n c), (4, .slice Af n cf), (6, .pointer (some ⟨b6, 0, none⟩)), (7, .slice (some ⟨b21, 0, none⟩) n n)] ∧ Inv (fun _ => False) w0 w [B b21 3 (numC n (tTo (prc l) (fromF l) k).2), B b6 36 (numC 8 (tTo (prc l) (fromF l) k).1), Row 0 3 1 Af n cf (fromsV l n)]) (fun ρ _ => n - cnt (ρ 24))
    ⟨0, by omega, ⟨rfl, rfl, rfl, rfl, rfl, rfl, trivial⟩, hI⟩ ?_
  clear hI
  rintro ρ w ⟨k, hk, hH, hI⟩
  obtain ⟨σ, rfl⟩ := hH.open
  by_cases hkn : k < n
  rotate_left
  · obtain rfl : k = n := by omega
    refine W_seq ?_
    refine W_region ?_
    refine WL_val rfl rfl rfl (by first | exact rLssT rfl rfl rfl (by omega) | exact rLssF rfl rfl rfl (by omega) | exact rLss rfl rfl rfl) ?_
    refine WL_nil ?_
    refine W_seq ?_
    refine W_cond false rfl ?_
    refine W_exit ?_
    refine W_seq ?_
    refine W_region ?_
    refine WL_val rfl rfl rfl (by first | exact rMoveS rfl rfl | exact rMove rfl) ?_
    refine WL_val rfl rfl rfl (by first | exact rAsgnS rfl rfl | exact rAsgn rfl) ?_
    refine WL_val rfl rfl rfl (by first | exact rAsgnN rfl rfl | exact rAsgnE rfl rfl | exact rAsgn rfl) ?_
    refine WL_nil ?_
    refine W_ret ?_
    refine ret2 2 3 (.inr rfl) rfl ⟨.inl ⟨hok, b21, by rw [← hn]; rfl, ?_, hob⟩, hI.pu⟩
    have := hI.ok _ (List.mem_of_getElem? (i := 0) rfl)
    rw [numC_congr (fun i hi => out_time hi)] at this
    rw [← hn]; exact this
  obtain ⟨bA, oA, rfl, q0, q1, q2⟩ := h.at (show k < l.length by omega)
  obtain ⟨fb, fo, rfl⟩ := row_addr hI.g2 (by omega)
  have hcn := ckE_none (hok.2 k (by omega))
  obtain ⟨pn, hpn⟩ : ∃ pn : Nat, (cAt l k).proc = (pn : Int) := ⟨(cAt l k).proc.toNat, by omega⟩
  have hpn8 : pn < 8 := by omega
  have hpt : prc l k = pn := by show (cAt l k).proc.toNat = pn; omega
  have g1 := numC_get (n := 8) (tTo (prc l) (fromF l) k).1 hpn8
  have e1 := froms_at (l := l) hkn
  have hb := t_le (p := prc l) (fr := fromF l) k
  have hb1 := hb.1 pn
  refine W_seq ?_
  refine W_region ?_
  refine WL_val rfl rfl rfl (by first | exact rLssT rfl rfl rfl (by omega) | exact rLssF rfl rfl rfl (by omega) | exact rLss rfl rfl rfl) ?_
  refine WL_nil ?_
  refine W_seq ?_
  refine W_cond true rfl ?_
  refine W_skip ?_
  refine W_seq ?_
  refine W_block ?_
  refine W_seq ?_
  refine W_region ?_
  refine WL_val rfl rfl rfl (by first | exact rMoveI rfl rfl | exact rMove rfl) ?_
  refine WL_val rfl rfl rfl (rIdx (sz := 3) rfl Tryd.underlying22 (by kernel_rfl) rfl rfl (by omega)) ?_
  refine WL_val rfl rfl rfl (by first | exact rLdB (n := 3) rfl (by kernel_rfl) (by kernel_rfl) rfl rfl hI.g0 | exact rLd3 rfl (by kernel_rfl) (by kernel_rfl) rfl (by first | exact hI.c0 rfl | exact hI.oldp q0 | exact q0 | exact hI.oldp q1 | exact q1 | exact hI.oldp q2 | exact q2) (by first | exact hI.c0 rfl | exact hI.oldp q0 | exact q0 | exact hI.oldp q1 | exact q1 | exact hI.oldp q2 | exact q2) (by first | exact hI.c0 rfl | exact hI.oldp q0 | exact q0 | exact hI.oldp q1 | exact q1 | exact hI.oldp q2 | exact q2)) ?_
  refine WL_alloc (u := .agg #[.int .i64 0, .int .i64 0, .int .i64 0]) (vs := #[.int .i64 0, .int .i64 0, .int .i64 0]) hI rfl rfl rfl rfl (by kernel_rfl) rfl ?_
  clear hI; rintro b9 w - - hI
  refine WL_val rfl rfl rfl (by first | exact rAsgnI rfl rfl | exact rAsgn rfl) ?_
  first | refine WL_stw0 (u := .agg _) (vs := #[_, _, _]) (n := 3) hI rfl rfl rfl rfl rfl rfl (by kernel_rfl) rfl rfl rfl ?_
  clear hI; intro w hI
  refine WL_nil ?_
  refine W_seq ?_
  refine W_region ?_
  refine WL_val rfl rfl rfl (by first | exact rFldN (off := 0) rfl (by kernel_rfl) rfl | exact rFld0 rfl (by kernel_rfl) rfl) ?_
  refine WL_val rfl rfl rfl (by first | exact rLd (v := .int .i64 _) rfl (by kernel_rfl) rfl (by first | exact hI.c0 rfl | exact (at_mul (hI.c2 g1))) | exact rLd rfl (by kernel_rfl) rfl (by first | exact hI.c0 rfl | exact (at_mul (hI.c2 g1)))) ?_
  refine WL_val rfl rfl rfl (rIdxArr (sz := 1) (i := pn) rfl Tryd.underlying36 (by kernel_rfl) rfl rfl hpn hpn8) ?_
  refine WL_val rfl rfl rfl (by first | exact rLd (v := .int .i64 _) rfl (by kernel_rfl) rfl (by first | exact hI.c0 rfl | exact (at_mul (hI.c2 g1))) | exact rLd rfl (by kernel_rfl) rfl (by first | exact hI.c0 rfl | exact (at_mul (hI.c2 g1)))) ?_
  refine WL_val rfl rfl rfl (by first | exact rAsgnI rfl rfl | exact rAsgn rfl) ?_
  refine WL_nil ?_
  cases hf : fromF l k with
  | none =>
      rw [hf] at e1
      refine W_seq ?_
      refine W_seq ?_
      refine W_region ?_
      refine WL_val rfl rfl rfl (by first | exact rMoveS rfl rfl | exact rMove rfl) ?_
      refine WL_val rfl rfl rfl (by first | exact rMoveI rfl rfl | exact rMove rfl) ?_
      refine WL_val rfl rfl rfl (by first | exact rIdx0 rfl Tryd.underlying28 (by kernel_rfl) rfl rfl rfl (by omega) | exact rIdx1 rfl Tryd.underlying28 (by kernel_rfl) rfl rfl (by omega)) ?_
      refine WL_val rfl rfl rfl (by first | exact rLd (v := .int .i64 _) rfl (by kernel_rfl) rfl (by first | exact (row_cell hI.g3 e1)) | exact rLd rfl (by kernel_rfl) rfl (by first | exact (row_cell hI.g3 e1))) ?_
      refine WL_val rfl rfl rfl (rGeqF (a := -1) rfl rfl rfl (by omega)) ?_
      refine WL_nil ?_
      refine W_cond false rfl ?_
      refine W_skip ?_
      refine W_draw (by kernel_rfl) ?_
      refine WA_inv (T := [11]) hI.d1.d1.drew ?_
      intro Sx hSx hXS
      replace hI := hI.drew
      refine WT_take 0 rfl rfl (by kernel_rfl) (hXS _ hI.d1.d1) rfl (fun W hW => have hI := hSx W hW; (by first | exact rMoveS rfl rfl | exact rMove rfl)) ?_
      refine WT_take 1 rfl rfl (by kernel_rfl) (hXS _ hI.d1.d1) rfl (fun W hW => have hI := hSx W hW; (by first | exact rMoveI rfl rfl | exact rMove rfl)) ?_
      refine WT_take 2 rfl rfl (by kernel_rfl) (hXS _ hI.d1.d1) rfl (fun W hW => have hI := hSx W hW; (by first | exact rFldN (off := 0) rfl (by kernel_rfl) rfl | exact rFld0 rfl (by kernel_rfl) rfl)) ?_
      refine WT_take 3 rfl rfl (by kernel_rfl) (hXS _ hI.d1.d1) rfl (fun W hW => have hI := hSx W hW; (by first | exact rLd (v := .int .i64 _) rfl (by kernel_rfl) rfl (by first | exact hI.c0 rfl) | exact rLd rfl (by kernel_rfl) rfl (by first | exact hI.c0 rfl))) ?_
      refine WT_take 4 rfl rfl (by kernel_rfl) (hXS _ hI.d1.d1) rfl (fun W hW => have hI := hSx W hW; (by first | exact rMoveI rfl rfl | exact rMove rfl)) ?_
      refine WT_take 5 rfl rfl (by kernel_rfl) (hXS _ hI.d1.d1) rfl (fun W hW => have hI := hSx W hW; (by first | exact rInc rfl rfl rfl (by omega) | exact rAdd rfl rfl rfl (by omega) | exact rAddW rfl rfl rfl)) ?_
      refine WT_take 6 rfl rfl (by kernel_rfl) (hXS _ hI.d1.d1) rfl (fun W hW => have hI := hSx W hW; (by first | exact rMoveI rfl rfl | exact rMove rfl)) ?_
      refine WT_take 7 rfl rfl (by kernel_rfl) (hXS _ hI.d1.d1) rfl (fun W hW => have hI := hSx W hW; (by first | exact rInc rfl rfl rfl (by omega) | exact rAdd rfl rfl rfl (by omega) | exact rAddW rfl rfl rfl)) ?_
      refine WT_take 8 rfl rfl (by kernel_rfl) (hXS _ hI.d1.d1) rfl (fun W hW => have hI := hSx W hW; (by first | exact rIdx0 rfl Tryd.underlying28 (by kernel_rfl) rfl rfl rfl (by omega) | exact rIdx1 rfl Tryd.underlying28 (by kernel_rfl) rfl rfl (by omega))) ?_
      refine WT_one 9 rfl (by kernel_rfl) rfl ?_
      refine WL_st1 (u := .int .i64 _) (j := k) hI rfl rfl rfl rfl rfl rfl (by kernel_rfl) rfl (by simp [Nat.blt, numC]; omega) rfl ?_
      rw [numC_set]
      clear hI; intro w hI
      refine WL_nil ⟨hXS _ hI.d1.d1, ?_⟩
      refine WT_take 10 rfl rfl (by kernel_rfl) (hXS _ hI.d1.d1) rfl (fun W hW => have hI := hSx W hW; (rIdxArr (sz := 1) (i := pn) rfl Tryd.underlying36 (by kernel_rfl) rfl rfl hpn hpn8)) ?_
      refine WT_A (by kernel_rfl) ?_
      clear hXS hSx
      refine WA_one 11 rfl (by kernel_rfl) ?_
      refine WL_st2 (u := .int .i64 _) (j := 0 + pn * 1) hI rfl rfl rfl rfl rfl rfl (by kernel_rfl) rfl (by simp [Nat.blt, numC]; omega) rfl ?_
      rw [Nat.zero_add, Nat.mul_one, numC_set]
      clear hI; intro w hI
      refine WL_nil ?_
      refine WA_end (by kernel_rfl) ?_
      replace hI := hI.d0
      refine W_region ?_
      refine WL_val rfl rfl rfl (by first | exact rInc rfl rfl rfl (by omega) | exact rAdd rfl rfl rfl (by omega) | exact rAddW rfl rfl rfl) ?_
      refine WL_val rfl rfl rfl (by first | exact rMoveI rfl rfl | exact rMove rfl) ?_
      refine WL_nil ?_
      refine ⟨⟨k + 1, by omega, ⟨rfl, rfl, rfl, rfl, rfl, rfl, trivial⟩, ?_⟩, by show n - ((k + 1 : Nat) : Int).toNat < n - (k : Int).toNat; omega⟩
      have ht : tTo (prc l) (fromF l) (k + 1) = (fun r => if r = pn then (tTo (prc l) (fromF l) k).1 pn + 1 else (tTo (prc l) (fromF l) k).1 r, fun i => if i = k then (tTo (prc l) (fromF l) k).1 pn + 1 else (tTo (prc l) (fromF l) k).2 i) := by
        rw [tTo]; unfold tNew; simp only [hf, hpt]; simp
      rw [ht]
      exact hI
  | some m =>
      have hmk := from_lt hf
      rw [hf] at e1
      have g2 := numC_get (n := n) (tTo (prc l) (fromF l) k).2 (show m < n by omega)
      have hb2 := hb.2 m
      refine W_seq ?_
      refine W_seq ?_
      refine W_region ?_
      refine WL_val rfl rfl rfl (by first | exact rMoveS rfl rfl | exact rMove rfl) ?_
      refine WL_val rfl rfl rfl (by first | exact rMoveI rfl rfl | exact rMove rfl) ?_
      refine WL_val rfl rfl rfl (by first | exact rIdx0 rfl Tryd.underlying28 (by kernel_rfl) rfl rfl rfl (by omega) | exact rIdx1 rfl Tryd.underlying28 (by kernel_rfl) rfl rfl (by omega)) ?_
      refine WL_val rfl rfl rfl (by first | exact rLd (v := .int .i64 _) rfl (by kernel_rfl) rfl (by first | exact (row_cell hI.g3 e1)) | exact rLd rfl (by kernel_rfl) rfl (by first | exact (row_cell hI.g3 e1))) ?_
      refine WL_val rfl rfl rfl (rGeqT (a := ((m : Nat) : Int)) rfl rfl rfl (by omega)) ?_
      refine WL_nil ?_
      refine W_cond true rfl ?_
      refine W_region ?_
      refine WL_val rfl rfl rfl (by first | exact rMoveI rfl rfl | exact rMove rfl) ?_
      refine WL_val rfl rfl rfl (by first | exact rMoveS rfl rfl | exact rMove rfl) ?_
      refine WL_val rfl rfl rfl (by first | exact rMoveS rfl rfl | exact rMove rfl) ?_
      refine WL_val rfl rfl rfl (by first | exact rMoveI rfl rfl | exact rMove rfl) ?_
      refine WL_val rfl rfl rfl (by first | exact rIdx0 rfl Tryd.underlying28 (by kernel_rfl) rfl rfl rfl (by omega) | exact rIdx1 rfl Tryd.underlying28 (by kernel_rfl) rfl rfl (by omega)) ?_
      refine WL_val rfl rfl rfl (by first | exact rLd (v := .int .i64 _) rfl (by kernel_rfl) rfl (by first | exact (row_cell hI.g3 e1) | exact (hI.c1 g2)) | exact rLd rfl (by kernel_rfl) rfl (by first | exact (row_cell hI.g3 e1) | exact (hI.c1 g2))) ?_
      refine WL_val rfl rfl rfl (rIdx0 (i := m) rfl Tryd.underlying28 (by kernel_rfl) rfl rfl rfl (by omega)) ?_
      refine WL_val rfl rfl rfl (by first | exact rLd (v := .int .i64 _) rfl (by kernel_rfl) rfl (by first | exact (row_cell hI.g3 e1) | exact (hI.c1 g2)) | exact rLd rfl (by kernel_rfl) rfl (by first | exact (row_cell hI.g3 e1) | exact (hI.c1 g2))) ?_
      refine WL_val rfl rfl rfl (rMaxN rfl rfl rfl) ?_
      refine WL_val rfl rfl rfl (by first | exact rAsgnI rfl rfl | exact rAsgn rfl) ?_
      refine WL_nil ?_
      refine W_draw (by kernel_rfl) ?_
      refine WA_inv (T := [11]) hI.d1.d1.drew ?_
      intro Sx hSx hXS
      replace hI := hI.drew
      refine WT_take 0 rfl rfl (by kernel_rfl) (hXS _ hI.d1.d1) rfl (fun W hW => have hI := hSx W hW; (by first | exact rMoveS rfl rfl | exact rMove rfl)) ?_
      refine WT_take 1 rfl rfl (by kernel_rfl) (hXS _ hI.d1.d1) rfl (fun W hW => have hI := hSx W hW; (by first | exact rMoveI rfl rfl | exact rMove rfl)) ?_
      refine WT_take 2 rfl rfl (by kernel_rfl) (hXS _ hI.d1.d1) rfl (fun W hW => have hI := hSx W hW; (by first | exact rFldN (off := 0) rfl (by kernel_rfl) rfl | exact rFld0 rfl (by kernel_rfl) rfl)) ?_
      refine WT_take 3 rfl rfl (by kernel_rfl) (hXS _ hI.d1.d1) rfl (fun W hW => have hI := hSx W hW; (by first | exact rLd (v := .int .i64 _) rfl (by kernel_rfl) rfl (by first | exact hI.c0 rfl) | exact rLd rfl (by kernel_rfl) rfl (by first | exact hI.c0 rfl))) ?_
      refine WT_take 4 rfl rfl (by kernel_rfl) (hXS _ hI.d1.d1) rfl (fun W hW => have hI := hSx W hW; (by first | exact rMoveI rfl rfl | exact rMove rfl)) ?_
      refine WT_take 5 rfl rfl (by kernel_rfl) (hXS _ hI.d1.d1) rfl (fun W hW => have hI := hSx W hW; (by first | exact rInc rfl rfl rfl (by omega) | exact rAdd rfl rfl rfl (by omega) | exact rAddW rfl rfl rfl)) ?_
      refine WT_take 6 rfl rfl (by kernel_rfl) (hXS _ hI.d1.d1) rfl (fun W hW => have hI := hSx W hW; (by first | exact rMoveI rfl rfl | exact rMove rfl)) ?_
      refine WT_take 7 rfl rfl (by kernel_rfl) (hXS _ hI.d1.d1) rfl (fun W hW => have hI := hSx W hW; (by first | exact rInc rfl rfl rfl (by omega) | exact rAdd rfl rfl rfl (by omega) | exact rAddW rfl rfl rfl)) ?_
      refine WT_take 8 rfl rfl (by kernel_rfl) (hXS _ hI.d1.d1) rfl (fun W hW => have hI := hSx W hW; (by first | exact rIdx0 rfl Tryd.underlying28 (by kernel_rfl) rfl rfl rfl (by omega) | exact rIdx1 rfl Tryd.underlying28 (by kernel_rfl) rfl rfl (by omega))) ?_
      refine WT_one 9 rfl (by kernel_rfl) rfl ?_
      refine WL_st1 (u := .int .i64 _) (j := k) hI rfl rfl rfl rfl rfl rfl (by kernel_rfl) rfl (by simp [Nat.blt, numC]; omega) rfl ?_
      rw [numC_set]
      clear hI; intro w hI
      refine WL_nil ⟨hXS _ hI.d1.d1, ?_⟩
      refine WT_take 10 rfl rfl (by kernel_rfl) (hXS _ hI.d1.d1) rfl (fun W hW => have hI := hSx W hW; (rIdxArr (sz := 1) (i := pn) rfl Tryd.underlying36 (by kernel_rfl) rfl rfl hpn hpn8)) ?_
      refine WT_A (by kernel_rfl) ?_
      clear hXS hSx
      refine WA_one 11 rfl (by kernel_rfl) ?_
      refine WL_st2 (u := .int .i64 _) (j := 0 + pn * 1) hI rfl rfl rfl rfl rfl rfl (by kernel_rfl) rfl (by simp [Nat.blt, numC]; omega) rfl ?_
      rw [Nat.zero_add, Nat.mul_one, numC_set]
      clear hI; intro w hI
      refine WL_nil ?_
      refine WA_end (by kernel_rfl) ?_
      replace hI := hI.d0
      refine W_region ?_
      refine WL_val rfl rfl rfl (by first | exact rInc rfl rfl rfl (by omega) | exact rAdd rfl rfl rfl (by omega) | exact rAddW rfl rfl rfl) ?_
      refine WL_val rfl rfl rfl (by first | exact rMoveI rfl rfl | exact rMove rfl) ?_
      refine WL_nil ?_
      refine ⟨⟨k + 1, by omega, ⟨rfl, rfl, rfl, rfl, rfl, rfl, trivial⟩, ?_⟩, by show n - ((k + 1 : Nat) : Int).toNat < n - (k : Int).toNat; omega⟩
      have ht : tTo (prc l) (fromF l) (k + 1) = (fun r => if r = pn then max ((tTo (prc l) (fromF l) k).1 pn) ((tTo (prc l) (fromF l) k).2 m) + 1 else (tTo (prc l) (fromF l) k).1 r, fun i => if i = k then max ((tTo (prc l) (fromF l) k).1 pn) ((tTo (prc l) (fromF l) k).2 m) + 1 else (tTo (prc l) (fromF l) k).2 i) := by
        rw [tTo]; unfold tNew; simp only [hf, hpt]
      rw [ht]
      exact hI
end Go.Proofs.YtajbhabkhgpcfaaDoor
