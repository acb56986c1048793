/- mvcc: commit. -/
import Derived.Test.YtlnjmkldpicpdaaDoorMvc8
namespace Go.Proofs.YtlnjmkldpicpdaaDoor
open Go.RowKit
set_option linter.unusedVariables false
set_option linter.unusedSimpArgs false
set_option maxHeartbeats 4000000 in
theorem commit_any (b T cT : Nat) (A : Nat → Option Addr) (ca : Nat → Nat) (O : Nat → Option Addr) (co : Nat → Nat) (rest : List Value) (i : Nat) (s : Bs) (S : Nat → Prop) (w0 : World) (hI : Inv S w0 w0 (bpt b T cT A ca O co rest s))
    (hw : Wf s cT) (hi : i < s.txs.length) (ht : ∀ k, ((bOrd s k).length : Int) + 1 ≤ s.time) (htm : s.time ≤ 10000) :
    Calls Tryd.prog 37 #[.pointer (some ⟨b, 0, none⟩), .int .i64 (i : Int)] w0 fun en w' => (∃ O' co', Inv S w0 w' (bpt b T cT A ca O' co' rest (commitF s i).1)) ∧ en = .returned (if (commitF s i).2 then .nilIface else .iface 59 (.int .i64 12)) := by
  have hlen := hw.tlen
  obtain ⟨s1, hs1⟩ : ∃ s1, setTx s i (overT (txAt s i)) = s1 := ⟨_, rfl⟩
  have hw1 : Wf s1 cT := by rw [← hs1]; exact hw.setTx hi (hw.ops i)
  have hi1 : i < s1.txs.length := by rw [← hs1, setTx_len]; exact hi
  have ho1 : ∀ k, bOrd s1 k = bOrd s k := fun k => by rw [← hs1]; rfl
  have hcar : s1.careful = s.careful := by rw [← hs1]; rfl
  have htime : s1.time = s.time := by rw [← hs1]; rfl
  have e1 := bpt_setTx (b := b) (T := T) (cT := cT) (A := A) (ca := ca) (O := O) (co := co) (rest := rest) (t := overT (txAt s i)) (v := .bool true) (j := 3) hi (by omega) rfl rfl
  rw [hs1] at e1
  have hF : commitF s i = if beatenF s1 i then (s1, false) else if s.careful && roundF (setTx s1 i (comT (txAt s1 i) s.time)) i then (setTx (setTx s1 i (comT (txAt s1 i) s.time)) i (comT (txAt (setTx s1 i (comT (txAt s1 i) s.time)) i) (-1)), false) else (ordTo (setTx s1 i (comT (txAt s1 i) s.time)) i 8, true) := by
    rw [← hs1]; rfl
  change Inv S w0 w0 [B b 64 (baseC s.careful (.slice (some ⟨T, 0, none⟩) s.txs.length cT) (fun k => .slice (O k) (bOrd s k).length (co k)) s.time), B T 67 ((vsF s A ca).flatMap mxV ++ rest).toArray, Many s.txs.length (opRow s A ca), Many 8 (ordRow s O co)] at hI
  refine calls_of_W (N := Tryd.f37.ntmps) Tryd.func37 rfl rfl rfl ?_
  refine W_seq ?_
  refine W_region ?_
  refine WL_val rfl rfl rfl (by first | exact rAsgnN rfl rfl | exact rAsgnE rfl rfl | exact rAsgn rfl) ?_
  refine WL_nil ?_
  refine W_seq ?_
  refine W_region ?_
  refine WL_val rfl rfl rfl (by first | exact rMoveP rfl rfl | exact rMove rfl) ?_
  refine WL_val rfl rfl rfl (rNilChk rfl rfl) ?_
  refine WL_val rfl rfl rfl (by first | exact rFldN (off := 1) rfl (by kernel_rfl) rfl | exact rFld (off := 1) rfl (by kernel_rfl) rfl) ?_
  refine WL_val rfl rfl rfl (by first | exact rLd (v := .slice _ _ _) rfl (by kernel_rfl) rfl (by first | exact hI.c0 rfl | exact hI.c1 rfl) | exact rLd rfl (by kernel_rfl) rfl (by first | exact hI.c0 rfl | exact hI.c1 rfl)) ?_
  refine WL_val rfl rfl rfl (by first | exact rMoveI rfl rfl | exact rMove rfl) ?_
  refine WL_val rfl rfl rfl (rIdx (sz := 4) rfl Tryd.underlying61 (by kernel_rfl) rfl rfl (by omega)) ?_
  refine WL_val rfl rfl rfl (by first | exact rAsgnP rfl rfl | exact rAsgn rfl) ?_
  refine WL_nil ?_
  refine W_seq ?_
  refine W_region ?_
  refine WL_val rfl rfl rfl (by first | exact rMoveP rfl rfl | exact rMove rfl) ?_
  refine WL_val rfl rfl rfl (rNilChk rfl rfl) ?_
  refine WL_val rfl rfl rfl (by first | exact rFldN (off := 3) rfl (by kernel_rfl) rfl | exact rFld (off := 3) rfl (by kernel_rfl) rfl) ?_
  refine WL_st1 (u := .bool true) (j := 0 + i * 4 + 3) hI rfl rfl rfl rfl rfl rfl (by kernel_rfl) rfl (cells_blt hi (by omega)) rfl ?_
  clear hI; intro w hI
  refine WL_nil ?_
  simp only [Nat.zero_add, List.set_cons_succ, List.set_cons_zero] at hI
  rw [← e1] at hI
  clear e1
  have hb1 := beaten_any b i s1 _ _ (bpt_at (H := []) (by rw [List.append_nil]; exact hI) hw1) hi1
  cases hbt : beatenF s1 i with
  | true =>
    rw [hbt] at hb1
    rw [hF, hbt]
    refine W_seq ?_
    refine W_seq ?_
    refine W_region ?_
    refine WL_val rfl rfl rfl (by first | exact rMoveP rfl rfl | exact rMove rfl) ?_
    refine WL_val rfl rfl rfl (by first | exact rMoveI rfl rfl | exact rMove rfl) ?_
    refine WL_call rfl rfl rfl (rCall (vs := [.pointer _, .int .i64 _]) rfl Tryd.func48 rfl rfl rfl) ?_
    refine hb1.mono ?_
    rintro e w1 ⟨rfl, hp⟩
    refine ⟨_, rfl, ?_⟩
    replace hI := hI.pure hp
    refine WL_nil ?_
    refine W_cond true rfl ?_
    refine W_seq ?_
    refine W_region ?_
    refine WL_val rfl rfl rfl (rIface rfl Tryd.underlying59 rfl rfl) ?_
    refine WL_val rfl rfl rfl (by first | exact rAsgnN rfl rfl | exact rAsgnE rfl rfl | exact rAsgn rfl) ?_
    refine WL_nil ?_
    refine W_ret ?_
    exact ret1 4 (.inr rfl) rfl ⟨⟨O, co, hI⟩, rfl⟩
  | false =>
    rw [hbt] at hb1 hF
    rw [if_neg (by simp)] at hF
    obtain ⟨s2, hs2⟩ : ∃ s2, setTx s1 i (comT (txAt s1 i) s.time) = s2 := ⟨_, rfl⟩
    rw [hs2] at hF
    have hw2 : Wf s2 cT := by rw [← hs2]; exact hw1.setTx hi1 (hw1.ops i)
    have hi2 : i < s2.txs.length := by rw [← hs2, setTx_len]; exact hi1
    have ho2 : ∀ k, bOrd s2 k = bOrd s k := fun k => by rw [← hs2]; exact ho1 k
    have htime2 : s2.time = s.time := by rw [← hs2]; exact htime
    have hcar2 : s2.careful = s.careful := by rw [← hs2]; exact hcar
    have e2 := bpt_setTx (b := b) (T := T) (cT := cT) (A := A) (ca := ca) (O := O) (co := co) (rest := rest) (t := comT (txAt s1 i) s.time) (v := .int .i64 s.time) (j := 2) hi1 (by omega) rfl rfl
    rw [hs2] at e2
    refine W_seq ?_
    refine W_seq ?_
    refine W_region ?_
    refine WL_val rfl rfl rfl (by first | exact rMoveP rfl rfl | exact rMove rfl) ?_
    refine WL_val rfl rfl rfl (by first | exact rMoveI rfl rfl | exact rMove rfl) ?_
    refine WL_call rfl rfl rfl (rCall (vs := [.pointer _, .int .i64 _]) rfl Tryd.func48 rfl rfl rfl) ?_
    refine hb1.mono ?_
    rintro e w1 ⟨rfl, hp⟩
    refine ⟨_, rfl, ?_⟩
    replace hI := hI.pure hp
    refine WL_nil ?_
    refine W_cond false rfl ?_
    refine W_skip ?_
    unfold bpt at hI
    rw [htime] at hI e2
    refine W_seq ?_
    refine W_region ?_
    refine WL_val rfl rfl rfl (by first | exact rMoveP rfl rfl | exact rMove rfl) ?_
    refine WL_val rfl rfl rfl (by first | exact rMoveP rfl rfl | exact rMove rfl) ?_
    refine WL_val rfl rfl rfl (rNilChk rfl rfl) ?_
    refine WL_val rfl rfl rfl (by first | exact rFldN (off := 10) rfl (by kernel_rfl) rfl | exact rFld (off := 10) rfl (by kernel_rfl) rfl) ?_
    refine WL_val rfl rfl rfl (by first | exact rLd (v := .int .i64 _) rfl (by kernel_rfl) rfl (by first | exact hI.c0 rfl | exact hI.c1 rfl) | exact rLd rfl (by kernel_rfl) rfl (by first | exact hI.c0 rfl | exact hI.c1 rfl)) ?_
    refine WL_val rfl rfl rfl (rNilChk rfl rfl) ?_
    refine WL_val rfl rfl rfl (by first | exact rFldN (off := 2) rfl (by kernel_rfl) rfl | exact rFld (off := 2) rfl (by kernel_rfl) rfl) ?_
    refine WL_st1 (u := .int .i64 s.time) (j := 0 + i * 4 + 2) hI rfl rfl rfl rfl rfl rfl (by kernel_rfl) rfl (cells_blt hi1 (by omega)) rfl ?_
    clear hI; intro w hI
    refine WL_nil ?_
    simp only [Nat.zero_add, List.set_cons_succ, List.set_cons_zero] at hI
    rw [← e2] at hI
    clear e2
    have hr2 := round_any b i s2 _ _ (bpt_at (H := []) (by rw [List.append_nil]; exact hI) hw2) hi2
    refine W_seq ?_
    refine W_seq_cut (fun ρ w => Has ρ [(0, .pointer (some ⟨b, 0, none⟩)), (1, .int .i64 (i : Int)), (5, .pointer (some ⟨T, 0 + i * 4, none⟩)), (35, .bool (s.careful && roundF s2 i))] ∧ Inv S w0 w (bpt b T cT A ca O co rest s2)) ?_ ?_
    · unfold bpt at hI ⊢
      rw [hcar2] at hI ⊢
      cases hcr : s.careful with
      | false =>
        rw [hcr] at hI
        refine W_region ?_
        refine WL_val rfl rfl rfl (by first | exact rMoveP rfl rfl | exact rMove rfl) ?_
        refine WL_val rfl rfl rfl (rNilChk rfl rfl) ?_
        refine WL_val rfl rfl rfl (by first | exact rFldN (off := 0) rfl (by kernel_rfl) rfl | exact rFld0 rfl (by kernel_rfl) rfl) ?_
        refine WL_val rfl rfl rfl (by first | exact rLd (v := .bool _) rfl (by kernel_rfl) rfl (by first | exact hI.c0 rfl) | exact rLd rfl (by kernel_rfl) rfl (by first | exact hI.c0 rfl)) ?_
        refine WL_val rfl rfl rfl (by first | exact rMoveB rfl rfl | exact rMove rfl) ?_
        refine WL_skip rfl rfl rfl ?_
        refine WL_skip rfl rfl rfl ?_
        refine WL_skip rfl rfl rfl ?_
        refine WL_val rfl rfl rfl (by first | exact rPickTB rfl rfl rfl | exact rPickFB rfl rfl rfl | exact rPickB rfl rfl rfl rfl) ?_
        refine WL_nil ?_
        exact ⟨⟨rfl, rfl, rfl, rfl, trivial⟩, hI⟩
      | true =>
        rw [hcr] at hI
        refine W_region ?_
        refine WL_val rfl rfl rfl (by first | exact rMoveP rfl rfl | exact rMove rfl) ?_
        refine WL_val rfl rfl rfl (rNilChk rfl rfl) ?_
        refine WL_val rfl rfl rfl (by first | exact rFldN (off := 0) rfl (by kernel_rfl) rfl | exact rFld0 rfl (by kernel_rfl) rfl) ?_
        refine WL_val rfl rfl rfl (by first | exact rLd (v := .bool _) rfl (by kernel_rfl) rfl (by first | exact hI.c0 rfl) | exact rLd rfl (by kernel_rfl) rfl (by first | exact hI.c0 rfl)) ?_
        refine WL_val rfl rfl rfl (by first | exact rMoveB rfl rfl | exact rMove rfl) ?_
        first | refine WL_val rfl rfl rfl (by first | exact rMoveP rfl rfl | exact rMove rfl) ?_ | refine WL_skip rfl rfl rfl ?_
        first | refine WL_val rfl rfl rfl (by first | exact rMoveI rfl rfl | exact rMove rfl) ?_ | refine WL_skip rfl rfl rfl ?_
        refine WL_call rfl rfl rfl (rCall (vs := [.pointer _, .int .i64 _]) rfl Tryd.func49 rfl rfl rfl) ?_
        refine hr2.mono ?_
        rintro e w1 ⟨rfl, hp⟩
        refine ⟨_, rfl, ?_⟩
        replace hI := hI.pure hp
        refine WL_val rfl rfl rfl (by first | exact rPickTB rfl rfl rfl | exact rPickFB rfl rfl rfl | exact rPickB rfl rfl rfl rfl) ?_
        refine WL_nil ?_
        exact ⟨⟨rfl, rfl, rfl, rfl, trivial⟩, hI⟩
    clear hI hr2
    rintro ρ w ⟨hH, hI⟩
    obtain ⟨σ, rfl⟩ := hH.open
    cases hrd : (s.careful && roundF s2 i) with
    | true =>
      rw [hrd] at hF
      have e3 := bpt_setTx (b := b) (T := T) (cT := cT) (A := A) (ca := ca) (O := O) (co := co) (rest := rest) (t := comT (txAt s2 i) (-1)) (v := .int .i64 (-1)) (j := 2) hi2 (by omega) rfl rfl
      refine W_cond true rfl ?_
      unfold bpt at hI
      refine W_seq ?_
      refine W_region ?_
      refine WL_val rfl rfl rfl (by first | exact rMoveP rfl rfl | exact rMove rfl) ?_
      refine WL_val rfl rfl rfl (rNilChk rfl rfl) ?_
      refine WL_val rfl rfl rfl (by first | exact rFldN (off := 2) rfl (by kernel_rfl) rfl | exact rFld (off := 2) rfl (by kernel_rfl) rfl) ?_
      refine WL_st1 (u := .int .i64 (-1)) (j := 0 + i * 4 + 2) hI rfl rfl rfl rfl rfl rfl (by kernel_rfl) rfl (cells_blt hi2 (by omega)) rfl ?_
      clear hI; intro w hI
      refine WL_nil ?_
      simp only [Nat.zero_add, List.set_cons_succ, List.set_cons_zero] at hI
      rw [← e3] at hI
      refine W_seq ?_
      refine W_region ?_
      refine WL_val rfl rfl rfl (rIface rfl Tryd.underlying59 rfl rfl) ?_
      refine WL_val rfl rfl rfl (by first | exact rAsgnN rfl rfl | exact rAsgnE rfl rfl | exact rAsgn rfl) ?_
      refine WL_nil ?_
      refine W_ret ?_
      rw [hF]
      exact ret1 4 (.inr rfl) rfl ⟨⟨O, co, hI⟩, rfl⟩
    | false =>
      rw [hrd] at hF
      refine W_cond false rfl ?_
      refine W_skip ?_
      have hord : ∀ k, ((bOrd s2 k).length : Int) + 1 ≤ s2.time := fun k => by rw [ho2, htime2]; exact ht k
      refine W_seq ?_
      refine W_seq ?_
      refine W_region ?_
      refine WL_val rfl rfl rfl (by first | exact rMoveI rfl rfl | exact rMove rfl) ?_
      refine WL_nil ?_
      refine W_block ?_
      refine W_loop (fun ρ w => ∃ k O' co', k ≤ 8 ∧ Has ρ [(40, .int .i64 ((k : Nat) : Int)), (0, .pointer (some ⟨b, 0, none⟩)), (1, .int .i64 (i : Int)), (5, .pointer (some ⟨T, 0 + i * 4, none⟩))] ∧ Inv S w0 w (bpt b T cT A ca O' co' rest (ordTo s2 i k))) (fun ρ _ => 8 - cnt (ρ 40))
        ⟨0, O, co, by omega, ⟨rfl, rfl, rfl, rfl, trivial⟩, by rw [ordTo_zero hw2.olen]; exact hI⟩ ?_
      clear hI
      rintro ρ w ⟨k, O', co', hk, hH, hI⟩
      obtain ⟨σ, rfl⟩ := hH.open
      have hwk := hw2.ordTo hi2 hord k
      by_cases hk8 : k < 8
      · refine W_seq ?_
        refine W_region ?_
        refine WL_val rfl rfl rfl (by first | exact rLssT rfl rfl rfl (by omega) | exact rLssF rfl rfl rfl (by omega) | exact rLss rfl rfl rfl) ?_
        refine WL_nil ?_
        refine W_seq ?_
        refine W_cond true rfl ?_
        refine W_skip ?_
        refine W_seq ?_
        refine W_block ?_
        refine W_seq ?_
        refine W_region ?_
        refine WL_val rfl rfl rfl (by first | exact rMoveI rfl rfl | exact rMove rfl) ?_
        refine WL_val rfl rfl rfl (by first | exact rAsgnI rfl rfl | exact rAsgn rfl) ?_
        refine WL_nil ?_
        have hik : i < (ordTo s2 i k).txs.length := hi2
        have hrow : w.ownsRow 0 70 4 (.slice (A i) (txAt s2 i).ops.length (ca i)) (txAt s2 i).ops.length ((txAt s2 i).ops.flatMap opV) := hI.d0.d0.many_at hik
        have hops : Ops w (fun _ => True) (.slice (A i) (txAt s2 i).ops.length (ca i)) (txAt s2 i).ops := Rd.of_own hrow (fun _ _ _ => trivial)
        have q0 := hI.c1 (cells_get (j := 0) hik (by omega))
        have q1 := hI.c1 (cells_get (j := 1) hik (by omega))
        have q2 := hI.c1 (cells_get (j := 2) hik (by omega))
        have q3 := hI.c1 (cells_get (j := 3) hik (by omega))
        have hv9 := versF_le (txAt s2 i).ops (k : Int)
        have h60 := hw2.ops i
        by_cases hpos : 0 < versF (txAt s2 i).ops (k : Int)
        · refine W_seq ?_
          refine W_region ?_
          refine WL_val rfl rfl rfl (by first | exact rMoveP rfl rfl | exact rMove rfl) ?_
          refine WL_val rfl rfl rfl (rNilChk rfl rfl) ?_
          refine WL_val rfl rfl rfl (by first | exact rLd4 rfl (by kernel_rfl) (by kernel_rfl) rfl (by first | exact hI.oldp q0 | exact q0 | exact hI.oldp q1 | exact q1 | exact hI.oldp q2 | exact q2 | exact hI.oldp q3 | exact q3) (by first | exact hI.oldp q0 | exact q0 | exact hI.oldp q1 | exact q1 | exact hI.oldp q2 | exact q2 | exact hI.oldp q3 | exact q3) (by first | exact hI.oldp q0 | exact q0 | exact hI.oldp q1 | exact q1 | exact hI.oldp q2 | exact q2 | exact hI.oldp q3 | exact q3) (by first | exact hI.oldp q0 | exact q0 | exact hI.oldp q1 | exact q1 | exact hI.oldp q2 | exact q2 | exact hI.oldp q3 | exact q3)) ?_
          refine WL_val rfl rfl rfl (by first | exact rMoveI rfl rfl | exact rMove rfl) ?_
          refine WL_call rfl rfl rfl (rCall (vs := [.agg _, .int .i64 _]) rfl Tryd.func46 rfl rfl rfl) ?_
          refine (writes_any _ _ _ _ _ _ _ _ _ _ hops).mono ?_
          rintro e w1 ⟨rfl, hp⟩
          refine ⟨_, rfl, ?_⟩
          replace hI := hI.pure hp
          refine WL_val rfl rfl rfl (by first | exact rGtrT rfl rfl rfl (by omega) | exact rGtrF rfl rfl rfl (by omega) | exact rGtr rfl rfl rfl) ?_
          refine WL_nil ?_
          refine W_cond true rfl ?_
          have hgt : (baseC (ordTo s2 i k).careful (.slice (some ⟨T, 0, none⟩) (ordTo s2 i k).txs.length cT) (fun j => .slice (O' j) (bOrd (ordTo s2 i k) j).length (co' j)) (ordTo s2 i k).time)[2 + k * 1]? = some (.slice (O' k) (bOrd s2 k).length (co' k)) := by
            rw [Nat.mul_one, baseC_get _ _ _ _ hk8, ordTo_at hk8]
          have hlk := hord k
          unfold bpt at hI
          replace hI := hI.up3.many_out hk8
          unfold ordRow at hI
          rw [ordTo_at hk8] at hI
          refine W_draw (by kernel_rfl) ?_
          refine WA_inv (T := [14]) hI.d0.drew ?_
          intro Sx hSx hXS
          replace hI := hI.drew
          refine WT_take 0 rfl rfl (by kernel_rfl) (hXS _ hI.d0) rfl (fun W hW => have hI := hSx W hW; (by first | exact rMoveP rfl rfl | exact rMove rfl)) ?_
          refine WT_take 1 rfl rfl (by kernel_rfl) (hXS _ hI.d0) rfl (fun W hW => have hI := hSx W hW; (by first | exact rMoveI rfl rfl | exact rMove rfl)) ?_
          refine WT_take 2 rfl rfl (by kernel_rfl) (hXS _ hI.d0) rfl (fun W hW => have hI := hSx W hW; (by first | exact rMoveP rfl rfl | exact rMove rfl)) ?_
          refine WT_take 3 rfl rfl (by kernel_rfl) (hXS _ hI.d0) rfl (fun W hW => have hI := hSx W hW; (by first | exact rMoveI rfl rfl | exact rMove rfl)) ?_
          refine WT_take 4 rfl rfl (by kernel_rfl) (hXS _ hI.d0) rfl (fun W hW => have hI := hSx W hW; (rNilChk rfl rfl)) ?_
          refine WT_take 5 rfl rfl (by kernel_rfl) (hXS _ hI.d0) rfl (fun W hW => have hI := hSx W hW; (by first | exact rFldN (off := 2) rfl (by kernel_rfl) rfl | exact rFld (off := 2) rfl (by kernel_rfl) rfl)) ?_
          refine WT_take 6 rfl rfl (by kernel_rfl) (hXS _ hI.d0) rfl (fun W hW => have hI := hSx W hW; (rIdxArr (sz := 1) (i := k) rfl Tryd.underlying62 (by kernel_rfl) rfl rfl rfl hk8)) ?_
          refine WT_take 7 rfl rfl (by kernel_rfl) (hXS _ hI.d0) rfl (fun W hW => have hI := hSx W hW; (by first | exact rLd (v := .slice _ _ _) rfl (by kernel_rfl) rfl (by first | exact (hI.c1 hgt) | exact (hI.c2 hgt) | exact (hI.c3 hgt)) | exact rLd rfl (by kernel_rfl) rfl (by first | exact (hI.c1 hgt) | exact (hI.c2 hgt) | exact (hI.c3 hgt)))) ?_
          refine WT_take 8 rfl rfl (by kernel_rfl) (hXS _ hI.d0) rfl (fun W hW => have hI := hSx W hW; (by first | exact rMoveI rfl rfl | exact rMove rfl)) ?_
          refine WT_take 11 rfl rfl (by kernel_rfl) (hXS _ hI.d0) rfl (fun W hW => have hI := hSx W hW; (rNilChk rfl rfl)) ?_
          refine WT_take 12 rfl rfl (by kernel_rfl) (hXS _ hI.d0) rfl (fun W hW => have hI := hSx W hW; (by first | exact rFldN (off := 2) rfl (by kernel_rfl) rfl | exact rFld (off := 2) rfl (by kernel_rfl) rfl)) ?_
          refine WT_one 9 rfl (by kernel_rfl) rfl ?_
          refine WL_lit (vs := [_]) (qs := [(0, .int .i64 _)]) [.int .i64 0] [0] hI rfl rfl rfl rfl rfl rfl Tryd.underlying33 (fun _ => by kernel_rfl) ?_
          clear hI; rintro b58 w - - hI
          refine WL_nil ⟨hXS _ hI.d0.d0, ?_⟩
          refine WT_one 10 rfl (by kernel_rfl) rfl ?_
          first | refine WL_app1 (z := .int .i64 0) (by_ := 8) hI rfl rfl rfl rfl rfl rfl Tryd.underlying33 (by kernel_rfl) rfl (by omega) (by rfl) hI.lit0 (by first | rfl | simp [i64s, Value.oneCell']) (by omega) (by omega) (by first | exact Nat.zero_le _ | (have := hI.chg.size; omega)) ?_ | refine WL_app2 (z := .int .i64 0) (by_ := 8) hI rfl rfl rfl rfl rfl rfl Tryd.underlying33 (by kernel_rfl) rfl (by omega) (by rfl) hI.lit0 (by first | rfl | simp [i64s, Value.oneCell']) (by omega) (by omega) (by first | exact Nat.zero_le _ | (have := hI.chg.size; omega)) ?_ | refine WL_app3 (z := .int .i64 0) (by_ := 8) hI rfl rfl rfl rfl rfl rfl Tryd.underlying33 (by kernel_rfl) rfl (by omega) (by rfl) hI.lit0 (by first | rfl | simp [i64s, Value.oneCell']) (by omega) (by omega) (by first | exact Nat.zero_le _ | (have := hI.chg.size; omega)) ?_ | refine WL_app4 (z := .int .i64 0) (by_ := 8) hI rfl rfl rfl rfl rfl rfl Tryd.underlying33 (by kernel_rfl) rfl (by omega) (by rfl) hI.lit0 (by first | rfl | simp [i64s, Value.oneCell']) (by omega) (by omega) (by first | exact Nat.zero_le _ | (have := hI.chg.size; omega)) ?_ | refine WL_app5 (z := .int .i64 0) (by_ := 8) hI rfl rfl rfl rfl rfl rfl Tryd.underlying33 (by kernel_rfl) rfl (by omega) (by rfl) hI.lit0 (by first | rfl | simp [i64s, Value.oneCell']) (by omega) (by omega) (by first | exact Nat.zero_le _ | (have := hI.chg.size; omega)) ?_
          clear hI; rintro A59 c59 w hA59 hc59 hI
          replace hI := hI.d0
          refine WL_nil ⟨hXS _ hI.d0, ?_⟩
          refine WT_take 13 rfl rfl (by kernel_rfl) (hXS _ hI.d0) rfl (fun W hW => have hI := hSx W hW; (rIdxArr (sz := 1) (i := k) rfl Tryd.underlying62 (by kernel_rfl) rfl rfl rfl hk8)) ?_
          refine WT_A (by kernel_rfl) ?_
          clear hXS hSx
          refine WA_one 14 rfl (by kernel_rfl) ?_
          refine WL_st2 (u := .slice _ _ _) (j := 2 + k * 1) hI rfl rfl rfl rfl rfl rfl (by kernel_rfl) rfl (by simp [Nat.blt, baseC]; omega) rfl ?_
          rw [Nat.mul_one, baseC_set _ _ _ _ hk8]
          clear hI; intro w hI
          refine WL_nil ?_
          refine WA_end (by kernel_rfl) ?_
          refine W_region ?_
          refine WL_val rfl rfl rfl (by first | exact rInc rfl rfl rfl (by omega) | exact rAdd rfl rfl rfl (by omega) | exact rAddW rfl rfl rfl) ?_
          refine WL_val rfl rfl rfl (by first | exact rMoveI rfl rfl | exact rMove rfl) ?_
          refine WL_nil ?_
          refine ⟨⟨k + 1, (fun j => if j = k then A59 else O' j), (fun j => if j = k then c59 else co' j), by omega, ⟨rfl, rfl, rfl, rfl, trivial⟩, ?_⟩, by show 8 - ((k + 1 : Nat) : Int).toNat < 8 - (k : Int).toNat; omega⟩
          replace hI := (hI.many_in hk8 (by simp)).many_congr (es' := ordRow (ordTo s2 i (k + 1)) (fun j => if j = k then A59 else O' j) (fun j => if j = k then c59 else co' j)) (fun j hj => by
            by_cases hjk : j = k
            · subst hjk
              unfold ordRow
              rw [ordTo_here hk8 hpos]
              simp
            · unfold ordRow
              rw [ordTo_other hj hjk]
              simp [hjk])
          rw [baseC_congr _ _ (g := fun j => .slice (if j = k then A59 else O' j) (bOrd (ordTo s2 i (k + 1)) j).length (if j = k then c59 else co' j)) _ (fun j hj => by
            by_cases hjk : j = k
            · subst hjk
              rw [ordTo_here hk8 hpos]
              simp
            · rw [ordTo_other hj hjk]
              simp [hjk])] at hI
          exact hI.dn3
        · refine W_seq ?_
          refine W_region ?_
          refine WL_val rfl rfl rfl (by first | exact rMoveP rfl rfl | exact rMove rfl) ?_
          refine WL_val rfl rfl rfl (rNilChk rfl rfl) ?_
          refine WL_val rfl rfl rfl (by first | exact rLd4 rfl (by kernel_rfl) (by kernel_rfl) rfl (by first | exact hI.oldp q0 | exact q0 | exact hI.oldp q1 | exact q1 | exact hI.oldp q2 | exact q2 | exact hI.oldp q3 | exact q3) (by first | exact hI.oldp q0 | exact q0 | exact hI.oldp q1 | exact q1 | exact hI.oldp q2 | exact q2 | exact hI.oldp q3 | exact q3) (by first | exact hI.oldp q0 | exact q0 | exact hI.oldp q1 | exact q1 | exact hI.oldp q2 | exact q2 | exact hI.oldp q3 | exact q3) (by first | exact hI.oldp q0 | exact q0 | exact hI.oldp q1 | exact q1 | exact hI.oldp q2 | exact q2 | exact hI.oldp q3 | exact q3)) ?_
          refine WL_val rfl rfl rfl (by first | exact rMoveI rfl rfl | exact rMove rfl) ?_
          refine WL_call rfl rfl rfl (rCall (vs := [.agg _, .int .i64 _]) rfl Tryd.func46 rfl rfl rfl) ?_
          refine (writes_any _ _ _ _ _ _ _ _ _ _ hops).mono ?_
          rintro e w1 ⟨rfl, hp⟩
          refine ⟨_, rfl, ?_⟩
          replace hI := hI.pure hp
          refine WL_val rfl rfl rfl (by first | exact rGtrT rfl rfl rfl (by omega) | exact rGtrF rfl rfl rfl (by omega) | exact rGtr rfl rfl rfl) ?_
          refine WL_nil ?_
          refine W_cond false rfl ?_
          refine W_skip ?_
          refine W_region ?_
          refine WL_val rfl rfl rfl (by first | exact rInc rfl rfl rfl (by omega) | exact rAdd rfl rfl rfl (by omega) | exact rAddW rfl rfl rfl) ?_
          refine WL_val rfl rfl rfl (by first | exact rMoveI rfl rfl | exact rMove rfl) ?_
          refine WL_nil ?_
          exact ⟨⟨k + 1, O', co', by omega, ⟨rfl, rfl, rfl, rfl, trivial⟩, by rw [ordTo_skip hpos]; exact hI⟩, by show 8 - ((k + 1 : Nat) : Int).toNat < 8 - (k : Int).toNat; omega⟩
      · obtain rfl : k = 8 := by omega
        refine W_seq ?_
        refine W_region ?_
        refine WL_val rfl rfl rfl (by first | exact rLssT rfl rfl rfl (by omega) | exact rLssF rfl rfl rfl (by omega) | exact rLss rfl rfl rfl) ?_
        refine WL_nil ?_
        refine W_seq ?_
        refine W_cond false rfl ?_
        refine W_exit ?_
        refine W_seq ?_
        refine W_region ?_
        refine WL_val rfl rfl rfl (by first | exact rAsgnN rfl rfl | exact rAsgnE rfl rfl | exact rAsgn rfl) ?_
        refine WL_nil ?_
        refine W_ret ?_
        rw [hF]
        exact ret1 4 (.inr rfl) rfl ⟨⟨O', co', hI⟩, rfl⟩
end Go.Proofs.YtlnjmkldpicpdaaDoor
