/- The laws' own 'behind': one transaction behind the other. -/
import Derived.Test.YtgkmlnbnjbpodaaDoorBern
namespace Go.Proofs.YtgkmlnbnjbpodaaDoor
open Go.RowKit
set_option linter.unusedVariables false
set_option linter.unusedSimpArgs false
def behTo (d : List St) (on : List Nat) (i t k : Nat) : List St := behL d (on.take i) ++ ofTx (d.take k) t
theorem behTo_succ {d : List St} {on : List Nat} {i t k : Nat} (hk : k < d.length) : behTo d on i t (k + 1) = behTo d on i t k ++ if (sAt d k).tx = (t : Int) then [sAt d k] else [] := by
  have hg : d[k]? = some (sAt d k) := by rw [sAt_get hk]; exact List.getElem?_eq_getElem hk
  unfold behTo ofTx
  rw [take_snoc' hg, List.filter_append, List.append_assoc]
  by_cases h : (sAt d k).tx = (t : Int)
  · rw [if_pos h, List.filter_cons_of_pos (by exact decide_eq_true h)]; rfl
  · rw [if_neg h, List.filter_cons_of_neg (by rw [decide_eq_false h]; exact Bool.false_ne_true)]; rfl
theorem behL_take {d : List St} {on : List Nat} {i t : Nat} (h : on[i]? = some t) : behL d (on.take (i + 1)) = behL d (on.take i) ++ (ofTx d t ++ [⟨(t : Int), 3, 0⟩]) := by
  unfold behL
  rw [take_snoc' h, List.flatMap_append]
  simp
theorem behL_len (d : List St) (on : List Nat) : (behL d on).length ≤ on.length * (d.length + 1) := by
  unfold behL
  induction on with
  | nil => simp
  | cons t on ih =>
    have : (ofTx d t).length ≤ d.length := List.length_filter_le _ _
    have h2 : (t :: on).length * (d.length + 1) = on.length * (d.length + 1) + (d.length + 1) := Nat.succ_mul _ _
    rw [List.flatMap_cons, List.length_append, List.length_append, List.length_singleton, h2]
    omega
set_option maxHeartbeats 2000000 in
theorem behind_any (A : Option Addr) (n c : Nat) (l : List St) (KA : Option Addr) (kn kc : Nat) (on : List Nat) (D D2 : Nat → Prop) (w0 : World) (h : Sts w0 D (.slice A n c) l) (hK : Ints w0 D2 (.slice KA kn kc) (on.map Int.ofNat)) (hn : n ≤ 200) (hon : on.length ≤ 8) :
    Calls Tryd.prog 8 #[.slice A n c, .slice KA kn kc] w0 fun en w' => (∃ v, en = .returned v ∧ OwnedSts w0 w' v (behL (doneF l) on)) ∧ Pure w0 w' := by
  obtain ⟨hnl, hc1, hc2⟩ := h.len
  obtain ⟨hkn, hk1, hk2⟩ := hK.len
  rw [List.length_map] at hkn
  subst hkn
  have hdl : (doneF l).length ≤ 200 := Nat.le_trans (done_len l) (by omega)
  have hI : Inv (fun _ => False) w0 w0 [Row w0.heap.size 43 3 none 0 0 []] := (Inv.start (fun _ => False) w0).fresh (Pure.refl w0) (Row.nil w0 _ _ _) (fun k hk => by simp [Row] at hk)
  refine calls_of_W (N := Tryd.f8.ntmps) Tryd.func8 rfl rfl rfl ?_
  refine W_seq ?_
  refine W_region ?_
  refine WL_val rfl rfl rfl (by first | exact rAsgnS rfl rfl | exact rAsgn rfl) ?_
  refine WL_nil ?_
  refine W_seq ?_
  refine W_region ?_
  refine WL_val rfl rfl rfl (by first | exact rMoveS rfl rfl | exact rMove rfl) ?_
  refine WL_call rfl rfl rfl (rCall (vs := [.slice _ _ _]) rfl Tryd.func20 rfl rfl rfl) ?_
  refine (done_any A n c l D _ (h.pure hI.pu) (by omega)).mono ?_
  rintro e w1 ⟨⟨v, rfl, DA, dc, rfl, hown⟩, hp⟩
  refine ⟨_, rfl, ?_⟩
  replace hI := hI.freshR hp hown
  replace hI := hI.sw0
  refine WL_val rfl rfl rfl (by first | exact rAsgnS rfl rfl | exact rAsgn rfl) ?_
  refine WL_nil ?_
  obtain ⟨d, hd⟩ : ∃ d, doneF l = d := ⟨_, rfl⟩
  rw [hd] at hI hdl ⊢
  have hbl : ∀ i, i ≤ on.length → (behL d (on.take i)).length ≤ 8 * 201 := fun i hi => by
    refine Nat.le_trans (behL_len _ _) ?_
    exact Nat.mul_le_mul (by rw [List.length_take]; omega) (by omega)
  have hdlb : d.length < 9223372036854775807 := by omega
  refine W_seq ?_
  refine W_region ?_
  refine WL_val rfl rfl rfl (by first | exact rAsgnS rfl rfl | exact rAsgn rfl) ?_
  refine WL_nil ?_
  refine W_seq ?_
  refine W_seq ?_
  refine W_region ?_
  refine WL_val rfl rfl rfl (by first | exact rAsgnI rfl rfl | exact rAsgn rfl) ?_
  refine WL_nil ?_
  refine W_block ?_
  refine W_loop (fun ρ w => ∃ (i : Nat) (OA : Option Addr) (oc : Nat), i ≤ on.length ∧ Has ρ [(7, .int .i64 (i : Int)), (1, .slice KA on.length kc), (5, .slice DA d.length dc), (6, .slice OA (behL d (on.take i)).length oc)] ∧ Inv (fun _ => False) w0 w [Row w0.heap.size 43 3 OA (behL d (on.take i)).length oc ((behL d (on.take i)).flatMap stV), Row 0 43 3 DA d.length dc (d.flatMap stV)]) (fun ρ _ => on.length - cnt (ρ 7))
    ⟨0, none, 0, by omega, ⟨rfl, rfl, rfl, rfl, trivial⟩, hI⟩ ?_
  clear hI
  rintro ρ w ⟨i, OA, oc, hi, hH, hI⟩
  obtain ⟨σ, rfl⟩ := hH.open
  by_cases hin : i < on.length
  rotate_left
  · obtain rfl : i = on.length := by omega
    rw [List.take_length] at hI
    have e0 : behL d (on.take on.length) = behL d on := by rw [List.take_length]
    rw [e0]
    refine W_seq ?_
    refine W_seq ?_
    refine W_region ?_
    refine WL_val rfl rfl rfl (by first | exact rMoveI rfl rfl | exact rMove rfl) ?_
    refine WL_val rfl rfl rfl (by first | exact rMoveS rfl rfl | exact rMove rfl) ?_
    refine WL_val rfl rfl rfl (rLen rfl Tryd.underlying23 rfl) ?_
    refine WL_val rfl rfl rfl (by first | exact rLssT rfl rfl rfl (by omega) | exact rLssF rfl rfl rfl (by omega) | exact rLss rfl rfl rfl) ?_
    refine WL_nil ?_
    refine W_cond false rfl ?_
    refine W_exit ?_
    refine W_seq ?_
    refine W_region ?_
    refine WL_val rfl rfl rfl (by first | exact rMoveS rfl rfl | exact rMove rfl) ?_
    refine WL_val rfl rfl rfl (by first | exact rAsgnS rfl rfl | exact rAsgn rfl) ?_
    refine WL_nil ?_
    refine W_ret ?_
    exact ret1 4 (.inr rfl) rfl ⟨⟨_, rfl, OA, oc, rfl, hI.g0⟩, hI.pu⟩
  obtain ⟨t, ht⟩ : ∃ t, on[i]? = some t := ⟨_, List.getElem?_eq_getElem hin⟩
  obtain ⟨kb, ko, rfl, q0⟩ := nats_get hK ht
  have hb1 := hbl i hi
  refine W_seq ?_
  refine W_seq ?_
  refine W_region ?_
  refine WL_val rfl rfl rfl (by first | exact rMoveI rfl rfl | exact rMove rfl) ?_
  refine WL_val rfl rfl rfl (by first | exact rMoveS rfl rfl | exact rMove rfl) ?_
  refine WL_val rfl rfl rfl (rLen rfl Tryd.underlying23 rfl) ?_
  refine WL_val rfl rfl rfl (by first | exact rLssT rfl rfl rfl (by omega) | exact rLssF rfl rfl rfl (by omega) | exact rLss rfl rfl rfl) ?_
  refine WL_nil ?_
  refine W_cond true rfl ?_
  refine W_skip ?_
  refine W_seq ?_
  refine W_block ?_
  refine W_seq_cut (fun ρ w => ∃ (OA : Option Addr) (oc : Nat), Has ρ [(7, .int .i64 (i : Int)), (1, .slice (some ⟨kb, ko, none⟩) on.length kc), (5, .slice DA d.length dc), (6, .slice OA (behTo d on i t d.length).length oc)] ∧ Inv (fun _ => False) w0 w [Row w0.heap.size 43 3 OA (behTo d on i t d.length).length oc ((behTo d on i t d.length).flatMap stV), Row 0 43 3 DA d.length dc (d.flatMap stV)]) ?_ ?_
  · have hz : behTo d on i t 0 = behL d (on.take i) := by unfold behTo; rw [List.take_zero]; exact List.append_nil _
    rw [← hz] at hI
    refine W_seq ?_
    refine W_region ?_
    refine WL_val rfl rfl rfl (by first | exact rAsgnI rfl rfl | exact rAsgn rfl) ?_
    refine WL_nil ?_
    refine W_block ?_
    refine W_loop (fun ρ w => ∃ (k : Nat) (OA : Option Addr) (oc : Nat), k ≤ d.length ∧ Has ρ [(8, .int .i64 (k : Int)), (7, .int .i64 (i : Int)), (1, .slice (some ⟨kb, ko, none⟩) on.length kc), (5, .slice DA d.length dc), (6, .slice OA (behTo d on i t k).length oc)] ∧ Inv (fun _ => False) w0 w [Row w0.heap.size 43 3 OA (behTo d on i t k).length oc ((behTo d on i t k).flatMap stV), Row 0 43 3 DA d.length dc (d.flatMap stV)]) (fun ρ _ => d.length - cnt (ρ 8))
      ⟨0, OA, oc, by omega, ⟨rfl, rfl, rfl, rfl, by rw [hz]; rfl, trivial⟩, hI⟩ ?_
    clear hI
    rintro ρ w ⟨k, OA, oc, hk, hH, hI⟩
    obtain ⟨σ, rfl⟩ := hH.open
    by_cases hkn : k < d.length
    rotate_left
    · obtain rfl : k = d.length := by omega
      refine W_seq ?_
      refine W_seq ?_
      refine W_region ?_
      refine WL_val rfl rfl rfl (by first | exact rMoveI rfl rfl | exact rMove rfl) ?_
      refine WL_val rfl rfl rfl (by first | exact rMoveS rfl rfl | exact rMove rfl) ?_
      refine WL_val rfl rfl rfl (rLen rfl Tryd.underlying22 rfl) ?_
      refine WL_val rfl rfl rfl (by first | exact rLssT rfl rfl rfl (by omega) | exact rLssF rfl rfl rfl (by omega) | exact rLss rfl rfl rfl) ?_
      refine WL_nil ?_
      refine W_cond false rfl ?_
      refine W_exit ?_
      exact ⟨OA, oc, ⟨rfl, rfl, rfl, rfl, trivial⟩, hI⟩
    have hS : Sts w (fun _ => True) (.slice DA d.length dc) d := sts_of_own hI.g1
    obtain ⟨db, dof, hDA, -, -, -⟩ := hS.at hkn
    subst hDA
    obtain ⟨y0, y1, y2⟩ := row3 hI.g1 hkn
    have hsu := behTo_succ (on := on) (i := i) (t := t) hkn
    have hbt : (behTo d on i t k).length ≤ 8 * 201 + 200 := by
      unfold behTo
      rw [List.length_append]
      have : (ofTx (d.take k) t).length ≤ k := Nat.le_trans (List.length_filter_le _ _) (List.length_take_le _ _)
      omega
    refine W_seq ?_
    refine W_seq ?_
    refine W_region ?_
    refine WL_val rfl rfl rfl (by first | exact rMoveI rfl rfl | exact rMove rfl) ?_
    refine WL_val rfl rfl rfl (by first | exact rMoveS rfl rfl | exact rMove rfl) ?_
    refine WL_val rfl rfl rfl (rLen rfl Tryd.underlying22 rfl) ?_
    refine WL_val rfl rfl rfl (by first | exact rLssT rfl rfl rfl (by omega) | exact rLssF rfl rfl rfl (by omega) | exact rLss rfl rfl rfl) ?_
    refine WL_nil ?_
    refine W_cond true rfl ?_
    refine W_skip ?_
    refine W_seq ?_
    refine W_block ?_
    by_cases htx : (sAt d k).tx = (t : Int)
    · rw [if_pos htx] at hsu
      refine W_seq ?_
      refine W_draw (by kernel_rfl) ?_
      refine WA_inv (T := []) hI.drew ?_
      intro Sx hSx hXS
      replace hI := hI.drew
      refine WT_take 0 rfl rfl (by kernel_rfl) (hXS _ hI) rfl (fun W hW => have hI := hSx W hW; (by first | exact rMoveS rfl rfl | exact rMove rfl)) ?_
      refine WT_take 1 rfl rfl (by kernel_rfl) (hXS _ hI) rfl (fun W hW => have hI := hSx W hW; (by first | exact rMoveI rfl rfl | exact rMove rfl)) ?_
      refine WT_take 2 rfl rfl (by kernel_rfl) (hXS _ hI) rfl (fun W hW => have hI := hSx W hW; (rIdx (sz := 3) rfl Tryd.underlying22 (by kernel_rfl) rfl rfl (by omega))) ?_
      refine WT_take 3 rfl rfl (by kernel_rfl) (hXS _ hI) rfl (fun W hW => have hI := hSx W hW; (by first | exact rFldN (off := 0) rfl (by kernel_rfl) rfl | exact rFld0 rfl (by kernel_rfl) rfl)) ?_
      refine WT_take 4 rfl rfl (by kernel_rfl) (hXS _ hI) rfl (fun W hW => have hI := hSx W hW; (by first | exact rLd (v := .int .i64 _) rfl (by kernel_rfl) rfl (by first | exact hI.oldp q0 | exact q0 | exact (row3 hI.g1 hkn).1) | exact rLd rfl (by kernel_rfl) rfl (by first | exact hI.oldp q0 | exact q0 | exact (row3 hI.g1 hkn).1))) ?_
      refine WT_take 5 rfl rfl (by kernel_rfl) (hXS _ hI) rfl (fun W hW => have hI := hSx W hW; (by first | exact rMoveS rfl rfl | exact rMove rfl)) ?_
      refine WT_take 6 rfl rfl (by kernel_rfl) (hXS _ hI) rfl (fun W hW => have hI := hSx W hW; (by first | exact rMoveI rfl rfl | exact rMove rfl)) ?_
      refine WT_take 7 rfl rfl (by kernel_rfl) (hXS _ hI) rfl (fun W hW => have hI := hSx W hW; (by first | exact rIdx0 rfl Tryd.underlying23 (by kernel_rfl) rfl rfl rfl (by omega) | exact rIdx1 rfl Tryd.underlying23 (by kernel_rfl) rfl rfl (by omega))) ?_
      refine WT_take 8 rfl rfl (by kernel_rfl) (hXS _ hI) rfl (fun W hW => have hI := hSx W hW; (by first | exact rLd (v := .int .i64 _) rfl (by kernel_rfl) rfl (by first | exact hI.oldp q0 | exact q0 | exact (row3 hI.g1 hkn).1) | exact rLd rfl (by kernel_rfl) rfl (by first | exact hI.oldp q0 | exact q0 | exact (row3 hI.g1 hkn).1))) ?_
      refine WT_take 9 rfl rfl (by kernel_rfl) (hXS _ hI) rfl (fun W hW => have hI := hSx W hW; (by first | exact rEqlT rfl rfl rfl (by omega) | exact rEqlF rfl rfl rfl (by omega) | exact rEql rfl rfl rfl)) ?_
      refine WT_end (by kernel_rfl) ?_
      refine W_cond true rfl ?_
      refine W_region ?_
      refine WL_val rfl rfl rfl (by first | exact rMoveS rfl rfl | exact rMove rfl) ?_
      refine WL_val rfl rfl rfl (by first | exact rMoveS rfl rfl | exact rMove rfl) ?_
      refine WL_val rfl rfl rfl (by first | exact rMoveI rfl rfl | exact rMove rfl) ?_
      refine WL_val rfl rfl rfl (rIdx (sz := 3) rfl Tryd.underlying22 (by kernel_rfl) rfl rfl (by omega)) ?_
      refine WL_val rfl rfl rfl (by first | exact rLd3 rfl (by kernel_rfl) (by kernel_rfl) rfl (by first | exact hI.oldp y0 | exact y0 | exact hI.oldp y1 | exact y1 | exact hI.oldp y2 | exact y2) (by first | exact hI.oldp y0 | exact y0 | exact hI.oldp y1 | exact y1 | exact hI.oldp y2 | exact y2) (by first | exact hI.oldp y0 | exact y0 | exact hI.oldp y1 | exact y1 | exact hI.oldp y2 | exact y2)) ?_
      refine WL_lit (vs := [_, _, _]) (qs := [(0, .agg #[_, _, _])]) [.int .i64 0, .int .i64 0, .int .i64 0] [0] hI rfl rfl rfl rfl rfl rfl Tryd.underlying22 (fun _ => by kernel_rfl) ?_
      clear hI; rintro b38 w - - hI
      first | refine WL_app1 (z := .agg #[.int .i64 0, .int .i64 0, .int .i64 0]) (by_ := 24) hI rfl rfl rfl rfl rfl rfl Tryd.underlying22 (by kernel_rfl) rfl (by omega) (by rfl) hI.lit0 (by first | rfl | simp [i64s, Value.oneCell']) (by omega) (by omega) (by first | exact Nat.zero_le _ | (have := hI.chg.size; omega)) ?_ | refine WL_app2 (z := .agg #[.int .i64 0, .int .i64 0, .int .i64 0]) (by_ := 24) hI rfl rfl rfl rfl rfl rfl Tryd.underlying22 (by kernel_rfl) rfl (by omega) (by rfl) hI.lit0 (by first | rfl | simp [i64s, Value.oneCell']) (by omega) (by omega) (by first | exact Nat.zero_le _ | (have := hI.chg.size; omega)) ?_ | refine WL_app3 (z := .agg #[.int .i64 0, .int .i64 0, .int .i64 0]) (by_ := 24) hI rfl rfl rfl rfl rfl rfl Tryd.underlying22 (by kernel_rfl) rfl (by omega) (by rfl) hI.lit0 (by first | rfl | simp [i64s, Value.oneCell']) (by omega) (by omega) (by first | exact Nat.zero_le _ | (have := hI.chg.size; omega)) ?_ | refine WL_app4 (z := .agg #[.int .i64 0, .int .i64 0, .int .i64 0]) (by_ := 24) hI rfl rfl rfl rfl rfl rfl Tryd.underlying22 (by kernel_rfl) rfl (by omega) (by rfl) hI.lit0 (by first | rfl | simp [i64s, Value.oneCell']) (by omega) (by omega) (by first | exact Nat.zero_le _ | (have := hI.chg.size; omega)) ?_ | refine WL_app5 (z := .agg #[.int .i64 0, .int .i64 0, .int .i64 0]) (by_ := 24) hI rfl rfl rfl rfl rfl rfl Tryd.underlying22 (by kernel_rfl) rfl (by omega) (by rfl) hI.lit0 (by first | rfl | simp [i64s, Value.oneCell']) (by omega) (by omega) (by first | exact Nat.zero_le _ | (have := hI.chg.size; omega)) ?_
      clear hI; rintro A39 c39 w hA39 hc39 hI
      replace hI := hI.d0
      refine WL_val rfl rfl rfl (by first | exact rAsgnS rfl rfl | exact rAsgn rfl) ?_
      refine WL_nil ?_
      refine W_region ?_
      refine WL_val rfl rfl rfl (by first | exact rMoveI rfl rfl | exact rMove rfl) ?_
      refine WL_val rfl rfl rfl (by first | exact rInc rfl rfl rfl (by omega) | exact rAdd rfl rfl rfl (by omega) | exact rAddW rfl rfl rfl) ?_
      refine WL_val rfl rfl rfl (by first | exact rAsgnI rfl rfl | exact rAsgn rfl) ?_
      refine WL_nil ?_
      have e1 : (behTo d on i t k ++ [sAt d k]).length = (behTo d on i t k).length + 1 := by simp
      have e2 : (behTo d on i t k ++ [sAt d k]).flatMap stV = (behTo d on i t k).flatMap stV ++ stV (sAt d k) := by simp
      refine ⟨⟨k + 1, A39, c39, by omega, ⟨rfl, rfl, rfl, rfl, by rw [hsu, e1]; rfl, trivial⟩, by rw [hsu, e1, e2]; exact hI⟩, by show d.length - ((k + 1 : Nat) : Int).toNat < d.length - (k : Int).toNat; omega⟩
    · rw [if_neg htx, List.append_nil] at hsu
      refine W_seq ?_
      refine W_draw (by kernel_rfl) ?_
      refine WA_inv (T := []) hI.drew ?_
      intro Sx hSx hXS
      replace hI := hI.drew
      refine WT_take 0 rfl rfl (by kernel_rfl) (hXS _ hI) rfl (fun W hW => have hI := hSx W hW; (by first | exact rMoveS rfl rfl | exact rMove rfl)) ?_
      refine WT_take 1 rfl rfl (by kernel_rfl) (hXS _ hI) rfl (fun W hW => have hI := hSx W hW; (by first | exact rMoveI rfl rfl | exact rMove rfl)) ?_
      refine WT_take 2 rfl rfl (by kernel_rfl) (hXS _ hI) rfl (fun W hW => have hI := hSx W hW; (rIdx (sz := 3) rfl Tryd.underlying22 (by kernel_rfl) rfl rfl (by omega))) ?_
      refine WT_take 3 rfl rfl (by kernel_rfl) (hXS _ hI) rfl (fun W hW => have hI := hSx W hW; (by first | exact rFldN (off := 0) rfl (by kernel_rfl) rfl | exact rFld0 rfl (by kernel_rfl) rfl)) ?_
      refine WT_take 4 rfl rfl (by kernel_rfl) (hXS _ hI) rfl (fun W hW => have hI := hSx W hW; (by first | exact rLd (v := .int .i64 _) rfl (by kernel_rfl) rfl (by first | exact hI.oldp q0 | exact q0 | exact (row3 hI.g1 hkn).1) | exact rLd rfl (by kernel_rfl) rfl (by first | exact hI.oldp q0 | exact q0 | exact (row3 hI.g1 hkn).1))) ?_
      refine WT_take 5 rfl rfl (by kernel_rfl) (hXS _ hI) rfl (fun W hW => have hI := hSx W hW; (by first | exact rMoveS rfl rfl | exact rMove rfl)) ?_
      refine WT_take 6 rfl rfl (by kernel_rfl) (hXS _ hI) rfl (fun W hW => have hI := hSx W hW; (by first | exact rMoveI rfl rfl | exact rMove rfl)) ?_
      refine WT_take 7 rfl rfl (by kernel_rfl) (hXS _ hI) rfl (fun W hW => have hI := hSx W hW; (by first | exact rIdx0 rfl Tryd.underlying23 (by kernel_rfl) rfl rfl rfl (by omega) | exact rIdx1 rfl Tryd.underlying23 (by kernel_rfl) rfl rfl (by omega))) ?_
      refine WT_take 8 rfl rfl (by kernel_rfl) (hXS _ hI) rfl (fun W hW => have hI := hSx W hW; (by first | exact rLd (v := .int .i64 _) rfl (by kernel_rfl) rfl (by first | exact hI.oldp q0 | exact q0 | exact (row3 hI.g1 hkn).1) | exact rLd rfl (by kernel_rfl) rfl (by first | exact hI.oldp q0 | exact q0 | exact (row3 hI.g1 hkn).1))) ?_
      refine WT_take 9 rfl rfl (by kernel_rfl) (hXS _ hI) rfl (fun W hW => have hI := hSx W hW; (by first | exact rEqlT rfl rfl rfl (by omega) | exact rEqlF rfl rfl rfl (by omega) | exact rEql rfl rfl rfl)) ?_
      refine WT_end (by kernel_rfl) ?_
      refine W_cond false rfl ?_
      refine W_skip ?_
      refine W_region ?_
      refine WL_val rfl rfl rfl (by first | exact rMoveI rfl rfl | exact rMove rfl) ?_
      refine WL_val rfl rfl rfl (by first | exact rInc rfl rfl rfl (by omega) | exact rAdd rfl rfl rfl (by omega) | exact rAddW rfl rfl rfl) ?_
      refine WL_val rfl rfl rfl (by first | exact rAsgnI rfl rfl | exact rAsgn rfl) ?_
      refine WL_nil ?_
      refine ⟨⟨k + 1, OA, oc, by omega, ⟨rfl, rfl, rfl, rfl, by rw [hsu]; rfl, trivial⟩, by rw [hsu]; exact hI⟩, by show d.length - ((k + 1 : Nat) : Int).toNat < d.length - (k : Int).toNat; omega⟩
  clear hI
  rintro ρ w ⟨OA, oc, hH, hI⟩
  obtain ⟨σ, rfl⟩ := hH.open
  have hfull : behTo d on i t d.length ++ [⟨(t : Int), 3, 0⟩] = behL d (on.take (i + 1)) := by
    rw [behL_take ht, behTo, List.take_length, List.append_assoc]
  have hb2 := hbl (i + 1) hin
  rw [← hfull, List.length_append] at hb2
  have q0' := hI.oldp q0
  refine W_region ?_
  refine WL_val rfl rfl rfl (by first | exact rMoveS rfl rfl | exact rMove rfl) ?_
  refine WL_val rfl rfl rfl (by first | exact rMoveS rfl rfl | exact rMove rfl) ?_
  refine WL_val rfl rfl rfl (by first | exact rMoveI rfl rfl | exact rMove rfl) ?_
  refine WL_val rfl rfl rfl (by first | exact rIdx0 rfl Tryd.underlying23 (by kernel_rfl) rfl rfl rfl (by omega) | exact rIdx1 rfl Tryd.underlying23 (by kernel_rfl) rfl rfl (by omega)) ?_
  refine WL_val rfl rfl rfl (by first | exact rLd (v := .int .i64 _) rfl (by kernel_rfl) rfl (by first | exact hI.oldp q0 | exact q0 | exact hI.oldp q0' | exact q0') | exact rLd rfl (by kernel_rfl) rfl (by first | exact hI.oldp q0 | exact q0 | exact hI.oldp q0' | exact q0')) ?_
  refine WL_val rfl rfl rfl (rBuild (qs := [(0, .int .i64 _), (1, .int .i64 _)]) (vs := [_, _, _]) [.int .i64 0, .int .i64 0, .int .i64 0] [0, 1] rfl rfl rfl (fun _ => by kernel_rfl)) ?_
  refine WL_lit (vs := [_, _, _]) (qs := [(0, .agg #[_, _, _])]) [.int .i64 0, .int .i64 0, .int .i64 0] [0] hI rfl rfl rfl rfl rfl rfl Tryd.underlying22 (fun _ => by kernel_rfl) ?_
  clear hI; rintro b46 w - - hI
  first | refine WL_app1 (z := .agg #[.int .i64 0, .int .i64 0, .int .i64 0]) (by_ := 24) hI rfl rfl rfl rfl rfl rfl Tryd.underlying22 (by kernel_rfl) rfl (by omega) (by rfl) hI.lit0 (by first | rfl | simp [i64s, Value.oneCell']) (by omega) (by omega) (by first | exact Nat.zero_le _ | (have := hI.chg.size; omega)) ?_ | refine WL_app2 (z := .agg #[.int .i64 0, .int .i64 0, .int .i64 0]) (by_ := 24) hI rfl rfl rfl rfl rfl rfl Tryd.underlying22 (by kernel_rfl) rfl (by omega) (by rfl) hI.lit0 (by first | rfl | simp [i64s, Value.oneCell']) (by omega) (by omega) (by first | exact Nat.zero_le _ | (have := hI.chg.size; omega)) ?_ | refine WL_app3 (z := .agg #[.int .i64 0, .int .i64 0, .int .i64 0]) (by_ := 24) hI rfl rfl rfl rfl rfl rfl Tryd.underlying22 (by kernel_rfl) rfl (by omega) (by rfl) hI.lit0 (by first | rfl | simp [i64s, Value.oneCell']) (by omega) (by omega) (by first | exact Nat.zero_le _ | (have := hI.chg.size; omega)) ?_ | refine WL_app4 (z := .agg #[.int .i64 0, .int .i64 0, .int .i64 0]) (by_ := 24) hI rfl rfl rfl rfl rfl rfl Tryd.underlying22 (by kernel_rfl) rfl (by omega) (by rfl) hI.lit0 (by first | rfl | simp [i64s, Value.oneCell']) (by omega) (by omega) (by first | exact Nat.zero_le _ | (have := hI.chg.size; omega)) ?_ | refine WL_app5 (z := .agg #[.int .i64 0, .int .i64 0, .int .i64 0]) (by_ := 24) hI rfl rfl rfl rfl rfl rfl Tryd.underlying22 (by kernel_rfl) rfl (by omega) (by rfl) hI.lit0 (by first | rfl | simp [i64s, Value.oneCell']) (by omega) (by omega) (by first | exact Nat.zero_le _ | (have := hI.chg.size; omega)) ?_
  clear hI; rintro A47 c47 w hA47 hc47 hI
  replace hI := hI.d0
  refine WL_val rfl rfl rfl (by first | exact rAsgnS rfl rfl | exact rAsgn rfl) ?_
  refine WL_nil ?_
  refine W_region ?_
  refine WL_val rfl rfl rfl (by first | exact rMoveI rfl rfl | exact rMove rfl) ?_
  refine WL_val rfl rfl rfl (by first | exact rInc rfl rfl rfl (by omega) | exact rAdd rfl rfl rfl (by omega) | exact rAddW rfl rfl rfl) ?_
  refine WL_val rfl rfl rfl (by first | exact rAsgnI rfl rfl | exact rAsgn rfl) ?_
  refine WL_nil ?_
  have e1 : (behTo d on i t d.length ++ [(⟨(t : Int), 3, 0⟩ : St)]).length = (behTo d on i t d.length).length + 1 := by simp
  have e2 : (behTo d on i t d.length ++ [(⟨(t : Int), 3, 0⟩ : St)]).flatMap stV = (behTo d on i t d.length).flatMap stV ++ stV ⟨(t : Int), 3, 0⟩ := by simp
  refine ⟨⟨i + 1, A47, c47, by omega, ⟨rfl, rfl, rfl, by rw [← hfull, e1]; rfl, trivial⟩, by rw [← hfull, e1, e2]; exact hI⟩, by show on.length - ((i + 1 : Nat) : Int).toNat < on.length - (i : Int).toNat; omega⟩
end Go.Proofs.YtgkmlnbnjbpodaaDoor
