/- clock: open. -/
import Derived.Test.YtajbhabkhgpcfaaDoorClk9
import Derived.Test.YtajbhabkhgpcfaaDoorClkLaw2
import Derived.Test.YtajbhabkhgpcfaaDoorSxu
namespace Go.Proofs.YtajbhabkhgpcfaaDoor
open Go.RowKit
set_option linter.unusedVariables false
set_option linter.unusedSimpArgs false
abbrev hlen (l : List Ck) (k r : Nat) : Nat := (hix (prc l) k r).length
def hisC (l : List Ck) (As : Nat → Option Addr) (cs : Nat → Nat) (k : Nat) : Array Value := ((List.range 8).map fun r => Value.slice (As r) (hlen l k r) (cs r)).toArray
def hrow (l : List Ck) (k r : Nat) : List Value := (hix (prc l) k r).flatMap fun i => i64s (vec l i)
def hisE (l : List Ck) (As : Nat → Option Addr) (cs : Nat → Nat) (k r : Nat) : Ent := Row 0 37 8 (As r) (hlen l k r) (cs r) (hrow l k r)
theorem hisC_get {l : List Ck} {As : Nat → Option Addr} {cs : Nat → Nat} {k r : Nat} (hr : r < 8) : (hisC l As cs k)[r]? = some (.slice (As r) (hlen l k r) (cs r)) := by simp [hisC, hr]
theorem hisC_set {l : List Ck} {As : Nat → Option Addr} {cs : Nat → Nat} {k r : Nat} {A : Option Addr} {c : Nat} (hr : prc l k = r) : (hisC l As cs k).setIfInBounds r (.slice A (hlen l k r + 1) c) = hisC l (fun x => if x = r then A else As x) (fun x => if x = r then c else cs x) (k + 1) := by
  apply Array.ext'
  simp only [hisC, Array.toList_setIfInBounds]
  refine List.ext_getElem (by simp) (fun i h1 h2 => ?_)
  simp only [List.getElem_set, List.getElem_map, List.getElem_range]
  unfold hlen
  rw [hix_succ]
  by_cases h : r = i
  · subst h; rw [if_pos hr]; simp
  · rw [if_neg h, if_neg (Ne.symm h), if_neg (Ne.symm h), if_neg (by rw [hr]; exact h)]
theorem hrow_succ {l : List Ck} {k r : Nat} : hrow l (k + 1) r = if prc l k = r then hrow l k r ++ i64s (vec l k) else hrow l k r := by
  unfold hrow
  rw [hix_succ]
  split
  · simp
  · rfl
theorem hisE_same {l : List Ck} {As : Nat → Option Addr} {cs : Nat → Nat} {k r x : Nat} {A : Option Addr} {c : Nat} (hr : prc l k = r) (hx : x ≠ r) : hisE l (fun x => if x = r then A else As x) (fun x => if x = r then c else cs x) (k + 1) x = hisE l As cs k x := by
  unfold hisE hlen
  rw [hrow_succ, hix_succ, if_neg (by rw [hr]; exact Ne.symm hx), if_neg (by rw [hr]; exact Ne.symm hx)]
  simp only [if_neg hx]
theorem hisE_here {l : List Ck} {As : Nat → Option Addr} {cs : Nat → Nat} {k r : Nat} {A : Option Addr} {c : Nat} (hr : prc l k = r) : hisE l (fun x => if x = r then A else As x) (fun x => if x = r then c else cs x) (k + 1) r = Row 0 37 8 A (hlen l k r + 1) c (hrow l k r ++ i64s (vec l k)) := by
  unfold hisE hlen
  rw [hrow_succ, hix_succ, if_pos hr, if_pos hr]
  simp
def OpenPost (l : List Ck) (w0 : World) (en : Ending) (w' : World) : Prop :=
  (OkClk l ∧ ∃ As cs, en = .returned (.tuple #[.agg (hisC l As cs l.length), .nilIface]) ∧ Inv (fun _ => False) w0 w' [Many 8 (hisE l As cs l.length)]) ∨
    (¬ OkClk l ∧ (∃ z t u, en = .returned (.tuple #[.agg z, .iface t u]) ∧ z.size = 8 ∧ z.toList.all (·.oneCell') = true) ∧ Pure w0 w')
set_option maxHeartbeats 2000000 in
theorem open_any (A : Option Addr) (n c : Nat) (l : List Ck) (D : Nat → Prop) (w0 : World) (h : Cks w0 D (.slice A n c) l) (hg : GlobOk w0) :
    Calls Tryd.prog 17 #[.slice A n c] w0 (OpenPost l w0) := by
  obtain ⟨hn, hc1, hc2⟩ := h.len
  have hI := Inv.start (fun _ => False) w0
  refine calls_of_W (N := Tryd.f17.ntmps) Tryd.func17 rfl rfl rfl ?_
  refine W_seq ?_
  refine W_region ?_
  refine WL_alloc (u := .agg #[.slice none 0 0, .slice none 0 0, .slice none 0 0, .slice none 0 0, .slice none 0 0, .slice none 0 0, .slice none 0 0, .slice none 0 0]) (vs := #[.slice none 0 0, .slice none 0 0, .slice none 0 0, .slice none 0 0, .slice none 0 0, .slice none 0 0, .slice none 0 0, .slice none 0 0]) hI rfl rfl rfl rfl (by kernel_rfl) rfl ?_
  clear hI; rintro b2 w - - hI
  refine WL_val rfl rfl rfl (by first | exact rAsgnN rfl rfl | exact rAsgnE rfl rfl | exact rAsgn rfl) ?_
  refine WL_nil ?_
  by_cases hok : OkClk l
  rotate_left
  · refine W_seq ?_
    refine W_region ?_
    refine WL_val rfl rfl rfl (by first | exact rMoveS rfl rfl | exact rMove rfl) ?_
    refine WL_call rfl rfl rfl (rCall (vs := [.slice _ _ _]) rfl Tryd.func6 rfl rfl rfl) ?_
    refine (vectors_any A n c l D _ (h.pure hI.pu) (hI.oldp hg)).mono ?_
    rintro e w1 ⟨⟨hok', _⟩ | ⟨_, e', m, rfl, hE⟩, hp⟩
    · exact absurd hok' hok
    obtain ⟨t, u, rfl⟩ := hE.form
    refine ⟨_, rfl, ?_⟩
    replace hI := hI.pure hp
    refine WL_val rfl rfl rfl (by first | exact rMoveT rfl rfl | exact rMove rfl) ?_
    refine WL_val rfl rfl rfl (rExtr rfl rfl rfl) ?_
    refine WL_val rfl rfl rfl (rExtr rfl rfl rfl) ?_
    refine WL_val rfl rfl rfl (by first | exact rAsgnS rfl rfl | exact rAsgn rfl) ?_
    refine WL_val rfl rfl rfl (by first | exact rAsgnN rfl rfl | exact rAsgnE rfl rfl | exact rAsgn rfl) ?_
    refine WL_nil ?_
    refine W_seq ?_
    refine W_seq ?_
    refine W_region ?_
    refine WL_val rfl rfl rfl (by first | exact rMoveN rfl rfl | exact rMoveE rfl rfl | exact rMove rfl) ?_
    refine WL_val rfl rfl rfl (by first | exact rIfaceNe rfl Tryd.underlying25 rfl rfl | exact rNilNe rfl Tryd.underlying25 rfl) ?_
    refine WL_nil ?_
    refine W_cond true rfl ?_
    refine W_seq ?_
    refine W_region ?_
    refine WL_val rfl rfl rfl (rBuild (qs := []) (vs := [_, _, _, _, _, _, _, _]) [.slice none 0 0, .slice none 0 0, .slice none 0 0, .slice none 0 0, .slice none 0 0, .slice none 0 0, .slice none 0 0, .slice none 0 0] [] rfl rfl rfl (fun _ => by kernel_rfl)) ?_
    refine WL_val rfl rfl rfl (by first | exact rMoveN rfl rfl | exact rMoveE rfl rfl | exact rMove rfl) ?_
    first | refine WL_stw0 (u := .agg _) (vs := #[_, _, _, _, _, _, _, _]) (n := 8) hI rfl rfl rfl rfl rfl rfl (by kernel_rfl) rfl rfl rfl ?_
    clear hI; intro w hI
    refine WL_val rfl rfl rfl (by first | exact rAsgnN rfl rfl | exact rAsgnE rfl rfl | exact rAsgn rfl) ?_
    refine WL_nil ?_
    refine W_ret ?_
    refine retC2 (n := 8) (t := 52) (.inr rfl) rfl rfl (by kernel_rfl) (by kernel_rfl) rfl hI.g0 ?_
    exact .inr ⟨hok, ⟨_, _, _, rfl, rfl, rfl⟩, hI.pu⟩
  have h40 : n ≤ 40 := by have := hok.1; omega
  refine W_seq ?_
  refine W_region ?_
  refine WL_val rfl rfl rfl (by first | exact rMoveS rfl rfl | exact rMove rfl) ?_
  refine WL_call rfl rfl rfl (rCall (vs := [.slice _ _ _]) rfl Tryd.func6 rfl rfl rfl) ?_
  refine (vectors_any A n c l D _ (h.pure hI.pu) (hI.oldp hg)).mono ?_
  rintro e w1 ⟨⟨_, ob, rfl, hob, hge⟩ | ⟨hbad, _⟩, hp⟩
  rotate_left
  · exact absurd hok hbad
  rw [← hn] at hob
  refine ⟨.tuple #[.slice (some ⟨ob, 0, none⟩) n n, .nilIface], by rw [hn], ?_⟩
  replace hI := hI.fresh hp hob (fun k hk => by have : k = ob := hk; omega)
  refine WL_val rfl rfl rfl (by first | exact rMoveT rfl rfl | exact rMove rfl) ?_
  refine WL_val rfl rfl rfl (rExtr rfl rfl rfl) ?_
  refine WL_val rfl rfl rfl (rExtr rfl rfl rfl) ?_
  refine WL_val rfl rfl rfl (by first | exact rAsgnS rfl rfl | exact rAsgn rfl) ?_
  refine WL_val rfl rfl rfl (by first | exact rAsgnN rfl rfl | exact rAsgnE rfl rfl | exact rAsgn rfl) ?_
  refine WL_nil ?_
  clear hp hob hge
  refine W_seq ?_
  refine W_seq ?_
  refine W_region ?_
  refine WL_val rfl rfl rfl (by first | exact rMoveN rfl rfl | exact rMoveE rfl rfl | exact rMove rfl) ?_
  refine WL_val rfl rfl rfl (by first | exact rIfaceNe rfl Tryd.underlying25 rfl rfl | exact rNilNe rfl Tryd.underlying25 rfl) ?_
  refine WL_nil ?_
  refine W_cond false rfl ?_
  refine W_skip ?_
  refine W_seq ?_
  refine W_region ?_
  refine WL_alloc (u := .agg #[.slice none 0 0, .slice none 0 0, .slice none 0 0, .slice none 0 0, .slice none 0 0, .slice none 0 0, .slice none 0 0, .slice none 0 0]) (vs := #[.slice none 0 0, .slice none 0 0, .slice none 0 0, .slice none 0 0, .slice none 0 0, .slice none 0 0, .slice none 0 0, .slice none 0 0]) hI rfl rfl rfl rfl (by kernel_rfl) rfl ?_
  clear hI; rintro b6 w - - hI
  refine WL_nil ?_
  refine W_seq ?_
  refine W_seq ?_
  refine W_region ?_
  refine WL_val rfl rfl rfl (by first | exact rMoveS rfl rfl | exact rMove rfl) ?_
  refine WL_val rfl rfl rfl (rLen rfl Tryd.underlying22 rfl) ?_
  refine WL_val rfl rfl rfl (by first | exact rMoveI rfl rfl | exact rMove rfl) ?_
  refine WL_nil ?_
  replace hI : Inv (fun _ => False) w0 w [Many 8 (hisE l (fun _ => none) (fun _ => 0) 0), B b6 52 (hisC l (fun _ => none) (fun _ => 0) 0), B ob 37 (vgr n (vecF (prc l) (fromF l))), B b2 52 (rep (.slice none 0 0) 8)] :=
    hI.fresh (Pure.refl _) (Many.ok (fun i _ => Row.nil _ 0 37 8) (fun i j _ _ _ k hk => by simp [hisE, Row] at hk)) (fun k hk => by obtain ⟨i, _, hk⟩ := hk; simp [hisE, Row] at hk)
  refine W_block ?_
  refine W_loop (fun ρ w => ∃ (k : Nat) (As : Nat → Option Addr) (cs : Nat → Nat), k ≤ n ∧ Has ρ [(20, .int .i64 (k : Int)), (19, .int .i64 (n : Int)), (18, .slice A n c), (2, .pointer (some ⟨b2, 0, none⟩)), (4, .slice (some ⟨ob, 0, none⟩) n n), (6, .pointer (some ⟨b6, 0, none⟩))] ∧ Inv (fun _ => False) w0 w [Many 8 (hisE l As cs k), B b6 52 (hisC l As cs k), B ob 37 (vgr n (vecF (prc l) (fromF l))), B b2 52 (rep (.slice none 0 0) 8)]) (fun ρ _ => n - cnt (ρ 20))
    ⟨0, _, _, by omega, ⟨rfl, rfl, rfl, rfl, rfl, rfl, trivial⟩, hI⟩ ?_
  clear hI
  rintro ρ w ⟨k, As, cs, hk, hH, hI⟩
  obtain ⟨σ, rfl⟩ := hH.open
  by_cases hkn : k < n
  rotate_left
  · obtain rfl : k = n := by omega
    refine W_seq ?_
    refine W_region ?_
    refine WL_val rfl rfl rfl (by first | exact rLssT rfl rfl rfl (by omega) | exact rLssF rfl rfl rfl (by omega) | exact rLss rfl rfl rfl) ?_
    refine WL_nil ?_
    refine W_seq ?_
    refine W_cond false rfl ?_
    refine W_exit ?_
    refine W_seq ?_
    refine W_region ?_
    refine WL_val rfl rfl rfl (by first | exact rLdB (n := 8) rfl (by kernel_rfl) (by kernel_rfl) rfl (by first | rfl | (simp only [i64s, Value.cells, List.size_toArray, List.length_map]; omega)) hI.g0 | exact rLdB (n := 8) rfl (by kernel_rfl) (by kernel_rfl) rfl (by first | rfl | (simp only [i64s, Value.cells, List.size_toArray, List.length_map]; omega)) hI.g1) ?_
    refine WL_stw3 (u := .agg _) (vs := hisC l As cs k) (n := 8) hI rfl rfl rfl rfl rfl rfl (by kernel_rfl) (by simp [hisC]) rfl (by simp [hisC, Value.oneCell']) ?_
    clear hI; intro w hI
    refine WL_val rfl rfl rfl (by first | exact rAsgnN rfl rfl | exact rAsgn rfl) ?_
    refine WL_nil ?_
    refine W_ret ?_
    refine retC2 (n := 8) (t := 52) (.inr rfl) rfl rfl (by kernel_rfl) (by kernel_rfl) (by simp [hisC]) hI.g3 ?_
    refine .inl ⟨hok, As, cs, by rw [← hn]; rfl, ?_⟩
    rw [← hn]; exact hI.d1.d1.d1
  obtain ⟨bA, oA, rfl, q0, q1, q2⟩ := h.at (show k < l.length by omega)
  have hcn := ckE_none (hok.2 k (by omega))
  obtain ⟨pn, hpn⟩ : ∃ pn : Nat, (cAt l k).proc = (pn : Int) := ⟨(cAt l k).proc.toNat, by omega⟩
  have hpn8 : pn < 8 := by omega
  have hpt : prc l k = pn := by show (cAt l k).proc.toNat = pn; omega
  have hlk : hlen l k pn ≤ k := hix_le ..
  refine W_seq ?_
  refine W_region ?_
  refine WL_val rfl rfl rfl (by first | exact rLssT rfl rfl rfl (by omega) | exact rLssF rfl rfl rfl (by omega) | exact rLss rfl rfl rfl) ?_
  refine WL_nil ?_
  refine W_seq ?_
  refine W_cond true rfl ?_
  refine W_skip ?_
  refine W_seq ?_
  refine W_block ?_
  refine W_seq ?_
  refine W_region ?_
  refine WL_val rfl rfl rfl (by first | exact rMoveI rfl rfl | exact rMove rfl) ?_
  refine WL_val rfl rfl rfl (rIdx (sz := 3) rfl Tryd.underlying22 (by kernel_rfl) rfl rfl (by omega)) ?_
  refine WL_val rfl rfl rfl (by first | exact rLdB (n := 3) rfl (by kernel_rfl) (by kernel_rfl) rfl rfl hI.g0 | exact rLd3 rfl (by kernel_rfl) (by kernel_rfl) rfl (by first | exact hI.c0 rfl | exact hI.oldp q0 | exact q0 | exact hI.oldp q1 | exact q1 | exact hI.oldp q2 | exact q2) (by first | exact hI.c0 rfl | exact hI.oldp q0 | exact q0 | exact hI.oldp q1 | exact q1 | exact hI.oldp q2 | exact q2) (by first | exact hI.c0 rfl | exact hI.oldp q0 | exact q0 | exact hI.oldp q1 | exact q1 | exact hI.oldp q2 | exact q2)) ?_
  refine WL_alloc (u := .agg #[.int .i64 0, .int .i64 0, .int .i64 0]) (vs := #[.int .i64 0, .int .i64 0, .int .i64 0]) hI rfl rfl rfl rfl (by kernel_rfl) rfl ?_
  clear hI; rintro b8 w - - hI
  refine WL_val rfl rfl rfl (by first | exact rAsgnI rfl rfl | exact rAsgn rfl) ?_
  first | refine WL_stw0 (u := .agg _) (vs := #[_, _, _]) (n := 3) hI rfl rfl rfl rfl rfl rfl (by kernel_rfl) rfl rfl rfl ?_
  clear hI; intro w hI
  refine WL_nil ?_
  replace hI := hI.sw0.many_out hpn8
  have hgt := hisC_get (l := l) (As := As) (cs := cs) (k := k) hpn8
  refine W_draw (by kernel_rfl) ?_
  refine WA_inv (T := [13]) hI.d0.drew ?_
  intro Sx hSx hXS
  replace hI := hI.drew
  refine WT_take 0 rfl rfl (by kernel_rfl) (hXS _ hI.d0) rfl (fun W hW => have hI := hSx W hW; (by first | exact rFldN (off := 0) rfl (by kernel_rfl) rfl | exact rFld0 rfl (by kernel_rfl) rfl)) ?_
  refine WT_take 1 rfl rfl (by kernel_rfl) (hXS _ hI.d0) rfl (fun W hW => have hI := hSx W hW; (by first | exact rLd (v := .int .i64 _) rfl (by kernel_rfl) rfl (by first | exact (hI.c1 rfl) | exact (at_mul (hI.c2 hgt))) | exact rLd rfl (by kernel_rfl) rfl (by first | exact (hI.c1 rfl) | exact (at_mul (hI.c2 hgt))))) ?_
  refine WT_take 2 rfl rfl (by kernel_rfl) (hXS _ hI.d0) rfl (fun W hW => have hI := hSx W hW; (by first | exact rFldN (off := 0) rfl (by kernel_rfl) rfl | exact rFld0 rfl (by kernel_rfl) rfl)) ?_
  refine WT_take 3 rfl rfl (by kernel_rfl) (hXS _ hI.d0) rfl (fun W hW => have hI := hSx W hW; (by first | exact rLd (v := .int .i64 _) rfl (by kernel_rfl) rfl (by first | exact (hI.c1 rfl) | exact (at_mul (hI.c2 hgt))) | exact rLd rfl (by kernel_rfl) rfl (by first | exact (hI.c1 rfl) | exact (at_mul (hI.c2 hgt))))) ?_
  refine WT_take 4 rfl rfl (by kernel_rfl) (hXS _ hI.d0) rfl (fun W hW => have hI := hSx W hW; (rIdxArr (sz := 1) (i := pn) rfl Tryd.underlying52 (by kernel_rfl) rfl rfl hpn hpn8)) ?_
  refine WT_take 5 rfl rfl (by kernel_rfl) (hXS _ hI.d0) rfl (fun W hW => have hI := hSx W hW; (by first | exact rLd (v := .slice _ _ _) rfl (by kernel_rfl) rfl (by first | exact (hI.c1 rfl) | exact (at_mul (hI.c2 hgt))) | exact rLd rfl (by kernel_rfl) rfl (by first | exact (hI.c1 rfl) | exact (at_mul (hI.c2 hgt))))) ?_
  refine WT_take 6 rfl rfl (by kernel_rfl) (hXS _ hI.d0) rfl (fun W hW => have hI := hSx W hW; (by first | exact rMoveS rfl rfl | exact rMove rfl)) ?_
  refine WT_take 7 rfl rfl (by kernel_rfl) (hXS _ hI.d0) rfl (fun W hW => have hI := hSx W hW; (by first | exact rMoveI rfl rfl | exact rMove rfl)) ?_
  refine WT_take 8 rfl rfl (by kernel_rfl) (hXS _ hI.d0) rfl (fun W hW => have hI := hSx W hW; (rIdx (sz := 8) rfl Tryd.underlying23 (by kernel_rfl) rfl rfl (by omega))) ?_
  refine WT_take 9 rfl rfl (by kernel_rfl) (hXS _ hI.d0) rfl (fun W hW => have hI := hSx W hW; (by first | exact rLdA (n := 8) rfl (by kernel_rfl) (by kernel_rfl) rfl (by rfl) (fun k u hk => hI.oldp ((vgr_row hI.g3 hkn) k u hk)) | exact rLdA (n := 8) rfl (by kernel_rfl) (by kernel_rfl) rfl (by rfl) (vgr_row hI.g3 hkn))) ?_
  refine WT_one 10 rfl (by kernel_rfl) rfl ?_
  refine WL_litA (e := 37) (size := 8) [i64s (vec l k)] hI rfl rfl rfl rfl rfl Tryd.underlying23 (by kernel_rfl) (by kernel_rfl) rfl (by simp [i64s, vl]) (by omega) ?_
  clear hI; rintro b35 w - - hI
  refine WL_nil ⟨hXS _ hI.d0.d0, ?_⟩
  refine WT_one 11 rfl (by kernel_rfl) rfl ?_
  first | refine WL_app1 (z := .agg #[.int .i64 0, .int .i64 0, .int .i64 0, .int .i64 0, .int .i64 0, .int .i64 0, .int .i64 0, .int .i64 0]) (by_ := 64) hI rfl rfl rfl rfl rfl rfl Tryd.underlying23 (by kernel_rfl) rfl (by omega) (by rfl) hI.lit0 (by first | rfl | simp [i64s, Value.oneCell']) (by omega) (by omega) (by first | exact Nat.zero_le _ | (have := hI.chg.size; omega)) ?_ | refine WL_app2 (z := .agg #[.int .i64 0, .int .i64 0, .int .i64 0, .int .i64 0, .int .i64 0, .int .i64 0, .int .i64 0, .int .i64 0]) (by_ := 64) hI rfl rfl rfl rfl rfl rfl Tryd.underlying23 (by kernel_rfl) rfl (by omega) (by rfl) hI.lit0 (by first | rfl | simp [i64s, Value.oneCell']) (by omega) (by omega) (by first | exact Nat.zero_le _ | (have := hI.chg.size; omega)) ?_ | refine WL_app3 (z := .agg #[.int .i64 0, .int .i64 0, .int .i64 0, .int .i64 0, .int .i64 0, .int .i64 0, .int .i64 0, .int .i64 0]) (by_ := 64) hI rfl rfl rfl rfl rfl rfl Tryd.underlying23 (by kernel_rfl) rfl (by omega) (by rfl) hI.lit0 (by first | rfl | simp [i64s, Value.oneCell']) (by omega) (by omega) (by first | exact Nat.zero_le _ | (have := hI.chg.size; omega)) ?_ | refine WL_app4 (z := .agg #[.int .i64 0, .int .i64 0, .int .i64 0, .int .i64 0, .int .i64 0, .int .i64 0, .int .i64 0, .int .i64 0]) (by_ := 64) hI rfl rfl rfl rfl rfl rfl Tryd.underlying23 (by kernel_rfl) rfl (by omega) (by rfl) hI.lit0 (by first | rfl | simp [i64s, Value.oneCell']) (by omega) (by omega) (by first | exact Nat.zero_le _ | (have := hI.chg.size; omega)) ?_ | refine WL_app5 (z := .agg #[.int .i64 0, .int .i64 0, .int .i64 0, .int .i64 0, .int .i64 0, .int .i64 0, .int .i64 0, .int .i64 0]) (by_ := 64) hI rfl rfl rfl rfl rfl rfl Tryd.underlying23 (by kernel_rfl) rfl (by omega) (by rfl) hI.lit0 (by first | rfl | simp [i64s, Value.oneCell']) (by omega) (by omega) (by first | exact Nat.zero_le _ | (have := hI.chg.size; omega)) ?_
  clear hI; rintro A36 c36 w hA36 hc36 hI
  replace hI := hI.d0
  refine WL_nil ⟨hXS _ hI.d0, ?_⟩
  refine WT_take 12 rfl rfl (by kernel_rfl) (hXS _ hI.d0) rfl (fun W hW => have hI := hSx W hW; (rIdxArr (sz := 1) (i := pn) rfl Tryd.underlying52 (by kernel_rfl) rfl rfl hpn hpn8)) ?_
  refine WT_A (by kernel_rfl) ?_
  clear hXS hSx
  refine WA_one 13 rfl (by kernel_rfl) ?_
  refine WL_st3 (u := .slice _ _ _) (j := 0 + pn * 1) hI rfl rfl rfl rfl rfl rfl (by kernel_rfl) rfl (by simp [Nat.blt, hisC]; omega) rfl ?_
  rw [Nat.zero_add, Nat.mul_one, hisC_set hpt]
  clear hI; intro w hI
  refine WL_nil ?_
  refine WA_end (by kernel_rfl) ?_
  refine W_region ?_
  refine WL_val rfl rfl rfl (by first | exact rInc rfl rfl rfl (by omega) | exact rAdd rfl rfl rfl (by omega) | exact rAddW rfl rfl rfl) ?_
  refine WL_val rfl rfl rfl (by first | exact rMoveI rfl rfl | exact rMove rfl) ?_
  refine WL_nil ?_
  refine ⟨⟨k + 1, (fun x => if x = pn then A36 else As x), (fun x => if x = pn then c36 else cs x), by omega, ⟨rfl, rfl, rfl, rfl, rfl, rfl, trivial⟩, ?_⟩, by show n - ((k + 1 : Nat) : Int).toNat < n - (k : Int).toNat; omega⟩
  refine (hI.many_in hpn8 (by simp)).many_congr (fun i hi => ?_) |>.d1
  by_cases hip : i = pn
  · subst hip; rw [hisE_here hpt]; simp
  · simp only [if_neg hip]; rw [hisE_same hpt hip]
end Go.Proofs.YtajbhabkhgpcfaaDoor
