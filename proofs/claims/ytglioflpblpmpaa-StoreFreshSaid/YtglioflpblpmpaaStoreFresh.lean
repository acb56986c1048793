/- StoreFresh: the law walked. -/
import Derived.Test.YtglioflpblpmpaaStoV
namespace Go.Proofs.Ytglioflpblpmpaa
open Go.RowKit
set_option linter.unusedVariables false
set_option linter.unusedSimpArgs false
set_option maxHeartbeats 8000000 in
theorem fresh_any (n k a t : Int) (b : Bool) (A : Option Addr) (c : Nat) (ms : List PMove) (D : Nat → Prop) (w0 : World) (hR : Rd w0 D 4 (.slice A ms.length c) ms.length (ms.flatMap pmL)) :
    Calls Try.prog 3 #[.agg #[.int .i64 n, .int .i64 k, .int .i64 a, .int .i64 t, .bool b], .slice A ms.length c] w0 fun en w' => en = .returned (.bool true) ∧ Pure w0 w' := by
  have hI := Inv.start (fun _ => False) w0
  refine calls_of_W (N := Try.f3.ntmps) Try.func3 rfl rfl rfl ?_
  refine W_seq ?_
  refine W_region ?_
  refine WL_box (u := .agg _) (vs := #[_, _, _, _, _]) hI rfl rfl rfl rfl rfl rfl ?_
  clear hI; rintro b2 w - - hI
  refine WL_val rfl rfl rfl (by first | exact rAsgnB rfl rfl | exact rAsgn rfl) ?_
  refine WL_nil ?_
  by_cases hlen : 250 < ms.length
  · refine W_seq ?_
    refine W_seq ?_
    refine W_region ?_
    refine WL_val rfl rfl rfl (by first | exact rMoveS rfl rfl | exact rMove rfl) ?_
    refine WL_val rfl rfl rfl (rLen rfl Try.underlying24 rfl) ?_
    refine WL_val rfl rfl rfl (by first | exact rGtrT rfl rfl rfl (by omega) | exact rGtrF rfl rfl rfl (by omega) | exact rGtr rfl rfl rfl) ?_
    refine WL_nil ?_
    refine W_cond true rfl ?_
    refine W_seq ?_
    refine W_region ?_
    refine WL_val rfl rfl rfl (by first | exact rAsgnB rfl rfl | exact rAsgn rfl) ?_
    refine WL_nil ?_
    refine W_ret ?_
    exact ret1 4 (.inr rfl) rfl ⟨rfl, hI.pu⟩
  refine W_seq ?_
  refine W_seq ?_
  refine W_region ?_
  refine WL_val rfl rfl rfl (by first | exact rMoveS rfl rfl | exact rMove rfl) ?_
  refine WL_val rfl rfl rfl (rLen rfl Try.underlying24 rfl) ?_
  refine WL_val rfl rfl rfl (by first | exact rGtrT rfl rfl rfl (by omega) | exact rGtrF rfl rfl rfl (by omega) | exact rGtr rfl rfl rfl) ?_
  refine WL_nil ?_
  refine W_cond false rfl ?_
  refine W_skip ?_
  by_cases hset : SetOk n k a t
  rotate_left
  · refine W_seq ?_
    refine W_seq ?_
    refine W_region ?_
    refine WL_call rfl rfl rfl (rCall (vs := []) rfl Try.func5 rfl rfl rfl) ?_
    refine (stores_any _).mono ?_
    rintro e w1 ⟨rfl, hp⟩
    refine ⟨_, rfl, ?_⟩
    replace hI := hI.pure hp
    refine WL_val rfl rfl rfl (by first | exact rNotT rfl rfl | exact rNotF rfl rfl | exact rNot rfl rfl) ?_
    refine WL_val rfl rfl rfl (by first | exact rMoveB rfl rfl | exact rMove rfl) ?_
    first | refine WL_val rfl rfl rfl (by first | exact rLdB (n := 5) rfl (by kernel_rfl) (by kernel_rfl) rfl rfl hI.g0) ?_ | refine WL_skip rfl rfl rfl ?_
    refine WL_call rfl rfl rfl (rCall (vs := [.agg _]) rfl Try.func6 rfl rfl rfl) ?_
    refine (scheck_any n k a t b _).mono ?_
    rintro e w2 ⟨⟨hb, _⟩ | ⟨_, z, rfl⟩, hp⟩
    · exact absurd hb hset
    refine ⟨_, rfl, ?_⟩
    replace hI := hI.pure hp
    first | refine WL_val rfl rfl rfl (by first | exact rIfaceNe rfl Try.underlying27 rfl rfl | exact rNilNe rfl Try.underlying27 rfl) ?_ | refine WL_skip rfl rfl rfl ?_
    refine WL_val rfl rfl rfl (by first | exact rPickTB rfl rfl rfl | exact rPickFB rfl rfl rfl | exact rPickB rfl rfl rfl rfl) ?_
    refine WL_val rfl rfl rfl (by first | exact rMoveB rfl rfl | exact rMove rfl) ?_
    refine WL_skip rfl rfl rfl ?_
    refine WL_skip rfl rfl rfl ?_
    refine WL_skip rfl rfl rfl ?_
    refine WL_val rfl rfl rfl (by first | exact rPickTB rfl rfl rfl | exact rPickFB rfl rfl rfl | exact rPickB rfl rfl rfl rfl) ?_
    refine WL_nil ?_
    refine W_cond true rfl ?_
    refine W_seq ?_
    refine W_region ?_
    refine WL_call rfl rfl rfl (rCall (vs := []) rfl Try.func5 rfl rfl rfl) ?_
    refine (stores_any _).mono ?_
    rintro e w1 ⟨rfl, hp⟩
    refine ⟨_, rfl, ?_⟩
    replace hI := hI.pure hp
    refine WL_val rfl rfl rfl (by first | exact rAsgnB rfl rfl | exact rAsgn rfl) ?_
    refine WL_nil ?_
    refine W_ret ?_
    exact ret1 4 (.inr rfl) rfl ⟨rfl, hI.pu⟩
  by_cases hcross : n < a + t
  rotate_left
  · refine W_seq ?_
    refine W_seq ?_
    refine W_region ?_
    refine WL_call rfl rfl rfl (rCall (vs := []) rfl Try.func5 rfl rfl rfl) ?_
    refine (stores_any _).mono ?_
    rintro e w1 ⟨rfl, hp⟩
    refine ⟨_, rfl, ?_⟩
    replace hI := hI.pure hp
    refine WL_val rfl rfl rfl (by first | exact rNotT rfl rfl | exact rNotF rfl rfl | exact rNot rfl rfl) ?_
    refine WL_val rfl rfl rfl (by first | exact rMoveB rfl rfl | exact rMove rfl) ?_
    first | refine WL_val rfl rfl rfl (by first | exact rLdB (n := 5) rfl (by kernel_rfl) (by kernel_rfl) rfl rfl hI.g0) ?_ | refine WL_skip rfl rfl rfl ?_
    refine WL_call rfl rfl rfl (rCall (vs := [.agg _]) rfl Try.func6 rfl rfl rfl) ?_
    refine (scheck_any n k a t b _).mono ?_
    rintro e w2 ⟨⟨_, rfl⟩ | ⟨hb, _⟩, hp⟩
    rotate_left
    · exact absurd hset hb
    refine ⟨_, rfl, ?_⟩
    replace hI := hI.pure hp
    first | refine WL_val rfl rfl rfl (by first | exact rIfaceNe rfl Try.underlying27 rfl rfl | exact rNilNe rfl Try.underlying27 rfl) ?_ | refine WL_skip rfl rfl rfl ?_
    refine WL_val rfl rfl rfl (by first | exact rPickTB rfl rfl rfl | exact rPickFB rfl rfl rfl | exact rPickB rfl rfl rfl rfl) ?_
    refine WL_val rfl rfl rfl (by first | exact rMoveB rfl rfl | exact rMove rfl) ?_
    first | refine WL_val rfl rfl rfl (by first | exact rLdB (n := 5) rfl (by kernel_rfl) (by kernel_rfl) rfl rfl hI.g0) ?_ | refine WL_skip rfl rfl rfl ?_
    refine WL_call rfl rfl rfl (rCall (vs := [.agg _]) rfl Try.func7 rfl rfl rfl) ?_
    refine (crossing_any n k a t b _ hset).mono ?_
    rintro e w3 ⟨rfl, hp⟩
    rw [decide_eq_false hcross]
    refine ⟨_, rfl, ?_⟩
    replace hI := hI.pure hp
    first | refine WL_val rfl rfl rfl (by first | exact rNotT rfl rfl | exact rNotF rfl rfl | exact rNot rfl rfl) ?_ | refine WL_skip rfl rfl rfl ?_
    refine WL_val rfl rfl rfl (by first | exact rPickTB rfl rfl rfl | exact rPickFB rfl rfl rfl | exact rPickB rfl rfl rfl rfl) ?_
    refine WL_nil ?_
    refine W_cond true rfl ?_
    refine W_seq ?_
    refine W_region ?_
    refine WL_call rfl rfl rfl (rCall (vs := []) rfl Try.func5 rfl rfl rfl) ?_
    refine (stores_any _).mono ?_
    rintro e w1 ⟨rfl, hp⟩
    refine ⟨_, rfl, ?_⟩
    replace hI := hI.pure hp
    refine WL_val rfl rfl rfl (by first | exact rAsgnB rfl rfl | exact rAsgn rfl) ?_
    refine WL_nil ?_
    refine W_ret ?_
    exact ret1 4 (.inr rfl) rfl ⟨rfl, hI.pu⟩
  refine W_seq ?_
  refine W_seq ?_
  refine W_region ?_
  refine WL_call rfl rfl rfl (rCall (vs := []) rfl Try.func5 rfl rfl rfl) ?_
  refine (stores_any _).mono ?_
  rintro e w1 ⟨rfl, hp⟩
  refine ⟨_, rfl, ?_⟩
  replace hI := hI.pure hp
  refine WL_val rfl rfl rfl (by first | exact rNotT rfl rfl | exact rNotF rfl rfl | exact rNot rfl rfl) ?_
  refine WL_val rfl rfl rfl (by first | exact rMoveB rfl rfl | exact rMove rfl) ?_
  first | refine WL_val rfl rfl rfl (by first | exact rLdB (n := 5) rfl (by kernel_rfl) (by kernel_rfl) rfl rfl hI.g0) ?_ | refine WL_skip rfl rfl rfl ?_
  refine WL_call rfl rfl rfl (rCall (vs := [.agg _]) rfl Try.func6 rfl rfl rfl) ?_
  refine (scheck_any n k a t b _).mono ?_
  rintro e w2 ⟨⟨_, rfl⟩ | ⟨hb, _⟩, hp⟩
  rotate_left
  · exact absurd hset hb
  refine ⟨_, rfl, ?_⟩
  replace hI := hI.pure hp
  first | refine WL_val rfl rfl rfl (by first | exact rIfaceNe rfl Try.underlying27 rfl rfl | exact rNilNe rfl Try.underlying27 rfl) ?_ | refine WL_skip rfl rfl rfl ?_
  refine WL_val rfl rfl rfl (by first | exact rPickTB rfl rfl rfl | exact rPickFB rfl rfl rfl | exact rPickB rfl rfl rfl rfl) ?_
  refine WL_val rfl rfl rfl (by first | exact rMoveB rfl rfl | exact rMove rfl) ?_
  first | refine WL_val rfl rfl rfl (by first | exact rLdB (n := 5) rfl (by kernel_rfl) (by kernel_rfl) rfl rfl hI.g0) ?_ | refine WL_skip rfl rfl rfl ?_
  refine WL_call rfl rfl rfl (rCall (vs := [.agg _]) rfl Try.func7 rfl rfl rfl) ?_
  refine (crossing_any n k a t b _ hset).mono ?_
  rintro e w3 ⟨rfl, hp⟩
  rw [decide_eq_true hcross]
  refine ⟨_, rfl, ?_⟩
  replace hI := hI.pure hp
  first | refine WL_val rfl rfl rfl (by first | exact rNotT rfl rfl | exact rNotF rfl rfl | exact rNot rfl rfl) ?_ | refine WL_skip rfl rfl rfl ?_
  refine WL_val rfl rfl rfl (by first | exact rPickTB rfl rfl rfl | exact rPickFB rfl rfl rfl | exact rPickB rfl rfl rfl rfl) ?_
  refine WL_nil ?_
  refine W_cond false rfl ?_
  refine W_skip ?_
  obtain ⟨n, rfl⟩ : ∃ n' : Nat, n = (n' : Int) := ⟨n.toNat, by unfold SetOk at hset; omega⟩
  obtain ⟨k, rfl⟩ : ∃ n' : Nat, k = (n' : Int) := ⟨k.toNat, by unfold SetOk at hset; omega⟩
  obtain ⟨a, rfl⟩ : ∃ n' : Nat, a = (n' : Int) := ⟨a.toNat, by unfold SetOk at hset; omega⟩
  obtain ⟨t, rfl⟩ : ∃ n' : Nat, t = (n' : Int) := ⟨t.toNat, by unfold SetOk at hset; omega⟩
  refine W_seq ?_
  refine W_region ?_
  refine WL_val rfl rfl rfl (by first | exact rLdB (n := 5) rfl (by kernel_rfl) (by kernel_rfl) rfl rfl hI.g0) ?_
  refine WL_val rfl rfl rfl (by first | exact rMoveS rfl rfl | exact rMove rfl) ?_
  refine WL_call rfl rfl rfl (rCall (vs := [.agg _, .slice _ _ _]) rfl Try.func8 rfl rfl rfl) ?_
  refine (moved_any n k a t b hset A c ms D _ (hR.pure hI.pu) (by omega)).mono ?_
  rintro e w4 ⟨L, s, rfl, hmv, hok, hJ⟩
  refine ⟨_, rfl, ?_⟩
  replace hI := (Inv.callB (X := [_]) (l := []) (by rw [List.append_nil]; exact hI) (l' := spt L s) ⟨hJ.chg.mono (fun _ _ h => h.elim), hJ.ok, fun e he k hk => .inr ((hJ.own e he k hk).resolve_left id), hJ.apart⟩)
  refine WL_val rfl rfl rfl (by first | exact rAsgnP rfl rfl | exact rAsgn rfl) ?_
  refine WL_nil ?_
  have hS : SInv s := (SInv.s0 (k := k) (b := b) (by omega)).mvs hmv
  refine W_seq ?_
  refine W_seq ?_
  refine W_region ?_
  refine WL_val rfl rfl rfl (by first | exact rMoveP rfl rfl | exact rMove rfl) ?_
  refine WL_val rfl rfl rfl (rPtrEq rfl Try.underlying30 rfl rfl) ?_
  refine WL_nil ?_
  refine W_cond false rfl ?_
  refine W_skip ?_
  have hel := hok.elen
  have hll := hS.len
  refine W_seq ?_
  refine W_region ?_
  refine WL_val rfl rfl rfl (by first | exact rMoveP rfl rfl | exact rMove rfl) ?_
  refine WL_call rfl rfl rfl (rCall (vs := [.pointer _]) rfl Try.func9 rfl rfl rfl) ?_
  refine (events_any L s (DLs _) _ (hI.fromB (X := [_])) (by omega)).mono ?_
  rintro en w5 ⟨EA, ec, rfl, hJ⟩
  refine ⟨_, rfl, ?_⟩
  replace hI := hI.callB (X := [_]) hJ
  refine WL_val rfl rfl rfl (by first | exact rMoveP rfl rfl | exact rMove rfl) ?_
  refine WL_call rfl rfl rfl (rCall (vs := [.pointer _]) rfl Try.func10 rfl rfl rfl) ?_
  refine (stamps_any L s (DLs _) _ (hI.fromB (X := [_, _])) (by omega)).mono ?_
  rintro en w6 ⟨SA, sc, rfl, hJ⟩
  refine ⟨_, rfl, ?_⟩
  replace hI := hI.callB (X := [_, _]) hJ
  refine WL_val rfl rfl rfl (by first | exact rAsgnS rfl rfl | exact rAsgn rfl) ?_
  refine WL_val rfl rfl rfl (by first | exact rAsgnS rfl rfl | exact rAsgn rfl) ?_
  refine WL_nil ?_
  refine W_seq ?_
  refine W_seq ?_
  refine W_region ?_
  refine WL_val rfl rfl rfl (by first | exact rMoveS rfl rfl | exact rMove rfl) ?_
  refine WL_val rfl rfl rfl (rLen rfl Try.underlying32 rfl) ?_
  refine WL_val rfl rfl rfl (by first | exact rMoveS rfl rfl | exact rMove rfl) ?_
  refine WL_val rfl rfl rfl (rLen rfl Try.underlying34 rfl) ?_
  refine WL_val rfl rfl rfl (by first | exact rNeqT rfl rfl rfl (by omega) | exact rNeqF rfl rfl rfl (by omega) | exact rNeq rfl rfl rfl) ?_
  refine WL_nil ?_
  refine W_cond false rfl ?_
  refine W_skip ?_
  have hback : s.back = b := hmv.back
  have hP : Pure w0 w6 := hI.pu
  obtain ⟨eb, eo, hEA, hE⟩ := row_all (f := evL) (size := 7) (fun _ => rfl) (by omega) hI.g1
  obtain ⟨tb, to, hSA, hT⟩ := row_all (f := stL) (size := 2) (fun _ => rfl) (by omega) hI.g2
  have qb : w6.cell? ⟨b2, 4, none⟩ = some (.bool b) := hI.c0 rfl
  clear hI hJ
  refine W_seq ?_
  refine W_seq ?_
  refine W_region ?_
  refine WL_val rfl rfl rfl (by first | exact rAsgnI rfl rfl | exact rAsgn rfl) ?_
  refine WL_nil ?_
  refine W_block ?_
  refine W_loopN (fun mu ρ w => ∃ i : Nat, i ≤ s.evs.length ∧ mu = s.evs.length - i ∧ Has ρ [(8, .int .i64 (i : Int)), (6, .slice EA s.evs.length ec), (7, .slice SA s.sts.length sc), (2, .pointer (some ⟨b2, 0, none⟩))] ∧ Pure w6 w) s.evs.length
    ⟨0, by omega, by omega, ⟨rfl, rfl, rfl, rfl, trivial⟩, Pure.refl _⟩ ?_
  rintro mu ρ w ⟨i, hi, rfl, hH, hpw⟩
  obtain ⟨σ, rfl⟩ := hH.open
  have hI := (Inv.start (fun _ => False) w6).pure hpw
  by_cases hil : i < s.evs.length
  rotate_left
  · obtain rfl : i = s.evs.length := by omega
    refine W_seq ?_
    refine W_seq ?_
    refine W_region ?_
    refine WL_val rfl rfl rfl (by first | exact rMoveI rfl rfl | exact rMove rfl) ?_
    refine WL_val rfl rfl rfl (by first | exact rMoveS rfl rfl | exact rMove rfl) ?_
    refine WL_val rfl rfl rfl (rLen rfl Try.underlying32 rfl) ?_
    refine WL_val rfl rfl rfl (by first | exact rLssT rfl rfl rfl (by omega) | exact rLssF rfl rfl rfl (by omega) | exact rLss rfl rfl rfl) ?_
    refine WL_nil ?_
    refine W_cond false rfl ?_
    refine W_exit ?_
    refine W_seq ?_
    refine W_region ?_
    refine WL_val rfl rfl rfl (by first | exact rAsgnB rfl rfl | exact rAsgn rfl) ?_
    refine WL_nil ?_
    refine W_ret ?_
    exact ret1 4 (.inr rfl) rfl ⟨rfl, hP.trans hI.pu⟩
  have hEA' := hEA (by omega)
  have hSA' := hSA (by omega)
  subst hEA' hSA'
  refine W_seq ?_
  refine W_seq ?_
  refine W_region ?_
  refine WL_val rfl rfl rfl (by first | exact rMoveI rfl rfl | exact rMove rfl) ?_
  refine WL_val rfl rfl rfl (by first | exact rMoveS rfl rfl | exact rMove rfl) ?_
  refine WL_val rfl rfl rfl (rLen rfl Try.underlying32 rfl) ?_
  refine WL_val rfl rfl rfl (by first | exact rLssT rfl rfl rfl (by omega) | exact rLssF rfl rfl rfl (by omega) | exact rLss rfl rfl rfl) ?_
  refine WL_nil ?_
  refine W_cond true rfl ?_
  refine W_skip ?_
  obtain ⟨e, he⟩ : ∃ e, s.evs[i]? = some e := ⟨_, List.getElem?_eq_getElem hil⟩
  obtain ⟨st, hst⟩ : ∃ st, s.sts[i]? = some st := ⟨_, List.getElem?_eq_getElem (by omega)⟩
  have e1 := hE i e he 1 _ rfl
  have e2 := hE i e he 2 _ rfl
  have e3 := hE i e he 3 _ rfl
  have s0q := hT i st hst 0 _ rfl
  have s1q := hT i st hst 1 _ rfl
  rw [Nat.add_zero] at s0q
  refine W_seq_cut (fun ρ w => Has ρ [(8, .int .i64 (i : Int)), (6, .slice (some ⟨eb, eo, none⟩) s.evs.length ec), (7, .slice (some ⟨tb, to, none⟩) s.sts.length sc), (2, .pointer (some ⟨b2, 0, none⟩))] ∧ Pure w6 w) ?_ ?_
  rotate_left
  · clear hI
    rintro ρ w ⟨hH, hpw⟩
    obtain ⟨σ, rfl⟩ := hH.open
    have hI := (Inv.start (fun _ => False) w6).pure hpw
    refine W_region ?_
    refine WL_val rfl rfl rfl (by first | exact rMoveI rfl rfl | exact rMove rfl) ?_
    refine WL_val rfl rfl rfl (by first | exact rInc rfl rfl rfl (by omega) | exact rAdd rfl rfl rfl (by omega) | exact rAddW rfl rfl rfl) ?_
    refine WL_val rfl rfl rfl (by first | exact rAsgnI rfl rfl | exact rAsgn rfl) ?_
    refine WL_nil ?_
    exact ⟨s.evs.length - (i + 1), by omega, i + 1, by omega, rfl, ⟨rfl, rfl, rfl, rfl, trivial⟩, hI.pu⟩
  refine W_block ?_
  by_cases hty : e.ty = 2
  rotate_left
  · refine W_seq ?_
    refine W_seq ?_
    refine W_region ?_
    refine WL_val rfl rfl rfl (by first | exact rMoveS rfl rfl | exact rMove rfl) ?_
    refine WL_val rfl rfl rfl (by first | exact rMoveI rfl rfl | exact rMove rfl) ?_
    refine WL_val rfl rfl rfl (rIdx (sz := 7) rfl Try.underlying32 (by kernel_rfl) rfl rfl (by omega)) ?_
    refine WL_val rfl rfl rfl (by first | exact rFldN (off := 1) rfl (by kernel_rfl) rfl | exact rFld (off := 1) rfl (by kernel_rfl) rfl) ?_
    refine WL_val rfl rfl rfl (by first | exact rLd (v := .int .i64 _) rfl (by kernel_rfl) rfl (by first | exact hI.c0 rfl | exact hI.c1 rfl | exact hI.c2 rfl | exact hI.c3 rfl | exact hI.c4 rfl | exact hI.c5 rfl | exact hI.oldp e1 | exact e1) | exact rLd rfl (by kernel_rfl) rfl (by first | exact hI.c0 rfl | exact hI.c1 rfl | exact hI.c2 rfl | exact hI.c3 rfl | exact hI.c4 rfl | exact hI.c5 rfl | exact hI.oldp e1 | exact e1)) ?_
    refine WL_val rfl rfl rfl (by first | exact rNeqT rfl rfl rfl (by omega) | exact rNeqF rfl rfl rfl (by omega) | exact rNeq rfl rfl rfl) ?_
    refine WL_val rfl rfl rfl (by first | exact rMoveB rfl rfl | exact rMove rfl) ?_
    refine WL_skip rfl rfl rfl ?_
    refine WL_skip rfl rfl rfl ?_
    refine WL_skip rfl rfl rfl ?_
    refine WL_skip rfl rfl rfl ?_
    refine WL_skip rfl rfl rfl ?_
    refine WL_skip rfl rfl rfl ?_
    refine WL_skip rfl rfl rfl ?_
    refine WL_skip rfl rfl rfl ?_
    refine WL_skip rfl rfl rfl ?_
    refine WL_skip rfl rfl rfl ?_
    refine WL_skip rfl rfl rfl ?_
    refine WL_val rfl rfl rfl (by first | exact rPickTB rfl rfl rfl | exact rPickFB rfl rfl rfl | exact rPickB rfl rfl rfl rfl) ?_
    refine WL_nil ?_
    refine W_cond true rfl ?_
    refine W_exit ?_
    exact ⟨⟨rfl, rfl, rfl, rfl, trivial⟩, hI.pu⟩
  by_cases hkd : e.kind = 2 ∨ b = true
  rotate_left
  · obtain rfl : b = false := by cases b; rfl; exact absurd (.inr rfl) hkd
    have hk2 : ¬ e.kind = 2 := fun g => hkd (.inl g)
    refine W_seq ?_
    refine W_seq ?_
    refine W_region ?_
    refine WL_val rfl rfl rfl (by first | exact rMoveS rfl rfl | exact rMove rfl) ?_
    refine WL_val rfl rfl rfl (by first | exact rMoveI rfl rfl | exact rMove rfl) ?_
    refine WL_val rfl rfl rfl (rIdx (sz := 7) rfl Try.underlying32 (by kernel_rfl) rfl rfl (by omega)) ?_
    refine WL_val rfl rfl rfl (by first | exact rFldN (off := 1) rfl (by kernel_rfl) rfl | exact rFld (off := 1) rfl (by kernel_rfl) rfl) ?_
    refine WL_val rfl rfl rfl (by first | exact rLd (v := .int .i64 _) rfl (by kernel_rfl) rfl (by first | exact hI.c0 rfl | exact hI.c1 rfl | exact hI.c2 rfl | exact hI.c3 rfl | exact hI.c4 rfl | exact hI.c5 rfl | exact hI.oldp e1 | exact e1 | exact hI.oldp e3 | exact e3 | exact hI.oldp qb | exact qb) | exact rLd rfl (by kernel_rfl) rfl (by first | exact hI.c0 rfl | exact hI.c1 rfl | exact hI.c2 rfl | exact hI.c3 rfl | exact hI.c4 rfl | exact hI.c5 rfl | exact hI.oldp e1 | exact e1 | exact hI.oldp e3 | exact e3 | exact hI.oldp qb | exact qb)) ?_
    refine WL_val rfl rfl rfl (by first | exact rNeqT rfl rfl rfl (by omega) | exact rNeqF rfl rfl rfl (by omega) | exact rNeq rfl rfl rfl) ?_
    refine WL_val rfl rfl rfl (by first | exact rMoveB rfl rfl | exact rMove rfl) ?_
    first | refine WL_val rfl rfl rfl (by first | exact rMoveS rfl rfl | exact rMove rfl) ?_ | refine WL_skip rfl rfl rfl ?_
    first | refine WL_val rfl rfl rfl (by first | exact rMoveI rfl rfl | exact rMove rfl) ?_ | refine WL_skip rfl rfl rfl ?_
    first | refine WL_val rfl rfl rfl (rIdx (sz := 7) rfl Try.underlying32 (by kernel_rfl) rfl rfl (by omega)) ?_ | refine WL_skip rfl rfl rfl ?_
    first | refine WL_val rfl rfl rfl (by first | exact rFldN (off := 3) rfl (by kernel_rfl) rfl | exact rFld (off := 3) rfl (by kernel_rfl) rfl) ?_ | refine WL_skip rfl rfl rfl ?_
    first | refine WL_val rfl rfl rfl (by first | exact rLd (v := .int .i64 _) rfl (by kernel_rfl) rfl (by first | exact hI.c0 rfl | exact hI.c1 rfl | exact hI.c2 rfl | exact hI.c3 rfl | exact hI.c4 rfl | exact hI.c5 rfl | exact hI.oldp e1 | exact e1 | exact hI.oldp e3 | exact e3 | exact hI.oldp qb | exact qb) | exact rLd rfl (by kernel_rfl) rfl (by first | exact hI.c0 rfl | exact hI.c1 rfl | exact hI.c2 rfl | exact hI.c3 rfl | exact hI.c4 rfl | exact hI.c5 rfl | exact hI.oldp e1 | exact e1 | exact hI.oldp e3 | exact e3 | exact hI.oldp qb | exact qb)) ?_ | refine WL_skip rfl rfl rfl ?_
    first | refine WL_val rfl rfl rfl (by first | exact rNeqT rfl rfl rfl (by omega) | exact rNeqF rfl rfl rfl (by omega) | exact rNeq rfl rfl rfl) ?_ | refine WL_skip rfl rfl rfl ?_
    first | refine WL_val rfl rfl rfl (by first | exact rMoveB rfl rfl | exact rMove rfl) ?_ | refine WL_skip rfl rfl rfl ?_
    first | refine WL_val rfl rfl rfl (by first | exact rFldN (off := 4) rfl (by kernel_rfl) rfl | exact rFld (off := 4) rfl (by kernel_rfl) rfl) ?_ | refine WL_skip rfl rfl rfl ?_
    first | refine WL_val rfl rfl rfl (by first | exact rLd (v := .bool _) rfl (by kernel_rfl) rfl (by first | exact hI.c0 rfl | exact hI.c1 rfl | exact hI.c2 rfl | exact hI.c3 rfl | exact hI.c4 rfl | exact hI.c5 rfl | exact hI.oldp e1 | exact e1 | exact hI.oldp e3 | exact e3 | exact hI.oldp qb | exact qb) | exact rLd rfl (by kernel_rfl) rfl (by first | exact hI.c0 rfl | exact hI.c1 rfl | exact hI.c2 rfl | exact hI.c3 rfl | exact hI.c4 rfl | exact hI.c5 rfl | exact hI.oldp e1 | exact e1 | exact hI.oldp e3 | exact e3 | exact hI.oldp qb | exact qb)) ?_ | refine WL_skip rfl rfl rfl ?_
    first | refine WL_val rfl rfl rfl (by first | exact rNotT rfl rfl | exact rNotF rfl rfl | exact rNot rfl rfl) ?_ | refine WL_skip rfl rfl rfl ?_
    first | refine WL_val rfl rfl rfl (by first | exact rPickTB rfl rfl rfl | exact rPickFB rfl rfl rfl | exact rPickB rfl rfl rfl rfl) ?_ | refine WL_skip rfl rfl rfl ?_
    refine WL_val rfl rfl rfl (by first | exact rPickTB rfl rfl rfl | exact rPickFB rfl rfl rfl | exact rPickB rfl rfl rfl rfl) ?_
    refine WL_nil ?_
    refine W_cond true rfl ?_
    refine W_exit ?_
    exact ⟨⟨rfl, rfl, rfl, rfl, trivial⟩, hI.pu⟩
  refine W_seq_cut (fun ρ w => Has ρ [(8, .int .i64 (i : Int)), (6, .slice (some ⟨eb, eo, none⟩) s.evs.length ec), (7, .slice (some ⟨tb, to, none⟩) s.sts.length sc), (2, .pointer (some ⟨b2, 0, none⟩))] ∧ Pure w6 w) ?_ ?_
  · by_cases hk2 : e.kind = 2
    · refine W_seq ?_
      refine W_region ?_
      refine WL_val rfl rfl rfl (by first | exact rMoveS rfl rfl | exact rMove rfl) ?_
      refine WL_val rfl rfl rfl (by first | exact rMoveI rfl rfl | exact rMove rfl) ?_
      refine WL_val rfl rfl rfl (rIdx (sz := 7) rfl Try.underlying32 (by kernel_rfl) rfl rfl (by omega)) ?_
      refine WL_val rfl rfl rfl (by first | exact rFldN (off := 1) rfl (by kernel_rfl) rfl | exact rFld (off := 1) rfl (by kernel_rfl) rfl) ?_
      refine WL_val rfl rfl rfl (by first | exact rLd (v := .int .i64 _) rfl (by kernel_rfl) rfl (by first | exact hI.c0 rfl | exact hI.c1 rfl | exact hI.c2 rfl | exact hI.c3 rfl | exact hI.c4 rfl | exact hI.c5 rfl | exact hI.oldp e1 | exact e1 | exact hI.oldp e3 | exact e3 | exact hI.oldp qb | exact qb) | exact rLd rfl (by kernel_rfl) rfl (by first | exact hI.c0 rfl | exact hI.c1 rfl | exact hI.c2 rfl | exact hI.c3 rfl | exact hI.c4 rfl | exact hI.c5 rfl | exact hI.oldp e1 | exact e1 | exact hI.oldp e3 | exact e3 | exact hI.oldp qb | exact qb)) ?_
      refine WL_val rfl rfl rfl (by first | exact rNeqT rfl rfl rfl (by omega) | exact rNeqF rfl rfl rfl (by omega) | exact rNeq rfl rfl rfl) ?_
      refine WL_val rfl rfl rfl (by first | exact rMoveB rfl rfl | exact rMove rfl) ?_
      first | refine WL_val rfl rfl rfl (by first | exact rMoveS rfl rfl | exact rMove rfl) ?_ | refine WL_skip rfl rfl rfl ?_
      first | refine WL_val rfl rfl rfl (by first | exact rMoveI rfl rfl | exact rMove rfl) ?_ | refine WL_skip rfl rfl rfl ?_
      first | refine WL_val rfl rfl rfl (rIdx (sz := 7) rfl Try.underlying32 (by kernel_rfl) rfl rfl (by omega)) ?_ | refine WL_skip rfl rfl rfl ?_
      first | refine WL_val rfl rfl rfl (by first | exact rFldN (off := 3) rfl (by kernel_rfl) rfl | exact rFld (off := 3) rfl (by kernel_rfl) rfl) ?_ | refine WL_skip rfl rfl rfl ?_
      first | refine WL_val rfl rfl rfl (by first | exact rLd (v := .int .i64 _) rfl (by kernel_rfl) rfl (by first | exact hI.c0 rfl | exact hI.c1 rfl | exact hI.c2 rfl | exact hI.c3 rfl | exact hI.c4 rfl | exact hI.c5 rfl | exact hI.oldp e1 | exact e1 | exact hI.oldp e3 | exact e3 | exact hI.oldp qb | exact qb) | exact rLd rfl (by kernel_rfl) rfl (by first | exact hI.c0 rfl | exact hI.c1 rfl | exact hI.c2 rfl | exact hI.c3 rfl | exact hI.c4 rfl | exact hI.c5 rfl | exact hI.oldp e1 | exact e1 | exact hI.oldp e3 | exact e3 | exact hI.oldp qb | exact qb)) ?_ | refine WL_skip rfl rfl rfl ?_
      first | refine WL_val rfl rfl rfl (by first | exact rNeqT rfl rfl rfl (by omega) | exact rNeqF rfl rfl rfl (by omega) | exact rNeq rfl rfl rfl) ?_ | refine WL_skip rfl rfl rfl ?_
      first | refine WL_val rfl rfl rfl (by first | exact rMoveB rfl rfl | exact rMove rfl) ?_ | refine WL_skip rfl rfl rfl ?_
      refine WL_skip rfl rfl rfl ?_
      refine WL_skip rfl rfl rfl ?_
      refine WL_skip rfl rfl rfl ?_
      first | refine WL_val rfl rfl rfl (by first | exact rPickTB rfl rfl rfl | exact rPickFB rfl rfl rfl | exact rPickB rfl rfl rfl rfl) ?_ | refine WL_skip rfl rfl rfl ?_
      refine WL_val rfl rfl rfl (by first | exact rPickTB rfl rfl rfl | exact rPickFB rfl rfl rfl | exact rPickB rfl rfl rfl rfl) ?_
      refine WL_nil ?_
      refine W_cond false rfl ?_
      refine W_skip ?_
      exact ⟨⟨rfl, rfl, rfl, rfl, trivial⟩, hI.pu⟩
    · obtain rfl : b = true := hkd.resolve_left hk2
      refine W_seq ?_
      refine W_region ?_
      refine WL_val rfl rfl rfl (by first | exact rMoveS rfl rfl | exact rMove rfl) ?_
      refine WL_val rfl rfl rfl (by first | exact rMoveI rfl rfl | exact rMove rfl) ?_
      refine WL_val rfl rfl rfl (rIdx (sz := 7) rfl Try.underlying32 (by kernel_rfl) rfl rfl (by omega)) ?_
      refine WL_val rfl rfl rfl (by first | exact rFldN (off := 1) rfl (by kernel_rfl) rfl | exact rFld (off := 1) rfl (by kernel_rfl) rfl) ?_
      refine WL_val rfl rfl rfl (by first | exact rLd (v := .int .i64 _) rfl (by kernel_rfl) rfl (by first | exact hI.c0 rfl | exact hI.c1 rfl | exact hI.c2 rfl | exact hI.c3 rfl | exact hI.c4 rfl | exact hI.c5 rfl | exact hI.oldp e1 | exact e1 | exact hI.oldp e3 | exact e3 | exact hI.oldp qb | exact qb) | exact rLd rfl (by kernel_rfl) rfl (by first | exact hI.c0 rfl | exact hI.c1 rfl | exact hI.c2 rfl | exact hI.c3 rfl | exact hI.c4 rfl | exact hI.c5 rfl | exact hI.oldp e1 | exact e1 | exact hI.oldp e3 | exact e3 | exact hI.oldp qb | exact qb)) ?_
      refine WL_val rfl rfl rfl (by first | exact rNeqT rfl rfl rfl (by omega) | exact rNeqF rfl rfl rfl (by omega) | exact rNeq rfl rfl rfl) ?_
      refine WL_val rfl rfl rfl (by first | exact rMoveB rfl rfl | exact rMove rfl) ?_
      first | refine WL_val rfl rfl rfl (by first | exact rMoveS rfl rfl | exact rMove rfl) ?_ | refine WL_skip rfl rfl rfl ?_
      first | refine WL_val rfl rfl rfl (by first | exact rMoveI rfl rfl | exact rMove rfl) ?_ | refine WL_skip rfl rfl rfl ?_
      first | refine WL_val rfl rfl rfl (rIdx (sz := 7) rfl Try.underlying32 (by kernel_rfl) rfl rfl (by omega)) ?_ | refine WL_skip rfl rfl rfl ?_
      first | refine WL_val rfl rfl rfl (by first | exact rFldN (off := 3) rfl (by kernel_rfl) rfl | exact rFld (off := 3) rfl (by kernel_rfl) rfl) ?_ | refine WL_skip rfl rfl rfl ?_
      first | refine WL_val rfl rfl rfl (by first | exact rLd (v := .int .i64 _) rfl (by kernel_rfl) rfl (by first | exact hI.c0 rfl | exact hI.c1 rfl | exact hI.c2 rfl | exact hI.c3 rfl | exact hI.c4 rfl | exact hI.c5 rfl | exact hI.oldp e1 | exact e1 | exact hI.oldp e3 | exact e3 | exact hI.oldp qb | exact qb) | exact rLd rfl (by kernel_rfl) rfl (by first | exact hI.c0 rfl | exact hI.c1 rfl | exact hI.c2 rfl | exact hI.c3 rfl | exact hI.c4 rfl | exact hI.c5 rfl | exact hI.oldp e1 | exact e1 | exact hI.oldp e3 | exact e3 | exact hI.oldp qb | exact qb)) ?_ | refine WL_skip rfl rfl rfl ?_
      first | refine WL_val rfl rfl rfl (by first | exact rNeqT rfl rfl rfl (by omega) | exact rNeqF rfl rfl rfl (by omega) | exact rNeq rfl rfl rfl) ?_ | refine WL_skip rfl rfl rfl ?_
      first | refine WL_val rfl rfl rfl (by first | exact rMoveB rfl rfl | exact rMove rfl) ?_ | refine WL_skip rfl rfl rfl ?_
      first | refine WL_val rfl rfl rfl (by first | exact rFldN (off := 4) rfl (by kernel_rfl) rfl | exact rFld (off := 4) rfl (by kernel_rfl) rfl) ?_ | refine WL_skip rfl rfl rfl ?_
      first | refine WL_val rfl rfl rfl (by first | exact rLd (v := .bool _) rfl (by kernel_rfl) rfl (by first | exact hI.c0 rfl | exact hI.c1 rfl | exact hI.c2 rfl | exact hI.c3 rfl | exact hI.c4 rfl | exact hI.c5 rfl | exact hI.oldp e1 | exact e1 | exact hI.oldp e3 | exact e3 | exact hI.oldp qb | exact qb) | exact rLd rfl (by kernel_rfl) rfl (by first | exact hI.c0 rfl | exact hI.c1 rfl | exact hI.c2 rfl | exact hI.c3 rfl | exact hI.c4 rfl | exact hI.c5 rfl | exact hI.oldp e1 | exact e1 | exact hI.oldp e3 | exact e3 | exact hI.oldp qb | exact qb)) ?_ | refine WL_skip rfl rfl rfl ?_
      first | refine WL_val rfl rfl rfl (by first | exact rNotT rfl rfl | exact rNotF rfl rfl | exact rNot rfl rfl) ?_ | refine WL_skip rfl rfl rfl ?_
      first | refine WL_val rfl rfl rfl (by first | exact rPickTB rfl rfl rfl | exact rPickFB rfl rfl rfl | exact rPickB rfl rfl rfl rfl) ?_ | refine WL_skip rfl rfl rfl ?_
      refine WL_val rfl rfl rfl (by first | exact rPickTB rfl rfl rfl | exact rPickFB rfl rfl rfl | exact rPickB rfl rfl rfl rfl) ?_
      refine WL_nil ?_
      refine W_cond false rfl ?_
      refine W_skip ?_
      exact ⟨⟨rfl, rfl, rfl, rfl, trivial⟩, hI.pu⟩
  clear hI
  rintro ρ w ⟨hH, hpw⟩
  obtain ⟨σ, rfl⟩ := hH.open
  have hI := (Inv.start (fun _ => False) w6).pure hpw
  refine W_seq ?_
  refine W_region ?_
  refine WL_val rfl rfl rfl (by first | exact rMoveI rfl rfl | exact rMove rfl) ?_
  refine WL_val rfl rfl rfl (by first | exact rInc rfl rfl rfl (by omega) | exact rAdd rfl rfl rfl (by omega) | exact rAddW rfl rfl rfl) ?_
  refine WL_val rfl rfl rfl (by first | exact rAsgnI rfl rfl | exact rAsgn rfl) ?_
  refine WL_nil ?_
  refine W_block ?_
  refine W_loopN (fun mu ρ w => ∃ k : Nat, i + 1 ≤ k ∧ k ≤ s.evs.length ∧ mu = s.evs.length - k ∧ Has ρ [(9, .int .i64 (k : Int)), (8, .int .i64 (i : Int)), (6, .slice (some ⟨eb, eo, none⟩) s.evs.length ec), (7, .slice (some ⟨tb, to, none⟩) s.sts.length sc), (2, .pointer (some ⟨b2, 0, none⟩))] ∧ Pure w6 w) (s.evs.length - (i + 1))
    ⟨i + 1, by omega, by omega, rfl, ⟨rfl, rfl, rfl, rfl, rfl, trivial⟩, hI.pu⟩ ?_
  clear hI
  rintro mu ρ w ⟨k, hik, hk, rfl, hH, hpw⟩
  obtain ⟨σ, rfl⟩ := hH.open
  have hI := (Inv.start (fun _ => False) w6).pure hpw
  by_cases hkl : k < s.evs.length
  rotate_left
  · obtain rfl : k = s.evs.length := by omega
    refine W_seq ?_
    refine W_seq ?_
    refine W_region ?_
    refine WL_val rfl rfl rfl (by first | exact rMoveI rfl rfl | exact rMove rfl) ?_
    refine WL_val rfl rfl rfl (by first | exact rMoveS rfl rfl | exact rMove rfl) ?_
    refine WL_val rfl rfl rfl (rLen rfl Try.underlying32 rfl) ?_
    refine WL_val rfl rfl rfl (by first | exact rLssT rfl rfl rfl (by omega) | exact rLssF rfl rfl rfl (by omega) | exact rLss rfl rfl rfl) ?_
    refine WL_nil ?_
    refine W_cond false rfl ?_
    refine W_exit ?_
    exact ⟨⟨rfl, rfl, rfl, rfl, trivial⟩, hI.pu⟩
  refine W_seq ?_
  refine W_seq ?_
  refine W_region ?_
  refine WL_val rfl rfl rfl (by first | exact rMoveI rfl rfl | exact rMove rfl) ?_
  refine WL_val rfl rfl rfl (by first | exact rMoveS rfl rfl | exact rMove rfl) ?_
  refine WL_val rfl rfl rfl (rLen rfl Try.underlying32 rfl) ?_
  refine WL_val rfl rfl rfl (by first | exact rLssT rfl rfl rfl (by omega) | exact rLssF rfl rfl rfl (by omega) | exact rLss rfl rfl rfl) ?_
  refine WL_nil ?_
  refine W_cond true rfl ?_
  refine W_skip ?_
  obtain ⟨e', he'⟩ : ∃ e, s.evs[k]? = some e := ⟨_, List.getElem?_eq_getElem hkl⟩
  obtain ⟨st', hst'⟩ : ∃ st, s.sts[k]? = some st := ⟨_, List.getElem?_eq_getElem (by omega)⟩
  have f0 := hE k e' he' 0 _ rfl
  have f1 := hE k e' he' 1 _ rfl
  have f2 := hE k e' he' 2 _ rfl
  have f3 := hE k e' he' 3 _ rfl
  have t0q := hT k st' hst' 0 _ rfl
  have t1q := hT k st' hst' 1 _ rfl
  rw [Nat.add_zero] at t0q
  refine W_seq_cut (fun ρ w => Has ρ [(9, .int .i64 (k : Int)), (8, .int .i64 (i : Int)), (6, .slice (some ⟨eb, eo, none⟩) s.evs.length ec), (7, .slice (some ⟨tb, to, none⟩) s.sts.length sc), (2, .pointer (some ⟨b2, 0, none⟩))] ∧ Pure w6 w) ?_ ?_
  rotate_left
  · clear hI
    rintro ρ w ⟨hH, hpw⟩
    obtain ⟨σ, rfl⟩ := hH.open
    have hI := (Inv.start (fun _ => False) w6).pure hpw
    refine W_region ?_
    refine WL_val rfl rfl rfl (by first | exact rMoveI rfl rfl | exact rMove rfl) ?_
    refine WL_val rfl rfl rfl (by first | exact rInc rfl rfl rfl (by omega) | exact rAdd rfl rfl rfl (by omega) | exact rAddW rfl rfl rfl) ?_
    refine WL_val rfl rfl rfl (by first | exact rAsgnI rfl rfl | exact rAsgn rfl) ?_
    refine WL_nil ?_
    exact ⟨s.evs.length - (k + 1), by omega, k + 1, by omega, by omega, rfl, ⟨rfl, rfl, rfl, rfl, rfl, trivial⟩, hI.pu⟩
  refine W_block ?_
  by_cases hty' : e'.ty = 2
  rotate_left
  · refine W_seq ?_
    refine W_seq ?_
    refine W_draw (by kernel_rfl) ?_
    refine WA_inv (T := []) hI.drew ?_
    intro Sx hSx hXS
    replace hI := hI.drew
    refine WT_take 0 rfl rfl (by kernel_rfl) (hXS _ hI) rfl (fun W hW => have hI := hSx W hW; (by first | exact rMoveS rfl rfl | exact rMove rfl)) ?_
    refine WT_take 1 rfl rfl (by kernel_rfl) (hXS _ hI) rfl (fun W hW => have hI := hSx W hW; (by first | exact rMoveI rfl rfl | exact rMove rfl)) ?_
    refine WT_take 2 rfl rfl (by kernel_rfl) (hXS _ hI) rfl (fun W hW => have hI := hSx W hW; (rIdx (sz := 7) rfl Try.underlying32 (by kernel_rfl) rfl rfl (by omega))) ?_
    refine WT_take 3 rfl rfl (by kernel_rfl) (hXS _ hI) rfl (fun W hW => have hI := hSx W hW; (by first | exact rFldN (off := 1) rfl (by kernel_rfl) rfl | exact rFld (off := 1) rfl (by kernel_rfl) rfl)) ?_
    refine WT_take 4 rfl rfl (by kernel_rfl) (hXS _ hI) rfl (fun W hW => have hI := hSx W hW; (by first | exact rLd (v := .int .i64 _) rfl (by kernel_rfl) rfl (by first | exact hI.c0 rfl | exact hI.c1 rfl | exact hI.c2 rfl | exact hI.c3 rfl | exact hI.c4 rfl | exact hI.c5 rfl | exact hI.oldp f1 | exact f1) | exact rLd rfl (by kernel_rfl) rfl (by first | exact hI.c0 rfl | exact hI.c1 rfl | exact hI.c2 rfl | exact hI.c3 rfl | exact hI.c4 rfl | exact hI.c5 rfl | exact hI.oldp f1 | exact f1))) ?_
    refine WT_take 5 rfl rfl (by kernel_rfl) (hXS _ hI) rfl (fun W hW => have hI := hSx W hW; (by first | exact rNeqT rfl rfl rfl (by omega) | exact rNeqF rfl rfl rfl (by omega) | exact rNeq rfl rfl rfl)) ?_
    refine WT_take 6 rfl rfl (by kernel_rfl) (hXS _ hI) rfl (fun W hW => have hI := hSx W hW; (by first | exact rMoveB rfl rfl | exact rMove rfl)) ?_
    refine WT_skip 7 rfl rfl (by kernel_rfl) (hXS _ hI) rfl ?_
    refine WT_skip 8 rfl rfl (by kernel_rfl) (hXS _ hI) rfl ?_
    refine WT_skip 9 rfl rfl (by kernel_rfl) (hXS _ hI) rfl ?_
    refine WT_skip 10 rfl rfl (by kernel_rfl) (hXS _ hI) rfl ?_
    refine WT_skip 11 rfl rfl (by kernel_rfl) (hXS _ hI) rfl ?_
    refine WT_skip 12 rfl rfl (by kernel_rfl) (hXS _ hI) rfl ?_
    refine WT_skip 13 rfl rfl (by kernel_rfl) (hXS _ hI) rfl ?_
    refine WT_skip 14 rfl rfl (by kernel_rfl) (hXS _ hI) rfl ?_
    refine WT_skip 15 rfl rfl (by kernel_rfl) (hXS _ hI) rfl ?_
    refine WT_skip 16 rfl rfl (by kernel_rfl) (hXS _ hI) rfl ?_
    refine WT_skip 17 rfl rfl (by kernel_rfl) (hXS _ hI) rfl ?_
    refine WT_take 18 rfl rfl (by kernel_rfl) (hXS _ hI) rfl (fun W hW => have hI := hSx W hW; (by first | exact rPickTB rfl rfl rfl | exact rPickFB rfl rfl rfl | exact rPickB rfl rfl rfl rfl)) ?_
    refine WT_end (by kernel_rfl) ?_
    refine W_cond true rfl ?_
    refine W_exit ?_
    exact ⟨⟨rfl, rfl, rfl, rfl, rfl, trivial⟩, hI.pu⟩
  by_cases hkey : e'.key = e.key
  rotate_left
  · refine W_seq ?_
    refine W_seq ?_
    refine W_draw (by kernel_rfl) ?_
    refine WA_inv (T := []) hI.drew ?_
    intro Sx hSx hXS
    replace hI := hI.drew
    refine WT_take 0 rfl rfl (by kernel_rfl) (hXS _ hI) rfl (fun W hW => have hI := hSx W hW; (by first | exact rMoveS rfl rfl | exact rMove rfl)) ?_
    refine WT_take 1 rfl rfl (by kernel_rfl) (hXS _ hI) rfl (fun W hW => have hI := hSx W hW; (by first | exact rMoveI rfl rfl | exact rMove rfl)) ?_
    refine WT_take 2 rfl rfl (by kernel_rfl) (hXS _ hI) rfl (fun W hW => have hI := hSx W hW; (rIdx (sz := 7) rfl Try.underlying32 (by kernel_rfl) rfl rfl (by omega))) ?_
    refine WT_take 3 rfl rfl (by kernel_rfl) (hXS _ hI) rfl (fun W hW => have hI := hSx W hW; (by first | exact rFldN (off := 1) rfl (by kernel_rfl) rfl | exact rFld (off := 1) rfl (by kernel_rfl) rfl)) ?_
    refine WT_take 4 rfl rfl (by kernel_rfl) (hXS _ hI) rfl (fun W hW => have hI := hSx W hW; (by first | exact rLd (v := .int .i64 _) rfl (by kernel_rfl) rfl (by first | exact hI.c0 rfl | exact hI.c1 rfl | exact hI.c2 rfl | exact hI.c3 rfl | exact hI.c4 rfl | exact hI.c5 rfl | exact hI.oldp f1 | exact f1 | exact hI.oldp f2 | exact f2 | exact hI.oldp e2 | exact e2) | exact rLd rfl (by kernel_rfl) rfl (by first | exact hI.c0 rfl | exact hI.c1 rfl | exact hI.c2 rfl | exact hI.c3 rfl | exact hI.c4 rfl | exact hI.c5 rfl | exact hI.oldp f1 | exact f1 | exact hI.oldp f2 | exact f2 | exact hI.oldp e2 | exact e2))) ?_
    refine WT_take 5 rfl rfl (by kernel_rfl) (hXS _ hI) rfl (fun W hW => have hI := hSx W hW; (by first | exact rNeqT rfl rfl rfl (by omega) | exact rNeqF rfl rfl rfl (by omega) | exact rNeq rfl rfl rfl)) ?_
    refine WT_take 6 rfl rfl (by kernel_rfl) (hXS _ hI) rfl (fun W hW => have hI := hSx W hW; (by first | exact rMoveB rfl rfl | exact rMove rfl)) ?_
    first | refine WT_take 7 rfl rfl (by kernel_rfl) (hXS _ hI) rfl (fun W hW => have hI := hSx W hW; (by first | exact rMoveS rfl rfl | exact rMove rfl)) ?_ | refine WT_skip 7 rfl rfl (by kernel_rfl) (hXS _ hI) rfl ?_
    first | refine WT_take 8 rfl rfl (by kernel_rfl) (hXS _ hI) rfl (fun W hW => have hI := hSx W hW; (by first | exact rMoveI rfl rfl | exact rMove rfl)) ?_ | refine WT_skip 8 rfl rfl (by kernel_rfl) (hXS _ hI) rfl ?_
    first | refine WT_take 9 rfl rfl (by kernel_rfl) (hXS _ hI) rfl (fun W hW => have hI := hSx W hW; (rIdx (sz := 7) rfl Try.underlying32 (by kernel_rfl) rfl rfl (by omega))) ?_ | refine WT_skip 9 rfl rfl (by kernel_rfl) (hXS _ hI) rfl ?_
    first | refine WT_take 10 rfl rfl (by kernel_rfl) (hXS _ hI) rfl (fun W hW => have hI := hSx W hW; (by first | exact rFldN (off := 2) rfl (by kernel_rfl) rfl | exact rFld (off := 2) rfl (by kernel_rfl) rfl)) ?_ | refine WT_skip 10 rfl rfl (by kernel_rfl) (hXS _ hI) rfl ?_
    first | refine WT_take 11 rfl rfl (by kernel_rfl) (hXS _ hI) rfl (fun W hW => have hI := hSx W hW; (by first | exact rLd (v := .int .i64 _) rfl (by kernel_rfl) rfl (by first | exact hI.c0 rfl | exact hI.c1 rfl | exact hI.c2 rfl | exact hI.c3 rfl | exact hI.c4 rfl | exact hI.c5 rfl | exact hI.oldp f1 | exact f1 | exact hI.oldp f2 | exact f2 | exact hI.oldp e2 | exact e2) | exact rLd rfl (by kernel_rfl) rfl (by first | exact hI.c0 rfl | exact hI.c1 rfl | exact hI.c2 rfl | exact hI.c3 rfl | exact hI.c4 rfl | exact hI.c5 rfl | exact hI.oldp f1 | exact f1 | exact hI.oldp f2 | exact f2 | exact hI.oldp e2 | exact e2))) ?_ | refine WT_skip 11 rfl rfl (by kernel_rfl) (hXS _ hI) rfl ?_
    first | refine WT_take 12 rfl rfl (by kernel_rfl) (hXS _ hI) rfl (fun W hW => have hI := hSx W hW; (by first | exact rMoveS rfl rfl | exact rMove rfl)) ?_ | refine WT_skip 12 rfl rfl (by kernel_rfl) (hXS _ hI) rfl ?_
    first | refine WT_take 13 rfl rfl (by kernel_rfl) (hXS _ hI) rfl (fun W hW => have hI := hSx W hW; (by first | exact rMoveI rfl rfl | exact rMove rfl)) ?_ | refine WT_skip 13 rfl rfl (by kernel_rfl) (hXS _ hI) rfl ?_
    first | refine WT_take 14 rfl rfl (by kernel_rfl) (hXS _ hI) rfl (fun W hW => have hI := hSx W hW; (rIdx (sz := 7) rfl Try.underlying32 (by kernel_rfl) rfl rfl (by omega))) ?_ | refine WT_skip 14 rfl rfl (by kernel_rfl) (hXS _ hI) rfl ?_
    first | refine WT_take 15 rfl rfl (by kernel_rfl) (hXS _ hI) rfl (fun W hW => have hI := hSx W hW; (by first | exact rFldN (off := 2) rfl (by kernel_rfl) rfl | exact rFld (off := 2) rfl (by kernel_rfl) rfl)) ?_ | refine WT_skip 15 rfl rfl (by kernel_rfl) (hXS _ hI) rfl ?_
    first | refine WT_take 16 rfl rfl (by kernel_rfl) (hXS _ hI) rfl (fun W hW => have hI := hSx W hW; (by first | exact rLd (v := .int .i64 _) rfl (by kernel_rfl) rfl (by first | exact hI.c0 rfl | exact hI.c1 rfl | exact hI.c2 rfl | exact hI.c3 rfl | exact hI.c4 rfl | exact hI.c5 rfl | exact hI.oldp f1 | exact f1 | exact hI.oldp f2 | exact f2 | exact hI.oldp e2 | exact e2) | exact rLd rfl (by kernel_rfl) rfl (by first | exact hI.c0 rfl | exact hI.c1 rfl | exact hI.c2 rfl | exact hI.c3 rfl | exact hI.c4 rfl | exact hI.c5 rfl | exact hI.oldp f1 | exact f1 | exact hI.oldp f2 | exact f2 | exact hI.oldp e2 | exact e2))) ?_ | refine WT_skip 16 rfl rfl (by kernel_rfl) (hXS _ hI) rfl ?_
    first | refine WT_take 17 rfl rfl (by kernel_rfl) (hXS _ hI) rfl (fun W hW => have hI := hSx W hW; (by first | exact rNeqT rfl rfl rfl (by omega) | exact rNeqF rfl rfl rfl (by omega) | exact rNeq rfl rfl rfl)) ?_ | refine WT_skip 17 rfl rfl (by kernel_rfl) (hXS _ hI) rfl ?_
    refine WT_take 18 rfl rfl (by kernel_rfl) (hXS _ hI) rfl (fun W hW => have hI := hSx W hW; (by first | exact rPickTB rfl rfl rfl | exact rPickFB rfl rfl rfl | exact rPickB rfl rfl rfl rfl)) ?_
    refine WT_end (by kernel_rfl) ?_
    refine W_cond true rfl ?_
    refine W_exit ?_
    exact ⟨⟨rfl, rfl, rfl, rfl, rfl, trivial⟩, hI.pu⟩
  refine W_seq ?_
  refine W_seq ?_
  refine W_draw (by kernel_rfl) ?_
  refine WA_inv (T := []) hI.drew ?_
  intro Sx hSx hXS
  replace hI := hI.drew
  refine WT_take 0 rfl rfl (by kernel_rfl) (hXS _ hI) rfl (fun W hW => have hI := hSx W hW; (by first | exact rMoveS rfl rfl | exact rMove rfl)) ?_
  refine WT_take 1 rfl rfl (by kernel_rfl) (hXS _ hI) rfl (fun W hW => have hI := hSx W hW; (by first | exact rMoveI rfl rfl | exact rMove rfl)) ?_
  refine WT_take 2 rfl rfl (by kernel_rfl) (hXS _ hI) rfl (fun W hW => have hI := hSx W hW; (rIdx (sz := 7) rfl Try.underlying32 (by kernel_rfl) rfl rfl (by omega))) ?_
  refine WT_take 3 rfl rfl (by kernel_rfl) (hXS _ hI) rfl (fun W hW => have hI := hSx W hW; (by first | exact rFldN (off := 1) rfl (by kernel_rfl) rfl | exact rFld (off := 1) rfl (by kernel_rfl) rfl)) ?_
  refine WT_take 4 rfl rfl (by kernel_rfl) (hXS _ hI) rfl (fun W hW => have hI := hSx W hW; (by first | exact rLd (v := .int .i64 _) rfl (by kernel_rfl) rfl (by first | exact hI.c0 rfl | exact hI.c1 rfl | exact hI.c2 rfl | exact hI.c3 rfl | exact hI.c4 rfl | exact hI.c5 rfl | exact hI.oldp f1 | exact f1 | exact hI.oldp f2 | exact f2 | exact hI.oldp e2 | exact e2) | exact rLd rfl (by kernel_rfl) rfl (by first | exact hI.c0 rfl | exact hI.c1 rfl | exact hI.c2 rfl | exact hI.c3 rfl | exact hI.c4 rfl | exact hI.c5 rfl | exact hI.oldp f1 | exact f1 | exact hI.oldp f2 | exact f2 | exact hI.oldp e2 | exact e2))) ?_
  refine WT_take 5 rfl rfl (by kernel_rfl) (hXS _ hI) rfl (fun W hW => have hI := hSx W hW; (by first | exact rNeqT rfl rfl rfl (by omega) | exact rNeqF rfl rfl rfl (by omega) | exact rNeq rfl rfl rfl)) ?_
  refine WT_take 6 rfl rfl (by kernel_rfl) (hXS _ hI) rfl (fun W hW => have hI := hSx W hW; (by first | exact rMoveB rfl rfl | exact rMove rfl)) ?_
  first | refine WT_take 7 rfl rfl (by kernel_rfl) (hXS _ hI) rfl (fun W hW => have hI := hSx W hW; (by first | exact rMoveS rfl rfl | exact rMove rfl)) ?_ | refine WT_skip 7 rfl rfl (by kernel_rfl) (hXS _ hI) rfl ?_
  first | refine WT_take 8 rfl rfl (by kernel_rfl) (hXS _ hI) rfl (fun W hW => have hI := hSx W hW; (by first | exact rMoveI rfl rfl | exact rMove rfl)) ?_ | refine WT_skip 8 rfl rfl (by kernel_rfl) (hXS _ hI) rfl ?_
  first | refine WT_take 9 rfl rfl (by kernel_rfl) (hXS _ hI) rfl (fun W hW => have hI := hSx W hW; (rIdx (sz := 7) rfl Try.underlying32 (by kernel_rfl) rfl rfl (by omega))) ?_ | refine WT_skip 9 rfl rfl (by kernel_rfl) (hXS _ hI) rfl ?_
  first | refine WT_take 10 rfl rfl (by kernel_rfl) (hXS _ hI) rfl (fun W hW => have hI := hSx W hW; (by first | exact rFldN (off := 2) rfl (by kernel_rfl) rfl | exact rFld (off := 2) rfl (by kernel_rfl) rfl)) ?_ | refine WT_skip 10 rfl rfl (by kernel_rfl) (hXS _ hI) rfl ?_
  first | refine WT_take 11 rfl rfl (by kernel_rfl) (hXS _ hI) rfl (fun W hW => have hI := hSx W hW; (by first | exact rLd (v := .int .i64 _) rfl (by kernel_rfl) rfl (by first | exact hI.c0 rfl | exact hI.c1 rfl | exact hI.c2 rfl | exact hI.c3 rfl | exact hI.c4 rfl | exact hI.c5 rfl | exact hI.oldp f1 | exact f1 | exact hI.oldp f2 | exact f2 | exact hI.oldp e2 | exact e2) | exact rLd rfl (by kernel_rfl) rfl (by first | exact hI.c0 rfl | exact hI.c1 rfl | exact hI.c2 rfl | exact hI.c3 rfl | exact hI.c4 rfl | exact hI.c5 rfl | exact hI.oldp f1 | exact f1 | exact hI.oldp f2 | exact f2 | exact hI.oldp e2 | exact e2))) ?_ | refine WT_skip 11 rfl rfl (by kernel_rfl) (hXS _ hI) rfl ?_
  first | refine WT_take 12 rfl rfl (by kernel_rfl) (hXS _ hI) rfl (fun W hW => have hI := hSx W hW; (by first | exact rMoveS rfl rfl | exact rMove rfl)) ?_ | refine WT_skip 12 rfl rfl (by kernel_rfl) (hXS _ hI) rfl ?_
  first | refine WT_take 13 rfl rfl (by kernel_rfl) (hXS _ hI) rfl (fun W hW => have hI := hSx W hW; (by first | exact rMoveI rfl rfl | exact rMove rfl)) ?_ | refine WT_skip 13 rfl rfl (by kernel_rfl) (hXS _ hI) rfl ?_
  first | refine WT_take 14 rfl rfl (by kernel_rfl) (hXS _ hI) rfl (fun W hW => have hI := hSx W hW; (rIdx (sz := 7) rfl Try.underlying32 (by kernel_rfl) rfl rfl (by omega))) ?_ | refine WT_skip 14 rfl rfl (by kernel_rfl) (hXS _ hI) rfl ?_
  first | refine WT_take 15 rfl rfl (by kernel_rfl) (hXS _ hI) rfl (fun W hW => have hI := hSx W hW; (by first | exact rFldN (off := 2) rfl (by kernel_rfl) rfl | exact rFld (off := 2) rfl (by kernel_rfl) rfl)) ?_ | refine WT_skip 15 rfl rfl (by kernel_rfl) (hXS _ hI) rfl ?_
  first | refine WT_take 16 rfl rfl (by kernel_rfl) (hXS _ hI) rfl (fun W hW => have hI := hSx W hW; (by first | exact rLd (v := .int .i64 _) rfl (by kernel_rfl) rfl (by first | exact hI.c0 rfl | exact hI.c1 rfl | exact hI.c2 rfl | exact hI.c3 rfl | exact hI.c4 rfl | exact hI.c5 rfl | exact hI.oldp f1 | exact f1 | exact hI.oldp f2 | exact f2 | exact hI.oldp e2 | exact e2) | exact rLd rfl (by kernel_rfl) rfl (by first | exact hI.c0 rfl | exact hI.c1 rfl | exact hI.c2 rfl | exact hI.c3 rfl | exact hI.c4 rfl | exact hI.c5 rfl | exact hI.oldp f1 | exact f1 | exact hI.oldp f2 | exact f2 | exact hI.oldp e2 | exact e2))) ?_ | refine WT_skip 16 rfl rfl (by kernel_rfl) (hXS _ hI) rfl ?_
  first | refine WT_take 17 rfl rfl (by kernel_rfl) (hXS _ hI) rfl (fun W hW => have hI := hSx W hW; (by first | exact rNeqT rfl rfl rfl (by omega) | exact rNeqF rfl rfl rfl (by omega) | exact rNeq rfl rfl rfl)) ?_ | refine WT_skip 17 rfl rfl (by kernel_rfl) (hXS _ hI) rfl ?_
  refine WT_take 18 rfl rfl (by kernel_rfl) (hXS _ hI) rfl (fun W hW => have hI := hSx W hW; (by first | exact rPickTB rfl rfl rfl | exact rPickFB rfl rfl rfl | exact rPickB rfl rfl rfl rfl)) ?_
  refine WT_end (by kernel_rfl) ?_
  refine W_cond false rfl ?_
  refine W_skip ?_
  refine W_seq ?_
  refine W_region ?_
  refine WL_val rfl rfl rfl (by first | exact rMoveI rfl rfl | exact rMove rfl) ?_
  refine WL_val rfl rfl rfl (by first | exact rAsgnI rfl rfl | exact rAsgn rfl) ?_
  refine WL_nil ?_
  refine W_seq_cut (fun ρ w => ∃ z : Int, (z = -1 ∨ ∃ (bg : Nat) (eg : Ev), z = (bg : Int) ∧ bg ≤ k ∧ s.evs[bg]? = some eg ∧ eg.ty = 1 ∧ eg.proc = e'.proc) ∧ Has ρ [(10, .int .i64 z), (9, .int .i64 (k : Int)), (8, .int .i64 (i : Int)), (6, .slice (some ⟨eb, eo, none⟩) s.evs.length ec), (7, .slice (some ⟨tb, to, none⟩) s.sts.length sc), (2, .pointer (some ⟨b2, 0, none⟩))] ∧ Pure w6 w) ?_ ?_
  · refine W_block ?_
    refine W_loopN (fun mu ρ w => ∃ z : Int, -1 ≤ z ∧ z ≤ k ∧ mu = (z + 1).toNat ∧ Has ρ [(10, .int .i64 z), (9, .int .i64 (k : Int)), (8, .int .i64 (i : Int)), (6, .slice (some ⟨eb, eo, none⟩) s.evs.length ec), (7, .slice (some ⟨tb, to, none⟩) s.sts.length sc), (2, .pointer (some ⟨b2, 0, none⟩))] ∧ Pure w6 w) (k + 1)
      ⟨(k : Int), by omega, by omega, by omega, ⟨rfl, rfl, rfl, rfl, rfl, rfl, trivial⟩, hI.pu⟩ ?_
    clear hI
    rintro mu ρ w ⟨z, hz0, hzk, rfl, hH, hpw⟩
    obtain ⟨σ, rfl⟩ := hH.open
    have hI := (Inv.start (fun _ => False) w6).pure hpw
    by_cases hz : z < 0
    · obtain rfl : z = -1 := by omega
      refine W_seq ?_
      refine W_seq ?_
      refine W_draw (by kernel_rfl) ?_
      refine WA_inv (T := []) hI.drew ?_
      intro Sx hSx hXS
      replace hI := hI.drew
      refine WT_take 0 rfl rfl (by kernel_rfl) (hXS _ hI) rfl (fun W hW => have hI := hSx W hW; (by first | exact rMoveI rfl rfl | exact rMove rfl)) ?_
      refine WT_take 1 rfl rfl (by kernel_rfl) (hXS _ hI) rfl (fun W hW => have hI := hSx W hW; (by first | exact rGeqT rfl rfl rfl (by omega) | exact rGeqF rfl rfl rfl (by omega) | exact rGeq rfl rfl rfl)) ?_
      refine WT_take 2 rfl rfl (by kernel_rfl) (hXS _ hI) rfl (fun W hW => have hI := hSx W hW; (by first | exact rMoveB rfl rfl | exact rMove rfl)) ?_
      refine WT_skip 3 rfl rfl (by kernel_rfl) (hXS _ hI) rfl ?_
      refine WT_skip 4 rfl rfl (by kernel_rfl) (hXS _ hI) rfl ?_
      refine WT_skip 5 rfl rfl (by kernel_rfl) (hXS _ hI) rfl ?_
      refine WT_skip 6 rfl rfl (by kernel_rfl) (hXS _ hI) rfl ?_
      refine WT_skip 7 rfl rfl (by kernel_rfl) (hXS _ hI) rfl ?_
      refine WT_skip 8 rfl rfl (by kernel_rfl) (hXS _ hI) rfl ?_
      refine WT_skip 9 rfl rfl (by kernel_rfl) (hXS _ hI) rfl ?_
      refine WT_skip 10 rfl rfl (by kernel_rfl) (hXS _ hI) rfl ?_
      refine WT_skip 11 rfl rfl (by kernel_rfl) (hXS _ hI) rfl ?_
      refine WT_skip 12 rfl rfl (by kernel_rfl) (hXS _ hI) rfl ?_
      refine WT_skip 13 rfl rfl (by kernel_rfl) (hXS _ hI) rfl ?_
      refine WT_skip 14 rfl rfl (by kernel_rfl) (hXS _ hI) rfl ?_
      refine WT_skip 15 rfl rfl (by kernel_rfl) (hXS _ hI) rfl ?_
      refine WT_skip 16 rfl rfl (by kernel_rfl) (hXS _ hI) rfl ?_
      refine WT_skip 17 rfl rfl (by kernel_rfl) (hXS _ hI) rfl ?_
      refine WT_skip 18 rfl rfl (by kernel_rfl) (hXS _ hI) rfl ?_
      refine WT_skip 19 rfl rfl (by kernel_rfl) (hXS _ hI) rfl ?_
      refine WT_skip 20 rfl rfl (by kernel_rfl) (hXS _ hI) rfl ?_
      refine WT_skip 21 rfl rfl (by kernel_rfl) (hXS _ hI) rfl ?_
      refine WT_take 22 rfl rfl (by kernel_rfl) (hXS _ hI) rfl (fun W hW => have hI := hSx W hW; (by first | exact rPickTB rfl rfl rfl | exact rPickFB rfl rfl rfl | exact rPickB rfl rfl rfl rfl)) ?_
      refine WT_end (by kernel_rfl) ?_
      refine W_cond false rfl ?_
      refine W_exit ?_
      exact ⟨-1, .inl rfl, ⟨rfl, rfl, rfl, rfl, rfl, rfl, trivial⟩, hI.pu⟩
    obtain ⟨bg, rfl⟩ : ∃ bg : Nat, z = (bg : Int) := ⟨z.toNat, by omega⟩
    have hbk : bg ≤ k := by omega
    obtain ⟨eg, heg⟩ : ∃ e, s.evs[bg]? = some e := ⟨_, List.getElem?_eq_getElem (by omega)⟩
    have g0 := hE bg eg heg 0 _ rfl
    have g1 := hE bg eg heg 1 _ rfl
    by_cases ht1 : eg.ty = 1
    rotate_left
    · refine W_seq ?_
      refine W_seq ?_
      refine W_draw (by kernel_rfl) ?_
      refine WA_inv (T := []) hI.drew ?_
      intro Sx hSx hXS
      replace hI := hI.drew
      refine WT_take 0 rfl rfl (by kernel_rfl) (hXS _ hI) rfl (fun W hW => have hI := hSx W hW; (by first | exact rMoveI rfl rfl | exact rMove rfl)) ?_
      refine WT_take 1 rfl rfl (by kernel_rfl) (hXS _ hI) rfl (fun W hW => have hI := hSx W hW; (by first | exact rGeqT rfl rfl rfl (by omega) | exact rGeqF rfl rfl rfl (by omega) | exact rGeq rfl rfl rfl)) ?_
      refine WT_take 2 rfl rfl (by kernel_rfl) (hXS _ hI) rfl (fun W hW => have hI := hSx W hW; (by first | exact rMoveB rfl rfl | exact rMove rfl)) ?_
      first | refine WT_take 3 rfl rfl (by kernel_rfl) (hXS _ hI) rfl (fun W hW => have hI := hSx W hW; (by first | exact rMoveS rfl rfl | exact rMove rfl)) ?_ | refine WT_skip 3 rfl rfl (by kernel_rfl) (hXS _ hI) rfl ?_
      first | refine WT_take 4 rfl rfl (by kernel_rfl) (hXS _ hI) rfl (fun W hW => have hI := hSx W hW; (by first | exact rMoveI rfl rfl | exact rMove rfl)) ?_ | refine WT_skip 4 rfl rfl (by kernel_rfl) (hXS _ hI) rfl ?_
      first | refine WT_take 5 rfl rfl (by kernel_rfl) (hXS _ hI) rfl (fun W hW => have hI := hSx W hW; (rIdx (sz := 7) rfl Try.underlying32 (by kernel_rfl) rfl rfl (by omega))) ?_ | refine WT_skip 5 rfl rfl (by kernel_rfl) (hXS _ hI) rfl ?_
      first | refine WT_take 6 rfl rfl (by kernel_rfl) (hXS _ hI) rfl (fun W hW => have hI := hSx W hW; (by first | exact rFldN (off := 1) rfl (by kernel_rfl) rfl | exact rFld (off := 1) rfl (by kernel_rfl) rfl)) ?_ | refine WT_skip 6 rfl rfl (by kernel_rfl) (hXS _ hI) rfl ?_
      first | refine WT_take 7 rfl rfl (by kernel_rfl) (hXS _ hI) rfl (fun W hW => have hI := hSx W hW; (by first | exact rLd (v := .int .i64 _) rfl (by kernel_rfl) rfl (by first | exact hI.c0 rfl | exact hI.c1 rfl | exact hI.c2 rfl | exact hI.c3 rfl | exact hI.c4 rfl | exact hI.c5 rfl | exact hI.oldp g1 | exact g1) | exact rLd rfl (by kernel_rfl) rfl (by first | exact hI.c0 rfl | exact hI.c1 rfl | exact hI.c2 rfl | exact hI.c3 rfl | exact hI.c4 rfl | exact hI.c5 rfl | exact hI.oldp g1 | exact g1))) ?_ | refine WT_skip 7 rfl rfl (by kernel_rfl) (hXS _ hI) rfl ?_
      first | refine WT_take 8 rfl rfl (by kernel_rfl) (hXS _ hI) rfl (fun W hW => have hI := hSx W hW; (by first | exact rNeqT rfl rfl rfl (by omega) | exact rNeqF rfl rfl rfl (by omega) | exact rNeq rfl rfl rfl)) ?_ | refine WT_skip 8 rfl rfl (by kernel_rfl) (hXS _ hI) rfl ?_
      first | refine WT_take 9 rfl rfl (by kernel_rfl) (hXS _ hI) rfl (fun W hW => have hI := hSx W hW; (by first | exact rMoveB rfl rfl | exact rMove rfl)) ?_ | refine WT_skip 9 rfl rfl (by kernel_rfl) (hXS _ hI) rfl ?_
      refine WT_skip 10 rfl rfl (by kernel_rfl) (hXS _ hI) rfl ?_
      refine WT_skip 11 rfl rfl (by kernel_rfl) (hXS _ hI) rfl ?_
      refine WT_skip 12 rfl rfl (by kernel_rfl) (hXS _ hI) rfl ?_
      refine WT_skip 13 rfl rfl (by kernel_rfl) (hXS _ hI) rfl ?_
      refine WT_skip 14 rfl rfl (by kernel_rfl) (hXS _ hI) rfl ?_
      refine WT_skip 15 rfl rfl (by kernel_rfl) (hXS _ hI) rfl ?_
      refine WT_skip 16 rfl rfl (by kernel_rfl) (hXS _ hI) rfl ?_
      refine WT_skip 17 rfl rfl (by kernel_rfl) (hXS _ hI) rfl ?_
      refine WT_skip 18 rfl rfl (by kernel_rfl) (hXS _ hI) rfl ?_
      refine WT_skip 19 rfl rfl (by kernel_rfl) (hXS _ hI) rfl ?_
      refine WT_skip 20 rfl rfl (by kernel_rfl) (hXS _ hI) rfl ?_
      first | refine WT_take 21 rfl rfl (by kernel_rfl) (hXS _ hI) rfl (fun W hW => have hI := hSx W hW; (by first | exact rPickTB rfl rfl rfl | exact rPickFB rfl rfl rfl | exact rPickB rfl rfl rfl rfl)) ?_ | refine WT_skip 21 rfl rfl (by kernel_rfl) (hXS _ hI) rfl ?_
      refine WT_take 22 rfl rfl (by kernel_rfl) (hXS _ hI) rfl (fun W hW => have hI := hSx W hW; (by first | exact rPickTB rfl rfl rfl | exact rPickFB rfl rfl rfl | exact rPickB rfl rfl rfl rfl)) ?_
      refine WT_end (by kernel_rfl) ?_
      refine W_cond true rfl ?_
      refine W_skip ?_
      refine W_block ?_
      refine W_region ?_
      refine WL_val rfl rfl rfl (by first | exact rMoveI rfl rfl | exact rMove rfl) ?_
      refine WL_val rfl rfl rfl (by first | exact rSub rfl rfl rfl (by omega) | exact rSubW rfl rfl rfl) ?_
      refine WL_val rfl rfl rfl (by first | exact rAsgnI rfl rfl | exact rAsgn rfl) ?_
      refine WL_nil ?_
      exact ⟨bg, by omega, (bg : Int) - 1, by omega, by omega, by omega, ⟨rfl, rfl, rfl, rfl, rfl, rfl, trivial⟩, hI.pu⟩
    by_cases hpr : eg.proc = e'.proc
    rotate_left
    · refine W_seq ?_
      refine W_seq ?_
      refine W_draw (by kernel_rfl) ?_
      refine WA_inv (T := []) hI.drew ?_
      intro Sx hSx hXS
      replace hI := hI.drew
      refine WT_take 0 rfl rfl (by kernel_rfl) (hXS _ hI) rfl (fun W hW => have hI := hSx W hW; (by first | exact rMoveI rfl rfl | exact rMove rfl)) ?_
      refine WT_take 1 rfl rfl (by kernel_rfl) (hXS _ hI) rfl (fun W hW => have hI := hSx W hW; (by first | exact rGeqT rfl rfl rfl (by omega) | exact rGeqF rfl rfl rfl (by omega) | exact rGeq rfl rfl rfl)) ?_
      refine WT_take 2 rfl rfl (by kernel_rfl) (hXS _ hI) rfl (fun W hW => have hI := hSx W hW; (by first | exact rMoveB rfl rfl | exact rMove rfl)) ?_
      first | refine WT_take 3 rfl rfl (by kernel_rfl) (hXS _ hI) rfl (fun W hW => have hI := hSx W hW; (by first | exact rMoveS rfl rfl | exact rMove rfl)) ?_ | refine WT_skip 3 rfl rfl (by kernel_rfl) (hXS _ hI) rfl ?_
      first | refine WT_take 4 rfl rfl (by kernel_rfl) (hXS _ hI) rfl (fun W hW => have hI := hSx W hW; (by first | exact rMoveI rfl rfl | exact rMove rfl)) ?_ | refine WT_skip 4 rfl rfl (by kernel_rfl) (hXS _ hI) rfl ?_
      first | refine WT_take 5 rfl rfl (by kernel_rfl) (hXS _ hI) rfl (fun W hW => have hI := hSx W hW; (rIdx (sz := 7) rfl Try.underlying32 (by kernel_rfl) rfl rfl (by omega))) ?_ | refine WT_skip 5 rfl rfl (by kernel_rfl) (hXS _ hI) rfl ?_
      first | refine WT_take 6 rfl rfl (by kernel_rfl) (hXS _ hI) rfl (fun W hW => have hI := hSx W hW; (by first | exact rFldN (off := 1) rfl (by kernel_rfl) rfl | exact rFld (off := 1) rfl (by kernel_rfl) rfl)) ?_ | refine WT_skip 6 rfl rfl (by kernel_rfl) (hXS _ hI) rfl ?_
      first | refine WT_take 7 rfl rfl (by kernel_rfl) (hXS _ hI) rfl (fun W hW => have hI := hSx W hW; (by first | exact rLd (v := .int .i64 _) rfl (by kernel_rfl) rfl (by first | exact hI.c0 rfl | exact hI.c1 rfl | exact hI.c2 rfl | exact hI.c3 rfl | exact hI.c4 rfl | exact hI.c5 rfl | exact hI.oldp g1 | exact g1 | exact hI.oldp g0 | exact g0 | exact hI.oldp f0 | exact f0) | exact rLd rfl (by kernel_rfl) rfl (by first | exact hI.c0 rfl | exact hI.c1 rfl | exact hI.c2 rfl | exact hI.c3 rfl | exact hI.c4 rfl | exact hI.c5 rfl | exact hI.oldp g1 | exact g1 | exact hI.oldp g0 | exact g0 | exact hI.oldp f0 | exact f0))) ?_ | refine WT_skip 7 rfl rfl (by kernel_rfl) (hXS _ hI) rfl ?_
      first | refine WT_take 8 rfl rfl (by kernel_rfl) (hXS _ hI) rfl (fun W hW => have hI := hSx W hW; (by first | exact rNeqT rfl rfl rfl (by omega) | exact rNeqF rfl rfl rfl (by omega) | exact rNeq rfl rfl rfl)) ?_ | refine WT_skip 8 rfl rfl (by kernel_rfl) (hXS _ hI) rfl ?_
      first | refine WT_take 9 rfl rfl (by kernel_rfl) (hXS _ hI) rfl (fun W hW => have hI := hSx W hW; (by first | exact rMoveB rfl rfl | exact rMove rfl)) ?_ | refine WT_skip 9 rfl rfl (by kernel_rfl) (hXS _ hI) rfl ?_
      first | refine WT_take 10 rfl rfl (by kernel_rfl) (hXS _ hI) rfl (fun W hW => have hI := hSx W hW; (by first | exact rMoveS rfl rfl | exact rMove rfl)) ?_ | refine WT_skip 10 rfl rfl (by kernel_rfl) (hXS _ hI) rfl ?_
      first | refine WT_take 11 rfl rfl (by kernel_rfl) (hXS _ hI) rfl (fun W hW => have hI := hSx W hW; (by first | exact rMoveI rfl rfl | exact rMove rfl)) ?_ | refine WT_skip 11 rfl rfl (by kernel_rfl) (hXS _ hI) rfl ?_
      first | refine WT_take 12 rfl rfl (by kernel_rfl) (hXS _ hI) rfl (fun W hW => have hI := hSx W hW; (rIdx (sz := 7) rfl Try.underlying32 (by kernel_rfl) rfl rfl (by omega))) ?_ | refine WT_skip 12 rfl rfl (by kernel_rfl) (hXS _ hI) rfl ?_
      first | refine WT_take 13 rfl rfl (by kernel_rfl) (hXS _ hI) rfl (fun W hW => have hI := hSx W hW; (by first | exact rFldN (off := 0) rfl (by kernel_rfl) rfl | exact rFld0 rfl (by kernel_rfl) rfl)) ?_ | refine WT_skip 13 rfl rfl (by kernel_rfl) (hXS _ hI) rfl ?_
      first | refine WT_take 14 rfl rfl (by kernel_rfl) (hXS _ hI) rfl (fun W hW => have hI := hSx W hW; (by first | exact rLd (v := .int .i64 _) rfl (by kernel_rfl) rfl (by first | exact hI.c0 rfl | exact hI.c1 rfl | exact hI.c2 rfl | exact hI.c3 rfl | exact hI.c4 rfl | exact hI.c5 rfl | exact hI.oldp g1 | exact g1 | exact hI.oldp g0 | exact g0 | exact hI.oldp f0 | exact f0) | exact rLd rfl (by kernel_rfl) rfl (by first | exact hI.c0 rfl | exact hI.c1 rfl | exact hI.c2 rfl | exact hI.c3 rfl | exact hI.c4 rfl | exact hI.c5 rfl | exact hI.oldp g1 | exact g1 | exact hI.oldp g0 | exact g0 | exact hI.oldp f0 | exact f0))) ?_ | refine WT_skip 14 rfl rfl (by kernel_rfl) (hXS _ hI) rfl ?_
      first | refine WT_take 15 rfl rfl (by kernel_rfl) (hXS _ hI) rfl (fun W hW => have hI := hSx W hW; (by first | exact rMoveS rfl rfl | exact rMove rfl)) ?_ | refine WT_skip 15 rfl rfl (by kernel_rfl) (hXS _ hI) rfl ?_
      first | refine WT_take 16 rfl rfl (by kernel_rfl) (hXS _ hI) rfl (fun W hW => have hI := hSx W hW; (by first | exact rMoveI rfl rfl | exact rMove rfl)) ?_ | refine WT_skip 16 rfl rfl (by kernel_rfl) (hXS _ hI) rfl ?_
      first | refine WT_take 17 rfl rfl (by kernel_rfl) (hXS _ hI) rfl (fun W hW => have hI := hSx W hW; (rIdx (sz := 7) rfl Try.underlying32 (by kernel_rfl) rfl rfl (by omega))) ?_ | refine WT_skip 17 rfl rfl (by kernel_rfl) (hXS _ hI) rfl ?_
      first | refine WT_take 18 rfl rfl (by kernel_rfl) (hXS _ hI) rfl (fun W hW => have hI := hSx W hW; (by first | exact rFldN (off := 0) rfl (by kernel_rfl) rfl | exact rFld0 rfl (by kernel_rfl) rfl)) ?_ | refine WT_skip 18 rfl rfl (by kernel_rfl) (hXS _ hI) rfl ?_
      first | refine WT_take 19 rfl rfl (by kernel_rfl) (hXS _ hI) rfl (fun W hW => have hI := hSx W hW; (by first | exact rLd (v := .int .i64 _) rfl (by kernel_rfl) rfl (by first | exact hI.c0 rfl | exact hI.c1 rfl | exact hI.c2 rfl | exact hI.c3 rfl | exact hI.c4 rfl | exact hI.c5 rfl | exact hI.oldp g1 | exact g1 | exact hI.oldp g0 | exact g0 | exact hI.oldp f0 | exact f0) | exact rLd rfl (by kernel_rfl) rfl (by first | exact hI.c0 rfl | exact hI.c1 rfl | exact hI.c2 rfl | exact hI.c3 rfl | exact hI.c4 rfl | exact hI.c5 rfl | exact hI.oldp g1 | exact g1 | exact hI.oldp g0 | exact g0 | exact hI.oldp f0 | exact f0))) ?_ | refine WT_skip 19 rfl rfl (by kernel_rfl) (hXS _ hI) rfl ?_
      first | refine WT_take 20 rfl rfl (by kernel_rfl) (hXS _ hI) rfl (fun W hW => have hI := hSx W hW; (by first | exact rNeqT rfl rfl rfl (by omega) | exact rNeqF rfl rfl rfl (by omega) | exact rNeq rfl rfl rfl)) ?_ | refine WT_skip 20 rfl rfl (by kernel_rfl) (hXS _ hI) rfl ?_
      first | refine WT_take 21 rfl rfl (by kernel_rfl) (hXS _ hI) rfl (fun W hW => have hI := hSx W hW; (by first | exact rPickTB rfl rfl rfl | exact rPickFB rfl rfl rfl | exact rPickB rfl rfl rfl rfl)) ?_ | refine WT_skip 21 rfl rfl (by kernel_rfl) (hXS _ hI) rfl ?_
      refine WT_take 22 rfl rfl (by kernel_rfl) (hXS _ hI) rfl (fun W hW => have hI := hSx W hW; (by first | exact rPickTB rfl rfl rfl | exact rPickFB rfl rfl rfl | exact rPickB rfl rfl rfl rfl)) ?_
      refine WT_end (by kernel_rfl) ?_
      refine W_cond true rfl ?_
      refine W_skip ?_
      refine W_block ?_
      refine W_region ?_
      refine WL_val rfl rfl rfl (by first | exact rMoveI rfl rfl | exact rMove rfl) ?_
      refine WL_val rfl rfl rfl (by first | exact rSub rfl rfl rfl (by omega) | exact rSubW rfl rfl rfl) ?_
      refine WL_val rfl rfl rfl (by first | exact rAsgnI rfl rfl | exact rAsgn rfl) ?_
      refine WL_nil ?_
      exact ⟨bg, by omega, (bg : Int) - 1, by omega, by omega, by omega, ⟨rfl, rfl, rfl, rfl, rfl, rfl, trivial⟩, hI.pu⟩
    refine W_seq ?_
    refine W_seq ?_
    refine W_draw (by kernel_rfl) ?_
    refine WA_inv (T := []) hI.drew ?_
    intro Sx hSx hXS
    replace hI := hI.drew
    refine WT_take 0 rfl rfl (by kernel_rfl) (hXS _ hI) rfl (fun W hW => have hI := hSx W hW; (by first | exact rMoveI rfl rfl | exact rMove rfl)) ?_
    refine WT_take 1 rfl rfl (by kernel_rfl) (hXS _ hI) rfl (fun W hW => have hI := hSx W hW; (by first | exact rGeqT rfl rfl rfl (by omega) | exact rGeqF rfl rfl rfl (by omega) | exact rGeq rfl rfl rfl)) ?_
    refine WT_take 2 rfl rfl (by kernel_rfl) (hXS _ hI) rfl (fun W hW => have hI := hSx W hW; (by first | exact rMoveB rfl rfl | exact rMove rfl)) ?_
    first | refine WT_take 3 rfl rfl (by kernel_rfl) (hXS _ hI) rfl (fun W hW => have hI := hSx W hW; (by first | exact rMoveS rfl rfl | exact rMove rfl)) ?_ | refine WT_skip 3 rfl rfl (by kernel_rfl) (hXS _ hI) rfl ?_
    first | refine WT_take 4 rfl rfl (by kernel_rfl) (hXS _ hI) rfl (fun W hW => have hI := hSx W hW; (by first | exact rMoveI rfl rfl | exact rMove rfl)) ?_ | refine WT_skip 4 rfl rfl (by kernel_rfl) (hXS _ hI) rfl ?_
    first | refine WT_take 5 rfl rfl (by kernel_rfl) (hXS _ hI) rfl (fun W hW => have hI := hSx W hW; (rIdx (sz := 7) rfl Try.underlying32 (by kernel_rfl) rfl rfl (by omega))) ?_ | refine WT_skip 5 rfl rfl (by kernel_rfl) (hXS _ hI) rfl ?_
    first | refine WT_take 6 rfl rfl (by kernel_rfl) (hXS _ hI) rfl (fun W hW => have hI := hSx W hW; (by first | exact rFldN (off := 1) rfl (by kernel_rfl) rfl | exact rFld (off := 1) rfl (by kernel_rfl) rfl)) ?_ | refine WT_skip 6 rfl rfl (by kernel_rfl) (hXS _ hI) rfl ?_
    first | refine WT_take 7 rfl rfl (by kernel_rfl) (hXS _ hI) rfl (fun W hW => have hI := hSx W hW; (by first | exact rLd (v := .int .i64 _) rfl (by kernel_rfl) rfl (by first | exact hI.c0 rfl | exact hI.c1 rfl | exact hI.c2 rfl | exact hI.c3 rfl | exact hI.c4 rfl | exact hI.c5 rfl | exact hI.oldp g1 | exact g1 | exact hI.oldp g0 | exact g0 | exact hI.oldp f0 | exact f0) | exact rLd rfl (by kernel_rfl) rfl (by first | exact hI.c0 rfl | exact hI.c1 rfl | exact hI.c2 rfl | exact hI.c3 rfl | exact hI.c4 rfl | exact hI.c5 rfl | exact hI.oldp g1 | exact g1 | exact hI.oldp g0 | exact g0 | exact hI.oldp f0 | exact f0))) ?_ | refine WT_skip 7 rfl rfl (by kernel_rfl) (hXS _ hI) rfl ?_
    first | refine WT_take 8 rfl rfl (by kernel_rfl) (hXS _ hI) rfl (fun W hW => have hI := hSx W hW; (by first | exact rNeqT rfl rfl rfl (by omega) | exact rNeqF rfl rfl rfl (by omega) | exact rNeq rfl rfl rfl)) ?_ | refine WT_skip 8 rfl rfl (by kernel_rfl) (hXS _ hI) rfl ?_
    first | refine WT_take 9 rfl rfl (by kernel_rfl) (hXS _ hI) rfl (fun W hW => have hI := hSx W hW; (by first | exact rMoveB rfl rfl | exact rMove rfl)) ?_ | refine WT_skip 9 rfl rfl (by kernel_rfl) (hXS _ hI) rfl ?_
    first | refine WT_take 10 rfl rfl (by kernel_rfl) (hXS _ hI) rfl (fun W hW => have hI := hSx W hW; (by first | exact rMoveS rfl rfl | exact rMove rfl)) ?_ | refine WT_skip 10 rfl rfl (by kernel_rfl) (hXS _ hI) rfl ?_
    first | refine WT_take 11 rfl rfl (by kernel_rfl) (hXS _ hI) rfl (fun W hW => have hI := hSx W hW; (by first | exact rMoveI rfl rfl | exact rMove rfl)) ?_ | refine WT_skip 11 rfl rfl (by kernel_rfl) (hXS _ hI) rfl ?_
    first | refine WT_take 12 rfl rfl (by kernel_rfl) (hXS _ hI) rfl (fun W hW => have hI := hSx W hW; (rIdx (sz := 7) rfl Try.underlying32 (by kernel_rfl) rfl rfl (by omega))) ?_ | refine WT_skip 12 rfl rfl (by kernel_rfl) (hXS _ hI) rfl ?_
    first | refine WT_take 13 rfl rfl (by kernel_rfl) (hXS _ hI) rfl (fun W hW => have hI := hSx W hW; (by first | exact rFldN (off := 0) rfl (by kernel_rfl) rfl | exact rFld0 rfl (by kernel_rfl) rfl)) ?_ | refine WT_skip 13 rfl rfl (by kernel_rfl) (hXS _ hI) rfl ?_
    first | refine WT_take 14 rfl rfl (by kernel_rfl) (hXS _ hI) rfl (fun W hW => have hI := hSx W hW; (by first | exact rLd (v := .int .i64 _) rfl (by kernel_rfl) rfl (by first | exact hI.c0 rfl | exact hI.c1 rfl | exact hI.c2 rfl | exact hI.c3 rfl | exact hI.c4 rfl | exact hI.c5 rfl | exact hI.oldp g1 | exact g1 | exact hI.oldp g0 | exact g0 | exact hI.oldp f0 | exact f0) | exact rLd rfl (by kernel_rfl) rfl (by first | exact hI.c0 rfl | exact hI.c1 rfl | exact hI.c2 rfl | exact hI.c3 rfl | exact hI.c4 rfl | exact hI.c5 rfl | exact hI.oldp g1 | exact g1 | exact hI.oldp g0 | exact g0 | exact hI.oldp f0 | exact f0))) ?_ | refine WT_skip 14 rfl rfl (by kernel_rfl) (hXS _ hI) rfl ?_
    first | refine WT_take 15 rfl rfl (by kernel_rfl) (hXS _ hI) rfl (fun W hW => have hI := hSx W hW; (by first | exact rMoveS rfl rfl | exact rMove rfl)) ?_ | refine WT_skip 15 rfl rfl (by kernel_rfl) (hXS _ hI) rfl ?_
    first | refine WT_take 16 rfl rfl (by kernel_rfl) (hXS _ hI) rfl (fun W hW => have hI := hSx W hW; (by first | exact rMoveI rfl rfl | exact rMove rfl)) ?_ | refine WT_skip 16 rfl rfl (by kernel_rfl) (hXS _ hI) rfl ?_
    first | refine WT_take 17 rfl rfl (by kernel_rfl) (hXS _ hI) rfl (fun W hW => have hI := hSx W hW; (rIdx (sz := 7) rfl Try.underlying32 (by kernel_rfl) rfl rfl (by omega))) ?_ | refine WT_skip 17 rfl rfl (by kernel_rfl) (hXS _ hI) rfl ?_
    first | refine WT_take 18 rfl rfl (by kernel_rfl) (hXS _ hI) rfl (fun W hW => have hI := hSx W hW; (by first | exact rFldN (off := 0) rfl (by kernel_rfl) rfl | exact rFld0 rfl (by kernel_rfl) rfl)) ?_ | refine WT_skip 18 rfl rfl (by kernel_rfl) (hXS _ hI) rfl ?_
    first | refine WT_take 19 rfl rfl (by kernel_rfl) (hXS _ hI) rfl (fun W hW => have hI := hSx W hW; (by first | exact rLd (v := .int .i64 _) rfl (by kernel_rfl) rfl (by first | exact hI.c0 rfl | exact hI.c1 rfl | exact hI.c2 rfl | exact hI.c3 rfl | exact hI.c4 rfl | exact hI.c5 rfl | exact hI.oldp g1 | exact g1 | exact hI.oldp g0 | exact g0 | exact hI.oldp f0 | exact f0) | exact rLd rfl (by kernel_rfl) rfl (by first | exact hI.c0 rfl | exact hI.c1 rfl | exact hI.c2 rfl | exact hI.c3 rfl | exact hI.c4 rfl | exact hI.c5 rfl | exact hI.oldp g1 | exact g1 | exact hI.oldp g0 | exact g0 | exact hI.oldp f0 | exact f0))) ?_ | refine WT_skip 19 rfl rfl (by kernel_rfl) (hXS _ hI) rfl ?_
    first | refine WT_take 20 rfl rfl (by kernel_rfl) (hXS _ hI) rfl (fun W hW => have hI := hSx W hW; (by first | exact rNeqT rfl rfl rfl (by omega) | exact rNeqF rfl rfl rfl (by omega) | exact rNeq rfl rfl rfl)) ?_ | refine WT_skip 20 rfl rfl (by kernel_rfl) (hXS _ hI) rfl ?_
    first | refine WT_take 21 rfl rfl (by kernel_rfl) (hXS _ hI) rfl (fun W hW => have hI := hSx W hW; (by first | exact rPickTB rfl rfl rfl | exact rPickFB rfl rfl rfl | exact rPickB rfl rfl rfl rfl)) ?_ | refine WT_skip 21 rfl rfl (by kernel_rfl) (hXS _ hI) rfl ?_
    refine WT_take 22 rfl rfl (by kernel_rfl) (hXS _ hI) rfl (fun W hW => have hI := hSx W hW; (by first | exact rPickTB rfl rfl rfl | exact rPickFB rfl rfl rfl | exact rPickB rfl rfl rfl rfl)) ?_
    refine WT_end (by kernel_rfl) ?_
    refine W_cond false rfl ?_
    refine W_exit ?_
    exact ⟨(bg : Int), .inr ⟨bg, eg, rfl, hbk, heg, ht1, hpr⟩, ⟨rfl, rfl, rfl, rfl, rfl, rfl, trivial⟩, hI.pu⟩
  clear hI
  rintro ρ w ⟨z, hz, hH, hpw⟩
  obtain ⟨σ, rfl⟩ := hH.open
  have hI := (Inv.start (fun _ => False) w6).pure hpw
  by_cases hzi : z ≤ (i : Int)
  · have hz1 : -1 ≤ z := by rcases hz with rfl | ⟨bg, _, rfl, _⟩ <;> omega
    refine W_seq ?_
    refine W_draw (by kernel_rfl) ?_
    refine WA_inv (T := []) hI.drew ?_
    intro Sx hSx hXS
    replace hI := hI.drew
    refine WT_take 0 rfl rfl (by kernel_rfl) (hXS _ hI) rfl (fun W hW => have hI := hSx W hW; (by first | exact rMoveI rfl rfl | exact rMove rfl)) ?_
    refine WT_take 1 rfl rfl (by kernel_rfl) (hXS _ hI) rfl (fun W hW => have hI := hSx W hW; (by first | exact rMoveI rfl rfl | exact rMove rfl)) ?_
    refine WT_take 2 rfl rfl (by kernel_rfl) (hXS _ hI) rfl (fun W hW => have hI := hSx W hW; (by first | exact rGtrT rfl rfl rfl (by omega) | exact rGtrF rfl rfl rfl (by omega) | exact rGtr rfl rfl rfl)) ?_
    refine WT_take 3 rfl rfl (by kernel_rfl) (hXS _ hI) rfl (fun W hW => have hI := hSx W hW; (by first | exact rMoveB rfl rfl | exact rMove rfl)) ?_
    refine WT_skip 4 rfl rfl (by kernel_rfl) (hXS _ hI) rfl ?_
    refine WT_skip 5 rfl rfl (by kernel_rfl) (hXS _ hI) rfl ?_
    refine WT_skip 6 rfl rfl (by kernel_rfl) (hXS _ hI) rfl ?_
    refine WT_skip 7 rfl rfl (by kernel_rfl) (hXS _ hI) rfl ?_
    refine WT_skip 8 rfl rfl (by kernel_rfl) (hXS _ hI) rfl ?_
    refine WT_skip 9 rfl rfl (by kernel_rfl) (hXS _ hI) rfl ?_
    refine WT_skip 10 rfl rfl (by kernel_rfl) (hXS _ hI) rfl ?_
    refine WT_skip 11 rfl rfl (by kernel_rfl) (hXS _ hI) rfl ?_
    refine WT_skip 12 rfl rfl (by kernel_rfl) (hXS _ hI) rfl ?_
    refine WT_skip 13 rfl rfl (by kernel_rfl) (hXS _ hI) rfl ?_
    refine WT_skip 14 rfl rfl (by kernel_rfl) (hXS _ hI) rfl ?_
    refine WT_skip 15 rfl rfl (by kernel_rfl) (hXS _ hI) rfl ?_
    refine WT_skip 16 rfl rfl (by kernel_rfl) (hXS _ hI) rfl ?_
    refine WT_skip 17 rfl rfl (by kernel_rfl) (hXS _ hI) rfl ?_
    refine WT_skip 18 rfl rfl (by kernel_rfl) (hXS _ hI) rfl ?_
    refine WT_skip 19 rfl rfl (by kernel_rfl) (hXS _ hI) rfl ?_
    refine WT_skip 20 rfl rfl (by kernel_rfl) (hXS _ hI) rfl ?_
    refine WT_skip 21 rfl rfl (by kernel_rfl) (hXS _ hI) rfl ?_
    refine WT_skip 22 rfl rfl (by kernel_rfl) (hXS _ hI) rfl ?_
    refine WT_skip 23 rfl rfl (by kernel_rfl) (hXS _ hI) rfl ?_
    refine WT_skip 24 rfl rfl (by kernel_rfl) (hXS _ hI) rfl ?_
    refine WT_skip 25 rfl rfl (by kernel_rfl) (hXS _ hI) rfl ?_
    refine WT_skip 26 rfl rfl (by kernel_rfl) (hXS _ hI) rfl ?_
    refine WT_skip 27 rfl rfl (by kernel_rfl) (hXS _ hI) rfl ?_
    refine WT_skip 28 rfl rfl (by kernel_rfl) (hXS _ hI) rfl ?_
    refine WT_skip 29 rfl rfl (by kernel_rfl) (hXS _ hI) rfl ?_
    refine WT_skip 30 rfl rfl (by kernel_rfl) (hXS _ hI) rfl ?_
    refine WT_skip 31 rfl rfl (by kernel_rfl) (hXS _ hI) rfl ?_
    refine WT_skip 32 rfl rfl (by kernel_rfl) (hXS _ hI) rfl ?_
    refine WT_take 33 rfl rfl (by kernel_rfl) (hXS _ hI) rfl (fun W hW => have hI := hSx W hW; (by first | exact rPickTB rfl rfl rfl | exact rPickFB rfl rfl rfl | exact rPickB rfl rfl rfl rfl)) ?_
    refine WT_end (by kernel_rfl) ?_
    refine W_cond false rfl ?_
    refine W_skip ?_
    exact ⟨⟨rfl, rfl, rfl, rfl, rfl, trivial⟩, hI.pu⟩
  obtain ⟨bg, eg, rfl, hbk, heg, ht1, hpr⟩ := hz.resolve_left (by omega)
  obtain ⟨hle, hless⟩ := hS.freshLaw (show i < k by omega) he he' hst hst' hty (by rw [hback]; exact hkd) hty' hkey hbk heg ht1 hpr (by omega)
  have hn1 : ¬ st'.less st := fun g => SEnt.irrefl st (SEnt.le_less hle g)
  by_cases hk2 : e'.kind = 2
  rotate_left
  · refine W_seq ?_
    refine W_draw (by kernel_rfl) ?_
    refine WA_inv (T := []) hI.drew ?_
    intro Sx hSx hXS
    replace hI := hI.drew
    refine WT_take 0 rfl rfl (by kernel_rfl) (hXS _ hI) rfl (fun W hW => have hI := hSx W hW; (by first | exact rMoveI rfl rfl | exact rMove rfl)) ?_
    refine WT_take 1 rfl rfl (by kernel_rfl) (hXS _ hI) rfl (fun W hW => have hI := hSx W hW; (by first | exact rMoveI rfl rfl | exact rMove rfl)) ?_
    refine WT_take 2 rfl rfl (by kernel_rfl) (hXS _ hI) rfl (fun W hW => have hI := hSx W hW; (by first | exact rGtrT rfl rfl rfl (by omega) | exact rGtrF rfl rfl rfl (by omega) | exact rGtr rfl rfl rfl)) ?_
    refine WT_take 3 rfl rfl (by kernel_rfl) (hXS _ hI) rfl (fun W hW => have hI := hSx W hW; (by first | exact rMoveB rfl rfl | exact rMove rfl)) ?_
    first | refine WT_take 4 rfl rfl (by kernel_rfl) (hXS _ hI) rfl (fun W hW => have hI := hSx W hW; (by first | exact rMoveS rfl rfl | exact rMove rfl)) ?_ | refine WT_skip 4 rfl rfl (by kernel_rfl) (hXS _ hI) rfl ?_
    first | refine WT_take 5 rfl rfl (by kernel_rfl) (hXS _ hI) rfl (fun W hW => have hI := hSx W hW; (by first | exact rMoveI rfl rfl | exact rMove rfl)) ?_ | refine WT_skip 5 rfl rfl (by kernel_rfl) (hXS _ hI) rfl ?_
    first | refine WT_take 6 rfl rfl (by kernel_rfl) (hXS _ hI) rfl (fun W hW => have hI := hSx W hW; (rIdx (sz := 2) rfl Try.underlying34 (by kernel_rfl) rfl rfl (by omega))) ?_ | refine WT_skip 6 rfl rfl (by kernel_rfl) (hXS _ hI) rfl ?_
    first | refine WT_take 7 rfl rfl (by kernel_rfl) (hXS _ hI) rfl (fun W hW => have hI := hSx W hW; (by first | exact rLdB (n := 2) rfl (by kernel_rfl) (by kernel_rfl) rfl rfl hI.g0 | exact rLdB (n := 2) rfl (by kernel_rfl) (by kernel_rfl) rfl rfl hI.g1 | exact rLdB (n := 2) rfl (by kernel_rfl) (by kernel_rfl) rfl rfl hI.g2 | exact rLdB (n := 2) rfl (by kernel_rfl) (by kernel_rfl) rfl rfl hI.g3 | exact rLdB (n := 2) rfl (by kernel_rfl) (by kernel_rfl) rfl rfl hI.g4 | exact rLdB (n := 2) rfl (by kernel_rfl) (by kernel_rfl) rfl rfl hI.g5 | exact rLd2 rfl (by kernel_rfl) (by kernel_rfl) rfl (by first | exact hI.c0 rfl | exact hI.c1 rfl | exact hI.c2 rfl | exact hI.c3 rfl | exact hI.c4 rfl | exact hI.c5 rfl | exact hI.oldp s0q | exact s0q | exact hI.oldp s1q | exact s1q | exact hI.oldp t0q | exact t0q | exact hI.oldp t1q | exact t1q | exact hI.oldp f3 | exact f3) (by first | exact hI.c0 rfl | exact hI.c1 rfl | exact hI.c2 rfl | exact hI.c3 rfl | exact hI.c4 rfl | exact hI.c5 rfl | exact hI.oldp s0q | exact s0q | exact hI.oldp s1q | exact s1q | exact hI.oldp t0q | exact t0q | exact hI.oldp t1q | exact t1q | exact hI.oldp f3 | exact f3))) ?_ | refine WT_skip 7 rfl rfl (by kernel_rfl) (hXS _ hI) rfl ?_
    first | refine WT_take 8 rfl rfl (by kernel_rfl) (hXS _ hI) rfl (fun W hW => have hI := hSx W hW; (by first | exact rMoveS rfl rfl | exact rMove rfl)) ?_ | refine WT_skip 8 rfl rfl (by kernel_rfl) (hXS _ hI) rfl ?_
    first | refine WT_take 9 rfl rfl (by kernel_rfl) (hXS _ hI) rfl (fun W hW => have hI := hSx W hW; (by first | exact rMoveI rfl rfl | exact rMove rfl)) ?_ | refine WT_skip 9 rfl rfl (by kernel_rfl) (hXS _ hI) rfl ?_
    first | refine WT_take 10 rfl rfl (by kernel_rfl) (hXS _ hI) rfl (fun W hW => have hI := hSx W hW; (rIdx (sz := 2) rfl Try.underlying34 (by kernel_rfl) rfl rfl (by omega))) ?_ | refine WT_skip 10 rfl rfl (by kernel_rfl) (hXS _ hI) rfl ?_
    first | refine WT_take 11 rfl rfl (by kernel_rfl) (hXS _ hI) rfl (fun W hW => have hI := hSx W hW; (by first | exact rLdB (n := 2) rfl (by kernel_rfl) (by kernel_rfl) rfl rfl hI.g0 | exact rLdB (n := 2) rfl (by kernel_rfl) (by kernel_rfl) rfl rfl hI.g1 | exact rLdB (n := 2) rfl (by kernel_rfl) (by kernel_rfl) rfl rfl hI.g2 | exact rLdB (n := 2) rfl (by kernel_rfl) (by kernel_rfl) rfl rfl hI.g3 | exact rLdB (n := 2) rfl (by kernel_rfl) (by kernel_rfl) rfl rfl hI.g4 | exact rLdB (n := 2) rfl (by kernel_rfl) (by kernel_rfl) rfl rfl hI.g5 | exact rLd2 rfl (by kernel_rfl) (by kernel_rfl) rfl (by first | exact hI.c0 rfl | exact hI.c1 rfl | exact hI.c2 rfl | exact hI.c3 rfl | exact hI.c4 rfl | exact hI.c5 rfl | exact hI.oldp s0q | exact s0q | exact hI.oldp s1q | exact s1q | exact hI.oldp t0q | exact t0q | exact hI.oldp t1q | exact t1q | exact hI.oldp f3 | exact f3) (by first | exact hI.c0 rfl | exact hI.c1 rfl | exact hI.c2 rfl | exact hI.c3 rfl | exact hI.c4 rfl | exact hI.c5 rfl | exact hI.oldp s0q | exact s0q | exact hI.oldp s1q | exact s1q | exact hI.oldp t0q | exact t0q | exact hI.oldp t1q | exact t1q | exact hI.oldp f3 | exact f3))) ?_ | refine WT_skip 11 rfl rfl (by kernel_rfl) (hXS _ hI) rfl ?_
    refine WT_one 12 rfl (by kernel_rfl) rfl ?_
    refine WL_call rfl rfl rfl (rCall (vs := [.agg _, .agg _]) rfl Try.func11 rfl rfl rfl) ?_
    refine (less_any st' st _).mono ?_
    rintro en w7 ⟨rfl, hp⟩
    rw [decide_eq_false hn1]
    refine ⟨_, rfl, ?_⟩
    replace hI := hI.pure hp
    refine WL_nil ⟨hXS _ hI, ?_⟩
    first | refine WT_take 13 rfl rfl (by kernel_rfl) (hXS _ hI) rfl (fun W hW => have hI := hSx W hW; (by first | exact rMoveB rfl rfl | exact rMove rfl)) ?_ | refine WT_skip 13 rfl rfl (by kernel_rfl) (hXS _ hI) rfl ?_
    first | refine WT_take 14 rfl rfl (by kernel_rfl) (hXS _ hI) rfl (fun W hW => have hI := hSx W hW; (by first | exact rMoveS rfl rfl | exact rMove rfl)) ?_ | refine WT_skip 14 rfl rfl (by kernel_rfl) (hXS _ hI) rfl ?_
    first | refine WT_take 15 rfl rfl (by kernel_rfl) (hXS _ hI) rfl (fun W hW => have hI := hSx W hW; (by first | exact rMoveI rfl rfl | exact rMove rfl)) ?_ | refine WT_skip 15 rfl rfl (by kernel_rfl) (hXS _ hI) rfl ?_
    first | refine WT_take 16 rfl rfl (by kernel_rfl) (hXS _ hI) rfl (fun W hW => have hI := hSx W hW; (rIdx (sz := 7) rfl Try.underlying32 (by kernel_rfl) rfl rfl (by omega))) ?_ | refine WT_skip 16 rfl rfl (by kernel_rfl) (hXS _ hI) rfl ?_
    first | refine WT_take 17 rfl rfl (by kernel_rfl) (hXS _ hI) rfl (fun W hW => have hI := hSx W hW; (by first | exact rFldN (off := 3) rfl (by kernel_rfl) rfl | exact rFld (off := 3) rfl (by kernel_rfl) rfl)) ?_ | refine WT_skip 17 rfl rfl (by kernel_rfl) (hXS _ hI) rfl ?_
    first | refine WT_take 18 rfl rfl (by kernel_rfl) (hXS _ hI) rfl (fun W hW => have hI := hSx W hW; (by first | exact rLd (v := .int .i64 _) rfl (by kernel_rfl) rfl (by first | exact hI.c0 rfl | exact hI.c1 rfl | exact hI.c2 rfl | exact hI.c3 rfl | exact hI.c4 rfl | exact hI.c5 rfl | exact hI.oldp s0q | exact s0q | exact hI.oldp s1q | exact s1q | exact hI.oldp t0q | exact t0q | exact hI.oldp t1q | exact t1q | exact hI.oldp f3 | exact f3) | exact rLd rfl (by kernel_rfl) rfl (by first | exact hI.c0 rfl | exact hI.c1 rfl | exact hI.c2 rfl | exact hI.c3 rfl | exact hI.c4 rfl | exact hI.c5 rfl | exact hI.oldp s0q | exact s0q | exact hI.oldp s1q | exact s1q | exact hI.oldp t0q | exact t0q | exact hI.oldp t1q | exact t1q | exact hI.oldp f3 | exact f3))) ?_ | refine WT_skip 18 rfl rfl (by kernel_rfl) (hXS _ hI) rfl ?_
    first | refine WT_take 19 rfl rfl (by kernel_rfl) (hXS _ hI) rfl (fun W hW => have hI := hSx W hW; (by first | exact rEqlT rfl rfl rfl (by omega) | exact rEqlF rfl rfl rfl (by omega) | exact rEql rfl rfl rfl)) ?_ | refine WT_skip 19 rfl rfl (by kernel_rfl) (hXS _ hI) rfl ?_
    first | refine WT_take 20 rfl rfl (by kernel_rfl) (hXS _ hI) rfl (fun W hW => have hI := hSx W hW; (by first | exact rMoveB rfl rfl | exact rMove rfl)) ?_ | refine WT_skip 20 rfl rfl (by kernel_rfl) (hXS _ hI) rfl ?_
    refine WT_skip 21 rfl rfl (by kernel_rfl) (hXS _ hI) rfl ?_
    refine WT_skip 22 rfl rfl (by kernel_rfl) (hXS _ hI) rfl ?_
    refine WT_skip 23 rfl rfl (by kernel_rfl) (hXS _ hI) rfl ?_
    refine WT_skip 24 rfl rfl (by kernel_rfl) (hXS _ hI) rfl ?_
    refine WT_skip 25 rfl rfl (by kernel_rfl) (hXS _ hI) rfl ?_
    refine WT_skip 26 rfl rfl (by kernel_rfl) (hXS _ hI) rfl ?_
    refine WT_skip 27 rfl rfl (by kernel_rfl) (hXS _ hI) rfl ?_
    refine WT_skip 28 rfl rfl (by kernel_rfl) (hXS _ hI) rfl ?_
    refine WT_skip 29 rfl rfl (by kernel_rfl) (hXS _ hI) rfl ?_
    refine WT_skip 30 rfl rfl (by kernel_rfl) (hXS _ hI) rfl ?_
    first | refine WT_take 31 rfl rfl (by kernel_rfl) (hXS _ hI) rfl (fun W hW => have hI := hSx W hW; (by first | exact rPickTB rfl rfl rfl | exact rPickFB rfl rfl rfl | exact rPickB rfl rfl rfl rfl)) ?_ | refine WT_skip 31 rfl rfl (by kernel_rfl) (hXS _ hI) rfl ?_
    first | refine WT_take 32 rfl rfl (by kernel_rfl) (hXS _ hI) rfl (fun W hW => have hI := hSx W hW; (by first | exact rPickTB rfl rfl rfl | exact rPickFB rfl rfl rfl | exact rPickB rfl rfl rfl rfl)) ?_ | refine WT_skip 32 rfl rfl (by kernel_rfl) (hXS _ hI) rfl ?_
    refine WT_take 33 rfl rfl (by kernel_rfl) (hXS _ hI) rfl (fun W hW => have hI := hSx W hW; (by first | exact rPickTB rfl rfl rfl | exact rPickFB rfl rfl rfl | exact rPickB rfl rfl rfl rfl)) ?_
    refine WT_end (by kernel_rfl) ?_
    refine W_cond false rfl ?_
    refine W_skip ?_
    exact ⟨⟨rfl, rfl, rfl, rfl, rfl, trivial⟩, hI.pu⟩
  refine W_seq ?_
  refine W_draw (by kernel_rfl) ?_
  refine WA_inv (T := []) hI.drew ?_
  intro Sx hSx hXS
  replace hI := hI.drew
  refine WT_take 0 rfl rfl (by kernel_rfl) (hXS _ hI) rfl (fun W hW => have hI := hSx W hW; (by first | exact rMoveI rfl rfl | exact rMove rfl)) ?_
  refine WT_take 1 rfl rfl (by kernel_rfl) (hXS _ hI) rfl (fun W hW => have hI := hSx W hW; (by first | exact rMoveI rfl rfl | exact rMove rfl)) ?_
  refine WT_take 2 rfl rfl (by kernel_rfl) (hXS _ hI) rfl (fun W hW => have hI := hSx W hW; (by first | exact rGtrT rfl rfl rfl (by omega) | exact rGtrF rfl rfl rfl (by omega) | exact rGtr rfl rfl rfl)) ?_
  refine WT_take 3 rfl rfl (by kernel_rfl) (hXS _ hI) rfl (fun W hW => have hI := hSx W hW; (by first | exact rMoveB rfl rfl | exact rMove rfl)) ?_
  first | refine WT_take 4 rfl rfl (by kernel_rfl) (hXS _ hI) rfl (fun W hW => have hI := hSx W hW; (by first | exact rMoveS rfl rfl | exact rMove rfl)) ?_ | refine WT_skip 4 rfl rfl (by kernel_rfl) (hXS _ hI) rfl ?_
  first | refine WT_take 5 rfl rfl (by kernel_rfl) (hXS _ hI) rfl (fun W hW => have hI := hSx W hW; (by first | exact rMoveI rfl rfl | exact rMove rfl)) ?_ | refine WT_skip 5 rfl rfl (by kernel_rfl) (hXS _ hI) rfl ?_
  first | refine WT_take 6 rfl rfl (by kernel_rfl) (hXS _ hI) rfl (fun W hW => have hI := hSx W hW; (rIdx (sz := 2) rfl Try.underlying34 (by kernel_rfl) rfl rfl (by omega))) ?_ | refine WT_skip 6 rfl rfl (by kernel_rfl) (hXS _ hI) rfl ?_
  first | refine WT_take 7 rfl rfl (by kernel_rfl) (hXS _ hI) rfl (fun W hW => have hI := hSx W hW; (by first | exact rLdB (n := 2) rfl (by kernel_rfl) (by kernel_rfl) rfl rfl hI.g0 | exact rLdB (n := 2) rfl (by kernel_rfl) (by kernel_rfl) rfl rfl hI.g1 | exact rLdB (n := 2) rfl (by kernel_rfl) (by kernel_rfl) rfl rfl hI.g2 | exact rLdB (n := 2) rfl (by kernel_rfl) (by kernel_rfl) rfl rfl hI.g3 | exact rLdB (n := 2) rfl (by kernel_rfl) (by kernel_rfl) rfl rfl hI.g4 | exact rLdB (n := 2) rfl (by kernel_rfl) (by kernel_rfl) rfl rfl hI.g5 | exact rLd2 rfl (by kernel_rfl) (by kernel_rfl) rfl (by first | exact hI.c0 rfl | exact hI.c1 rfl | exact hI.c2 rfl | exact hI.c3 rfl | exact hI.c4 rfl | exact hI.c5 rfl | exact hI.oldp s0q | exact s0q | exact hI.oldp s1q | exact s1q | exact hI.oldp t0q | exact t0q | exact hI.oldp t1q | exact t1q | exact hI.oldp f3 | exact f3) (by first | exact hI.c0 rfl | exact hI.c1 rfl | exact hI.c2 rfl | exact hI.c3 rfl | exact hI.c4 rfl | exact hI.c5 rfl | exact hI.oldp s0q | exact s0q | exact hI.oldp s1q | exact s1q | exact hI.oldp t0q | exact t0q | exact hI.oldp t1q | exact t1q | exact hI.oldp f3 | exact f3))) ?_ | refine WT_skip 7 rfl rfl (by kernel_rfl) (hXS _ hI) rfl ?_
  first | refine WT_take 8 rfl rfl (by kernel_rfl) (hXS _ hI) rfl (fun W hW => have hI := hSx W hW; (by first | exact rMoveS rfl rfl | exact rMove rfl)) ?_ | refine WT_skip 8 rfl rfl (by kernel_rfl) (hXS _ hI) rfl ?_
  first | refine WT_take 9 rfl rfl (by kernel_rfl) (hXS _ hI) rfl (fun W hW => have hI := hSx W hW; (by first | exact rMoveI rfl rfl | exact rMove rfl)) ?_ | refine WT_skip 9 rfl rfl (by kernel_rfl) (hXS _ hI) rfl ?_
  first | refine WT_take 10 rfl rfl (by kernel_rfl) (hXS _ hI) rfl (fun W hW => have hI := hSx W hW; (rIdx (sz := 2) rfl Try.underlying34 (by kernel_rfl) rfl rfl (by omega))) ?_ | refine WT_skip 10 rfl rfl (by kernel_rfl) (hXS _ hI) rfl ?_
  first | refine WT_take 11 rfl rfl (by kernel_rfl) (hXS _ hI) rfl (fun W hW => have hI := hSx W hW; (by first | exact rLdB (n := 2) rfl (by kernel_rfl) (by kernel_rfl) rfl rfl hI.g0 | exact rLdB (n := 2) rfl (by kernel_rfl) (by kernel_rfl) rfl rfl hI.g1 | exact rLdB (n := 2) rfl (by kernel_rfl) (by kernel_rfl) rfl rfl hI.g2 | exact rLdB (n := 2) rfl (by kernel_rfl) (by kernel_rfl) rfl rfl hI.g3 | exact rLdB (n := 2) rfl (by kernel_rfl) (by kernel_rfl) rfl rfl hI.g4 | exact rLdB (n := 2) rfl (by kernel_rfl) (by kernel_rfl) rfl rfl hI.g5 | exact rLd2 rfl (by kernel_rfl) (by kernel_rfl) rfl (by first | exact hI.c0 rfl | exact hI.c1 rfl | exact hI.c2 rfl | exact hI.c3 rfl | exact hI.c4 rfl | exact hI.c5 rfl | exact hI.oldp s0q | exact s0q | exact hI.oldp s1q | exact s1q | exact hI.oldp t0q | exact t0q | exact hI.oldp t1q | exact t1q | exact hI.oldp f3 | exact f3) (by first | exact hI.c0 rfl | exact hI.c1 rfl | exact hI.c2 rfl | exact hI.c3 rfl | exact hI.c4 rfl | exact hI.c5 rfl | exact hI.oldp s0q | exact s0q | exact hI.oldp s1q | exact s1q | exact hI.oldp t0q | exact t0q | exact hI.oldp t1q | exact t1q | exact hI.oldp f3 | exact f3))) ?_ | refine WT_skip 11 rfl rfl (by kernel_rfl) (hXS _ hI) rfl ?_
  refine WT_one 12 rfl (by kernel_rfl) rfl ?_
  refine WL_call rfl rfl rfl (rCall (vs := [.agg _, .agg _]) rfl Try.func11 rfl rfl rfl) ?_
  refine (less_any st' st _).mono ?_
  rintro en w7 ⟨rfl, hp⟩
  rw [decide_eq_false hn1]
  refine ⟨_, rfl, ?_⟩
  replace hI := hI.pure hp
  refine WL_nil ⟨hXS _ hI, ?_⟩
  first | refine WT_take 13 rfl rfl (by kernel_rfl) (hXS _ hI) rfl (fun W hW => have hI := hSx W hW; (by first | exact rMoveB rfl rfl | exact rMove rfl)) ?_ | refine WT_skip 13 rfl rfl (by kernel_rfl) (hXS _ hI) rfl ?_
  first | refine WT_take 14 rfl rfl (by kernel_rfl) (hXS _ hI) rfl (fun W hW => have hI := hSx W hW; (by first | exact rMoveS rfl rfl | exact rMove rfl)) ?_ | refine WT_skip 14 rfl rfl (by kernel_rfl) (hXS _ hI) rfl ?_
  first | refine WT_take 15 rfl rfl (by kernel_rfl) (hXS _ hI) rfl (fun W hW => have hI := hSx W hW; (by first | exact rMoveI rfl rfl | exact rMove rfl)) ?_ | refine WT_skip 15 rfl rfl (by kernel_rfl) (hXS _ hI) rfl ?_
  first | refine WT_take 16 rfl rfl (by kernel_rfl) (hXS _ hI) rfl (fun W hW => have hI := hSx W hW; (rIdx (sz := 7) rfl Try.underlying32 (by kernel_rfl) rfl rfl (by omega))) ?_ | refine WT_skip 16 rfl rfl (by kernel_rfl) (hXS _ hI) rfl ?_
  first | refine WT_take 17 rfl rfl (by kernel_rfl) (hXS _ hI) rfl (fun W hW => have hI := hSx W hW; (by first | exact rFldN (off := 3) rfl (by kernel_rfl) rfl | exact rFld (off := 3) rfl (by kernel_rfl) rfl)) ?_ | refine WT_skip 17 rfl rfl (by kernel_rfl) (hXS _ hI) rfl ?_
  first | refine WT_take 18 rfl rfl (by kernel_rfl) (hXS _ hI) rfl (fun W hW => have hI := hSx W hW; (by first | exact rLd (v := .int .i64 _) rfl (by kernel_rfl) rfl (by first | exact hI.c0 rfl | exact hI.c1 rfl | exact hI.c2 rfl | exact hI.c3 rfl | exact hI.c4 rfl | exact hI.c5 rfl | exact hI.oldp s0q | exact s0q | exact hI.oldp s1q | exact s1q | exact hI.oldp t0q | exact t0q | exact hI.oldp t1q | exact t1q | exact hI.oldp f3 | exact f3) | exact rLd rfl (by kernel_rfl) rfl (by first | exact hI.c0 rfl | exact hI.c1 rfl | exact hI.c2 rfl | exact hI.c3 rfl | exact hI.c4 rfl | exact hI.c5 rfl | exact hI.oldp s0q | exact s0q | exact hI.oldp s1q | exact s1q | exact hI.oldp t0q | exact t0q | exact hI.oldp t1q | exact t1q | exact hI.oldp f3 | exact f3))) ?_ | refine WT_skip 18 rfl rfl (by kernel_rfl) (hXS _ hI) rfl ?_
  first | refine WT_take 19 rfl rfl (by kernel_rfl) (hXS _ hI) rfl (fun W hW => have hI := hSx W hW; (by first | exact rEqlT rfl rfl rfl (by omega) | exact rEqlF rfl rfl rfl (by omega) | exact rEql rfl rfl rfl)) ?_ | refine WT_skip 19 rfl rfl (by kernel_rfl) (hXS _ hI) rfl ?_
  first | refine WT_take 20 rfl rfl (by kernel_rfl) (hXS _ hI) rfl (fun W hW => have hI := hSx W hW; (by first | exact rMoveB rfl rfl | exact rMove rfl)) ?_ | refine WT_skip 20 rfl rfl (by kernel_rfl) (hXS _ hI) rfl ?_
  first | refine WT_take 21 rfl rfl (by kernel_rfl) (hXS _ hI) rfl (fun W hW => have hI := hSx W hW; (by first | exact rMoveS rfl rfl | exact rMove rfl)) ?_ | refine WT_skip 21 rfl rfl (by kernel_rfl) (hXS _ hI) rfl ?_
  first | refine WT_take 22 rfl rfl (by kernel_rfl) (hXS _ hI) rfl (fun W hW => have hI := hSx W hW; (by first | exact rMoveI rfl rfl | exact rMove rfl)) ?_ | refine WT_skip 22 rfl rfl (by kernel_rfl) (hXS _ hI) rfl ?_
  first | refine WT_take 23 rfl rfl (by kernel_rfl) (hXS _ hI) rfl (fun W hW => have hI := hSx W hW; (rIdx (sz := 2) rfl Try.underlying34 (by kernel_rfl) rfl rfl (by omega))) ?_ | refine WT_skip 23 rfl rfl (by kernel_rfl) (hXS _ hI) rfl ?_
  first | refine WT_take 24 rfl rfl (by kernel_rfl) (hXS _ hI) rfl (fun W hW => have hI := hSx W hW; (by first | exact rLdB (n := 2) rfl (by kernel_rfl) (by kernel_rfl) rfl rfl hI.g0 | exact rLdB (n := 2) rfl (by kernel_rfl) (by kernel_rfl) rfl rfl hI.g1 | exact rLdB (n := 2) rfl (by kernel_rfl) (by kernel_rfl) rfl rfl hI.g2 | exact rLdB (n := 2) rfl (by kernel_rfl) (by kernel_rfl) rfl rfl hI.g3 | exact rLdB (n := 2) rfl (by kernel_rfl) (by kernel_rfl) rfl rfl hI.g4 | exact rLdB (n := 2) rfl (by kernel_rfl) (by kernel_rfl) rfl rfl hI.g5 | exact rLd2 rfl (by kernel_rfl) (by kernel_rfl) rfl (by first | exact hI.c0 rfl | exact hI.c1 rfl | exact hI.c2 rfl | exact hI.c3 rfl | exact hI.c4 rfl | exact hI.c5 rfl | exact hI.oldp s0q | exact s0q | exact hI.oldp s1q | exact s1q | exact hI.oldp t0q | exact t0q | exact hI.oldp t1q | exact t1q | exact hI.oldp f3 | exact f3) (by first | exact hI.c0 rfl | exact hI.c1 rfl | exact hI.c2 rfl | exact hI.c3 rfl | exact hI.c4 rfl | exact hI.c5 rfl | exact hI.oldp s0q | exact s0q | exact hI.oldp s1q | exact s1q | exact hI.oldp t0q | exact t0q | exact hI.oldp t1q | exact t1q | exact hI.oldp f3 | exact f3))) ?_ | refine WT_skip 24 rfl rfl (by kernel_rfl) (hXS _ hI) rfl ?_
  first | refine WT_take 25 rfl rfl (by kernel_rfl) (hXS _ hI) rfl (fun W hW => have hI := hSx W hW; (by first | exact rMoveS rfl rfl | exact rMove rfl)) ?_ | refine WT_skip 25 rfl rfl (by kernel_rfl) (hXS _ hI) rfl ?_
  first | refine WT_take 26 rfl rfl (by kernel_rfl) (hXS _ hI) rfl (fun W hW => have hI := hSx W hW; (by first | exact rMoveI rfl rfl | exact rMove rfl)) ?_ | refine WT_skip 26 rfl rfl (by kernel_rfl) (hXS _ hI) rfl ?_
  first | refine WT_take 27 rfl rfl (by kernel_rfl) (hXS _ hI) rfl (fun W hW => have hI := hSx W hW; (rIdx (sz := 2) rfl Try.underlying34 (by kernel_rfl) rfl rfl (by omega))) ?_ | refine WT_skip 27 rfl rfl (by kernel_rfl) (hXS _ hI) rfl ?_
  first | refine WT_take 28 rfl rfl (by kernel_rfl) (hXS _ hI) rfl (fun W hW => have hI := hSx W hW; (by first | exact rLdB (n := 2) rfl (by kernel_rfl) (by kernel_rfl) rfl rfl hI.g0 | exact rLdB (n := 2) rfl (by kernel_rfl) (by kernel_rfl) rfl rfl hI.g1 | exact rLdB (n := 2) rfl (by kernel_rfl) (by kernel_rfl) rfl rfl hI.g2 | exact rLdB (n := 2) rfl (by kernel_rfl) (by kernel_rfl) rfl rfl hI.g3 | exact rLdB (n := 2) rfl (by kernel_rfl) (by kernel_rfl) rfl rfl hI.g4 | exact rLdB (n := 2) rfl (by kernel_rfl) (by kernel_rfl) rfl rfl hI.g5 | exact rLd2 rfl (by kernel_rfl) (by kernel_rfl) rfl (by first | exact hI.c0 rfl | exact hI.c1 rfl | exact hI.c2 rfl | exact hI.c3 rfl | exact hI.c4 rfl | exact hI.c5 rfl | exact hI.oldp s0q | exact s0q | exact hI.oldp s1q | exact s1q | exact hI.oldp t0q | exact t0q | exact hI.oldp t1q | exact t1q | exact hI.oldp f3 | exact f3) (by first | exact hI.c0 rfl | exact hI.c1 rfl | exact hI.c2 rfl | exact hI.c3 rfl | exact hI.c4 rfl | exact hI.c5 rfl | exact hI.oldp s0q | exact s0q | exact hI.oldp s1q | exact s1q | exact hI.oldp t0q | exact t0q | exact hI.oldp t1q | exact t1q | exact hI.oldp f3 | exact f3))) ?_ | refine WT_skip 28 rfl rfl (by kernel_rfl) (hXS _ hI) rfl ?_
  refine WT_one 29 rfl (by kernel_rfl) rfl ?_
  refine WL_call rfl rfl rfl (rCall (vs := [.agg _, .agg _]) rfl Try.func11 rfl rfl rfl) ?_
  refine (less_any st st' _).mono ?_
  rintro en w8 ⟨rfl, hp⟩
  rw [decide_eq_true (hless hk2)]
  refine ⟨_, rfl, ?_⟩
  replace hI := hI.pure hp
  refine WL_nil ⟨hXS _ hI, ?_⟩
  first | refine WT_take 30 rfl rfl (by kernel_rfl) (hXS _ hI) rfl (fun W hW => have hI := hSx W hW; (by first | exact rNotT rfl rfl | exact rNotF rfl rfl | exact rNot rfl rfl)) ?_ | refine WT_skip 30 rfl rfl (by kernel_rfl) (hXS _ hI) rfl ?_
  first | refine WT_take 31 rfl rfl (by kernel_rfl) (hXS _ hI) rfl (fun W hW => have hI := hSx W hW; (by first | exact rPickTB rfl rfl rfl | exact rPickFB rfl rfl rfl | exact rPickB rfl rfl rfl rfl)) ?_ | refine WT_skip 31 rfl rfl (by kernel_rfl) (hXS _ hI) rfl ?_
  first | refine WT_take 32 rfl rfl (by kernel_rfl) (hXS _ hI) rfl (fun W hW => have hI := hSx W hW; (by first | exact rPickTB rfl rfl rfl | exact rPickFB rfl rfl rfl | exact rPickB rfl rfl rfl rfl)) ?_ | refine WT_skip 32 rfl rfl (by kernel_rfl) (hXS _ hI) rfl ?_
  refine WT_take 33 rfl rfl (by kernel_rfl) (hXS _ hI) rfl (fun W hW => have hI := hSx W hW; (by first | exact rPickTB rfl rfl rfl | exact rPickFB rfl rfl rfl | exact rPickB rfl rfl rfl rfl)) ?_
  refine WT_end (by kernel_rfl) ?_
  refine W_cond false rfl ?_
  refine W_skip ?_
  exact ⟨⟨rfl, rfl, rfl, rfl, rfl, trivial⟩, hI.pu⟩
end Go.Proofs.Ytglioflpblpmpaa
