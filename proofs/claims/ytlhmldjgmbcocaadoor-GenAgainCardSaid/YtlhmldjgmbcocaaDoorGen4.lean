/- gen: Take. -/
import Derived.Test.YtlhmldjgmbcocaaDoorGen3
namespace Go.Proofs.YtlhmldjgmbcocaaDoor
open Go.RowKit
set_option linter.unusedVariables false
set_option linter.unusedSimpArgs false
def caL (c : Ca) : List Value := [.bool c.1, .int .i64 c.2.1, .int .i64 c.2.2]
theorem caL_len (c : Ca) : (caL c).length = 3 := rfl
theorem ca_push (l : List Ca) (e : Ca) : (l ++ [e]).flatMap caL = l.flatMap caL ++ caL e := by simp
set_option maxHeartbeats 2000000 in
theorem take_any (S D : Nat → Prop) (w0 w : World) (H L : List Ent) (g : Ge) (v : Value) (q u : Nat) (A : Option Addr) (len cp : Nat) (nums : List Int) (most : Nat) (hr : Rep g v L) (hI : Inv S w0 w (tapeE q (.slice A len cp) u :: (L ++ H))) (hN : Ints w0 D (.slice A len cp) nums) (hD : ∀ k, D k → ¬ S k) (hm : most ≤ 1000) (hu : u + most * g.sz ≤ 4000000000000000000) (hz : g.sz ≤ 1000000) :
    Calls Tryd.prog 11 #[v, at0 q, .int .i64 (most : Int)] w fun e w' => ∃ cs g' L' u' A' c', Tk nums g u most cs g' u' ∧ Rep g' v L' ∧ e = .returned (.tuple #[.slice A' cs.length c', .nilIface]) ∧ Inv S w0 w' (Row 0 45 3 A' cs.length c' (cs.flatMap caL) :: tapeE q (.slice A len cp) u' :: (L' ++ H)) := by
  obtain ⟨T, bv, rfl⟩ := hr.val
  refine calls_of_W (N := Tryd.f11.ntmps) Tryd.func11 rfl rfl rfl ?_
  refine W_seq ?_
  refine W_region ?_
  refine WL_val rfl rfl rfl (by first | exact rAsgnS rfl rfl | exact rAsgn rfl) ?_
  refine WL_val rfl rfl rfl (by first | exact rAsgnN rfl rfl | exact rAsgnE rfl rfl | exact rAsgn rfl) ?_
  refine WL_nil ?_
  refine W_seq ?_
  refine W_block ?_
  refine W_seq ?_
  refine W_region ?_
  refine WL_val rfl rfl rfl (by first | exact rMoveN rfl rfl | exact rMoveE rfl rfl | exact rMove rfl) ?_
  refine WL_val rfl rfl rfl (by first | exact rIfaceEq rfl Tryd.underlying33 rfl rfl | exact rNilEq rfl Tryd.underlying33 rfl) ?_
  refine WL_val rfl rfl rfl (by first | exact rMoveB rfl rfl | exact rMove rfl) ?_
  first | refine WL_val rfl rfl rfl (by first | exact rMoveP rfl rfl | exact rMove rfl) ?_ | refine WL_skip rfl rfl rfl ?_
  first | refine WL_val rfl rfl rfl (rPtrEq rfl Tryd.underlying38 rfl rfl) ?_ | refine WL_skip rfl rfl rfl ?_
  refine WL_val rfl rfl rfl (by first | exact rPickTB rfl rfl rfl | exact rPickFB rfl rfl rfl | exact rPickB rfl rfl rfl rfl) ?_
  refine WL_val rfl rfl rfl (by first | exact rAsgnB rfl rfl | exact rAsgn rfl) ?_
  refine WL_nil ?_
  refine W_cond false rfl ?_
  refine W_seq ?_
  refine W_region ?_
  refine WL_val rfl rfl rfl (by first | exact rMoveI rfl rfl | exact rMove rfl) ?_
  refine WL_val rfl rfl rfl (by first | exact rLssT rfl rfl rfl (by omega) | exact rLssF rfl rfl rfl (by omega) | exact rLss rfl rfl rfl) ?_
  refine WL_val rfl rfl rfl (by first | exact rMoveB rfl rfl | exact rMove rfl) ?_
  first | refine WL_val rfl rfl rfl (by first | exact rMoveI rfl rfl | exact rMove rfl) ?_ | refine WL_skip rfl rfl rfl ?_
  first | refine WL_val rfl rfl rfl (by first | exact rGtrT rfl rfl rfl (by omega) | exact rGtrF rfl rfl rfl (by omega) | exact rGtr rfl rfl rfl) ?_ | refine WL_skip rfl rfl rfl ?_
  refine WL_val rfl rfl rfl (by first | exact rPickTB rfl rfl rfl | exact rPickFB rfl rfl rfl | exact rPickB rfl rfl rfl rfl) ?_
  refine WL_val rfl rfl rfl (by first | exact rAsgnB rfl rfl | exact rAsgn rfl) ?_
  refine WL_nil ?_
  refine W_cond false rfl ?_
  refine W_skip ?_
  refine W_seq ?_
  refine W_region ?_
  refine WL_val rfl rfl rfl (by first | exact rAsgnS rfl rfl | exact rAsgn rfl) ?_
  refine WL_nil ?_
  refine W_seq ?_
  refine W_block ?_
  have hI0 := hI.fresh (Pure.refl w) (Row.nil w 0 45 3) (fun k hk => by simp [Row] at hk)
  refine W_loopN (fun mu ρ w => ∃ (cs : List Ca) (g1 : Ge) (L1 : List Ent) (u1 : Nat) (A1 : Option Addr) (c1 : Nat), mu = most - cs.length ∧ cs.length ≤ most ∧ Rep g1 (.iface T (at0 bv)) L1 ∧ g1.sz ≤ g.sz ∧ u1 + (most - cs.length) * g.sz ≤ 4000000000000000000 ∧
      (∀ cs2 g' u', Tk nums g1 u1 (most - cs.length) cs2 g' u' → Tk nums g u most (cs ++ cs2) g' u') ∧ Has ρ [(0, .iface T (at0 bv)), (1, at0 q), (2, .int .i64 (most : Int)), (8, .slice A1 cs.length c1)] ∧
      Inv S w0 w (Row 0 45 3 A1 cs.length c1 (cs.flatMap caL) :: tapeE q (.slice A len cp) u1 :: (L1 ++ H))) most
    ⟨[], g, L, u, none, 0, rfl, Nat.zero_le _, hr, Nat.le_refl _, hu, fun _ _ _ h => h, ⟨rfl, rfl, rfl, rfl, trivial⟩, hI0⟩ ?_
  clear hI0 hI hu hr
  rintro mu ρ w ⟨cs, g1, L1, u1, A1, c1, rfl, hl, hr, hsz, hu, hx, hH, hI⟩
  obtain ⟨σ, rfl⟩ := hH.open
  by_cases hlt : cs.length < most
  rotate_left
  · have hml : cs.length = most := by omega
    refine W_seq ?_
    refine W_seq ?_
    refine W_region ?_
    refine WL_val rfl rfl rfl (by first | exact rMoveS rfl rfl | exact rMove rfl) ?_
    refine WL_val rfl rfl rfl (rLen rfl Tryd.underlying24 rfl) ?_
    refine WL_val rfl rfl rfl (by first | exact rMoveI rfl rfl | exact rMove rfl) ?_
    refine WL_val rfl rfl rfl (by first | exact rLssT rfl rfl rfl (by omega) | exact rLssF rfl rfl rfl (by omega) | exact rLss rfl rfl rfl) ?_
    refine WL_nil ?_
    refine W_cond false rfl ?_
    refine W_exit ?_
    refine W_seq ?_
    refine W_region ?_
    refine WL_val rfl rfl rfl (by first | exact rMoveS rfl rfl | exact rMove rfl) ?_
    refine WL_val rfl rfl rfl (by first | exact rAsgnS rfl rfl | exact rAsgn rfl) ?_
    refine WL_val rfl rfl rfl (by first | exact rAsgnN rfl rfl | exact rAsgnE rfl rfl | exact rAsgn rfl) ?_
    refine WL_nil ?_
    refine W_ret ?_
    refine ret2 6 7 (.inr rfl) rfl ⟨cs, g1, L1, u1, A1, c1, ?_, hr, rfl, hI⟩
    have h0 := hx [] g1 u1 (by rw [hml, Nat.sub_self]; exact .zero)
    rwa [List.append_nil] at h0
  obtain ⟨k, hk⟩ : ∃ k, most - cs.length = k + 1 := ⟨most - cs.length - 1, by omega⟩
  have hmul : (k + 1) * g.sz = k * g.sz + g.sz := Nat.succ_mul ..
  rw [hk] at hu hx
  obtain ⟨T', b', f, hv, hme, hG⟩ := hr.gives (nums := nums) (D := D) (A := A) (len := len) (cp := cp)
  injection hv with hv1 hv2
  injection hv2 with hv2
  injection hv2 with hv2
  injection hv2 with hv2
  subst hv1 hv2
  refine W_seq ?_
  refine W_seq ?_
  refine W_region ?_
  refine WL_val rfl rfl rfl (by first | exact rMoveS rfl rfl | exact rMove rfl) ?_
  refine WL_val rfl rfl rfl (rLen rfl Tryd.underlying24 rfl) ?_
  refine WL_val rfl rfl rfl (by first | exact rMoveI rfl rfl | exact rMove rfl) ?_
  refine WL_val rfl rfl rfl (by first | exact rLssT rfl rfl rfl (by omega) | exact rLssF rfl rfl rfl (by omega) | exact rLss rfl rfl rfl) ?_
  refine WL_nil ?_
  refine W_cond true rfl ?_
  refine W_skip ?_
  refine W_block ?_
  refine W_seq ?_
  refine W_region ?_
  refine WL_val rfl rfl rfl (by first | exact rMoveN rfl rfl | exact rMoveE rfl rfl | exact rMove rfl) ?_
  refine WL_val rfl rfl rfl (by first | exact rMoveP rfl rfl | exact rMove rfl) ?_
  refine WL_call rfl rfl rfl (rCallI (f := f) (vs := [_]) rfl rfl rfl (fun w => hme _ w)) ?_
  refine (hG S w0 _ _ q u1 (Inv.mid1 (X := [_]) (hI.pull 1 rfl)) hN hD (by omega)).mono ?_
  rintro e w1 ⟨r, g', L', u', hnx, hr', rfl, hI1⟩
  unfold caV
  refine ⟨_, rfl, ?_⟩
  replace hI : Inv S w0 w1 (Row 0 45 3 A1 cs.length c1 (cs.flatMap caL) :: tapeE q (.slice A len cp) u' :: (L' ++ H)) := (Inv.mid1 (L := [_]) hI1).back 1
  clear hI1
  refine WL_val rfl rfl rfl (by first | exact rMoveT rfl rfl | exact rMove rfl) ?_
  refine WL_val rfl rfl rfl (rExtr rfl rfl rfl) ?_
  refine WL_val rfl rfl rfl (rExtr rfl rfl rfl) ?_
  refine WL_alloc (u := .agg #[.bool false, .int .i64 0, .int .i64 0]) (vs := #[.bool false, .int .i64 0, .int .i64 0]) hI rfl rfl rfl rfl (by kernel_rfl) rfl ?_
  clear hI; rintro b9 w - - hI
  first | refine WL_stw0 (u := .agg _) (vs := #[_, _, _]) (n := 3) hI rfl rfl rfl rfl rfl rfl (by kernel_rfl) rfl rfl rfl ?_ | refine WL_stw1 (u := .agg _) (vs := #[_, _, _]) (n := 3) hI rfl rfl rfl rfl rfl rfl (by kernel_rfl) rfl rfl rfl ?_ | refine WL_stw2 (u := .agg _) (vs := #[_, _, _]) (n := 3) hI rfl rfl rfl rfl rfl rfl (by kernel_rfl) rfl rfl rfl ?_
  clear hI; intro w hI
  refine WL_val rfl rfl rfl (by first | exact rAsgnB rfl rfl | exact rAsgn rfl) ?_
  refine WL_nil ?_
  have hns := hnx.sz
  have hkz : k * g'.sz ≤ k * g.sz := Nat.mul_le_mul_left _ (by omega)
  cases r with
  | none =>
    refine W_seq ?_
    refine W_seq ?_
    refine W_region ?_
    refine WL_val rfl rfl rfl (by first | exact rMoveB rfl rfl | exact rMove rfl) ?_
    refine WL_val rfl rfl rfl (by first | exact rNotT rfl rfl | exact rNotF rfl rfl | exact rNot rfl rfl) ?_
    refine WL_nil ?_
    refine W_cond true rfl ?_
    refine W_exit ?_
    refine W_seq ?_
    refine W_region ?_
    refine WL_val rfl rfl rfl (by first | exact rMoveS rfl rfl | exact rMove rfl) ?_
    refine WL_val rfl rfl rfl (by first | exact rAsgnS rfl rfl | exact rAsgn rfl) ?_
    refine WL_val rfl rfl rfl (by first | exact rAsgnN rfl rfl | exact rAsgnE rfl rfl | exact rAsgn rfl) ?_
    refine WL_nil ?_
    refine W_ret ?_
    refine ret2 6 7 (.inr rfl) rfl ⟨cs, g', L', u', A1, c1, ?_, hr', rfl, hI.d0⟩
    have h0 := hx [] g' u' (.stop hnx)
    rwa [List.append_nil] at h0
  | some c =>
    refine W_seq ?_
    refine W_seq ?_
    refine W_region ?_
    refine WL_val rfl rfl rfl (by first | exact rMoveB rfl rfl | exact rMove rfl) ?_
    refine WL_val rfl rfl rfl (by first | exact rNotT rfl rfl | exact rNotF rfl rfl | exact rNot rfl rfl) ?_
    refine WL_nil ?_
    refine W_cond false rfl ?_
    refine W_skip ?_
    refine W_region ?_
    refine WL_val rfl rfl rfl (by first | exact rMoveS rfl rfl | exact rMove rfl) ?_
    refine WL_val rfl rfl rfl (by first | exact rLdB (n := 3) rfl (by kernel_rfl) (by kernel_rfl) rfl rfl hI.g0 | exact rLdB (n := 3) rfl (by kernel_rfl) (by kernel_rfl) rfl rfl hI.g1 | exact rLd3 rfl (by kernel_rfl) (by kernel_rfl) rfl (by first | exact hI.c0 rfl | exact hI.c1 rfl) (by first | exact hI.c0 rfl | exact hI.c1 rfl) (by first | exact hI.c0 rfl | exact hI.c1 rfl)) ?_
    refine WL_lit (vs := [_, _, _]) (qs := [(0, .agg #[_, _, _])]) [.bool false, .int .i64 0, .int .i64 0] [0] hI rfl rfl rfl rfl rfl rfl Tryd.underlying24 (fun _ => by kernel_rfl) ?_
    clear hI; rintro b41 w - - hI
    first | refine WL_app2 (z := .agg #[.bool false, .int .i64 0, .int .i64 0]) (by_ := 24) hI rfl rfl rfl rfl rfl rfl Tryd.underlying24 (by kernel_rfl) rfl (by omega) (by rfl) hI.lit0 (by first | rfl | simp [i64s, Value.oneCell']) (by omega) (by omega) (by first | exact Nat.zero_le _ | (have := hI.chg.size; omega)) ?_
    clear hI; rintro A42 c42 w hA42 hc42 hI
    replace hI := hI.d0
    refine WL_val rfl rfl rfl (by first | exact rAsgnS rfl rfl | exact rAsgn rfl) ?_
    refine WL_nil ?_
    have e1 : (cs ++ [c]).length = cs.length + 1 := by simp
    refine ⟨k, by omega, cs ++ [c], g', L', u', A42, c42, by omega, by omega, hr', by omega, by rw [e1, show most - (cs.length + 1) = k by omega]; omega, fun cs2 g2 u2 h => ?_, ⟨rfl, rfl, rfl, by rw [e1]; rfl, trivial⟩, ?_⟩
    · rw [e1, show most - (cs.length + 1) = k by omega] at h
      have := hx (c :: cs2) g2 u2 (.step hnx h)
      rwa [List.append_assoc]
    · rw [ca_push, e1]
      exact hI.d0
end Go.Proofs.YtlhmldjgmbcocaaDoor
