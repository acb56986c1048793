/- GenAgain: the same tape makes the same calls; taken in two parts they are the same. -/
import Derived.Test.YtlhmldjgmbcocaaDoorGenA
import Derived.Test.YtlhmldjgmbcocaaDoorPick
namespace Go.Proofs.YtlhmldjgmbcocaaDoor
open Go.RowKit
set_option linter.unusedVariables false
set_option linter.unusedSimpArgs false
theorem src_of_rd {P : Program} {w : World} {D : Nat → Prop} {A : Option Addr} {n c t e' size : Nat} {xs : List Value} (ht : P.underlying t = some (.slice e')) (h : Rd w D size (.slice A n c) n xs) (h1 : ∀ u ∈ xs, u.oneCell' = true) : Src P size t (.slice A n c) n xs w := by
  obtain ⟨A', c', hv, h2, h3, h4, h5⟩ := h
  injection hv with e1 _ e3
  subst e1 e3
  cases A with
  | none =>
    have hn : n = 0 := by
      rcases Nat.eq_zero_or_pos n with h0 | h0
      · exact h0
      · obtain ⟨b, o, hb, _⟩ := h5 h0; cases hb
    subst hn
    have : xs = [] := List.eq_nil_of_length_eq_zero (by omega)
    subst this
    exact Src.ofNil _ ht c
  | some a =>
    refine Src.ofSlice _ ht a n c _ h4 (fun j u hj => ?_) h1
    have hl : 0 < n := by
      have := (List.getElem?_eq_some_iff.1 hj).1
      rcases Nat.eq_zero_or_pos n with h0 | h0
      · subst h0; omega
      · exact h0
    obtain ⟨b, o, hb, _, hc⟩ := h5 hl
    injection hb with hb
    subst hb
    rw [Addr.add_lit]
    exact hc j u hj
theorem ca_one (cs : List Ca) : ∀ u ∈ cs.flatMap caL, u.oneCell' = true := by
  intro u hu
  obtain ⟨c, -, hc⟩ := List.mem_flatMap.1 hu
  simp only [caL, List.mem_cons, List.not_mem_nil, or_false] at hc
  rcases hc with rfl | rfl | rfl <;> rfl
theorem Inv.winNilS {S : Nat → Prop} {w0 w : World} {H : List Ent} {g size : Nat} {e : TypeId} (h : Inv S w0 w (B g e #[] :: H)) : Inv S w0 w (Win e size (some ⟨g, 0, none⟩) 0 0 [] :: H) :=
  h.u0 (Chg.refl _ _) (Win.ok ⟨by simp, Nat.le_refl _, by omega, .inr ⟨g, 0, #[], rfl, h.g0, by simp, fun j u hj => by simp at hj⟩⟩) (fun k hk => .inl (by
    have : some g = some k := hk
    injection this with this
    exact this.symm))
theorem CasA.of_win {S : Nat → Prop} {w0 w : World} {H : List Ent} {A : Option Addr} {n c : Nat} {cs : List Ca} (hI : Inv S w0 w (Win 45 3 A n c (cs.flatMap caL) :: H)) : CasA w A n c cs := by
  obtain ⟨h1, h2, h3, h4⟩ := (hI.ok _ (List.mem_cons_self ..)).1
  refine ⟨A, c, rfl, h2, h3, h1, fun hn => ?_⟩
  rcases h4 with ⟨_, rfl⟩ | ⟨g, o, cur, rfl, hb, hc, hx⟩
  · omega
  · exact ⟨g, o, rfl, trivial, fun j u hu => by rw [hb.cell]; exact hx j u hu⟩
theorem CasA.nil (w : World) : CasA w none 0 0 [] := Rd.nil w _ 3
theorem CasA.pure {w w' : World} {A : Option Addr} {n c : Nat} {cs : List Ca} (h : CasA w A n c cs) (hp : Pure w w') : CasA w' A n c cs := Rd.pure h hp
set_option maxHeartbeats 8000000 in
theorem law_any (bs : List UInt8) (A : Option Addr) (len cp : Nat) (nums : List Int) (D : Nat → Prop) (n0 : Int) (w0 : World) (hG : NumG w0) (hN : Ints w0 D (.slice A len cp) nums) :
    Calls Tryd.prog 4 #[strV bs, .slice A len cp, .int .i64 n0] w0 fun e w' => e = .returned (.bool true) ∧ Pure w0 w' := by
  have hI := Inv.start (fun _ => False) w0
  refine calls_of_W (N := Tryd.f4.ntmps) Tryd.func4 rfl rfl rfl ?_
  refine W_seq ?_
  refine W_region ?_
  refine WL_val rfl rfl rfl (by first | exact rAsgnB rfl rfl | exact rAsgn rfl) ?_
  refine WL_nil ?_
  by_cases hl : 500 < bs.length
  · refine W_seq ?_
    refine W_seq ?_
    refine W_region ?_
    refine WL_val rfl rfl rfl (by first | exact rMoveStr rfl rfl | exact rMove rfl) ?_
    refine WL_val rfl rfl rfl (rStrLen rfl Tryd.underlying9 rfl) ?_
    refine WL_val rfl rfl rfl (by first | exact rGtrT rfl rfl rfl (by omega) | exact rGtrF rfl rfl rfl (by omega) | exact rGtr rfl rfl rfl) ?_
    refine WL_val rfl rfl rfl (by first | exact rMoveB rfl rfl | exact rMove rfl) ?_
    refine WL_skip rfl rfl rfl ?_
    refine WL_skip rfl rfl rfl ?_
    refine WL_skip rfl rfl rfl ?_
    refine WL_val rfl rfl rfl (by first | exact rPickTB rfl rfl rfl | exact rPickFB rfl rfl rfl | exact rPickB rfl rfl rfl rfl) ?_
    refine WL_nil ?_
    refine W_cond true rfl ?_
    refine W_seq ?_
    refine W_region ?_
    refine WL_val rfl rfl rfl (by first | exact rAsgnB rfl rfl | exact rAsgn rfl) ?_
    refine WL_nil ?_
    refine W_ret ?_
    exact ret1 6 (.inr rfl) rfl ⟨rfl, hI.pu⟩
  by_cases hl2 : 100 < len
  · refine W_seq ?_
    refine W_seq ?_
    refine W_region ?_
    refine WL_val rfl rfl rfl (by first | exact rMoveStr rfl rfl | exact rMove rfl) ?_
    refine WL_val rfl rfl rfl (rStrLen rfl Tryd.underlying9 rfl) ?_
    refine WL_val rfl rfl rfl (by first | exact rGtrT rfl rfl rfl (by omega) | exact rGtrF rfl rfl rfl (by omega) | exact rGtr rfl rfl rfl) ?_
    refine WL_val rfl rfl rfl (by first | exact rMoveB rfl rfl | exact rMove rfl) ?_
    first | refine WL_val rfl rfl rfl (by first | exact rMoveS rfl rfl | exact rMove rfl) ?_ | refine WL_skip rfl rfl rfl ?_
    first | refine WL_val rfl rfl rfl (rLen rfl Tryd.underlying22 rfl) ?_ | refine WL_skip rfl rfl rfl ?_
    first | refine WL_val rfl rfl rfl (by first | exact rGtrT rfl rfl rfl (by omega) | exact rGtrF rfl rfl rfl (by omega) | exact rGtr rfl rfl rfl) ?_ | refine WL_skip rfl rfl rfl ?_
    refine WL_val rfl rfl rfl (by first | exact rPickTB rfl rfl rfl | exact rPickFB rfl rfl rfl | exact rPickB rfl rfl rfl rfl) ?_
    refine WL_nil ?_
    refine W_cond true rfl ?_
    refine W_seq ?_
    refine W_region ?_
    refine WL_val rfl rfl rfl (by first | exact rAsgnB rfl rfl | exact rAsgn rfl) ?_
    refine WL_nil ?_
    refine W_ret ?_
    exact ret1 6 (.inr rfl) rfl ⟨rfl, hI.pu⟩
  refine W_seq ?_
  refine W_seq ?_
  refine W_region ?_
  refine WL_val rfl rfl rfl (by first | exact rMoveStr rfl rfl | exact rMove rfl) ?_
  refine WL_val rfl rfl rfl (rStrLen rfl Tryd.underlying9 rfl) ?_
  refine WL_val rfl rfl rfl (by first | exact rGtrT rfl rfl rfl (by omega) | exact rGtrF rfl rfl rfl (by omega) | exact rGtr rfl rfl rfl) ?_
  refine WL_val rfl rfl rfl (by first | exact rMoveB rfl rfl | exact rMove rfl) ?_
  first | refine WL_val rfl rfl rfl (by first | exact rMoveS rfl rfl | exact rMove rfl) ?_ | refine WL_skip rfl rfl rfl ?_
  first | refine WL_val rfl rfl rfl (rLen rfl Tryd.underlying22 rfl) ?_ | refine WL_skip rfl rfl rfl ?_
  first | refine WL_val rfl rfl rfl (by first | exact rGtrT rfl rfl rfl (by omega) | exact rGtrF rfl rfl rfl (by omega) | exact rGtr rfl rfl rfl) ?_ | refine WL_skip rfl rfl rfl ?_
  refine WL_val rfl rfl rfl (by first | exact rPickTB rfl rfl rfl | exact rPickFB rfl rfl rfl | exact rPickB rfl rfl rfl rfl) ?_
  refine WL_nil ?_
  refine W_cond false rfl ?_
  refine W_skip ?_
  have hk : ∀ w, Pure w0 w → _ := fun w hp => ktake_any bs A len cp nums D 50 w (hG.chg (Pure.chg hp (fun _ => False)) NoG.none) (hN.pure hp) (by omega) (by omega)
  cases hx : parsedT bs with
  | none =>
    refine W_seq ?_
    refine W_region ?_
    refine WL_val rfl rfl rfl (by first | exact rMoveStr rfl rfl | exact rMove rfl) ?_
    refine WL_val rfl rfl rfl (by first | exact rMoveS rfl rfl | exact rMove rfl) ?_
    refine WL_call rfl rfl rfl (rCall (vs := [.string _, .slice _ _ _, .int .i64 _]) rfl Tryd.func6 rfl rfl rfl) ?_
    refine (hk _ hI.pu).mono ?_
    rintro e w1 (⟨cs, A', c', ⟨g, g', u', h, -⟩, -⟩ | ⟨-, rfl, hp⟩)
    · rw [hx] at h; cases h
    refine ⟨_, rfl, ?_⟩
    replace hI := hI.pure hp
    refine WL_val rfl rfl rfl (by first | exact rMoveT rfl rfl | exact rMove rfl) ?_
    refine WL_val rfl rfl rfl (rExtr rfl rfl rfl) ?_
    refine WL_val rfl rfl rfl (rExtr rfl rfl rfl) ?_
    refine WL_val rfl rfl rfl (by first | exact rAsgnS rfl rfl | exact rAsgn rfl) ?_
    refine WL_val rfl rfl rfl (by first | exact rAsgnB rfl rfl | exact rAsgn rfl) ?_
    refine WL_nil ?_
    refine W_seq ?_
    refine W_region ?_
    refine WL_val rfl rfl rfl (by first | exact rMoveStr rfl rfl | exact rMove rfl) ?_
    refine WL_val rfl rfl rfl (by first | exact rMoveS rfl rfl | exact rMove rfl) ?_
    refine WL_call rfl rfl rfl (rCall (vs := [.string _, .slice _ _ _, .int .i64 _]) rfl Tryd.func6 rfl rfl rfl) ?_
    refine (hk _ hI.pu).mono ?_
    rintro e w2 (⟨cs, A', c', ⟨g, g', u', h, -⟩, -⟩ | ⟨-, rfl, hp⟩)
    · rw [hx] at h; cases h
    refine ⟨_, rfl, ?_⟩
    replace hI := hI.pure hp
    refine WL_val rfl rfl rfl (by first | exact rMoveT rfl rfl | exact rMove rfl) ?_
    refine WL_val rfl rfl rfl (rExtr rfl rfl rfl) ?_
    refine WL_val rfl rfl rfl (rExtr rfl rfl rfl) ?_
    refine WL_val rfl rfl rfl (by first | exact rAsgnS rfl rfl | exact rAsgn rfl) ?_
    refine WL_val rfl rfl rfl (by first | exact rAsgnB rfl rfl | exact rAsgn rfl) ?_
    refine WL_nil ?_
    refine W_seq ?_
    refine W_seq ?_
    refine W_region ?_
    refine WL_call rfl rfl rfl (rCall (vs := []) rfl Tryd.func8 rfl rfl rfl) ?_
    refine (made_any _ (hG.chg hI.chg NoG.none)).mono ?_
    rintro e wm ⟨rfl, hpm⟩
    refine ⟨_, rfl, ?_⟩
    replace hI := hI.pure hpm
    refine WL_val rfl rfl rfl (by first | exact rNotT rfl rfl | exact rNotF rfl rfl | exact rNot rfl rfl) ?_
    refine WL_val rfl rfl rfl (by first | exact rMoveB rfl rfl | exact rMove rfl) ?_
    first | refine WL_val rfl rfl rfl (by first | exact rMoveB rfl rfl | exact rMove rfl) ?_ | refine WL_skip rfl rfl rfl ?_
    first | refine WL_val rfl rfl rfl (by first | exact rNotT rfl rfl | exact rNotF rfl rfl | exact rNot rfl rfl) ?_ | refine WL_skip rfl rfl rfl ?_
    refine WL_val rfl rfl rfl (by first | exact rPickTB rfl rfl rfl | exact rPickFB rfl rfl rfl | exact rPickB rfl rfl rfl rfl) ?_
    refine WL_nil ?_
    refine W_cond true rfl ?_
    refine W_seq ?_
    refine W_region ?_
    refine WL_call rfl rfl rfl (rCall (vs := []) rfl Tryd.func8 rfl rfl rfl) ?_
    refine (made_any _ (hG.chg hI.chg NoG.none)).mono ?_
    rintro e wm ⟨rfl, hpm⟩
    refine ⟨_, rfl, ?_⟩
    replace hI := hI.pure hpm
    refine WL_val rfl rfl rfl (by first | exact rMoveB rfl rfl | exact rMove rfl) ?_
    first | refine WL_val rfl rfl rfl (by first | exact rMoveB rfl rfl | exact rMove rfl) ?_ | refine WL_skip rfl rfl rfl ?_
    first | refine WL_val rfl rfl rfl (by first | exact rNotT rfl rfl | exact rNotF rfl rfl | exact rNot rfl rfl) ?_ | refine WL_skip rfl rfl rfl ?_
    refine WL_val rfl rfl rfl (by first | exact rPickTB rfl rfl rfl | exact rPickFB rfl rfl rfl | exact rPickB rfl rfl rfl rfl) ?_
    refine WL_val rfl rfl rfl (by first | exact rAsgnB rfl rfl | exact rAsgn rfl) ?_
    refine WL_nil ?_
    refine W_ret ?_
    exact ret1 6 (.inr rfl) rfl ⟨rfl, hI.pu⟩
  | some g =>
    have hgz : g.sz ≤ 500 := by
      have := parsed_sz (parsedT_some hx)
      omega
    refine W_seq ?_
    refine W_region ?_
    refine WL_val rfl rfl rfl (by first | exact rMoveStr rfl rfl | exact rMove rfl) ?_
    refine WL_val rfl rfl rfl (by first | exact rMoveS rfl rfl | exact rMove rfl) ?_
    refine WL_call rfl rfl rfl (rCall (vs := [.string _, .slice _ _ _, .int .i64 _]) rfl Tryd.func6 rfl rfl rfl) ?_
    refine (hk _ hI.pu).mono ?_
    rintro e w1 (⟨ca, Aa, cca, ⟨g', g1, u1, h, hTa⟩, rfl, hJ⟩ | ⟨h, -⟩)
    rotate_left
    · rw [hx] at h; cases h
    rw [hx] at h
    cases h
    refine ⟨_, rfl, ?_⟩
    replace hI := hI.app1 hJ
    clear hJ
    refine WL_val rfl rfl rfl (by first | exact rMoveT rfl rfl | exact rMove rfl) ?_
    refine WL_val rfl rfl rfl (rExtr rfl rfl rfl) ?_
    refine WL_val rfl rfl rfl (rExtr rfl rfl rfl) ?_
    refine WL_val rfl rfl rfl (by first | exact rAsgnS rfl rfl | exact rAsgn rfl) ?_
    refine WL_val rfl rfl rfl (by first | exact rAsgnB rfl rfl | exact rAsgn rfl) ?_
    refine WL_nil ?_
    refine W_seq ?_
    refine W_region ?_
    refine WL_val rfl rfl rfl (by first | exact rMoveStr rfl rfl | exact rMove rfl) ?_
    refine WL_val rfl rfl rfl (by first | exact rMoveS rfl rfl | exact rMove rfl) ?_
    refine WL_call rfl rfl rfl (rCall (vs := [.string _, .slice _ _ _, .int .i64 _]) rfl Tryd.func6 rfl rfl rfl) ?_
    refine (hk _ hI.pu).mono ?_
    rintro e w2 (⟨cb, Ab, ccb, ⟨g', g2, u2, h, hTb⟩, rfl, hJ⟩ | ⟨h, -⟩)
    rotate_left
    · rw [hx] at h; cases h
    rw [hx] at h
    cases h
    obtain ⟨hcb, -, -⟩ := hTb.det hTa
    subst hcb
    refine ⟨_, rfl, ?_⟩
    replace hI := hI.app1 hJ
    clear hJ
    refine WL_val rfl rfl rfl (by first | exact rMoveT rfl rfl | exact rMove rfl) ?_
    refine WL_val rfl rfl rfl (rExtr rfl rfl rfl) ?_
    refine WL_val rfl rfl rfl (rExtr rfl rfl rfl) ?_
    refine WL_val rfl rfl rfl (by first | exact rAsgnS rfl rfl | exact rAsgn rfl) ?_
    refine WL_val rfl rfl rfl (by first | exact rAsgnB rfl rfl | exact rAsgn rfl) ?_
    refine WL_nil ?_
    refine W_seq ?_
    refine W_seq ?_
    refine W_region ?_
    refine WL_call rfl rfl rfl (rCall (vs := []) rfl Tryd.func8 rfl rfl rfl) ?_
    refine (made_any _ (hG.chg hI.chg NoG.none)).mono ?_
    rintro e wm ⟨rfl, hpm⟩
    refine ⟨_, rfl, ?_⟩
    replace hI := hI.pure hpm
    refine WL_val rfl rfl rfl (by first | exact rNotT rfl rfl | exact rNotF rfl rfl | exact rNot rfl rfl) ?_
    refine WL_val rfl rfl rfl (by first | exact rMoveB rfl rfl | exact rMove rfl) ?_
    first | refine WL_val rfl rfl rfl (by first | exact rMoveB rfl rfl | exact rMove rfl) ?_ | refine WL_skip rfl rfl rfl ?_
    first | refine WL_val rfl rfl rfl (by first | exact rNotT rfl rfl | exact rNotF rfl rfl | exact rNot rfl rfl) ?_ | refine WL_skip rfl rfl rfl ?_
    refine WL_val rfl rfl rfl (by first | exact rPickTB rfl rfl rfl | exact rPickFB rfl rfl rfl | exact rPickB rfl rfl rfl rfl) ?_
    refine WL_nil ?_
    refine W_cond false rfl ?_
    refine W_skip ?_
    have hcl := hTa.sz.2.2
    refine W_seq ?_
    refine W_region ?_
    refine WL_val rfl rfl rfl (by first | exact rMoveStr rfl rfl | exact rMove rfl) ?_
    refine WL_call rfl rfl rfl (rCall (vs := [.string _]) rfl Tryd.func10 rfl rfl rfl) ?_
    refine (parse_any bs _ (hG.chg hI.chg NoG.none) (by omega)).mono ?_
    rintro e w3 (⟨g', v, L, h, rfl, hR, hJ⟩ | ⟨h, -⟩)
    rotate_left
    · rw [hx] at h; cases h
    rw [hx] at h
    cases h
    obtain ⟨Tv, bv, rfl⟩ := hR.val
    refine ⟨_, rfl, ?_⟩
    replace hI := hI.app hJ
    clear hJ
    refine WL_val rfl rfl rfl (by first | exact rMoveT rfl rfl | exact rMove rfl) ?_
    refine WL_val rfl rfl rfl (rExtr rfl rfl rfl) ?_
    refine WL_val rfl rfl rfl (rExtr rfl rfl rfl) ?_
    refine WL_val rfl rfl rfl (by first | exact rAsgnN rfl rfl | exact rAsgnE rfl rfl | exact rAsgn rfl) ?_
    refine WL_val rfl rfl rfl (by first | exact rAsgnN rfl rfl | exact rAsgnE rfl rfl | exact rAsgn rfl) ?_
    refine WL_nil ?_
    refine W_seq ?_
    refine W_seq ?_
    refine W_region ?_
    refine WL_val rfl rfl rfl (by first | exact rMoveN rfl rfl | exact rMoveE rfl rfl | exact rMove rfl) ?_
    refine WL_val rfl rfl rfl (by first | exact rIfaceNe rfl Tryd.underlying35 rfl rfl | exact rNilNe rfl Tryd.underlying35 rfl) ?_
    refine WL_val rfl rfl rfl (by first | exact rMoveB rfl rfl | exact rMove rfl) ?_
    first | refine WL_val rfl rfl rfl (by first | exact rMoveN rfl rfl | exact rMoveE rfl rfl | exact rMove rfl) ?_ | refine WL_skip rfl rfl rfl ?_
    first | refine WL_val rfl rfl rfl (by first | exact rIfaceEq rfl Tryd.underlying33 rfl rfl | exact rNilEq rfl Tryd.underlying33 rfl) ?_ | refine WL_skip rfl rfl rfl ?_
    refine WL_val rfl rfl rfl (by first | exact rPickTB rfl rfl rfl | exact rPickFB rfl rfl rfl | exact rPickB rfl rfl rfl rfl) ?_
    refine WL_nil ?_
    refine W_cond false rfl ?_
    refine W_skip ?_
    refine W_seq ?_
    refine W_region ?_
    refine WL_val rfl rfl rfl (by first | exact rMoveS rfl rfl | exact rMove rfl) ?_
    refine WL_val rfl rfl rfl (rBuild (qs := [(0, .slice _ _ _)]) (vs := [_, _]) [.slice none 0 0, .int .i64 0] [0] rfl rfl rfl (fun _ => by kernel_rfl)) ?_
    refine WL_box (u := .agg _) (vs := #[_, _]) hI rfl rfl rfl rfl rfl rfl ?_
    clear hI; rintro b62 w - - hI
    refine WL_val rfl rfl rfl (by first | exact rAsgnP rfl rfl | exact rAsgn rfl) ?_
    refine WL_nil ?_
    have hpn := pickN_lt n0 (n := 51) (by omega)
    refine W_seq ?_
    refine W_region ?_
    refine WL_val rfl rfl rfl (by first | exact rMoveI rfl rfl | exact rMove rfl) ?_
    refine WL_call rfl rfl rfl (rCall (vs := [.int .i64 _, .int .i64 _]) rfl Tryd.func5 rfl rfl rfl) ?_
    refine (pick_any n0 51 _ (by omega) (by omega)).mono ?_
    rintro e w4 ⟨rfl, rfl⟩
    refine ⟨_, rfl, ?_⟩
    refine WL_val rfl rfl rfl (by first | exact rAsgnI rfl rfl | exact rAsgn rfl) ?_
    refine WL_nil ?_
    generalize pickN n0 51 = n at hpn ⊢
    have hb1 : n * g.sz ≤ 51 * 500 := Nat.mul_le_mul (by omega) hgz
    refine W_seq ?_
    refine W_region ?_
    refine WL_val rfl rfl rfl (by first | exact rMoveN rfl rfl | exact rMoveE rfl rfl | exact rMove rfl) ?_
    refine WL_val rfl rfl rfl (by first | exact rMoveP rfl rfl | exact rMove rfl) ?_
    refine WL_val rfl rfl rfl (by first | exact rMoveI rfl rfl | exact rMove rfl) ?_
    refine WL_call rfl rfl rfl (rCall (vs := [_, .pointer _, .int .i64 _]) rfl Tryd.func11 rfl rfl rfl) ?_
    refine (take_any (fun _ => False) D w0 _ _ _ g _ b62 0 A len cp nums n hR hI hN (fun _ _ h => h) (by omega) (by omega) (by omega)).mono ?_
    rintro e w5 ⟨x, gx, Lx, ux, Ax, ccx, hTx, hRx, rfl, hI5⟩
    refine ⟨_, rfl, ?_⟩
    replace hI := hI5
    clear hI5
    refine WL_val rfl rfl rfl (by first | exact rMoveT rfl rfl | exact rMove rfl) ?_
    refine WL_val rfl rfl rfl (rExtr rfl rfl rfl) ?_
    refine WL_val rfl rfl rfl (rExtr rfl rfl rfl) ?_
    refine WL_val rfl rfl rfl (by first | exact rAsgnS rfl rfl | exact rAsgn rfl) ?_
    refine WL_val rfl rfl rfl (by first | exact rAsgnN rfl rfl | exact rAsgnE rfl rfl | exact rAsgn rfl) ?_
    refine WL_nil ?_
    have hxs := hTx.sz
    have hb2 : (50 - n) * gx.sz ≤ 51 * 500 := Nat.mul_le_mul (by omega) (by omega)
    refine W_seq ?_
    refine W_region ?_
    refine WL_val rfl rfl rfl (by first | exact rMoveN rfl rfl | exact rMoveE rfl rfl | exact rMove rfl) ?_
    refine WL_val rfl rfl rfl (by first | exact rMoveP rfl rfl | exact rMove rfl) ?_
    refine WL_val rfl rfl rfl (by first | exact rMoveI rfl rfl | exact rMove rfl) ?_
    refine WL_val rfl rfl rfl (rDecN (a := 50) rfl rfl rfl (by omega) (by omega)) ?_
    refine WL_call rfl rfl rfl (rCall (vs := [_, .pointer _, .int .i64 _]) rfl Tryd.func11 rfl rfl rfl) ?_
    refine (take_any (fun _ => False) D w0 _ _ Lx gx _ b62 ux A len cp nums (50 - n) hRx (Inv.mid1 (X := [_]) (hI.pull 1 rfl)) hN (fun _ _ h => h) (by omega) (by omega) (by omega)).mono ?_
    rintro e w6 ⟨y, gy, Ly, uy, Ay, ccy, hTy, hRy, rfl, hI6⟩
    refine ⟨_, rfl, ?_⟩
    refine WL_val rfl rfl rfl (by first | exact rMoveT rfl rfl | exact rMove rfl) ?_
    refine WL_val rfl rfl rfl (rExtr rfl rfl rfl) ?_
    refine WL_val rfl rfl rfl (rExtr rfl rfl rfl) ?_
    refine WL_val rfl rfl rfl (by first | exact rAsgnS rfl rfl | exact rAsgn rfl) ?_
    refine WL_val rfl rfl rfl (by first | exact rAsgnN rfl rfl | exact rAsgnE rfl rfl | exact rAsgn rfl) ?_
    refine WL_nil ?_
    replace hI : Inv (fun _ => False) w0 w6 [Row 0 45 3 Ay y.length ccy (y.flatMap caL), Row 0 45 3 Ax x.length ccx (x.flatMap caL), Row 0 45 3 Ab cb.length ccb (cb.flatMap caL), Row 0 45 3 Aa cb.length cca (cb.flatMap caL)] := hI6.sub (((List.sublist_append_right ..).cons _).cons_cons _)
    clear hI6
    have hys := hTy.sz.2.2
    obtain ⟨g3, u3, hT3⟩ := hTx.two hTy
    rw [show n + (50 - n) = 50 by omega] at hT3
    obtain ⟨hsame, -, -⟩ := hTa.det hT3
    by_cases hlt : x.length < n
    · rw [if_pos hlt] at hsame
      refine W_seq ?_
      refine W_seq ?_
      refine W_region ?_
      refine WL_val rfl rfl rfl (by first | exact rMoveS rfl rfl | exact rMove rfl) ?_
      refine WL_val rfl rfl rfl (rLen rfl Tryd.underlying24 rfl) ?_
      refine WL_val rfl rfl rfl (by first | exact rMoveI rfl rfl | exact rMove rfl) ?_
      refine WL_val rfl rfl rfl (by first | exact rLssT rfl rfl rfl (by omega) | exact rLssF rfl rfl rfl (by omega) | exact rLss rfl rfl rfl) ?_
      refine WL_nil ?_
      refine W_cond true rfl ?_
      refine W_region ?_
      refine WL_val rfl rfl rfl (by first | exact rAsgnS rfl rfl | exact rAsgn rfl) ?_
      refine WL_nil ?_
      have heq : cb = x ++ ([] : List Ca) := by rw [List.append_nil]; exact hsame
      refine W_seq ?_
      refine W_region ?_
      refine WL_val rfl rfl rfl (by first | exact rMoveB rfl rfl | exact rMove rfl) ?_
      refine WL_val rfl rfl rfl (by first | exact rMoveB rfl rfl | exact rMove rfl) ?_
      first | refine WL_val rfl rfl rfl (by first | exact rMoveS rfl rfl | exact rMove rfl) ?_ | refine WL_skip rfl rfl rfl ?_
      first | refine WL_val rfl rfl rfl (by first | exact rMoveS rfl rfl | exact rMove rfl) ?_ | refine WL_skip rfl rfl rfl ?_
      refine WL_call rfl rfl rfl (rCall (vs := [.slice _ _ _, .slice _ _ _]) rfl Tryd.func9 rfl rfl rfl) ?_
      refine (same_any _ _ _ _ _ _ cb cb _ (CasA.of_row (Inv.pull hI 3 rfl)) (CasA.of_row (Inv.pull hI 2 rfl)) rfl rfl).mono ?_
      rw [decide_eq_true rfl]
      rintro e w6 ⟨rfl, hp6⟩
      refine ⟨_, rfl, ?_⟩
      replace hI := hI.pure hp6
      refine WL_val rfl rfl rfl (by first | exact rPickTB rfl rfl rfl | exact rPickFB rfl rfl rfl | exact rPickB rfl rfl rfl rfl) ?_
      refine WL_val rfl rfl rfl (by first | exact rMoveB rfl rfl | exact rMove rfl) ?_
      first | refine WL_val rfl rfl rfl (by first | exact rMoveN rfl rfl | exact rMoveE rfl rfl | exact rMove rfl) ?_ | refine WL_skip rfl rfl rfl ?_
      first | refine WL_val rfl rfl rfl (by first | exact rIfaceEq rfl Tryd.underlying35 rfl rfl | exact rNilEq rfl Tryd.underlying35 rfl) ?_ | refine WL_skip rfl rfl rfl ?_
      refine WL_val rfl rfl rfl (by first | exact rPickTB rfl rfl rfl | exact rPickFB rfl rfl rfl | exact rPickB rfl rfl rfl rfl) ?_
      refine WL_val rfl rfl rfl (by first | exact rMoveB rfl rfl | exact rMove rfl) ?_
      first | refine WL_val rfl rfl rfl (by first | exact rMoveN rfl rfl | exact rMoveE rfl rfl | exact rMove rfl) ?_ | refine WL_skip rfl rfl rfl ?_
      first | refine WL_val rfl rfl rfl (by first | exact rIfaceEq rfl Tryd.underlying35 rfl rfl | exact rNilEq rfl Tryd.underlying35 rfl) ?_ | refine WL_skip rfl rfl rfl ?_
      refine WL_val rfl rfl rfl (by first | exact rPickTB rfl rfl rfl | exact rPickFB rfl rfl rfl | exact rPickB rfl rfl rfl rfl) ?_
      refine WL_val rfl rfl rfl (by first | exact rMoveB rfl rfl | exact rMove rfl) ?_
      first | refine WL_val rfl rfl rfl (by first | exact rMoveS rfl rfl | exact rMove rfl) ?_ | refine WL_skip rfl rfl rfl ?_
      refine WL_lit (vs := []) (qs := []) [] [] hI rfl rfl rfl rfl rfl rfl Tryd.underlying24 (fun _ => by kernel_rfl) ?_
      clear hI; rintro b100 w - - hI
      replace hI := hI.winNilS (size := 3)
      first | refine WL_val rfl rfl rfl (by first | exact rMoveS rfl rfl | exact rMove rfl) ?_ | refine WL_skip rfl rfl rfl ?_
      refine WL_appW (z := .agg #[.bool false, .int .i64 0, .int .i64 0]) (by_ := 24) (news := x.flatMap caL) _ hI rfl rfl rfl rfl rfl rfl Tryd.underlying24 (by kernel_rfl) rfl (by omega) (src_of_rd Tryd.underlying24 (CasA.of_row (Inv.pull hI 2 rfl)) (ca_one x)) (by omega) (by omega) ?_
      clear hI; intro A102 c102 w _ _ hI
      first | refine WL_val rfl rfl rfl (by first | exact rMoveS rfl rfl | exact rMove rfl) ?_ | refine WL_skip rfl rfl rfl ?_
      refine WL_appW (z := .agg #[.bool false, .int .i64 0, .int .i64 0]) (by_ := 24) (news := ([] : List Ca).flatMap caL) _ hI rfl rfl rfl rfl rfl rfl Tryd.underlying24 (by kernel_rfl) rfl (by omega) (src_of_rd Tryd.underlying24 (CasA.nil _) (ca_one ([] : List Ca))) (by omega) (by omega) ?_
      clear hI; intro A104 c104 w _ _ hI
      rw [List.nil_append, ← List.flatMap_append] at hI
      refine WL_call rfl rfl rfl (rCall (vs := [.slice _ _ _, .slice _ _ _]) rfl Tryd.func9 rfl rfl rfl) ?_
      refine (same_any _ _ _ _ _ _ cb (x ++ ([] : List Ca)) _ (CasA.of_row (Inv.pull hI 4 rfl)) (CasA.of_win hI) rfl (by rw [List.length_append]; first | omega | (simp only [List.length_nil]; omega))).mono ?_
      rw [decide_eq_true heq]
      rintro e w7 ⟨rfl, hp7⟩
      refine ⟨_, rfl, ?_⟩
      replace hI := hI.pure hp7
      refine WL_val rfl rfl rfl (by first | exact rPickTB rfl rfl rfl | exact rPickFB rfl rfl rfl | exact rPickB rfl rfl rfl rfl) ?_
      refine WL_val rfl rfl rfl (by first | exact rAsgnB rfl rfl | exact rAsgn rfl) ?_
      refine WL_nil ?_
      refine W_ret ?_
      exact ret1 6 (.inr rfl) rfl ⟨rfl, hI.pu⟩
    · rw [if_neg hlt] at hsame
      refine W_seq ?_
      refine W_seq ?_
      refine W_region ?_
      refine WL_val rfl rfl rfl (by first | exact rMoveS rfl rfl | exact rMove rfl) ?_
      refine WL_val rfl rfl rfl (rLen rfl Tryd.underlying24 rfl) ?_
      refine WL_val rfl rfl rfl (by first | exact rMoveI rfl rfl | exact rMove rfl) ?_
      refine WL_val rfl rfl rfl (by first | exact rLssT rfl rfl rfl (by omega) | exact rLssF rfl rfl rfl (by omega) | exact rLss rfl rfl rfl) ?_
      refine WL_nil ?_
      refine W_cond false rfl ?_
      refine W_skip ?_
      have heq : cb = x ++ y := hsame
      refine W_seq ?_
      refine W_region ?_
      refine WL_val rfl rfl rfl (by first | exact rMoveB rfl rfl | exact rMove rfl) ?_
      refine WL_val rfl rfl rfl (by first | exact rMoveB rfl rfl | exact rMove rfl) ?_
      first | refine WL_val rfl rfl rfl (by first | exact rMoveS rfl rfl | exact rMove rfl) ?_ | refine WL_skip rfl rfl rfl ?_
      first | refine WL_val rfl rfl rfl (by first | exact rMoveS rfl rfl | exact rMove rfl) ?_ | refine WL_skip rfl rfl rfl ?_
      refine WL_call rfl rfl rfl (rCall (vs := [.slice _ _ _, .slice _ _ _]) rfl Tryd.func9 rfl rfl rfl) ?_
      refine (same_any _ _ _ _ _ _ cb cb _ (CasA.of_row (Inv.pull hI 3 rfl)) (CasA.of_row (Inv.pull hI 2 rfl)) rfl rfl).mono ?_
      rw [decide_eq_true rfl]
      rintro e w6 ⟨rfl, hp6⟩
      refine ⟨_, rfl, ?_⟩
      replace hI := hI.pure hp6
      refine WL_val rfl rfl rfl (by first | exact rPickTB rfl rfl rfl | exact rPickFB rfl rfl rfl | exact rPickB rfl rfl rfl rfl) ?_
      refine WL_val rfl rfl rfl (by first | exact rMoveB rfl rfl | exact rMove rfl) ?_
      first | refine WL_val rfl rfl rfl (by first | exact rMoveN rfl rfl | exact rMoveE rfl rfl | exact rMove rfl) ?_ | refine WL_skip rfl rfl rfl ?_
      first | refine WL_val rfl rfl rfl (by first | exact rIfaceEq rfl Tryd.underlying35 rfl rfl | exact rNilEq rfl Tryd.underlying35 rfl) ?_ | refine WL_skip rfl rfl rfl ?_
      refine WL_val rfl rfl rfl (by first | exact rPickTB rfl rfl rfl | exact rPickFB rfl rfl rfl | exact rPickB rfl rfl rfl rfl) ?_
      refine WL_val rfl rfl rfl (by first | exact rMoveB rfl rfl | exact rMove rfl) ?_
      first | refine WL_val rfl rfl rfl (by first | exact rMoveN rfl rfl | exact rMoveE rfl rfl | exact rMove rfl) ?_ | refine WL_skip rfl rfl rfl ?_
      first | refine WL_val rfl rfl rfl (by first | exact rIfaceEq rfl Tryd.underlying35 rfl rfl | exact rNilEq rfl Tryd.underlying35 rfl) ?_ | refine WL_skip rfl rfl rfl ?_
      refine WL_val rfl rfl rfl (by first | exact rPickTB rfl rfl rfl | exact rPickFB rfl rfl rfl | exact rPickB rfl rfl rfl rfl) ?_
      refine WL_val rfl rfl rfl (by first | exact rMoveB rfl rfl | exact rMove rfl) ?_
      first | refine WL_val rfl rfl rfl (by first | exact rMoveS rfl rfl | exact rMove rfl) ?_ | refine WL_skip rfl rfl rfl ?_
      refine WL_lit (vs := []) (qs := []) [] [] hI rfl rfl rfl rfl rfl rfl Tryd.underlying24 (fun _ => by kernel_rfl) ?_
      clear hI; rintro b100 w - - hI
      replace hI := hI.winNilS (size := 3)
      first | refine WL_val rfl rfl rfl (by first | exact rMoveS rfl rfl | exact rMove rfl) ?_ | refine WL_skip rfl rfl rfl ?_
      refine WL_appW (z := .agg #[.bool false, .int .i64 0, .int .i64 0]) (by_ := 24) (news := x.flatMap caL) _ hI rfl rfl rfl rfl rfl rfl Tryd.underlying24 (by kernel_rfl) rfl (by omega) (src_of_rd Tryd.underlying24 (CasA.of_row (Inv.pull hI 2 rfl)) (ca_one x)) (by omega) (by omega) ?_
      clear hI; intro A102 c102 w _ _ hI
      first | refine WL_val rfl rfl rfl (by first | exact rMoveS rfl rfl | exact rMove rfl) ?_ | refine WL_skip rfl rfl rfl ?_
      refine WL_appW (z := .agg #[.bool false, .int .i64 0, .int .i64 0]) (by_ := 24) (news := y.flatMap caL) _ hI rfl rfl rfl rfl rfl rfl Tryd.underlying24 (by kernel_rfl) rfl (by omega) (src_of_rd Tryd.underlying24 (CasA.of_row (Inv.pull hI 1 rfl)) (ca_one y)) (by omega) (by omega) ?_
      clear hI; intro A104 c104 w _ _ hI
      rw [List.nil_append, ← List.flatMap_append] at hI
      refine WL_call rfl rfl rfl (rCall (vs := [.slice _ _ _, .slice _ _ _]) rfl Tryd.func9 rfl rfl rfl) ?_
      refine (same_any _ _ _ _ _ _ cb (x ++ y) _ (CasA.of_row (Inv.pull hI 4 rfl)) (CasA.of_win hI) rfl (by rw [List.length_append]; first | omega | (simp only [List.length_nil]; omega))).mono ?_
      rw [decide_eq_true heq]
      rintro e w7 ⟨rfl, hp7⟩
      refine ⟨_, rfl, ?_⟩
      replace hI := hI.pure hp7
      refine WL_val rfl rfl rfl (by first | exact rPickTB rfl rfl rfl | exact rPickFB rfl rfl rfl | exact rPickB rfl rfl rfl rfl) ?_
      refine WL_val rfl rfl rfl (by first | exact rAsgnB rfl rfl | exact rAsgn rfl) ?_
      refine WL_nil ?_
      refine W_ret ?_
      exact ret1 6 (.inr rfl) rfl ⟨rfl, hI.pu⟩

end Go.Proofs.YtlhmldjgmbcocaaDoor
