/- The first one wins: no two that commit at the same time write one key. -/
import Derived.Test.YtlnjmkldpicpdaaDoorMvc12
import Derived.Test.YtlnjmkldpicpdaaDoorMvcLaw
namespace Go.Proofs.YtlnjmkldpicpdaaDoor
open Go.RowKit
set_option linter.unusedVariables false
set_option linter.unusedSimpArgs false
section
variable {P : Program} {ρ : Env} {o : Oper} {w : World} {x y : Operand}
theorem rIdxZ {t e n c g j i : Nat} {z : Int} {k : IntKind} (ho : o.op = .indexAddr t x y) (ht : P.underlying t = some (.slice e)) (hs : szB P e 1 = true) (hx : ev ρ x = .slice (some ⟨g, j, none⟩) n c) (hy : ev ρ y = .int k z) (hz : z = (i : Int)) (hi : i < n) :
    Runs P ρ o w (.pointer (some ⟨g, j + i, none⟩)) := rIdx1 (P := P) (w := w) ho ht hs hx (by rw [hy, hz]) hi
end
theorem spans_get {w : World} {D : Nat → Prop} {A : Option Addr} {n c k : Nat} {l : List Mx} {t : Mx} (h : Rd w D 2 (.slice A n c) n (l.flatMap spanV)) (hk : l[k]? = some t) :
    ∃ b f, A = some ⟨b, f, none⟩ ∧ D b ∧ w.cell? ⟨b, f + k * 2, none⟩ = some (.int .i64 t.beg) ∧ w.cell? ⟨b, f + k * 2 + 1, none⟩ = some (.int .i64 t.com) := by
  have hl := (List.getElem?_eq_some_iff.1 hk).1
  obtain ⟨A', c', hv, h1, h2, h3, h4⟩ := h
  injection hv with e1 e2 e3
  subst e1 e3
  have q := fun j hj => flat_get (f := spanV) (size := 2) (fun _ => rfl) l k j t hk hj
  have h0 := (List.getElem?_eq_some_iff.1 (q 0 (by decide))).1
  obtain ⟨b, f, rfl, hD, hc⟩ := h4 (by omega)
  refine ⟨b, f, rfl, hD, ?_, ?_⟩
  · have := hc _ _ (q 0 (by decide)); simpa using this
  · have := hc _ _ (q 1 (by decide)); rw [Nat.add_assoc]; exact this
/-- What the keepers tell of a base that was asked. -/
theorem bptI.at {w0 w : World} {b : Nat} {s : Bs} {S : Nat → Prop} {H : List Ent} (h : bptI S w0 w b s H) : ∃ D, BsAt w D b s ∧ (∀ i, (txAt s i).ops.length ≤ 60) ∧ (∀ k, ((bOrd s k).length : Int) ≤ s.time) := by
  obtain ⟨T, cT, A, ca, O, co, rest, hI, hw⟩ := h
  exact ⟨_, bpt_at hI hw, hw.ops, hw.ord⟩
theorem play_time (car : Bool) (l : List Ask) (hl : l.length ≤ 80) : (runA (newS 8 car) l).time ≤ 80 := by
  have h1 := (runA_wf (cT := 8) l (newS 8 car) (Wf.new (by omega) (by omega) (by omega))).2
  refine Int.le_trans h1 ?_
  show (0 : Int) + (l.length : Nat) ≤ 80
  omega
theorem play_len (car : Bool) (l : List Ask) : (runA (newS 8 car) l).txs.length = 8 := by
  rw [(runA_len l _).1]; simp [newS]
theorem play_sane (car : Bool) (l : List Ask) : Sane (runA (newS 8 car) l) := Sane.run l (Sane.new 8 car)
set_option maxHeartbeats 2000000 in
theorem first_any (A : Option Addr) (n c : Nat) (car : Bool) (l : List Ask) (D : Nat → Prop) (w0 : World) (h : asksR w0 D (.slice A n c) l) (hg : w0.cell? ⟨0, 0, none⟩ = some (.iface 120 (.agg #[hdl 37]))) :
    Calls Tryd.prog 3 #[.slice A n c, .bool car] w0 fun en w' => en = .returned (.bool true) ∧ Pure w0 w' := by
  have hn : n = l.length := by obtain ⟨_, _, hv, _⟩ := h; injection hv
  subst hn
  have hI := Inv.start (fun _ => False) w0
  refine calls_of_W (N := Tryd.f3.ntmps) Tryd.func3 rfl rfl rfl ?_
  refine W_seq ?_
  refine W_region ?_
  refine WL_val rfl rfl rfl (by first | exact rAsgnB rfl rfl | exact rAsgn rfl) ?_
  refine WL_nil ?_
  by_cases hl : 80 < l.length
  · refine W_seq ?_
    refine W_seq ?_
    refine W_region ?_
    refine WL_val rfl rfl rfl (by first | exact rMoveS rfl rfl | exact rMove rfl) ?_
    refine WL_val rfl rfl rfl (rLen rfl Tryd.underlying22 rfl) ?_
    refine WL_val rfl rfl rfl (by first | exact rGtrT rfl rfl rfl (by omega) | exact rGtrF rfl rfl rfl (by omega) | exact rGtr rfl rfl rfl) ?_
    refine WL_nil ?_
    refine W_cond true rfl ?_
    refine W_seq ?_
    refine W_region ?_
    refine WL_val rfl rfl rfl (by first | exact rAsgnB rfl rfl | exact rAsgn rfl) ?_
    refine WL_nil ?_
    refine W_ret ?_
    exact ret1 4 (.inr rfl) rfl ⟨rfl, hI.pu⟩
  refine W_seq ?_
  refine W_seq ?_
  refine W_region ?_
  refine WL_val rfl rfl rfl (by first | exact rMoveS rfl rfl | exact rMove rfl) ?_
  refine WL_val rfl rfl rfl (rLen rfl Tryd.underlying22 rfl) ?_
  refine WL_val rfl rfl rfl (by first | exact rGtrT rfl rfl rfl (by omega) | exact rGtrF rfl rfl rfl (by omega) | exact rGtr rfl rfl rfl) ?_
  refine WL_nil ?_
  refine W_cond false rfl ?_
  refine W_skip ?_
  have hl80 : l.length ≤ 80 := by omega
  refine W_seq ?_
  refine W_region ?_
  refine WL_val rfl rfl rfl (by first | exact rMoveB rfl rfl | exact rMove rfl) ?_
  refine WL_val rfl rfl rfl (by first | exact rMoveS rfl rfl | exact rMove rfl) ?_
  refine WL_call rfl rfl rfl (rCall (vs := [.bool _, .slice _ _ _]) rfl Tryd.func7 rfl rfl rfl) ?_
  refine (played_any car A _ c l D _ (by exact h) hl80).mono ?_
  rintro e w1 ⟨b, rfl, hb⟩
  refine ⟨_, rfl, ?_⟩
  obtain ⟨D1, hbs, hops, hord⟩ := hb.at
  have hpu : Pure w0 w1 := by obtain ⟨T, cT, A, ca, O, co, rest, hI, hw⟩ := hb; exact hI.pu
  replace hI := hI.pure hpu
  clear hb
  refine WL_val rfl rfl rfl (by first | exact rAsgnP rfl rfl | exact rAsgn rfl) ?_
  refine WL_nil ?_
  have htm := play_time car l hl80
  have hlen := play_len car l
  have hsane := play_sane car l
  obtain ⟨s, hs⟩ : ∃ s, runA (newS 8 car) l = s := ⟨_, rfl⟩
  rw [hs] at hbs hops hord htm hlen hsane
  refine W_seq ?_
  refine W_seq ?_
  refine W_region ?_
  refine WL_call rfl rfl rfl (rCall (vs := []) rfl Tryd.func8 rfl rfl rfl) ?_
  refine (based_any _ (hI.oldp hg)).mono ?_
  rintro e w2 ⟨rfl, hp⟩
  refine ⟨_, rfl, ?_⟩
  replace hI := hI.pure hp
  replace hbs := hbs.pure hp
  refine WL_val rfl rfl rfl (by first | exact rNotT rfl rfl | exact rNotF rfl rfl | exact rNot rfl rfl) ?_
  refine WL_val rfl rfl rfl (by first | exact rMoveB rfl rfl | exact rMove rfl) ?_
  first | refine WL_val rfl rfl rfl (by first | exact rMoveP rfl rfl | exact rMove rfl) ?_ | refine WL_skip rfl rfl rfl ?_
  first | refine WL_val rfl rfl rfl (rPtrEq rfl Tryd.underlying23 rfl rfl) ?_ | refine WL_skip rfl rfl rfl ?_
  refine WL_val rfl rfl rfl (by first | exact rPickTB rfl rfl rfl | exact rPickFB rfl rfl rfl | exact rPickB rfl rfl rfl rfl) ?_
  refine WL_nil ?_
  refine W_cond false rfl ?_
  refine W_skip ?_
  refine W_seq ?_
  refine W_region ?_
  refine WL_val rfl rfl rfl (by first | exact rMoveP rfl rfl | exact rMove rfl) ?_
  refine WL_call rfl rfl rfl (rCall (vs := [.pointer _]) rfl Tryd.func9 rfl rfl rfl) ?_
  refine (story_any b s D1 _ hbs hops (fun k => by have := hord k; omega)).mono ?_
  rintro e w3 ⟨As, cs, g, rfl, hp, htxs, hgr⟩
  refine ⟨_, rfl, ?_⟩
  replace hI := hI.pure hp
  replace hbs := hbs.pure hp
  have hP3 := hI.pu
  replace hI := Inv.start (fun _ => False) w3
  refine WL_alloc (u := .agg #[.slice none 0 0, .slice none 0 0]) (vs := #[.slice none 0 0, .slice none 0 0]) hI rfl rfl rfl rfl (by kernel_rfl) rfl ?_
  clear hI; rintro b6 w - - hI
  first | refine WL_stw0 (u := .agg _) (vs := #[_, _]) (n := 2) hI rfl rfl rfl rfl rfl rfl (by kernel_rfl) rfl rfl rfl ?_ | refine WL_stw1 (u := .agg _) (vs := #[_, _]) (n := 2) hI rfl rfl rfl rfl rfl rfl (by kernel_rfl) rfl rfl rfl ?_ | refine WL_stw2 (u := .agg _) (vs := #[_, _]) (n := 2) hI rfl rfl rfl rfl rfl rfl (by kernel_rfl) rfl rfl rfl ?_ | refine WL_stw3 (u := .agg _) (vs := #[_, _]) (n := 2) hI rfl rfl rfl rfl rfl rfl (by kernel_rfl) rfl rfl rfl ?_ | refine WL_stw4 (u := .agg _) (vs := #[_, _]) (n := 2) hI rfl rfl rfl rfl rfl rfl (by kernel_rfl) rfl rfl rfl ?_ | refine WL_stw5 (u := .agg _) (vs := #[_, _]) (n := 2) hI rfl rfl rfl rfl rfl rfl (by kernel_rfl) rfl rfl rfl ?_
  clear hI; intro w hI
  refine WL_nil ?_
  refine W_seq ?_
  refine W_region ?_
  refine WL_val rfl rfl rfl (by first | exact rMoveP rfl rfl | exact rMove rfl) ?_
  refine WL_call rfl rfl rfl (rCall (vs := [.pointer _]) rfl Tryd.func10 rfl rfl rfl) ?_
  refine (spans_any b s D1 _ (hbs.pure hI.pu)).mono ?_
  rintro e w4 ⟨A2, c2, rfl, hI2⟩
  refine ⟨_, rfl, ?_⟩
  replace hI := hI.app1 hI2
  have hsp := hI2.rowRd (List.mem_cons_self ..)
  have hgr2 := hgr.pure hI.pu
  have q6 : w4.cell? ⟨b6, 1, none⟩ = some (.slice (some ⟨g, 0, none⟩) 8 8) := hI.c1 rfl
  have hP4 := hP3.trans hI.pu
  replace hI := Inv.start (fun _ => False) w4
  refine WL_val rfl rfl rfl (by first | exact rAsgnS rfl rfl | exact rAsgn rfl) ?_
  refine WL_nil ?_
  clear hgr hbs htxs
  refine W_seq ?_
  refine W_seq ?_
  refine W_region ?_
  refine WL_val rfl rfl rfl (by first | exact rAsgnI rfl rfl | exact rAsgn rfl) ?_
  refine WL_nil ?_
  refine W_block ?_
  refine W_loop (fun ρ w => ∃ k : Nat, k ≤ 8 ∧ Has ρ [(8, .int .i64 ((k : Nat) : Int)), (6, .pointer (some ⟨b6, 0, none⟩)), (7, .slice A2 s.txs.length c2)] ∧ Inv (fun _ => False) w4 w []) (fun ρ _ => 8 - cnt (ρ 8))
    ⟨0, by omega, ⟨rfl, rfl, rfl, trivial⟩, hI⟩ ?_
  clear hI
  rintro ρ w ⟨k, hk, hH, hI⟩
  obtain ⟨σ, rfl⟩ := hH.open
  by_cases hkn : k < 8
  · refine W_seq ?_
    refine W_seq ?_
    refine W_region ?_
    refine WL_val rfl rfl rfl (by first | exact rMoveI rfl rfl | exact rMove rfl) ?_
    refine WL_val rfl rfl rfl (by first | exact rFldN (off := 1) rfl (by kernel_rfl) rfl | exact rFld (off := 1) rfl (by kernel_rfl) rfl) ?_
    refine WL_val rfl rfl rfl (by first | exact rLd (v := .slice _ _ _) rfl (by kernel_rfl) rfl (by first | exact hI.c0 rfl | exact hI.oldp q6 | exact q6) | exact rLd rfl (by kernel_rfl) rfl (by first | exact hI.c0 rfl | exact hI.oldp q6 | exact q6)) ?_
    refine WL_val rfl rfl rfl (rLen rfl Tryd.underlying27 rfl) ?_
    refine WL_val rfl rfl rfl (by first | exact rLssT rfl rfl rfl (by omega) | exact rLssF rfl rfl rfl (by omega) | exact rLss rfl rfl rfl) ?_
    refine WL_nil ?_
    refine W_cond true rfl ?_
    refine W_skip ?_
    refine W_seq ?_
    refine W_block ?_
    refine W_seq ?_
    refine W_region ?_
    refine WL_val rfl rfl rfl (by first | exact rAsgnI rfl rfl | exact rAsgn rfl) ?_
    refine WL_nil ?_
    obtain ⟨gb, go, Ak, ck, hgb, hlt, qk, hck, hck2, hints⟩ := hgr2.get (i := k) (l := intsN (bOrd s k)) (by rw [List.getElem?_map, ordAt_get (by rw [hsane.olen]; exact hkn)]; rfl)
    injection hgb with hgb
    injection hgb with hg1 hg2
    subst hg1 hg2
    have hln : (intsN (bOrd s k)).length = (bOrd s k).length := intsN_len _
    rw [Nat.zero_add] at qk
    rw [hln] at qk hints
    refine W_block ?_
    refine W_loop (fun ρ w => ∃ i : Nat, 1 ≤ i ∧ Has ρ [(9, .int .i64 ((i : Nat) : Int)), (8, .int .i64 ((k : Nat) : Int)), (6, .pointer (some ⟨b6, 0, none⟩)), (7, .slice A2 s.txs.length c2)] ∧ Inv (fun _ => False) w4 w []) (fun ρ _ => (bOrd s k).length - cnt (ρ 9))
      ⟨1, by omega, ⟨rfl, rfl, rfl, rfl, trivial⟩, hI⟩ ?_
    clear hI
    rintro ρ w ⟨i, hi, hH, hI⟩
    obtain ⟨σ, rfl⟩ := hH.open
    by_cases hin : i < (bOrd s k).length
    · obtain ⟨j, rfl⟩ : ∃ j, i = j + 1 := ⟨i - 1, by omega⟩
      obtain ⟨_, _, hv, _, _, _, hcell⟩ := hints
      injection hv with hv1 hv2 hv3
      subst hv1 hv3
      rw [hln] at hcell
      obtain ⟨ib, io, rfl, hiD, hic⟩ := hcell (by omega)
      obtain ⟨x, hx⟩ : ∃ x, (bOrd s k)[j]? = some x := ⟨_, List.getElem?_eq_getElem (by omega)⟩
      obtain ⟨y, hy⟩ : ∃ y, (bOrd s k)[j + 1]? = some y := ⟨_, List.getElem?_eq_getElem hin⟩
      have qx : w4.cell? ⟨ib, io + j, none⟩ = some (.int .i64 (x : Int)) := hic _ _ (by simp [intsN, hx])
      have qy : w4.cell? ⟨ib, io + (j + 1), none⟩ = some (.int .i64 (y : Int)) := hic _ _ (by simp [intsN, hy])
      obtain ⟨hxn, -, -⟩ := (hsane.mem k x hkn).1 (List.mem_of_getElem? hx)
      obtain ⟨hyn, -, -⟩ := (hsane.mem k y hkn).1 (List.mem_of_getElem? hy)
      have hxy : (txAt s x).com < (txAt s y).beg := by
        have := List.pairwise_iff_getElem.1 (hsane.first k hkn) j (j + 1) (by omega) hin (by omega)
        rw [List.getElem?_eq_getElem (by omega)] at hx hy
        injection hx with hx
        injection hy with hy
        rw [hx, hy] at this
        exact this
      obtain ⟨sb, so, rfl, -, -, qx1⟩ := spans_get hsp (txAt_get hxn)
      obtain ⟨_, _, hsb, -, qy0, -⟩ := spans_get hsp (txAt_get hyn)
      injection hsb with hsb
      injection hsb with hs1 hs2
      subst hs1 hs2
      refine W_seq ?_
      refine W_seq ?_
      refine W_region ?_
      refine WL_val rfl rfl rfl (by first | exact rMoveI rfl rfl | exact rMove rfl) ?_
      refine WL_val rfl rfl rfl (by first | exact rFldN (off := 1) rfl (by kernel_rfl) rfl | exact rFld (off := 1) rfl (by kernel_rfl) rfl) ?_
      refine WL_val rfl rfl rfl (by first | exact rLd (v := .slice _ _ _) rfl (by kernel_rfl) rfl (by first | exact hI.c0 rfl | exact hI.oldp q6 | exact q6 | exact hI.oldp qk | exact qk) | exact rLd rfl (by kernel_rfl) rfl (by first | exact hI.c0 rfl | exact hI.oldp q6 | exact q6 | exact hI.oldp qk | exact qk)) ?_
      refine WL_val rfl rfl rfl (by first | exact rMoveI rfl rfl | exact rMove rfl) ?_
      refine WL_val rfl rfl rfl (by first | exact rIdx0 rfl Tryd.underlying27 (by kernel_rfl) rfl rfl rfl (by omega) | exact rIdx1 rfl Tryd.underlying27 (by kernel_rfl) rfl rfl (by omega)) ?_
      refine WL_val rfl rfl rfl (by first | exact rLd (v := .slice _ _ _) rfl (by kernel_rfl) rfl (by first | exact hI.c0 rfl | exact hI.oldp q6 | exact q6 | exact hI.oldp qk | exact qk) | exact rLd rfl (by kernel_rfl) rfl (by first | exact hI.c0 rfl | exact hI.oldp q6 | exact q6 | exact hI.oldp qk | exact qk)) ?_
      refine WL_val rfl rfl rfl (rLen rfl Tryd.underlying33 rfl) ?_
      refine WL_val rfl rfl rfl (by first | exact rLssT rfl rfl rfl (by omega) | exact rLssF rfl rfl rfl (by omega) | exact rLss rfl rfl rfl) ?_
      refine WL_nil ?_
      refine W_cond true rfl ?_
      refine W_skip ?_
      refine W_seq ?_
      refine W_block ?_
      refine W_seq ?_
      refine W_draw (by kernel_rfl) ?_
      refine WA_inv (T := []) hI.drew ?_
      intro Sx hSx hXS
      replace hI := hI.drew
      refine WT_take 0 rfl rfl (by kernel_rfl) (hXS _ hI) rfl (fun W hW => have hI := hSx W hW; (by first | exact rFldN (off := 1) rfl (by kernel_rfl) rfl | exact rFld (off := 1) rfl (by kernel_rfl) rfl)) ?_
      refine WT_take 1 rfl rfl (by kernel_rfl) (hXS _ hI) rfl (fun W hW => have hI := hSx W hW; (by first | exact rLd (v := .slice _ _ _) rfl (by kernel_rfl) rfl (by first | exact hI.c0 rfl | exact hI.oldp q6 | exact q6 | exact hI.oldp qk | exact qk | exact hI.oldp qx | exact qx | exact hI.oldp qy | exact qy) | exact rLd rfl (by kernel_rfl) rfl (by first | exact hI.c0 rfl | exact hI.oldp q6 | exact q6 | exact hI.oldp qk | exact qk | exact hI.oldp qx | exact qx | exact hI.oldp qy | exact qy))) ?_
      refine WT_take 2 rfl rfl (by kernel_rfl) (hXS _ hI) rfl (fun W hW => have hI := hSx W hW; (by first | exact rMoveI rfl rfl | exact rMove rfl)) ?_
      refine WT_take 3 rfl rfl (by kernel_rfl) (hXS _ hI) rfl (fun W hW => have hI := hSx W hW; (by first | exact rIdx0 rfl Tryd.underlying27 (by kernel_rfl) rfl rfl rfl (by omega) | exact rIdx1 rfl Tryd.underlying27 (by kernel_rfl) rfl rfl (by omega))) ?_
      refine WT_take 4 rfl rfl (by kernel_rfl) (hXS _ hI) rfl (fun W hW => have hI := hSx W hW; (by first | exact rLd (v := .slice _ _ _) rfl (by kernel_rfl) rfl (by first | exact hI.c0 rfl | exact hI.oldp q6 | exact q6 | exact hI.oldp qk | exact qk | exact hI.oldp qx | exact qx | exact hI.oldp qy | exact qy) | exact rLd rfl (by kernel_rfl) rfl (by first | exact hI.c0 rfl | exact hI.oldp q6 | exact q6 | exact hI.oldp qk | exact qk | exact hI.oldp qx | exact qx | exact hI.oldp qy | exact qy))) ?_
      refine WT_take 5 rfl rfl (by kernel_rfl) (hXS _ hI) rfl (fun W hW => have hI := hSx W hW; (by first | exact rMoveI rfl rfl | exact rMove rfl)) ?_
      refine WT_take 6 rfl rfl (by kernel_rfl) (hXS _ hI) rfl (fun W hW => have hI := hSx W hW; (by first | exact rSub rfl rfl rfl (by omega) | exact rSubW rfl rfl rfl)) ?_
      refine WT_take 7 rfl rfl (by kernel_rfl) (hXS _ hI) rfl (fun W hW => have hI := hSx W hW; (rIdxZ (i := j) rfl Tryd.underlying33 (by kernel_rfl) rfl rfl (by omega) (by omega))) ?_
      refine WT_take 8 rfl rfl (by kernel_rfl) (hXS _ hI) rfl (fun W hW => have hI := hSx W hW; (by first | exact rLd (v := .int .i64 _) rfl (by kernel_rfl) rfl (by first | exact hI.c0 rfl | exact hI.oldp q6 | exact q6 | exact hI.oldp qk | exact qk | exact hI.oldp qx | exact qx | exact hI.oldp qy | exact qy) | exact rLd rfl (by kernel_rfl) rfl (by first | exact hI.c0 rfl | exact hI.oldp q6 | exact q6 | exact hI.oldp qk | exact qk | exact hI.oldp qx | exact qx | exact hI.oldp qy | exact qy))) ?_
      refine WT_take 9 rfl rfl (by kernel_rfl) (hXS _ hI) rfl (fun W hW => have hI := hSx W hW; (by first | exact rFldN (off := 1) rfl (by kernel_rfl) rfl | exact rFld (off := 1) rfl (by kernel_rfl) rfl)) ?_
      refine WT_take 10 rfl rfl (by kernel_rfl) (hXS _ hI) rfl (fun W hW => have hI := hSx W hW; (by first | exact rLd (v := .slice _ _ _) rfl (by kernel_rfl) rfl (by first | exact hI.c0 rfl | exact hI.oldp q6 | exact q6 | exact hI.oldp qk | exact qk | exact hI.oldp qx | exact qx | exact hI.oldp qy | exact qy) | exact rLd rfl (by kernel_rfl) rfl (by first | exact hI.c0 rfl | exact hI.oldp q6 | exact q6 | exact hI.oldp qk | exact qk | exact hI.oldp qx | exact qx | exact hI.oldp qy | exact qy))) ?_
      refine WT_take 11 rfl rfl (by kernel_rfl) (hXS _ hI) rfl (fun W hW => have hI := hSx W hW; (by first | exact rMoveI rfl rfl | exact rMove rfl)) ?_
      refine WT_take 12 rfl rfl (by kernel_rfl) (hXS _ hI) rfl (fun W hW => have hI := hSx W hW; (by first | exact rIdx0 rfl Tryd.underlying27 (by kernel_rfl) rfl rfl rfl (by omega) | exact rIdx1 rfl Tryd.underlying27 (by kernel_rfl) rfl rfl (by omega))) ?_
      refine WT_take 13 rfl rfl (by kernel_rfl) (hXS _ hI) rfl (fun W hW => have hI := hSx W hW; (by first | exact rLd (v := .slice _ _ _) rfl (by kernel_rfl) rfl (by first | exact hI.c0 rfl | exact hI.oldp q6 | exact q6 | exact hI.oldp qk | exact qk | exact hI.oldp qx | exact qx | exact hI.oldp qy | exact qy) | exact rLd rfl (by kernel_rfl) rfl (by first | exact hI.c0 rfl | exact hI.oldp q6 | exact q6 | exact hI.oldp qk | exact qk | exact hI.oldp qx | exact qx | exact hI.oldp qy | exact qy))) ?_
      refine WT_take 14 rfl rfl (by kernel_rfl) (hXS _ hI) rfl (fun W hW => have hI := hSx W hW; (by first | exact rMoveI rfl rfl | exact rMove rfl)) ?_
      refine WT_take 15 rfl rfl (by kernel_rfl) (hXS _ hI) rfl (fun W hW => have hI := hSx W hW; (by first | exact rIdx0 rfl Tryd.underlying33 (by kernel_rfl) rfl rfl rfl (by omega) | exact rIdx1 rfl Tryd.underlying33 (by kernel_rfl) rfl rfl (by omega))) ?_
      refine WT_take 16 rfl rfl (by kernel_rfl) (hXS _ hI) rfl (fun W hW => have hI := hSx W hW; (by first | exact rLd (v := .int .i64 _) rfl (by kernel_rfl) rfl (by first | exact hI.c0 rfl | exact hI.oldp q6 | exact q6 | exact hI.oldp qk | exact qk | exact hI.oldp qx | exact qx | exact hI.oldp qy | exact qy) | exact rLd rfl (by kernel_rfl) rfl (by first | exact hI.c0 rfl | exact hI.oldp q6 | exact q6 | exact hI.oldp qk | exact qk | exact hI.oldp qx | exact qx | exact hI.oldp qy | exact qy))) ?_
      refine WT_take 17 rfl rfl (by kernel_rfl) (hXS _ hI) rfl (fun W hW => have hI := hSx W hW; (by first | exact rAsgnI rfl rfl | exact rAsgn rfl)) ?_
      refine WT_take 18 rfl rfl (by kernel_rfl) (hXS _ hI) rfl (fun W hW => have hI := hSx W hW; (by first | exact rAsgnI rfl rfl | exact rAsgn rfl)) ?_
      refine WT_end (by kernel_rfl) ?_
      refine W_seq ?_
      refine W_draw (by kernel_rfl) ?_
      refine WA_inv (T := []) hI.drew ?_
      intro Sx hSx hXS
      replace hI := hI.drew
      refine WT_take 0 rfl rfl (by kernel_rfl) (hXS _ hI) rfl (fun W hW => have hI := hSx W hW; (by first | exact rMoveI rfl rfl | exact rMove rfl)) ?_
      refine WT_take 1 rfl rfl (by kernel_rfl) (hXS _ hI) rfl (fun W hW => have hI := hSx W hW; (by first | exact rLssT rfl rfl rfl (by omega) | exact rLssF rfl rfl rfl (by omega) | exact rLss rfl rfl rfl)) ?_
      refine WT_take 2 rfl rfl (by kernel_rfl) (hXS _ hI) rfl (fun W hW => have hI := hSx W hW; (by first | exact rMoveB rfl rfl | exact rMove rfl)) ?_
      first | refine WT_take 3 rfl rfl (by kernel_rfl) (hXS _ hI) rfl (fun W hW => have hI := hSx W hW; (by first | exact rMoveI rfl rfl | exact rMove rfl)) ?_ | refine WT_skip 3 rfl rfl (by kernel_rfl) (hXS _ hI) rfl ?_
      first | refine WT_take 4 rfl rfl (by kernel_rfl) (hXS _ hI) rfl (fun W hW => have hI := hSx W hW; (by first | exact rMoveS rfl rfl | exact rMove rfl)) ?_ | refine WT_skip 4 rfl rfl (by kernel_rfl) (hXS _ hI) rfl ?_
      first | refine WT_take 5 rfl rfl (by kernel_rfl) (hXS _ hI) rfl (fun W hW => have hI := hSx W hW; (rLen rfl Tryd.underlying31 rfl)) ?_ | refine WT_skip 5 rfl rfl (by kernel_rfl) (hXS _ hI) rfl ?_
      first | refine WT_take 6 rfl rfl (by kernel_rfl) (hXS _ hI) rfl (fun W hW => have hI := hSx W hW; (by first | exact rGeqT rfl rfl rfl (by omega) | exact rGeqF rfl rfl rfl (by omega) | exact rGeq rfl rfl rfl)) ?_ | refine WT_skip 6 rfl rfl (by kernel_rfl) (hXS _ hI) rfl ?_
      refine WT_take 7 rfl rfl (by kernel_rfl) (hXS _ hI) rfl (fun W hW => have hI := hSx W hW; (by first | exact rPickTB rfl rfl rfl | exact rPickFB rfl rfl rfl | exact rPickB rfl rfl rfl rfl)) ?_
      refine WT_take 8 rfl rfl (by kernel_rfl) (hXS _ hI) rfl (fun W hW => have hI := hSx W hW; (by first | exact rMoveB rfl rfl | exact rMove rfl)) ?_
      first | refine WT_take 9 rfl rfl (by kernel_rfl) (hXS _ hI) rfl (fun W hW => have hI := hSx W hW; (by first | exact rMoveI rfl rfl | exact rMove rfl)) ?_ | refine WT_skip 9 rfl rfl (by kernel_rfl) (hXS _ hI) rfl ?_
      first | refine WT_take 10 rfl rfl (by kernel_rfl) (hXS _ hI) rfl (fun W hW => have hI := hSx W hW; (by first | exact rLssT rfl rfl rfl (by omega) | exact rLssF rfl rfl rfl (by omega) | exact rLss rfl rfl rfl)) ?_ | refine WT_skip 10 rfl rfl (by kernel_rfl) (hXS _ hI) rfl ?_
      refine WT_take 11 rfl rfl (by kernel_rfl) (hXS _ hI) rfl (fun W hW => have hI := hSx W hW; (by first | exact rPickTB rfl rfl rfl | exact rPickFB rfl rfl rfl | exact rPickB rfl rfl rfl rfl)) ?_
      refine WT_take 12 rfl rfl (by kernel_rfl) (hXS _ hI) rfl (fun W hW => have hI := hSx W hW; (by first | exact rMoveB rfl rfl | exact rMove rfl)) ?_
      first | refine WT_take 13 rfl rfl (by kernel_rfl) (hXS _ hI) rfl (fun W hW => have hI := hSx W hW; (by first | exact rMoveI rfl rfl | exact rMove rfl)) ?_ | refine WT_skip 13 rfl rfl (by kernel_rfl) (hXS _ hI) rfl ?_
      first | refine WT_take 14 rfl rfl (by kernel_rfl) (hXS _ hI) rfl (fun W hW => have hI := hSx W hW; (by first | exact rMoveS rfl rfl | exact rMove rfl)) ?_ | refine WT_skip 14 rfl rfl (by kernel_rfl) (hXS _ hI) rfl ?_
      first | refine WT_take 15 rfl rfl (by kernel_rfl) (hXS _ hI) rfl (fun W hW => have hI := hSx W hW; (rLen rfl Tryd.underlying31 rfl)) ?_ | refine WT_skip 15 rfl rfl (by kernel_rfl) (hXS _ hI) rfl ?_
      first | refine WT_take 16 rfl rfl (by kernel_rfl) (hXS _ hI) rfl (fun W hW => have hI := hSx W hW; (by first | exact rGeqT rfl rfl rfl (by omega) | exact rGeqF rfl rfl rfl (by omega) | exact rGeq rfl rfl rfl)) ?_ | refine WT_skip 16 rfl rfl (by kernel_rfl) (hXS _ hI) rfl ?_
      refine WT_take 17 rfl rfl (by kernel_rfl) (hXS _ hI) rfl (fun W hW => have hI := hSx W hW; (by first | exact rPickTB rfl rfl rfl | exact rPickFB rfl rfl rfl | exact rPickB rfl rfl rfl rfl)) ?_
      refine WT_take 18 rfl rfl (by kernel_rfl) (hXS _ hI) rfl (fun W hW => have hI := hSx W hW; (by first | exact rMoveB rfl rfl | exact rMove rfl)) ?_
      first | refine WT_take 19 rfl rfl (by kernel_rfl) (hXS _ hI) rfl (fun W hW => have hI := hSx W hW; (by first | exact rMoveS rfl rfl | exact rMove rfl)) ?_ | refine WT_skip 19 rfl rfl (by kernel_rfl) (hXS _ hI) rfl ?_
      first | refine WT_take 20 rfl rfl (by kernel_rfl) (hXS _ hI) rfl (fun W hW => have hI := hSx W hW; (by first | exact rMoveI rfl rfl | exact rMove rfl)) ?_ | refine WT_skip 20 rfl rfl (by kernel_rfl) (hXS _ hI) rfl ?_
      first | refine WT_take 21 rfl rfl (by kernel_rfl) (hXS _ hI) rfl (fun W hW => have hI := hSx W hW; (rIdx (sz := 2) rfl Tryd.underlying31 (by kernel_rfl) rfl rfl (by omega))) ?_ | refine WT_skip 21 rfl rfl (by kernel_rfl) (hXS _ hI) rfl ?_
      first | refine WT_take 22 rfl rfl (by kernel_rfl) (hXS _ hI) rfl (fun W hW => have hI := hSx W hW; (rIdxArr (sz := 1) (i := 1) rfl Tryd.underlying34 (by kernel_rfl) rfl rfl rfl (by omega))) ?_ | refine WT_skip 22 rfl rfl (by kernel_rfl) (hXS _ hI) rfl ?_
      first | refine WT_take 23 rfl rfl (by kernel_rfl) (hXS _ hI) rfl (fun W hW => have hI := hSx W hW; (by first | exact rLd (v := .int .i64 _) rfl (by kernel_rfl) rfl (by first | exact hI.c0 rfl | exact hI.oldp qx1 | exact qx1 | exact hI.oldp qy0 | exact qy0) | exact rLd rfl (by kernel_rfl) rfl (by first | exact hI.c0 rfl | exact hI.oldp qx1 | exact qx1 | exact hI.oldp qy0 | exact qy0))) ?_ | refine WT_skip 23 rfl rfl (by kernel_rfl) (hXS _ hI) rfl ?_
      first | refine WT_take 24 rfl rfl (by kernel_rfl) (hXS _ hI) rfl (fun W hW => have hI := hSx W hW; (by first | exact rMoveS rfl rfl | exact rMove rfl)) ?_ | refine WT_skip 24 rfl rfl (by kernel_rfl) (hXS _ hI) rfl ?_
      first | refine WT_take 25 rfl rfl (by kernel_rfl) (hXS _ hI) rfl (fun W hW => have hI := hSx W hW; (by first | exact rMoveI rfl rfl | exact rMove rfl)) ?_ | refine WT_skip 25 rfl rfl (by kernel_rfl) (hXS _ hI) rfl ?_
      first | refine WT_take 26 rfl rfl (by kernel_rfl) (hXS _ hI) rfl (fun W hW => have hI := hSx W hW; (rIdx (sz := 2) rfl Tryd.underlying31 (by kernel_rfl) rfl rfl (by omega))) ?_ | refine WT_skip 26 rfl rfl (by kernel_rfl) (hXS _ hI) rfl ?_
      first | refine WT_take 27 rfl rfl (by kernel_rfl) (hXS _ hI) rfl (fun W hW => have hI := hSx W hW; (rIdxArr (sz := 1) (i := 0) rfl Tryd.underlying34 (by kernel_rfl) rfl rfl rfl (by omega))) ?_ | refine WT_skip 27 rfl rfl (by kernel_rfl) (hXS _ hI) rfl ?_
      first | refine WT_take 28 rfl rfl (by kernel_rfl) (hXS _ hI) rfl (fun W hW => have hI := hSx W hW; (by first | exact rLd (v := .int .i64 _) rfl (by kernel_rfl) rfl (by first | exact hI.c0 rfl | exact hI.oldp qx1 | exact qx1 | exact hI.oldp qy0 | exact qy0) | exact rLd rfl (by kernel_rfl) rfl (by first | exact hI.c0 rfl | exact hI.oldp qx1 | exact qx1 | exact hI.oldp qy0 | exact qy0))) ?_ | refine WT_skip 28 rfl rfl (by kernel_rfl) (hXS _ hI) rfl ?_
      first | refine WT_take 29 rfl rfl (by kernel_rfl) (hXS _ hI) rfl (fun W hW => have hI := hSx W hW; (by first | exact rGeqT rfl rfl rfl (by omega) | exact rGeqF rfl rfl rfl (by omega) | exact rGeq rfl rfl rfl)) ?_ | refine WT_skip 29 rfl rfl (by kernel_rfl) (hXS _ hI) rfl ?_
      refine WT_take 30 rfl rfl (by kernel_rfl) (hXS _ hI) rfl (fun W hW => have hI := hSx W hW; (by first | exact rPickTB rfl rfl rfl | exact rPickFB rfl rfl rfl | exact rPickB rfl rfl rfl rfl)) ?_
      refine WT_end (by kernel_rfl) ?_
      refine W_cond false rfl ?_
      refine W_skip ?_
      refine W_region ?_
      refine WL_val rfl rfl rfl (by first | exact rMoveI rfl rfl | exact rMove rfl) ?_
      refine WL_val rfl rfl rfl (by first | exact rInc rfl rfl rfl (by omega) | exact rAdd rfl rfl rfl (by omega) | exact rAddW rfl rfl rfl) ?_
      refine WL_val rfl rfl rfl (by first | exact rAsgnI rfl rfl | exact rAsgn rfl) ?_
      refine WL_nil ?_
      exact ⟨⟨j + 2, by omega, ⟨rfl, rfl, rfl, rfl, trivial⟩, hI⟩, by show (bOrd s k).length - ((j + 2 : Nat) : Int).toNat < (bOrd s k).length - ((j + 1 : Nat) : Int).toNat; omega⟩
    · refine W_seq ?_
      refine W_seq ?_
      refine W_region ?_
      refine WL_val rfl rfl rfl (by first | exact rMoveI rfl rfl | exact rMove rfl) ?_
      refine WL_val rfl rfl rfl (by first | exact rFldN (off := 1) rfl (by kernel_rfl) rfl | exact rFld (off := 1) rfl (by kernel_rfl) rfl) ?_
      refine WL_val rfl rfl rfl (by first | exact rLd (v := .slice _ _ _) rfl (by kernel_rfl) rfl (by first | exact hI.c0 rfl | exact hI.oldp q6 | exact q6 | exact hI.oldp qk | exact qk) | exact rLd rfl (by kernel_rfl) rfl (by first | exact hI.c0 rfl | exact hI.oldp q6 | exact q6 | exact hI.oldp qk | exact qk)) ?_
      refine WL_val rfl rfl rfl (by first | exact rMoveI rfl rfl | exact rMove rfl) ?_
      refine WL_val rfl rfl rfl (by first | exact rIdx0 rfl Tryd.underlying27 (by kernel_rfl) rfl rfl rfl (by omega) | exact rIdx1 rfl Tryd.underlying27 (by kernel_rfl) rfl rfl (by omega)) ?_
      refine WL_val rfl rfl rfl (by first | exact rLd (v := .slice _ _ _) rfl (by kernel_rfl) rfl (by first | exact hI.c0 rfl | exact hI.oldp q6 | exact q6 | exact hI.oldp qk | exact qk) | exact rLd rfl (by kernel_rfl) rfl (by first | exact hI.c0 rfl | exact hI.oldp q6 | exact q6 | exact hI.oldp qk | exact qk)) ?_
      refine WL_val rfl rfl rfl (rLen rfl Tryd.underlying33 rfl) ?_
      refine WL_val rfl rfl rfl (by first | exact rLssT rfl rfl rfl (by omega) | exact rLssF rfl rfl rfl (by omega) | exact rLss rfl rfl rfl) ?_
      refine WL_nil ?_
      refine W_cond false rfl ?_
      refine W_exit ?_
      refine W_region ?_
      refine WL_val rfl rfl rfl (by first | exact rMoveI rfl rfl | exact rMove rfl) ?_
      refine WL_val rfl rfl rfl (by first | exact rInc rfl rfl rfl (by omega) | exact rAdd rfl rfl rfl (by omega) | exact rAddW rfl rfl rfl) ?_
      refine WL_val rfl rfl rfl (by first | exact rAsgnI rfl rfl | exact rAsgn rfl) ?_
      refine WL_nil ?_
      exact ⟨⟨k + 1, by omega, ⟨rfl, rfl, rfl, trivial⟩, hI⟩, by show 8 - ((k + 1 : Nat) : Int).toNat < 8 - (k : Int).toNat; omega⟩
  · obtain rfl : k = 8 := by omega
    refine W_seq ?_
    refine W_seq ?_
    refine W_region ?_
    refine WL_val rfl rfl rfl (by first | exact rMoveI rfl rfl | exact rMove rfl) ?_
    refine WL_val rfl rfl rfl (by first | exact rFldN (off := 1) rfl (by kernel_rfl) rfl | exact rFld (off := 1) rfl (by kernel_rfl) rfl) ?_
    refine WL_val rfl rfl rfl (by first | exact rLd (v := .slice _ _ _) rfl (by kernel_rfl) rfl (by first | exact hI.c0 rfl | exact hI.oldp q6 | exact q6) | exact rLd rfl (by kernel_rfl) rfl (by first | exact hI.c0 rfl | exact hI.oldp q6 | exact q6)) ?_
    refine WL_val rfl rfl rfl (rLen rfl Tryd.underlying27 rfl) ?_
    refine WL_val rfl rfl rfl (by first | exact rLssT rfl rfl rfl (by omega) | exact rLssF rfl rfl rfl (by omega) | exact rLss rfl rfl rfl) ?_
    refine WL_nil ?_
    refine W_cond false rfl ?_
    refine W_exit ?_
    refine W_seq ?_
    refine W_region ?_
    refine WL_val rfl rfl rfl (by first | exact rAsgnB rfl rfl | exact rAsgn rfl) ?_
    refine WL_nil ?_
    refine W_ret ?_
    exact ret1 4 (.inr rfl) rfl ⟨rfl, hP4.trans hI.pu⟩
end Go.Proofs.YtlnjmkldpicpdaaDoor
