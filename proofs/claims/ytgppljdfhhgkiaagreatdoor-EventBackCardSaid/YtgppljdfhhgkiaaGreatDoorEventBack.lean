/- For every list of events EventBack returns true and changes nothing. -/
import Derived.Test.YtgppljdfhhgkiaaGreatDoorEvoS
import Derived.Test.YtgppljdfhhgkiaaGreatDoorTxt2
import Derived.Test.YtgppljdfhhgkiaaGreatDoorTxt6
namespace Go.Proofs.YtgppljdfhhgkiaaGreatDoor
open Go.RowKit
set_option linter.unusedVariables false
set_option linter.unusedSimpArgs false
theorem rNeqSelf {P : Program} {ρ : Env} {o : Oper} {w : World} {x y : Operand} {t t' : TypeId} {n : Nat} {la : List Int} (ho : o.op = .binOp .neq t x y t') (hB : eqIntsB P t n = true) (hx : ev ρ x = .agg (i64s la).toArray) (hy : ev ρ y = .agg (i64s la).toArray) (ha : la.length = n) : Runs P ρ o w (.bool false) := by
  have := rNeqS (w := w) ho hB hx hy ha ha
  simpa using this
def evI (e : Ev) : List Int := [e.proc, e.ty, e.key, e.kind, e.a, e.b, e.res]
theorem evs_agg {w : World} {b o c k : Nat} {l : List Ev} (h : w.ownsRow 0 31 7 (.slice (some ⟨b, o, none⟩) l.length c) l.length (l.flatMap evL)) (hk : k < l.length) : ∀ (j : Nat) (u : Value), (evL (evAt l k))[j]? = some u → w.cell? ⟨b, o + k * 7 + j, none⟩ = some u := by
  have hm : EvsR w (fun _ => True) (.slice (some ⟨b, o, none⟩) l.length c) l := Rd.of_own h (fun _ _ _ => trivial)
  obtain ⟨b', o', hA, hc⟩ := hm.at hk
  injection hA with hA
  injection hA with h1 h2 _
  subst h1 h2
  exact hc
set_option maxHeartbeats 4000000 in
theorem eventBack_any (A : Option Addr) (n c : Nat) (l : List Ev) (D : Nat → Prop) (w0 : World) (h : EvsR w0 D (.slice A n c) l) (hG : TxG w0) (hM : MaxOk w0) :
    Calls Tryz.prog 3 #[.slice A n c] w0 fun en w' => en = .returned (.bool true) ∧ Pure w0 w' := by
  obtain ⟨hn, hc1, hc2⟩ := h.len
  subst hn
  have hI := Inv.start (fun _ => False) w0
  refine calls_of_W (N := Tryz.f3.ntmps) Tryz.func3 rfl rfl rfl ?_
  refine W_seq ?_
  refine W_region ?_
  refine WL_val rfl rfl rfl (by first | exact rAsgnB rfl rfl | exact rAsgn rfl) ?_
  refine WL_nil ?_
  by_cases h130 : l.length ≤ 130
  rotate_left
  · refine W_seq ?_
    refine W_seq ?_
    refine W_region ?_
    refine WL_val rfl rfl rfl (by first | exact rMoveS rfl rfl | exact rMove rfl) ?_
    refine WL_val rfl rfl rfl (rLen rfl Tryz.underlying22 rfl) ?_
    refine WL_val rfl rfl rfl (by first | exact rGtrT rfl rfl rfl (by omega) | exact rGtrF rfl rfl rfl (by omega) | exact rGtr rfl rfl rfl) ?_
    refine WL_nil ?_
    refine W_cond true rfl ?_
    refine W_seq ?_
    refine W_region ?_
    refine WL_val rfl rfl rfl (by first | exact rAsgnB rfl rfl | exact rAsgn rfl) ?_
    refine WL_nil ?_
    refine W_ret ?_
    exact ret1 2 (.inr rfl) rfl ⟨rfl, hI.pu⟩
  refine W_seq ?_
  refine W_seq ?_
  refine W_region ?_
  refine WL_val rfl rfl rfl (by first | exact rMoveS rfl rfl | exact rMove rfl) ?_
  refine WL_val rfl rfl rfl (rLen rfl Tryz.underlying22 rfl) ?_
  refine WL_val rfl rfl rfl (by first | exact rGtrT rfl rfl rfl (by omega) | exact rGtrF rfl rfl rfl (by omega) | exact rGtr rfl rfl rfl) ?_
  refine WL_nil ?_
  refine W_cond false rfl ?_
  refine W_skip ?_
  cases hev : evT l with
  | none =>
    refine W_seq ?_
    refine W_region ?_
    refine WL_val rfl rfl rfl (by first | exact rMoveS rfl rfl | exact rMove rfl) ?_
    refine WL_call rfl rfl rfl (rCall (vs := [.slice _ _ _]) rfl Tryz.func4 rfl rfl rfl) ?_
    refine (text_any A _ c l _ _ (h.pure hI.pu) (hG.pure hI.pu)).mono ?_
    rw [hev]
    rintro e w1 ⟨hp1, T, v, rfl⟩
    refine ⟨_, rfl, ?_⟩
    replace hI := hI.pure hp1
    refine WL_val rfl rfl rfl (by first | exact rMoveT rfl rfl | exact rMove rfl) ?_
    refine WL_val rfl rfl rfl (rExtr rfl rfl rfl) ?_
    refine WL_val rfl rfl rfl (rExtr rfl rfl rfl) ?_
    refine WL_val rfl rfl rfl (by first | exact rAsgnStr rfl rfl | exact rAsgn rfl) ?_
    refine WL_val rfl rfl rfl (by first | exact rAsgnN rfl rfl | exact rAsgnE rfl rfl | exact rAsgn rfl) ?_
    refine WL_nil ?_
    refine W_seq ?_
    refine W_seq ?_
    refine W_region ?_
    refine WL_call rfl rfl rfl (rCall (vs := []) rfl Tryz.func5 rfl rfl rfl) ?_
    refine (seen_any _ (hG.pure hI.pu).err).mono ?_
    rintro e w1 ⟨rfl, hp1⟩
    refine ⟨_, rfl, ?_⟩
    replace hI := hI.pure hp1
    refine WL_val rfl rfl rfl (by first | exact rNotT rfl rfl | exact rNotF rfl rfl | exact rNot rfl rfl) ?_
    refine WL_val rfl rfl rfl (by first | exact rMoveB rfl rfl | exact rMove rfl) ?_
    first | refine WL_val rfl rfl rfl (by first | exact rMoveN rfl rfl | exact rMoveE rfl rfl | exact rMove rfl) ?_ | refine WL_skip rfl rfl rfl ?_
    first | refine WL_val rfl rfl rfl (by first | exact rIfaceNe rfl Tryz.underlying24 rfl rfl | exact rNilNe rfl Tryz.underlying24 rfl) ?_ | refine WL_skip rfl rfl rfl ?_
    refine WL_val rfl rfl rfl (by first | exact rPickTB rfl rfl rfl | exact rPickFB rfl rfl rfl | exact rPickB rfl rfl rfl rfl) ?_
    refine WL_nil ?_
    refine W_cond true rfl ?_
    refine W_seq ?_
    refine W_region ?_
    refine WL_call rfl rfl rfl (rCall (vs := []) rfl Tryz.func5 rfl rfl rfl) ?_
    refine (seen_any _ (hG.pure hI.pu).err).mono ?_
    rintro e w1 ⟨rfl, hp1⟩
    refine ⟨_, rfl, ?_⟩
    replace hI := hI.pure hp1
    refine WL_val rfl rfl rfl (by first | exact rMoveB rfl rfl | exact rMove rfl) ?_
    first | refine WL_val rfl rfl rfl (by first | exact rMoveStr rfl rfl | exact rMove rfl) ?_ | refine WL_skip rfl rfl rfl ?_
    first | refine WL_val rfl rfl rfl (by first | exact rStrEqT rfl rfl rfl (by first | assumption | decide) | exact rStrEqF rfl rfl rfl (by first | assumption | decide) | exact rStrEq rfl rfl rfl) ?_ | refine WL_skip rfl rfl rfl ?_
    refine WL_val rfl rfl rfl (by first | exact rPickTB rfl rfl rfl | exact rPickFB rfl rfl rfl | exact rPickB rfl rfl rfl rfl) ?_
    refine WL_val rfl rfl rfl (by first | exact rAsgnB rfl rfl | exact rAsgn rfl) ?_
    refine WL_nil ?_
    refine W_ret ?_
    exact ret1 2 (.inr rfl) rfl ⟨rfl, hI.pu⟩
  | some t =>
    obtain ⟨h120, hall, rfl⟩ : l.length ≤ 120 ∧ l.all evOkB = true ∧ textE l = t := by
      unfold evT at hev
      split at hev
      · rename_i h1
        injection hev with hev
        exact ⟨h1.1, h1.2, hev⟩
      · cases hev
    refine W_seq ?_
    refine W_region ?_
    refine WL_val rfl rfl rfl (by first | exact rMoveS rfl rfl | exact rMove rfl) ?_
    refine WL_call rfl rfl rfl (rCall (vs := [.slice _ _ _]) rfl Tryz.func4 rfl rfl rfl) ?_
    refine (text_any A _ c l _ _ (h.pure hI.pu) (hG.pure hI.pu)).mono ?_
    rw [hev]
    rintro e w1 ⟨hp1, rfl⟩
    refine ⟨_, rfl, ?_⟩
    replace hI := hI.pure hp1
    refine WL_val rfl rfl rfl (by first | exact rMoveT rfl rfl | exact rMove rfl) ?_
    refine WL_val rfl rfl rfl (rExtr rfl rfl rfl) ?_
    refine WL_val rfl rfl rfl (rExtr rfl rfl rfl) ?_
    refine WL_val rfl rfl rfl (by first | exact rAsgnStr rfl rfl | exact rAsgn rfl) ?_
    refine WL_val rfl rfl rfl (by first | exact rAsgnN rfl rfl | exact rAsgnE rfl rfl | exact rAsgn rfl) ?_
    refine WL_nil ?_
    refine W_seq ?_
    refine W_seq ?_
    refine W_region ?_
    refine WL_call rfl rfl rfl (rCall (vs := []) rfl Tryz.func5 rfl rfl rfl) ?_
    refine (seen_any _ (hG.pure hI.pu).err).mono ?_
    rintro e w1 ⟨rfl, hp1⟩
    refine ⟨_, rfl, ?_⟩
    replace hI := hI.pure hp1
    refine WL_val rfl rfl rfl (by first | exact rNotT rfl rfl | exact rNotF rfl rfl | exact rNot rfl rfl) ?_
    refine WL_val rfl rfl rfl (by first | exact rMoveB rfl rfl | exact rMove rfl) ?_
    first | refine WL_val rfl rfl rfl (by first | exact rMoveN rfl rfl | exact rMoveE rfl rfl | exact rMove rfl) ?_ | refine WL_skip rfl rfl rfl ?_
    first | refine WL_val rfl rfl rfl (by first | exact rIfaceNe rfl Tryz.underlying24 rfl rfl | exact rNilNe rfl Tryz.underlying24 rfl) ?_ | refine WL_skip rfl rfl rfl ?_
    refine WL_val rfl rfl rfl (by first | exact rPickTB rfl rfl rfl | exact rPickFB rfl rfl rfl | exact rPickB rfl rfl rfl rfl) ?_
    refine WL_nil ?_
    refine W_cond false rfl ?_
    refine W_skip ?_
    refine W_seq ?_
    refine W_region ?_
    refine WL_val rfl rfl rfl (by first | exact rMoveStr rfl rfl | exact rMove rfl) ?_
    refine WL_call rfl rfl rfl (rCall (vs := [.string _]) rfl Tryz.func6 rfl rfl rfl) ?_
    refine (parseL_any l h120 hall _ (hG.pure hI.pu) (hM.pure hI.pu)).mono ?_
    rintro e w1 ⟨A', c', rfl, hT⟩
    refine ⟨_, rfl, ?_⟩
    replace hI := hI.app1 hT
    refine WL_val rfl rfl rfl (by first | exact rMoveT rfl rfl | exact rMove rfl) ?_
    refine WL_val rfl rfl rfl (rExtr rfl rfl rfl) ?_
    refine WL_val rfl rfl rfl (rExtr rfl rfl rfl) ?_
    refine WL_val rfl rfl rfl (by first | exact rAsgnS rfl rfl | exact rAsgn rfl) ?_
    refine WL_val rfl rfl rfl (by first | exact rAsgnN rfl rfl | exact rAsgnE rfl rfl | exact rAsgn rfl) ?_
    refine WL_nil ?_
    refine W_seq ?_
    refine W_seq ?_
    refine W_region ?_
    refine WL_val rfl rfl rfl (by first | exact rMoveN rfl rfl | exact rMoveE rfl rfl | exact rMove rfl) ?_
    refine WL_val rfl rfl rfl (by first | exact rIfaceNe rfl Tryz.underlying24 rfl rfl | exact rNilNe rfl Tryz.underlying24 rfl) ?_
    refine WL_val rfl rfl rfl (by first | exact rMoveB rfl rfl | exact rMove rfl) ?_
    first | refine WL_val rfl rfl rfl (by first | exact rMoveS rfl rfl | exact rMove rfl) ?_ | refine WL_skip rfl rfl rfl ?_
    first | refine WL_val rfl rfl rfl (rLen rfl Tryz.underlying22 rfl) ?_ | refine WL_skip rfl rfl rfl ?_
    first | refine WL_val rfl rfl rfl (by first | exact rMoveS rfl rfl | exact rMove rfl) ?_ | refine WL_skip rfl rfl rfl ?_
    first | refine WL_val rfl rfl rfl (rLen rfl Tryz.underlying22 rfl) ?_ | refine WL_skip rfl rfl rfl ?_
    first | refine WL_val rfl rfl rfl (by first | exact rNeqT rfl rfl rfl (by omega) | exact rNeqF rfl rfl rfl (by omega) | exact rNeq rfl rfl rfl) ?_ | refine WL_skip rfl rfl rfl ?_
    refine WL_val rfl rfl rfl (by first | exact rPickTB rfl rfl rfl | exact rPickFB rfl rfl rfl | exact rPickB rfl rfl rfl rfl) ?_
    refine WL_nil ?_
    refine W_cond false rfl ?_
    refine W_skip ?_
    refine W_seq_cut (fun ρ w => Has ρ [(5, .slice A' l.length c'), (3, strV (textE l))] ∧ Inv (fun _ => False) w0 w [Row 0 31 7 A' l.length c' (l.flatMap evL)]) ?_ ?_
    · refine W_seq ?_
      refine W_region ?_
      refine WL_val rfl rfl rfl (by first | exact rAsgnI rfl rfl | exact rAsgn rfl) ?_
      refine WL_nil ?_
      refine W_block ?_
      refine W_loopN (fun mu ρ w => ∃ k : Nat, mu = l.length - k ∧ k ≤ l.length ∧ Has ρ [(6, .int .i64 (k : Int)), (0, .slice A l.length c), (5, .slice A' l.length c'), (3, strV (textE l))] ∧ Inv (fun _ => False) w0 w [Row 0 31 7 A' l.length c' (l.flatMap evL)]) l.length
        ⟨0, rfl, by omega, ⟨rfl, rfl, rfl, rfl, trivial⟩, hI⟩ ?_
      clear hI
      rintro mu ρ w ⟨k, rfl, hk, hH, hI⟩
      obtain ⟨σ, rfl⟩ := hH.open
      by_cases hkl : k < l.length
      rotate_left
      · refine W_seq ?_
        refine W_seq ?_
        refine W_region ?_
        refine WL_val rfl rfl rfl (by first | exact rMoveI rfl rfl | exact rMove rfl) ?_
        refine WL_val rfl rfl rfl (by first | exact rMoveS rfl rfl | exact rMove rfl) ?_
        refine WL_val rfl rfl rfl (rLen rfl Tryz.underlying22 rfl) ?_
        refine WL_val rfl rfl rfl (by first | exact rLssT rfl rfl rfl (by omega) | exact rLssF rfl rfl rfl (by omega) | exact rLss rfl rfl rfl) ?_
        refine WL_nil ?_
        refine W_cond false rfl ?_
        refine W_exit ?_
        exact ⟨⟨rfl, rfl, trivial⟩, hI⟩
      have hm : EvsR w (fun _ => True) (.slice A' l.length c') l := Rd.of_own hI.g0 (fun _ _ _ => trivial)
      obtain ⟨bA, oA, hA1, hoc⟩ := h.at hkl
      obtain ⟨bB, oB, hA2, -⟩ := hm.at hkl
      subst hA1 hA2
      refine W_seq ?_
      refine W_seq ?_
      refine W_region ?_
      refine WL_val rfl rfl rfl (by first | exact rMoveI rfl rfl | exact rMove rfl) ?_
      refine WL_val rfl rfl rfl (by first | exact rMoveS rfl rfl | exact rMove rfl) ?_
      refine WL_val rfl rfl rfl (rLen rfl Tryz.underlying22 rfl) ?_
      refine WL_val rfl rfl rfl (by first | exact rLssT rfl rfl rfl (by omega) | exact rLssF rfl rfl rfl (by omega) | exact rLss rfl rfl rfl) ?_
      refine WL_nil ?_
      refine W_cond true rfl ?_
      refine W_skip ?_
      refine W_seq ?_
      refine W_block ?_
      refine W_seq ?_
      refine W_draw (by kernel_rfl) ?_
      refine WA_inv (T := []) hI.drew ?_
      intro Sx hSx hXS
      replace hI := hI.drew
      refine WT_take 0 rfl rfl (by kernel_rfl) (hXS _ hI) rfl (fun W hW => have hI := hSx W hW; (by first | exact rMoveS rfl rfl | exact rMove rfl)) ?_
      refine WT_take 1 rfl rfl (by kernel_rfl) (hXS _ hI) rfl (fun W hW => have hI := hSx W hW; (by first | exact rMoveI rfl rfl | exact rMove rfl)) ?_
      refine WT_take 2 rfl rfl (by kernel_rfl) (hXS _ hI) rfl (fun W hW => have hI := hSx W hW; (rIdx (sz := 7) rfl Tryz.underlying22 (by kernel_rfl) rfl rfl (by omega))) ?_
      refine WT_take 3 rfl rfl (by kernel_rfl) (hXS _ hI) rfl (fun W hW => have hI := hSx W hW; (by first | exact rLdA (n := 7) rfl (by kernel_rfl) (by kernel_rfl) rfl (by rfl) (fun k u hk => hI.oldp (hoc k u hk)) | exact rLdA (n := 7) rfl (by kernel_rfl) (by kernel_rfl) rfl (by rfl) hoc | exact rLdA (n := 7) rfl (by kernel_rfl) (by kernel_rfl) rfl (by rfl) (fun k u hk => hI.oldp ((evs_agg hI.g0 hkl) k u hk)) | exact rLdA (n := 7) rfl (by kernel_rfl) (by kernel_rfl) rfl (by rfl) (evs_agg hI.g0 hkl))) ?_
      refine WT_take 4 rfl rfl (by kernel_rfl) (hXS _ hI) rfl (fun W hW => have hI := hSx W hW; (by first | exact rMoveS rfl rfl | exact rMove rfl)) ?_
      refine WT_take 5 rfl rfl (by kernel_rfl) (hXS _ hI) rfl (fun W hW => have hI := hSx W hW; (by first | exact rMoveI rfl rfl | exact rMove rfl)) ?_
      refine WT_take 6 rfl rfl (by kernel_rfl) (hXS _ hI) rfl (fun W hW => have hI := hSx W hW; (rIdx (sz := 7) rfl Tryz.underlying22 (by kernel_rfl) rfl rfl (by omega))) ?_
      refine WT_take 7 rfl rfl (by kernel_rfl) (hXS _ hI) rfl (fun W hW => have hI := hSx W hW; (by first | exact rLdA (n := 7) rfl (by kernel_rfl) (by kernel_rfl) rfl (by rfl) (fun k u hk => hI.oldp (hoc k u hk)) | exact rLdA (n := 7) rfl (by kernel_rfl) (by kernel_rfl) rfl (by rfl) hoc | exact rLdA (n := 7) rfl (by kernel_rfl) (by kernel_rfl) rfl (by rfl) (fun k u hk => hI.oldp ((evs_agg hI.g0 hkl) k u hk)) | exact rLdA (n := 7) rfl (by kernel_rfl) (by kernel_rfl) rfl (by rfl) (evs_agg hI.g0 hkl))) ?_
      refine WT_take 8 rfl rfl (by kernel_rfl) (hXS _ hI) rfl (fun W hW => have hI := hSx W hW; (rNeqSelf (n := 7) (la := evI (evAt l k)) rfl (by kernel_rfl) rfl rfl rfl)) ?_
      refine WT_end (by kernel_rfl) ?_
      refine W_cond false rfl ?_
      refine W_skip ?_
      refine W_region ?_
      refine WL_val rfl rfl rfl (by first | exact rMoveI rfl rfl | exact rMove rfl) ?_
      refine WL_val rfl rfl rfl (by first | exact rInc rfl rfl rfl (by omega) | exact rAdd rfl rfl rfl (by omega) | exact rAddW rfl rfl rfl) ?_
      refine WL_val rfl rfl rfl (by first | exact rAsgnI rfl rfl | exact rAsgn rfl) ?_
      refine WL_nil ?_
      exact ⟨l.length - (k + 1), by omega, k + 1, rfl, by omega, ⟨rfl, rfl, rfl, rfl, trivial⟩, hI⟩
    clear hI
    rintro ρ w ⟨hH, hI⟩
    obtain ⟨σ, rfl⟩ := hH.open
    refine W_seq ?_
    refine W_region ?_
    refine WL_val rfl rfl rfl (by first | exact rMoveS rfl rfl | exact rMove rfl) ?_
    refine WL_call rfl rfl rfl (rCall (vs := [.slice _ _ _]) rfl Tryz.func4 rfl rfl rfl) ?_
    refine (text_any A' _ c' l _ _ (Rd.of_own (D := fun _ => True) hI.g0 (fun _ _ _ => trivial)) (hG.pure hI.pu)).mono ?_
    rw [hev]
    rintro e w1 ⟨hp1, rfl⟩
    refine ⟨_, rfl, ?_⟩
    replace hI := hI.pure hp1
    refine WL_val rfl rfl rfl (by first | exact rMoveT rfl rfl | exact rMove rfl) ?_
    refine WL_val rfl rfl rfl (rExtr rfl rfl rfl) ?_
    refine WL_val rfl rfl rfl (rExtr rfl rfl rfl) ?_
    refine WL_val rfl rfl rfl (by first | exact rAsgnStr rfl rfl | exact rAsgn rfl) ?_
    refine WL_val rfl rfl rfl (by first | exact rAsgnN rfl rfl | exact rAsgnE rfl rfl | exact rAsgn rfl) ?_
    refine WL_nil ?_
    refine W_seq ?_
    refine W_region ?_
    refine WL_val rfl rfl rfl (by first | exact rMoveN rfl rfl | exact rMoveE rfl rfl | exact rMove rfl) ?_
    refine WL_val rfl rfl rfl (by first | exact rIfaceEq rfl Tryz.underlying24 rfl rfl | exact rNilEq rfl Tryz.underlying24 rfl) ?_
    refine WL_val rfl rfl rfl (by first | exact rMoveB rfl rfl | exact rMove rfl) ?_
    first | refine WL_val rfl rfl rfl (by first | exact rMoveStr rfl rfl | exact rMove rfl) ?_ | refine WL_skip rfl rfl rfl ?_
    first | refine WL_val rfl rfl rfl (by first | exact rMoveStr rfl rfl | exact rMove rfl) ?_ | refine WL_skip rfl rfl rfl ?_
    first | refine WL_val rfl rfl rfl (rStrEqT rfl rfl rfl rfl) ?_ | refine WL_skip rfl rfl rfl ?_
    refine WL_val rfl rfl rfl (by first | exact rPickTB rfl rfl rfl | exact rPickFB rfl rfl rfl | exact rPickB rfl rfl rfl rfl) ?_
    refine WL_val rfl rfl rfl (by first | exact rAsgnB rfl rfl | exact rAsgn rfl) ?_
    refine WL_nil ?_
    refine W_ret ?_
    exact ret1 2 (.inr rfl) rfl ⟨rfl, hI.pu⟩
end Go.Proofs.YtgppljdfhhgkiaaGreatDoor
