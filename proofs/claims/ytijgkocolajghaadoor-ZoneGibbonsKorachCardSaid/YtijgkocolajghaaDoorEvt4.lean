/- event: CheckOps. -/
import Derived.Test.YtijgkocolajghaaDoorEvt3
namespace Go.Proofs.YtijgkocolajghaaDoor
open Go.RowKit
set_option linter.unusedVariables false
set_option linter.unusedSimpArgs false
theorem checkOp_any (o : Op8) (A : Option Addr) (n c : Nat) (ah : List Op8) (D : Nat → Prop) (w0 : World) (h : OpsR w0 D (.slice A n c) ah) (hn40 : n ≤ 1000) : Calls Tryd.prog 33 #[.agg (opV o).toArray, .slice A n c] w0 (OpPost o ah w0) := by
  obtain ⟨o0, o1, o2, o3, o4, o5, o6, o7⟩ := o
  exact checkOp_one o0 o1 o2 o3 o4 o5 o6 o7 A n c ah D w0 h hn40
theorem OpsR.take {w : World} {D : Nat → Prop} {A : Option Addr} {n c : Nat} {l : List Op8} (h : OpsR w D (.slice A n c) l) (k : Nat) (hk : k ≤ l.length) : OpsR w D (.slice A k c) (l.take k) := by
  obtain ⟨hn, hc1, hc2⟩ := h.len
  have hlk : (l.take k).length = k := by simp; omega
  unfold OpsR
  rw [hlk]
  refine ⟨A, c, rfl, by omega, hc2, ?_, fun h0 => ?_⟩
  · have : ∀ l : List Op8, (l.flatMap opV).length = l.length * 8 := by
      intro l
      induction l with
      | nil => rfl
      | cons s l ih => rw [List.flatMap_cons, List.length_append, ih]; simp [opV]; omega
    rw [this, hlk]
  · obtain ⟨A1, c1, hv, _, _, _, hcell⟩ := h
    injection hv with e1 e2 e3
    subst e1 e3
    obtain ⟨b, o, hbo, hD, hcl⟩ := hcell (by omega)
    refine ⟨b, o, hbo, hD, fun j u hj => hcl j u ?_⟩
    have e : l.flatMap opV = (l.take k).flatMap opV ++ (l.drop k).flatMap opV := by rw [← List.flatMap_append, List.take_append_drop]
    rw [e, List.getElem?_append_left (List.getElem?_eq_some_iff.1 hj).1]
    exact hj
def OkOps (l : List Op8) : Prop := l.length ≤ 40 ∧ ∀ k, k < l.length → OkOp (oAt l k) (l.take k)
def OpsPost8 (l : List Op8) (w0 : World) (en : Ending) (w' : World) : Prop := Pure w0 w' ∧ ((OkOps l ∧ en = .returned .nilIface) ∨ (¬ OkOps l ∧ ∃ x, IsErr8 x ∧ en = .returned x))
def OpsPost (l : List Op8) (w0 : World) (en : Ending) (w' : World) : Prop := Pure w0 w' ∧ ((OkOps l ∧ en = .returned .nilIface) ∨ (¬ OkOps l ∧ ∃ x, IsErr x ∧ en = .returned x))
set_option maxHeartbeats 2000000 in
theorem checkOps8_any (A : Option Addr) (n c : Nat) (l : List Op8) (D : Nat → Prop) (w0 : World) (h : OpsR w0 D (.slice A n c) l) : Calls Tryd.prog 22 #[.slice A n c] w0 (OpsPost8 l w0) := by
  obtain ⟨hn, hc1, hc2⟩ := h.len
  subst hn
  have hI := Inv.start (fun _ => False) w0
  refine calls_of_W (N := Tryd.f22.ntmps) Tryd.func22 rfl rfl rfl ?_
  refine W_seq ?_
  refine W_region ?_
  refine WL_val rfl rfl rfl (by first | exact rAsgnN rfl rfl | exact rAsgnE rfl rfl | exact rAsgn rfl) ?_
  refine WL_nil ?_
  by_cases h40 : l.length ≤ 40
  rotate_left
  · refine W_seq ?_
    refine W_seq ?_
    refine W_region ?_
    refine WL_val rfl rfl rfl (by first | exact rMoveS rfl rfl | exact rMove rfl) ?_
    refine WL_val rfl rfl rfl (rLen rfl Tryd.underlying22 rfl) ?_
    refine WL_val rfl rfl rfl (by first | exact rGtrT rfl rfl rfl (by omega) | exact rGtrF rfl rfl rfl (by omega) | exact rGtr rfl rfl rfl) ?_
    refine WL_nil ?_
    refine W_cond true rfl ?_
    refine W_seq ?_
    refine W_region ?_
    refine WL_val rfl rfl rfl (rIface rfl Tryd.underlying36 rfl rfl) ?_
    refine WL_val rfl rfl rfl (by first | exact rAsgnN rfl rfl | exact rAsgnE rfl rfl | exact rAsgn rfl) ?_
    refine WL_nil ?_
    refine W_ret ?_
    exact ret1 2 (.inr rfl) rfl ⟨hI.pu, .inr ⟨fun hh => h40 hh.1, _, ⟨_, rfl, by decide⟩, rfl⟩⟩
  refine W_seq ?_
  refine W_seq ?_
  refine W_region ?_
  refine WL_val rfl rfl rfl (by first | exact rMoveS rfl rfl | exact rMove rfl) ?_
  refine WL_val rfl rfl rfl (rLen rfl Tryd.underlying22 rfl) ?_
  refine WL_val rfl rfl rfl (by first | exact rGtrT rfl rfl rfl (by omega) | exact rGtrF rfl rfl rfl (by omega) | exact rGtr rfl rfl rfl) ?_
  refine WL_nil ?_
  refine W_cond false rfl ?_
  refine W_skip ?_
  refine W_seq ?_
  refine W_seq ?_
  refine W_region ?_
  refine WL_val rfl rfl rfl (by first | exact rMoveS rfl rfl | exact rMove rfl) ?_
  refine WL_val rfl rfl rfl (rLen rfl Tryd.underlying22 rfl) ?_
  refine WL_val rfl rfl rfl (by first | exact rMoveI rfl rfl | exact rMove rfl) ?_
  refine WL_nil ?_
  refine W_block ?_
  refine W_loopN (fun mu ρ w => ∃ k : Nat, mu = l.length - k ∧ k ≤ l.length ∧ (∀ j, j < k → OkOp (oAt l j) (l.take j)) ∧ Has ρ [(12, .int .i64 (k : Int)), (11, .int .i64 (l.length : Int)), (10, .slice A l.length c), (0, .slice A l.length c)] ∧ Inv (fun _ => False) w0 w []) l.length
    ⟨0, rfl, by omega, fun j hj => by omega, ⟨rfl, rfl, rfl, rfl, trivial⟩, hI⟩ ?_
  clear hI
  rintro mu ρ w ⟨k, rfl, hk, hall, hH, hI⟩
  obtain ⟨σ, rfl⟩ := hH.open
  by_cases hkl : k < l.length
  rotate_left
  · obtain rfl : k = l.length := by omega
    refine W_seq ?_
    refine W_region ?_
    refine WL_val rfl rfl rfl (by first | exact rLssT rfl rfl rfl (by omega) | exact rLssF rfl rfl rfl (by omega) | exact rLss rfl rfl rfl) ?_
    refine WL_nil ?_
    refine W_seq ?_
    refine W_cond false rfl ?_
    refine W_exit ?_
    refine W_seq ?_
    refine W_region ?_
    refine WL_val rfl rfl rfl (by first | exact rAsgnN rfl rfl | exact rAsgnE rfl rfl | exact rAsgn rfl) ?_
    refine WL_nil ?_
    refine W_ret ?_
    exact ret1 2 (.inr rfl) rfl ⟨hI.pu, .inl ⟨⟨h40, hall⟩, rfl⟩⟩
  obtain ⟨ab, ao, rfl, hoc⟩ := h.at hkl
  have htk := h.take k hk
  generalize hpk : oAt l k = pk at hoc
  obtain ⟨p0, p1, p2, p3, p4, p5, p6, p7⟩ := pk
  refine W_seq ?_
  refine W_region ?_
  refine WL_val rfl rfl rfl (by first | exact rLssT rfl rfl rfl (by omega) | exact rLssF rfl rfl rfl (by omega) | exact rLss rfl rfl rfl) ?_
  refine WL_nil ?_
  refine W_seq ?_
  refine W_cond true rfl ?_
  refine W_skip ?_
  refine W_seq ?_
  refine W_block ?_
  refine W_seq ?_
  refine W_region ?_
  refine WL_val rfl rfl rfl (by first | exact rMoveI rfl rfl | exact rMove rfl) ?_
  refine WL_val rfl rfl rfl (rIdx (sz := 8) rfl Tryd.underlying22 (by kernel_rfl) rfl rfl (by omega)) ?_
  refine WL_val rfl rfl rfl (by first | exact rLdB (n := 8) rfl (by kernel_rfl) (by kernel_rfl) rfl rfl hI.g0 | exact rLdA (n := 8) rfl (by kernel_rfl) (by kernel_rfl) rfl (by rfl) (fun k u hk => hI.oldp (hoc k u hk)) | exact rLdA (n := 8) rfl (by kernel_rfl) (by kernel_rfl) rfl (by rfl) hoc) ?_
  refine WL_alloc (u := .agg #[.int .i64 0, .int .i64 0, .int .i64 0, .int .i64 0, .int .i64 0, .int .i64 0, .int .i64 0, .int .i64 0]) (vs := #[.int .i64 0, .int .i64 0, .int .i64 0, .int .i64 0, .int .i64 0, .int .i64 0, .int .i64 0, .int .i64 0]) hI rfl rfl rfl rfl (by kernel_rfl) rfl ?_
  clear hI; rintro b4 w - - hI
  refine WL_val rfl rfl rfl (by first | exact rAsgnI rfl rfl | exact rAsgn rfl) ?_
  first | refine WL_stw0 (u := .agg _) (vs := #[_, _, _, _, _, _, _, _]) (n := 8) hI rfl rfl rfl rfl rfl rfl (by kernel_rfl) rfl rfl rfl ?_
  clear hI; intro w hI
  refine WL_nil ?_
  simp only [opV] at hI
  by_cases hop : OkOp ⟨p0, p1, p2, p3, p4, p5, p6, p7⟩ (l.take k)
  · refine W_seq ?_
    refine W_draw (by kernel_rfl) ?_
    refine WA_inv (T := []) hI.drew ?_
    intro Sx hSx hXS
    replace hI := hI.drew
    refine WT_take 0 rfl rfl (by kernel_rfl) (hXS _ hI) rfl (fun W hW => have hI := hSx W hW; (by first | exact rLdB (n := 8) rfl (by kernel_rfl) (by kernel_rfl) rfl rfl hI.g0)) ?_
    refine WT_take 1 rfl rfl (by kernel_rfl) (hXS _ hI) rfl (fun W hW => have hI := hSx W hW; (by first | exact rMoveS rfl rfl | exact rMove rfl)) ?_
    refine WT_take 2 rfl rfl (by kernel_rfl) (hXS _ hI) rfl (fun W hW => have hI := hSx W hW; (by first | exact rMoveI rfl rfl | exact rMove rfl)) ?_
    refine WT_take 3 rfl rfl (by kernel_rfl) (hXS _ hI) rfl (fun W hW => have hI := hSx W hW; (rSliceTo (sz := 8) (i := k) rfl Tryd.underlying22 (by kernel_rfl) rfl rfl (by omega))) ?_
    refine WT_one 4 rfl (by kernel_rfl) rfl ?_
    refine WL_call rfl rfl rfl (rCall (vs := [.agg _, .slice _ _ _]) rfl Tryd.func33 rfl rfl rfl) ?_
    refine (checkOp_one p0 p1 p2 p3 p4 p5 p6 p7 _ k c (l.take k) D _ (htk.pure hI.pu) (by omega)).mono ?_
    rintro e w1 ⟨hp, ⟨_, rfl⟩ | ⟨hbad, _⟩⟩
    rotate_left
    · exact absurd hop hbad
    refine ⟨_, rfl, ?_⟩
    replace hI := hI.pure hp
    refine WL_nil ⟨hXS _ hI, ?_⟩
    refine WT_take 5 rfl rfl (by kernel_rfl) (hXS _ hI) rfl (fun W hW => have hI := hSx W hW; (by first | exact rAsgnN rfl rfl | exact rAsgnE rfl rfl | exact rAsgn rfl)) ?_
    refine WT_end (by kernel_rfl) ?_
    refine W_seq ?_
    refine W_region ?_
    refine WL_val rfl rfl rfl (by first | exact rMoveN rfl rfl | exact rMoveE rfl rfl | exact rMove rfl) ?_
    refine WL_val rfl rfl rfl (by first | exact rIfaceNe rfl Tryd.underlying24 rfl rfl | exact rNilNe rfl Tryd.underlying24 rfl) ?_
    refine WL_nil ?_
    refine W_cond false rfl ?_
    refine W_skip ?_
    replace hI := hI.d0
    refine W_region ?_
    refine WL_val rfl rfl rfl (by first | exact rInc rfl rfl rfl (by omega) | exact rAdd rfl rfl rfl (by omega) | exact rAddW rfl rfl rfl) ?_
    refine WL_val rfl rfl rfl (by first | exact rMoveI rfl rfl | exact rMove rfl) ?_
    refine WL_nil ?_
    refine ⟨l.length - (k + 1), by omega, k + 1, rfl, by omega, fun j hj => ?_, ⟨rfl, rfl, rfl, rfl, trivial⟩, hI⟩
    rcases Nat.lt_or_ge j k with h1 | h1
    · exact hall j h1
    · obtain rfl : j = k := by omega
      rw [hpk]; exact hop
  · refine W_seq ?_
    refine W_draw (by kernel_rfl) ?_
    refine WA_inv (T := []) hI.drew ?_
    intro Sx hSx hXS
    replace hI := hI.drew
    refine WT_take 0 rfl rfl (by kernel_rfl) (hXS _ hI) rfl (fun W hW => have hI := hSx W hW; (by first | exact rLdB (n := 8) rfl (by kernel_rfl) (by kernel_rfl) rfl rfl hI.g0)) ?_
    refine WT_take 1 rfl rfl (by kernel_rfl) (hXS _ hI) rfl (fun W hW => have hI := hSx W hW; (by first | exact rMoveS rfl rfl | exact rMove rfl)) ?_
    refine WT_take 2 rfl rfl (by kernel_rfl) (hXS _ hI) rfl (fun W hW => have hI := hSx W hW; (by first | exact rMoveI rfl rfl | exact rMove rfl)) ?_
    refine WT_take 3 rfl rfl (by kernel_rfl) (hXS _ hI) rfl (fun W hW => have hI := hSx W hW; (rSliceTo (sz := 8) (i := k) rfl Tryd.underlying22 (by kernel_rfl) rfl rfl (by omega))) ?_
    refine WT_one 4 rfl (by kernel_rfl) rfl ?_
    refine WL_call rfl rfl rfl (rCall (vs := [.agg _, .slice _ _ _]) rfl Tryd.func33 rfl rfl rfl) ?_
    refine (checkOp_one p0 p1 p2 p3 p4 p5 p6 p7 _ k c (l.take k) D _ (htk.pure hI.pu) (by omega)).mono ?_
    rintro e w1 ⟨hp, ⟨hgood, _⟩ | ⟨_, x, ⟨u, rfl, hu8⟩, rfl⟩⟩
    · exact absurd hgood hop
    refine ⟨_, rfl, ?_⟩
    replace hI := hI.pure hp
    refine WL_nil ⟨hXS _ hI, ?_⟩
    refine WT_take 5 rfl rfl (by kernel_rfl) (hXS _ hI) rfl (fun W hW => have hI := hSx W hW; (by first | exact rAsgnN rfl rfl | exact rAsgnE rfl rfl | exact rAsgn rfl)) ?_
    refine WT_end (by kernel_rfl) ?_
    refine W_seq ?_
    refine W_region ?_
    refine WL_val rfl rfl rfl (by first | exact rMoveN rfl rfl | exact rMoveE rfl rfl | exact rMove rfl) ?_
    refine WL_val rfl rfl rfl (by first | exact rIfaceNe rfl Tryd.underlying24 rfl rfl | exact rNilNe rfl Tryd.underlying24 rfl) ?_
    refine WL_nil ?_
    refine W_cond true rfl ?_
    refine W_seq ?_
    refine W_region ?_
    refine WL_val rfl rfl rfl (by first | exact rMoveN rfl rfl | exact rMoveE rfl rfl | exact rMove rfl) ?_
    refine WL_val rfl rfl rfl (by first | exact rAsgnN rfl rfl | exact rAsgnE rfl rfl | exact rAsgn rfl) ?_
    refine WL_nil ?_
    refine W_ret ?_
    exact ret1 2 (.inr rfl) rfl ⟨hI.pu, .inr ⟨fun hh => by have := hh.2 k hkl; rw [hpk] at this; exact hop this, _, ⟨_, rfl, hu8⟩, rfl⟩⟩
theorem checkOps_any (A : Option Addr) (n c : Nat) (l : List Op8) (D : Nat → Prop) (w0 : World) (h : OpsR w0 D (.slice A n c) l) : Calls Tryd.prog 22 #[.slice A n c] w0 (OpsPost l w0) :=
  (checkOps8_any A n c l D w0 h).mono fun e w' hh => ⟨hh.1, hh.2.imp id fun ⟨h1, x, h2, h3⟩ => ⟨h1, x, h2.any, h3⟩⟩
end Go.Proofs.YtijgkocolajghaaDoor
