/- LinearWider: the law's walk. -/
import Derived.Test.YtlmpolmalgpodaaDoorLinearWitness
import Derived.Test.YtlmpolmalgpodaaDoorSxB
namespace Go.Proofs.YtlmpolmalgpodaaDoor
open Go.RowKit
set_option linter.unusedVariables false
set_option linter.unusedSimpArgs false
abbrev OpsE (A : Option Addr) (c : Nat) (ops : List Op8) : Ent := Row 0 29 8 A ops.length c (ops.flatMap opV)
theorem OpsE_rd {S : Nat → Prop} {w0 w : World} {H : List Ent} {A : Option Addr} {c : Nat} {l : List Op8} (h : Inv S w0 w (OpsE A c l :: H)) : OpsR w (fun _ => True) (.slice A l.length c) l := Rd.of_own (D := fun _ => True) h.g0 (fun _ _ _ => trivial)
theorem OpsE_cell {S : Nat → Prop} {w0 w : World} {H : List Ent} {b o c : Nat} {l : List Op8} (h : Inv S w0 w (OpsE (some ⟨b, o, none⟩) c l :: H)) {k j : Nat} {v : Value} (hk : k < l.length) (hj : (opV (oAt l k))[j]? = some v) : w.cell? ⟨b, o + k * 8 + j, none⟩ = some v := by
  have hg : l[k]? = some (oAt l k) := by unfold oAt; rw [List.getD_eq_getElem?_getD, List.getElem?_eq_getElem hk]; rfl
  have hj8 : j < 8 := by have := (List.getElem?_eq_some_iff.1 hj).1; simpa [opV] using this
  rw [Nat.add_assoc]
  exact row_cellS h.g0 ((flatN (f := opV) (fun a => rfl) l k _ hg j hj8).trans hj) (by omega)
theorem oAt_get {l : List Op8} {k : Nat} (hk : k < l.length) : l[k]? = some (oAt l k) := by unfold oAt; rw [List.getD_eq_getElem?_getD, List.getElem?_eq_getElem hk]; rfl
theorem oAt_set {l : List Op8} {k i : Nat} {x : Op8} (hk : k < l.length) : oAt (l.set k x) i = if k = i then x else oAt l i := by
  unfold oAt
  rw [List.getD_eq_getElem?_getD, List.getD_eq_getElem?_getD, List.getElem?_set]
  by_cases h : k = i
  · subst h; simp [hk]
  · rw [if_neg h, if_neg h]
def wid1 (o : Op8) : Op8 := { o with call := 3 * o.call, ret := if 0 ≤ o.ret then 3 * o.ret else o.ret }
theorem OpsE_set {S : Nat → Prop} {w0 w : World} {H : List Ent} {b c i j n : Nat} {lw : List Op8} {v : Value} {x : Op8} (hI : Inv S w0 w (Row 0 29 8 (some ⟨b, 0, none⟩) n c ((lw.flatMap opV).set (0 + i * 8 + j) v) :: H)) (hn : n = lw.length) (hi : i < lw.length) (hx : opV x = (opV (oAt lw i)).set j v) (hj : j < 8) : Inv S w0 w (OpsE (some ⟨b, 0, none⟩) c (lw.set i x) :: H) := by
  unfold OpsE
  subst hn
  rw [List.length_set, flat_setG (f := opV) (fun _ => rfl) hj hx (oAt_get hi), show i * 8 + j = 0 + i * 8 + j by omega]
  exact hI
/-- All is wider. -/
def Wid (l lw : List Op8) (i : Nat) : Prop := lw.length = l.length ∧ ∀ j, j < l.length → oAt lw j = if j < i then wid1 (oAt l j) else oAt l j
theorem wider_of {l lw : List Op8} (h : Wid l lw l.length) : Wider l lw := by
  obtain ⟨h1, h2⟩ := h
  refine ⟨h1, fun i hi => ?_, fun i hi => ?_, fun i hi => ?_, fun i hi h0 => ?_⟩
  all_goals rw [h2 i hi, if_pos hi]
  · exact ⟨rfl, rfl, rfl, rfl, rfl⟩
  · unfold wid1; simp only; split <;> omega
  · rfl
  · unfold wid1; simp only; rw [if_pos h0]; omega
theorem wider_more {l lw : List Op8} (h : Wider l lw) {k : Nat} (hk : k < l.length) {z : Int} (hz : (oAt lw k).ret ≤ z) (h0 : 0 ≤ (oAt lw k).ret) : Wider l (lw.set k { oAt lw k with ret := z }) := by
  have hl := h.len
  refine ⟨by simp [hl], fun i hi => ?_, fun i hi => ?_, fun i hi => ?_, fun i hi h1 => ?_⟩
  all_goals rw [oAt_set (by omega)]
  all_goals by_cases hki : k = i
  all_goals first | subst hki; rw [if_pos rfl] | rw [if_neg hki]
  · exact h.same k hi
  · exact h.same i hi
  · have := h.sign k hi; simp only; omega
  · exact h.sign i hi
  · exact h.call k hi
  · exact h.call i hi
  · have := h.ret k hi h1; simp only; omega
  · exact h.ret i hi h1
set_option maxHeartbeats 4000000 in
theorem linearWider_any (o : Int) (A : Option Addr) (n c : Nat) (l : List Op8) (A2 : Option Addr) (c2 : Nat) (order : List Int) (wz bz : Int) (D D2 : Nat → Prop) (w0 : World) (h : OpsR w0 D (.slice A n c) l) (hr : Rd w0 D2 1 (.slice A2 order.length c2) order.length (i64s order)) (hk : KnOk w0) :
    Calls Tryd.prog 9 #[.int .i64 o, .slice A n c, .slice A2 order.length c2, .int .i64 wz, .int .i64 bz] w0 fun en w' => en = .returned (.bool true) ∧ Pure w0 w' := by
  obtain ⟨hn, hc1, hc2⟩ := h.len
  subst hn
  have hI := Inv.start (fun _ => False) w0
  refine calls_of_W (N := Tryd.f9.ntmps) Tryd.func9 rfl rfl rfl ?_
  refine W_seq ?_
  refine W_region ?_
  refine WL_val rfl rfl rfl (by first | exact rAsgnB rfl rfl | exact rAsgn rfl) ?_
  refine WL_nil ?_
  by_cases h20 : l.length ≤ 20
  rotate_left
  · refine W_seq ?_
    refine W_seq ?_
    refine W_region ?_
    refine WL_val rfl rfl rfl (by first | exact rMoveS rfl rfl | exact rMove rfl) ?_
    refine WL_val rfl rfl rfl (rLen rfl Tryd.underlying24 rfl) ?_
    refine WL_val rfl rfl rfl (by first | exact rGtrT rfl rfl rfl (by omega) | exact rGtrF rfl rfl rfl (by omega) | exact rGtr rfl rfl rfl) ?_
    refine WL_val rfl rfl rfl (by first | exact rMoveB rfl rfl | exact rMove rfl) ?_
    refine WL_skip rfl rfl rfl ?_
    refine WL_skip rfl rfl rfl ?_
    refine WL_skip rfl rfl rfl ?_
    refine WL_val rfl rfl rfl (by first | exact rPickTB rfl rfl rfl | exact rPickFB rfl rfl rfl | exact rPickB rfl rfl rfl rfl) ?_
    refine WL_val rfl rfl rfl (by first | exact rMoveB rfl rfl | exact rMove rfl) ?_
    refine WL_skip rfl rfl rfl ?_
    refine WL_skip rfl rfl rfl ?_
    refine WL_skip rfl rfl rfl ?_
    refine WL_val rfl rfl rfl (by first | exact rPickTB rfl rfl rfl | exact rPickFB rfl rfl rfl | exact rPickB rfl rfl rfl rfl) ?_
    refine WL_nil ?_
    refine W_cond true rfl ?_
    refine W_seq ?_
    refine W_region ?_
    refine WL_val rfl rfl rfl (by first | exact rAsgnB rfl rfl | exact rAsgn rfl) ?_
    refine WL_nil ?_
    refine W_ret ?_
    exact ret1 10 (.inr rfl) rfl ⟨rfl, hI.pu⟩
  by_cases h0 : l.length = 0
  · refine W_seq ?_
    refine W_seq ?_
    refine W_region ?_
    refine WL_val rfl rfl rfl (by first | exact rMoveS rfl rfl | exact rMove rfl) ?_
    refine WL_val rfl rfl rfl (rLen rfl Tryd.underlying24 rfl) ?_
    refine WL_val rfl rfl rfl (by first | exact rGtrT rfl rfl rfl (by omega) | exact rGtrF rfl rfl rfl (by omega) | exact rGtr rfl rfl rfl) ?_
    refine WL_val rfl rfl rfl (by first | exact rMoveB rfl rfl | exact rMove rfl) ?_
    first | refine WL_val rfl rfl rfl (by first | exact rMoveS rfl rfl | exact rMove rfl) ?_ | refine WL_skip rfl rfl rfl ?_
    first | refine WL_val rfl rfl rfl (rLen rfl Tryd.underlying24 rfl) ?_ | refine WL_skip rfl rfl rfl ?_
    first | refine WL_val rfl rfl rfl (by first | exact rEqlT rfl rfl rfl (by omega) | exact rEqlF rfl rfl rfl (by omega) | exact rEql rfl rfl rfl) ?_ | refine WL_skip rfl rfl rfl ?_
    refine WL_val rfl rfl rfl (by first | exact rPickTB rfl rfl rfl | exact rPickFB rfl rfl rfl | exact rPickB rfl rfl rfl rfl) ?_
    refine WL_val rfl rfl rfl (by first | exact rMoveB rfl rfl | exact rMove rfl) ?_
    refine WL_skip rfl rfl rfl ?_
    refine WL_skip rfl rfl rfl ?_
    refine WL_skip rfl rfl rfl ?_
    refine WL_val rfl rfl rfl (by first | exact rPickTB rfl rfl rfl | exact rPickFB rfl rfl rfl | exact rPickB rfl rfl rfl rfl) ?_
    refine WL_nil ?_
    refine W_cond true rfl ?_
    refine W_seq ?_
    refine W_region ?_
    refine WL_val rfl rfl rfl (by first | exact rAsgnB rfl rfl | exact rAsgn rfl) ?_
    refine WL_nil ?_
    refine W_ret ?_
    exact ret1 10 (.inr rfl) rfl ⟨rfl, hI.pu⟩
  by_cases h30 : order.length ≤ 30
  rotate_left
  · refine W_seq ?_
    refine W_seq ?_
    refine W_region ?_
    refine WL_val rfl rfl rfl (by first | exact rMoveS rfl rfl | exact rMove rfl) ?_
    refine WL_val rfl rfl rfl (rLen rfl Tryd.underlying24 rfl) ?_
    refine WL_val rfl rfl rfl (by first | exact rGtrT rfl rfl rfl (by omega) | exact rGtrF rfl rfl rfl (by omega) | exact rGtr rfl rfl rfl) ?_
    refine WL_val rfl rfl rfl (by first | exact rMoveB rfl rfl | exact rMove rfl) ?_
    first | refine WL_val rfl rfl rfl (by first | exact rMoveS rfl rfl | exact rMove rfl) ?_ | refine WL_skip rfl rfl rfl ?_
    first | refine WL_val rfl rfl rfl (rLen rfl Tryd.underlying24 rfl) ?_ | refine WL_skip rfl rfl rfl ?_
    first | refine WL_val rfl rfl rfl (by first | exact rEqlT rfl rfl rfl (by omega) | exact rEqlF rfl rfl rfl (by omega) | exact rEql rfl rfl rfl) ?_ | refine WL_skip rfl rfl rfl ?_
    refine WL_val rfl rfl rfl (by first | exact rPickTB rfl rfl rfl | exact rPickFB rfl rfl rfl | exact rPickB rfl rfl rfl rfl) ?_
    refine WL_val rfl rfl rfl (by first | exact rMoveB rfl rfl | exact rMove rfl) ?_
    first | refine WL_val rfl rfl rfl (by first | exact rMoveS rfl rfl | exact rMove rfl) ?_ | refine WL_skip rfl rfl rfl ?_
    first | refine WL_val rfl rfl rfl (rLen rfl Tryd.underlying22 rfl) ?_ | refine WL_skip rfl rfl rfl ?_
    first | refine WL_val rfl rfl rfl (by first | exact rGtrT rfl rfl rfl (by omega) | exact rGtrF rfl rfl rfl (by omega) | exact rGtr rfl rfl rfl) ?_ | refine WL_skip rfl rfl rfl ?_
    refine WL_val rfl rfl rfl (by first | exact rPickTB rfl rfl rfl | exact rPickFB rfl rfl rfl | exact rPickB rfl rfl rfl rfl) ?_
    refine WL_nil ?_
    refine W_cond true rfl ?_
    refine W_seq ?_
    refine W_region ?_
    refine WL_val rfl rfl rfl (by first | exact rAsgnB rfl rfl | exact rAsgn rfl) ?_
    refine WL_nil ?_
    refine W_ret ?_
    exact ret1 10 (.inr rfl) rfl ⟨rfl, hI.pu⟩
  refine W_seq ?_
  refine W_seq ?_
  refine W_region ?_
  refine WL_val rfl rfl rfl (by first | exact rMoveS rfl rfl | exact rMove rfl) ?_
  refine WL_val rfl rfl rfl (rLen rfl Tryd.underlying24 rfl) ?_
  refine WL_val rfl rfl rfl (by first | exact rGtrT rfl rfl rfl (by omega) | exact rGtrF rfl rfl rfl (by omega) | exact rGtr rfl rfl rfl) ?_
  refine WL_val rfl rfl rfl (by first | exact rMoveB rfl rfl | exact rMove rfl) ?_
  first | refine WL_val rfl rfl rfl (by first | exact rMoveS rfl rfl | exact rMove rfl) ?_ | refine WL_skip rfl rfl rfl ?_
  first | refine WL_val rfl rfl rfl (rLen rfl Tryd.underlying24 rfl) ?_ | refine WL_skip rfl rfl rfl ?_
  first | refine WL_val rfl rfl rfl (by first | exact rEqlT rfl rfl rfl (by omega) | exact rEqlF rfl rfl rfl (by omega) | exact rEql rfl rfl rfl) ?_ | refine WL_skip rfl rfl rfl ?_
  refine WL_val rfl rfl rfl (by first | exact rPickTB rfl rfl rfl | exact rPickFB rfl rfl rfl | exact rPickB rfl rfl rfl rfl) ?_
  refine WL_val rfl rfl rfl (by first | exact rMoveB rfl rfl | exact rMove rfl) ?_
  first | refine WL_val rfl rfl rfl (by first | exact rMoveS rfl rfl | exact rMove rfl) ?_ | refine WL_skip rfl rfl rfl ?_
  first | refine WL_val rfl rfl rfl (rLen rfl Tryd.underlying22 rfl) ?_ | refine WL_skip rfl rfl rfl ?_
  first | refine WL_val rfl rfl rfl (by first | exact rGtrT rfl rfl rfl (by omega) | exact rGtrF rfl rfl rfl (by omega) | exact rGtr rfl rfl rfl) ?_ | refine WL_skip rfl rfl rfl ?_
  refine WL_val rfl rfl rfl (by first | exact rPickTB rfl rfl rfl | exact rPickFB rfl rfl rfl | exact rPickB rfl rfl rfl rfl) ?_
  refine WL_nil ?_
  refine W_cond false rfl ?_
  refine W_skip ?_
  by_cases hok : OkLin o l 0
  rotate_left
  · refine W_seq ?_
    refine W_region ?_
    refine WL_val rfl rfl rfl (by first | exact rMoveI rfl rfl | exact rMove rfl) ?_
    refine WL_val rfl rfl rfl (by first | exact rMoveS rfl rfl | exact rMove rfl) ?_
    refine WL_val rfl rfl rfl (by first | exact rMoveS rfl rfl | exact rMove rfl) ?_
    refine WL_call rfl rfl rfl (rCall (vs := [.int .i64 _, .slice _ _ _, .slice _ _ _]) rfl Tryd.func21 rfl rfl rfl) ?_
    refine (shows_any o A l.length c l A2 c2 order D D2 _ (h.pure hI.pu) (hr.pure hI.pu) (by omega) (hk.pure hI.pu)).mono ?_
    rintro e w1 ⟨hp, ⟨h1, _⟩ | ⟨_, x, ⟨z, rfl⟩, rfl⟩⟩
    · exact absurd h1 hok
    refine ⟨_, rfl, ?_⟩
    replace hI := hI.pure hp
    refine WL_val rfl rfl rfl (by first | exact rMoveT rfl rfl | exact rMove rfl) ?_
    refine WL_val rfl rfl rfl (rExtr rfl rfl rfl) ?_
    refine WL_val rfl rfl rfl (rExtr rfl rfl rfl) ?_
    refine WL_val rfl rfl rfl (by first | exact rAsgnB rfl rfl | exact rAsgn rfl) ?_
    refine WL_val rfl rfl rfl (by first | exact rAsgnN rfl rfl | exact rAsgnE rfl rfl | exact rAsgn rfl) ?_
    refine WL_nil ?_
    refine W_seq ?_
    refine W_seq ?_
    refine W_region ?_
    refine WL_call rfl rfl rfl (rCall (vs := []) rfl Tryd.func20 rfl rfl rfl) ?_
    refine (ltold_any _ (hk.pure hI.pu)).mono ?_
    rintro e w2 ⟨rfl, hp⟩
    refine ⟨_, rfl, ?_⟩
    replace hI := hI.pure hp
    refine WL_val rfl rfl rfl (by first | exact rNotT rfl rfl | exact rNotF rfl rfl | exact rNot rfl rfl) ?_
    refine WL_val rfl rfl rfl (by first | exact rMoveB rfl rfl | exact rMove rfl) ?_
    first | refine WL_val rfl rfl rfl (by first | exact rMoveN rfl rfl | exact rMoveE rfl rfl | exact rMove rfl) ?_ | refine WL_skip rfl rfl rfl ?_
    first | refine WL_val rfl rfl rfl (by first | exact rIfaceNe rfl Tryd.underlying35 rfl rfl | exact rNilNe rfl Tryd.underlying35 rfl) ?_ | refine WL_skip rfl rfl rfl ?_
    refine WL_val rfl rfl rfl (by first | exact rPickTB rfl rfl rfl | exact rPickFB rfl rfl rfl | exact rPickB rfl rfl rfl rfl) ?_
    refine WL_val rfl rfl rfl (by first | exact rMoveB rfl rfl | exact rMove rfl) ?_
    first | refine WL_val rfl rfl rfl (by first | exact rMoveB rfl rfl | exact rMove rfl) ?_ | refine WL_skip rfl rfl rfl ?_
    first | refine WL_val rfl rfl rfl (by first | exact rNotT rfl rfl | exact rNotF rfl rfl | exact rNot rfl rfl) ?_ | refine WL_skip rfl rfl rfl ?_
    refine WL_val rfl rfl rfl (by first | exact rPickTB rfl rfl rfl | exact rPickFB rfl rfl rfl | exact rPickB rfl rfl rfl rfl) ?_
    refine WL_nil ?_
    refine W_cond true rfl ?_
    refine W_seq ?_
    refine W_region ?_
    refine WL_call rfl rfl rfl (rCall (vs := []) rfl Tryd.func20 rfl rfl rfl) ?_
    refine (ltold_any _ (hk.pure hI.pu)).mono ?_
    rintro e w2 ⟨rfl, hp⟩
    refine ⟨_, rfl, ?_⟩
    replace hI := hI.pure hp
    refine WL_val rfl rfl rfl (by first | exact rMoveB rfl rfl | exact rMove rfl) ?_
    first | refine WL_val rfl rfl rfl (by first | exact rMoveN rfl rfl | exact rMoveE rfl rfl | exact rMove rfl) ?_ | refine WL_skip rfl rfl rfl ?_
    first | refine WL_val rfl rfl rfl (by first | exact rIfaceEq rfl Tryd.underlying35 rfl rfl | exact rNilEq rfl Tryd.underlying35 rfl) ?_ | refine WL_skip rfl rfl rfl ?_
    first | refine WL_val rfl rfl rfl (by first | exact rMoveB rfl rfl | exact rMove rfl) ?_ | refine WL_skip rfl rfl rfl ?_
    first | refine WL_val rfl rfl rfl (by first | exact rMoveB rfl rfl | exact rMove rfl) ?_ | refine WL_skip rfl rfl rfl ?_
    first | refine WL_val rfl rfl rfl (by first | exact rNotT rfl rfl | exact rNotF rfl rfl | exact rNot rfl rfl) ?_ | refine WL_skip rfl rfl rfl ?_
    first | refine WL_val rfl rfl rfl (by first | exact rPickTB rfl rfl rfl | exact rPickFB rfl rfl rfl | exact rPickB rfl rfl rfl rfl) ?_ | refine WL_skip rfl rfl rfl ?_
    refine WL_val rfl rfl rfl (by first | exact rPickTB rfl rfl rfl | exact rPickFB rfl rfl rfl | exact rPickB rfl rfl rfl rfl) ?_
    refine WL_val rfl rfl rfl (by first | exact rAsgnB rfl rfl | exact rAsgn rfl) ?_
    refine WL_nil ?_
    refine W_ret ?_
    exact ret1 10 (.inr rfl) rfl ⟨rfl, hI.pu⟩
  refine W_seq ?_
  refine W_region ?_
  refine WL_val rfl rfl rfl (by first | exact rMoveI rfl rfl | exact rMove rfl) ?_
  refine WL_val rfl rfl rfl (by first | exact rMoveS rfl rfl | exact rMove rfl) ?_
  refine WL_val rfl rfl rfl (by first | exact rMoveS rfl rfl | exact rMove rfl) ?_
  refine WL_call rfl rfl rfl (rCall (vs := [.int .i64 _, .slice _ _ _, .slice _ _ _]) rfl Tryd.func21 rfl rfl rfl) ?_
  refine (shows_any o A l.length c l A2 c2 order D D2 _ (h.pure hI.pu) (hr.pure hI.pu) (by omega) (hk.pure hI.pu)).mono ?_
  rintro e w1 ⟨hp, ⟨_, b, rfl, hb⟩ | ⟨h1, _⟩⟩
  rotate_left
  · exact absurd hok h1
  refine ⟨_, rfl, ?_⟩
  replace hI := hI.pure hp
  refine WL_val rfl rfl rfl (by first | exact rMoveT rfl rfl | exact rMove rfl) ?_
  refine WL_val rfl rfl rfl (rExtr rfl rfl rfl) ?_
  refine WL_val rfl rfl rfl (rExtr rfl rfl rfl) ?_
  refine WL_val rfl rfl rfl (by first | exact rAsgnB rfl rfl | exact rAsgn rfl) ?_
  refine WL_val rfl rfl rfl (by first | exact rAsgnN rfl rfl | exact rAsgnE rfl rfl | exact rAsgn rfl) ?_
  refine WL_nil ?_
  cases b with
  | false =>
    refine W_seq ?_
    refine W_seq ?_
    refine W_region ?_
    refine WL_call rfl rfl rfl (rCall (vs := []) rfl Tryd.func20 rfl rfl rfl) ?_
    refine (ltold_any _ (hk.pure hI.pu)).mono ?_
    rintro e w2 ⟨rfl, hp⟩
    refine ⟨_, rfl, ?_⟩
    replace hI := hI.pure hp
    refine WL_val rfl rfl rfl (by first | exact rNotT rfl rfl | exact rNotF rfl rfl | exact rNot rfl rfl) ?_
    refine WL_val rfl rfl rfl (by first | exact rMoveB rfl rfl | exact rMove rfl) ?_
    first | refine WL_val rfl rfl rfl (by first | exact rMoveN rfl rfl | exact rMoveE rfl rfl | exact rMove rfl) ?_ | refine WL_skip rfl rfl rfl ?_
    first | refine WL_val rfl rfl rfl (by first | exact rIfaceNe rfl Tryd.underlying35 rfl rfl | exact rNilNe rfl Tryd.underlying35 rfl) ?_ | refine WL_skip rfl rfl rfl ?_
    refine WL_val rfl rfl rfl (by first | exact rPickTB rfl rfl rfl | exact rPickFB rfl rfl rfl | exact rPickB rfl rfl rfl rfl) ?_
    refine WL_val rfl rfl rfl (by first | exact rMoveB rfl rfl | exact rMove rfl) ?_
    first | refine WL_val rfl rfl rfl (by first | exact rMoveB rfl rfl | exact rMove rfl) ?_ | refine WL_skip rfl rfl rfl ?_
    first | refine WL_val rfl rfl rfl (by first | exact rNotT rfl rfl | exact rNotF rfl rfl | exact rNot rfl rfl) ?_ | refine WL_skip rfl rfl rfl ?_
    refine WL_val rfl rfl rfl (by first | exact rPickTB rfl rfl rfl | exact rPickFB rfl rfl rfl | exact rPickB rfl rfl rfl rfl) ?_
    refine WL_nil ?_
    refine W_cond true rfl ?_
    refine W_seq ?_
    refine W_region ?_
    refine WL_call rfl rfl rfl (rCall (vs := []) rfl Tryd.func20 rfl rfl rfl) ?_
    refine (ltold_any _ (hk.pure hI.pu)).mono ?_
    rintro e w2 ⟨rfl, hp⟩
    refine ⟨_, rfl, ?_⟩
    replace hI := hI.pure hp
    refine WL_val rfl rfl rfl (by first | exact rMoveB rfl rfl | exact rMove rfl) ?_
    first | refine WL_val rfl rfl rfl (by first | exact rMoveN rfl rfl | exact rMoveE rfl rfl | exact rMove rfl) ?_ | refine WL_skip rfl rfl rfl ?_
    first | refine WL_val rfl rfl rfl (by first | exact rIfaceEq rfl Tryd.underlying35 rfl rfl | exact rNilEq rfl Tryd.underlying35 rfl) ?_ | refine WL_skip rfl rfl rfl ?_
    first | refine WL_val rfl rfl rfl (by first | exact rMoveB rfl rfl | exact rMove rfl) ?_ | refine WL_skip rfl rfl rfl ?_
    first | refine WL_val rfl rfl rfl (by first | exact rMoveB rfl rfl | exact rMove rfl) ?_ | refine WL_skip rfl rfl rfl ?_
    first | refine WL_val rfl rfl rfl (by first | exact rNotT rfl rfl | exact rNotF rfl rfl | exact rNot rfl rfl) ?_ | refine WL_skip rfl rfl rfl ?_
    first | refine WL_val rfl rfl rfl (by first | exact rPickTB rfl rfl rfl | exact rPickFB rfl rfl rfl | exact rPickB rfl rfl rfl rfl) ?_ | refine WL_skip rfl rfl rfl ?_
    refine WL_val rfl rfl rfl (by first | exact rPickTB rfl rfl rfl | exact rPickFB rfl rfl rfl | exact rPickB rfl rfl rfl rfl) ?_
    refine WL_val rfl rfl rfl (by first | exact rAsgnB rfl rfl | exact rAsgn rfl) ?_
    refine WL_nil ?_
    refine W_ret ?_
    exact ret1 10 (.inr rfl) rfl ⟨rfl, hI.pu⟩
  | true =>
  have hshow : ShowsP o l order := hb.1 rfl
  have hbnd : ∀ i, i < l.length → (-1000000 ≤ (oAt l i).call ∧ (oAt l i).call ≤ 1000000) ∧ (-1000000 ≤ (oAt l i).ret ∧ (oAt l i).ret ≤ 1000000) := fun i hi =>
    ⟨told_num (hok.2.2.2.2.1.2 i hi).1 (oAt l i).call (by simp), told_num (hok.2.2.2.2.1.2 i hi).1 (oAt l i).ret (by simp)⟩
  refine W_seq ?_
  refine W_seq ?_
  refine W_region ?_
  refine WL_call rfl rfl rfl (rCall (vs := []) rfl Tryd.func20 rfl rfl rfl) ?_
  refine (ltold_any _ (hk.pure hI.pu)).mono ?_
  rintro e w2 ⟨rfl, hp⟩
  refine ⟨_, rfl, ?_⟩
  replace hI := hI.pure hp
  refine WL_val rfl rfl rfl (by first | exact rNotT rfl rfl | exact rNotF rfl rfl | exact rNot rfl rfl) ?_
  refine WL_val rfl rfl rfl (by first | exact rMoveB rfl rfl | exact rMove rfl) ?_
  first | refine WL_val rfl rfl rfl (by first | exact rMoveN rfl rfl | exact rMoveE rfl rfl | exact rMove rfl) ?_ | refine WL_skip rfl rfl rfl ?_
  first | refine WL_val rfl rfl rfl (by first | exact rIfaceNe rfl Tryd.underlying35 rfl rfl | exact rNilNe rfl Tryd.underlying35 rfl) ?_ | refine WL_skip rfl rfl rfl ?_
  refine WL_val rfl rfl rfl (by first | exact rPickTB rfl rfl rfl | exact rPickFB rfl rfl rfl | exact rPickB rfl rfl rfl rfl) ?_
  refine WL_val rfl rfl rfl (by first | exact rMoveB rfl rfl | exact rMove rfl) ?_
  first | refine WL_val rfl rfl rfl (by first | exact rMoveB rfl rfl | exact rMove rfl) ?_ | refine WL_skip rfl rfl rfl ?_
  first | refine WL_val rfl rfl rfl (by first | exact rNotT rfl rfl | exact rNotF rfl rfl | exact rNot rfl rfl) ?_ | refine WL_skip rfl rfl rfl ?_
  refine WL_val rfl rfl rfl (by first | exact rPickTB rfl rfl rfl | exact rPickFB rfl rfl rfl | exact rPickB rfl rfl rfl rfl) ?_
  refine WL_nil ?_
  refine W_cond false rfl ?_
  refine W_skip ?_
  obtain ⟨bA, oA, rfl, _⟩ := h.at (k := 0) (by omega)
  have hnews : ∀ (W : World), Pure w0 W → ∀ (k : Nat) (u : Value), (l.flatMap opV)[k]? = some u → W.cell? ⟨bA, oA + k, none⟩ = some u := by
    intro W hp k u hu
    obtain ⟨b', o', h1, _, _, h2⟩ := (h.pure hp).get hu (by omega)
    injection h1 with h1
    injection h1 with h1 h3
    subst h1 h3
    exact h2
  refine W_seq ?_
  refine W_region ?_
  refine WL_lit (vs := []) (qs := []) [] [] hI rfl rfl rfl rfl rfl rfl Tryd.underlying24 (fun _ => by kernel_rfl) ?_
  clear hI; rintro b55 w - - hI
  refine WL_val rfl rfl rfl (by first | exact rMoveS rfl rfl | exact rMove rfl) ?_
  -- STOP: call ['Op.call', ('st', {'callee': ['Callee.builtin', 'Builtin.append'], 'args': ('arr', [['Operand.tmp', '55'], ['Operand.tmp', '56']]), 'argTypes': ('arr
  replace hI := hI.u0 (e' := Row 0 29 8 (some ⟨b55, 0, none⟩) 0 0 []) (Chg.refl _ _) (Row.of_blk (n := 0) hI.g0 (Nat.zero_le _) rfl (by omega)) (fun k hk => .inl (by have : some b55 = some k := hk; injection this with this; exact this.symm))
  refine WL_app0 (z := .agg #[.int .i64 0, .int .i64 0, .int .i64 0, .int .i64 0, .int .i64 0, .int .i64 0, .int .i64 0, .int .i64 0]) (by_ := 64) (news := l.flatMap opV) hI rfl rfl rfl rfl rfl rfl Tryd.underlying24 (by kernel_rfl) rfl (by omega) (opsV_len l) (hnews _ hI.pu) (by rw [List.all_eq_true]; intro v hv; obtain ⟨q, _, hq⟩ := List.mem_flatMap.1 hv; simp only [opV, List.mem_cons, List.not_mem_nil, or_false] at hq; rcases hq with rfl | rfl | rfl | rfl | rfl | rfl | rfl | rfl <;> rfl) (by omega) (by omega) (Nat.zero_le _) ?_
  clear hI
  rintro A5 c5 w hx1 hx2 hI
  rw [Nat.zero_add] at hI ⊢
  rw [List.nil_append] at hI
  refine WL_val rfl rfl rfl (by first | exact rAsgnS rfl rfl | exact rAsgn rfl) ?_
  refine WL_nil ?_
  obtain ⟨b5, cur5, rfl, -, -, -, hcm5, -, -⟩ := row_openB hI.g0 (by omega)
  refine W_seq_cut (fun ρ w => ∃ lw, Wid l lw l.length ∧ Has ρ [(13, .slice (some ⟨b5, 0, none⟩) l.length c5), (0, .int .i64 o), (2, .slice A2 order.length c2), (3, .int .i64 wz), (4, .int .i64 bz)] ∧ Inv (fun _ => False) w0 w [OpsE (some ⟨b5, 0, none⟩) c5 lw]) ?_ ?_
  · refine W_seq ?_
    refine W_region ?_
    refine WL_val rfl rfl rfl (by first | exact rAsgnI rfl rfl | exact rAsgn rfl) ?_
    refine WL_nil ?_
    refine W_block ?_
    refine W_loopN (fun mu ρ w => ∃ (i : Nat) (lw : List Op8), mu = l.length - i ∧ i ≤ l.length ∧ Wid l lw i ∧ Has ρ [(14, .int .i64 (i : Int)), (13, .slice (some ⟨b5, 0, none⟩) l.length c5), (0, .int .i64 o), (2, .slice A2 order.length c2), (3, .int .i64 wz), (4, .int .i64 bz)] ∧ Inv (fun _ => False) w0 w [OpsE (some ⟨b5, 0, none⟩) c5 lw]) l.length
      ⟨0, l, rfl, by omega, ⟨rfl, fun j hj => by rw [if_neg (by omega)]⟩, ⟨rfl, rfl, rfl, rfl, rfl, rfl, trivial⟩, hI⟩ ?_
    clear hI
    rintro mu ρ w ⟨i, lw, rfl, hi, hW, hH, hI⟩
    obtain ⟨σ, rfl⟩ := hH.open
    by_cases hil : i < l.length
    rotate_left
    · obtain rfl : i = l.length := by omega
      refine W_seq ?_
      refine W_seq ?_
      refine W_region ?_
      refine WL_val rfl rfl rfl (by first | exact rMoveI rfl rfl | exact rMove rfl) ?_
      refine WL_val rfl rfl rfl (by first | exact rMoveS rfl rfl | exact rMove rfl) ?_
      refine WL_val rfl rfl rfl (rLen rfl Tryd.underlying24 rfl) ?_
      refine WL_val rfl rfl rfl (by first | exact rLssT rfl rfl rfl (by omega) | exact rLssF rfl rfl rfl (by omega) | exact rLss rfl rfl rfl) ?_
      refine WL_nil ?_
      refine W_cond false rfl ?_
      refine W_exit ?_
      exact ⟨lw, hW, ⟨rfl, rfl, rfl, rfl, rfl, trivial⟩, hI⟩
    obtain ⟨hWl, hWo⟩ := hW
    have hi1 : oAt lw i = oAt l i := by rw [hWo i hil, if_neg (by omega)]
    have hbi := hbnd i hil
    have hcl := OpsE_cell hI (k := i) (j := 6) (by omega) rfl
    rw [hi1] at hcl
    refine W_seq ?_
    refine W_seq ?_
    refine W_region ?_
    refine WL_val rfl rfl rfl (by first | exact rMoveI rfl rfl | exact rMove rfl) ?_
    refine WL_val rfl rfl rfl (by first | exact rMoveS rfl rfl | exact rMove rfl) ?_
    refine WL_val rfl rfl rfl (rLen rfl Tryd.underlying24 rfl) ?_
    refine WL_val rfl rfl rfl (by first | exact rLssT rfl rfl rfl (by omega) | exact rLssF rfl rfl rfl (by omega) | exact rLss rfl rfl rfl) ?_
    refine WL_nil ?_
    refine W_cond true rfl ?_
    refine W_skip ?_
    refine W_seq ?_
    refine W_block ?_
    refine W_seq ?_
    refine W_region ?_
    refine WL_val rfl rfl rfl (by first | exact rMoveS rfl rfl | exact rMove rfl) ?_
    refine WL_val rfl rfl rfl (by first | exact rMoveI rfl rfl | exact rMove rfl) ?_
    refine WL_val rfl rfl rfl (by first | exact rMoveS rfl rfl | exact rMove rfl) ?_
    refine WL_val rfl rfl rfl (by first | exact rMoveI rfl rfl | exact rMove rfl) ?_
    refine WL_val rfl rfl rfl (rIdx (sz := 8) rfl Tryd.underlying24 (by kernel_rfl) rfl rfl (by omega)) ?_
    refine WL_val rfl rfl rfl (by first | exact rFldN (off := 6) rfl (by kernel_rfl) rfl | exact rFld (off := 6) rfl (by kernel_rfl) rfl) ?_
    refine WL_val rfl rfl rfl (by first | exact rLd (v := .int .i64 _) rfl (by kernel_rfl) rfl (by first | exact hI.oldp hcl | exact hcl) | exact rLd rfl (by kernel_rfl) rfl (by first | exact hI.oldp hcl | exact hcl)) ?_
    refine WL_val rfl rfl rfl (rMul (a := 3) rfl rfl rfl (by omega)) ?_
    refine WL_val rfl rfl rfl (rIdx (sz := 8) rfl Tryd.underlying24 (by kernel_rfl) rfl rfl (by omega)) ?_
    refine WL_val rfl rfl rfl (by first | exact rFldN (off := 6) rfl (by kernel_rfl) rfl | exact rFld (off := 6) rfl (by kernel_rfl) rfl) ?_
    refine WL_stRow 0 rfl (u := .int .i64 (3 * (oAt l i).call)) (j := 0 + i * 8 + 6) hI rfl rfl rfl rfl rfl rfl (by kernel_rfl) rfl (by rw [opsV_len]; omega) ?_
    clear hI hcl; intro w hI
    refine WL_nil ?_
    replace hI := OpsE_set (x := { oAt l i with call := 3 * (oAt l i).call }) hI rfl (by omega) (by rw [hi1]; rfl) (by omega)
    have hx1 : oAt (lw.set i { oAt l i with call := 3 * (oAt l i).call }) i = { oAt l i with call := 3 * (oAt l i).call } := by rw [oAt_set (by omega), if_pos rfl]
    have hcl : w.cell? ⟨b5, 0 + i * 8 + 7, none⟩ = some (.int .i64 (oAt l i).ret) := by
      have hh := OpsE_cell hI (k := i) (j := 7) (by simp; omega) rfl
      rw [hx1] at hh
      exact hh
    by_cases hr0 : 0 ≤ (oAt l i).ret
    · refine W_seq ?_
      refine W_region ?_
      refine WL_val rfl rfl rfl (by first | exact rMoveS rfl rfl | exact rMove rfl) ?_
      refine WL_val rfl rfl rfl (by first | exact rMoveI rfl rfl | exact rMove rfl) ?_
      refine WL_val rfl rfl rfl (rIdx (sz := 8) rfl Tryd.underlying24 (by kernel_rfl) rfl rfl (by omega)) ?_
      refine WL_val rfl rfl rfl (by first | exact rFldN (off := 7) rfl (by kernel_rfl) rfl | exact rFld (off := 7) rfl (by kernel_rfl) rfl) ?_
      refine WL_val rfl rfl rfl (by first | exact rLd (v := .int .i64 _) rfl (by kernel_rfl) rfl (by first | exact hI.oldp hcl | exact hcl) | exact rLd rfl (by kernel_rfl) rfl (by first | exact hI.oldp hcl | exact hcl)) ?_
      refine WL_val rfl rfl rfl (by first | exact rGeqT rfl rfl rfl (by omega) | exact rGeqF rfl rfl rfl (by omega) | exact rGeq rfl rfl rfl) ?_
      refine WL_nil ?_
      refine W_cond true rfl ?_
      refine W_region ?_
      refine WL_val rfl rfl rfl (by first | exact rMoveS rfl rfl | exact rMove rfl) ?_
      refine WL_val rfl rfl rfl (by first | exact rMoveI rfl rfl | exact rMove rfl) ?_
      refine WL_val rfl rfl rfl (by first | exact rMoveS rfl rfl | exact rMove rfl) ?_
      refine WL_val rfl rfl rfl (by first | exact rMoveI rfl rfl | exact rMove rfl) ?_
      refine WL_val rfl rfl rfl (rIdx (sz := 8) rfl Tryd.underlying24 (by kernel_rfl) rfl rfl (by omega)) ?_
      refine WL_val rfl rfl rfl (by first | exact rFldN (off := 7) rfl (by kernel_rfl) rfl | exact rFld (off := 7) rfl (by kernel_rfl) rfl) ?_
      refine WL_val rfl rfl rfl (by first | exact rLd (v := .int .i64 _) rfl (by kernel_rfl) rfl (by first | exact hI.oldp hcl | exact hcl) | exact rLd rfl (by kernel_rfl) rfl (by first | exact hI.oldp hcl | exact hcl)) ?_
      refine WL_val rfl rfl rfl (rMul (a := 3) rfl rfl rfl (by omega)) ?_
      refine WL_val rfl rfl rfl (rIdx (sz := 8) rfl Tryd.underlying24 (by kernel_rfl) rfl rfl (by omega)) ?_
      refine WL_val rfl rfl rfl (by first | exact rFldN (off := 7) rfl (by kernel_rfl) rfl | exact rFld (off := 7) rfl (by kernel_rfl) rfl) ?_
      refine WL_stRow 0 rfl (u := .int .i64 (3 * (oAt l i).ret)) (j := 0 + i * 8 + 7) hI rfl rfl rfl rfl rfl rfl (by kernel_rfl) rfl (by rw [opsV_len]; simp; omega) ?_
      clear hI hcl; intro w hI
      refine WL_nil ?_
      replace hI := OpsE_set (x := { oAt l i with call := 3 * (oAt l i).call, ret := 3 * (oAt l i).ret }) hI rfl (by simp; omega) (by rw [hx1]; rfl) (by omega)
      refine W_region ?_
      refine WL_val rfl rfl rfl (by first | exact rMoveI rfl rfl | exact rMove rfl) ?_
      refine WL_val rfl rfl rfl (by first | exact rInc rfl rfl rfl (by omega) | exact rAdd rfl rfl rfl (by omega) | exact rAddW rfl rfl rfl) ?_
      refine WL_val rfl rfl rfl (by first | exact rAsgnI rfl rfl | exact rAsgn rfl) ?_
      refine WL_nil ?_
      refine ⟨l.length - (i + 1), by omega, i + 1, _, rfl, by omega, ⟨by simp [hWl], fun j hj => ?_⟩, ⟨rfl, rfl, rfl, rfl, rfl, rfl, trivial⟩, hI⟩
      rw [oAt_set (by simp; omega)]
      by_cases hij : i = j
      · subst hij
        rw [if_pos rfl, if_pos (by omega)]
        unfold wid1; rw [if_pos hr0]
      · rw [if_neg hij, oAt_set (by omega), if_neg hij, hWo j hj]
        by_cases h1 : j < i
        · rw [if_pos h1, if_pos (by omega)]
        · rw [if_neg h1, if_neg (by omega)]
    · refine W_seq ?_
      refine W_region ?_
      refine WL_val rfl rfl rfl (by first | exact rMoveS rfl rfl | exact rMove rfl) ?_
      refine WL_val rfl rfl rfl (by first | exact rMoveI rfl rfl | exact rMove rfl) ?_
      refine WL_val rfl rfl rfl (rIdx (sz := 8) rfl Tryd.underlying24 (by kernel_rfl) rfl rfl (by omega)) ?_
      refine WL_val rfl rfl rfl (by first | exact rFldN (off := 7) rfl (by kernel_rfl) rfl | exact rFld (off := 7) rfl (by kernel_rfl) rfl) ?_
      refine WL_val rfl rfl rfl (by first | exact rLd (v := .int .i64 _) rfl (by kernel_rfl) rfl (by first | exact hI.oldp hcl | exact hcl) | exact rLd rfl (by kernel_rfl) rfl (by first | exact hI.oldp hcl | exact hcl)) ?_
      refine WL_val rfl rfl rfl (by first | exact rGeqT rfl rfl rfl (by omega) | exact rGeqF rfl rfl rfl (by omega) | exact rGeq rfl rfl rfl) ?_
      refine WL_nil ?_
      refine W_cond false rfl ?_
      refine W_skip ?_
      refine W_region ?_
      refine WL_val rfl rfl rfl (by first | exact rMoveI rfl rfl | exact rMove rfl) ?_
      refine WL_val rfl rfl rfl (by first | exact rInc rfl rfl rfl (by omega) | exact rAdd rfl rfl rfl (by omega) | exact rAddW rfl rfl rfl) ?_
      refine WL_val rfl rfl rfl (by first | exact rAsgnI rfl rfl | exact rAsgn rfl) ?_
      refine WL_nil ?_
      refine ⟨l.length - (i + 1), by omega, i + 1, _, rfl, by omega, ⟨by simp [hWl], fun j hj => ?_⟩, ⟨rfl, rfl, rfl, rfl, rfl, rfl, trivial⟩, hI⟩
      rw [oAt_set (by omega)]
      by_cases hij : i = j
      · subst hij
        rw [if_pos rfl, if_pos (by omega)]
        unfold wid1; rw [if_neg hr0]
      · rw [if_neg hij, hWo j hj]
        by_cases h1 : j < i
        · rw [if_pos h1, if_pos (by omega)]
        · rw [if_neg h1, if_neg (by omega)]
  clear hI
  rintro ρ w ⟨lw, hW, hH, hI⟩
  obtain ⟨σ, rfl⟩ := hH.open
  have hWd := wider_of hW
  have hpl := pickN_lt wz (n := l.length) (by omega)
  have hpb := pickN_lt bz (n := 40) (by omega)
  refine W_seq ?_
  refine W_region ?_
  refine WL_val rfl rfl rfl (by first | exact rMoveI rfl rfl | exact rMove rfl) ?_
  refine WL_val rfl rfl rfl (by first | exact rMoveS rfl rfl | exact rMove rfl) ?_
  refine WL_val rfl rfl rfl (rLen rfl Tryd.underlying24 rfl) ?_
  refine WL_call rfl rfl rfl (rCall (vs := [.int .i64 _, .int .i64 _]) rfl Tryd.func12 rfl rfl rfl) ?_
  refine (pick_any wz l.length _ (by omega) (by omega)).mono ?_
  rintro e w3 ⟨rfl, rfl⟩
  refine ⟨_, rfl, ?_⟩
  refine WL_val rfl rfl rfl (by first | exact rAsgnI rfl rfl | exact rAsgn rfl) ?_
  refine WL_nil ?_
  generalize pickN wz l.length = kk at hpl
  have hrk : (oAt lw kk).ret ≤ 3000000 := by
    rw [hW.2 kk hpl, if_pos hpl]
    have := hbnd kk hpl
    unfold wid1; simp only; split <;> omega
  have hrk0 : -1000000 ≤ (oAt lw kk).ret := by
    rw [hW.2 kk hpl, if_pos hpl]
    have := hbnd kk hpl
    unfold wid1; simp only; split <;> omega
  have hWl := hW.1
  have hcl := OpsE_cell hI (k := kk) (j := 7) (by omega) rfl
  refine W_seq_cut (fun ρ w => ∃ lw, Wider l lw ∧ Has ρ [(13, .slice (some ⟨b5, 0, none⟩) l.length c5), (0, .int .i64 o), (2, .slice A2 order.length c2)] ∧ Inv (fun _ => False) w0 w [OpsE (some ⟨b5, 0, none⟩) c5 lw]) ?_ ?_
  · by_cases hr0 : 0 ≤ (oAt lw kk).ret
    · refine W_seq ?_
      refine W_region ?_
      refine WL_val rfl rfl rfl (by first | exact rMoveS rfl rfl | exact rMove rfl) ?_
      refine WL_val rfl rfl rfl (by first | exact rMoveI rfl rfl | exact rMove rfl) ?_
      refine WL_val rfl rfl rfl (rIdx (sz := 8) rfl Tryd.underlying24 (by kernel_rfl) rfl rfl (by omega)) ?_
      refine WL_val rfl rfl rfl (by first | exact rFldN (off := 7) rfl (by kernel_rfl) rfl | exact rFld (off := 7) rfl (by kernel_rfl) rfl) ?_
      refine WL_val rfl rfl rfl (by first | exact rLd (v := .int .i64 _) rfl (by kernel_rfl) rfl (by first | exact hI.oldp hcl | exact hcl) | exact rLd rfl (by kernel_rfl) rfl (by first | exact hI.oldp hcl | exact hcl)) ?_
      refine WL_val rfl rfl rfl (by first | exact rGeqT rfl rfl rfl (by omega) | exact rGeqF rfl rfl rfl (by omega) | exact rGeq rfl rfl rfl) ?_
      refine WL_nil ?_
      refine W_cond true rfl ?_
      refine W_draw (by kernel_rfl) ?_
      refine WA_inv (T := [12]) hI.drew ?_
      intro Sx hSx hXS
      replace hI := hI.drew
      refine WT_take 0 rfl rfl (by kernel_rfl) (hXS _ hI) rfl (fun W hW => have hI := hSx W hW; (by first | exact rMoveS rfl rfl | exact rMove rfl)) ?_
      refine WT_take 1 rfl rfl (by kernel_rfl) (hXS _ hI) rfl (fun W hW => have hI := hSx W hW; (by first | exact rMoveI rfl rfl | exact rMove rfl)) ?_
      refine WT_take 2 rfl rfl (by kernel_rfl) (hXS _ hI) rfl (fun W hW => have hI := hSx W hW; (rIdx (sz := 8) rfl Tryd.underlying24 (by kernel_rfl) rfl rfl (by omega))) ?_
      refine WT_take 3 rfl rfl (by kernel_rfl) (hXS _ hI) rfl (fun W hW => have hI := hSx W hW; (by first | exact rFldN (off := 7) rfl (by kernel_rfl) rfl | exact rFld (off := 7) rfl (by kernel_rfl) rfl)) ?_
      refine WT_take 4 rfl rfl (by kernel_rfl) (hXS _ hI) rfl (fun W hW => have hI := hSx W hW; (by first | exact rLd (v := .int .i64 _) rfl (by kernel_rfl) rfl (by first | exact (OpsE_cell hI (k := kk) (j := 7) (by omega) rfl)) | exact rLd rfl (by kernel_rfl) rfl (by first | exact (OpsE_cell hI (k := kk) (j := 7) (by omega) rfl)))) ?_
      refine WT_take 5 rfl rfl (by kernel_rfl) (hXS _ hI) rfl (fun W hW => have hI := hSx W hW; (by first | exact rMoveI rfl rfl | exact rMove rfl)) ?_
      refine WT_one 6 rfl (by kernel_rfl) rfl ?_
      refine WL_call rfl rfl rfl (rCall (vs := [.int .i64 _, .int .i64 _]) rfl Tryd.func12 rfl rfl rfl) ?_
      refine (pick_any bz 40 _ (by omega) (by omega)).mono ?_
      rintro e w3 ⟨rfl, rfl⟩
      refine ⟨_, rfl, ?_⟩
      refine WL_nil ⟨hXS _ hI, ?_⟩
      refine WT_take 7 rfl rfl (by kernel_rfl) (hXS _ hI) rfl (fun W hW => have hI := hSx W hW; (by first | exact rMul rfl rfl rfl (by omega) | exact rMulW rfl rfl rfl)) ?_
      refine WT_take 8 rfl rfl (by kernel_rfl) (hXS _ hI) rfl (fun W hW => have hI := hSx W hW; (by first | exact rInc rfl rfl rfl (by omega) | exact rAdd rfl rfl rfl (by omega) | exact rAddW rfl rfl rfl)) ?_
      refine WT_take 9 rfl rfl (by kernel_rfl) (hXS _ hI) rfl (fun W hW => have hI := hSx W hW; (by first | exact rInc rfl rfl rfl (by omega) | exact rAdd rfl rfl rfl (by omega) | exact rAddW rfl rfl rfl)) ?_
      refine WT_take 10 rfl rfl (by kernel_rfl) (hXS _ hI) rfl (fun W hW => have hI := hSx W hW; (rIdx (sz := 8) rfl Tryd.underlying24 (by kernel_rfl) rfl rfl (by omega))) ?_
      refine WT_take 11 rfl rfl (by kernel_rfl) (hXS _ hI) rfl (fun W hW => have hI := hSx W hW; (by first | exact rFldN (off := 7) rfl (by kernel_rfl) rfl | exact rFld (off := 7) rfl (by kernel_rfl) rfl)) ?_
      refine WT_A (by kernel_rfl) ?_
      clear hXS hSx
      refine WA_one 12 rfl (by kernel_rfl) ?_
      refine WL_stRow 0 rfl (u := .int .i64 ((oAt lw kk).ret + ((pickN bz 40 : Int) * 3 + 1))) (j := 0 + kk * 8 + 7) hI rfl rfl rfl rfl rfl rfl (by kernel_rfl) rfl (by rw [opsV_len]; omega) ?_
      clear hI; intro w hI
      replace hI := OpsE_set (x := { oAt lw kk with ret := (oAt lw kk).ret + ((pickN bz 40 : Int) * 3 + 1) }) hI rfl (by omega) rfl (by omega)
      refine WL_nil ?_
      refine WA_end (by kernel_rfl) ?_
      exact ⟨_, wider_more hWd hpl (by omega) hr0, ⟨rfl, rfl, rfl, trivial⟩, hI⟩
    · refine W_seq ?_
      refine W_region ?_
      refine WL_val rfl rfl rfl (by first | exact rMoveS rfl rfl | exact rMove rfl) ?_
      refine WL_val rfl rfl rfl (by first | exact rMoveI rfl rfl | exact rMove rfl) ?_
      refine WL_val rfl rfl rfl (rIdx (sz := 8) rfl Tryd.underlying24 (by kernel_rfl) rfl rfl (by omega)) ?_
      refine WL_val rfl rfl rfl (by first | exact rFldN (off := 7) rfl (by kernel_rfl) rfl | exact rFld (off := 7) rfl (by kernel_rfl) rfl) ?_
      refine WL_val rfl rfl rfl (by first | exact rLd (v := .int .i64 _) rfl (by kernel_rfl) rfl (by first | exact hI.oldp hcl | exact hcl) | exact rLd rfl (by kernel_rfl) rfl (by first | exact hI.oldp hcl | exact hcl)) ?_
      refine WL_val rfl rfl rfl (by first | exact rGeqT rfl rfl rfl (by omega) | exact rGeqF rfl rfl rfl (by omega) | exact rGeq rfl rfl rfl) ?_
      refine WL_nil ?_
      refine W_cond false rfl ?_
      refine W_skip ?_
      exact ⟨_, hWd, ⟨rfl, rfl, rfl, trivial⟩, hI⟩
  clear hI hcl hWd hW hWl hrk hrk0
  rintro ρ w ⟨lw, hW, hH, hI⟩
  obtain ⟨σ, rfl⟩ := hH.open
  have hsw := wider_shows hW hshow
  have hor := OpsE_rd hI
  rw [hW.len] at hor
  by_cases hok2 : OkLin o lw 0
  · refine W_seq ?_
    refine W_region ?_
    refine WL_val rfl rfl rfl (by first | exact rMoveI rfl rfl | exact rMove rfl) ?_
    refine WL_val rfl rfl rfl (by first | exact rMoveS rfl rfl | exact rMove rfl) ?_
    refine WL_val rfl rfl rfl (by first | exact rMoveS rfl rfl | exact rMove rfl) ?_
    refine WL_call rfl rfl rfl (rCall (vs := [.int .i64 _, .slice _ _ _, .slice _ _ _]) rfl Tryd.func21 rfl rfl rfl) ?_
    refine (shows_any o _ l.length c5 lw A2 c2 order _ D2 _ (OpsE_rd hI |> fun hh => by rw [hW.len] at hh; exact hh) (hr.pure hI.pu) (by omega) (hk.pure hI.pu)).mono ?_
    rintro e w3 ⟨hp, ⟨_, b, rfl, hb⟩ | ⟨h1, _⟩⟩
    rotate_left
    · exact absurd hok2 h1
    obtain rfl : b = true := hb.2 hsw
    refine ⟨_, rfl, ?_⟩
    replace hI := hI.pure hp
    refine WL_val rfl rfl rfl (by first | exact rMoveT rfl rfl | exact rMove rfl) ?_
    refine WL_val rfl rfl rfl (rExtr rfl rfl rfl) ?_
    refine WL_val rfl rfl rfl (rExtr rfl rfl rfl) ?_
    refine WL_val rfl rfl rfl (by first | exact rAsgnB rfl rfl | exact rAsgn rfl) ?_
    refine WL_val rfl rfl rfl (by first | exact rAsgnN rfl rfl | exact rAsgnE rfl rfl | exact rAsgn rfl) ?_
    refine WL_nil ?_
    refine W_seq ?_
    refine W_region ?_
    refine WL_val rfl rfl rfl (by first | exact rMoveN rfl rfl | exact rMoveE rfl rfl | exact rMove rfl) ?_
    refine WL_val rfl rfl rfl (by first | exact rIfaceNe rfl Tryd.underlying35 rfl rfl | exact rNilNe rfl Tryd.underlying35 rfl) ?_
    refine WL_val rfl rfl rfl (by first | exact rMoveB rfl rfl | exact rMove rfl) ?_
    first | refine WL_val rfl rfl rfl (by first | exact rMoveB rfl rfl | exact rMove rfl) ?_ | refine WL_skip rfl rfl rfl ?_
    refine WL_val rfl rfl rfl (by first | exact rPickTB rfl rfl rfl | exact rPickFB rfl rfl rfl | exact rPickB rfl rfl rfl rfl) ?_
    refine WL_val rfl rfl rfl (by first | exact rAsgnB rfl rfl | exact rAsgn rfl) ?_
    refine WL_nil ?_
    refine W_ret ?_
    exact ret1 10 (.inr rfl) rfl ⟨rfl, hI.pu⟩
  · refine W_seq ?_
    refine W_region ?_
    refine WL_val rfl rfl rfl (by first | exact rMoveI rfl rfl | exact rMove rfl) ?_
    refine WL_val rfl rfl rfl (by first | exact rMoveS rfl rfl | exact rMove rfl) ?_
    refine WL_val rfl rfl rfl (by first | exact rMoveS rfl rfl | exact rMove rfl) ?_
    refine WL_call rfl rfl rfl (rCall (vs := [.int .i64 _, .slice _ _ _, .slice _ _ _]) rfl Tryd.func21 rfl rfl rfl) ?_
    refine (shows_any o _ l.length c5 lw A2 c2 order _ D2 _ (OpsE_rd hI |> fun hh => by rw [hW.len] at hh; exact hh) (hr.pure hI.pu) (by omega) (hk.pure hI.pu)).mono ?_
    rintro e w3 ⟨hp, ⟨h1, _⟩ | ⟨_, x, ⟨z, rfl⟩, rfl⟩⟩
    · exact absurd h1 hok2
    refine ⟨_, rfl, ?_⟩
    replace hI := hI.pure hp
    refine WL_val rfl rfl rfl (by first | exact rMoveT rfl rfl | exact rMove rfl) ?_
    refine WL_val rfl rfl rfl (rExtr rfl rfl rfl) ?_
    refine WL_val rfl rfl rfl (rExtr rfl rfl rfl) ?_
    refine WL_val rfl rfl rfl (by first | exact rAsgnB rfl rfl | exact rAsgn rfl) ?_
    refine WL_val rfl rfl rfl (by first | exact rAsgnN rfl rfl | exact rAsgnE rfl rfl | exact rAsgn rfl) ?_
    refine WL_nil ?_
    refine W_seq ?_
    refine W_region ?_
    refine WL_val rfl rfl rfl (by first | exact rMoveN rfl rfl | exact rMoveE rfl rfl | exact rMove rfl) ?_
    refine WL_val rfl rfl rfl (by first | exact rIfaceNe rfl Tryd.underlying35 rfl rfl | exact rNilNe rfl Tryd.underlying35 rfl) ?_
    refine WL_val rfl rfl rfl (by first | exact rMoveB rfl rfl | exact rMove rfl) ?_
    first | refine WL_val rfl rfl rfl (by first | exact rMoveB rfl rfl | exact rMove rfl) ?_ | refine WL_skip rfl rfl rfl ?_
    refine WL_val rfl rfl rfl (by first | exact rPickTB rfl rfl rfl | exact rPickFB rfl rfl rfl | exact rPickB rfl rfl rfl rfl) ?_
    refine WL_val rfl rfl rfl (by first | exact rAsgnB rfl rfl | exact rAsgn rfl) ?_
    refine WL_nil ?_
    refine W_ret ?_
    exact ret1 10 (.inr rfl) rfl ⟨rfl, hI.pu⟩
end Go.Proofs.YtlmpolmalgpodaaDoor
