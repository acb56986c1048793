/- Texts of the proof, merged: Evt4, Lin1, Lin2, Lin3, Lin4, Lin5, Lin6, Srch, Srch2, Srch3, Srch4, Lin7, Lin8. -/
import Derived.Test.YthndpiopbdecfaaGreatDoorPEvt3
import Derived.Test.YthndpiopbdecfaaGreatDoorPTell
namespace Go.Proofs.YthndpiopbdecfaaGreatDoor
open Go.RowKit
set_option linter.unusedVariables false
set_option linter.unusedSimpArgs false
theorem OpsR.take {w : World} {D : Nat → Prop} {A : Option Addr} {n c : Nat} {l : List Op8} (h : OpsR w D (.slice A n c) l) (k : Nat) (hk : k ≤ l.length) : OpsR w D (.slice A k c) (l.take k) := by
 obtain ⟨hn, hc1, hc2⟩ := h.len
 have hlk : (l.take k).length = k := by simp; omega
 unfold OpsR
 rw [hlk]
 refine ⟨A, c, rfl, by omega, hc2, ?_, fun h0 => ?_⟩
 ·have : ∀ l : List Op8, (l.flatMap opV).length = l.length * 8 := by
   intro l
   induction l with
   | nil => rfl
   | cons s l ih => rw [List.flatMap_cons, List.length_append, ih]; simp [opV]; omega
  rw [this, hlk]
 ·obtain ⟨A1, c1, hv, _, _, _, hcell⟩ := h
  injection hv with e1 e2 e3
  subst e1 e3
  obtain ⟨b, o, hbo, hD, hcl⟩ := hcell (by omega)
  refine ⟨b, o, hbo, hD, fun j u hj => hcl j u ?_⟩
  have e : l.flatMap opV = (l.take k).flatMap opV ++ (l.drop k).flatMap opV := by rw [← List.flatMap_append, List.take_append_drop]
  rw [e, List.getElem?_append_left (List.getElem?_eq_some_iff.1 hj).1]
  exact hj
def OkOps (l : List Op8) : Prop := l.length ≤ 40 ∧ ∀ k, k < l.length → OkOp (oAt l k) (l.take k)
def OpsPost8 (l : List Op8) (w0 : World) (en : Ending) (w' : World) : Prop := Pure w0 w' ∧ ((OkOps l ∧ en = .returned .nilIface) ∨ (¬ OkOps l ∧ ∃ x, IsErr8 x ∧ en = .returned x))
def OpsPost (l : List Op8) (w0 : World) (en : Ending) (w' : World) : Prop := Pure w0 w' ∧ ((OkOps l ∧ en = .returned .nilIface) ∨ (¬ OkOps l ∧ ∃ x, IsErr x ∧ en = .returned x))
set_option maxHeartbeats 2000000 in
theorem checkOps8_any (A : Option Addr) (n c : Nat) (l : List Op8) (D : Nat → Prop) (w0 : World) (h : OpsR w0 D (.slice A n c) l) : Calls Tryz.prog 47 #[.slice A n c] w0 (OpsPost8 l w0) := by
 obtain ⟨hn, hc1, hc2⟩ := h.len
 subst hn
 have hI := Inv.start (fun _ => False) w0
 refine Vm Tryz.f47.ntmps Tryz.func47 rfl ?_
 refine W_seq (W_region (Vf rfl (WL_nil ?_)))
 by_cases h40 : l.length ≤ 40
 rotate_left
 ·refine W_seq (W_seq (W_region (Ve rfl (Vs rfl Tryz.underlying40 rfl (Ts rfl (WL_nil (W_cond true rfl (W_seq (W_region (Vx rfl Tryz.underlying49 rfl (Vk rfl (WL_nil ?_))))))))))))
  refine W_ret ?_
  exact ret1 2 (.inr rfl) rfl ⟨hI.pu, .inr ⟨fun hh => h40 hh.1, _, ⟨_, rfl, by decide⟩, rfl⟩⟩
 refine W_seq (W_seq (W_region (Ve rfl (Vs rfl Tryz.underlying40 rfl (Td rfl (WL_nil (W_cond false rfl (W_skip (W_seq (W_seq (W_region (Ve rfl (Vs rfl Tryz.underlying40 rfl ?_)))))))))))))
 refine V0 rfl (WL_nil (W_block ?_))
 refine W_loopN (fun mu ρ w => ∃ k : Nat, mu = l.length - k ∧ k ≤ l.length ∧ (∀ j, j < k → OkOp (oAt l j) (l.take j)) ∧ Has ρ [(12, .int .i64 (k : Int)), (11, .int .i64 (l.length : Int)), (10, .slice A l.length c), (0, .slice A l.length c)] ∧ Inv (fun _ => False) w0 w []) l.length
  ⟨0, rfl, by omega, fun j hj => by omega, ⟨rfl, rfl, rfl, rfl, trivial⟩, hI⟩ ?_
 clear hI
 rintro mu ρ w ⟨k, rfl, hk, hall, hH, hI⟩
 obtain ⟨σ, rfl⟩ := hH.open
 by_cases hkl : k < l.length
 rotate_left
 ·obtain rfl : k = l.length := by omega
  refine W_seq (W_region (Vn rfl (WL_nil (W_seq (W_cond false rfl ?_)))))
  refine W_exit ?_
  refine W_seq (W_region (Vf rfl (WL_nil ?_)))
  refine W_ret ?_
  exact ret1 2 (.inr rfl) rfl ⟨hI.pu, .inl ⟨⟨h40, hall⟩, rfl⟩⟩
 obtain ⟨ab, ao, rfl, hoc⟩ := h.at hkl
 have htk := h.take k hk
 generalize hpk : oAt l k = pk at hoc
 obtain ⟨p0, p1, p2, p3, p4, p5, p6, p7⟩ := pk
 refine W_seq (W_region (Vp rfl (WL_nil (W_seq (W_cond true rfl (W_skip (W_seq (W_block (W_seq (W_region (V0 rfl (Ti 8 rfl Tryz.underlying40 rfl (Ue 8 rfl (by rfl) (fun k u hk => hI.oldp (hoc k u hk)) ?_)))))))))))))
 refine T0 (.agg #[.int .i64 0, .int .i64 0, .int .i64 0, .int .i64 0, .int .i64 0, .int .i64 0, .int .i64 0, .int .i64 0]) (#[.int .i64 0, .int .i64 0, .int .i64 0, .int .i64 0, .int .i64 0, .int .i64 0, .int .i64 0, .int .i64 0]) hI rfl ?_
 clear hI; rintro b4 w - - hI
 refine Va rfl (T1 8 (#[_, _, _, _, _, _, _, _]) (.agg _) hI rfl ?_)
 clear hI; intro w hI
 refine WL_nil ?_
 simp only [opV] at hI
 by_cases hop : OkOp ⟨p0, p1, p2, p3, p4, p5, p6, p7⟩ (l.take k)
 ·refine W_seq (W_draw (by kernel_rfl) ?_)
  refine WA_inv (T := []) hI.drew ?_
  intro Sx hSx hXS
  replace hI := hI.drew
  refine WT_take 0 rfl rfl (by kernel_rfl) (hXS _ hI) rfl (fun W hW => have hI := hSx W hW; (by exact rLdB (n := 8) rfl (by kernel_rfl) (by kernel_rfl) rfl rfl hI.g0)) ?_
  refine T9 1 (hXS _ hI) rfl (Vw 2 (hXS _ hI) rfl ?_)
  refine WT_take 3 rfl rfl (by kernel_rfl) (hXS _ hI) rfl (fun W hW => have hI := hSx W hW; (rSliceTo (sz := 8) (i := k) rfl Tryz.underlying40 (by kernel_rfl) rfl rfl (by omega))) ?_
  refine Vt 4 rfl ?_
  refine V6 [.agg _, .slice _ _ _] rfl Tryz.func77 rfl ?_
  refine (checkOp_one p0 p1 p2 p3 p4 p5 p6 p7 _ k c (l.take k) D _ (htk.pure hI.pu) (by omega)).mono ?_
  rintro e w1 ⟨hp, ⟨_, rfl⟩ | ⟨hbad, _⟩⟩
  rotate_left
  ·exact absurd hop hbad
  refine ⟨_, rfl, ?_⟩
  replace hI := hI.pure hp
  refine WL_nil ⟨hXS _ hI, ?_⟩
  refine WT_take 5 rfl rfl (by kernel_rfl) (hXS _ hI) rfl (fun W hW => have hI := hSx W hW; (by exact rAsgnN rfl rfl)) ?_
  refine WT_end (by kernel_rfl) (W_seq (W_region (T3 rfl (Tc rfl Tryz.underlying29 rfl (WL_nil (W_cond false rfl (W_skip ?_)))))))
  replace hI := hI.d0
  refine W_region (Vu rfl (V0 rfl (WL_nil ?_)))
  refine ⟨l.length - (k + 1), by omega, k + 1, rfl, by omega, fun j hj => ?_, ⟨rfl, rfl, rfl, rfl, trivial⟩, hI⟩
  rcases Nat.lt_or_ge j k with h1 | h1
  ·exact hall j h1
  ·obtain rfl : j = k := by omega
   rw [hpk]; exact hop
 ·refine W_seq (W_draw (by kernel_rfl) ?_)
  refine WA_inv (T := []) hI.drew ?_
  intro Sx hSx hXS
  replace hI := hI.drew
  refine WT_take 0 rfl rfl (by kernel_rfl) (hXS _ hI) rfl (fun W hW => have hI := hSx W hW; (by exact rLdB (n := 8) rfl (by kernel_rfl) (by kernel_rfl) rfl rfl hI.g0)) ?_
  refine T9 1 (hXS _ hI) rfl (Vw 2 (hXS _ hI) rfl ?_)
  refine WT_take 3 rfl rfl (by kernel_rfl) (hXS _ hI) rfl (fun W hW => have hI := hSx W hW; (rSliceTo (sz := 8) (i := k) rfl Tryz.underlying40 (by kernel_rfl) rfl rfl (by omega))) ?_
  refine Vt 4 rfl ?_
  refine V6 [.agg _, .slice _ _ _] rfl Tryz.func77 rfl ?_
  refine (checkOp_one p0 p1 p2 p3 p4 p5 p6 p7 _ k c (l.take k) D _ (htk.pure hI.pu) (by omega)).mono ?_
  rintro e w1 ⟨hp, ⟨hgood, _⟩ | ⟨_, x, ⟨u, rfl, hu8⟩, rfl⟩⟩
  ·exact absurd hgood hop
  refine ⟨_, rfl, ?_⟩
  replace hI := hI.pure hp
  refine WL_nil ⟨hXS _ hI, ?_⟩
  refine WT_take 5 rfl rfl (by kernel_rfl) (hXS _ hI) rfl (fun W hW => have hI := hSx W hW; (by exact rAsgnE rfl rfl)) ?_
  refine WT_end (by kernel_rfl) (W_seq (W_region (Vo rfl (Tf rfl Tryz.underlying29 rfl (WL_nil (W_cond true rfl (W_seq (W_region (Vo rfl (Vk rfl (WL_nil ?_)))))))))))
  refine W_ret ?_
  exact ret1 2 (.inr rfl) rfl ⟨hI.pu, .inr ⟨fun hh => by have := hh.2 k hkl; rw [hpk] at this; exact hop this, _, ⟨_, rfl, hu8⟩, rfl⟩⟩
theorem checkOps_any (A : Option Addr) (n c : Nat) (l : List Op8) (D : Nat → Prop) (w0 : World) (h : OpsR w0 D (.slice A n c) l) : Calls Tryz.prog 47 #[.slice A n c] w0 (OpsPost l w0) :=
 (checkOps8_any A n c l D w0 h).mono fun e w' hh => ⟨hh.1, hh.2.imp id fun ⟨h1, x, h2, h3⟩ => ⟨h1, x, h2.any, h3⟩⟩
/-- Whether ops may be looked at. -/
def OkLin (o : Int) (l : List Op8) (bud : Int) : Prop := 1 ≤ o ∧ o ≤ 6 ∧ 0 ≤ bud ∧ bud ≤ 1000000 ∧ OkOps l ∧ ∀ k, k < l.length → knowsF o (oAt l k).kind = true
def LinPost (o : Int) (l : List Op8) (bud : Int) (w0 : World) (en : Ending) (w' : World) : Prop := Pure w0 w' ∧ ((OkLin o l bud ∧ en = .returned .nilIface) ∨ (¬ OkLin o l bud ∧ ∃ x, IsErr x ∧ en = .returned x))
theorem LinPost.bad {o : Int} {l : List Op8} {bud : Int} {w0 w' : World} {z : Int} (h : ¬ OkLin o l bud) (hp : Pure w0 w') : LinPost o l bud w0 (.returned (.iface 49 (.int .i64 z))) w' := ⟨hp, .inr ⟨h, _, ⟨z, rfl⟩, rfl⟩⟩
set_option maxHeartbeats 2000000 in
theorem lcheck_any (o : Int) (A : Option Addr) (n c : Nat) (l : List Op8) (bud : Int) (D : Nat → Prop) (w0 : World) (h : OpsR w0 D (.slice A n c) l) (hk : KnOk w0) : Calls Tryz.prog 24 #[.int .i64 o, .slice A n c, .int .i64 bud] w0 (LinPost o l bud w0) := by
 obtain ⟨hn, hc1, hc2⟩ := h.len
 subst hn
 have hI := Inv.start (fun _ => False) w0
 refine Vm Tryz.f24.ntmps Tryz.func24 rfl ?_
 refine W_seq (W_region (Vf rfl (WL_nil (W_seq (W_block ?_)))))
 by_cases g1 : o < 1
 ·refine W_seq (W_region (V0 rfl (Vp rfl (V2 rfl (V1 rfl (V1 rfl (Vd rfl (V4 rfl (WL_nil (W_cond true rfl (W_seq (W_region (Vx rfl Tryz.underlying49 rfl ?_)))))))))))))
  refine Vk rfl (WL_nil ?_)
  refine W_ret ?_
  exact ret1 6 (.inr rfl) rfl (LinPost.bad (fun hh => by have := hh.1; omega) hI.pu)
 by_cases g2 : 6 < o
 ·refine W_seq (W_region (V0 rfl (Vn rfl (V2 rfl (V0 rfl (Ts rfl (V8 rfl (V4 rfl (WL_nil (W_cond true rfl (W_seq (W_region (Vx rfl Tryz.underlying49 rfl ?_)))))))))))))
  refine Vk rfl (WL_nil ?_)
  refine W_ret ?_
  exact ret1 6 (.inr rfl) rfl (LinPost.bad (fun hh => by have := hh.2.1; omega) hI.pu)
 refine W_seq (W_region (V0 rfl (Vn rfl (V2 rfl (V0 rfl (Td rfl (V8 rfl (V4 rfl (WL_nil (W_cond false rfl ?_))))))))))
 by_cases g3 : bud < 0
 ·refine W_seq (W_region (V0 rfl (Vp rfl (V2 rfl (V1 rfl (V1 rfl (Vd rfl (V4 rfl (WL_nil (W_cond true rfl (W_seq (W_region (Vx rfl Tryz.underlying49 rfl ?_)))))))))))))
  refine Vk rfl (WL_nil ?_)
  refine W_ret ?_
  exact ret1 6 (.inr rfl) rfl (LinPost.bad (fun hh => by have := hh.2.2.1; omega) hI.pu)
 by_cases g4 : 1000000 < bud
 ·refine W_seq (W_region (V0 rfl (Vn rfl (V2 rfl (V0 rfl (Ts rfl (V8 rfl (V4 rfl (WL_nil (W_cond true rfl (W_seq (W_region (Vx rfl Tryz.underlying49 rfl ?_)))))))))))))
  refine Vk rfl (WL_nil ?_)
  refine W_ret ?_
  exact ret1 6 (.inr rfl) rfl (LinPost.bad (fun hh => by have := hh.2.2.2.1; omega) hI.pu)
 refine W_seq (W_region (V0 rfl (Vn rfl (V2 rfl (V0 rfl (Td rfl (V8 rfl (V4 rfl (WL_nil (W_cond false rfl (W_skip ?_)))))))))))
 by_cases hok : OkOps l
 rotate_left
 ·refine W_seq (W_seq (W_region (Ve rfl (V6 [.slice _ _ _] rfl Tryz.func47 rfl ?_))))
  refine (checkOps_any A _ c l D _ (h.pure hI.pu)).mono ?_
  rintro e w1 ⟨hp, ⟨hg, _⟩ | ⟨_, x, ⟨u, rfl⟩, rfl⟩⟩
  ·exact absurd hg hok
  refine ⟨_, rfl, ?_⟩
  replace hI := hI.pure hp
  refine Vk rfl (WL_nil (W_seq (W_region (Vo rfl (Tf rfl Tryz.underlying29 rfl (WL_nil (W_cond true rfl (W_seq (W_region (Vo rfl (Vk rfl (WL_nil ?_))))))))))))
  refine W_ret ?_
  exact ret1 6 (.inr rfl) rfl (LinPost.bad (fun hh => hok hh.2.2.2.2.1) hI.pu)
 have hl40 := hok.1
 refine W_seq (W_seq (W_region (Ve rfl (V6 [.slice _ _ _] rfl Tryz.func47 rfl ?_))))
 refine (checkOps_any A _ c l D _ (h.pure hI.pu)).mono ?_
 rintro e w1 ⟨hp, ⟨_, rfl⟩ | ⟨hbad, _⟩⟩
 rotate_left
 ·exact absurd hok hbad
 refine ⟨_, rfl, ?_⟩
 replace hI := hI.pure hp
 refine Vf rfl (WL_nil (W_seq (W_region (T3 rfl (Tc rfl Tryz.underlying29 rfl (WL_nil (W_cond false rfl (W_skip (W_seq (W_seq (W_region (Ve rfl (Vs rfl Tryz.underlying40 rfl ?_)))))))))))))
 refine V0 rfl (WL_nil (W_block ?_))
 refine W_loopN (fun mu ρ w => ∃ k : Nat, mu = l.length - k ∧ k ≤ l.length ∧ (∀ j, j < k → knowsF o (oAt l j).kind = true) ∧ Has ρ [(33, .int .i64 (k : Int)), (32, .int .i64 (l.length : Int)), (31, .slice A l.length c), (0, .int .i64 o)] ∧ Inv (fun _ => False) w0 w []) l.length
  ⟨0, rfl, by omega, fun j hj => by omega, ⟨rfl, rfl, rfl, rfl, trivial⟩, hI⟩ ?_
 clear hI
 rintro mu ρ w ⟨k, rfl, hkk, hall, hH, hI⟩
 obtain ⟨σ, rfl⟩ := hH.open
 by_cases hkl : k < l.length
 rotate_left
 ·obtain rfl : k = l.length := by omega
  refine W_seq (W_region (Vn rfl (WL_nil (W_seq (W_cond false rfl ?_)))))
  refine W_exit ?_
  refine W_seq (W_region (Vf rfl (WL_nil ?_)))
  refine W_ret ?_
  exact ret1 6 (.inr rfl) rfl ⟨hI.pu, .inl ⟨⟨by omega, by omega, by omega, by omega, hok, hall⟩, rfl⟩⟩
 obtain ⟨ab, ao, rfl, hoc⟩ := h.at hkl
 generalize hpk : oAt l k = pk at hoc
 obtain ⟨p0, p1, p2, p3, p4, p5, p6, p7⟩ := pk
 refine W_seq (W_region (Vp rfl (WL_nil (W_seq (W_cond true rfl (W_skip (W_seq (W_block (W_seq (W_region (Ti 8 rfl Tryz.underlying40 rfl (Ue 8 rfl (by rfl) (fun k u hk => hI.oldp (hoc k u hk)) (T0 (.agg #[.int .i64 0, .int .i64 0, .int .i64 0, .int .i64 0, .int .i64 0, .int .i64 0, .int .i64 0, .int .i64 0]) (#[.int .i64 0, .int .i64 0, .int .i64 0, .int .i64 0, .int .i64 0, .int .i64 0, .int .i64 0, .int .i64 0]) hI rfl ?_)))))))))))))
 clear hI; rintro b9 w - - hI
 refine T1 8 (#[_, _, _, _, _, _, _, _]) (.agg _) hI rfl ?_
 clear hI; intro w hI
 refine WL_nil ?_
 simp only [opV] at hI
 cases hkn : knowsF o p2 with
 | true =>
  refine W_seq (W_region (V0 rfl (V5 2 rfl (V3 (.int .i64 _) rfl (hI.c0 rfl) (V6 [.int .i64 _, .int .i64 _] rfl Tryz.func48 rfl ?_)))))
  refine (knows_any o p2 _ (hk.pure hI.pu)).mono ?_
  rw [hkn]
  rintro e w1 ⟨rfl, hp⟩
  refine ⟨_, rfl, ?_⟩
  replace hI := hI.pure hp
  refine T4 rfl (WL_nil (W_cond false rfl (W_skip ?_)))
  replace hI := hI.d0
  refine W_region (Vu rfl (V0 rfl (WL_nil ?_)))
  refine ⟨l.length - (k + 1), by omega, k + 1, rfl, by omega, fun j hj => ?_, ⟨rfl, rfl, rfl, rfl, trivial⟩, hI⟩
  rcases Nat.lt_or_ge j k with h1 | h1
  ·exact hall j h1
  ·obtain rfl : j = k := by omega
   rw [hpk]; exact hkn
 | false =>
  refine W_seq (W_region (V0 rfl (V5 2 rfl (V3 (.int .i64 _) rfl (hI.c0 rfl) (V6 [.int .i64 _, .int .i64 _] rfl Tryz.func48 rfl ?_)))))
  refine (knows_any o p2 _ (hk.pure hI.pu)).mono ?_
  rw [hkn]
  rintro e w1 ⟨rfl, hp⟩
  refine ⟨_, rfl, ?_⟩
  replace hI := hI.pure hp
  refine Ta rfl (WL_nil (W_cond true rfl (W_seq (W_region (Vx rfl Tryz.underlying49 rfl (Vk rfl (WL_nil ?_)))))))
  refine W_ret ?_
  exact ret1 6 (.inr rfl) rfl (LinPost.bad (fun hh => by have := hh.2.2.2.2.2 k hkl; rw [hpk] at this; rw [show knowsF o _ = false from hkn] at this; cases this) hI.pu)
def boolC (n : Nat) (f : Nat → Bool) : Array Value := ((List.range n).map fun i => Value.bool (f i)).toArray
theorem boolC_get {n : Nat} (f : Nat → Bool) {i : Nat} (hi : i < n) : (boolC n f)[i]? = some (.bool (f i)) := by simp [boolC, hi]
theorem boolC_set {n : Nat} (f : Nat → Bool) (u : Nat) (b : Bool) : (boolC n f).setIfInBounds u (.bool b) = boolC n (fun x => if x = u then b else f x) := by
 apply Array.ext'
 simp only [boolC, Array.toList_setIfInBounds]
 refine List.ext_getElem (by simp) (fun i h1 h2 => ?_)
 simp only [List.getElem_set, List.getElem_map, List.getElem_range]
 by_cases h : u = i
 ·subst h; simp
 ·rw [if_neg h, if_neg (Ne.symm h)]
theorem boolC_zero (n : Nat) : rep (.bool false) n = boolC n (fun _ => false) := by
 apply Array.ext'
 simp [rep, boolC, List.map_const']
theorem boolC_congr {n : Nat} {f g : Nat → Bool} (h : ∀ i, i < n → f i = g i) : boolC n f = boolC n g := by
 unfold boolC
 congr 1
 exact List.map_congr_left fun i hi => by rw [h i (List.mem_range.1 hi)]
/-- Which ops the first p places of an order name. -/
def dnF (order : List Int) (p i : Nat) : Bool := (order.take p).contains ((i : Nat) : Int)
theorem dnF_succ {order : List Int} {p : Nat} (hp : p < order.length) {m : Nat} (hm : order[p] = (m : Int)) (i : Nat) : dnF order (p + 1) i = if i = m then true else dnF order p i := by
 unfold dnF
 rw [List.take_succ_eq_append_getElem hp, hm]
 by_cases h : i = m
 ·subst h; simp
 ·rw [if_neg h]
  rw [Bool.eq_iff_iff]
  simp
  omega
/-- The first p places of an order are good. -/
def OrdP (l : List Op8) (order : List Int) (p : Nat) : Prop := ∀ j (hj : j < order.length), j < p → 0 ≤ order[j] ∧ order[j] < l.length ∧ dnF order j order[j].toNat = false ∧ ∀ i (hi : i < order.length), i < j → befB (oAt l order[j].toNat) (oAt l order[i].toNat) = false
def ShowsP (o : Int) (l : List Op8) (order : List Int) : Prop := OrdP l order order.length ∧ (∀ i, i < l.length → 0 ≤ (oAt l i).ret → dnF order order.length i = true) ∧ runF o l order = -1
def ShowsPost (o : Int) (l : List Op8) (order : List Int) (w0 : World) (en : Ending) (w' : World) : Prop :=
 Pure w0 w' ∧ ((OkLin o l 0 ∧ ∃ b : Bool, en = .returned (.tuple #[.bool b, .nilIface]) ∧ (b = true ↔ ShowsP o l order)) ∨ (¬ OkLin o l 0 ∧ ∃ x, IsErr x ∧ en = .returned (.tuple #[.bool false, x])))
theorem ShowsPost.no {o : Int} {l : List Op8} {order : List Int} {w0 w' : World} (hl : OkLin o l 0) (h : ¬ ShowsP o l order) (hp : Pure w0 w') : ShowsPost o l order w0 (.returned (.tuple #[.bool false, .nilIface])) w' := ⟨hp, .inl ⟨hl, false, rfl, by simp; exact h⟩⟩
theorem OkLin.key {o : Int} {l : List Op8} {bud : Int} (h : OkLin o l bud) : ∀ i, i < l.length → 0 ≤ (oAt l i).key ∧ (oAt l i).key < 8 := fun i hi => by
 have h1 := (h.2.2.2.2.1.2 i hi).1
 unfold toldB inB at h1
 simp at h1
 omega
set_option maxHeartbeats 4000000 in
theorem shows_any (o : Int) (A : Option Addr) (n c : Nat) (l : List Op8) (A' : Option Addr) (c' : Nat) (order : List Int) (D D' : Nat → Prop) (w0 : World) (h : OpsR w0 D (.slice A n c) l) (hr : Rd w0 D' 1 (.slice A' order.length c') order.length (i64s order)) (hb : order.length ≤ 10000) (hk : KnOk w0) :
  Calls Tryz.prog 10 #[.int .i64 o, .slice A n c, .slice A' order.length c'] w0 (ShowsPost o l order w0) := by
 obtain ⟨hn, hc1, hc2⟩ := h.len
 subst hn
 have hI := Inv.start (fun _ => False) w0
 refine Vm Tryz.f10.ntmps Tryz.func10 rfl ?_
 refine W_seq (W_region (V4 rfl (Vf rfl (WL_nil ?_))))
 by_cases hok : OkLin o l 0
 rotate_left
 ·refine W_seq (W_seq (W_region (V0 rfl (Ve rfl (V6 [.int .i64 _, .slice _ _ _, .int .i64 _] rfl Tryz.func24 rfl ?_)))))
  refine (lcheck_any o A _ c l 0 D _ (h.pure hI.pu) (hk.pure hI.pu)).mono ?_
  rintro e w1 ⟨hp, ⟨hg, _⟩ | ⟨_, x, ⟨u, rfl⟩, rfl⟩⟩
  ·exact absurd hg hok
  refine ⟨_, rfl, ?_⟩
  replace hI := hI.pure hp
  refine Vk rfl (WL_nil (W_seq (W_region (Vo rfl (Tf rfl Tryz.underlying29 rfl (WL_nil (W_cond true rfl (W_seq (W_region (Vo rfl (V4 rfl (Vk rfl (WL_nil ?_)))))))))))))
  refine W_ret ?_
  exact ret2 6 7 (.inr rfl) rfl ⟨hI.pu, .inr ⟨hok, _, ⟨_, rfl⟩, rfl⟩⟩
 have hl40 := hok.2.2.2.2.1.1
 refine W_seq (W_seq (W_region (V0 rfl (Ve rfl (V6 [.int .i64 _, .slice _ _ _, .int .i64 _] rfl Tryz.func24 rfl ?_)))))
 refine (lcheck_any o A _ c l 0 D _ (h.pure hI.pu) (hk.pure hI.pu)).mono ?_
 rintro e w1 ⟨hp, ⟨_, rfl⟩ | ⟨hbad, _⟩⟩
 rotate_left
 ·exact absurd hok hbad
 refine ⟨_, rfl, ?_⟩
 replace hI := hI.pure hp
 refine Vf rfl (WL_nil (W_seq (W_region (T3 rfl (Tc rfl Tryz.underlying29 rfl (WL_nil (W_cond false rfl (W_skip (W_seq (W_region (Ve rfl (Vs rfl Tryz.underlying40 rfl ?_))))))))))))
 refine WL_mk (by_ := 1) (z := .bool false) hI rfl rfl rfl rfl rfl rfl Tryz.underlying70 (by kernel_rfl) rfl (by omega) (by omega) ?_
 clear hI; rintro b24 w - - hI
 refine Vl rfl (WL_nil ?_)
 replace hI : Inv (fun _ => False) w0 w [B b24 4 (boolC l.length (dnF order 0))] := by
  have e : boolC l.length (dnF order 0) = rep (.bool false) l.length := by rw [boolC_zero]; exact boolC_congr fun i _ => by simp [dnF]
  rw [e]; exact hI
 refine W_seq_cut (fun ρ w => OrdP l order order.length ∧ Has ρ [(0, .int .i64 o), (1, .slice A l.length c), (2, .slice A' order.length c'), (9, .slice (some ⟨b24, 0, none⟩) l.length l.length)] ∧ Inv (fun _ => False) w0 w [B b24 4 (boolC l.length (dnF order order.length))]) ?_ ?_
 ·refine W_seq (W_region (Ve rfl (Vs rfl Tryz.underlying26 rfl (V0 rfl (WL_nil (W_block ?_))))))
  refine W_loopN (fun mu ρ w => ∃ p : Nat, mu = order.length - p ∧ p ≤ order.length ∧ OrdP l order p ∧ Has ρ [(27, .int .i64 (p : Int)), (26, .int .i64 (order.length : Int)), (25, .slice A' order.length c'), (0, .int .i64 o), (1, .slice A l.length c), (2, .slice A' order.length c'), (9, .slice (some ⟨b24, 0, none⟩) l.length l.length)] ∧ Inv (fun _ => False) w0 w [B b24 4 (boolC l.length (dnF order p))]) order.length
   ⟨0, rfl, by omega, fun j _ hj => by omega, ⟨rfl, rfl, rfl, rfl, rfl, rfl, rfl, trivial⟩, hI⟩ ?_
  clear hI
  rintro mu ρ w ⟨p, rfl, hp, hord, hH, hI⟩
  obtain ⟨σ, rfl⟩ := hH.open
  by_cases hpl : p < order.length
  rotate_left
  ·obtain rfl : p = order.length := by omega
   refine W_seq (W_region (Vn rfl (WL_nil (W_seq (W_cond false rfl ?_)))))
   refine W_exit ?_
   exact ⟨hord, ⟨rfl, rfl, rfl, rfl, trivial⟩, hI⟩
  have hi0 : (i64s order)[p]? = some (.int .i64 (order[p]'hpl)) := by simp [i64s, hpl]
  obtain ⟨ob, oo, rfl, _, _, hcell⟩ := hr.get hi0 (by omega)
  have hbadp : ¬ (0 ≤ order[p] ∧ order[p] < l.length ∧ dnF order p order[p].toNat = false ∧ ∀ i (hi : i < order.length), i < p → befB (oAt l order[p].toNat) (oAt l order[i].toNat) = false) → ¬ ShowsP o l order := fun hb hs => hb (hs.1 p hpl hpl)
  generalize hio : order[p]'hpl = i at hcell hbadp
  refine W_seq (W_region (Vp rfl (WL_nil (W_seq (W_cond true rfl (W_skip (W_seq (W_block (W_seq (W_region (V0 rfl (Uf rfl Tryz.underlying26 rfl (V3 (.int .i64 _) rfl (hI.oldp hcell) ?_)))))))))))))
  refine Va rfl (Va rfl (WL_nil ?_))
  by_cases hneg : i < 0
  ·refine W_seq (W_seq (W_region (V0 rfl (Vp rfl (V2 rfl (V1 rfl (V1 rfl (V1 rfl (V1 rfl (Vd rfl (V2 rfl (V1 rfl (V1 rfl ?_)))))))))))))
   refine V1 rfl (V1 rfl (Vd rfl (WL_nil (W_cond true rfl (W_seq (W_region (V4 rfl (Vf rfl (WL_nil ?_)))))))))
   refine W_ret ?_
   exact ret2 6 7 (.inr rfl) rfl (ShowsPost.no hok (hbadp fun hh => by have := hh.1; omega) hI.pu)
  by_cases hbig : (l.length : Int) ≤ i
  ·refine W_seq (W_seq (W_region (V0 rfl (Vn rfl (V2 rfl (V0 rfl (Ve rfl (Vs rfl Tryz.underlying40 rfl (Tg rfl (V8 rfl (V2 rfl (V1 rfl (V1 rfl ?_)))))))))))))
   refine V1 rfl (V1 rfl (Vd rfl (WL_nil (W_cond true rfl (W_seq (W_region (V4 rfl (Vf rfl (WL_nil ?_)))))))))
   refine W_ret ?_
   exact ret2 6 7 (.inr rfl) rfl (ShowsPost.no hok (hbadp fun hh => by have := hh.2.1; omega) hI.pu)
  obtain ⟨m, rfl⟩ : ∃ m : Nat, i = (m : Int) := ⟨i.toNat, by omega⟩
  have hm : m < l.length := by omega
  rw [Int.toNat_natCast] at hbadp
  have hdg := boolC_get (n := l.length) (dnF order p) hm
  cases hdn : dnF order p m with
  | true =>
   rw [hdn] at hdg
   refine W_seq (W_seq (W_region (V0 rfl (Vn rfl (V2 rfl (V0 rfl (Ve rfl (Vs rfl Tryz.underlying40 rfl (To rfl (V8 rfl (V2 rfl (Ve rfl (V0 rfl ?_)))))))))))))
   refine Tj rfl Tryz.underlying70 rfl (V3 (.bool _) rfl (hI.c0 hdg) (V8 rfl (WL_nil (W_cond true rfl (W_seq (W_region (V4 rfl (Vf rfl (WL_nil ?_)))))))))
   refine W_ret ?_
   exact ret2 6 7 (.inr rfl) rfl (ShowsPost.no hok (hbadp fun hh => by have := hh.2.2.1; rw [hdn] at this; cases this) hI.pu)
  | false =>
  rw [hdn] at hdg
  refine W_seq (W_seq (W_region (V0 rfl (Vn rfl (V2 rfl (V0 rfl (Ve rfl (Vs rfl Tryz.underlying40 rfl (To rfl (V8 rfl (V2 rfl (Ve rfl (V0 rfl ?_)))))))))))))
  refine Tj rfl Tryz.underlying70 rfl (V3 (.bool _) rfl (hI.c0 hdg) (V8 rfl (WL_nil (W_cond false rfl (W_skip (W_seq (W_region (Ve rfl (V0 rfl (Tj rfl Tryz.underlying70 rfl ?_))))))))))
  refine WL_st0 (u := .bool true) (j := m) hI rfl rfl rfl rfl rfl rfl (by kernel_rfl) rfl (by simp [Nat.blt, boolC]; omega) rfl ?_
  rw [boolC_set, ← boolC_congr (fun i _ => dnF_succ hpl hio i)]
  clear hI; intro w hI
  refine WL_nil ?_
  obtain ⟨ab, ao, rfl, hoc⟩ := h.at hm
  refine W_seq (W_region (Ve rfl (V0 rfl ?_)))
  refine WL_val rfl rfl rfl (rSliceTo (sz := 1) (i := p) rfl Tryz.underlying26 (by kernel_rfl) rfl rfl (by have := hr.form; obtain ⟨_, _, e1, e2, _⟩ := this; injection e1 with _ _ e3; omega)) ?_
  refine Vs rfl Tryz.underlying26 rfl (V0 rfl (WL_nil (W_block ?_)))
  refine W_loopN (fun mu ρ w => ∃ q : Nat, mu = p - q ∧ q ≤ p ∧ (∀ j (hj : j < order.length), j < q → befB (oAt l m) (oAt l order[j].toNat) = false) ∧ Has ρ [(53, .int .i64 (q : Int)), (52, .int .i64 (p : Int)), (51, .slice (some ⟨ob, oo, none⟩) p c'), (11, .int .i64 (m : Int)), (27, .int .i64 (p : Int)), (26, .int .i64 (order.length : Int)), (25, .slice (some ⟨ob, oo, none⟩) order.length c'), (0, .int .i64 o), (1, .slice (some ⟨ab, ao, none⟩) l.length c), (2, .slice (some ⟨ob, oo, none⟩) order.length c'), (9, .slice (some ⟨b24, 0, none⟩) l.length l.length)] ∧ Inv (fun _ => False) w0 w [B b24 4 (boolC l.length (dnF order (p + 1)))]) p
   ⟨0, rfl, by omega, fun j _ hj => by omega, ⟨rfl, rfl, rfl, rfl, rfl, rfl, rfl, rfl, rfl, rfl, rfl, trivial⟩, hI⟩ ?_
  clear hI
  rintro mu ρ w ⟨q, rfl, hq, hbef, hH, hI⟩
  obtain ⟨σ, rfl⟩ := hH.open
  by_cases hqp : q < p
  rotate_left
  ·obtain rfl : q = p := by omega
   refine W_seq (W_region (Vn rfl (WL_nil (W_seq (W_cond false rfl ?_)))))
   refine W_exit ?_
   refine W_region (Vu rfl (V0 rfl (WL_nil ?_)))
   refine ⟨order.length - (q + 1), by omega, q + 1, rfl, by omega, fun j hj hjp => ?_, ⟨rfl, rfl, rfl, rfl, rfl, rfl, rfl, trivial⟩, hI⟩
   rcases Nat.lt_or_ge j q with h1 | h1
   ·exact hord j hj h1
   ·obtain rfl : j = q := by omega
    rw [hio]
    exact ⟨by omega, by omega, hdn, hbef⟩
  have hql : q < order.length := by omega
  obtain ⟨g1, g2, _, _⟩ := hord q hql hqp
  have hq0 : (i64s order)[q]? = some (.int .i64 (order[q]'hql)) := by simp [i64s, hql]
  obtain ⟨ob', oo', hoe, _, _, hcellq⟩ := hr.get hq0 (by omega)
  injection hoe with hoe
  injection hoe with e1 e2
  subst e1 e2
  have hbq := fun (hb : befB (oAt l m) (oAt l order[q].toNat) = true) (hh : 0 ≤ (m : Int) ∧ (m : Int) < l.length ∧ dnF order p m = false ∧ ∀ i (hi : i < order.length), i < p → befB (oAt l m) (oAt l order[i].toNat) = false) => (show False from by
   have := hh.2.2.2 q hql hqp
   rw [hb] at this; cases this)
  have hbn : befB (oAt l m) (oAt l order[q].toNat) = false → ∀ j (hj : j < order.length), j < q + 1 → befB (oAt l m) (oAt l order[j].toNat) = false := fun hb j hj hj2 => by
   rcases Nat.lt_or_ge j q with h1 | h1
   ·exact hbef j hj h1
   ·obtain rfl : j = q := by omega
    exact hb
  generalize order[q]'hql = z at hcellq hbq hbn g1 g2
  obtain ⟨zn, rfl⟩ : ∃ zn : Nat, z = (zn : Int) := ⟨z.toNat, by omega⟩
  rw [Int.toNat_natCast] at hbq hbn
  obtain ⟨ab', ao', hae, hoc2⟩ := h.at (show zn < l.length by omega)
  injection hae with hae
  injection hae with e1 e2
  subst e1 e2
  refine W_seq (W_region (Vp rfl (WL_nil (W_seq (W_cond true rfl (W_skip (W_seq (W_block (W_seq (W_region (Uf rfl Tryz.underlying26 rfl (V3 (.int .i64 _) rfl (hI.oldp hcellq) (Va rfl ?_)))))))))))))
  refine WL_nil ?_
  cases hbf : befB (oAt l m) (oAt l zn) with
  | true =>
   refine W_seq (W_draw (by kernel_rfl) ?_)
   refine WA_inv (T := []) hI.drew ?_
   intro Sx hSx hXS
   replace hI := hI.drew
   refine T9 0 (hXS _ hI) rfl (Vw 1 (hXS _ hI) rfl ?_)
   refine WT_take 2 rfl rfl (by kernel_rfl) (hXS _ hI) rfl (fun W hW => have hI := hSx W hW; (rIdx (sz := 8) rfl Tryz.underlying40 (by kernel_rfl) rfl rfl (by omega))) ?_
   refine WT_take 3 rfl rfl (by kernel_rfl) (hXS _ hI) rfl (fun W hW => have hI := hSx W hW; (by exact rLdA (n := 8) rfl (by kernel_rfl) (by kernel_rfl) rfl (by rfl) (fun k u hk => hI.oldp (hoc k u hk)))) ?_
   refine T9 4 (hXS _ hI) rfl (Vw 5 (hXS _ hI) rfl ?_)
   refine WT_take 6 rfl rfl (by kernel_rfl) (hXS _ hI) rfl (fun W hW => have hI := hSx W hW; (rIdx (sz := 8) rfl Tryz.underlying40 (by kernel_rfl) rfl rfl (by omega))) ?_
   refine WT_take 7 rfl rfl (by kernel_rfl) (hXS _ hI) rfl (fun W hW => have hI := hSx W hW; (by exact rLdA (n := 8) rfl (by kernel_rfl) (by kernel_rfl) rfl (by rfl) (fun k u hk => hI.oldp (hoc2 k u hk)))) ?_
   refine Vt 8 rfl ?_
   refine V6 [.agg _, .agg _] rfl Tryz.func25 rfl ?_
   refine (before_any (oAt l m) (oAt l zn) _).mono ?_
   rw [hbf]
   rintro e w1 ⟨rfl, hp1⟩
   refine ⟨_, rfl, ?_⟩
   replace hI := hI.pure hp1
   refine WL_nil ⟨hXS _ hI, ?_⟩
   refine WT_end (by kernel_rfl) (W_cond true rfl (W_seq (W_region (V4 rfl (Vf rfl (WL_nil ?_))))))
   refine W_ret ?_
   exact ret2 6 7 (.inr rfl) rfl (ShowsPost.no hok (hbadp (hbq hbf)) hI.pu)
  | false =>
   refine W_seq (W_draw (by kernel_rfl) ?_)
   refine WA_inv (T := []) hI.drew ?_
   intro Sx hSx hXS
   replace hI := hI.drew
   refine T9 0 (hXS _ hI) rfl (Vw 1 (hXS _ hI) rfl ?_)
   refine WT_take 2 rfl rfl (by kernel_rfl) (hXS _ hI) rfl (fun W hW => have hI := hSx W hW; (rIdx (sz := 8) rfl Tryz.underlying40 (by kernel_rfl) rfl rfl (by omega))) ?_
   refine WT_take 3 rfl rfl (by kernel_rfl) (hXS _ hI) rfl (fun W hW => have hI := hSx W hW; (by exact rLdA (n := 8) rfl (by kernel_rfl) (by kernel_rfl) rfl (by rfl) (fun k u hk => hI.oldp (hoc k u hk)))) ?_
   refine T9 4 (hXS _ hI) rfl (Vw 5 (hXS _ hI) rfl ?_)
   refine WT_take 6 rfl rfl (by kernel_rfl) (hXS _ hI) rfl (fun W hW => have hI := hSx W hW; (rIdx (sz := 8) rfl Tryz.underlying40 (by kernel_rfl) rfl rfl (by omega))) ?_
   refine WT_take 7 rfl rfl (by kernel_rfl) (hXS _ hI) rfl (fun W hW => have hI := hSx W hW; (by exact rLdA (n := 8) rfl (by kernel_rfl) (by kernel_rfl) rfl (by rfl) (fun k u hk => hI.oldp (hoc2 k u hk)))) ?_
   refine Vt 8 rfl ?_
   refine V6 [.agg _, .agg _] rfl Tryz.func25 rfl ?_
   refine (before_any (oAt l m) (oAt l zn) _).mono ?_
   rw [hbf]
   rintro e w1 ⟨rfl, hp1⟩
   refine ⟨_, rfl, ?_⟩
   replace hI := hI.pure hp1
   refine WL_nil ⟨hXS _ hI, ?_⟩
   refine WT_end (by kernel_rfl) (W_cond false rfl (W_skip (W_region (Vu rfl (V0 rfl (WL_nil ?_))))))
   exact ⟨p - (q + 1), by omega, q + 1, rfl, by omega, hbn hbf, ⟨rfl, rfl, rfl, rfl, rfl, rfl, rfl, rfl, rfl, rfl, rfl, trivial⟩, hI⟩
 clear hI
 rintro ρ w ⟨hord, hH, hI⟩
 obtain ⟨σ, rfl⟩ := hH.open
 refine W_seq_cut (fun ρ w => (∀ i, i < l.length → 0 ≤ (oAt l i).ret → dnF order order.length i = true) ∧ Has ρ [(0, .int .i64 o), (1, .slice A l.length c), (2, .slice A' order.length c')] ∧ Inv (fun _ => False) w0 w []) ?_ ?_
 ·refine W_seq (W_region (Ve rfl (Vs rfl Tryz.underlying40 rfl (V0 rfl (WL_nil (W_block ?_))))))
  refine W_loopN (fun mu ρ w => ∃ k : Nat, mu = l.length - k ∧ k ≤ l.length ∧ (∀ i, i < k → 0 ≤ (oAt l i).ret → dnF order order.length i = true) ∧ Has ρ [(70, .int .i64 (k : Int)), (69, .int .i64 (l.length : Int)), (68, .slice A l.length c), (0, .int .i64 o), (1, .slice A l.length c), (2, .slice A' order.length c'), (9, .slice (some ⟨b24, 0, none⟩) l.length l.length)] ∧ Inv (fun _ => False) w0 w [B b24 4 (boolC l.length (dnF order order.length))]) l.length
   ⟨0, rfl, by omega, fun j hj => by omega, ⟨rfl, rfl, rfl, rfl, rfl, rfl, rfl, trivial⟩, hI⟩ ?_
  clear hI
  rintro mu ρ w ⟨k, rfl, hkk, hall, hH, hI⟩
  obtain ⟨σ, rfl⟩ := hH.open
  by_cases hkl : k < l.length
  rotate_left
  ·obtain rfl : k = l.length := by omega
   refine W_seq (W_region (Vn rfl (WL_nil (W_seq (W_cond false rfl ?_)))))
   refine W_exit ?_
   exact ⟨hall, ⟨rfl, rfl, rfl, trivial⟩, hI.d0⟩
  obtain ⟨ab, ao, rfl, hoc⟩ := h.at hkl
  have hdg := boolC_get (n := l.length) (dnF order order.length) hkl
  generalize hpk : oAt l k = pk at hoc
  obtain ⟨p0, p1, p2, p3, p4, p5, p6, p7⟩ := pk
  have hnext : (0 ≤ p7 → dnF order order.length k = true) → ∀ i, i < k + 1 → 0 ≤ (oAt l i).ret → dnF order order.length i = true := fun hb j hj => by
   rcases Nat.lt_or_ge j k with h1 | h1
   ·exact hall j h1
   ·obtain rfl : j = k := by omega
    rw [hpk]; exact hb
  refine W_seq (W_region (Vp rfl (WL_nil (W_seq (W_cond true rfl (W_skip (W_seq (W_block (W_seq (W_region (V0 rfl (Ti 8 rfl Tryz.underlying40 rfl (Ue 8 rfl (by rfl) (fun k u hk => hI.oldp (hoc k u hk)) ?_)))))))))))))
  refine T0 (.agg #[.int .i64 0, .int .i64 0, .int .i64 0, .int .i64 0, .int .i64 0, .int .i64 0, .int .i64 0, .int .i64 0]) (#[.int .i64 0, .int .i64 0, .int .i64 0, .int .i64 0, .int .i64 0, .int .i64 0, .int .i64 0, .int .i64 0]) hI rfl ?_
  clear hI; rintro b15 w - - hI
  refine Va rfl (T1 8 (#[_, _, _, _, _, _, _, _]) (.agg _) hI rfl ?_)
  clear hI; intro w hI
  refine WL_nil ?_
  simp only [opV] at hI
  by_cases hr0 : 0 ≤ p7
  ·cases hdn : dnF order order.length k with
   | true =>
    rw [hdn] at hdg
    refine W_seq (W_region (V5 7 rfl (V3 (.int .i64 _) rfl (hI.c0 rfl) (Tg rfl (V2 rfl (Ve rfl (V0 rfl (Tj rfl Tryz.underlying70 rfl (V3 (.bool _) rfl (hI.c1 hdg) (T4 rfl (Vd rfl (WL_nil (W_cond false rfl ?_)))))))))))))
    refine W_skip ?_
    replace hI := hI.d0
    refine W_region (Vu rfl (V0 rfl (WL_nil ?_)))
    exact ⟨l.length - (k + 1), by omega, k + 1, rfl, by omega, hnext (fun _ => hdn), ⟨rfl, rfl, rfl, rfl, rfl, rfl, rfl, trivial⟩, hI⟩
   | false =>
    rw [hdn] at hdg
    refine W_seq (W_region (V5 7 rfl (V3 (.int .i64 _) rfl (hI.c0 rfl) (Tg rfl (V2 rfl (Ve rfl (V0 rfl (Tj rfl Tryz.underlying70 rfl (V3 (.bool _) rfl (hI.c1 hdg) (Ta rfl (Vd rfl (WL_nil (W_cond true rfl ?_)))))))))))))
    refine W_seq (W_region (V4 rfl (Vf rfl (WL_nil ?_))))
    refine W_ret ?_
    exact ret2 6 7 (.inr rfl) rfl (ShowsPost.no hok (fun hs => by have := hs.2.1 k hkl (by rw [hpk]; exact hr0); rw [hdn] at this; cases this) hI.pu)
  ·refine W_seq (W_region (V5 7 rfl (V3 (.int .i64 _) rfl (hI.c0 rfl) (To rfl (V2 rfl (V1 rfl (V1 rfl (V1 rfl (V1 rfl (V1 rfl (V8 rfl (WL_nil (W_cond false rfl ?_)))))))))))))
   refine W_skip ?_
   replace hI := hI.d0
   refine W_region (Vu rfl (V0 rfl (WL_nil ?_)))
   exact ⟨l.length - (k + 1), by omega, k + 1, rfl, by omega, hnext (fun e => absurd e hr0), ⟨rfl, rfl, rfl, rfl, rfl, rfl, rfl, trivial⟩, hI⟩
 clear hI
 rintro ρ w ⟨hall, hH, hI⟩
 obtain ⟨σ, rfl⟩ := hH.open
 refine W_seq (W_region (V0 rfl (Ve rfl (Ve rfl (V6 [.int .i64 _, .slice _ _ _, .slice _ _ _] rfl Tryz.func26 rfl ?_)))))
 refine (run_any o A _ c l A' c' order D D' _ (h.pure hI.pu) (hr.pure hI.pu) hok.key hb (hk.pure hI.pu)).mono ?_
 rintro e w1 ⟨rfl, hp1⟩
 refine ⟨_, rfl, ?_⟩
 replace hI := hI.pure hp1
 refine WL_val rfl rfl rfl (rEql rfl rfl rfl) ?_
 refine V4 rfl (Vf rfl (WL_nil ?_))
 refine W_ret ?_
 refine ret2 6 7 (.inr rfl) rfl ⟨hI.pu, .inl ⟨hok, decide (runF o l order = -1), rfl, ?_⟩⟩
 simp only [decide_eq_true_eq]
 exact ⟨fun e => ⟨hord, hall, e⟩, fun hs => hs.2.2⟩
def allB (l : List Op8) (dn : Nat → Bool) : Prop := ∀ i, i < l.length → 0 ≤ (oAt l i).ret → dn i = true
set_option maxHeartbeats 2000000 in
theorem sall_any (sb : Nat) (A : Option Addr) (c : Nat) (l : List Op8) (db : Nat) (dn : Nat → Bool) (D : Nat → Prop) (w0 : World) (h : OpsR w0 D (.slice A l.length c) l) (h1 : w0.cell? ⟨sb, 1, none⟩ = some (.slice A l.length c)) (h4 : w0.cell? ⟨sb, 4, none⟩ = some (.slice (some ⟨db, 0, none⟩) l.length l.length)) (hd : Blk w0 db 4 (boolC l.length dn)) (hl : l.length ≤ 1000) :
  Calls Tryz.prog 109 #[.pointer (some ⟨sb, 0, none⟩)] w0 fun en w' => (∃ b : Bool, en = .returned (.bool b) ∧ (b = true ↔ allB l dn)) ∧ Pure w0 w' := by
 have hI := Inv.start (fun _ => False) w0
 refine Vm Tryz.f109.ntmps Tryz.func109 rfl ?_
 refine W_seq (W_region (V4 rfl (WL_nil (W_seq (W_seq (W_region (V7 rfl (Vb rfl (V5 1 rfl (V3 (.slice _ _ _) rfl (hI.oldp h1) (Vs rfl Tryz.underlying40 rfl (V0 rfl (WL_nil ?_)))))))))))))
 refine W_block ?_
 refine W_loopN (fun mu ρ w => ∃ k : Nat, mu = l.length - k ∧ k ≤ l.length ∧ (∀ i, i < k → 0 ≤ (oAt l i).ret → dn i = true) ∧ Has ρ [(10, .int .i64 (k : Int)), (9, .int .i64 (l.length : Int)), (8, .slice A l.length c), (0, .pointer (some ⟨sb, 0, none⟩))] ∧ Inv (fun _ => False) w0 w []) l.length
  ⟨0, rfl, by omega, fun j hj => by omega, ⟨rfl, rfl, rfl, rfl, trivial⟩, hI⟩ ?_
 clear hI
 rintro mu ρ w ⟨k, rfl, hkk, hall, hH, hI⟩
 obtain ⟨σ, rfl⟩ := hH.open
 by_cases hkl : k < l.length
 rotate_left
 ·obtain rfl : k = l.length := by omega
  refine W_seq (W_region (Vn rfl (WL_nil (W_seq (W_cond false rfl ?_)))))
  refine W_exit ?_
  refine W_seq (W_region (V4 rfl (WL_nil ?_)))
  refine W_ret ?_
  exact ret1 2 (.inr rfl) rfl ⟨⟨true, rfl, by simp; exact hall⟩, hI.pu⟩
 obtain ⟨ab, ao, rfl, hoc⟩ := h.at hkl
 have hdg := (hd.cell k).trans (boolC_get (n := l.length) dn hkl)
 generalize hpk : oAt l k = pk at hoc
 obtain ⟨p0, p1, p2, p3, p4, p5, p6, p7⟩ := pk
 have hnext : (0 ≤ p7 → dn k = true) → ∀ i, i < k + 1 → 0 ≤ (oAt l i).ret → dn i = true := fun hb j hj => by
  rcases Nat.lt_or_ge j k with h1 | h1
  ·exact hall j h1
  ·obtain rfl : j = k := by omega
   rw [hpk]; exact hb
 refine W_seq (W_region (Vp rfl (WL_nil (W_seq (W_cond true rfl (W_skip (W_seq (W_block (W_seq (W_region (V0 rfl (Ti 8 rfl Tryz.underlying40 rfl (Ue 8 rfl (by rfl) (fun k u hk => hI.oldp (hoc k u hk)) ?_)))))))))))))
 refine T0 (.agg #[.int .i64 0, .int .i64 0, .int .i64 0, .int .i64 0, .int .i64 0, .int .i64 0, .int .i64 0, .int .i64 0]) (#[.int .i64 0, .int .i64 0, .int .i64 0, .int .i64 0, .int .i64 0, .int .i64 0, .int .i64 0, .int .i64 0]) hI rfl ?_
 clear hI; rintro b4 w - - hI
 refine Va rfl (T1 8 (#[_, _, _, _, _, _, _, _]) (.agg _) hI rfl ?_)
 clear hI; intro w hI
 refine WL_nil ?_
 simp only [opV] at hI
 by_cases hr0 : 0 ≤ p7
 ·cases hdn : dn k with
  | true =>
   rw [hdn] at hdg
   refine W_seq (W_region (V5 7 rfl (V3 (.int .i64 _) rfl (hI.c0 rfl) (Tg rfl (V2 rfl (V7 rfl (Vb rfl (V5 4 rfl (V3 (.slice _ _ _) rfl (hI.oldp h4) (V0 rfl (Tj rfl Tryz.underlying70 rfl (V3 (.bool _) rfl (hI.oldp hdg) (T4 rfl ?_)))))))))))))
   refine Vd rfl (WL_nil (W_cond false rfl (W_skip ?_)))
   replace hI := hI.d0
   refine W_region (Vu rfl (V0 rfl (WL_nil ?_)))
   exact ⟨l.length - (k + 1), by omega, k + 1, rfl, by omega, hnext (fun _ => hdn), ⟨rfl, rfl, rfl, rfl, trivial⟩, hI⟩
  | false =>
   rw [hdn] at hdg
   refine W_seq (W_region (V5 7 rfl (V3 (.int .i64 _) rfl (hI.c0 rfl) (Tg rfl (V2 rfl (V7 rfl (Vb rfl (V5 4 rfl (V3 (.slice _ _ _) rfl (hI.oldp h4) (V0 rfl (Tj rfl Tryz.underlying70 rfl (V3 (.bool _) rfl (hI.oldp hdg) (Ta rfl ?_)))))))))))))
   refine Vd rfl (WL_nil (W_cond true rfl (W_seq (W_region (V4 rfl (WL_nil ?_))))))
   refine W_ret ?_
   exact ret1 2 (.inr rfl) rfl ⟨⟨false, rfl, by simp; exact fun hs => by have := hs k hkl (by rw [hpk]; exact hr0); rw [hdn] at this; cases this⟩, hI.pu⟩
 ·refine W_seq (W_region (V5 7 rfl (V3 (.int .i64 _) rfl (hI.c0 rfl) (To rfl (V2 rfl (V1 rfl (V1 rfl (V1 rfl (V1 rfl (V1 rfl (V1 rfl (V1 rfl (V1 rfl ?_)))))))))))))
  refine V8 rfl (WL_nil (W_cond false rfl (W_skip ?_)))
  replace hI := hI.d0
  refine W_region (Vu rfl (V0 rfl (WL_nil ?_)))
  exact ⟨l.length - (k + 1), by omega, k + 1, rfl, by omega, hnext (fun e => absurd e hr0), ⟨rfl, rfl, rfl, rfl, trivial⟩, hI⟩
/-- A function that says whether an op must be done ahead of another one. -/
structure AheadC (f : FuncId) (ab : Op8 → Op8 → Bool) : Prop where
 fn : ∃ fn : Func, Tryz.prog.funcs[f]? = some fn ∧ (fn.name == "runtime.NumGoroutine") = false ∧ fn.body.isNone = false
 calls : ∀ p q W, Calls Tryz.prog f #[.agg (opV p).toArray, .agg (opV q).toArray] W fun en w' => en = .returned (.bool (ab p q)) ∧ Pure W w'
def nextB (l : List Op8) (ab : Op8 → Op8 → Bool) (dn : Nat → Bool) (i : Nat) : Prop := dn i = false ∧ ∀ k, k < l.length → k ≠ i → dn k = false → ab (oAt l k) (oAt l i) = false
set_option maxHeartbeats 4000000 in
theorem snext_any (sb : Nat) (A : Option Addr) (c : Nat) (l : List Op8) (db f : Nat) (ab : Op8 → Op8 → Bool) (dn : Nat → Bool) (i : Nat) (D : Nat → Prop) (w0 : World) (h : OpsR w0 D (.slice A l.length c) l) (h1 : w0.cell? ⟨sb, 1, none⟩ = some (.slice A l.length c)) (h3 : w0.cell? ⟨sb, 3, none⟩ = some (.func (.func f) #[] #[])) (h4 : w0.cell? ⟨sb, 4, none⟩ = some (.slice (some ⟨db, 0, none⟩) l.length l.length)) (hd : Blk w0 db 4 (boolC l.length dn)) (hl : l.length ≤ 1000) (hi : i < l.length) (hf : AheadC f ab) :
  Calls Tryz.prog 111 #[.pointer (some ⟨sb, 0, none⟩), .int .i64 (i : Int)] w0 fun en w' => (∃ b : Bool, en = .returned (.bool b) ∧ (b = true ↔ nextB l ab dn i)) ∧ Pure w0 w' := by
 obtain ⟨⟨fn, f1, f2, f3⟩, hcall⟩ := hf
 have hI := Inv.start (fun _ => False) w0
 have hdi := (hd.cell i).trans (boolC_get (n := l.length) dn hi)
 refine Vm Tryz.f111.ntmps Tryz.func111 rfl ?_
 refine W_seq (W_region (V4 rfl (WL_nil ?_)))
 cases hdn0 : dn i with
 | true =>
  rw [hdn0] at hdi
  refine W_seq (W_seq (W_region (V7 rfl (Vb rfl (V5 4 rfl (V3 (.slice _ _ _) rfl (hI.oldp h4) (V0 rfl (Tj rfl Tryz.underlying70 rfl (V3 (.bool _) rfl (hI.oldp hdi) (WL_nil (W_cond true rfl (W_seq (W_region ?_)))))))))))))
  refine V4 rfl (WL_nil ?_)
  refine W_ret ?_
  exact ret1 4 (.inr rfl) rfl ⟨⟨false, rfl, by simp; exact fun hs => by have := hs.1; rw [hdn0] at this; cases this⟩, hI.pu⟩
 | false =>
 rw [hdn0] at hdi
 refine W_seq (W_seq (W_region (V7 rfl (Vb rfl (V5 4 rfl (V3 (.slice _ _ _) rfl (hI.oldp h4) (V0 rfl (Tj rfl Tryz.underlying70 rfl (V3 (.bool _) rfl (hI.oldp hdi) (WL_nil (W_cond false rfl (W_skip (W_seq ?_)))))))))))))
 refine W_seq (W_region (V7 rfl (Vb rfl (V5 1 rfl (V3 (.slice _ _ _) rfl (hI.oldp h1) (Vs rfl Tryz.underlying40 rfl (V0 rfl (WL_nil (W_block ?_)))))))))
 refine W_loopN (fun mu ρ w => ∃ k : Nat, mu = l.length - k ∧ k ≤ l.length ∧ (∀ j, j < k → j ≠ i → dn j = false → ab (oAt l j) (oAt l i) = false) ∧ Has ρ [(19, .int .i64 (k : Int)), (18, .int .i64 (l.length : Int)), (17, .slice A l.length c), (0, .pointer (some ⟨sb, 0, none⟩)), (1, .int .i64 (i : Int))] ∧ Inv (fun _ => False) w0 w []) l.length
  ⟨0, rfl, by omega, fun j hj => by omega, ⟨rfl, rfl, rfl, rfl, rfl, trivial⟩, hI⟩ ?_
 clear hI
 rintro mu ρ w ⟨k, rfl, hkk, hall, hH, hI⟩
 obtain ⟨σ, rfl⟩ := hH.open
 by_cases hkl : k < l.length
 rotate_left
 ·obtain rfl : k = l.length := by omega
  refine W_seq (W_region (Vn rfl (WL_nil (W_seq (W_cond false rfl ?_)))))
  refine W_exit ?_
  refine W_seq (W_region (V4 rfl (WL_nil ?_)))
  refine W_ret ?_
  exact ret1 4 (.inr rfl) rfl ⟨⟨true, rfl, by simp; exact ⟨hdn0, hall⟩⟩, hI.pu⟩
 obtain ⟨bA, oA, rfl, hoc⟩ := h.at hkl
 obtain ⟨bA', oA', hae, hoci⟩ := h.at hi
 injection hae with hae
 injection hae with e1 e2
 subst e1 e2
 have hdg := (hd.cell k).trans (boolC_get (n := l.length) dn hkl)
 have hnext : (k ≠ i → dn k = false → ab (oAt l k) (oAt l i) = false) → ∀ j, j < k + 1 → j ≠ i → dn j = false → ab (oAt l j) (oAt l i) = false := fun hb j hj => by
  rcases Nat.lt_or_ge j k with h1 | h1
  ·exact hall j h1
  ·obtain rfl : j = k := by omega
   exact hb
 refine W_seq (W_region (Vp rfl (WL_nil (W_seq (W_cond true rfl (W_skip (W_seq (W_block (W_seq (W_region (V0 rfl (Ti 8 rfl Tryz.underlying40 rfl (Ue 8 rfl (by rfl) (fun k u hk => hI.oldp (hoc k u hk)) ?_)))))))))))))
 refine T0 (.agg #[.int .i64 0, .int .i64 0, .int .i64 0, .int .i64 0, .int .i64 0, .int .i64 0, .int .i64 0, .int .i64 0]) (#[.int .i64 0, .int .i64 0, .int .i64 0, .int .i64 0, .int .i64 0, .int .i64 0, .int .i64 0, .int .i64 0]) hI rfl ?_
 clear hI; rintro b6 w - - hI
 refine Va rfl (T1 8 (#[_, _, _, _, _, _, _, _]) (.agg _) hI rfl ?_)
 clear hI; intro w hI
 refine WL_nil ?_
 by_cases hki : k = i
 ·refine W_seq (W_draw (by kernel_rfl) ?_)
  refine WA_inv (T := []) hI.drew ?_
  intro Sx hSx hXS
  replace hI := hI.drew
  refine Vw 0 (hXS _ hI) rfl (Vw 1 (hXS _ hI) rfl (U8 2 (hXS _ hI) rfl (T5 3 (hXS _ hI) rfl (Vj 4 rfl (hXS _ hI) rfl (Vj 5 rfl (hXS _ hI) rfl (Vj 6 rfl (hXS _ hI) rfl (Vj 7 rfl (hXS _ hI) rfl (Vj 8 rfl (hXS _ hI) rfl (Vj 9 rfl (hXS _ hI) rfl (Vj 10 rfl (hXS _ hI) rfl (Vj 11 rfl (hXS _ hI) rfl (Tm 12 (hXS _ hI) rfl (T5 13 (hXS _ hI) rfl ?_)))))))))))))
  refine Vj 14 rfl (hXS _ hI) rfl (Vj 15 rfl (hXS _ hI) rfl (Vj 16 rfl (hXS _ hI) rfl (Vj 17 rfl (hXS _ hI) rfl (Vj 18 rfl (hXS _ hI) rfl (Vj 19 rfl (hXS _ hI) rfl (Vj 20 rfl (hXS _ hI) rfl (Vj 21 rfl (hXS _ hI) rfl (Vj 22 rfl (hXS _ hI) rfl (Vj 23 rfl (hXS _ hI) rfl (Vj 24 rfl (hXS _ hI) rfl (Vj 25 rfl (hXS _ hI) rfl (Vj 26 rfl (hXS _ hI) rfl (Tm 27 (hXS _ hI) rfl ?_)))))))))))))
  refine WT_end (by kernel_rfl) (W_cond false rfl (W_skip ?_))
  replace hI := hI.d0
  refine W_region (Vu rfl (V0 rfl (WL_nil ?_)))
  exact ⟨l.length - (k + 1), by omega, k + 1, rfl, by omega, hnext (fun e => absurd hki e), ⟨rfl, rfl, rfl, rfl, rfl, trivial⟩, hI⟩
 cases hdnk : dn k with
 | true =>
  rw [hdnk] at hdg
  refine W_seq (W_draw (by kernel_rfl) ?_)
  refine WA_inv (T := []) hI.drew ?_
  intro Sx hSx hXS
  replace hI := hI.drew
  refine Vw 0 (hXS _ hI) rfl (Vw 1 (hXS _ hI) rfl (Uj 2 (hXS _ hI) rfl (T5 3 (hXS _ hI) rfl (Vh 4 (hXS _ hI) rfl (Vi 5 (hXS _ hI) rfl (Vc 6 4 (hXS _ hI) rfl (V9 7 (.slice _ _ _) (hXS _ hI) rfl (fun W hW => (hSx W hW).oldp h4) (Vw 8 (hXS _ hI) rfl (U1 9 (hXS _ hI) rfl Tryz.underlying70 rfl (V9 10 (.bool _) (hXS _ hI) rfl (fun W hW => (hSx W hW).oldp hdg) ?_))))))))))
  refine WT_take 11 rfl rfl (by kernel_rfl) (hXS _ hI) rfl (fun W hW => have hI := hSx W hW; (by exact rNotT rfl rfl)) ?_
  refine Tu 12 (hXS _ hI) rfl (T5 13 (hXS _ hI) rfl (Vj 14 rfl (hXS _ hI) rfl (Vj 15 rfl (hXS _ hI) rfl (Vj 16 rfl (hXS _ hI) rfl (Vj 17 rfl (hXS _ hI) rfl (Vj 18 rfl (hXS _ hI) rfl (Vj 19 rfl (hXS _ hI) rfl (Vj 20 rfl (hXS _ hI) rfl (Vj 21 rfl (hXS _ hI) rfl (Vj 22 rfl (hXS _ hI) rfl (Vj 23 rfl (hXS _ hI) rfl (Vj 24 rfl (hXS _ hI) rfl (Vj 25 rfl (hXS _ hI) rfl ?_)))))))))))))
  refine Vj 26 rfl (hXS _ hI) rfl (Tm 27 (hXS _ hI) rfl (WT_end (by kernel_rfl) (W_cond false rfl (W_skip ?_))))
  replace hI := hI.d0
  refine W_region (Vu rfl (V0 rfl (WL_nil ?_)))
  exact ⟨l.length - (k + 1), by omega, k + 1, rfl, by omega, hnext (fun _ e => by rw [hdnk] at e; cases e), ⟨rfl, rfl, rfl, rfl, rfl, trivial⟩, hI⟩
 | false =>
  rw [hdnk] at hdg
  cases hab : ab (oAt l k) (oAt l i) with
  | true =>
   refine W_seq (W_draw (by kernel_rfl) ?_)
   refine WA_inv (T := []) hI.drew ?_
   intro Sx hSx hXS
   replace hI := hI.drew
   refine Vw 0 (hXS _ hI) rfl (Vw 1 (hXS _ hI) rfl (Uj 2 (hXS _ hI) rfl (T5 3 (hXS _ hI) rfl (Vh 4 (hXS _ hI) rfl (Vi 5 (hXS _ hI) rfl (Vc 6 4 (hXS _ hI) rfl (V9 7 (.slice _ _ _) (hXS _ hI) rfl (fun W hW => (hSx W hW).oldp h4) (Vw 8 (hXS _ hI) rfl (U1 9 (hXS _ hI) rfl Tryz.underlying70 rfl (V9 10 (.bool _) (hXS _ hI) rfl (fun W hW => (hSx W hW).oldp hdg) ?_))))))))))
   refine WT_take 11 rfl rfl (by kernel_rfl) (hXS _ hI) rfl (fun W hW => have hI := hSx W hW; (by exact rNotF rfl rfl)) ?_
   refine Tu 12 (hXS _ hI) rfl (T5 13 (hXS _ hI) rfl (Vh 14 (hXS _ hI) rfl (Vi 15 (hXS _ hI) rfl (Vc 16 3 (hXS _ hI) rfl (V9 17 (.func _ _ _) (hXS _ hI) rfl (fun W hW => (hSx W hW).oldp h3) ?_)))))
   refine WT_take 18 rfl rfl (by kernel_rfl) (hXS _ hI) rfl (fun W hW => have hI := hSx W hW; (by exact rLdB (n := 8) rfl (by kernel_rfl) (by kernel_rfl) rfl rfl hI.g0)) ?_
   refine Vh 19 (hXS _ hI) rfl (Vi 20 (hXS _ hI) rfl (Vc 21 1 (hXS _ hI) rfl (V9 22 (.slice _ _ _) (hXS _ hI) rfl (fun W hW => (hSx W hW).oldp h1) (Vw 23 (hXS _ hI) rfl ?_))))
   refine WT_take 24 rfl rfl (by kernel_rfl) (hXS _ hI) rfl (fun W hW => have hI := hSx W hW; (rIdx (sz := 8) rfl Tryz.underlying40 (by kernel_rfl) rfl rfl (by omega))) ?_
   refine WT_take 25 rfl rfl (by kernel_rfl) (hXS _ hI) rfl (fun W hW => have hI := hSx W hW; (by exact rLdA (n := 8) rfl (by kernel_rfl) (by kernel_rfl) rfl (by rfl) (fun k u hk => hI.oldp (hoci k u hk)))) ?_
   refine Vt 26 rfl ?_
   refine WL_call rfl rfl rfl (rCallF (f := f) (first := []) (cap := []) (vs := [.agg _, .agg _]) rfl rfl f1 f2 f3 rfl) ?_
   refine (hcall (oAt l k) (oAt l i) _).mono ?_
   rw [hab]
   rintro e w1 ⟨rfl, hp⟩
   refine ⟨_, rfl, ?_⟩
   replace hI := hI.pure hp
   refine WL_nil ⟨hXS _ hI, ?_⟩
   refine Tu 27 (hXS _ hI) rfl (WT_end (by kernel_rfl) (W_cond true rfl (W_seq (W_region (V4 rfl (WL_nil ?_))))))
   refine W_ret ?_
   exact ret1 4 (.inr rfl) rfl ⟨⟨false, rfl, by simp; exact fun hs => by have := hs.2 k hkl hki hdnk; rw [hab] at this; cases this⟩, hI.pu⟩
  | false =>
   refine W_seq (W_draw (by kernel_rfl) ?_)
   refine WA_inv (T := []) hI.drew ?_
   intro Sx hSx hXS
   replace hI := hI.drew
   refine Vw 0 (hXS _ hI) rfl (Vw 1 (hXS _ hI) rfl (Uj 2 (hXS _ hI) rfl (T5 3 (hXS _ hI) rfl (Vh 4 (hXS _ hI) rfl (Vi 5 (hXS _ hI) rfl (Vc 6 4 (hXS _ hI) rfl (V9 7 (.slice _ _ _) (hXS _ hI) rfl (fun W hW => (hSx W hW).oldp h4) (Vw 8 (hXS _ hI) rfl (U1 9 (hXS _ hI) rfl Tryz.underlying70 rfl (V9 10 (.bool _) (hXS _ hI) rfl (fun W hW => (hSx W hW).oldp hdg) ?_))))))))))
   refine WT_take 11 rfl rfl (by kernel_rfl) (hXS _ hI) rfl (fun W hW => have hI := hSx W hW; (by exact rNotF rfl rfl)) ?_
   refine Tu 12 (hXS _ hI) rfl (T5 13 (hXS _ hI) rfl (Vh 14 (hXS _ hI) rfl (Vi 15 (hXS _ hI) rfl (Vc 16 3 (hXS _ hI) rfl (V9 17 (.func _ _ _) (hXS _ hI) rfl (fun W hW => (hSx W hW).oldp h3) ?_)))))
   refine WT_take 18 rfl rfl (by kernel_rfl) (hXS _ hI) rfl (fun W hW => have hI := hSx W hW; (by exact rLdB (n := 8) rfl (by kernel_rfl) (by kernel_rfl) rfl rfl hI.g0)) ?_
   refine Vh 19 (hXS _ hI) rfl (Vi 20 (hXS _ hI) rfl (Vc 21 1 (hXS _ hI) rfl (V9 22 (.slice _ _ _) (hXS _ hI) rfl (fun W hW => (hSx W hW).oldp h1) (Vw 23 (hXS _ hI) rfl ?_))))
   refine WT_take 24 rfl rfl (by kernel_rfl) (hXS _ hI) rfl (fun W hW => have hI := hSx W hW; (rIdx (sz := 8) rfl Tryz.underlying40 (by kernel_rfl) rfl rfl (by omega))) ?_
   refine WT_take 25 rfl rfl (by kernel_rfl) (hXS _ hI) rfl (fun W hW => have hI := hSx W hW; (by exact rLdA (n := 8) rfl (by kernel_rfl) (by kernel_rfl) rfl (by rfl) (fun k u hk => hI.oldp (hoci k u hk)))) ?_
   refine Vt 26 rfl ?_
   refine WL_call rfl rfl rfl (rCallF (f := f) (first := []) (cap := []) (vs := [.agg _, .agg _]) rfl rfl f1 f2 f3 rfl) ?_
   refine (hcall (oAt l k) (oAt l i) _).mono ?_
   rw [hab]
   rintro e w1 ⟨rfl, hp⟩
   refine ⟨_, rfl, ?_⟩
   replace hI := hI.pure hp
   refine WL_nil ⟨hXS _ hI, ?_⟩
   refine Tu 27 (hXS _ hI) rfl (WT_end (by kernel_rfl) (W_cond false rfl (W_skip ?_)))
   replace hI := hI.d0
   refine W_region (Vu rfl (V0 rfl (WL_nil ?_)))
   exact ⟨l.length - (k + 1), by omega, k + 1, rfl, by omega, hnext (fun _ _ => hab), ⟨rfl, rfl, rfl, rfl, rfl, trivial⟩, hI⟩
/-- The states' slices. -/
def stL (L : Loc) (sts : Nat → List Int) : List Value := (List.range 8).map fun k => Value.slice (L k).1 (sts k).length (L k).2
theorem stL_get {L : Loc} {sts : Nat → List Int} {k : Nat} (hk : k < 8) : (stL L sts).toArray[k]? = some (.slice (L k).1 (sts k).length (L k).2) := by
 unfold stL
 rw [List.getElem?_toArray, List.getElem?_map, List.getElem?_range hk]
 rfl
def bitsF (dn : Nat → Bool) (j : Nat) : List Nat := (List.range j).map fun i => bitF (dn i)
theorem bitsF_succ (dn : Nat → Bool) (j : Nat) : bitsF dn (j + 1) = bitsF dn j ++ [bitF (dn j)] := by simp [bitsF, List.range_succ]
def encQ (l : List Int) (q : Nat) : List Nat := (l.take q).flatMap fun n => 32 :: itoa36 n
theorem encQ_succ {l : List Int} {q : Nat} (hq : q < l.length) : encQ l (q + 1) = encQ l q ++ [32] ++ itoa36 l[q] := by
 unfold encQ
 rw [List.take_succ_eq_append_getElem hq, List.flatMap_append, List.append_assoc]
 simp only [List.flatMap_cons, List.flatMap_nil, List.append_nil]
 rfl
theorem encQ_all (l : List Int) : encQ l l.length ++ [124] = encL l := by unfold encQ encL; rw [List.take_length]
theorem encS_succ (sts : Nat → List Int) (k : Nat) : encS sts (List.range (k + 1)) = encS sts (List.range k) ++ encL (sts k) := by simp [encS, List.range_succ]
theorem encQ_len (l : List Int) : ∀ q, (encQ l q).length ≤ 16 * q := by
 intro q
 induction q with
 | zero => simp [encQ]
 | succ q ih =>
  rcases Nat.lt_or_ge q l.length with h | h
  ·rw [encQ_succ h]
   have := itoa_len l[q]
   simp
   omega
  ·have : encQ l (q + 1) = encQ l q := by unfold encQ; rw [List.take_of_length_le h, List.take_of_length_le (by omega)]
   rw [this]; omega
theorem encL_len (l : List Int) : (encL l).length ≤ 16 * l.length + 1 := by
 rw [← encQ_all]
 have := encQ_len l l.length
 simp
 omega
theorem encS_len {sts : Nat → List Int} {m : Nat} (h : ∀ k, (sts k).length ≤ m) : ∀ k, (encS sts (List.range k)).length ≤ k * (16 * m + 1) := by
 intro k
 induction k with
 | zero => simp [encS]
 | succ k ih =>
  rw [encS_succ, List.length_append, Nat.add_mul, Nat.one_mul]
  have h1 := encL_len (sts k)
  have h2 := h k
  omega
theorem BytE.snoc {base c : Nat} {A : Option Addr} {l : List Nat} {b : Nat} : BytE base A c (l ++ [b]) = Row base 5 1 A (l.length + 1) c (bytC l ++ [.int .u8 (b : Int)]) := by
 unfold BytE
 rw [bytC_app, List.length_append]
 rfl
theorem rMulN {P : Program} {ρ : Env} {oo : Oper} {w : World} {x y : Operand} {t t' : TypeId} {a b : Nat} (ho : oo.op = .binOp .mul t x y t') (hx : ev ρ x = .int .i64 (a : Int)) (hy : ev ρ y = .int .i64 (b : Int)) (h : a * b ≤ 9223372036854775807) : Runs P ρ oo w (.int .i64 ((a * b : Nat) : Int)) := by
 have hn : (0 : Int) ≤ (a : Int) * (b : Int) := by rw [← Int.natCast_mul]; omega
 have hm : (a : Int) * (b : Int) ≤ 9223372036854775807 := by rw [← Int.natCast_mul]; omega
 have := rMul (P := P) (w := w) ho hx hy ⟨by omega, hm⟩
 rwa [← Int.natCast_mul] at this
set_option maxHeartbeats 4000000 in
theorem skey_any (sb : Nat) (A : Option Addr) (c n db : Nat) (dn : Nat → Bool) (L : Loc) (sts : Nat → List Int) (w0 : World) (h1 : w0.cell? ⟨sb, 1, none⟩ = some (.slice A n c)) (h4 : w0.cell? ⟨sb, 4, none⟩ = some (.slice (some ⟨db, 0, none⟩) n n)) (hd : Blk w0 db 4 (boolC n dn))
  (h6 : ∀ (j : Nat) (u : Value), (stL L sts)[j]? = some u → w0.cell? ⟨sb, 6 + j, none⟩ = some u) (hst : ∀ k, k < 8 → Rd w0 (fun _ => True) 1 (.slice (L k).1 (sts k).length (L k).2) (sts k).length (i64s (sts k))) (hn : n ≤ 100) (hi : ∀ k, ∀ x ∈ sts k, i64B x) (hlen : ∀ k, (sts k).length ≤ 100) :
  Calls Tryz.prog 110 #[.pointer (some ⟨sb, 0, none⟩)] w0 fun en w' => en = .returned (.string (strB (keyF n dn sts))) ∧ Pure w0 w' := by
 have hI := Inv.start (fun _ => False) w0
 refine Vm Tryz.f110.ntmps Tryz.func110 rfl ?_
 refine W_seq (W_region (U2 rfl (WL_nil (W_seq (W_region (V7 rfl (Vb rfl (V5 1 rfl (V3 (.slice _ _ _) rfl (hI.oldp h1) (Vs rfl Tryz.underlying40 rfl ?_))))))))))
 refine WL_val rfl rfl rfl (rMulN (a := 2) (b := n) rfl rfl rfl (by omega)) ?_
 refine WL_mkCap (zv := .int .u8 0) (by_ := 1) (base := 0) hI rfl rfl rfl rfl rfl rfl Tryz.underlying248 (by kernel_rfl) (by omega) (by omega) (Nat.zero_le _) ?_
 clear hI; rintro b16 w _ _ hI
 refine Vl rfl (WL_nil ?_)
 replace hI : Inv (fun _ => False) w0 w [BytE 0 (some ⟨b16, 0, none⟩) (2 * n) (bitsF dn 0)] := hI
 refine W_seq_cut (fun ρ w => ∃ (A3 : Option Addr) (c3 : Nat), Has ρ [(3, .slice A3 (bitsF dn n).length c3), (0, .pointer (some ⟨sb, 0, none⟩))] ∧ Inv (fun _ => False) w0 w [BytE 0 A3 c3 (bitsF dn n)]) ?_ ?_
 ·refine W_seq (W_region (V7 rfl (Vb rfl (V5 4 rfl (V3 (.slice _ _ _) rfl (hI.oldp h4) (Vs rfl Tryz.underlying70 rfl (V0 rfl (WL_nil (W_block ?_)))))))))
  refine W_loopN (fun mu ρ w => ∃ (k : Nat) (A3 : Option Addr) (c3 : Nat), mu = n - k ∧ k ≤ n ∧ Has ρ [(22, .int .i64 (k : Int)), (21, .int .i64 (n : Int)), (20, .slice (some ⟨db, 0, none⟩) n n), (3, .slice A3 (bitsF dn k).length c3), (0, .pointer (some ⟨sb, 0, none⟩))] ∧ Inv (fun _ => False) w0 w [BytE 0 A3 c3 (bitsF dn k)]) n
   ⟨0, _, _, rfl, by omega, ⟨rfl, rfl, rfl, rfl, rfl, trivial⟩, hI⟩ ?_
  clear hI
  rintro mu ρ w ⟨k, A3, c3, rfl, hk, hH, hI⟩
  obtain ⟨σ, rfl⟩ := hH.open
  have hbl : (bitsF dn k).length = k := by simp [bitsF]
  by_cases hkn : k < n
  rotate_left
  ·obtain rfl : k = n := by omega
   refine W_seq (W_region (Vn rfl (WL_nil (W_seq (W_cond false rfl ?_)))))
   refine W_exit ?_
   exact ⟨A3, c3, ⟨rfl, rfl, trivial⟩, hI⟩
  have hdg := (hd.cell k).trans (boolC_get (n := n) dn hkn)
  cases hdn : dn k with
  | true =>
   rw [hdn] at hdg
   refine W_seq (W_region (Vp rfl (WL_nil (W_seq (W_cond true rfl (W_skip (W_seq (W_block (W_seq (W_region (Tj rfl Tryz.underlying70 rfl (V3 (.bool _) rfl (hI.oldp hdg) (V4 rfl ?_)))))))))))))
   refine WL_nil (W_seq (W_region (V2 rfl (WL_nil (W_cond true rfl (W_region (Ve rfl (Vy [(0, .int .u8 _)] [_] [.int .u8 0] [0] hI rfl Tryz.underlying248 (fun _ => by kernel_rfl) ?_))))))))
   clear hI; rintro b28 w - - hI
   refine Tq 1 (.int .u8 0) hI rfl Tryz.underlying248 rfl (by rfl) hI.lit0 (by rfl) (Nat.zero_le _) ?_
   clear hI; rintro A29 c29 w hA29 hc29 hI
   replace hI := hI.d0
   refine Vl rfl (WL_nil ?_)
   replace hI : Inv (fun _ => False) w0 w [BytE 0 A29 c29 (bitsF dn (k + 1))] := by
    rw [bitsF_succ, hdn, BytE.snoc]; exact hI
   refine W_region (Vu rfl (V0 rfl (WL_nil ?_)))
   exact ⟨n - (k + 1), by omega, k + 1, A29, c29, rfl, by omega, ⟨rfl, rfl, rfl, by rw [bitsF_succ, List.length_append]; rfl, rfl, trivial⟩, hI⟩
  | false =>
   rw [hdn] at hdg
   refine W_seq (W_region (Vp rfl (WL_nil (W_seq (W_cond true rfl (W_skip (W_seq (W_block (W_seq (W_region (Tj rfl Tryz.underlying70 rfl (V3 (.bool _) rfl (hI.oldp hdg) (V4 rfl ?_)))))))))))))
   refine WL_nil (W_seq (W_region (V2 rfl (WL_nil (W_cond false rfl (W_region (Ve rfl (Vy [(0, .int .u8 _)] [_] [.int .u8 0] [0] hI rfl Tryz.underlying248 (fun _ => by kernel_rfl) ?_))))))))
   clear hI; rintro b31 w - - hI
   refine Tq 1 (.int .u8 0) hI rfl Tryz.underlying248 rfl (by rfl) hI.lit0 (by rfl) (Nat.zero_le _) ?_
   clear hI; rintro A32 c32 w hA32 hc32 hI
   replace hI := hI.d0
   refine Vl rfl (WL_nil ?_)
   replace hI : Inv (fun _ => False) w0 w [BytE 0 A32 c32 (bitsF dn (k + 1))] := by
    rw [bitsF_succ, hdn, BytE.snoc]; exact hI
   refine W_region (Vu rfl (V0 rfl (WL_nil ?_)))
   exact ⟨n - (k + 1), by omega, k + 1, A32, c32, rfl, by omega, ⟨rfl, rfl, rfl, by rw [bitsF_succ, List.length_append]; rfl, rfl, trivial⟩, hI⟩
 clear hI
 rintro ρ w ⟨A3, c3, hH, hI⟩
 obtain ⟨σ, rfl⟩ := hH.open
 have hbl : (bitsF dn n).length = n := by simp [bitsF]
 refine W_seq_cut (fun ρ w => ∃ (A3 : Option Addr) (c3 : Nat), Has ρ [(3, .slice A3 (keyF n dn sts).length c3)] ∧ Inv (fun _ => False) w0 w [BytE 0 A3 c3 (keyF n dn sts)]) ?_ ?_
 ·refine W_seq (W_region (V7 rfl (Vb rfl (V5 6 rfl (Ue 8 rfl (by rfl) (fun k u hk => hI.oldp (h6 k u hk)) (V0 rfl (WL_nil (W_block ?_))))))))
  refine W_loopN (fun mu ρ w => ∃ (k : Nat) (A3 : Option Addr) (c3 : Nat), mu = 8 - k ∧ k ≤ 8 ∧ Has ρ [(38, .int .i64 (k : Int)), (37, .agg (stL L sts).toArray), (3, .slice A3 (bitsF dn n ++ encS sts (List.range k)).length c3)] ∧ Inv (fun _ => False) w0 w [BytE 0 A3 c3 (bitsF dn n ++ encS sts (List.range k))]) 8
   ⟨0, A3, c3, rfl, by omega, ⟨rfl, rfl, by simp [encS]; rfl, trivial⟩, by simp only [encS, List.range_zero, List.flatMap_nil, List.append_nil]; exact hI⟩ ?_
  clear hI
  rintro mu ρ w ⟨k, A3, c3, rfl, hk, hH, hI⟩
  obtain ⟨σ, rfl⟩ := hH.open
  by_cases hk8 : k < 8
  rotate_left
  ·obtain rfl : k = 8 := by omega
   refine W_seq (W_region (Vn rfl (WL_nil (W_seq (W_cond false rfl ?_)))))
   refine W_exit ?_
   exact ⟨A3, c3, ⟨rfl, trivial⟩, hI⟩
  refine W_seq (W_region (Vp rfl (WL_nil (W_seq (W_cond true rfl (W_skip (W_seq (W_block (W_seq (W_region ?_))))))))))
  refine WL_val rfl rfl rfl (rIdxAg rfl Tryz.underlying177 (by kernel_rfl) (by kernel_rfl) rfl rfl (by omega) (stL_get hk8)) ?_
  refine Vl rfl (WL_nil ?_)
  have hrd := hst k hk8
  have hel := encS_len hlen k
  have hlk := hlen k
  have hk16 : k * (16 * 100 + 1) ≤ 8 * (16 * 100 + 1) := Nat.mul_le_mul_right _ hk
  generalize (L k).1 = Ak at hrd ⊢
  generalize (L k).2 = ck at hrd ⊢
  refine W_seq_cut (fun ρ w => ∃ (A3 : Option Addr) (c3 : Nat), Has ρ [(38, .int .i64 (k : Int)), (37, .agg (stL L sts).toArray), (3, .slice A3 (bitsF dn n ++ encS sts (List.range k) ++ encQ (sts k) (sts k).length).length c3)] ∧ Inv (fun _ => False) w0 w [BytE 0 A3 c3 (bitsF dn n ++ encS sts (List.range k) ++ encQ (sts k) (sts k).length)]) ?_ ?_
  ·refine W_seq (W_region (Ve rfl (Vs rfl Tryz.underlying26 rfl (V0 rfl (WL_nil (W_block ?_))))))
   refine W_loopN (fun mu ρ w => ∃ (q : Nat) (A3 : Option Addr) (c3 : Nat), mu = (sts k).length - q ∧ q ≤ (sts k).length ∧ Has ρ [(43, .int .i64 (q : Int)), (42, .int .i64 ((sts k).length : Int)), (41, .slice Ak (sts k).length ck), (38, .int .i64 (k : Int)), (37, .agg (stL L sts).toArray), (3, .slice A3 (bitsF dn n ++ encS sts (List.range k) ++ encQ (sts k) q).length c3)] ∧ Inv (fun _ => False) w0 w [BytE 0 A3 c3 (bitsF dn n ++ encS sts (List.range k) ++ encQ (sts k) q)]) (sts k).length
    ⟨0, A3, c3, rfl, by omega, ⟨rfl, rfl, rfl, rfl, rfl, by simp [encQ]; rfl, trivial⟩, by simp only [encQ, List.take_zero, List.flatMap_nil, List.append_nil]; exact hI⟩ ?_
   clear hI
   rintro mu ρ w ⟨q, A3, c3, rfl, hq, hH, hI⟩
   obtain ⟨σ, rfl⟩ := hH.open
   by_cases hql : q < (sts k).length
   rotate_left
   ·obtain rfl : q = (sts k).length := by omega
    refine W_seq (W_region (Vn rfl (WL_nil (W_seq (W_cond false rfl ?_)))))
    refine W_exit ?_
    exact ⟨A3, c3, ⟨rfl, rfl, rfl, trivial⟩, hI⟩
   have hi0 : (i64s (sts k))[q]? = some (.int .i64 ((sts k)[q]'hql)) := by simp [i64s, hql]
   obtain ⟨ob, oo, rfl, _, _, hcell⟩ := hrd.get hi0 (by omega)
   have hi64 := hi k _ (List.getElem_mem hql)
   have hql16 := encQ_len (sts k) q
   have hsucc := encQ_succ hql
   generalize (sts k)[q]'hql = z at hcell hi64 hsucc
   have htot : (bitsF dn n ++ encS sts (List.range k) ++ encQ (sts k) q).length ≤ 20000 := by
    rw [List.length_append, List.length_append]; omega
   generalize hX : bitsF dn n ++ encS sts (List.range k) ++ encQ (sts k) q = X at hI htot
   refine W_seq (W_region (Vp rfl (WL_nil (W_seq (W_cond true rfl (W_skip (W_seq (W_block (W_seq (W_region (Uf rfl Tryz.underlying26 rfl (V3 (.int .i64 _) rfl (hI.oldp hcell) (Va rfl ?_)))))))))))))
   refine WL_nil (W_region (Ve rfl (Vy [(0, .int .u8 _)] [_] [.int .u8 0] [0] hI rfl Tryz.underlying248 (fun _ => by kernel_rfl) ?_)))
   clear hI; rintro b48 w - - hI
   refine Tq 1 (.int .u8 0) hI rfl Tryz.underlying248 rfl (by rfl) hI.lit0 (by rfl) (Nat.zero_le _) ?_
   clear hI; rintro A49 c49 w hA49 hc49 hI
   replace hI := hI.d0
   refine V0 rfl (V6 [.slice _ _ _, .int .i64 _, .int .i64 _] rfl Tryz.func128 rfl ?_)
   replace hI : Inv (fun _ => False) w0 w [BytE 0 A49 c49 (X ++ [32])] := by
    rw [BytE.snoc]; exact hI
   refine Calls.mono (by have h := appP_any 0 A49 c49 (X ++ [32]) z _ (hI.ok _ (by simp)) hi64 (by simp; omega) (Nat.zero_le _); rw [List.length_append] at h; exact h) ?_
   rintro e w1 ⟨A', c', rfl, hT⟩
   refine ⟨_, rfl, ?_⟩
   replace hI := hI.turn1 hT
   refine Vl rfl (WL_nil (W_region (Vu rfl (V0 rfl (WL_nil ?_)))))
   have eX : bitsF dn n ++ encS sts (List.range k) ++ encQ (sts k) (q + 1) = X ++ [32] ++ itoa36 z := by rw [hsucc, ← hX]; simp
   exact ⟨(sts k).length - (q + 1), by omega, q + 1, A', c', rfl, by omega, ⟨rfl, rfl, rfl, rfl, rfl, by rw [eX]; rfl, trivial⟩, by rw [eX]; exact hI⟩
  clear hI
  rintro ρ w ⟨A3, c3, hH, hI⟩
  obtain ⟨σ, rfl⟩ := hH.open
  have hq16 := encQ_len (sts k) (sts k).length
  have htot : (bitsF dn n ++ encS sts (List.range k) ++ encQ (sts k) (sts k).length).length ≤ 20000 := by
   rw [List.length_append, List.length_append]; omega
  have eX : bitsF dn n ++ encS sts (List.range k) ++ encQ (sts k) (sts k).length ++ [124] = bitsF dn n ++ encS sts (List.range (k + 1)) := by rw [encS_succ, ← encQ_all]; simp
  generalize hX : bitsF dn n ++ encS sts (List.range k) ++ encQ (sts k) (sts k).length = X at hI htot eX
  refine W_region (Ve rfl (Vy [(0, .int .u8 _)] [_] [.int .u8 0] [0] hI rfl Tryz.underlying248 (fun _ => by kernel_rfl) ?_))
  clear hI; rintro b54 w - - hI
  refine Tq 1 (.int .u8 0) hI rfl Tryz.underlying248 rfl (by rfl) hI.lit0 (by rfl) (Nat.zero_le _) ?_
  clear hI; rintro A55 c55 w hA55 hc55 hI
  replace hI := hI.d0
  refine Vl rfl (WL_nil ?_)
  replace hI : Inv (fun _ => False) w0 w [BytE 0 A55 c55 (bitsF dn n ++ encS sts (List.range (k + 1)))] := by
   rw [← eX, BytE.snoc]; exact hI
  refine W_region (Vu rfl (V0 rfl (WL_nil ?_)))
  exact ⟨8 - (k + 1), by omega, k + 1, A55, c55, rfl, by omega, ⟨rfl, rfl, by rw [← eX, List.length_append]; rfl, trivial⟩, hI⟩
 clear hI
 rintro ρ w ⟨A3, c3, hH, hI⟩
 obtain ⟨σ, rfl⟩ := hH.open
 have hpos : 0 < (keyF n dn sts).length := by
  unfold keyF
  rw [List.length_append, encS_succ sts 7, List.length_append, ← encQ_all]
  simp
  omega
 refine W_seq (W_region (Ve rfl ?_))
 refine WL_val rfl rfl rfl (rBytesStr rfl Tryz.underlying248 Tryz.underlying5 Tryz.underlying9 rfl hI.g0 (keyF_small n dn sts) hpos) ?_
 refine U2 rfl (WL_nil ?_)
 refine W_ret ?_
 exact ret1 2 (.inr rfl) rfl ⟨rfl, hI.pu⟩
end Go.Proofs.YthndpiopbdecfaaGreatDoor
namespace Go.Proofs.YthndpiopbdecfaaGreatDoor
set_option linter.unusedVariables false
set_option linter.unusedSimpArgs false
structure SSt where
 dn : Nat → Bool
 sts : Nat → List Int
 ord : List Int
 ent : List (List Nat)
def dnSet (dn : Nat → Bool) (i : Nat) (b : Bool) : Nat → Bool := fun x => if x = i then b else dn x
def stSet (sts : Nat → List Int) (k : Nat) (st : List Int) : Nat → List Int := fun j => if j = k then st else sts j
def allF (l : List Op8) (dn : Nat → Bool) : Bool := (List.range l.length).all fun i => !decide (0 ≤ (oAt l i).ret) || dn i
def nextF (l : List Op8) (ab : Op8 → Op8 → Bool) (dn : Nat → Bool) (i : Nat) : Bool := !dn i && (List.range l.length).all fun k => k == i || dn k || !ab (oAt l k) (oAt l i)
def keyN (l : List Op8) (i : Nat) : Nat := (oAt l i).key.toNat
/-- What an op makes of the state of its key, if it is told what it would be. -/
def goF (o : Int) (l : List Op8) (sts : Nat → List Int) (i : Nat) : Option (List Int) := match stepF o (sts (keyN l i)) (oAt l i).kind (oAt l i).a (oAt l i).b with
 | none => none
 | some (st', r) => if (oAt l i).ret ≠ -1 ∧ r ≠ (oAt l i).res then none else some st'
def stepS (l : List Op8) (s : SSt) (i : Nat) (st' : List Int) : SSt := ⟨dnSet s.dn i true, stSet s.sts (keyN l i) st', s.ord ++ [(i : Int)], s.ent⟩
def loopF (o : Int) (l : List Op8) (ab : Op8 → Op8 → Bool) (rec : SSt → Int × SSt) : List Nat → SSt → Int × SSt
 | [], s => (2, s)
 | i :: r, s => match nextF l ab s.dn i with
  | false => loopF o l ab rec r s
  | true => match goF o l s.sts i with
   | none => loopF o l ab rec r s
   | some st' => if (rec (stepS l s i st')).1 = 2 then loopF o l ab rec r ⟨s.dn, s.sts, s.ord, (rec (stepS l s i st')).2.ent⟩ else rec (stepS l s i st')
section
variable {o : Int} {l : List Op8} {ab : Op8 → Op8 → Bool} {rec : SSt → Int × SSt} {i : Nat} {r : List Nat} {s : SSt} {st' : List Int}
theorem loopF_skip (h : nextF l ab s.dn i = false) : loopF o l ab rec (i :: r) s = loopF o l ab rec r s := by rw [loopF, h]
theorem loopF_no (h : nextF l ab s.dn i = true) (hg : goF o l s.sts i = none) : loopF o l ab rec (i :: r) s = loopF o l ab rec r s := by rw [loopF, h, hg]
theorem loopF_on (h : nextF l ab s.dn i = true) (hg : goF o l s.sts i = some st') (h2 : (rec (stepS l s i st')).1 = 2) : loopF o l ab rec (i :: r) s = loopF o l ab rec r ⟨s.dn, s.sts, s.ord, (rec (stepS l s i st')).2.ent⟩ := by rw [loopF, h, hg]; exact if_pos h2
theorem loopF_hit (h : nextF l ab s.dn i = true) (hg : goF o l s.sts i = some st') (h2 : (rec (stepS l s i st')).1 ≠ 2) : loopF o l ab rec (i :: r) s = rec (stepS l s i st') := by rw [loopF, h, hg]; exact if_neg h2
end
def putE (l : List Op8) (s : SSt) : SSt := ⟨s.dn, s.sts, s.ord, s.ent ++ [keyF l.length s.dn s.sts]⟩
def enterF (o : Int) (l : List Op8) (ab : Op8 → Op8 → Bool) (bud : Nat) : Nat → SSt → Int × SSt
 | 0, s => (2, s)
 | f + 1, s => match allF l s.dn with
  | true => (1, s)
  | false => if keyF l.length s.dn s.sts ∈ s.ent then (2, s) else if s.ent.length = bud then (3, s) else loopF o l ab (enterF o l ab bud f) (List.range l.length) (putE l s)
section
variable {o : Int} {l : List Op8} {ab : Op8 → Op8 → Bool} {bud f : Nat} {s : SSt}
theorem enterF_all (h : allF l s.dn = true) : enterF o l ab bud (f + 1) s = (1, s) := by rw [enterF, h]
theorem enterF_old (h : allF l s.dn = false) (hk : keyF l.length s.dn s.sts ∈ s.ent) : enterF o l ab bud (f + 1) s = (2, s) := by rw [enterF, h]; exact if_pos hk
theorem enterF_over (h : allF l s.dn = false) (hk : keyF l.length s.dn s.sts ∉ s.ent) (hb : s.ent.length = bud) : enterF o l ab bud (f + 1) s = (3, s) := by rw [enterF, h]; exact (if_neg hk).trans (if_pos hb)
theorem enterF_go (h : allF l s.dn = false) (hk : keyF l.length s.dn s.sts ∉ s.ent) (hb : s.ent.length ≠ bud) : enterF o l ab bud (f + 1) s = loopF o l ab (enterF o l ab bud f) (List.range l.length) (putE l s) := by rw [enterF, h]; exact (if_neg hk).trans (if_neg hb)
end
def startS (o : Int) : SSt := ⟨fun _ => false, fun k => if k < 8 then startF o else [], [], []⟩
def verdF (o : Int) (l : List Op8) (ab : Op8 → Op8 → Bool) (bud : Nat) : Int × SSt := enterF o l ab bud (l.length + 1) (startS o)
/-! ### How many are left -/
def cntD (n : Nat) (dn : Nat → Bool) : Nat := (List.range n).countP dn
def undn (n : Nat) (dn : Nat → Bool) : Nat := (List.range n).countP fun i => !dn i
theorem cnt_undn (n : Nat) (dn : Nat → Bool) : cntD n dn + undn n dn = n := by
 unfold cntD undn
 induction n with
 | zero => rfl
 | succ n ih =>
  rw [List.range_succ, List.countP_append, List.countP_append]
  cases h : dn n <;> simp [h] at ih ⊢ <;> omega
theorem cntD_far {n i : Nat} {dn : Nat → Bool} {b : Bool} (h : n ≤ i) : cntD n (dnSet dn i b) = cntD n dn := by
 unfold cntD
 refine List.countP_congr fun x hx => ?_
 have := List.mem_range.1 hx
 unfold dnSet
 rw [if_neg (by omega)]
theorem cntD_set : ∀ {n i : Nat} {dn : Nat → Bool}, i < n → dn i = false → cntD n (dnSet dn i true) = cntD n dn + 1
 | 0, _, _, h, _ => by omega
 | n + 1, i, dn, h, hd => by
  unfold cntD
  rw [List.range_succ, List.countP_append, List.countP_append]
  by_cases hi : i = n
  ·subst hi
   have := cntD_far (n := i) (i := i) (dn := dn) (b := true) (Nat.le_refl _)
   unfold cntD at this
   rw [this]
   simp [dnSet, hd]
  ·have := cntD_set (n := n) (i := i) (dn := dn) (by omega) hd
   unfold cntD at this
   rw [this]
   have e : dnSet dn i true n = dn n := by unfold dnSet; rw [if_neg (Ne.symm hi)]
   simp [e]
   omega
theorem undn_set {n i : Nat} {dn : Nat → Bool} (h : i < n) (hd : dn i = false) : undn n (dnSet dn i true) + 1 = undn n dn := by
 have h1 := cnt_undn n dn
 have h2 := cnt_undn n (dnSet dn i true)
 have h3 := cntD_set h hd
 omega
theorem next_dn {l : List Op8} {ab : Op8 → Op8 → Bool} {dn : Nat → Bool} {i : Nat} (h : nextF l ab dn i = true) : dn i = false := by
 unfold nextF at h
 simp at h
 exact h.1
/-! ### A budget -/
section
variable {o : Int} {l : List Op8} {ab : Op8 → Op8 → Bool}
theorem loop_len {rec : SSt → Int × SSt} {B : Nat} (hrec : ∀ s, s.ent.length ≤ B → (rec s).2.ent.length ≤ B) : ∀ (r : List Nat) (s : SSt), s.ent.length ≤ B → (loopF o l ab rec r s).2.ent.length ≤ B
 | [], s, h => h
 | i :: r, s, h => by
  unfold loopF
  split
  ·exact loop_len hrec r s h
  ·split
   ·exact loop_len hrec r s h
   ·split
    ·exact loop_len hrec r _ (hrec _ h)
    ·exact hrec _ h
theorem enter_len {bud : Nat} : ∀ (f : Nat) (s : SSt), s.ent.length ≤ bud → (enterF o l ab bud f s).2.ent.length ≤ bud
 | 0, s, h => h
 | f + 1, s, h => by
  unfold enterF
  split
  ·exact h
  ·split
   ·exact h
   ·split
    ·exact h
    ·refine loop_len (enter_len f) _ _ ?_
     simp [putE]
     omega
/-! ### How many states there can be -/
theorem undn_start (n : Nat) : undn n (fun _ => false) = n := by simp [undn]
end
/-- What is asked of ops. -/
structure ArgsOk (l : List Op8) : Prop where
 key : ∀ i, i < l.length → 0 ≤ (oAt l i).key ∧ (oAt l i).key < 8
 a : ∀ i, i < l.length → i64B (oAt l i).a
 b : ∀ i, i < l.length → i64B (oAt l i).b
 ret : ∀ i, i < l.length → (oAt l i).ret = -1 ∨ 0 ≤ (oAt l i).ret
theorem ArgsOk.keyN {l : List Op8} (h : ArgsOk l) {i : Nat} (hi : i < l.length) : keyN l i < 8 := by
 have := h.key i hi
 unfold Go.Proofs.YthndpiopbdecfaaGreatDoor.keyN
 omega
/-- A state that can be. -/
structure GoodS (o : Int) (n : Nat) (dn : Nat → Bool) (sts : Nat → List Int) : Prop where
 dnOut : ∀ i, n ≤ i → dn i = false
 stOut : ∀ k, 8 ≤ k → sts k = []
 i64 : ∀ k, ∀ x ∈ sts k, i64B x
 ok : ∀ k, okSt o (sts k)
 len : ∀ k, (sts k).length ≤ cntD n dn + 1
theorem wrap_i64B (z : Int) : i64B (IntKind.i64.wrap z) := by
 unfold i64B
 simp [IntKind.wrap, IntKind.signed, IntKind.bits]
 split <;> omega
theorem stepF_i64 {o : Int} {st st' : List Int} {k a b r : Int} (h : stepF o st k a b = some (st', r)) (hs : ∀ x ∈ st, i64B x) (ha : i64B a) (hb : i64B b) : ∀ x ∈ st', i64B x := by
 have h0 : i64B (st.getD 0 0) := by
  cases st with
  | nil => exact ⟨by decide, by decide⟩
  | cons x st => exact hs x (by simp)
 have hone : ∀ b : Bool, i64B (oneF b) := fun b => by cases b <;> exact ⟨by decide, by decide⟩
 unfold stepF at h
 split at h
 ·cases h
 split at h
 ·injection h with h; injection h with h1 _; subst h1
  intro x hx
  rw [List.mem_singleton.1 hx]
  unfold regF
  split
  ·exact h0
  ·split
   ·exact ha
   ·split
    ·exact hb
    ·exact h0
 split at h
 ·injection h with h; injection h with h1 _; subst h1
  intro x hx
  rw [List.mem_singleton.1 hx]
  split
  ·exact wrap_i64B _
  ·exact h0
 split at h
 ·injection h with h
  have h1 : (setF st k a).1 = st' := by rw [h]
  subst h1
  unfold setF
  intro x hx
  split at hx
  ·simp only [insF, List.mem_append, List.mem_cons] at hx
   rcases hx with hx | rfl | hx
   ·exact hs x (List.mem_of_mem_take hx)
   ·exact ha
   ·exact hs x (List.mem_of_mem_drop hx)
  ·split at hx
   ·simp only [delF, List.mem_append] at hx
    rcases hx with hx | hx
    ·exact hs x (List.mem_of_mem_take hx)
    ·exact hs x (List.mem_of_mem_drop hx)
   ·exact hs x hx
 split at h
 ·split at h
  ·injection h with h; injection h with h1 _; subst h1
   intro x hx
   rw [List.mem_singleton.1 hx]
   exact hone _
  ·cases h
 ·injection h with h
  have h1 : (lineF o st k a).1 = st' := by rw [h]
  subst h1
  unfold lineF
  intro x hx
  split at hx
  ·rcases List.mem_append.1 hx with hx | hx
   ·exact hs x hx
   ·rw [List.mem_singleton.1 hx]; exact ha
  ·split at hx
   ·exact hs x hx
   ·split at hx
    ·exact hs x (List.mem_of_mem_drop hx)
    ·exact hs x (List.mem_of_mem_take hx)
theorem goF_step {o : Int} {l : List Op8} {sts : Nat → List Int} {i : Nat} {st' : List Int} (h : goF o l sts i = some st') : ∃ r, stepF o (sts (keyN l i)) (oAt l i).kind (oAt l i).a (oAt l i).b = some (st', r) ∧ ¬ ((oAt l i).ret ≠ -1 ∧ r ≠ (oAt l i).res) := by
 unfold goF at h
 split at h
 ·cases h
 ·rename_i s' r hs
  split at h
  ·cases h
  ·rename_i hn
   injection h with h
   subst h
   exact ⟨r, hs, hn⟩
theorem GoodS.step {o : Int} {l : List Op8} {dn : Nat → Bool} {sts : Nat → List Int} {i : Nat} {st' : List Int} (h : GoodS o l.length dn sts) (hA : ArgsOk l) (hi : i < l.length) (hd : dn i = false) (hg : goF o l sts i = some st') : GoodS o l.length (dnSet dn i true) (stSet sts (keyN l i) st') := by
 obtain ⟨r, hs, _⟩ := goF_step hg
 have hc := cntD_set hi hd
 have hk := hA.keyN hi
 refine ⟨fun j hj => ?_, fun k hk' => ?_, fun k => ?_, fun k => ?_, fun k => ?_⟩
 ·unfold dnSet; rw [if_neg (by omega)]; exact h.dnOut j hj
 ·unfold stSet; rw [if_neg (by omega)]; exact h.stOut k hk'
 ·unfold stSet; split
  ·exact stepF_i64 hs (h.i64 _) (hA.a i hi) (hA.b i hi)
  ·exact h.i64 k
 ·unfold stSet; split
  ·exact stepF_ok hs (h.ok _)
  ·exact h.ok k
 ·rw [hc]; unfold stSet; split
  ·have := stepF_len hs
   have := h.len (keyN l i)
   omega
  ·have := h.len k
   omega
theorem goodS_start (o : Int) (n : Nat) : GoodS o n (startS o).dn (startS o).sts := by
 refine ⟨fun _ _ => rfl, fun k hk => if_neg (by omega), fun k x hx => ?_, fun k => ?_, fun k => ?_⟩
 ·simp only [startS] at hx
  split at hx
  ·unfold startF at hx
   split at hx
   ·rw [List.mem_singleton.1 hx]; exact ⟨by decide, by decide⟩
   ·cases hx
  ·cases hx
 ·simp only [startS]
  split
  ·exact okSt_start o
  ·intro _; exact .nil
 ·simp only [startS]
  split
  ·have := startF_len o; omega
  ·simp
theorem GoodS.key_inj {o : Int} {n : Nat} {dn dn' : Nat → Bool} {sts sts' : Nat → List Int} (h : GoodS o n dn sts) (h' : GoodS o n dn' sts') (he : keyF n dn sts = keyF n dn' sts') : dn = dn' ∧ sts = sts' := by
 obtain ⟨e1, e2⟩ := keyF_inj h.i64 h'.i64 he
 constructor
 ·funext i
  rcases Nat.lt_or_ge i n with hi | hi
  ·exact e1 i hi
  ·rw [h.dnOut i hi, h'.dnOut i hi]
 ·funext k
  rcases Nat.lt_or_ge k 8 with hk | hk
  ·exact e2 k hk
  ·rw [h.stOut k hk, h'.stOut k hk]
/-! ### What there is it does not miss -/
section
variable (o : Int) (l : List Op8) (ab : Op8 → Op8 → Bool)
end
section
variable {o : Int} {l : List Op8} {ab : Op8 → Op8 → Bool}
/-! ### What it finds is so -/
/-- Ops done in an order, from states to states. -/
def RunL (o : Int) (l : List Op8) : List Int → (Nat → List Int) → (Nat → List Int) → Prop
 | [], a, b => a = b
 | i :: r, a, b => ∃ st', goF o l a i.toNat = some st' ∧ RunL o l r (stSet a (keyN l i.toNat) st') b
theorem RunL_snoc {i : Int} {st' : List Int} : ∀ (r : List Int) (a b : Nat → List Int), RunL o l r a b → goF o l b i.toNat = some st' → RunL o l (r ++ [i]) a (stSet b (keyN l i.toNat) st')
 | [], a, b, h, hg => by
  have h : a = b := h
  subst h
  exact ⟨st', hg, rfl⟩
 | j :: r, a, b, h, hg => by
  obtain ⟨s1, h1, h2⟩ := h
  exact ⟨s1, h1, RunL_snoc r _ b h2 hg⟩
/-- An order that is good as far as it goes. -/
structure Reach (o : Int) (l : List Op8) (ab : Op8 → Op8 → Bool) (dn : Nat → Bool) (sts : Nat → List Int) (ord : List Int) : Prop where
 dnE : ∀ i, dn i = ord.contains ((i : Nat) : Int)
 rng : ∀ i ∈ ord, 0 ≤ i ∧ i < l.length
 nodup : ord.Nodup
 run : RunL o l ord (startS o).sts sts
 ahead : ord.Pairwise fun a b => ab (oAt l b.toNat) (oAt l a.toNat) = false
 left : ∀ a ∈ ord, ∀ k, k < l.length → dn k = false → ab (oAt l k) (oAt l a.toNat) = false
theorem Reach.start : Reach o l ab (fun _ => false) (startS o).sts [] := ⟨fun i => by simp, by simp, by simp, rfl, .nil, by simp⟩
theorem Reach.step {dn : Nat → Bool} {sts : Nat → List Int} {ord : List Int} {i : Nat} {st' : List Int} (h : Reach o l ab dn sts ord) (hi : i < l.length) (hn : nextF l ab dn i = true) (hg : goF o l sts i = some st') : Reach o l ab (dnSet dn i true) (stSet sts (keyN l i) st') (ord ++ [(i : Int)]) := by
 have hd := next_dn hn
 have hnx : ∀ k, k < l.length → k ≠ i → dn k = false → ab (oAt l k) (oAt l i) = false := by
  intro k hk hki hdk
  unfold nextF at hn
  simp only [Bool.and_eq_true, List.all_eq_true, List.mem_range] at hn
  have := hn.2 k hk
  simp [hki, hdk] at this
  exact this
 have hni : ((i : Nat) : Int) ∉ ord := fun hm => by
  have := h.dnE i
  rw [hd] at this
  simp [hm] at this
 refine ⟨fun j => ?_, fun j hj => ?_, ?_, ?_, ?_, fun a ha k hk hdk => ?_⟩
 ·unfold dnSet
  by_cases hj : j = i
  ·subst hj; simp
  ·rw [if_neg hj, h.dnE j]
   rw [Bool.eq_iff_iff]
   simp
   omega
 ·rcases List.mem_append.1 hj with hj | hj
  ·exact h.rng j hj
  ·rw [List.mem_singleton.1 hj]; omega
 ·rw [List.nodup_append]
  refine ⟨h.nodup, by simp, fun a ha b hb => ?_⟩
  rw [List.mem_singleton.1 hb]
  intro e
  exact hni (e ▸ ha)
 ·exact RunL_snoc (i := (i : Int)) ord _ _ h.run (by simpa using hg)
 ·rw [List.pairwise_append]
  refine ⟨h.ahead, by simp, fun a ha b hb => ?_⟩
  rw [List.mem_singleton.1 hb, Int.toNat_natCast]
  exact h.left a ha i hi hd
 ·have hki : k ≠ i := fun e => by subst e; simp [dnSet] at hdk
  have hdk' : dn k = false := by unfold dnSet at hdk; rwa [if_neg hki] at hdk
  rcases List.mem_append.1 ha with ha | ha
  ·exact h.left a ha k hk hdk'
  ·rw [List.mem_singleton.1 ha, Int.toNat_natCast]
   exact hnx k hk hki hdk'
theorem loop_sound {rec : SSt → Int × SSt} (hrec : ∀ s, Reach o l ab s.dn s.sts s.ord → (rec s).1 = 1 → allF l (rec s).2.dn = true ∧ Reach o l ab (rec s).2.dn (rec s).2.sts (rec s).2.ord) :
  ∀ (r : List Nat) (s : SSt), (∀ i ∈ r, i < l.length) → Reach o l ab s.dn s.sts s.ord → (loopF o l ab rec r s).1 = 1 → allF l (loopF o l ab rec r s).2.dn = true ∧ Reach o l ab (loopF o l ab rec r s).2.dn (loopF o l ab rec r s).2.sts (loopF o l ab rec r s).2.ord
 | [], s, _, _, h => absurd h (by simp [loopF])
 | i :: r, s, hr, hR, h => by
  have hr' : ∀ j ∈ r, j < l.length := fun j hj => hr j (by simp [hj])
  cases hx : nextF l ab s.dn i with
  | false =>
   rw [loopF_skip hx] at h ⊢
   exact loop_sound hrec r s hr' hR h
  | true =>
   cases hg0 : goF o l s.sts i with
   | none =>
    rw [loopF_no hx hg0] at h ⊢
    exact loop_sound hrec r s hr' hR h
   | some st1 =>
    by_cases hc2 : (rec (stepS l s i st1)).1 = 2
    ·rw [loopF_on hx hg0 hc2] at h ⊢
     exact loop_sound hrec r ⟨s.dn, s.sts, s.ord, (rec (stepS l s i st1)).2.ent⟩ hr' hR h
    ·rw [loopF_hit hx hg0 hc2] at h ⊢
     exact hrec (stepS l s i st1) (hR.step (hr i (by simp)) hx hg0) h
theorem enter_sound {bud : Nat} : ∀ (f : Nat) (s : SSt), Reach o l ab s.dn s.sts s.ord → (enterF o l ab bud f s).1 = 1 → allF l (enterF o l ab bud f s).2.dn = true ∧ Reach o l ab (enterF o l ab bud f s).2.dn (enterF o l ab bud f s).2.sts (enterF o l ab bud f s).2.ord
 | 0, s, _, h => absurd h (by simp [enterF])
 | f + 1, s, hR, h => by
  cases ha : allF l s.dn with
  | true => rw [enterF_all ha]; exact ⟨ha, hR⟩
  | false =>
   by_cases hk : keyF l.length s.dn s.sts ∈ s.ent
   ·rw [enterF_old ha hk] at h; exact absurd h (by simp)
   ·by_cases hb : s.ent.length = bud
    ·rw [enterF_over ha hk hb] at h; exact absurd h (by simp)
    ·rw [enterF_go ha hk hb] at h ⊢
     exact loop_sound (enter_sound f) _ (putE l s) (fun i hi => List.mem_range.1 hi) hR h
theorem verd_sound {bud : Nat} (h : (verdF o l ab bud).1 = 1) : allF l (verdF o l ab bud).2.dn = true ∧ Reach o l ab (verdF o l ab bud).2.dn (verdF o l ab bud).2.sts (verdF o l ab bud).2.ord := enter_sound _ _ Reach.start h
/-! ### Orders that show -/
theorem run_of_RunL (hA : ArgsOk l) : ∀ (r : List Int) (p : Nat) (g : Sts8) (a b : Nat → List Int), (∀ i ∈ r, 0 ≤ i ∧ i < l.length) → (∀ k, k < 8 → (g k).getD (startF o) = a k) → RunL o l r a b → runTo o l r p g = -1
 | [], p, g, a, b, _, _, _ => rfl
 | i :: r, p, g, a, b, hr, hg, h => by
  obtain ⟨st', h1, h2⟩ := h
  obtain ⟨hi0, hi1⟩ := hr i (by simp)
  have hil : i.toNat < l.length := by omega
  obtain ⟨res, h3, h4⟩ := goF_step h1
  have hk := hA.keyN hil
  have hret := hA.ret i.toNat hil
  rw [runTo, if_neg (by omega)]
  have e : (g (oAt l i.toNat).key.toNat).getD (startF o) = a (keyN l i.toNat) := hg _ hk
  rw [e, h3]
  simp only
  rw [if_neg (fun hh => h4 ⟨by omega, hh.2⟩)]
  refine run_of_RunL hA r (p + 1) _ _ b (fun j hj => hr j (by simp [hj])) (fun k hk8 => ?_) h2
  unfold updS stSet keyN
  split
  ·rfl
  ·exact hg k hk8
end
section
variable {o : Int} {l : List Op8} {ab : Op8 → Op8 → Bool}
theorem dnF_at {ord : List Int} (hn : ord.Nodup) {j : Nat} (hj : j < ord.length) (h0 : 0 ≤ ord[j]) : dnF ord j ord[j].toNat = false := by
 unfold dnF
 rw [Int.toNat_of_nonneg h0]
 simp only [List.contains_eq_mem, decide_eq_false_iff_not]
 intro hm
 obtain ⟨i, hi, he⟩ := List.mem_take_iff_getElem.1 hm
 have := (List.getElem_inj hn).1 he
 omega
theorem shows_of_reach {dn : Nat → Bool} {sts : Nat → List Int} {ord : List Int} (hA : ArgsOk l) (hall : allF l dn = true) (hR : Reach o l befB dn sts ord) : ShowsP o l ord := by
 refine ⟨fun j hj _ => ?_, fun i hi hr => ?_, ?_⟩
 ·obtain ⟨h0, h1⟩ := hR.rng ord[j] (List.getElem_mem hj)
  refine ⟨h0, h1, dnF_at hR.nodup hj h0, fun i hi hij => ?_⟩
  exact List.pairwise_iff_getElem.1 hR.ahead i j hi hj hij
 ·unfold allF at hall
  have := List.all_eq_true.1 hall i (List.mem_range.2 hi)
  simp [hr] at this
  rw [hR.dnE i] at this
  unfold dnF
  rw [List.take_of_length_le (Nat.le_refl _)]
  exact this
 ·exact run_of_RunL hA ord 0 _ _ sts hR.rng (fun k hk => by simp [startS, hk]) hR.run
/-- What is called valid has a witness. -/
theorem verd_shows (hA : ArgsOk l) {bud : Nat} (h : (verdF o l befB bud).1 = 1) : ShowsP o l (verdF o l befB bud).2.ord := by
 obtain ⟨h1, h2⟩ := verd_sound h
 exact shows_of_reach hA h1 h2
end
theorem told_num {p k : Int} {l : List Int} (h : toldB p k l = true) : ∀ x ∈ l, -1000000 ≤ x ∧ x ≤ 1000000 := by
 unfold toldB inB at h
 simp at h
 exact h.1.1
theorem argsOk {o : Int} {l : List Op8} {bud : Int} (h : OkLin o l bud) : ArgsOk l := by
 refine ⟨h.key, fun i hi => ?_, fun i hi => ?_, fun i hi => ?_⟩
 ·have := told_num (h.2.2.2.2.1.2 i hi).1 (oAt l i).a (by simp)
  unfold i64B; omega
 ·have := told_num (h.2.2.2.2.1.2 i hi).1 (oAt l i).b (by simp)
  unfold i64B; omega
 ·obtain ⟨h1, _, h3⟩ := (h.2.2.2.2.1.2 i hi).2.2.1
  omega
section
variable {o : Int} {l : List Op8} {ab : Op8 → Op8 → Bool}
theorem loop_back {rec : SSt → Int × SSt} : ∀ (r : List Nat) (s : SSt), (loopF o l ab rec r s).1 = 2 → (loopF o l ab rec r s).2.dn = s.dn ∧ (loopF o l ab rec r s).2.sts = s.sts ∧ (loopF o l ab rec r s).2.ord = s.ord
 | [], s, _ => ⟨rfl, rfl, rfl⟩
 | i :: r, s, h => by
  unfold loopF at h ⊢
  split
  ·rename_i hx
   rw [hx] at h
   exact loop_back r s h
  ·rename_i hx
   rw [hx] at h
   simp only at h
   split
   ·rename_i hg
    rw [hg] at h
    exact loop_back r s h
   ·rename_i st' hg
    rw [hg] at h
    simp only at h
    by_cases h2 : (rec (stepS l s i st')).1 = 2
    ·rw [if_pos h2] at h ⊢
     exact loop_back r ⟨s.dn, s.sts, s.ord, (rec (stepS l s i st')).2.ent⟩ h
    ·rw [if_neg h2] at h
     exact absurd h h2
theorem enter_back {bud : Nat} : ∀ (f : Nat) (s : SSt), (enterF o l ab bud f s).1 = 2 → (enterF o l ab bud f s).2.dn = s.dn ∧ (enterF o l ab bud f s).2.sts = s.sts ∧ (enterF o l ab bud f s).2.ord = s.ord
 | 0, s, _ => ⟨rfl, rfl, rfl⟩
 | f + 1, s, h => by
  cases ha : allF l s.dn with
  | true => rw [enterF_all ha]; exact ⟨rfl, rfl, rfl⟩
  | false =>
   by_cases hk : keyF l.length s.dn s.sts ∈ s.ent
   ·rw [enterF_old ha hk]; exact ⟨rfl, rfl, rfl⟩
   ·by_cases hb : s.ent.length = bud
    ·rw [enterF_over ha hk hb]; exact ⟨rfl, rfl, rfl⟩
    ·rw [enterF_go ha hk hb] at h ⊢
     exact loop_back _ _ h
theorem enter_eq {f bud : Nat} {s : SSt} (h : (enterF o l ab bud f s).1 = 2) : (enterF o l ab bud f s).2 = ⟨s.dn, s.sts, s.ord, (enterF o l ab bud f s).2.ent⟩ := by
 obtain ⟨h1, h2, h3⟩ := enter_back f s h
 generalize (enterF o l ab bud f s).2 = t at h1 h2 h3 ⊢
 cases t
 subst h1 h2 h3
 rfl
end
/-- What takes longer. -/
structure Wider (l l' : List Op8) : Prop where
 len : l'.length = l.length
 same : ∀ i, i < l.length → (oAt l' i).key = (oAt l i).key ∧ (oAt l' i).kind = (oAt l i).kind ∧ (oAt l' i).a = (oAt l i).a ∧ (oAt l' i).b = (oAt l i).b ∧ (oAt l' i).res = (oAt l i).res
 sign : ∀ i, i < l.length → (0 ≤ (oAt l' i).ret ↔ 0 ≤ (oAt l i).ret)
 call : ∀ i, i < l.length → (oAt l' i).call = 3 * (oAt l i).call
 ret : ∀ i, i < l.length → 0 ≤ (oAt l i).ret → 3 * (oAt l i).ret ≤ (oAt l' i).ret
theorem OkLin.bud {o : Int} {l : List Op8} {b b' : Int} (h : OkLin o l b) (h0 : 0 ≤ b') (h1 : b' ≤ 1000000) : OkLin o l b' := ⟨h.1, h.2.1, h0, h1, h.2.2.2.2.1, h.2.2.2.2.2⟩
section
variable {o : Int} {l : List Op8} {ab : Op8 → Op8 → Bool}
theorem loop_ord {rec : SSt → Int × SSt} {m : Nat} (hrec : ∀ s, (rec s).2.ord.length ≤ s.ord.length + m) : ∀ (r : List Nat) (s : SSt), (loopF o l ab rec r s).2.ord.length ≤ s.ord.length + (m + 1)
 | [], s => Nat.le_add_right _ _
 | i :: r, s => by
  unfold loopF
  split
  ·exact loop_ord hrec r s
  ·split
   ·exact loop_ord hrec r s
   ·split
    ·exact loop_ord hrec r _
    ·rename_i st' _ _
     have := hrec (stepS l s i st')
     simp only [stepS, List.length_append, List.length_singleton] at this ⊢
     omega
theorem enter_ord {bud : Nat} : ∀ (f : Nat) (s : SSt), (enterF o l ab bud f s).2.ord.length ≤ s.ord.length + f
 | 0, s => Nat.le_refl _
 | f + 1, s => by
  unfold enterF
  split
  ·exact Nat.le_add_right _ _
  ·split
   ·exact Nat.le_add_right _ _
   ·split
    ·exact Nat.le_add_right _ _
    ·exact loop_ord (enter_ord f) _ (putE l s)
end
end Go.Proofs.YthndpiopbdecfaaGreatDoor
namespace Go.Proofs.YthndpiopbdecfaaGreatDoor
open Go.RowKit
set_option linter.unusedVariables false
set_option linter.unusedSimpArgs false
/-- The cells of a search. -/
def srcC (o : Int) (A : Option Addr) (n c bud f db eb : Nat) (L : Loc) (sts : Nat → List Int) (A' : Option Addr) (m c' : Nat) : Array Value :=
 #[.int .i64 o, .slice A n c, .int .i64 (bud : Int), .func (.func f) #[] #[], .slice (some ⟨db, 0, none⟩) n n, .slice A' m c',
  .slice (L 0).1 (sts 0).length (L 0).2, .slice (L 1).1 (sts 1).length (L 1).2, .slice (L 2).1 (sts 2).length (L 2).2, .slice (L 3).1 (sts 3).length (L 3).2,
  .slice (L 4).1 (sts 4).length (L 4).2, .slice (L 5).1 (sts 5).length (L 5).2, .slice (L 6).1 (sts 6).length (L 6).2, .slice (L 7).1 (sts 7).length (L 7).2, .map (some eb)]
theorem lt8 {k : Nat} (h : k < 8) : k = 0 ∨ k = 1 ∨ k = 2 ∨ k = 3 ∨ k = 4 ∨ k = 5 ∨ k = 6 ∨ k = 7 := by omega
section
variable {o : Int} {A : Option Addr} {n c bud f db eb : Nat} {L : Loc} {sts : Nat → List Int} {A' : Option Addr} {m c' : Nat}
theorem srcC_st {k : Nat} (hk : k < 8) : (srcC o A n c bud f db eb L sts A' m c')[6 + k]? = some (.slice (L k).1 (sts k).length (L k).2) := by
 rcases lt8 hk with rfl | rfl | rfl | rfl | rfl | rfl | rfl | rfl <;> rfl
theorem srcC_stL {k : Nat} {u : Value} (hu : (stL L sts)[k]? = some u) : (srcC o A n c bud f db eb L sts A' m c')[6 + k]? = some u := by
 have hk : k < 8 := by have := (List.getElem?_eq_some_iff.1 hu).1; simpa [stL] using this
 rw [srcC_st hk]
 have := stL_get (L := L) (sts := sts) hk
 simp only [List.getElem?_toArray] at this
 rw [this] at hu
 exact hu
theorem srcC_set {k : Nat} (hk : k < 8) (A1 : Option Addr) (c1 : Nat) (st : List Int) : (srcC o A n c bud f db eb L sts A' m c').setIfInBounds (6 + k) (.slice A1 st.length c1) = srcC o A n c bud f db eb (updL L k A1 c1) (stSet sts k st) A' m c' := by
 rcases lt8 hk with rfl | rfl | rfl | rfl | rfl | rfl | rfl | rfl <;> rfl
end
theorem updL_back (L : Loc) (k : Nat) (A1 : Option Addr) (c1 : Nat) : updL (updL L k A1 c1) k (L k).1 (L k).2 = L := by
 funext j
 unfold updL
 by_cases h : j = k
 ·subst h; simp
 ·simp [h]
theorem stSet_back (sts : Nat → List Int) (k : Nat) (st : List Int) : stSet (stSet sts k st) k (sts k) = sts := by
 funext j
 unfold stSet
 by_cases h : j = k
 ·subst h; simp
 ·simp [h]
theorem dnSet_back {dn : Nat → Bool} {i : Nat} (h : dn i = false) : dnSet (dnSet dn i true) i false = dn := by
 funext j
 unfold dnSet
 by_cases hj : j = i
 ·subst hj; simp [h]
 ·simp [hj]
/-- The parts of a search. -/
def prt (sb : Nat) (o : Int) (A : Option Addr) (n c bud f db eb : Nat) (L : Loc) (s : SSt) (A' : Option Addr) (c' : Nat) : List Ent :=
 [B sb 179 (srcC o A n c bud f db eb L s.sts A' s.ord.length c'), B db 4 (boolC n s.dn), StE A' c' s.ord, SetE eb s.ent]
section
variable {l0 l H : List Ent} {w0 w : World} {S : Nat → Prop} {size n : Nat} {v : Value} {xs : List Value}
theorem Rd.now (hI : Inv (DL l0) w0 w H) (h : Rd w0 (fun b => ¬ DL l0 b) size v n xs) (hs : 0 < size) : Rd w (fun b => ¬ DL H b) size v n xs := by
 obtain ⟨A, c, hv, h1, h2, h3, h4⟩ := h
 refine ⟨A, c, hv, h1, h2, h3, fun hn => ?_⟩
 obtain ⟨b, o, e, hb, hcell⟩ := h4 hn
 have hlen : 0 < xs.length := by rw [h3]; exact Nat.mul_pos hn hs
 have hlt := World.block_lt_of_cell? w0 _ (hcell 0 _ (List.getElem?_eq_getElem hlen))
 refine ⟨b, o, e, ?_, fun j u hu => hI.old (hcell j u hu) hb⟩
 rintro ⟨x, hx, hxb⟩
 rcases hI.own x hx b hxb with h5 | h5
 ·exact hb h5
 ·have hlt : b < w0.heap.size := hlt
  omega
theorem DL.mono (h : ∀ e ∈ l, e ∈ H) {b : Nat} (hb : ¬ DL H b) : ¬ DL l b := fun ⟨e, he, hk⟩ => hb ⟨e, h e he, hk⟩
theorem StE.rd {A : Option Addr} {c : Nat} {st : List Int} (hI : Inv S w0 w (StE A c st :: l)) : Rd w (fun b => ¬ DL l b) 1 (.slice A st.length c) st.length (i64s st) := by
 have hg : w.ownsRow 0 3 1 (.slice A st.length c) st.length (i64s st) := hI.g0
 refine Rd.of_own hg fun k hk _ => ?_
 rintro ⟨e, he, hke⟩
 rw [ownBlock_slice] at hk
 exact (List.pairwise_cons.1 hI.apart).1 e he k hk hke
theorem kn_now (hI : Inv (DL l0) w0 w H) (hk : KnOk w0) (h0 : ¬ DL l0 0) : KnOk w ∧ ¬ DL H 0 := by
 refine ⟨fun i hi => hI.old (hk i hi) h0, ?_⟩
 rintro ⟨x, hx, hxb⟩
 have hlt : 0 < w0.heap.size := World.block_lt_of_cell? w0 _ (hk 0 (by omega))
 rcases hI.own x hx _ hxb with h5 | h5
 ·exact h0 h5
 ·omega
def StOk (w : World) (l : List Ent) (L : Loc) (sts : Nat → List Int) : Prop := ∀ k, k < 8 → Rd w (fun b => ¬ DL l b) 1 (.slice (L k).1 (sts k).length (L k).2) (sts k).length (i64s (sts k))
theorem StOk.now {L : Loc} {sts : Nat → List Int} (h : StOk w0 l0 L sts) (hI : Inv (DL l0) w0 w H) : StOk w H L sts := fun k hk => Rd.now hI (h k hk) (by decide)
theorem StOk.mono {L : Loc} {sts : Nat → List Int} (h : StOk w H L sts) (hs : ∀ e ∈ l, e ∈ H) : StOk w l L sts := fun k hk => (h k hk).mono fun _ hb => DL.mono hs hb
theorem StOk.upd {L : Loc} {sts : Nat → List Int} {k : Nat} {A : Option Addr} {c : Nat} {st : List Int} (h : StOk w l L sts) (hs : Rd w (fun b => ¬ DL l b) 1 (.slice A st.length c) st.length (i64s st)) : StOk w l (updL L k A c) (stSet sts k st) := by
 intro j hj
 by_cases hjk : j = k
 ·subst hjk
  have e1 : updL L j A c j = (A, c) := by simp [updL]
  have e2 : stSet sts j st j = st := by simp [stSet]
  rw [e1, e2]
  exact hs
 ·have e1 : updL L k A c j = L j := by simp [updL, hjk]
  have e2 : stSet sts k st j = sts j := by simp [stSet, hjk]
  rw [e1, e2]
  exact h j hj
/-- A world in which a part's blocks are the same set. -/
theorem Inv.trans {l1 : List Ent} {w1 : World} (h : Inv (DL l0) w0 w1 l1) (h' : Inv (DL l1) w1 w l) : Inv (DL l0) w0 w l := by
 have h2 : Inv (DL l0) w0 w1 (l1 ++ []) := by rw [List.append_nil]; exact h
 have := h2.turnL h'
 rwa [List.append_nil] at this
end
section
variable {P : Program} {ρ : Env} {oo : Oper} {w : World} {x y : Operand} {t kt et b : Nat} {ks : List (List Nat)} {a : List Nat}
theorem rLookST (h : a ∈ ks) (ho : oo.op = .lookup t x y true) (ht : P.underlying t = some (.map kt et)) (hk : P.underlying kt = some .string) (hz : (P.info? et).bind (·.zero) = some (.agg #[])) (hx : ev ρ x = .map (some b)) (hy : ev ρ y = .string (strB a)) (ha : ∀ c ∈ a, c < 256) (hM : SetIs w b ks) : Runs P ρ oo w (.tuple #[.agg #[], .bool true]) := by
 have := rLookS (P := P) ho ht hk hz hx hy ha hM
 rwa [decide_eq_true h] at this
theorem rLookSF (h : a ∉ ks) (ho : oo.op = .lookup t x y true) (ht : P.underlying t = some (.map kt et)) (hk : P.underlying kt = some .string) (hz : (P.info? et).bind (·.zero) = some (.agg #[])) (hx : ev ρ x = .map (some b)) (hy : ev ρ y = .string (strB a)) (ha : ∀ c ∈ a, c < 256) (hM : SetIs w b ks) : Runs P ρ oo w (.tuple #[.agg #[], .bool false]) := by
 have := rLookS (P := P) ho ht hk hz hx hy ha hM
 rwa [decide_eq_false h] at this
end
theorem srcC_st1 {o : Int} {A : Option Addr} {n c bud f db eb : Nat} {L : Loc} {sts : Nat → List Int} {A' : Option Addr} {m c' : Nat} {k : Nat} (hk : k < 8) : (srcC o A n c bud f db eb L sts A' m c')[6 + k * 1]? = some (.slice (L k).1 (sts k).length (L k).2) := by
 rw [Nat.mul_one]
 exact srcC_st hk
theorem boolC_dnSet {n : Nat} (f : Nat → Bool) (u : Nat) (b : Bool) : (boolC n f).setIfInBounds u (.bool b) = boolC n (dnSet f u b) := boolC_set f u b
def EntPost (o : Int) (sb db eb f : Nat) (A : Option Addr) (c : Nat) (l : List Op8) (ab : Op8 → Op8 → Bool) (bud : Nat) (fu : Nat) (s : SSt) (L : Loc) (l0 : List Ent) (w0 : World) (en : Ending) (w' : World) : Prop :=
 ∃ L' A'' c'', en = .returned (.int .i64 (enterF o l ab bud fu s).1) ∧ Inv (DL l0) w0 w' (prt sb o A l.length c bud f db eb L' (enterF o l ab bud fu s).2 A'' c'') ∧ ((enterF o l ab bud fu s).1 = 2 → L' = L)
theorem EntPost.same {o : Int} {sb db eb f : Nat} {A : Option Addr} {c : Nat} {l : List Op8} {ab : Op8 → Op8 → Bool} {bud : Nat} {fu : Nat} {s : SSt} {L : Loc} {l0 : List Ent} {w0 w' : World} {z : Int} {A' : Option Addr} {c' : Nat} (h : enterF o l ab bud fu s = (z, s)) (hI : Inv (DL l0) w0 w' (prt sb o A l.length c bud f db eb L s A' c')) : EntPost o sb db eb f A c l ab bud fu s L l0 w0 (.returned (.int .i64 z)) w' := by
 unfold EntPost
 rw [h]
 exact ⟨L, A', c', rfl, hI, fun _ => rfl⟩
theorem EntPost.mk {o : Int} {sb db eb f : Nat} {A : Option Addr} {c : Nat} {l : List Op8} {ab : Op8 → Op8 → Bool} {bud : Nat} {fu : Nat} {s s' : SSt} {L L' : Loc} {l0 : List Ent} {w0 w' : World} {z : Int} {A' : Option Addr} {c' : Nat} (h : enterF o l ab bud fu s = (z, s')) (hI : Inv (DL l0) w0 w' (prt sb o A l.length c bud f db eb L' s' A' c')) (hL : z = 2 → L' = L) : EntPost o sb db eb f A c l ab bud fu s L l0 w0 (.returned (.int .i64 z)) w' := by
 unfold EntPost
 rw [h]
 exact ⟨L', A', c', rfl, hI, hL⟩
theorem range_drop {n k : Nat} (h : k < n) : (List.range n).drop k = k :: (List.range n).drop (k + 1) := by
 rw [List.drop_eq_getElem_cons (by simpa using h)]
 simp
theorem allF_iff {l : List Op8} {dn : Nat → Bool} : allB l dn ↔ allF l dn = true := by
 unfold allB allF
 simp only [List.all_eq_true, List.mem_range, Bool.or_eq_true, Bool.not_eq_true', decide_eq_false_iff_not]
 refine ⟨fun h i hi => ?_, fun h i hi hr => ?_⟩
 ·by_cases h0 : 0 ≤ (oAt l i).ret
  ·exact .inr (h i hi h0)
  ·exact .inl h0
 ·rcases h i hi with h1 | h1
  ·exact absurd hr h1
  ·exact h1
theorem nextF_iff {l : List Op8} {ab : Op8 → Op8 → Bool} {dn : Nat → Bool} {i : Nat} : nextB l ab dn i ↔ nextF l ab dn i = true := by
 unfold nextB nextF
 simp only [List.all_eq_true, List.mem_range, Bool.and_eq_true, Bool.or_eq_true, Bool.not_eq_true', beq_iff_eq]
 refine ⟨fun h => ⟨h.1, fun k hk => ?_⟩, fun h => ⟨h.1, fun k hk hki hd => ?_⟩⟩
 ·by_cases hki : k = i
  ·exact .inl (.inl hki)
  ·cases hd : dn k with
   | true => exact .inl (.inr rfl)
   | false => exact .inr (h.2 k hk hki hd)
 ·rcases h.2 k hk with (h1 | h1) | h1
  ·exact absurd h1 hki
  ·rw [hd] at h1; cases h1
  ·exact h1
theorem bool_iff {b : Bool} {p : Prop} {c : Bool} (h : b = true ↔ p) (h2 : p ↔ c = true) : b = c := by
 have h := h.trans h2
 cases b <;> cases c <;> simp at h ⊢
set_option maxHeartbeats 8000000 in
theorem enter_any (o : Int) (sb db eb f : Nat) (A : Option Addr) (c : Nat) (l : List Op8) (ab : Op8 → Op8 → Bool) (bud : Nat) (hA : ArgsOk l) (hf : AheadC f ab) (h40 : l.length ≤ 40) (hbud : bud ≤ 1000000) :
  ∀ (fu : Nat) (s : SSt) (L : Loc) (A' : Option Addr) (c' : Nat) (w0 : World), undn l.length s.dn < fu → GoodS o l.length s.dn s.sts → s.ord.length + undn l.length s.dn ≤ 40 → s.ent.length ≤ bud →
   Inv (DL (prt sb o A l.length c bud f db eb L s A' c')) w0 w0 (prt sb o A l.length c bud f db eb L s A' c') →
   OpsR w0 (fun b => ¬ DL (prt sb o A l.length c bud f db eb L s A' c') b) (.slice A l.length c) l → KnOk w0 → ¬ DL (prt sb o A l.length c bud f db eb L s A' c') 0 → StOk w0 (prt sb o A l.length c bud f db eb L s A' c') L s.sts →
   Calls Tryz.prog 76 #[.pointer (some ⟨sb, 0, none⟩)] w0 (EntPost o sb db eb f A c l ab bud fu s L (prt sb o A l.length c bud f db eb L s A' c') w0) := by
 intro fu
 induction fu with
 | zero => intro s L A' c' w0 h; omega
 | succ fu ih =>
 intro s L A' c' w0 hu hG hord hent hI hops hkn hkg hst
 obtain ⟨dn, sts, ord, ent⟩ := s
 have hI0 := hI
 generalize hl0 : prt sb o A l.length c bud f db eb L ⟨dn, sts, ord, ent⟩ A' c' = l0 at hops hkg hst ⊢
 replace hI : Inv (DL l0) w0 w0 [B sb 179 (srcC o A l.length c bud f db eb L sts A' ord.length c'), B db 4 (boolC l.length dn), StE A' c' ord, SetE eb ent] := by rw [hl0] at hI; rw [← hl0] at hI ⊢; exact hI
 have nops : ∀ {w : World} {H : List Ent}, Inv (DL l0) w0 w H → OpsR w (fun b => ¬ DL H b) (.slice A l.length c) l := fun hI => Rd.now hI hops (by decide)
 have nkn : ∀ {w : World} {H : List Ent}, Inv (DL l0) w0 w H → KnOk w := fun hI => (kn_now hI hkn hkg).1
 have hi64 := hG.i64
 have hol : ord.length ≤ 40 := by simp only at hord; omega
 have hlen : ∀ k, (sts k).length ≤ 41 := fun k => by
  have h1 := hG.len k
  have h2 := cnt_undn l.length dn
  simp only at h1
  omega
 refine Vm Tryz.f76.ntmps Tryz.func76 rfl ?_
 refine W_seq (W_region (Va rfl (WL_nil ?_)))
 cases hall : allF l dn with
 | true =>
  refine W_seq (W_seq (W_region (V7 rfl (V6 [.pointer _] rfl Tryz.func109 rfl ?_))))
  refine (sall_any sb A c l db dn _ _ (nops hI) (hI.c0 rfl) (hI.c0 rfl) hI.g1 (by omega)).mono ?_
  rintro e w1 ⟨⟨b, rfl, hb⟩, hp⟩
  obtain rfl : b = true := (bool_iff hb allF_iff).trans hall
  refine ⟨_, rfl, ?_⟩
  replace hI := hI.pure hp
  refine WL_nil (W_cond true rfl (W_seq (W_region (Va rfl (WL_nil ?_)))))
  refine W_ret ?_
  exact ret1 2 (.inr rfl) rfl (EntPost.same (enterF_all hall) hI)
 | false =>
 refine W_seq (W_seq (W_region (V7 rfl (V6 [.pointer _] rfl Tryz.func109 rfl ?_))))
 refine (sall_any sb A c l db dn _ _ (nops hI) (hI.c0 rfl) (hI.c0 rfl) hI.g1 (by omega)).mono ?_
 rintro e w1 ⟨⟨b, rfl, hb⟩, hp⟩
 obtain rfl : b = false := (bool_iff hb allF_iff).trans hall
 refine ⟨_, rfl, ?_⟩
 replace hI := hI.pure hp
 refine WL_nil (W_cond false rfl (W_skip (W_seq (W_region (V7 rfl (V6 [.pointer _] rfl Tryz.func110 rfl ?_))))))
 refine (skey_any sb A c l.length db dn L sts _ (hI.c0 rfl) (hI.c0 rfl) hI.g1 (fun j u hu => ((hI.g0 : Blk _ _ _ _).cell _).trans (srcC_stL hu)) (fun k hk => (hst.now hI k hk).mono fun _ _ => trivial) (by omega) hi64 (fun k => by have := hlen k; omega)).mono ?_
 rintro e w2 ⟨rfl, hp⟩
 refine ⟨_, rfl, ?_⟩
 replace hI := hI.pure hp
 refine U2 rfl (WL_nil ?_)
 have hky := keyF_small l.length dn sts
 generalize hkey : keyF l.length dn sts = ky at *
 by_cases hin : ky ∈ ent
 ·refine W_seq (W_seq (W_region (V7 rfl (Vb rfl (V5 14 rfl (V3 (.map _) rfl (hI.c0 rfl) (Vq rfl ?_)))))))
  refine WL_val rfl rfl rfl (rLookST (a := ky) hin rfl Tryz.underlying176 Tryz.underlying9 (by kernel_rfl) rfl rfl hky hI.g3) ?_
  refine Vv rfl (Vg rfl (Vg rfl (T0 (.agg #[]) #[] hI rfl ?_)))
  clear hI; rintro b4 w - - hI
  refine T1 0 #[] (.agg _) hI rfl ?_
  clear hI; intro w hI
  refine V4 rfl (WL_nil (W_seq (W_region (V2 rfl (WL_nil (W_cond true rfl (W_seq (W_region (Va rfl (WL_nil ?_))))))))))
  refine W_ret ?_
  exact ret1 2 (.inr rfl) rfl (EntPost.same (enterF_old hall (by rw [hkey]; exact hin)) hI.d0)
 refine W_seq (W_seq (W_region (V7 rfl (Vb rfl (V5 14 rfl (V3 (.map _) rfl (hI.c0 rfl) (Vq rfl ?_)))))))
 refine WL_val rfl rfl rfl (rLookSF (a := ky) hin rfl Tryz.underlying176 Tryz.underlying9 (by kernel_rfl) rfl rfl hky hI.g3) ?_
 refine Vv rfl (Vg rfl (Vg rfl (T0 (.agg #[]) #[] hI rfl ?_)))
 clear hI; rintro b4 w - - hI
 refine T1 0 #[] (.agg _) hI rfl ?_
 clear hI; intro w hI
 refine V4 rfl (WL_nil ?_)
 replace hI := hI.d0
 refine W_seq (W_region (V2 rfl (WL_nil (W_cond false rfl (W_skip ?_)))))
 by_cases hfull : ent.length = bud
 ·refine W_seq (W_seq (W_draw (by kernel_rfl) ?_))
  refine WA_inv (T := []) hI.drew ?_
  intro Sx hSx hXS
  replace hI := hI.drew
  refine Vh 0 (hXS _ hI) rfl (Vi 1 (hXS _ hI) rfl (Vc 2 14 (hXS _ hI) rfl (V9 3 (.map _) (hXS _ hI) rfl (fun W hW => (hSx W hW).c0 rfl) ?_)))
  refine WT_take 4 rfl rfl (by kernel_rfl) (hXS _ hI) rfl (fun W hW => have hI := hSx W hW; (rLenSet rfl Tryz.underlying176 rfl hI.g3)) ?_
  refine Vh 5 (hXS _ hI) rfl (Vi 6 (hXS _ hI) rfl (Vc 7 2 (hXS _ hI) rfl (V9 8 (.int .i64 _) (hXS _ hI) rfl (fun W hW => (hSx W hW).c0 rfl) ?_)))
  refine WT_take 9 rfl rfl (by kernel_rfl) (hXS _ hI) rfl (fun W hW => have hI := hSx W hW; (by exact rEqlT rfl rfl rfl (by omega))) ?_
  refine WT_end (by kernel_rfl) (W_cond true rfl (W_seq (W_region (Va rfl (WL_nil ?_)))))
  refine W_ret ?_
  exact ret1 2 (.inr rfl) rfl (EntPost.same (enterF_over hall (by rw [hkey]; exact hin) hfull) hI)
 refine W_seq (W_seq (W_draw (by kernel_rfl) ?_))
 refine WA_inv (T := []) hI.drew ?_
 intro Sx hSx hXS
 replace hI := hI.drew
 refine Vh 0 (hXS _ hI) rfl (Vi 1 (hXS _ hI) rfl (Vc 2 14 (hXS _ hI) rfl (V9 3 (.map _) (hXS _ hI) rfl (fun W hW => (hSx W hW).c0 rfl) ?_)))
 refine WT_take 4 rfl rfl (by kernel_rfl) (hXS _ hI) rfl (fun W hW => have hI := hSx W hW; (rLenSet rfl Tryz.underlying176 rfl hI.g3)) ?_
 refine Vh 5 (hXS _ hI) rfl (Vi 6 (hXS _ hI) rfl (Vc 7 2 (hXS _ hI) rfl (V9 8 (.int .i64 _) (hXS _ hI) rfl (fun W hW => (hSx W hW).c0 rfl) ?_)))
 refine WT_take 9 rfl rfl (by kernel_rfl) (hXS _ hI) rfl (fun W hW => have hI := hSx W hW; (by exact rEqlF rfl rfl rfl (by omega))) ?_
 refine WT_end (by kernel_rfl) (W_cond false rfl (W_skip (W_seq (W_region (V7 rfl (Vb rfl (V5 14 rfl (V3 (.map _) rfl (hI.c0 rfl) (Vq rfl (T6 [] [] rfl [] [] rfl (fun _ => by kernel_rfl) ?_))))))))))
 refine WL_setPut 3 rfl hI rfl rfl rfl Tryz.underlying176 Tryz.underlying9 rfl rfl rfl hky hin ?_
 clear hI; intro w hI
 replace hI : Inv (DL l0) w0 w [B sb 179 (srcC o A l.length c bud f db eb L sts A' ord.length c'), B db 4 (boolC l.length dn), StE A' c' ord, SetE eb (ent ++ [ky])] := hI
 refine WL_nil ?_
 have hgo : enterF o l ab bud (fu + 1) ⟨dn, sts, ord, ent⟩ = loopF o l ab (enterF o l ab bud fu) ((List.range l.length).drop 0) ⟨dn, sts, ord, ent ++ [ky]⟩ := by
  rw [enterF_go hall (by rw [hkey]; exact hin) hfull]
  unfold putE
  rw [hkey]
  rfl
 have hent1 : (ent ++ [ky]).length ≤ bud := by simp; simp only at hent; omega
 refine W_seq (W_seq (W_region (V7 rfl (Vb rfl (V5 1 rfl (V3 (.slice _ _ _) rfl (hI.c0 rfl) (Vs rfl Tryz.underlying40 rfl (V0 rfl (WL_nil (W_block ?_))))))))))
 refine W_loopN (fun mu ρ w => ∃ (k : Nat) (en : List (List Nat)), mu = l.length - k ∧ k ≤ l.length ∧ en.length ≤ bud ∧ enterF o l ab bud (fu + 1) ⟨dn, sts, ord, ent⟩ = loopF o l ab (enterF o l ab bud fu) ((List.range l.length).drop k) ⟨dn, sts, ord, en⟩ ∧ (∃ A' c', Has ρ [(48, .int .i64 (k : Int)), (47, .int .i64 (l.length : Int)), (46, .slice A l.length c), (0, .pointer (some ⟨sb, 0, none⟩))] ∧ Inv (DL l0) w0 w [B sb 179 (srcC o A l.length c bud f db eb L sts A' ord.length c'), B db 4 (boolC l.length dn), StE A' c' ord, SetE eb en])) l.length
  ⟨0, _, rfl, by omega, hent1, hgo, _, _, ⟨rfl, rfl, rfl, rfl, trivial⟩, hI⟩ ?_
 clear hI hent1 hgo hl0
 rintro mu ρ w ⟨k, en, rfl, hk, hen, hgo, A', c', hH, hI⟩
 obtain ⟨σ, rfl⟩ := hH.open
 by_cases hkl : k < l.length
 rotate_left
 ·obtain rfl : k = l.length := by omega
  rw [List.drop_of_length_le (by simp)] at hgo
  refine W_seq (W_region (Vn rfl (WL_nil (W_seq (W_cond false rfl ?_)))))
  refine W_exit ?_
  refine W_seq (W_region (Va rfl (WL_nil ?_)))
  refine W_ret ?_
  exact ret1 2 (.inr rfl) rfl (EntPost.mk hgo hI (fun _ => rfl))
 rw [range_drop hkl] at hgo
 obtain ⟨bA, oA, rfl, hoc⟩ := (nops hI).at hkl
 have hk8 : keyN l k < 8 := hA.keyN hkl
 have hk0 := (hA.key k hkl).1
 have hkz : (oAt l k).key = ((keyN l k : Nat) : Int) := by unfold keyN; omega
 have hgoF : goF o l sts k = match stepF o (sts (keyN l k)) (oAt l k).kind (oAt l k).a (oAt l k).b with
  | none => none
  | some (st', r) => if (oAt l k).ret ≠ -1 ∧ r ≠ (oAt l k).res then none else some st' := rfl
 generalize hkN : keyN l k = kN at hk8 hkz hgoF
 generalize hpk : oAt l k = pk at hoc hkz hgoF
 obtain ⟨p0, p1, p2, p3, p4, p5, p6, p7⟩ := pk
 simp only at hkz hgoF
 subst hkz
 refine W_seq (W_region (Vp rfl (WL_nil (W_seq (W_cond true rfl (W_skip (W_seq (W_block (W_seq (W_region (V0 rfl (Ti 8 rfl Tryz.underlying40 rfl (Ue 8 rfl (by rfl) hoc ?_)))))))))))))
 refine T0 (.agg #[.int .i64 0, .int .i64 0, .int .i64 0, .int .i64 0, .int .i64 0, .int .i64 0, .int .i64 0, .int .i64 0]) (#[.int .i64 0, .int .i64 0, .int .i64 0, .int .i64 0, .int .i64 0, .int .i64 0, .int .i64 0, .int .i64 0]) hI rfl ?_
 clear hI; rintro b7 w - - hI
 refine Va rfl (T1 8 (#[_, _, _, _, _, _, _, _]) (.agg _) hI rfl ?_)
 clear hI; intro w hI
 refine WL_nil ?_
 simp only [opV] at hI
 cases hnx : nextF l ab dn k with
 | false =>
  rw [loopF_skip hnx] at hgo
  refine W_seq (W_seq (W_region (V7 rfl (V0 rfl (V6 [.pointer _, .int .i64 _] rfl Tryz.func111 rfl ?_)))))
  refine (snext_any sb _ c l db f ab dn k _ _ (nops hI) (hI.c1 rfl) (hI.c1 rfl) (hI.c1 rfl) hI.g2 (by omega) hkl hf).mono ?_
  rintro e w3 ⟨⟨b, rfl, hb⟩, hp⟩
  obtain rfl : b = false := (bool_iff hb nextF_iff).trans hnx
  refine ⟨_, rfl, ?_⟩
  replace hI := hI.pure hp
  refine Ta rfl (WL_nil (W_cond true rfl ?_))
  refine W_exit ?_
  replace hI := hI.d0
  refine W_region (Vu rfl (V0 rfl (WL_nil ?_)))
  exact ⟨l.length - (k + 1), by omega, k + 1, en, rfl, by omega, hen, hgo, A', c', ⟨rfl, rfl, rfl, rfl, trivial⟩, hI⟩
 | true =>
 refine W_seq (W_seq (W_region (V7 rfl (V0 rfl (V6 [.pointer _, .int .i64 _] rfl Tryz.func111 rfl ?_)))))
 refine (snext_any sb _ c l db f ab dn k _ _ (nops hI) (hI.c1 rfl) (hI.c1 rfl) (hI.c1 rfl) hI.g2 (by omega) hkl hf).mono ?_
 rintro e w3 ⟨⟨b, rfl, hb⟩, hp⟩
 obtain rfl : b = true := (bool_iff hb nextF_iff).trans hnx
 refine ⟨_, rfl, ?_⟩
 replace hI := hI.pure hp
 refine T4 rfl (WL_nil (W_cond false rfl (W_skip (W_seq (W_draw (by kernel_rfl) ?_)))))
 refine WA_inv (T := []) hI.drew ?_
 intro Sx hSx hXS
 replace hI := hI.drew
 refine Vh 0 (hXS _ hI) rfl (Vc 1 1 (hXS _ hI) rfl (V9 2 (.int .i64 _) (hXS _ hI) rfl (fun W hW => (hSx W hW).c0 rfl) (Vi 3 (hXS _ hI) rfl (Vc 4 6 (hXS _ hI) rfl ?_))))
 refine WT_take 5 rfl rfl (by kernel_rfl) (hXS _ hI) rfl (fun W hW => have hI := hSx W hW; (rIdxArr (sz := 1) (i := kN) rfl Tryz.underlying177 (by kernel_rfl) rfl rfl rfl hk8)) ?_
 refine V9 6 (.slice _ _ _) (hXS _ hI) rfl (fun W hW => have hI := hSx W hW; ((hI.g1 : Blk _ _ _ _).cell _).trans (srcC_st1 hk8)) ?_
 refine WT_take 7 rfl rfl (by kernel_rfl) (hXS _ hI) rfl (fun W hW => have hI := hSx W hW; (by exact rAsgnS rfl rfl)) ?_
 refine WT_end (by kernel_rfl) ?_
 have hdk : dn k = false := next_dn hnx
 cases hstep : stepF o (sts kN) p2 p3 p4 with
 | none =>
  have hg0 : goF o l sts k = none := by rw [hgoF, hstep]
  rw [loopF_no hnx hg0] at hgo
  refine W_seq (W_draw (by kernel_rfl) ?_)
  refine WA_inv (T := []) hI.drew ?_
  intro Sx hSx hXS
  replace hI := hI.drew
  refine Vh 0 (hXS _ hI) rfl (Vi 1 (hXS _ hI) rfl (Vc 2 0 (hXS _ hI) rfl (V9 3 (.int .i64 _) (hXS _ hI) rfl (fun W hW => (hSx W hW).c1 rfl) (T9 4 (hXS _ hI) rfl (Vc 5 2 (hXS _ hI) rfl (V9 6 (.int .i64 _) (hXS _ hI) rfl (fun W hW => (hSx W hW).c0 rfl) (Vc 7 3 (hXS _ hI) rfl (V9 8 (.int .i64 _) (hXS _ hI) rfl (fun W hW => (hSx W hW).c0 rfl) (Vc 9 4 (hXS _ hI) rfl (V9 10 (.int .i64 _) (hXS _ hI) rfl (fun W hW => (hSx W hW).c0 rfl) (Vt 11 rfl ?_)))))))))))
  refine V6 [.int .i64 _, .slice _ _ _, .int .i64 _, .int .i64 _, .int .i64 _] rfl Tryz.func50 rfl ?_
  refine (step_any o _ _ (sts kN) p2 p3 p4 _ _ (hst.now hI kN hk8) (hG.ok kN) (by have := hlen kN; omega) (nkn hI)).mono ?_
  rintro e w3 hP
  unfold StepPost at hP
  rw [hstep] at hP
  obtain ⟨rfl, hp⟩ := hP
  refine ⟨_, rfl, ?_⟩
  replace hI := hI.pure hp
  refine WL_nil ⟨hXS _ hI, ?_⟩
  refine Ug 12 (hXS _ hI) rfl (Tl 13 (hXS _ hI) rfl (Tl 14 (hXS _ hI) rfl (Tl 15 (hXS _ hI) rfl ?_)))
  refine WT_take 16 rfl rfl (by kernel_rfl) (hXS _ hI) rfl (fun W hW => have hI := hSx W hW; (by exact rAsgnS rfl rfl)) ?_
  refine Ua 17 (hXS _ hI) rfl (U3 18 (hXS _ hI) rfl (WT_end (by kernel_rfl) (W_seq (W_seq (W_region (V2 rfl (Ta rfl (V2 rfl (V1 rfl (V1 rfl (V1 rfl (V1 rfl (V1 rfl ?_)))))))))))))
  refine V1 rfl (V1 rfl (V1 rfl (V1 rfl (Vd rfl (WL_nil (W_cond true rfl ?_))))))
  refine W_exit ?_
  replace hI := hI.d0
  refine W_region (Vu rfl (V0 rfl (WL_nil ?_)))
  exact ⟨l.length - (k + 1), by omega, k + 1, en, rfl, by omega, hen, hgo, A', c', ⟨rfl, rfl, rfl, rfl, trivial⟩, hI⟩
 | some q =>
 obtain ⟨st', r⟩ := q
 refine W_seq (W_draw (by kernel_rfl) ?_)
 refine WA_inv (T := []) hI.drew ?_
 intro Sx hSx hXS
 replace hI := hI.drew
 refine Vh 0 (hXS _ hI) rfl (Vi 1 (hXS _ hI) rfl (Vc 2 0 (hXS _ hI) rfl (V9 3 (.int .i64 _) (hXS _ hI) rfl (fun W hW => (hSx W hW).c1 rfl) (T9 4 (hXS _ hI) rfl (Vc 5 2 (hXS _ hI) rfl (V9 6 (.int .i64 _) (hXS _ hI) rfl (fun W hW => (hSx W hW).c0 rfl) (Vc 7 3 (hXS _ hI) rfl (V9 8 (.int .i64 _) (hXS _ hI) rfl (fun W hW => (hSx W hW).c0 rfl) (Vc 9 4 (hXS _ hI) rfl (V9 10 (.int .i64 _) (hXS _ hI) rfl (fun W hW => (hSx W hW).c0 rfl) (Vt 11 rfl ?_)))))))))))
 refine V6 [.int .i64 _, .slice _ _ _, .int .i64 _, .int .i64 _, .int .i64 _] rfl Tryz.func50 rfl ?_
 refine (step_any o _ _ (sts kN) p2 p3 p4 _ _ (hst.now hI kN hk8) (hG.ok kN) (by have := hlen kN; omega) (nkn hI)).mono ?_
 rintro e w3 hP
 unfold StepPost at hP
 rw [hstep] at hP
 obtain ⟨A1, c1, rfl, hT⟩ := hP
 refine ⟨_, rfl, ?_⟩
 replace hI := hI.app1 hT
 refine WL_nil ⟨hXS _ hI.d0, ?_⟩
 refine Ug 12 (hXS _ hI.d0) rfl (Tl 13 (hXS _ hI.d0) rfl (Tl 14 (hXS _ hI.d0) rfl (Tl 15 (hXS _ hI.d0) rfl ?_)))
 refine WT_take 16 rfl rfl (by kernel_rfl) (hXS _ hI.d0) rfl (fun W hW => have hI := hSx W hW; (by exact rAsgnS rfl rfl)) ?_
 refine Ua 17 (hXS _ hI.d0) rfl (U3 18 (hXS _ hI.d0) rfl (WT_end (by kernel_rfl) ?_))
 by_cases hret : p7 ≠ -1 ∧ r ≠ p5
 ·have hg0 : goF o l sts k = none := by rw [hgoF, hstep]; exact if_pos hret
  rw [loopF_no hnx hg0] at hgo
  obtain ⟨hr1, hr2⟩ := hret
  refine W_seq (W_seq (W_region (V2 rfl (T4 rfl (V2 rfl (V5 7 rfl (V3 (.int .i64 _) rfl (hI.c1 rfl) (Tx rfl (V2 rfl (V0 rfl (V5 5 rfl (V3 (.int .i64 _) rfl (hI.c1 rfl) (Tx rfl ?_)))))))))))))
  refine Vd rfl (V8 rfl (WL_nil (W_cond true rfl ?_)))
  refine W_exit ?_
  replace hI := hI.d0.d0
  refine W_region (Vu rfl (V0 rfl (WL_nil ?_)))
  exact ⟨l.length - (k + 1), by omega, k + 1, en, rfl, by omega, hen, hgo, A', c', ⟨rfl, rfl, rfl, rfl, trivial⟩, hI⟩
 have hg1 : goF o l sts k = some st' := by rw [hgoF, hstep]; exact if_neg hret
 refine W_seq_cut (fun ρ w => Has ρ [(48, .int .i64 (k : Int)), (47, .int .i64 (l.length : Int)), (46, .slice (some ⟨bA, oA, none⟩) l.length c), (0, .pointer (some ⟨sb, 0, none⟩)), (6, .int .i64 (k : Int)), (7, .pointer (some ⟨b7, 0, none⟩)), (8, .slice (L kN).1 (sts kN).length (L kN).2), (9, .slice A1 st'.length c1)] ∧ Inv (DL l0) w0 w [StE A1 c1 st', B b7 77 #[.int .i64 p0, .int .i64 (kN : Int), .int .i64 p2, .int .i64 p3, .int .i64 p4, .int .i64 p5, .int .i64 p6, .int .i64 p7], B sb 179 (srcC o (some ⟨bA, oA, none⟩) l.length c bud f db eb L sts A' ord.length c'), B db 4 (boolC l.length dn), StE A' c' ord, SetE eb en]) ?_ ?_
 ·by_cases h7 : p7 = -1
  ·refine W_seq (W_region (V2 rfl (T4 rfl (V2 rfl (V5 7 rfl (V3 (.int .i64 _) rfl (hI.c1 rfl) (U5 rfl (V2 rfl (V1 rfl (V1 rfl (V1 rfl (V1 rfl (V8 rfl ?_)))))))))))))
   refine V8 rfl (WL_nil (W_cond false rfl (W_skip ?_)))
   exact ⟨⟨rfl, rfl, rfl, rfl, rfl, rfl, rfl, rfl, trivial⟩, hI⟩
  ·have h5 : r = p5 := by
    rcases Classical.em (r = p5) with h | h
    ·exact h
    ·exact absurd ⟨h7, h⟩ hret
   refine W_seq (W_region (V2 rfl (T4 rfl (V2 rfl (V5 7 rfl (V3 (.int .i64 _) rfl (hI.c1 rfl) (Tx rfl (V2 rfl (V0 rfl (V5 5 rfl (V3 (.int .i64 _) rfl (hI.c1 rfl) (U5 rfl (Vd rfl ?_)))))))))))))
   refine V8 rfl (WL_nil (W_cond false rfl (W_skip ?_)))
   exact ⟨⟨rfl, rfl, rfl, rfl, rfl, rfl, rfl, rfl, trivial⟩, hI⟩
 clear hI
 rintro ρ w ⟨hH, hI⟩
 obtain ⟨σ, rfl⟩ := hH.open
 refine W_seq_cut (fun ρ w => Has ρ [(48, .int .i64 (k : Int)), (47, .int .i64 (l.length : Int)), (46, .slice (some ⟨bA, oA, none⟩) l.length c), (0, .pointer (some ⟨sb, 0, none⟩)), (6, .int .i64 (k : Int)), (7, .pointer (some ⟨b7, 0, none⟩)), (8, .slice (L kN).1 (sts kN).length (L kN).2)] ∧ Inv (DL l0) w0 w [StE A1 c1 st', B b7 77 #[.int .i64 p0, .int .i64 (kN : Int), .int .i64 p2, .int .i64 p3, .int .i64 p4, .int .i64 p5, .int .i64 p6, .int .i64 p7], B sb 179 (srcC o (some ⟨bA, oA, none⟩) l.length c bud f db eb (updL L kN A1 c1) (stSet sts kN st') A' ord.length c'), B db 4 (boolC l.length (dnSet dn k true)), StE A' c' ord, SetE eb en]) ?_ ?_
 ·refine W_draw (by kernel_rfl) ?_
  refine WA_inv (T := [14]) hI.d3.drew ?_
  intro Sx hSx hXS
  replace hI := hI.drew
  refine Vh 0 (hXS _ hI.d3) rfl (Vi 1 (hXS _ hI.d3) rfl (Vc 2 4 (hXS _ hI.d3) rfl (V9 3 (.slice _ _ _) (hXS _ hI.d3) rfl (fun W hW => (hSx W hW).c2 rfl) (Vw 4 (hXS _ hI.d3) rfl (Vh 5 (hXS _ hI.d3) rfl (Vc 6 1 (hXS _ hI.d3) rfl (V9 7 (.int .i64 _) (hXS _ hI.d3) rfl (fun W hW => (hSx W hW).c1 rfl) (T9 8 (hXS _ hI.d3) rfl (U1 9 (hXS _ hI.d3) rfl Tryz.underlying70 rfl (Vi 11 (hXS _ hI.d3) rfl (Vc 12 6 (hXS _ hI.d3) rfl (Vt 10 rfl ?_))))))))))))
  refine WL_st 3 rfl (u := .bool true) (j := k) hI rfl rfl rfl rfl rfl rfl (by kernel_rfl) rfl (by simp [Nat.blt, boolC]; omega) rfl ?_
  clear hI; intro w hI
  simp only [List.set_cons_succ, List.set_cons_zero] at hI
  rw [boolC_dnSet] at hI
  refine WL_nil ⟨hXS _ hI.d3, ?_⟩
  refine WT_take 13 rfl rfl (by kernel_rfl) (hXS _ hI.d3) rfl (fun W hW => have hI := hSx W hW; (rIdxArr (sz := 1) (i := kN) rfl Tryz.underlying177 (by kernel_rfl) rfl rfl rfl hk8)) ?_
  refine WT_A (by kernel_rfl) ?_
  clear hXS hSx
  refine T2 14 rfl ?_
  refine WL_st 2 rfl (u := .slice A1 st'.length c1) (j := 6 + kN * 1) hI rfl rfl rfl rfl rfl rfl (by kernel_rfl) rfl (by simp [Nat.blt, srcC]; omega) rfl ?_
  clear hI; intro w hI
  simp only [List.set_cons_succ, List.set_cons_zero] at hI
  rw [Nat.mul_one, srcC_set hk8] at hI
  refine WL_nil ?_
  refine WA_end (by kernel_rfl) ?_
  exact ⟨⟨rfl, rfl, rfl, rfl, rfl, rfl, rfl, trivial⟩, hI⟩
 clear hI
 rintro ρ w ⟨hH, hI⟩
 obtain ⟨σ, rfl⟩ := hH.open
 refine W_seq (W_region (V7 rfl (V7 rfl (Vb rfl (V5 5 rfl (V3 (.slice _ _ _) rfl (hI.c2 rfl) (V0 rfl (Vy [(0, .int .i64 _)] [_] [.int .i64 0] [0] hI rfl Tryz.underlying26 (fun _ => by kernel_rfl) ?_))))))))
 clear hI; rintro b112 w - - hI
 refine WL_app5 (z := .int .i64 0) (by_ := 8) hI rfl rfl rfl rfl rfl rfl Tryz.underlying26 (by kernel_rfl) rfl (by omega) (by rfl) hI.lit0 (by rfl) (by omega) (by omega) (by exact Nat.zero_le _) ?_
 clear hI; rintro A113 c113 w hA113 hc113 hI
 replace hI := hI.d0
 refine Vb rfl (V5 5 rfl ?_)
 refine WL_st2 (u := .slice _ _ _) hI rfl rfl rfl rfl rfl rfl (by kernel_rfl) rfl rfl rfl ?_
 clear hI; intro w hI
 refine WL_nil ?_
 replace hI : Inv (DL l0) w0 w [StE A1 c1 st', B b7 77 #[.int .i64 p0, .int .i64 (kN : Int), .int .i64 p2, .int .i64 p3, .int .i64 p4, .int .i64 p5, .int .i64 p6, .int .i64 p7], B sb 179 (srcC o (some ⟨bA, oA, none⟩) l.length c bud f db eb (updL L kN A1 c1) (stSet sts kN st') A113 (ord.length + 1) c113), B db 4 (boolC l.length (dnSet dn k true)), Row 0 3 1 A113 (ord.length + 1) c113 (i64s ord ++ [.int .i64 (k : Int)]), SetE eb en] := hI
 replace hI : Inv (DL l0) w0 w [StE A1 c1 st', B b7 77 #[.int .i64 p0, .int .i64 (kN : Int), .int .i64 p2, .int .i64 p3, .int .i64 p4, .int .i64 p5, .int .i64 p6, .int .i64 p7], B sb 179 (srcC o (some ⟨bA, oA, none⟩) l.length c bud f db eb (updL L kN A1 c1) (stSet sts kN st') A113 (ord ++ [(k : Int)]).length c113), B db 4 (boolC l.length (dnSet dn k true)), StE A113 c113 (ord ++ [(k : Int)]), SetE eb en] := by
  unfold StE
  rw [i64s_app, List.length_append, List.length_singleton]
  exact hI
 have hu1 := undn_set hkl hdk
 have hG1 := hG.step hA hkl hdk hg1
 rw [hkN] at hG1
 have hs1 : stepS l ⟨dn, sts, ord, en⟩ k st' = ⟨dnSet dn k true, stSet sts kN st', ord ++ [(k : Int)], en⟩ := by unfold stepS; rw [hkN]
 have hst1 := StE.rd hI
 obtain ⟨hk1, hk2⟩ := kn_now hI hkn hkg
 have ho1 := nops hI
 have hst0 := (hst.now hI)
 have hsub : ∀ e ∈ prt sb o (some ⟨bA, oA, none⟩) l.length c bud f db eb (updL L kN A1 c1) ⟨dnSet dn k true, stSet sts kN st', ord ++ [(k : Int)], en⟩ A113 c113, e ∈ [StE A1 c1 st', B b7 77 #[.int .i64 p0, .int .i64 (kN : Int), .int .i64 p2, .int .i64 p3, .int .i64 p4, .int .i64 p5, .int .i64 p6, .int .i64 p7], B sb 179 (srcC o (some ⟨bA, oA, none⟩) l.length c bud f db eb (updL L kN A1 c1) (stSet sts kN st') A113 (ord ++ [(k : Int)]).length c113), B db 4 (boolC l.length (dnSet dn k true)), StE A113 c113 (ord ++ [(k : Int)]), SetE eb en] := fun e he => List.mem_cons_of_mem _ (List.mem_cons_of_mem _ he)
 replace hI : Inv (DL l0) w0 w (prt sb o (some ⟨bA, oA, none⟩) l.length c bud f db eb (updL L kN A1 c1) ⟨dnSet dn k true, stSet sts kN st', ord ++ [(k : Int)], en⟩ A113 c113 ++ [StE A1 c1 st', B b7 77 #[.int .i64 p0, .int .i64 (kN : Int), .int .i64 p2, .int .i64 p3, .int .i64 p4, .int .i64 p5, .int .i64 p6, .int .i64 p7]]) := hI.perm (List.perm_append_comm (l₁ := [_, _]))
 have hcall := ih ⟨dnSet dn k true, stSet sts kN st', ord ++ [(k : Int)], en⟩ (updL L kN A1 c1) A113 c113 w (by simp only; simp only at hu; omega) hG1 (by simp only [List.length_append, List.length_singleton]; simp only at hord; omega) hen hI.from (Rd.mono ho1 fun _ hb => DL.mono hsub hb) hk1 (DL.mono hsub hk2) ((hst0.mono hsub).upd (hst1.mono fun _ hb => DL.mono (fun e he => List.mem_cons_of_mem _ he) hb))
 by_cases hcode : (enterF o l ab bud fu ⟨dnSet dn k true, stSet sts kN st', ord ++ [(k : Int)], en⟩).1 = 2
 rotate_left
 ·rw [loopF_hit hnx hg1 (by rw [hs1]; exact hcode), hs1] at hgo
  refine W_seq (W_seq (W_region (V7 rfl (V6 [.pointer _] rfl Tryz.func76 rfl ?_))))
  refine hcall.mono ?_
  generalize hR : enterF o l ab bud fu ⟨dnSet dn k true, stSet sts kN st', ord ++ [(k : Int)], en⟩ = R at hcode hgo
  rintro e w4 ⟨L', A2, c2, rfl, hT, hLL⟩
  rw [hR] at hT hLL ⊢
  obtain ⟨z, s'⟩ := R
  simp only at hcode hT hLL
  refine ⟨_, rfl, ?_⟩
  replace hI := hI.turnL hT
  refine Va rfl (WL_nil (W_seq (W_region (V0 rfl (Tx rfl (WL_nil (W_cond true rfl (W_seq (W_region (V0 rfl (Va rfl (WL_nil ?_))))))))))))
  refine W_ret ?_
  exact ret1 2 (.inr rfl) rfl (EntPost.mk hgo hI.d4.d4 (fun e => absurd e hcode))
 rw [loopF_on hnx hg1 (by rw [hs1]; exact hcode), hs1] at hgo
 have heq := enter_eq hcode
 have hen2 : (enterF o l ab bud fu ⟨dnSet dn k true, stSet sts kN st', ord ++ [(k : Int)], en⟩).2.ent.length ≤ bud := enter_len fu _ hen
 refine W_seq (W_seq (W_region (V7 rfl (V6 [.pointer _] rfl Tryz.func76 rfl ?_))))
 refine hcall.mono ?_
 rintro e w4 ⟨L', A2, c2, rfl, hT, hLL⟩
 obtain rfl := hLL hcode
 rw [heq] at hT
 rw [hcode]
 refine ⟨_, rfl, ?_⟩
 replace hI := hI.turnL hT
 refine Va rfl (WL_nil ?_)
 clear hcall heq ih
 generalize (enterF o l ab bud fu ⟨dnSet dn k true, stSet sts kN st', ord ++ [(k : Int)], en⟩).2.ent = en2 at hI hen2 hgo
 replace hI : Inv (DL l0) w0 w4 [B sb 179 (srcC o (some ⟨bA, oA, none⟩) l.length c bud f db eb (updL L kN A1 c1) (stSet sts kN st') A2 (ord ++ [(k : Int)]).length c2), B db 4 (boolC l.length (dnSet dn k true)), StE A2 c2 (ord ++ [(k : Int)]), SetE eb en2, StE A1 c1 st', B b7 77 #[.int .i64 p0, .int .i64 (kN : Int), .int .i64 p2, .int .i64 p3, .int .i64 p4, .int .i64 p5, .int .i64 p6, .int .i64 p7]] := hI
 refine W_seq (W_region (V0 rfl (U5 rfl (WL_nil (W_cond false rfl (W_skip ?_))))))
 refine W_seq_cut (fun ρ w => Has ρ [(48, .int .i64 (k : Int)), (47, .int .i64 (l.length : Int)), (46, .slice (some ⟨bA, oA, none⟩) l.length c), (0, .pointer (some ⟨sb, 0, none⟩))] ∧ Inv (DL l0) w0 w [B sb 179 (srcC o (some ⟨bA, oA, none⟩) l.length c bud f db eb L sts A2 (ord ++ [(k : Int)]).length c2), B db 4 (boolC l.length dn), StE A2 c2 (ord ++ [(k : Int)]), SetE eb en2, StE A1 c1 st', B b7 77 #[.int .i64 p0, .int .i64 (kN : Int), .int .i64 p2, .int .i64 p3, .int .i64 p4, .int .i64 p5, .int .i64 p6, .int .i64 p7]]) ?_ ?_
 ·refine W_draw (by kernel_rfl) ?_
  refine WA_inv (T := [14]) hI.d1.drew ?_
  intro Sx hSx hXS
  replace hI := hI.drew
  refine Vh 0 (hXS _ hI.d1) rfl (Vi 1 (hXS _ hI.d1) rfl (Vc 2 4 (hXS _ hI.d1) rfl (V9 3 (.slice _ _ _) (hXS _ hI.d1) rfl (fun W hW => (hSx W hW).c0 rfl) (Vw 4 (hXS _ hI.d1) rfl (Vh 5 (hXS _ hI.d1) rfl (Vc 6 1 (hXS _ hI.d1) rfl (V9 7 (.int .i64 _) (hXS _ hI.d1) rfl (fun W hW => (hSx W hW).c4 rfl) (T9 8 (hXS _ hI.d1) rfl (U1 9 (hXS _ hI.d1) rfl Tryz.underlying70 rfl (Vi 11 (hXS _ hI.d1) rfl (Vc 12 6 (hXS _ hI.d1) rfl (Vt 10 rfl ?_))))))))))))
  refine WL_st 1 rfl (u := .bool false) (j := k) hI rfl rfl rfl rfl rfl rfl (by kernel_rfl) rfl (by simp [Nat.blt, boolC]; omega) rfl ?_
  clear hI; intro w hI
  simp only [List.set_cons_succ, List.set_cons_zero] at hI
  rw [boolC_dnSet, dnSet_back hdk] at hI
  refine WL_nil ⟨hXS _ hI.d1, ?_⟩
  refine WT_take 13 rfl rfl (by kernel_rfl) (hXS _ hI.d1) rfl (fun W hW => have hI := hSx W hW; (rIdxArr (sz := 1) (i := kN) rfl Tryz.underlying177 (by kernel_rfl) rfl rfl rfl hk8)) ?_
  refine WT_A (by kernel_rfl) ?_
  clear hXS hSx
  refine T2 14 rfl ?_
  refine WL_st 0 rfl (u := .slice (L kN).1 (sts kN).length (L kN).2) (j := 6 + kN * 1) hI rfl rfl rfl rfl rfl rfl (by kernel_rfl) rfl (by simp [Nat.blt, srcC]; omega) rfl ?_
  clear hI; intro w hI
  simp only [List.set_cons_succ, List.set_cons_zero] at hI
  rw [Nat.mul_one, srcC_set hk8, updL_back, stSet_back] at hI
  refine WL_nil ?_
  refine WA_end (by kernel_rfl) ?_
  exact ⟨⟨rfl, rfl, rfl, rfl, trivial⟩, hI⟩
 clear hI
 rintro ρ w ⟨hH, hI⟩
 obtain ⟨σ, rfl⟩ := hH.open
 have hrow : w.ownsRow 0 3 1 (.slice A2 (ord ++ [(k : Int)]).length c2) (ord ++ [(k : Int)]).length (i64s (ord ++ [(k : Int)])) := hI.g2
 have hl1 : (ord ++ [(k : Int)]).length = ord.length + 1 := by simp
 obtain ⟨g, og, rfl⟩ := row_addrS hrow (by omega) (by omega)
 have hcap : (ord ++ [(k : Int)]).length ≤ c2 ∧ c2 ≤ 9223372036854775807 := by
  rcases row_open hrow with ⟨hA, _⟩ | ⟨_, _, _, _, h1, h2, _⟩
  ·cases hA
  ·exact ⟨h1, h2⟩
 refine W_draw (by kernel_rfl) ?_
 refine WA_inv (T := [14]) hI.drew ?_
 intro Sx hSx hXS
 replace hI := hI.drew
 refine Vh 0 (hXS _ hI) rfl (Vh 1 (hXS _ hI) rfl (Vi 2 (hXS _ hI) rfl (Vc 3 5 (hXS _ hI) rfl (V9 4 (.slice _ _ _) (hXS _ hI) rfl (fun W hW => (hSx W hW).c0 rfl) (Vh 5 (hXS _ hI) rfl (Vi 6 (hXS _ hI) rfl (Vc 7 5 (hXS _ hI) rfl (V9 8 (.slice _ _ _) (hXS _ hI) rfl (fun W hW => (hSx W hW).c0 rfl) (Uh 9 (hXS _ hI) rfl Tryz.underlying26 rfl ?_)))))))))
 refine WT_take 10 rfl rfl (by kernel_rfl) (hXS _ hI) rfl (fun W hW => have hI := hSx W hW; (rDecN (b := 1) rfl rfl rfl (by omega) (by omega))) ?_
 refine WT_take 11 rfl rfl (by kernel_rfl) (hXS _ hI) rfl (fun W hW => have hI := hSx W hW; (rSliceTo (sz := 1) (i := (ord ++ [(k : Int)]).length - 1) rfl Tryz.underlying26 (by kernel_rfl) rfl rfl (by omega))) ?_
 refine Vi 12 (hXS _ hI) rfl (Vc 13 5 (hXS _ hI) rfl ?_)
 refine WT_A (by kernel_rfl) ?_
 clear hXS hSx
 refine T2 14 rfl ?_
 refine WL_st0 (u := .slice _ _ _) hI rfl rfl rfl rfl rfl rfl (by kernel_rfl) rfl rfl rfl ?_
 clear hI; intro w hI
 refine WL_nil ?_
 refine WA_end (by kernel_rfl) ?_
 replace hI : Inv (DL l0) w0 w [B sb 179 (srcC o (some ⟨bA, oA, none⟩) l.length c bud f db eb L sts (some ⟨g, og, none⟩) ((ord ++ [(k : Int)]).length - 1) c2), B db 4 (boolC l.length dn), StE (some ⟨g, og, none⟩) c2 (ord ++ [(k : Int)]), SetE eb en2, StE A1 c1 st', B b7 77 #[.int .i64 p0, .int .i64 (kN : Int), .int .i64 p2, .int .i64 p3, .int .i64 p4, .int .i64 p5, .int .i64 p6, .int .i64 p7]] := hI
 replace hI := (hI.u2 (e' := StE (some ⟨g, og, none⟩) c2 ((ord ++ [(k : Int)]).take ((ord ++ [(k : Int)]).length - 1))) (Chg.refl _ _) (Row_part (hI.ok _ (by simp)) _ (by omega)) (fun k hk => .inl hk)).d4.d4
 rw [hl1, Nat.add_sub_cancel, List.take_left] at hI
 refine W_region (Vu rfl (V0 rfl (WL_nil ?_)))
 exact ⟨l.length - (k + 1), by omega, k + 1, en2, rfl, by omega, hen2, hgo, _, _, ⟨rfl, rfl, rfl, rfl, trivial⟩, hI⟩
end Go.Proofs.YthndpiopbdecfaaGreatDoor
