/- Part of the proof that a desk answers in pieces. -/
import Derived.Test.YtnckdmogdehnoaaGreatDoorPA
import Derived.Test.YtnckdmogdehnoaaGreatDoorPGraphB
import Derived.Test.YtnckdmogdehnoaaGreatDoorPMod6
import Derived.Test.YtnckdmogdehnoaaGreatDoorPIntC
import Derived.Test.YtnckdmogdehnoaaGreatDoorPSrch2
set_option maxRecDepth 8000
set_option maxHeartbeats 4000000
set_option linter.unusedVariables false
set_option linter.unusedSimpArgs false
namespace Go.Proofs.YtnckdmogdehnoaaGreatDoor
open Tryz
open Go.RowKit
variable {l : List Op8} {k : Nat}
def befB (p q : Op8) : Bool := decide (0 ≤ p.ret) && decide (p.ret < q.call)
theorem before_one (p0 p1 p2 p3 p4 p5 p6 p7 q0 q1 q2 q3 q4 q5 q6 q7 : Int) (w0 : World) : Cq 92 #[.agg #[.int .i64 p0, .int .i64 p1, .int .i64 p2, .int .i64 p3, .int .i64 p4, .int .i64 p5, .int .i64 p6, .int .i64 p7], .agg #[.int .i64 q0, .int .i64 q1, .int .i64 q2, .int .i64 q3, .int .i64 q4, .int .i64 q5, .int .i64 q6, .int .i64 q7]] w0 fun en w' => en = .returned (.bool (befB ⟨p0, p1, p2, p3, p4, p5, p6, p7⟩ ⟨q0, q1, q2, q3, q4, q5, q6, q7⟩)) ∧ Pure w0 w' := by
 have hI := Inv.start (fun _ => False) w0
 refine Vm func92 Z (Wq (Tq (.agg _) (#[_, _, _, _, _, _, _, _]) hI Z ?_))
 rintro b2 w - - hI
 refine Tq (.agg _) (#[_, _, _, _, _, _, _, _]) hI Z ?_
 rintro b3 w - - hI
 refine Vc Z (Wn ?_)
 obtain ⟨r, hr⟩ : ∃ r, befB ⟨p0, p1, p2, p3, p4, p5, p6, p7⟩ ⟨q0, q1, q2, q3, q4, q5, q6, q7⟩ = r := ⟨_, rfl⟩
 rw [hr]
 have hr' : (decide (0 ≤ p7) && decide (p7 < q6)) = r := hr
 by_cases h : 0 ≤ p7
 ·rw [decide_eq_true h, Bool.true_and] at hr'
  by_cases h2 : p7 < q6
  ·rw [decide_eq_true h2] at hr'; subst hr'
   exact Wq (V8 7 Z (Yd hI Z Z (U1 Z (V7 Z (V8 7 Z (Yd hI Z Z (V8 6 Z (Yc hI Z Z (Vu Z (Vk Z (Vc Z (Wn (WR (r1_ 4 Z ⟨Z, hI.pu⟩))))))))))))))
  rw [decide_eq_false h2] at hr'; subst hr'
  exact Wq (V8 7 Z (Yd hI Z Z (U1 Z (V7 Z (V8 7 Z (Yd hI Z Z (V8 6 Z (Yc hI Z Z (Vr Z (Vk Z (Vc Z (Wn (WR (r1_ 4 Z ⟨Z, hI.pu⟩))))))))))))))
 rw [decide_eq_false h, Bool.false_and] at hr'; subst hr'
 exact Wq (V8 7 Z (Yd hI Z Z (Uf Z (V7 Z (V5 Z (V5 Z (V5 Z (V5 Z (V5 Z (Vi Z (Vc Z (Wn (WR (r1_ 4 Z ⟨Z, hI.pu⟩))))))))))))))
theorem before_any (p q : Op8) (w0 : World) : Cq 92 #[.agg (opV p).toArray, .agg (opV q).toArray] w0 fun en w' => en = .returned (.bool (befB p q)) ∧ Pure w0 w' := by
 obtain ⟨p0, p1, p2, p3, p4, p5, p6, p7⟩ := p
 obtain ⟨q0, q1, q2, q3, q4, q5, q6, q7⟩ := q
 exact before_one p0 p1 p2 p3 p4 p5 p6 p7 q0 q1 q2 q3 q4 q5 q6 q7 w0
def ordOk (o : Op8) (ah : List Op8) : Prop := ¬ (o.call < 0) ∧ ¬ (0 < ah.length ∧ o.call ≤ (oAt ah (ah.length - 1)).call) ∧ ¬ (o.ret ≠ -1 ∧ o.ret ≤ o.call) ∧ ¬ (o.ret = -1 ∧ o.res ≠ 0)
def twiceAt (o : Op8) (n : Int) : Prop := n ≠ -1 ∧ (n = o.call ∨ n = o.ret)
def OkOp (o : Op8) (ah : List Op8) : Prop :=
 toldB o.proc o.key [o.a, o.b, o.res, o.call, o.ret] = true ∧ inB o.kind 1 12 = true ∧ ordOk o ah ∧
  (∀ k, k < ah.length → ¬ twiceAt o (oAt ah k).call ∧ ¬ twiceAt o (oAt ah k).ret) ∧ (∀ k, k < ah.length → (oAt ah k).proc = o.proc → befB (oAt ah k) o = true)
def IsErr8 (v : Value) : Prop := ∃ u : Int, v = .iface 49 (.int .i64 u) ∧ u ≠ 8
theorem IsErr8.any {v : Value} (h : IsErr8 v) : IsErr v := by obtain ⟨u, h1, _⟩ := h; exact ⟨u, h1⟩
def OpPost (o : Op8) (ah : List Op8) (w0 : World) (en : Ending) (w' : World) : Prop := Pure w0 w' ∧ ((OkOp o ah ∧ en = .returned .nilIface) ∨ (¬ OkOp o ah ∧ ∃ x, IsErr8 x ∧ en = .returned x))
theorem OpPost.bad {o : Op8} {ah : List Op8} {w0 w' : World} {z : Int} (h : ¬ OkOp o ah) (hp : Pure w0 w') (hz : z ≠ 8 := by decide) : OpPost o ah w0 (.returned (.iface 49 (.int .i64 z))) w' := ⟨hp, .inr ⟨h, _, ⟨z, rfl, hz⟩, rfl⟩⟩
theorem checkOp_one (o0 o1 o2 o3 o4 o5 o6 o7 : Int) (A : Option Addr) (n c : Nat) (ah : List Op8) (D : Nat → Prop) (w0 : World) (h : OpsR w0 D (.slice A n c) ah) (hn40 : n ≤ 1000) :
  Cq 166 #[.agg #[.int .i64 o0, .int .i64 o1, .int .i64 o2, .int .i64 o3, .int .i64 o4, .int .i64 o5, .int .i64 o6, .int .i64 o7], .slice A n c] w0 (OpPost ⟨o0, o1, o2, o3, o4, o5, o6, o7⟩ ah w0) := by
 obtain ⟨hn, hc1, hc2⟩ := h.len
 subst hn
 have hI := Inv.start (fun _ => False) w0
 refine Vm func166 Z (Wq (Tq (.agg _) (#[_, _, _, _, _, _, _, _]) hI Z ?_))
 rintro b2 w - - hI
 refine Vw Z (Wn (Wq (V8 7 Z (Yc hI Z Z (Wv Z (rEql Z Z Z) (Vc Z (Wn (Ws (Wb ?_)))))))))
 cases ht : toldB o0 o1 [o3, o4, o5, o6, o7] with
 | false =>
  refine Wq (V8 0 Z (Yc hI Z Z (V8 1 Z (Yc hI Z Z (V8 3 Z (Yc hI Z Z (V8 4 Z (Yc hI Z Z (V8 5 Z (Yc hI Z Z (V8 6 Z (Yc hI Z Z (V8 7 Z (Yc hI Z Z (T3 [(0, Y _), (1, Y _), (2, Y _), (3, Y _), (4, Y _)] [_, _, _, _, _] [Y 0, Y 0, Y 0, Y 0, Y 0] [0, 1, 2, 3, 4] hI Z yy41 (fun _ => by kernel_rfl) ?_)))))))))))))))
  rintro b30 w - - hI
  refine Vd [Y _, Y _, .slice _ _ _] Z func149 Z ((told_any o0 o1 _ 5 5 [o3, o4, o5, o6, o7] _ _ (ints_lit hI.g0 Z Z (by omega)) Z (by omega)).mono ?_)
  rw [ht]
  rintro e w1 ⟨rfl, rfl⟩
  exact rV (To Z (Vc Z (Yt Z (Wq (T0 Z yy49 Z (Vt Z (Wn (WR (r1_ 4 Z (OpPost.bad (fun hh => by have := hh.1; rw [show toldB _ _ _ = false from ht] at this; cases this) hI.pu))))))))))
 | true =>
 refine Wq (V8 0 Z (Yc hI Z Z (V8 1 Z (Yc hI Z Z (V8 3 Z (Yc hI Z Z (V8 4 Z (Yc hI Z Z (V8 5 Z (Yc hI Z Z (V8 6 Z (Yc hI Z Z (V8 7 Z (Yc hI Z Z (T3 [(0, Y _), (1, Y _), (2, Y _), (3, Y _), (4, Y _)] [_, _, _, _, _] [Y 0, Y 0, Y 0, Y 0, Y 0] [0, 1, 2, 3, 4] hI Z yy41 (fun _ => by kernel_rfl) ?_)))))))))))))))
 rintro b30 w - - hI
 refine Vd [Y _, Y _, .slice _ _ _] Z func149 Z ((told_any o0 o1 _ 5 5 [o3, o4, o5, o6, o7] _ _ (ints_lit hI.g0 Z Z (by omega)) Z (by omega)).mono ?_)
 rw [ht]
 rintro e w1 ⟨rfl, rfl⟩
 refine rV (Tf Z (Vc Z (Yf Z ?_)))
 have hI := hI.d0
 cases hkd : inB o2 1 12 with
 | false =>
  refine Wq (V8 2 Z (Yc hI Z Z (Vd [Y _, Y _, Y _] Z func150 Z ((ein_any o2 1 12 _).mono ?_))))
  rw [hkd]
  rintro e w1 ⟨rfl, rfl⟩
  exact rV (To Z (Vc Z (Yt Z (Wq (T0 Z yy49 Z (Vt Z (Wn (WR (r1_ 4 Z (OpPost.bad (fun hh => by have := hh.2.1; rw [show inB _ _ _ = false from hkd] at this; cases this) hI.pu))))))))))
 | true =>
 refine Wq (V8 2 Z (Yc hI Z Z (Vd [Y _, Y _, Y _] Z func150 Z ((ein_any o2 1 12 _).mono ?_))))
 rw [hkd]
 rintro e w1 ⟨rfl, rfl⟩
 refine rV (Tf Z (Vc Z (Yf Z (Wx (fun ρ w => ∃ bb : Bool, (bb = true ↔ ¬ ordOk ⟨o0, o1, o2, o3, o4, o5, o6, o7⟩ ah) ∧ Has ρ [(40, .bool bb), (1, .slice A ah.length c), (2, .pointer (some ⟨b2, 0, none⟩))] ∧ Inv NF w0 w [B b2 106 #[Y o0, Y o1, Y o2, Y o3, Y o4, Y o5, Y o6, Y o7]]) ?_ ?_))))
 ·by_cases c1 : o6 < 0
  ·exact Wq (V8 6 Z (Yc hI Z Z (Vu Z (Vc Z (Yt Z (Wk ⟨true, by simp; exact fun hh => hh.1 c1, g3_, hI⟩))))))
  refine Wq (V8 6 Z (Yc hI Z Z (Vr Z (Vc Z (Yf Z ?_)))))
  obtain ⟨lb, hlb⟩ : ∃ lb : Bool, (lb = true ↔ (0 < ah.length ∧ o6 ≤ (oAt ah (ah.length - 1)).call)) := ⟨decide (0 < ah.length ∧ o6 ≤ (oAt ah (ah.length - 1)).call), by simp⟩
  refine Wx (fun ρ w => Has ρ [(40, .bool lb), (1, .slice A ah.length c), (2, .pointer (some ⟨b2, 0, none⟩)), (5, .bool (decide (o7 = -1)))] ∧ Inv NF w0 w [B b2 106 #[Y o0, Y o1, Y o2, Y o3, Y o4, Y o5, Y o6, Y o7]]) ?_ ?_
  ·rcases Nat.eq_zero_or_pos ah.length with h0 | h0
   ·have : lb = false := by
     cases lb
     ·rfl
     have := hlb.1 rfl; omega
    subst this
    exact Yi hI fun Sx hY hXS hI => Vp 0 Z (U2 1 Z yy94 Z (Wt 2 Z (fun W hW => have hI := hY W hW; (by exact rGtrF rfl rfl rfl (by omega))) (Ve 3 Z (V4 4 Z Z (V4 5 Z Z (V4 6 Z Z (V4 7 Z Z (V4 8 Z Z (V4 9 Z Z (V4 10 Z Z (V4 11 Z Z (V4 12 Z Z (V4 13 Z Z (Vn 14 Z (Tg 15 Z (Yz ⟨g4_, hI⟩))))))))))))))))
   obtain ⟨ab, ao, rfl, hoc⟩ := h.at (show ah.length - 1 < ah.length by omega)
   have hcl := hoc 6 _ rfl
   by_cases hle : o6 ≤ (oAt ah (ah.length - 1)).call
   ·have : lb = true := hlb.2 ⟨h0, hle⟩
    subst this
    exact Yi hI fun Sx hY hXS hI => Vp 0 Z (U2 1 Z yy94 Z (Wt 2 Z (fun W hW => have hI := hY W hW; (by exact rGtrT rfl rfl rfl (by omega))) (Ve 3 Z (Vf 4 6 Z (Ye 5 hY Z Z (Vp 6 Z (Vp 7 Z (U2 8 Z yy94 Z (Wt 9 Z (fun W hW => have hI := hY W hW; (rDecN (a := ah.length) (b := 1) Z Z Z (by omega) (by omega))) (Uh 10 8 (ah.length - 1) Z yy94 Z (T9 11 6 Z (V9 12 (Y _) Z (Yo hY hcl) (Wt 13 Z (fun W hW => have hI := hY W hW; (by exact rLeqT rfl rfl rfl (by omega))) (Vv 14 Z (Tg 15 Z (Yz ⟨g4_, hI⟩))))))))))))))))
   have : lb = false := by
    cases lb
    ·rfl
    exact absurd (hlb.1 Z).2 hle
   subst this
   exact Yi hI fun Sx hY hXS hI => Vp 0 Z (U2 1 Z yy94 Z (Wt 2 Z (fun W hW => have hI := hY W hW; (by exact rGtrT rfl rfl rfl (by omega))) (Ve 3 Z (Vf 4 6 Z (Ye 5 hY Z Z (Vp 6 Z (Vp 7 Z (U2 8 Z yy94 Z (Wt 9 Z (fun W hW => have hI := hY W hW; (rDecN (a := ah.length) (b := 1) Z Z Z (by omega) (by omega))) (Uh 10 8 (ah.length - 1) Z yy94 Z (T9 11 6 Z (V9 12 (Y _) Z (Yo hY hcl) (Wt 13 Z (fun W hW => have hI := hY W hW; (by exact rLeqF rfl rfl rfl (by omega))) (Vv 14 Z (Tg 15 Z (Yz ⟨g4_, hI⟩))))))))))))))))
  clear hI
  rintro ρ w ⟨hH, hI⟩
  obtain ⟨σ, rfl⟩ := hH.open
  cases lb with
  | true =>
   exact Wc true Z (Wk ⟨true, by simp; exact fun hh => hh.2.1 (hlb.1 rfl), g3_, hI⟩)
  | false =>
  have hnl : ¬ (0 < ah.length ∧ o6 ≤ (oAt ah (ah.length - 1)).call) := fun hh => by have := hlb.2 hh; cases this
  refine Wc false Z ?_
  by_cases hu : o7 = -1
  ·rw [decide_eq_true hu]
   refine Wq (V7 Z (Tf Z (V7 Z (V5 Z (V5 Z (V5 Z (V5 Z (V5 Z (Vi Z (Vc Z (Yf Z ?_)))))))))))
   by_cases hres : o5 = 0
   ·exact Wr (V7 Z (V7 Z (V8 5 Z (Yc hI Z Z (Ty Z (Vk Z (Vc Z (Wn ⟨false, by simp; exact ⟨by exact c1, hnl, fun hh => hh.1 hu, fun hh => hh.2 hres⟩, g3_, hI⟩))))))))
   exact Wr (V7 Z (V7 Z (V8 5 Z (Yc hI Z Z (Tn Z (Vk Z (Vc Z (Wn ⟨true, by simp; exact fun hh => hh.2.2.2 ⟨hu, hres⟩, g3_, hI⟩))))))))
  rw [decide_eq_false hu]
  by_cases hrc : o7 ≤ o6
  ·exact Wq (V7 Z (To Z (V7 Z (V8 7 Z (Yc hI Z Z (V8 6 Z (Yc hI Z Z (Wv Z (by exact rLeqT rfl rfl rfl (by omega)) (Vk Z (Vc Z (Yt Z (Wk ⟨true, by simp; exact fun hh => hh.2.2.1 ⟨hu, hrc⟩, g3_, hI⟩))))))))))))
  exact Wq (V7 Z (To Z (V7 Z (V8 7 Z (Yc hI Z Z (V8 6 Z (Yc hI Z Z (Wv Z (by exact rLeqF rfl rfl rfl (by omega)) (Vk Z (Vc Z (Yf Z (Wr (V7 Z (V7 Z (V5 Z (V5 Z (V5 Z (Vi Z (Vc Z (Wn ⟨false, by simp; exact ⟨by exact c1, hnl, fun hh => hrc hh.2, fun hh => hu hh.1⟩, g3_, hI⟩))))))))))))))))))))
 clear hI
 rintro ρ w ⟨bb, hbb, hH, hI⟩
 obtain ⟨σ, rfl⟩ := hH.open
 cases bb with
 | true =>
  exact Wc true Z (Wq (T0 Z yy49 Z (Vt Z (Wn (WR (r1_ 4 Z (OpPost.bad (fun hh => hbb.1 Z hh.2.2.1) hI.pu)))))))
 | false =>
 have hord : ordOk ⟨o0, o1, o2, o3, o4, o5, o6, o7⟩ ah := by
  rcases Classical.em (ordOk ⟨o0, o1, o2, o3, o4, o5, o6, o7⟩ ah) with h1 | h1
  ·exact h1
  have := hbb.2 h1; cases this
 refine Wc false Z (Wk (Wx (fun ρ w => (∀ k, k < ah.length → ¬ twiceAt ⟨o0, o1, o2, o3, o4, o5, o6, o7⟩ (oAt ah k).call ∧ ¬ twiceAt ⟨o0, o1, o2, o3, o4, o5, o6, o7⟩ (oAt ah k).ret) ∧ Has ρ [(1, .slice A ah.length c), (2, .pointer (some ⟨b2, 0, none⟩))] ∧ Inv NF w0 w [B b2 106 #[Y o0, Y o1, Y o2, Y o3, Y o4, Y o5, Y o6, Y o7]]) ?_ ?_))
 ·refine Wq (Va Z (Vo Z yy94 Z (V0 Z (Wn (Wb ?_)))))
  refine Wl (fun mu ρ w => ∃ k : Nat, mu = ah.length - k ∧ k ≤ ah.length ∧ (∀ j, j < k → ¬ twiceAt ⟨o0, o1, o2, o3, o4, o5, o6, o7⟩ (oAt ah j).call ∧ ¬ twiceAt ⟨o0, o1, o2, o3, o4, o5, o6, o7⟩ (oAt ah j).ret) ∧ Has ρ [(77, Y (k : Int)), (76, Y (ah.length : Int)), (75, .slice A ah.length c), (1, .slice A ah.length c), (2, .pointer (some ⟨b2, 0, none⟩))] ∧ Inv NF w0 w [B b2 106 #[Y o0, Y o1, Y o2, Y o3, Y o4, Y o5, Y o6, Y o7]]) ah.length
   ⟨0, rfl, by omega, fun j hj => by omega, ⟨rfl, rfl, rfl, rfl, rfl, trivial⟩, hI⟩ ?_
  clear hI
  rintro mu ρ w ⟨k, rfl, hk, hall, hH, hI⟩
  obtain ⟨σ, rfl⟩ := hH.open
  by_cases hkl : k < ah.length
  rotate_left
  ·obtain rfl : k = ah.length := by omega
   exact Wq (Vr Z (Yg Z (WE ⟨hall, g2_, hI⟩)))
  obtain ⟨ab, ao, rfl, hoc⟩ := h.at hkl
  generalize hpk : oAt ah k = pk at hoc
  obtain ⟨p0, p1, p2, p3, p4, p5, p6, p7⟩ := pk
  refine Wq (Vu Z (Yu Z (Wk (Wx (fun ρ w => (¬ twiceAt ⟨o0, o1, o2, o3, o4, o5, o6, o7⟩ p6 ∧ ¬ twiceAt ⟨o0, o1, o2, o3, o4, o5, o6, o7⟩ p7) ∧ Has ρ [(77, Y (k : Int)), (76, Y (ah.length : Int)), (75, .slice (some ⟨ab, ao, none⟩) ah.length c), (1, .slice (some ⟨ab, ao, none⟩) ah.length c), (2, .pointer (some ⟨b2, 0, none⟩))] ∧ Inv NF w0 w [B b2 106 #[Y o0, Y o1, Y o2, Y o3, Y o4, Y o5, Y o6, Y o7]]) ?_ ?_))))
  rotate_left
  ·clear hI
   rintro ρ w ⟨hno, hH, hI⟩
   obtain ⟨σ, rfl⟩ := hH.open
   refine Wr (Vl Z (V0 Z (Wn ⟨ah.length - (k + 1), by omega, k + 1, rfl, by omega, fun j hj => ?_, g5_, hI⟩)))
   rcases Nat.lt_or_ge j k with h1 | h1
   ·exact hall j h1
   obtain rfl : j = k := by omega
   rw [hpk]; exact hno
  refine Wb (Wq (Th 8 Z yy94 Z (Ts 8 Z (by rfl) (fun k u hk => hI.oldp (hoc k u hk)) (Vz (.agg zI8) (zI8) hI Z ?_))))
  rintro b7 w - - hI
  refine T2 8 (#[_, _, _, _, _, _, _, _]) (.agg _) hI Z ?_
  intro w hI
  refine Wn ?_
  simp only [opV] at hI
  refine Wq (V8 6 Z (Yc hI Z Z (V8 7 Z (Yc hI Z Z (T3 [(0, Y _), (1, Y _)] [_, _] [Y 0, Y 0] [0, 1] hI Z yy41 (fun _ => by kernel_rfl) ?_)))))
  rintro b85 w - - hI
  refine Vo Z yy41 Z (V0 Z (Wn (Wb ?_)))
  refine Wl (fun mu ρ w => ∃ m : Nat, mu = 2 - m ∧ m ≤ 2 ∧ (0 < m → ¬ twiceAt ⟨o0, o1, o2, o3, o4, o5, o6, o7⟩ p6) ∧ (1 < m → ¬ twiceAt ⟨o0, o1, o2, o3, o4, o5, o6, o7⟩ p7) ∧ Has ρ [(87, Y (m : Int)), (86, Y 2), (85, .slice (some ⟨b85, 0, none⟩) 2 2), (77, Y (k : Int)), (76, Y (ah.length : Int)), (75, .slice (some ⟨ab, ao, none⟩) ah.length c), (1, .slice (some ⟨ab, ao, none⟩) ah.length c), (2, .pointer (some ⟨b2, 0, none⟩))] ∧ Inv NF w0 w [B b85 3 #[Y p6, Y p7], B b2 106 #[Y o0, Y o1, Y o2, Y o3, Y o4, Y o5, Y o6, Y o7]]) 2
   ⟨0, rfl, by omega, fun h => by omega, fun h => by omega, ⟨rfl, rfl, rfl, rfl, rfl, rfl, rfl, rfl, trivial⟩, hI.d1⟩ ?_
  clear hI
  rintro mu ρ w ⟨m, rfl, hm, hm0, hm1, hH, hI⟩
  obtain ⟨σ, rfl⟩ := hH.open
  by_cases hm2 : m < 2
  rotate_left
  ·obtain rfl : m = 2 := by omega
   exact Wq (Vr Z (Yg Z (WE ⟨⟨hm0 (by omega), hm1 (by omega)⟩, g5_, hI.d0⟩)))
  obtain ⟨z, hz, hzt⟩ : ∃ z : Int, (#[.int .i64 p6, .int .i64 p7] : Array Value)[m]? = some (.int .i64 z) ∧ (z = p6 ∧ m = 0 ∨ z = p7 ∧ m = 1) := by
   match m, hm2 with
   | 0, _ => exact ⟨p6, rfl, .inl ⟨rfl, rfl⟩⟩
   | 1, _ => exact ⟨p7, rfl, .inr ⟨rfl, rfl⟩⟩
  refine Wq (Vu Z (Yu Z (Wk (Ws (Wb (Wq (T6 Z yy41 Z (V6 (Y _) Z (hI.c0 hz) (Vb Z (Wn ?_))))))))))
  have hbadz : twiceAt ⟨o0, o1, o2, o3, o4, o5, o6, o7⟩ z → ¬ OkOp ⟨o0, o1, o2, o3, o4, o5, o6, o7⟩ ah := fun ht hh => by
   have := hh.2.2.2.1 k hkl
   rw [hpk] at this
   rcases hzt with ⟨rfl, _⟩ | ⟨rfl, _⟩
   ·exact this.1 ht
   exact this.2 ht
  have hgo : ¬ twiceAt ⟨o0, o1, o2, o3, o4, o5, o6, o7⟩ z → (0 < m + 1 → ¬ twiceAt ⟨o0, o1, o2, o3, o4, o5, o6, o7⟩ p6) ∧ (1 < m + 1 → ¬ twiceAt ⟨o0, o1, o2, o3, o4, o5, o6, o7⟩ p7) := fun hnt => by
   rcases hzt with ⟨rfl, rfl⟩ | ⟨rfl, rfl⟩
   ·exact ⟨fun _ => hnt, fun h => by omega⟩
   exact ⟨fun _ => hm0 (by omega), fun _ => hnt⟩
  by_cases z1 : z = -1
  ·have hnt : ¬ twiceAt ⟨o0, o1, o2, o3, o4, o5, o6, o7⟩ z := fun ht => ht.1 z1
   exact Wq (V0 Z (Ty Z (V7 Z (V5 Z (V5 Z (V5 Z (V5 Z (V5 Z (V5 Z (V5 Z (V5 Z (V5 Z (V5 Z (Vi Z (Yf Z (Wk (Wr (Vl Z (V0 Z (Wn ⟨2 - (m + 1), by omega, m + 1, rfl, by omega, (hgo hnt).1, (hgo hnt).2, g8_, hI⟩))))))))))))))))))))
  by_cases z2 : z = o6
  ·exact Wq (V0 Z (Tn Z (V7 Z (V0 Z (V8 6 Z (Yd hI Z Z (Vx Z (V7 Z (V5 Z (V5 Z (V5 Z (V5 Z (Vk Z (Vk Z (Yt Z (Wq (T0 Z yy49 Z (Vt Z (Wn (WR (r1_ 4 Z (OpPost.bad (hbadz ⟨z1, .inl z2⟩) hI.pu))))))))))))))))))))))
  by_cases z3 : z = o7
  ·exact Wq (V0 Z (Tn Z (V7 Z (V0 Z (V8 6 Z (Yd hI Z Z (Vs Z (V7 Z (V0 Z (V8 7 Z (Yd hI Z Z (Vx Z (Vi Z (Vk Z (Yt Z (Wq (T0 Z yy49 Z (Vt Z (Wn (WR (r1_ 4 Z (OpPost.bad (hbadz ⟨z1, .inr z3⟩) hI.pu))))))))))))))))))))))
  have hnt : ¬ twiceAt ⟨o0, o1, o2, o3, o4, o5, o6, o7⟩ z := fun ht => by rcases ht.2 with h1 | h1; exact z2 h1; exact z3 h1
  exact Wq (V0 Z (Tn Z (V7 Z (V0 Z (V8 6 Z (Yd hI Z Z (Vs Z (V7 Z (V0 Z (V8 7 Z (Yd hI Z Z (Vs Z (Vi Z (Vk Z (Yf Z (Wk (Wr (Vl Z (V0 Z (Wn ⟨2 - (m + 1), by omega, m + 1, rfl, by omega, (hgo hnt).1, (hgo hnt).2, g8_, hI⟩))))))))))))))))))))
 clear hI
 rintro ρ w ⟨hall1, hH, hI⟩
 obtain ⟨σ, rfl⟩ := hH.open
 refine Ws (Wq (Va Z (Vo Z yy94 Z (V0 Z (Wn (Wb ?_))))))
 refine Wl (fun mu ρ w => ∃ k : Nat, mu = ah.length - k ∧ k ≤ ah.length ∧ (∀ j, j < k → (oAt ah j).proc = o0 → befB (oAt ah j) ⟨o0, o1, o2, o3, o4, o5, o6, o7⟩ = true) ∧ Has ρ [(110, Y (k : Int)), (109, Y (ah.length : Int)), (108, .slice A ah.length c), (2, .pointer (some ⟨b2, 0, none⟩))] ∧ Inv NF w0 w [B b2 106 #[Y o0, Y o1, Y o2, Y o3, Y o4, Y o5, Y o6, Y o7]]) ah.length
  ⟨0, rfl, by omega, fun j hj => by omega, ⟨rfl, rfl, rfl, rfl, trivial⟩, hI⟩ ?_
 clear hI
 rintro mu ρ w ⟨k, rfl, hk, hall, hH, hI⟩
 obtain ⟨σ, rfl⟩ := hH.open
 by_cases hkl : k < ah.length
 rotate_left
 ·obtain rfl : k = ah.length := by omega
  exact Wq (Vr Z (Yg Z (WE (Wq (Vw Z (Wn (WR (r1_ 4 Z ⟨hI.pu, .inl ⟨⟨ht, hkd, hord, hall1, hall⟩, Z⟩⟩))))))))
 obtain ⟨ab, ao, rfl, hoc⟩ := h.at hkl
 generalize hpk : oAt ah k = pk at hoc
 obtain ⟨p0, p1, p2, p3, p4, p5, p6, p7⟩ := pk
 refine Wq (Vu Z (Yu Z (Wk (Ws (Wb (Wq (Th 8 Z yy94 Z (Ts 8 Z (by rfl) (fun k u hk => hI.oldp (hoc k u hk)) (Vz (.agg zI8) (zI8) hI Z ?_)))))))))
 rintro b11 w - - hI
 refine T2 8 (#[_, _, _, _, _, _, _, _]) (.agg _) hI Z ?_
 intro w hI
 refine Wn ?_
 simp only [opV] at hI
 have hnext : (p0 = o0 → befB ⟨p0, p1, p2, p3, p4, p5, p6, p7⟩ ⟨o0, o1, o2, o3, o4, o5, o6, o7⟩ = true) → ∀ j, j < k + 1 → (oAt ah j).proc = o0 → befB (oAt ah j) ⟨o0, o1, o2, o3, o4, o5, o6, o7⟩ = true := fun hb j hj => by
  rcases Nat.lt_or_ge j k with h1 | h1
  ·exact hall j h1
  obtain rfl : j = k := by omega
  rw [hpk]; exact hb
 by_cases hpp : p0 = o0
 ·cases hbf : befB ⟨p0, p1, p2, p3, p4, p5, p6, p7⟩ ⟨o0, o1, o2, o3, o4, o5, o6, o7⟩ with
  | true =>
   refine Wq (V8 0 Z (Yc hI Z Z (V8 0 Z (Yd hI Z Z (Vx Z (V7 Z (Tt 8 Z hI.g0 (Tt 8 Z hI.g1 (Vd [.agg _, .agg _] Z func92 Z ((before_one p0 p1 p2 p3 p4 p5 p6 p7 o0 o1 o2 o3 o4 o5 o6 o7 _).mono ?_))))))))))
   rw [hbf]
   rintro e w1 ⟨rfl, hp⟩
   refine rV ?_
   have hI := hI.pure hp
   refine Tf Z (Vk Z (Yf Z (Wk ?_)))
   have hI := hI.d0
   exact Wr (Vl Z (V0 Z (Wn ⟨ah.length - (k + 1), by omega, k + 1, rfl, by omega, hnext (fun _ => hbf), g4_, hI⟩)))
  | false =>
   refine Wq (V8 0 Z (Yc hI Z Z (V8 0 Z (Yd hI Z Z (Vx Z (V7 Z (Tt 8 Z hI.g0 (Tt 8 Z hI.g1 (Vd [.agg _, .agg _] Z func92 Z ((before_one p0 p1 p2 p3 p4 p5 p6 p7 o0 o1 o2 o3 o4 o5 o6 o7 _).mono ?_))))))))))
   rw [hbf]
   rintro e w1 ⟨rfl, hp⟩
   refine rV ?_
   have hI := hI.pure hp
   exact To Z (Vk Z (Yt Z (Wq (T0 Z yy49 Z (Vt Z (Wn (WR (r1_ 4 Z (OpPost.bad (fun hh => by have := hh.2.2.2.2 k hkl (by rw [hpk]; exact hpp); rw [hpk, hbf] at this; cases this) hI.pu)))))))))
 refine Wq (V8 0 Z (Yc hI Z Z (V8 0 Z (Yd hI Z Z (Vs Z (V7 Z (V5 Z (V5 Z (V5 Z (V5 Z (Vi Z (Wn (Wc false Z (Wk ?_))))))))))))))
 have hI := hI.d0
 exact Wr (Vl Z (V0 Z (Wn ⟨ah.length - (k + 1), by omega, k + 1, rfl, by omega, hnext (fun e => absurd e hpp), g4_, hI⟩)))
theorem OpsR.take {w : World} {D : Nat → Prop} {A : Option Addr} {n c : Nat} (h : OpsR w D (.slice A n c) l) (k : Nat) (hk : k ≤ l.length) : OpsR w D (.slice A k c) (l.take k) := by
 obtain ⟨hn, hc1, hc2⟩ := h.len
 have hlk : (l.take k).length = k := by simp; omega
 unfold OpsR
 rw [hlk]
 refine ⟨A, c, Z, by omega, hc2, ?_, fun h0 => ?_⟩
 ·have : ∀ l : List Op8, (l.flatMap opV).length = l.length * 8 := by
   intro l
   induction l with
   | nil => rfl
   | cons s l ih => rw [List.flatMap_cons, List.length_append, ih]; simp [opV]; omega
  rw [this, hlk]
 obtain ⟨A1, c1, hv, _, _, _, hcell⟩ := h
 injection hv with e1 e2 e3
 subst e1 e3
 obtain ⟨b, o, hbo, hD, hcl⟩ := hcell (by omega)
 refine ⟨b, o, hbo, hD, fun j u hj => hcl j u ?_⟩
 have e : l.flatMap opV = (l.take k).flatMap opV ++ (l.drop k).flatMap opV := by rw [← List.flatMap_append, List.take_append_drop]
 rw [e, List.getElem?_append_left (gS_ hj).1]
 exact hj
def OkOps (l : List Op8) : Prop := l.length ≤ 40 ∧ ∀ k, k < l.length → OkOp (oAt l k) (l.take k)
def OpsPost4 (l : List Op8) (w0 : World) (en : Ending) (w' : World) : Prop := Pure w0 w' ∧ ((OkOps l ∧ en = .returned .nilIface) ∨ (¬ OkOps l ∧ ∃ x, (∃ u : Int, x = .iface 49 (.int .i64 u) ∧ u ≠ 8 ∧ (40 < l.length → u = 4)) ∧ en = .returned x))
def OpsPost8 (l : List Op8) (w0 : World) (en : Ending) (w' : World) : Prop := Pure w0 w' ∧ ((OkOps l ∧ en = .returned .nilIface) ∨ (¬ OkOps l ∧ ∃ x, IsErr8 x ∧ en = .returned x))
def OpsPost (l : List Op8) (w0 : World) (en : Ending) (w' : World) : Prop := Pure w0 w' ∧ ((OkOps l ∧ en = .returned .nilIface) ∨ (¬ OkOps l ∧ ∃ x, IsErr x ∧ en = .returned x))
theorem checkOps4_any (A : Option Addr) (n c : Nat) (l : List Op8) (D : Nat → Prop) (w0 : World) (h : OpsR w0 D (.slice A n c) l) : Cq 137 #[.slice A n c] w0 (OpsPost4 l w0) := by
 obtain ⟨hn, hc1, hc2⟩ := h.len
 subst hn
 have hI := Inv.start (fun _ => False) w0
 refine Vm func137 Z (Wq (Vw Z (Wn ?_)))
 by_cases h40 : l.length ≤ 40
 rotate_left
 ·exact Ws (Wq (Va Z (Vo Z yy94 Z (U6 Z (Yt Z (Wq (T0 Z yy49 Z (Vt Z (Wn (WR (r1_ 2 Z ⟨hI.pu, .inr ⟨fun hh => h40 hh.1, _, ⟨_, Z, by decide, fun _ => rfl⟩, rfl⟩⟩)))))))))))
 refine Ws (Wq (Va Z (Vo Z yy94 Z (U3 Z (Yf Z (Wk (Ws (Wq (Va Z (Vo Z yy94 Z (V0 Z (Wn (Wb ?_)))))))))))))
 refine Wl (fun mu ρ w => ∃ k : Nat, mu = l.length - k ∧ k ≤ l.length ∧ (∀ j, j < k → OkOp (oAt l j) (l.take j)) ∧ Has ρ [(12, Y (k : Int)), (11, Y (l.length : Int)), (10, .slice A l.length c), (0, .slice A l.length c)] ∧ Inv NF w0 w []) l.length
  ⟨0, rfl, by omega, fun j hj => by omega, ⟨rfl, rfl, rfl, rfl, trivial⟩, hI⟩ ?_
 clear hI
 rintro mu ρ w ⟨k, rfl, hk, hall, hH, hI⟩
 obtain ⟨σ, rfl⟩ := hH.open
 by_cases hkl : k < l.length
 rotate_left
 ·obtain rfl : k = l.length := by omega
  exact Wq (Vr Z (Yg Z (WE (Wq (Vw Z (Wn (WR (r1_ 2 Z ⟨hI.pu, .inl ⟨⟨h40, hall⟩, Z⟩⟩))))))))
 obtain ⟨ab, ao, rfl, hoc⟩ := h.at hkl
 have htk := h.take k hk
 generalize hpk : oAt l k = pk at hoc
 obtain ⟨p0, p1, p2, p3, p4, p5, p6, p7⟩ := pk
 refine Wq (Vu Z (Yu Z (Wk (Ws (Wb (Wq (V0 Z (Th 8 Z yy94 Z (Ts 8 Z (by rfl) (fun k u hk => hI.oldp (hoc k u hk)) (Vz (.agg zI8) (zI8) hI Z ?_))))))))))
 rintro b4 w - - hI
 refine Vb Z (T2 8 (#[_, _, _, _, _, _, _, _]) (.agg _) hI Z ?_)
 intro w hI
 refine Wn ?_
 simp only [opV] at hI
 by_cases hop : OkOp ⟨p0, p1, p2, p3, p4, p5, p6, p7⟩ (l.take k)
 ·refine Ws (Yi hI fun Sx hY hXS hI => Ul 0 8 Z (fun W hW => (hY W hW).g0) (Vp 1 Z (Vh 2 Z (Wt 3 Z (fun W hW => have hI := hY W hW; (rSliceTo (sz := 8) (i := k) Z yy94 (by kernel_rfl) Z Z (by omega))) (Vq 4 Z (Vd [.agg _, .slice _ _ _] Z func166 Z ((checkOp_one p0 p1 p2 p3 p4 p5 p6 p7 _ k c (l.take k) D _ (htk.pure hI.pu) (by omega)).mono ?_)))))))
  rintro e w1 ⟨hp, ⟨_, rfl⟩ | ⟨hbad, _⟩⟩
  rotate_left
  ·exact absurd hop hbad
  refine rV ?_
  have hI := hI.pure hp
  refine Wn ⟨hXS _ hI, (Wt 5 Z (fun W hW => have hI := hY W hW; (by exact rAsgnN rfl rfl)) (Yz (Wq (Td Z (Tv Z yy37 Z (Yf Z (Wk ?_)))))))⟩
  have hI := hI.d0
  refine Wr (Vl Z (V0 Z (Wn ⟨l.length - (k + 1), by omega, k + 1, rfl, by omega, fun j hj => ?_, g4_, hI⟩)))
  rcases Nat.lt_or_ge j k with h1 | h1
  ·exact hall j h1
  obtain rfl : j = k := by omega
  rw [hpk]; exact hop
 refine Ws (Yi hI fun Sx hY hXS hI => Ul 0 8 Z (fun W hW => (hY W hW).g0) (Vp 1 Z (Vh 2 Z (Wt 3 Z (fun W hW => have hI := hY W hW; (rSliceTo (sz := 8) (i := k) Z yy94 (by kernel_rfl) Z Z (by omega))) (Vq 4 Z (Vd [.agg _, .slice _ _ _] Z func166 Z ((checkOp_one p0 p1 p2 p3 p4 p5 p6 p7 _ k c (l.take k) D _ (htk.pure hI.pu) (by omega)).mono ?_)))))))
 rintro e w1 ⟨hp, ⟨hgood, _⟩ | ⟨_, x, ⟨u, rfl, hu8⟩, rfl⟩⟩
 ·exact absurd hgood hop
 refine rV ?_
 have hI := hI.pure hp
 exact Wn ⟨hXS _ hI, (Wt 5 Z (fun W hW => have hI := hY W hW; (by exact rAsgnE rfl rfl)) (Yz (Wq (Vy Z (U0 Z yy37 Z (Yt Z (Wq (Vy Z (Vt Z (Wn (WR (r1_ 2 Z ⟨hI.pu, .inr ⟨fun hh => by have := hh.2 k hkl; rw [hpk] at this; exact hop this, _, ⟨_, rfl, hu8, fun hh => absurd hh (by omega)⟩, rfl⟩⟩))))))))))))⟩
theorem checkOps8_any (A : Option Addr) (n c : Nat) (l : List Op8) (D : Nat → Prop) (w0 : World) (h : OpsR w0 D (.slice A n c) l) : Cq 137 #[.slice A n c] w0 (OpsPost8 l w0) :=
 (checkOps4_any A n c l D w0 h).mono fun e w' hh => ⟨hh.1, hh.2.imp id fun ⟨h1, x, ⟨u, h2, h4, _⟩, h3⟩ => ⟨h1, x, ⟨u, h2, h4⟩, h3⟩⟩
theorem checkOps_any (A : Option Addr) (n c : Nat) (l : List Op8) (D : Nat → Prop) (w0 : World) (h : OpsR w0 D (.slice A n c) l) : Cq 137 #[.slice A n c] w0 (OpsPost l w0) :=
 (checkOps8_any A n c l D w0 h).mono fun e w' hh => ⟨hh.1, hh.2.imp id fun ⟨h1, x, h2, h3⟩ => ⟨h1, x, h2.any, h3⟩⟩
def OkLin (o : Int) (l : List Op8) (bud : Int) : Prop := 1 ≤ o ∧ o ≤ 6 ∧ 0 ≤ bud ∧ bud ≤ 1000000 ∧ OkOps l ∧ ∀ k, k < l.length → knowsF o (oAt l k).kind = true
def LinPost (o : Int) (l : List Op8) (bud : Int) (w0 : World) (en : Ending) (w' : World) : Prop := Pure w0 w' ∧ ((OkLin o l bud ∧ en = .returned .nilIface) ∨ (¬ OkLin o l bud ∧ ∃ x, IsErr x ∧ en = .returned x))
def LinErr (o : Int) (l : List Op8) (bud : Int) (u : Int) : Prop := 1 ≤ o → o ≤ 6 → 0 ≤ bud → bud ≤ 1000000 → (40 < l.length → u = 4) ∧ (OkOps l → u = 1)
def LinPostN (o : Int) (l : List Op8) (bud : Int) (w0 : World) (en : Ending) (w' : World) : Prop := Pure w0 w' ∧ ((OkLin o l bud ∧ en = .returned .nilIface) ∨ (¬ OkLin o l bud ∧ ∃ u, LinErr o l bud u ∧ en = .returned (.iface 49 (.int .i64 u))))
theorem LinPost.bad {o : Int} {bud : Int} {w0 w' : World} {z : Int} (h : ¬ OkLin o l bud) (hz : LinErr o l bud z) (hp : Pure w0 w') : LinPostN o l bud w0 (.returned (.iface 49 (.int .i64 z))) w' := ⟨hp, .inr ⟨h, z, hz, rfl⟩⟩
theorem lcheckN_any (o : Int) (A : Option Addr) (n c : Nat) (l : List Op8) (bud : Int) (D : Nat → Prop) (w0 : World) (h : OpsR w0 D (.slice A n c) l) (hk : KnOk w0) : Cq 138 #[.int .i64 o, .slice A n c, .int .i64 bud] w0 (LinPostN o l bud w0) := by
 obtain ⟨hn, hc1, hc2⟩ := h.len
 subst hn
 have hI := Inv.start (fun _ => False) w0
 refine Vm func138 Z (Wq (Vw Z (Wn (Ws (Wb ?_)))))
 by_cases g1 : o < 1
 ·exact Wq (V0 Z (Vu Z (V7 Z (V5 Z (V5 Z (Vk Z (Vc Z (Yt Z (Wq (T0 Z yy49 Z (Vt Z (Wn (WR (r1_ 6 Z (LinPost.bad (fun hh => by have := hh.1; omega) (fun _ _ _ _ => by omega) hI.pu)))))))))))))))
 by_cases g2 : 6 < o
 ·exact Wq (V0 Z (Vr Z (V7 Z (V0 Z (U6 Z (Vi Z (Vc Z (Yt Z (Wq (T0 Z yy49 Z (Vt Z (Wn (WR (r1_ 6 Z (LinPost.bad (fun hh => by have := hh.2.1; omega) (fun _ _ _ _ => by omega) hI.pu)))))))))))))))
 refine Wq (V0 Z (Vr Z (V7 Z (V0 Z (U3 Z (Vi Z (Vc Z (Yf Z ?_))))))))
 by_cases g3 : bud < 0
 ·exact Wq (V0 Z (Vu Z (V7 Z (V5 Z (V5 Z (Vk Z (Vc Z (Yt Z (Wq (T0 Z yy49 Z (Vt Z (Wn (WR (r1_ 6 Z (LinPost.bad (fun hh => by have := hh.2.2.1; omega) (fun _ _ _ _ => by omega) hI.pu)))))))))))))))
 by_cases g4 : 1000000 < bud
 ·exact Wq (V0 Z (Vr Z (V7 Z (V0 Z (U6 Z (Vi Z (Vc Z (Yt Z (Wq (T0 Z yy49 Z (Vt Z (Wn (WR (r1_ 6 Z (LinPost.bad (fun hh => by have := hh.2.2.2.1; omega) (fun _ _ _ _ => by omega) hI.pu)))))))))))))))
 refine Wq (V0 Z (Vr Z (V7 Z (V0 Z (U3 Z (Vi Z (Vc Z (Yf Z (Wk ?_)))))))))
 by_cases hok : OkOps l
 rotate_left
 ·refine Ws (Wq (Va Z (Vd [.slice _ _ _] Z func137 Z ((checkOps4_any A _ c l D _ (h.pure hI.pu)).mono ?_))))
  rintro e w1 ⟨hp, ⟨hg, _⟩ | ⟨_, x, ⟨u, rfl, -, hu4⟩, rfl⟩⟩
  ·exact absurd hg hok
  refine rV ?_
  have hI := hI.pure hp
  exact Vt Z (Wn (Wq (Vy Z (U0 Z yy37 Z (Yt Z (Wq (Vy Z (Vt Z (Wn (WR (r1_ 6 Z (LinPost.bad (fun hh => hok hh.2.2.2.2.1) (fun _ _ _ _ => ⟨hu4, fun hh => absurd hh hok⟩) hI.pu))))))))))))
 have hl40 := hok.1
 refine Ws (Wq (Va Z (Vd [.slice _ _ _] Z func137 Z ((checkOps_any A _ c l D _ (h.pure hI.pu)).mono ?_))))
 rintro e w1 ⟨hp, ⟨_, rfl⟩ | ⟨hbad, _⟩⟩
 rotate_left
 ·exact absurd hok hbad
 refine rV ?_
 have hI := hI.pure hp
 refine Vw Z (Wn (Wq (Td Z (Tv Z yy37 Z (Yf Z (Wk (Ws (Wq (Va Z (Vo Z yy94 Z (V0 Z (Wn (Wb ?_)))))))))))))
 refine Wl (fun mu ρ w => ∃ k : Nat, mu = l.length - k ∧ k ≤ l.length ∧ (∀ j, j < k → knowsF o (oAt l j).kind = true) ∧ Has ρ [(33, Y (k : Int)), (32, Y (l.length : Int)), (31, .slice A l.length c), (0, Y o)] ∧ Inv NF w0 w []) l.length
  ⟨0, rfl, by omega, fun j hj => by omega, ⟨rfl, rfl, rfl, rfl, trivial⟩, hI⟩ ?_
 clear hI
 rintro mu ρ w ⟨k, rfl, hkk, hall, hH, hI⟩
 obtain ⟨σ, rfl⟩ := hH.open
 by_cases hkl : k < l.length
 rotate_left
 ·obtain rfl : k = l.length := by omega
  exact Wq (Vr Z (Yg Z (WE (Wq (Vw Z (Wn (WR (r1_ 6 Z ⟨hI.pu, .inl ⟨⟨by omega, by omega, by omega, by omega, hok, hall⟩, rfl⟩⟩))))))))
 obtain ⟨ab, ao, rfl, hoc⟩ := h.at hkl
 generalize hpk : oAt l k = pk at hoc
 obtain ⟨p0, p1, p2, p3, p4, p5, p6, p7⟩ := pk
 refine Wq (Vu Z (Yu Z (Wk (Ws (Wb (Wq (Th 8 Z yy94 Z (Ts 8 Z (by rfl) (fun k u hk => hI.oldp (hoc k u hk)) (Vz (.agg zI8) (zI8) hI Z ?_)))))))))
 rintro b9 w - - hI
 refine T2 8 (#[_, _, _, _, _, _, _, _]) (.agg _) hI Z ?_
 intro w hI
 refine Wn ?_
 simp only [opV] at hI
 cases hkn : knowsF o p2 with
 | true =>
  refine Wq (V0 Z (V8 2 Z (Yc hI Z Z (Vd [Y _, Y _] Z func167 Z ((knows_any o p2 _ (hk.pure hI.pu)).mono ?_)))))
  rw [hkn]
  rintro e w1 ⟨rfl, hp⟩
  refine rV ?_
  have hI := hI.pure hp
  refine Tf Z (Yf Z (Wk ?_))
  have hI := hI.d0
  refine Wr (Vl Z (V0 Z (Wn ⟨l.length - (k + 1), by omega, k + 1, rfl, by omega, fun j hj => ?_, g4_, hI⟩)))
  rcases Nat.lt_or_ge j k with h1 | h1
  ·exact hall j h1
  obtain rfl : j = k := by omega
  rw [hpk]; exact hkn
 | false =>
  refine Wq (V0 Z (V8 2 Z (Yc hI Z Z (Vd [Y _, Y _] Z func167 Z ((knows_any o p2 _ (hk.pure hI.pu)).mono ?_)))))
  rw [hkn]
  rintro e w1 ⟨rfl, hp⟩
  refine rV ?_
  have hI := hI.pure hp
  exact To Z (Yt Z (Wq (T0 Z yy49 Z (Vt Z (Wn (WR (r1_ 6 Z (LinPost.bad (fun hh => by have := hh.2.2.2.2.2 k hkl; rw [hpk] at this; rw [show knowsF o _ = false from hkn] at this; cases this) (fun _ _ _ _ => ⟨fun hh => absurd hh (by omega), fun _ => rfl⟩) hI.pu))))))))
theorem boolC_zero (n : Nat) : rep (.bool false) n = boolC n (fun _ => false) := by
 apply Array.ext'
 simp [rep, boolC, List.map_const']
theorem OkLin.key {o : Int} {bud : Int} (h : OkLin o l bud) : ∀ i, i < l.length → 0 ≤ (oAt l i).key ∧ (oAt l i).key < 8 := fun i hi => by
 have h1 := (h.2.2.2.2.1.2 i hi).1
 unfold toldB inB at h1
 simp at h1
 omega
end Go.Proofs.YtnckdmogdehnoaaGreatDoor
namespace Go.Proofs.YtnckdmogdehnoaaGreatDoor
open Tryz
variable {l : List Op8} {k : Nat}
section
variable {o : Int} {l : List Op8} {ab : Op8 → Op8 → Bool}
end
theorem told_num {p k : Int} {l : List Int} (h : toldB p k l = true) : ∀ x ∈ l, -1000000 ≤ x ∧ x ≤ 1000000 := by
 unfold toldB inB at h
 simp at h
 exact h.1.1
theorem argsOk {o : Int} {l : List Op8} {bud : Int} (h : OkLin o l bud) : ArgsOk l := by
 refine ⟨h.key, fun i hi => ?_, fun i hi => ?_, fun i hi => ?_⟩
 ·have := told_num (h.2.2.2.2.1.2 i hi).1 (oAt l i).a (by simp)
  unfold i64B; omega
 ·have := told_num (h.2.2.2.2.1.2 i hi).1 (oAt l i).b (by simp)
  unfold i64B; omega
 obtain ⟨h1, _, h3⟩ := (h.2.2.2.2.1.2 i hi).2.2.1
 omega
section
variable {o : Int} {l : List Op8} {ab : Op8 → Op8 → Bool}
theorem loop_back {rec : SSt → Int × SSt} : ∀ (r : List Nat) (s : SSt), (loopF o l ab rec r s).1 = 2 → (loopF o l ab rec r s).2.dn = s.dn ∧ (loopF o l ab rec r s).2.sts = s.sts ∧ (loopF o l ab rec r s).2.ord = s.ord
 | [], s, _ => ⟨rfl, rfl, rfl⟩
 | i :: r, s, h => by
  unfold loopF at h ⊢
  split
  ·rename_i hx
   rw [hx] at h
   exact loop_back r s h
  rename_i hx
  rw [hx] at h
  simp only at h
  split
  ·rename_i hg
   rw [hg] at h
   exact loop_back r s h
  rename_i st' hg
  rw [hg] at h
  simp only at h
  by_cases h2 : (rec (stepS l s i st')).1 = 2
  ·rw [if_pos h2] at h ⊢
   exact loop_back r ⟨s.dn, s.sts, s.ord, (rec (stepS l s i st')).2.ent⟩ h
  rw [if_neg h2] at h
  exact absurd h h2
theorem enter_back {bud : Nat} : ∀ (f : Nat) (s : SSt), (enterF o l ab bud f s).1 = 2 → (enterF o l ab bud f s).2.dn = s.dn ∧ (enterF o l ab bud f s).2.sts = s.sts ∧ (enterF o l ab bud f s).2.ord = s.ord
 | 0, s, _ => ⟨rfl, rfl, rfl⟩
 | f + 1, s, h => by
  cases ha : allF l s.dn with
  | true => rw [enterF_all ha]; exact ⟨rfl, rfl, rfl⟩
  | false =>
   by_cases hk : keyF l.length s.dn s.sts ∈ s.ent
   ·rw [enterF_old ha hk]; exact ⟨rfl, rfl, rfl⟩
   by_cases hb : s.ent.length = bud
   ·rw [enterF_over ha hk hb]; exact ⟨rfl, rfl, rfl⟩
   rw [enterF_go ha hk hb] at h ⊢
   exact loop_back _ _ h
theorem enter_eq {f bud : Nat} {s : SSt} (h : (enterF o l ab bud f s).1 = 2) : (enterF o l ab bud f s).2 = ⟨s.dn, s.sts, s.ord, (enterF o l ab bud f s).2.ent⟩ := by
 obtain ⟨h1, h2, h3⟩ := enter_back f s h
 generalize (enterF o l ab bud f s).2 = t at h1 h2 h3 ⊢
 cases t
 subst h1 h2 h3
 rfl
end
theorem oAt_take {l : List Op8} {i k : Nat} (h : k < i) : oAt (l.take i) k = oAt l k := by
 unfold oAt
 rw [List.getD_eq_getElem?_getD, List.getD_eq_getElem?_getD, List.getElem?_take_of_lt h]
def procB (p q : Op8) : Bool := decide (p.proc = q.proc) && decide (p.call < q.call)
section
variable {o : Int} {l : List Op8} {ab : Op8 → Op8 → Bool}
theorem loop_ord {rec : SSt → Int × SSt} {m : Nat} (hrec : ∀ s, (rec s).2.ord.length ≤ s.ord.length + m) : ∀ (r : List Nat) (s : SSt), (loopF o l ab rec r s).2.ord.length ≤ s.ord.length + (m + 1)
 | [], s => Nat.le_add_right _ _
 | i :: r, s => by
  unfold loopF
  split
  ·exact loop_ord hrec r s
  split
  ·exact loop_ord hrec r s
  split
  ·exact loop_ord hrec r _
  rename_i st' _ _
  have := hrec (stepS l s i st')
  simp only [stepS, List.length_append, List.length_singleton] at this ⊢
  omega
theorem enter_ord {bud : Nat} : ∀ (f : Nat) (s : SSt), (enterF o l ab bud f s).2.ord.length ≤ s.ord.length + f
 | 0, s => Nat.le_refl _
 | f + 1, s => by
  unfold enterF
  split
  ·exact Nat.le_add_right _ _
  split
  ·exact Nat.le_add_right _ _
  split
  ·exact Nat.le_add_right _ _
  exact loop_ord (enter_ord f) _ (putE l s)
end
theorem keptF_mem {s : SeeS} {k n : Nat} : n ∈ keptF s k ↔ n < k ∧ goneAt s n = false := by
 unfold keptF goneAt
 rw [List.mem_filter, List.mem_range]
 simp
theorem keptF_sorted (s : SeeS) (k : Nat) : (keptF s k).Pairwise (· < ·) := List.Pairwise.filter _ List.pairwise_lt_range
def keptAt (s : SeeS) (k : Nat) : Nat := (keptF s s.ops.length).getD k 0
theorem outF_len (s : SeeS) : (outF s).length = (keptF s s.ops.length).length := by simp [outF]
theorem outF_at {s : SeeS} {k : Nat} (hk : k < (outF s).length) : oAt (outF s) k = oAt s.ops (keptAt s k) ∧ keptAt s k < s.ops.length ∧ goneAt s (keptAt s k) = false := by
 have hk' : k < (keptF s s.ops.length).length := by rw [← outF_len]; exact hk
 have e1 : keptAt s k = (keptF s s.ops.length)[k] := by unfold keptAt; rw [List.getD_eq_getElem?_getD, gE_ hk']; rfl
 have hm := keptF_mem.1 (List.getElem_mem hk')
 rw [e1]
 refine ⟨?_, hm⟩
 unfold oAt outF
 rw [List.getD_eq_getElem?_getD, List.getElem?_map, gE_ hk']
 rfl
theorem keptAt_lt {s : SeeS} {j k : Nat} (hjk : j < k) (hk : k < (outF s).length) : keptAt s j < keptAt s k := by
 rw [outF_len] at hk
 unfold keptAt
 rw [List.getD_eq_getElem?_getD, List.getD_eq_getElem?_getD, gE_ hk, gE_ (show j < (keptF s s.ops.length).length by omega)]
 exact List.pairwise_iff_getElem.1 (keptF_sorted s _) j k (by omega) hk hjk
theorem evOk_nums {e : Ev} (h : evOkB e = true) : (0 ≤ e.proc ∧ e.proc ≤ 7) ∧ (0 ≤ e.key ∧ e.key ≤ 7) ∧ (-1000000 ≤ e.a ∧ e.a ≤ 1000000) ∧ (-1000000 ≤ e.b ∧ e.b ≤ 1000000) ∧ (-1000000 ≤ e.res ∧ e.res ≤ 1000000) ∧ (1 ≤ e.kind ∧ e.kind ≤ 12) := by
 unfold evOkB toldB inB at h
 simp at h
 omega
theorem told_of {p k a b r c t : Int} (hp : 0 ≤ p ∧ p ≤ 7) (hk : 0 ≤ k ∧ k ≤ 7) (ha : -1000000 ≤ a ∧ a ≤ 1000000) (hb : -1000000 ≤ b ∧ b ≤ 1000000) (hr : -1000000 ≤ r ∧ r ≤ 1000000) (hc : -1000000 ≤ c ∧ c ≤ 1000000) (ht : -1000000 ≤ t ∧ t ≤ 1000000) : toldB p k [a, b, r, c, t] = true := by
 unfold toldB inB
 simp
 omega
theorem out_ok {l : List Ev} {s : SeeS} (h : SeeOk l l.length s) (hl : l.length ≤ 120) (h40 : (outF s).length ≤ 40) : OkOps (outF s) := by
 refine ⟨h40, fun k hk => ?_⟩
 obtain ⟨ek, hkn, hkg⟩ := outF_at hk
 obtain ⟨c, hc1, hc2, e, he, hty, hok, ep, eke, eki, ea, eb⟩ := h.called _ hkn
 have hnum := evOk_nums hok
 have hlen : ((outF s).take k).length = k := by simp; omega
 have hret : ((oAt s.ops (keptAt s k)).ret = -1 ∧ (oAt s.ops (keptAt s k)).res = 0) ∨ (0 ≤ (oAt s.ops (keptAt s k)).ret ∧ (oAt s.ops (keptAt s k)).ret < 120 ∧ (oAt s.ops (keptAt s k)).call < (oAt s.ops (keptAt s k)).ret ∧ (-1000000 ≤ (oAt s.ops (keptAt s k)).res ∧ (oAt s.ops (keptAt s k)).res ≤ 1000000)) := by
  rcases h.ret _ hkn with h1 | ⟨r, h1, h2, h3, _, e', _, _, h6, h7⟩
  ·exact .inl h1
  refine .inr ⟨by omega, by omega, by omega, ?_⟩
  have := evOk_nums h6
  rw [← h7]; omega
 have pr : ∀ j, j < k → oAt ((outF s).take k) j = oAt s.ops (keptAt s j) ∧ keptAt s j < keptAt s k ∧ goneAt s (keptAt s j) = false := fun j hj => by
  rw [oAt_take hj]
  obtain ⟨e1, _, e3⟩ := outF_at (s := s) (k := j) (by omega)
  exact ⟨e1, keptAt_lt hj hk, e3⟩
 rw [ek]
 refine ⟨?_, ?_, ⟨?_, ?_, ?_, ?_⟩, fun j hj => ?_, fun j hj hp => ?_⟩
 ·rw [← ep, ← eke, ← ea, ← eb, hc2]
  refine told_of hnum.1 hnum.2.1 hnum.2.2.1 hnum.2.2.2.1 ?_ (by omega) ?_
  ·rcases hret with h1 | h1
   ·rw [h1.2]; omega
   omega
  rcases hret with h1 | h1
  ·rw [h1.1]; omega
  omega
 ·rw [← eki]; unfold inB; simp; omega
 ·rw [hc2]; omega
 ·rw [hlen]
  rintro ⟨h0, h1⟩
  obtain ⟨e1, e2, _⟩ := pr (k - 1) (by omega)
  rw [e1] at h1
  have := h.rise _ _ e2 hkn
  omega
 ·rintro ⟨h1, h2⟩
  rcases hret with h3 | h3
  ·exact h1 h3.1
  omega
 ·rintro ⟨h1, h2⟩
  rcases hret with h3 | h3
  ·exact h2 h3.2
  omega
 ·rw [hlen] at hj
  obtain ⟨e1, e2, e3⟩ := pr j hj
  rw [e1]
  obtain ⟨c', hc1', hc2', _⟩ := h.called _ (Nat.lt_trans e2 hkn)
  have hrise := h.rise _ _ e2 hkn
  refine ⟨?_, ?_⟩
  ·rintro ⟨_, h1 | h1⟩
   ·omega
   rcases hret with h3 | h3
   ·rw [h3.1] at h1; omega
   omega
  rintro ⟨h0, h1 | h1⟩
  ·rcases h.ret _ (Nat.lt_trans e2 hkn) with h3 | ⟨r, h3, h4, h5, _, e', h6, h7, _⟩
   ·exact h0 h3.1
   rw [h4, hc2] at h1
   have : r = c := by omega
   subst this
   rw [he] at h6
   injection h6 with h6
   subst h6
   omega
  refine h.once _ _ e2 hkn (fun hh => ?_) h1
  rw [hh] at h1; exact h0 h1
 rw [hlen] at hj
 obtain ⟨e1, e2, e3⟩ := pr j hj
 rw [e1] at hp ⊢
 obtain ⟨h1, h2⟩ := h.order _ _ e2 hkn hp e3
 unfold befB
 simp [h1, h2]
structure OkC (l : List Op8) : Prop where
 ops : OkOps l
 kind : ∀ i, i < l.length → (oAt l i).kind = 1 ∨ (oAt l i).kind = 2
 ret : ∀ i, i < l.length → 0 ≤ (oAt l i).ret
 wr : ∀ i, i < l.length → (oAt l i).kind = 2 → (oAt l i).a ≠ 0 ∧ (oAt l i).res = 0
 once : ∀ i j, i < j → j < l.length → (oAt l i).kind = 2 → (oAt l j).kind = 2 → ¬ ((oAt l i).key = (oAt l j).key ∧ (oAt l i).a = (oAt l j).a)
def isW (l : List Op8) (key v : Int) (j : Nat) : Bool := decide ((oAt l j).kind = 2) && decide ((oAt l j).key = key) && decide ((oAt l j).a = v)
def wrF (l : List Op8) (key v : Int) : Option Nat := (List.range l.length).find? (isW l key v)
theorem wrF_some {l : List Op8} {key v : Int} {j : Nat} (h : wrF l key v = some j) : j < l.length ∧ (oAt l j).kind = 2 ∧ (oAt l j).key = key ∧ (oAt l j).a = v := by
 unfold wrF at h
 have h1 := List.find?_some h
 have h2 := List.mem_range.1 (List.mem_of_find?_eq_some h)
 unfold isW at h1
 simp at h1
 exact ⟨h2, h1.1.1, h1.1.2, h1.2⟩
def readsF (l : List Op8) (i : Nat) : Int := if (oAt l i).kind = 2 ∨ (oAt l i).res = 0 then -1 else match wrF l (oAt l i).key (oAt l i).res with
 | some j => (j : Int)
 | none => -2
def r0F (l : List Op8) (i k : Nat) : Bool := (decide ((oAt l i).proc = (oAt l k).proc) && decide ((oAt l i).call < (oAt l k).call)) || decide (readsF l k = (i : Int))
def war (r : Nat → Nat → Bool) : Nat → Nat → Nat → Bool
 | 0 => r
 | m + 1 => fun i k => war r m i k || (war r m i m && war r m m k)
def beforeF (l : List Op8) (i k : Nat) : Bool := war (r0F l) l.length i k
section
variable {l : List Op8} {ord : List Int}
end
open Go.RowKit
def allB (l : List Op8) (dn : Nat → Bool) : Prop := ∀ i, i < l.length → 0 ≤ (oAt l i).ret → dn i = true
theorem sall_any (sb : Nat) (A : Option Addr) (c : Nat) (l : List Op8) (db : Nat) (dn : Nat → Bool) (D : Nat → Prop) (w0 : World) (h : OpsR w0 D (.slice A l.length c) l) (h1 : w0.cell? ⟨sb, 1, none⟩ = some (.slice A l.length c)) (h4 : w0.cell? ⟨sb, 4, none⟩ = some (.slice (some ⟨db, 0, none⟩) l.length l.length)) (hd : Blk w0 db 4 (boolC l.length dn)) (hl : l.length ≤ 1000) :
  Cq 169 #[.pointer (some ⟨sb, 0, none⟩)] w0 fun en w' => (∃ b : Bool, en = .returned (.bool b) ∧ (b = true ↔ allB l dn)) ∧ Pure w0 w' := by
 have hI := Inv.start (fun _ => False) w0
 refine Vm func169 Z (Wq (Vc Z (Wn (Ws (Wq (T1 Z (Tj Z (V8 1 Z (V6 (.slice _ _ _) Z (hI.oldp h1) (Vo Z yy94 Z (V0 Z (Wn (Wb ?_)))))))))))))
 refine Wl (fun mu ρ w => ∃ k : Nat, mu = l.length - k ∧ k ≤ l.length ∧ (∀ i, i < k → 0 ≤ (oAt l i).ret → dn i = true) ∧ Has ρ [(10, Y (k : Int)), (9, Y (l.length : Int)), (8, .slice A l.length c), (0, .pointer (some ⟨sb, 0, none⟩))] ∧ Inv NF w0 w []) l.length
  ⟨0, rfl, by omega, fun j hj => by omega, ⟨rfl, rfl, rfl, rfl, trivial⟩, hI⟩ ?_
 clear hI
 rintro mu ρ w ⟨k, rfl, hkk, hall, hH, hI⟩
 obtain ⟨σ, rfl⟩ := hH.open
 by_cases hkl : k < l.length
 rotate_left
 ·obtain rfl : k = l.length := by omega
  exact Wq (Vr Z (Yg Z (WE (Wq (Vc Z (Wn (WR (r1_ 2 Z ⟨⟨true, Z, by simp; exact hall⟩, hI.pu⟩))))))))
 obtain ⟨ab, ao, rfl, hoc⟩ := h.at hkl
 have hdg := (hd.cell k).trans (boolC_get (n := l.length) dn hkl)
 generalize hpk : oAt l k = pk at hoc
 obtain ⟨p0, p1, p2, p3, p4, p5, p6, p7⟩ := pk
 have hnext : (0 ≤ p7 → dn k = true) → ∀ i, i < k + 1 → 0 ≤ (oAt l i).ret → dn i = true := fun hb j hj => by
  rcases Nat.lt_or_ge j k with h1 | h1
  ·exact hall j h1
  obtain rfl : j = k := by omega
  rw [hpk]; exact hb
 refine Wq (Vu Z (Yu Z (Wk (Ws (Wb (Wq (V0 Z (Th 8 Z yy94 Z (Ts 8 Z (by rfl) (fun k u hk => hI.oldp (hoc k u hk)) (Vz (.agg zI8) (zI8) hI Z ?_))))))))))
 rintro b4 w - - hI
 refine Vb Z (T2 8 (#[_, _, _, _, _, _, _, _]) (.agg _) hI Z ?_)
 intro w hI
 refine Wn ?_
 simp only [opV] at hI
 by_cases hr0 : 0 ≤ p7
 ·cases hdn : dn k with
  | true =>
   rw [hdn] at hdg
   refine Wq (V8 7 Z (Yc hI Z Z (U1 Z (V7 Z (T1 Z (Tj Z (V8 4 Z (V6 (.slice _ _ _) Z (hI.oldp h4) (V0 Z (T6 Z yy91 Z (V6 (.bool _) Z (hI.oldp hdg) (Tf Z (Vk Z (Yf Z (Wk ?_)))))))))))))))
   have hI := hI.d0
   exact Wr (Vl Z (V0 Z (Wn ⟨l.length - (k + 1), by omega, k + 1, rfl, by omega, hnext (fun _ => hdn), g4_, hI⟩)))
  | false =>
   rw [hdn] at hdg
   exact Wq (V8 7 Z (Yc hI Z Z (U1 Z (V7 Z (T1 Z (Tj Z (V8 4 Z (V6 (.slice _ _ _) Z (hI.oldp h4) (V0 Z (T6 Z yy91 Z (V6 (.bool _) Z (hI.oldp hdg) (To Z (Vk Z (Yt Z (Wq (Vc Z (Wn (WR (r1_ 2 Z ⟨⟨false, Z, by simp; exact fun hs => by have := hs k hkl (by rw [hpk]; exact hr0); rw [hdn] at this; cases this⟩, hI.pu⟩)))))))))))))))))))
 refine Wq (V8 7 Z (Yc hI Z Z (Uf Z (V7 Z (V5 Z (V5 Z (V5 Z (V5 Z (V5 Z (V5 Z (V5 Z (V5 Z (Vi Z (Yf Z (Wk ?_)))))))))))))))
 have hI := hI.d0
 exact Wr (Vl Z (V0 Z (Wn ⟨l.length - (k + 1), by omega, k + 1, rfl, by omega, hnext (fun e => absurd e hr0), g4_, hI⟩)))
structure AheadC (f : FuncId) (ab : Op8 → Op8 → Bool) : Prop where
 fn : ∃ fn : Func, prog.funcs[f]? = some fn ∧ (fn.name == "runtime.NumGoroutine") = false ∧ fn.body.isNone = false
 calls : ∀ p q W, Cq f #[.agg (opV p).toArray, .agg (opV q).toArray] W fun en w' => en = .returned (.bool (ab p q)) ∧ Pure W w'
def nextB (l : List Op8) (ab : Op8 → Op8 → Bool) (dn : Nat → Bool) (i : Nat) : Prop := dn i = false ∧ ∀ k, k < l.length → k ≠ i → dn k = false → ab (oAt l k) (oAt l i) = false
theorem snext_any (sb : Nat) (A : Option Addr) (c : Nat) (l : List Op8) (db f : Nat) (ab : Op8 → Op8 → Bool) (dn : Nat → Bool) (i : Nat) (D : Nat → Prop) (w0 : World) (h : OpsR w0 D (.slice A l.length c) l) (h1 : w0.cell? ⟨sb, 1, none⟩ = some (.slice A l.length c)) (h3 : w0.cell? ⟨sb, 3, none⟩ = some (.func (.func f) #[] #[])) (h4 : w0.cell? ⟨sb, 4, none⟩ = some (.slice (some ⟨db, 0, none⟩) l.length l.length)) (hd : Blk w0 db 4 (boolC l.length dn)) (hl : l.length ≤ 1000) (hi : i < l.length) (hf : AheadC f ab) :
  Cq 171 #[.pointer (some ⟨sb, 0, none⟩), .int .i64 (i : Int)] w0 fun en w' => (∃ b : Bool, en = .returned (.bool b) ∧ (b = true ↔ nextB l ab dn i)) ∧ Pure w0 w' := by
 obtain ⟨⟨fn, f1, f2, f3⟩, hcall⟩ := hf
 have hI := Inv.start (fun _ => False) w0
 have hdi := (hd.cell i).trans (boolC_get (n := l.length) dn hi)
 refine Vm func171 Z (Wq (Vc Z (Wn ?_)))
 cases hdn0 : dn i with
 | true =>
  rw [hdn0] at hdi
  exact Ws (Wq (T1 Z (Tj Z (V8 4 Z (V6 (.slice _ _ _) Z (hI.oldp h4) (V0 Z (T6 Z yy91 Z (V6 (.bool _) Z (hI.oldp hdi) (Yt Z (Ws (Wr (Vc Z (Wn (WR (r1_ 4 Z ⟨⟨false, Z, by simp; exact fun hs => by have := hs.1; rw [hdn0] at this; cases this⟩, hI.pu⟩)))))))))))))))
 | false =>
 rw [hdn0] at hdi
 refine Ws (Wq (T1 Z (Tj Z (V8 4 Z (V6 (.slice _ _ _) Z (hI.oldp h4) (V0 Z (T6 Z yy91 Z (V6 (.bool _) Z (hI.oldp hdi) (Yf Z (Wk (Ws (Wq (T1 Z (Tj Z (V8 1 Z (V6 (.slice _ _ _) Z (hI.oldp h1) (Vo Z yy94 Z (V0 Z (Wn (Wb ?_))))))))))))))))))))
 refine Wl (fun mu ρ w => ∃ k : Nat, mu = l.length - k ∧ k ≤ l.length ∧ (∀ j, j < k → j ≠ i → dn j = false → ab (oAt l j) (oAt l i) = false) ∧ Has ρ [(19, Y (k : Int)), (18, Y (l.length : Int)), (17, .slice A l.length c), (0, .pointer (some ⟨sb, 0, none⟩)), (1, Y (i : Int))] ∧ Inv NF w0 w []) l.length
  ⟨0, rfl, by omega, fun j hj => by omega, ⟨rfl, rfl, rfl, rfl, rfl, trivial⟩, hI⟩ ?_
 clear hI
 rintro mu ρ w ⟨k, rfl, hkk, hall, hH, hI⟩
 obtain ⟨σ, rfl⟩ := hH.open
 by_cases hkl : k < l.length
 rotate_left
 ·obtain rfl : k = l.length := by omega
  exact Wq (Vr Z (Yg Z (WE (Wq (Vc Z (Wn (WR (r1_ 4 Z ⟨⟨true, Z, by simp; exact ⟨hdn0, hall⟩⟩, hI.pu⟩))))))))
 obtain ⟨bA, oA, rfl, hoc⟩ := h.at hkl
 obtain ⟨bA', oA', hae, hoci⟩ := h.at hi
 injection hae with hae
 injection hae with e1 e2
 subst e1 e2
 have hdg := (hd.cell k).trans (boolC_get (n := l.length) dn hkl)
 have hnext : (k ≠ i → dn k = false → ab (oAt l k) (oAt l i) = false) → ∀ j, j < k + 1 → j ≠ i → dn j = false → ab (oAt l j) (oAt l i) = false := fun hb j hj => by
  rcases Nat.lt_or_ge j k with h1 | h1
  ·exact hall j h1
  obtain rfl : j = k := by omega
  exact hb
 refine Wq (Vu Z (Yu Z (Wk (Ws (Wb (Wq (V0 Z (Th 8 Z yy94 Z (Ts 8 Z (by rfl) (fun k u hk => hI.oldp (hoc k u hk)) (Vz (.agg zI8) (zI8) hI Z ?_))))))))))
 rintro b6 w - - hI
 refine Vb Z (T2 8 (#[_, _, _, _, _, _, _, _]) (.agg _) hI Z ?_)
 intro w hI
 refine Wn ?_
 by_cases hki : k = i
 ·refine Ws (Yi hI fun Sx hY hXS hI => Vh 0 Z (Vh 1 Z (Tu 2 Z (Ve 3 Z (V4 4 Z Z (V4 5 Z Z (V4 6 Z Z (V4 7 Z Z (V4 8 Z Z (V4 9 Z Z (V4 10 Z Z (V4 11 Z Z (Vn 12 Z (Ve 13 Z (V4 14 Z Z (V4 15 Z Z (V4 16 Z Z (V4 17 Z Z (V4 18 Z Z (V4 19 Z Z (V4 20 Z Z (V4 21 Z Z (V4 22 Z Z (V4 23 Z Z (V4 24 Z Z (V4 25 Z Z (V4 26 Z Z (Vn 27 Z (Yz (Wc false Z (Wk ?_)))))))))))))))))))))))))))))))
  have hI := hI.d0
  exact Wr (Vl Z (V0 Z (Wn ⟨l.length - (k + 1), by omega, k + 1, rfl, by omega, hnext (fun e => absurd hki e), g5_, hI⟩)))
 cases hdnk : dn k with
 | true =>
  rw [hdnk] at hdg
  refine Ws (Yi hI fun Sx hY hXS hI => Vh 0 Z (Vh 1 Z (U4 2 Z (Ve 3 Z (T7 4 Z (T8 5 Z (Vf 6 4 Z (V9 7 (.slice _ _ _) Z (Yo hY h4) (Vh 8 Z (Te 9 Z yy91 Z (V9 10 (.bool _) Z (Yo hY hdg) (Tm 11 Z (Vv 12 Z (Ve 13 Z (V4 14 Z Z (V4 15 Z Z (V4 16 Z Z (V4 17 Z Z (V4 18 Z Z (V4 19 Z Z (V4 20 Z Z (V4 21 Z Z (V4 22 Z Z (V4 23 Z Z (V4 24 Z Z (V4 25 Z Z (V4 26 Z Z (Vn 27 Z (Yz (Wc false Z (Wk ?_)))))))))))))))))))))))))))))))
  have hI := hI.d0
  exact Wr (Vl Z (V0 Z (Wn ⟨l.length - (k + 1), by omega, k + 1, rfl, by omega, hnext (fun _ e => by rw [hdnk] at e; cases e), g5_, hI⟩)))
 | false =>
  rw [hdnk] at hdg
  cases hab : ab (oAt l k) (oAt l i) with
  | true =>
   refine Ws (Yi hI fun Sx hY hXS hI => Vh 0 Z (Vh 1 Z (U4 2 Z (Ve 3 Z (T7 4 Z (T8 5 Z (Vf 6 4 Z (V9 7 (.slice _ _ _) Z (Yo hY h4) (Vh 8 Z (Te 9 Z yy91 Z (V9 10 (.bool _) Z (Yo hY hdg) (Uc 11 Z (Vv 12 Z (Ve 13 Z (T7 14 Z (T8 15 Z (Vf 16 3 Z (V9 17 (.func _ _ _) Z (Yo hY h3) (Ul 18 8 Z (fun W hW => (hY W hW).g0) (T7 19 Z (T8 20 Z (Vf 21 1 Z (V9 22 (.slice _ _ _) Z (Yo hY h1) (Vh 23 Z (Tb 24 8 Z yy94 Z (Ug 25 8 Z (by rfl) (fun W hW => have hI := hY W hW; fun k u hk => hI.oldp (hoci k u hk)) (Vq 26 Z (WL_call Z Z Z (rCallF (f := f) (first := []) (cap := []) (vs := [.agg _, .agg _]) Z Z f1 f2 f3 Z) ((hcall (oAt l k) (oAt l i) _).mono ?_)))))))))))))))))))))))))))))
   rw [hab]
   rintro e w1 ⟨rfl, hp⟩
   refine rV ?_
   have hI := hI.pure hp
   exact Wn ⟨hXS _ hI, (Vv 27 Z (Yz (Wc true Z (Wq (Vc Z (Wn (WR (r1_ 4 Z ⟨⟨false, Z, by simp; exact fun hs => by have := hs.2 k hkl hki hdnk; rw [hab] at this; cases this⟩, hI.pu⟩))))))))⟩
  | false =>
   refine Ws (Yi hI fun Sx hY hXS hI => Vh 0 Z (Vh 1 Z (U4 2 Z (Ve 3 Z (T7 4 Z (T8 5 Z (Vf 6 4 Z (V9 7 (.slice _ _ _) Z (Yo hY h4) (Vh 8 Z (Te 9 Z yy91 Z (V9 10 (.bool _) Z (Yo hY hdg) (Uc 11 Z (Vv 12 Z (Ve 13 Z (T7 14 Z (T8 15 Z (Vf 16 3 Z (V9 17 (.func _ _ _) Z (Yo hY h3) (Ul 18 8 Z (fun W hW => (hY W hW).g0) (T7 19 Z (T8 20 Z (Vf 21 1 Z (V9 22 (.slice _ _ _) Z (Yo hY h1) (Vh 23 Z (Tb 24 8 Z yy94 Z (Ug 25 8 Z (by rfl) (fun W hW => have hI := hY W hW; fun k u hk => hI.oldp (hoci k u hk)) (Vq 26 Z (WL_call Z Z Z (rCallF (f := f) (first := []) (cap := []) (vs := [.agg _, .agg _]) Z Z f1 f2 f3 Z) ((hcall (oAt l k) (oAt l i) _).mono ?_)))))))))))))))))))))))))))))
   rw [hab]
   rintro e w1 ⟨rfl, hp⟩
   refine rV ?_
   have hI := hI.pure hp
   refine Wn ⟨hXS _ hI, (Vv 27 Z (Yz (Wc false Z (Wk ?_))))⟩
   have hI := hI.d0
   exact Wr (Vl Z (V0 Z (Wn ⟨l.length - (k + 1), by omega, k + 1, rfl, by omega, hnext (fun _ _ => hab), g5_, hI⟩)))
end Go.Proofs.YtnckdmogdehnoaaGreatDoor
