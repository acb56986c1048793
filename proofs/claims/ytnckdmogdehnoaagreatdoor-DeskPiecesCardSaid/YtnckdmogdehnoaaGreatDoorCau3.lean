/- Part of the proof that a desk answers in pieces. -/
import Derived.Test.YtnckdmogdehnoaaGreatDoorPA
import Derived.Test.YtnckdmogdehnoaaGreatDoorPCau2
import Derived.Test.YtnckdmogdehnoaaGreatDoorMgx
set_option maxRecDepth 8000
set_option maxHeartbeats 16000000
set_option linter.unusedVariables false
set_option linter.unusedSimpArgs false
namespace Go.Proofs.YtnckdmogdehnoaaGreatDoor
open Tryz
open Go.RowKit
theorem mg_boolE {w : World} {te tb ob n i j r : Nat} {rbs : List Nat} {f : Nat → Nat → Bool} {b : Bool} (h : MG w te tb ob rbs n f) (hr : rbs[i]? = some r) (hi : i < n) (hj : j < n) (e : f i j = b) : w.cell? ⟨r, j, none⟩ = some (.bool b) := by
 rw [← e]; exact mg_bool h hr hi hj
theorem r0F_eq (l : List Op8) (i k : Nat) : r0F l i k = (decide ((oAt l i).proc = (oAt l k).proc) && decide ((oAt l i).call < (oAt l k).call) || decide (readsF l k = (i : Int))) := rfl
def aheP (l : List Op8) (k m : Nat) (x y : Nat) : Bool := (decide (x < k) || (decide (x = k) && decide (y < m))) && r0F l x y
theorem aheP_set (l : List Op8) (k m : Nat) {b : Bool} (hb : r0F l k m = b) : (fun p q => if p = k ∧ q = m then b else aheP l k m p q) = aheP l k (m + 1) := by
 funext p q
 unfold aheP
 by_cases h : p = k ∧ q = m
 ·obtain ⟨rfl, rfl⟩ := h
  simp [hb]
 rw [if_neg h]
 by_cases h1 : p = k
 ·subst h1
  have h2 : q ≠ m := fun e => h ⟨rfl, e⟩
  have h3 : decide (q < m) = decide (q < m + 1) := by rw [Bool.eq_iff_iff]; simp; omega
  rw [h3]
 simp [h1]
theorem aheP_row (l : List Op8) (k n : Nat) : ∀ i j, i < k + 1 → j < n → aheP l k n i j = aheP l (k + 1) 0 i j := by
 intro i j hi hj
 unfold aheP
 have : (decide (i < k) || (decide (i = k) && decide (j < n))) = (decide (i < k + 1) || (decide (i = k + 1) && decide (j < 0))) := by
  rw [Bool.eq_iff_iff]; simp; omega
 rw [this]
def warP (r : Nat → Nat → Bool) (m i k : Nat) (x y : Nat) : Bool := if x < i ∨ (x = i ∧ y < k) then war r (m + 1) x y else war r m x y
theorem war_m1 (r : Nat → Nat → Bool) (m i : Nat) : war r (m + 1) i m = war r m i m := by
 show (war r m i m || (war r m i m && war r m m m)) = war r m i m
 cases war r m i m <;> simp
theorem war_m2 (r : Nat → Nat → Bool) (m k : Nat) : war r (m + 1) m k = war r m m k := by
 show (war r m m k || (war r m m m && war r m m k)) = war r m m k
 cases war r m m k <;> simp
theorem warP_ik (r : Nat → Nat → Bool) (m i k : Nat) : warP r m i k i k = war r m i k := by unfold warP; rw [if_neg (by omega)]
theorem warP_im (r : Nat → Nat → Bool) (m i k : Nat) : warP r m i k i m = war r m i m := by
 unfold warP; split
 ·exact war_m1 r m i
 rfl
theorem warP_mk (r : Nat → Nat → Bool) (m i k : Nat) : warP r m i k m k = war r m m k := by
 unfold warP; split
 ·exact war_m2 r m k
 rfl
theorem warP_set (r : Nat → Nat → Bool) (m i k : Nat) {b : Bool} (hb : (war r m i k || (war r m i m && war r m m k)) = b) : (fun p q => if p = i ∧ q = k then b else warP r m i k p q) = warP r m i (k + 1) := by
 funext p q
 unfold warP
 by_cases h : p = i ∧ q = k
 ·obtain ⟨rfl, rfl⟩ := h
  rw [if_pos ⟨rfl, rfl⟩, if_pos (by omega)]
  exact hb.symm
 rw [if_neg h]
 have : (p < i ∨ p = i ∧ q < k) ↔ (p < i ∨ p = i ∧ q < k + 1) := by
  constructor
  ·rintro (h1 | h1)
   ·exact .inl h1
   exact .inr ⟨h1.1, by omega⟩
  rintro (h1 | h1)
  ·exact .inl h1
  exact .inr ⟨h1.1, by have := fun e => h ⟨h1.1, e⟩; omega⟩
 simp only [this]
theorem warP_row (r : Nat → Nat → Bool) (m i n : Nat) : ∀ x y, x < n → y < n → warP r m i n x y = warP r m (i + 1) 0 x y := by
 intro x y hx hy
 unfold warP
 have : (x < i ∨ x = i ∧ y < n) ↔ (x < i + 1 ∨ x = i + 1 ∧ y < 0) := by omega
 simp only [this]
theorem warP_all (r : Nat → Nat → Bool) (m n : Nat) : ∀ x y, x < n → y < n → warP r m n 0 x y = warP r (m + 1) 0 0 x y := by
 intro x y hx hy
 unfold warP
 rw [if_pos (.inl hx), if_neg (by omega)]
theorem warP_zero (r : Nat → Nat → Bool) (m : Nat) : warP r m 0 0 = war r m := by
 funext x y; unfold warP; rw [if_neg (by omega)]
theorem cahead_any (A : Option Addr) (n c : Nat) (l : List Op8) (A2 : Option Addr) (c2 : Nat) (D D2 : Nat → Prop) (w0 : World) (h : OpsR w0 D (.slice A n c) l) (hr : Rd w0 D2 1 (.slice A2 l.length c2) l.length (i64s (readsL l l.length))) (h40 : l.length ≤ 1000) :
  Cq 90 #[.slice A n c, .slice A2 l.length c2] w0 fun en w' => ∃ ob rbs, en = .returned (.slice (some ⟨ob, 0, none⟩) l.length l.length) ∧ Inv NF w0 w' [MGE 91 4 ob rbs l.length (beforeF l)] := by
 obtain ⟨hn, hc1, hc2⟩ := h.len
 subst hn
 have hI := Inv.start (fun _ => False) w0
 refine Vm func90 Z (Wq (Vg Z (Wn (Wq (Va Z (Vo Z yy94 Z (WL_mk (by_ := 24) (z := .slice none 0 0) hI Z Z Z Z Z Z yy150 (by kernel_rfl) Z (by omega) (by omega) ?_)))))))
 rintro b15 w - - hI
 refine Vg Z (Wn ?_)
 have hI := hI.u0 (e' := MGpE 91 4 b15 [] l.length (aheP l 0 0)) (Chg.refl _ _) (MGpE.ok (MGp.start hI.g0)) (fun k hk => .inl (by rcases hk with hk | ⟨i, hi⟩; exact hk; simp at hi))
 refine Wx (fun ρ w => ∃ rbs, Has ρ [(0, .slice A l.length c), (5, .slice (some ⟨b15, 0, none⟩) l.length l.length)] ∧ Inv NF w0 w [MGE 91 4 b15 rbs l.length (war (r0F l) 0)]) ?_ ?_
 ·refine Wq (Va Z (Vo Z yy94 Z (V0 Z (Wn (Wb ?_)))))
  refine Wl (fun mu ρ w => ∃ (k : Nat) (rbs : List Nat), mu = l.length - k ∧ k ≤ l.length ∧ rbs.length = k ∧ Has ρ [(18, Y (k : Int)), (17, Y (l.length : Int)), (16, .slice A l.length c), (0, .slice A l.length c), (1, .slice A2 l.length c2), (5, .slice (some ⟨b15, 0, none⟩) l.length l.length)] ∧ Inv NF w0 w [MGpE 91 4 b15 rbs l.length (aheP l k 0)]) l.length
   ⟨0, [], rfl, by omega, rfl, ⟨rfl, rfl, rfl, rfl, rfl, rfl, trivial⟩, hI⟩ ?_
  clear hI
  rintro mu ρ w ⟨k, rbs, rfl, hk, hrl, hH, hI⟩
  obtain ⟨σ, rfl⟩ := hH.open
  by_cases hkl : k < l.length
  rotate_left
  ·obtain rfl : k = l.length := by omega
   refine Wq (Vr Z (Yg Z (WE ?_)))
   have hMp : MGp w 91 4 b15 rbs l.length (aheP l l.length 0) := hI.g0
   have hMg : MG w 91 4 b15 rbs l.length (war (r0F l) 0) := (hMp.full hrl).congr (fun i j hi hj => by unfold aheP; simp [hi]; rfl)
   exact ⟨rbs, g2_, hI.u0 (e' := MGE 91 4 b15 rbs l.length (war (r0F l) 0)) (Chg.refl _ _) (MGE.ok hMg) (fun k hk => .inl hk)⟩
  obtain ⟨bA, oA, hAe, hoc⟩ := (h.pure hI.pu).at hkl
  subst hAe
  have hr0k := fun m => r0F_eq l k m
  have hat := fun (W : World) (hp : Pure w0 W) (m : Nat) (hm : m < l.length) => (h.pure hp).at hm
  generalize hpk : oAt l k = pk at hoc hr0k
  obtain ⟨p0, p1, p2, p3, p4, p5, p6, p7⟩ := pk
  refine Wq (Vu Z (Yu Z (Wk (Ws (Wb (Wq (V0 Z (Th 8 Z yy94 Z (Ts 8 Z (by rfl) hoc (Vz (.agg zI8) (zI8) hI Z ?_))))))))))
  rintro b7 w - - hI
  refine Vb Z (T2 8 (#[_, _, _, _, _, _, _, _]) (.agg _) hI Z ?_)
  intro w hI
  refine Wn ?_
  simp only [opV] at hI
  refine Wq (Va Z (V0 Z (Va Z (Vo Z yy94 Z (WL_mk (by_ := 1) (z := .bool false) hI Z Z Z Z Z Z yy91 (by kernel_rfl) Z (by omega) (by omega) ?_)))))
  rintro b27 w - - hI
  refine Wv Z (rIdx0 (i := k) Z yy150 (by kernel_rfl) Z Z Z hkl) ?_
  have hI := hI.sw1
  refine WL_mgNext hI Z Z Z (by rw [hrl]; rfl) Z (by kernel_rfl) (by decide) (by omega) (fun j hj => by rw [hrl]; unfold aheP; simp) ?_
  intro w hI
  refine Wn ?_
  have hrk : (rbs ++ [b27])[k]? = some b27 := by rw [List.getElem?_append_right (by omega), hrl, Nat.sub_self]; rfl
  have hrl2 : (rbs ++ [b27]).length = k + 1 := by simp [hrl]
  generalize rbs ++ [b27] = rbs2 at hI hrk hrl2
  refine Wq (Va Z (Vo Z yy94 Z (V0 Z (Wn (Wb ?_)))))
  refine Wl (fun mu ρ w => ∃ (m : Nat), mu = l.length - m ∧ m ≤ l.length ∧ Has ρ [(31, Y (m : Int)), (30, Y (l.length : Int)), (29, .slice (some ⟨bA, oA, none⟩) l.length c), (18, Y (k : Int)), (17, Y (l.length : Int)), (16, .slice (some ⟨bA, oA, none⟩) l.length c), (0, .slice (some ⟨bA, oA, none⟩) l.length c), (1, .slice A2 l.length c2), (5, .slice (some ⟨b15, 0, none⟩) l.length l.length), (6, Y (k : Int)), (7, .pointer (some ⟨b7, 0, none⟩))] ∧ Inv NF w0 w [MGpE 91 4 b15 rbs2 l.length (aheP l k m), B b7 106 #[Y p0, Y p1, Y p2, Y p3, Y p4, Y p5, Y p6, Y p7]]) l.length
   ⟨0, rfl, by omega, ⟨rfl, rfl, rfl, rfl, rfl, rfl, rfl, rfl, rfl, rfl, rfl, trivial⟩, hI⟩ ?_
  clear hI hoc
  rintro mu ρ w ⟨m, rfl, hm, hH, hI⟩
  obtain ⟨σ, rfl⟩ := hH.open
  by_cases hml : m < l.length
  rotate_left
  ·obtain rfl : m = l.length := by omega
   refine Wq (Vr Z (Yg Z (WE ?_)))
   have hMp : MGp w 91 4 b15 rbs2 l.length (aheP l k l.length) := hI.g0
   have hI := hI.d1.u0 (e' := MGpE 91 4 b15 rbs2 l.length (aheP l (k + 1) 0)) (Chg.refl _ _) (MGpE.ok (hMp.congr (fun i j hi hj => aheP_row l k l.length i j (by omega) hj))) (fun k hk => .inl hk)
   exact Wr (Vl Z (V0 Z (Wn ⟨l.length - (k + 1), by omega, k + 1, rbs2, rfl, by omega, hrl2, g6_, hI⟩)))
  obtain ⟨bA', oA', hAe, hoc⟩ := hat _ hI.pu m hml
  injection hAe with hAe
  injection hAe with e1 e2
  subst e1 e2
  have hr0 := hr0k m
  obtain ⟨bR, oR, rfl, _, _, hrc⟩ := hr.get (readsL_get hml) (by omega)
  generalize hrm : readsF l m = rm at hr0 hrc
  generalize hqk : oAt l m = qk at hoc hr0
  obtain ⟨q0, q1, q2, q3, q4, q5, q6, q7⟩ := qk
  simp only at hr0
  refine Wq (Vu Z (Yu Z (Wk (Ws (Wb (Wq (V0 Z (Th 8 Z yy94 Z (Ts 8 Z (by rfl) hoc (Vz (.agg zI8) (zI8) hI Z ?_))))))))))
  rintro b9 w - - hI
  refine Vb Z (T2 8 (#[_, _, _, _, _, _, _, _]) (.agg _) hI Z ?_)
  intro w hI
  refine Wn ?_
  simp only [opV] at hI
  by_cases ha : p0 = q0 ∧ p6 < q6
  ·obtain ⟨ha1, ha2⟩ := ha
   have hv : r0F l k m = true := by rw [hr0]; simp [ha1, ha2]
   refine Yj [26] hI fun Sx hY hXS hI => Vp 0 Z (Vh 1 Z (Te 2 Z yy150 Z (V9 3 (.slice _ _ _) Z (fun W hW => have hI := hY W hW; mgp_cell hI.g1 hrk) (Vh 4 Z (Vf 5 0 Z (V9 6 (Y _) Z (fun W hW => (hY W hW).c2 Z) (Vf 7 0 Z (Ye 8 hY Z Z (U8 9 Z (Ve 10 Z (Vf 11 6 Z (V9 12 (Y _) Z (fun W hW => (hY W hW).c2 Z) (Vf 13 6 Z (Ye 14 hY Z Z (Un 15 Z (Vv 16 Z (Ve 17 Z (V4 18 Z Z (V4 19 Z Z (V4 20 Z Z (V4 21 Z Z (V4 22 Z Z (V4 23 Z Z (Vv 24 Z (Te 25 Z yy91 Z (WT_A (by kernel_rfl) ?_))))))))))))))))))))))))))
   clear hXS hY
   refine Tr 26 Z (WL_stMGp 1 Z hI Z Z Z Z Z (by kernel_rfl) (by decide) hrk hml ?_)
   intro w hI
   simp only [List.set_cons_succ, List.set_cons_zero] at hI
   rw [aheP_set l k m hv] at hI
   refine Wn (WA_end (by kernel_rfl) ?_)
   have hI := hI.d0
   exact Wr (Vl Z (V0 Z (Wn ⟨l.length - (m + 1), by omega, m + 1, rfl, by omega, g11_, hI⟩)))
  by_cases hb : p0 = q0
  ·have hb2 : ¬ p6 < q6 := fun e => ha ⟨hb, e⟩
   by_cases hd : rm = (k : Int)
   ·have hv : r0F l k m = true := by rw [hr0]; simp [hd]
    refine Yj [26] hI fun Sx hY hXS hI => Vp 0 Z (Vh 1 Z (Te 2 Z yy150 Z (V9 3 (.slice _ _ _) Z (fun W hW => have hI := hY W hW; mgp_cell hI.g1 hrk) (Vh 4 Z (Vf 5 0 Z (V9 6 (Y _) Z (fun W hW => (hY W hW).c2 Z) (Vf 7 0 Z (Ye 8 hY Z Z (U8 9 Z (Ve 10 Z (Vf 11 6 Z (V9 12 (Y _) Z (fun W hW => (hY W hW).c2 Z) (Vf 13 6 Z (Ye 14 hY Z Z (Ud 15 Z (Vv 16 Z (Ve 17 Z (Vp 18 Z (Vh 19 Z (Uo 20 Z yy41 Z (V9 21 (Y _) Z (Yo hY hrc) (Vh 22 Z (U8 23 Z (Vn 24 Z (Te 25 Z yy91 Z (WT_A (by kernel_rfl) ?_))))))))))))))))))))))))))
    clear hXS hY
    refine Tr 26 Z (WL_stMGp 1 Z hI Z Z Z Z Z (by kernel_rfl) (by decide) hrk hml ?_)
    intro w hI
    simp only [List.set_cons_succ, List.set_cons_zero] at hI
    rw [aheP_set l k m hv] at hI
    refine Wn (WA_end (by kernel_rfl) ?_)
    have hI := hI.d0
    exact Wr (Vl Z (V0 Z (Wn ⟨l.length - (m + 1), by omega, m + 1, rfl, by omega, g11_, hI⟩)))
   have hv : r0F l k m = false := by rw [hr0]; simp [hb2, hd]
   refine Yj [26] hI fun Sx hY hXS hI => Vp 0 Z (Vh 1 Z (Te 2 Z yy150 Z (V9 3 (.slice _ _ _) Z (fun W hW => have hI := hY W hW; mgp_cell hI.g1 hrk) (Vh 4 Z (Vf 5 0 Z (V9 6 (Y _) Z (fun W hW => (hY W hW).c2 Z) (Vf 7 0 Z (Ye 8 hY Z Z (U8 9 Z (Ve 10 Z (Vf 11 6 Z (V9 12 (Y _) Z (fun W hW => (hY W hW).c2 Z) (Vf 13 6 Z (Ye 14 hY Z Z (Ud 15 Z (Vv 16 Z (Ve 17 Z (Vp 18 Z (Vh 19 Z (Uo 20 Z yy41 Z (V9 21 (Y _) Z (Yo hY hrc) (Vh 22 Z (U5 23 Z (Vn 24 Z (Te 25 Z yy91 Z (WT_A (by kernel_rfl) ?_))))))))))))))))))))))))))
   clear hXS hY
   refine Tr 26 Z (WL_stMGp 1 Z hI Z Z Z Z Z (by kernel_rfl) (by decide) hrk hml ?_)
   intro w hI
   simp only [List.set_cons_succ, List.set_cons_zero] at hI
   rw [aheP_set l k m hv] at hI
   refine Wn (WA_end (by kernel_rfl) ?_)
   have hI := hI.d0
   exact Wr (Vl Z (V0 Z (Wn ⟨l.length - (m + 1), by omega, m + 1, rfl, by omega, g11_, hI⟩)))
  by_cases hd : rm = (k : Int)
  ·have hv : r0F l k m = true := by rw [hr0]; simp [hd]
   refine Yj [26] hI fun Sx hY hXS hI => Vp 0 Z (Vh 1 Z (Te 2 Z yy150 Z (V9 3 (.slice _ _ _) Z (fun W hW => have hI := hY W hW; mgp_cell hI.g1 hrk) (Vh 4 Z (Vf 5 0 Z (V9 6 (Y _) Z (fun W hW => (hY W hW).c2 Z) (Vf 7 0 Z (Ye 8 hY Z Z (U5 9 Z (Ve 10 Z (V4 11 Z Z (V4 12 Z Z (V4 13 Z Z (V4 14 Z Z (V4 15 Z Z (Vn 16 Z (Ve 17 Z (Vp 18 Z (Vh 19 Z (Uo 20 Z yy41 Z (V9 21 (Y _) Z (Yo hY hrc) (Vh 22 Z (U8 23 Z (Vn 24 Z (Te 25 Z yy91 Z (WT_A (by kernel_rfl) ?_))))))))))))))))))))))))))
   clear hXS hY
   refine Tr 26 Z (WL_stMGp 1 Z hI Z Z Z Z Z (by kernel_rfl) (by decide) hrk hml ?_)
   intro w hI
   simp only [List.set_cons_succ, List.set_cons_zero] at hI
   rw [aheP_set l k m hv] at hI
   refine Wn (WA_end (by kernel_rfl) ?_)
   have hI := hI.d0
   exact Wr (Vl Z (V0 Z (Wn ⟨l.length - (m + 1), by omega, m + 1, rfl, by omega, g11_, hI⟩)))
  have hv : r0F l k m = false := by rw [hr0]; simp [hb, hd]
  refine Yj [26] hI fun Sx hY hXS hI => Vp 0 Z (Vh 1 Z (Te 2 Z yy150 Z (V9 3 (.slice _ _ _) Z (fun W hW => have hI := hY W hW; mgp_cell hI.g1 hrk) (Vh 4 Z (Vf 5 0 Z (V9 6 (Y _) Z (fun W hW => (hY W hW).c2 Z) (Vf 7 0 Z (Ye 8 hY Z Z (U5 9 Z (Ve 10 Z (V4 11 Z Z (V4 12 Z Z (V4 13 Z Z (V4 14 Z Z (V4 15 Z Z (Vn 16 Z (Ve 17 Z (Vp 18 Z (Vh 19 Z (Uo 20 Z yy41 Z (V9 21 (Y _) Z (Yo hY hrc) (Vh 22 Z (U5 23 Z (Vn 24 Z (Te 25 Z yy91 Z (WT_A (by kernel_rfl) ?_))))))))))))))))))))))))))
  clear hXS hY
  refine Tr 26 Z (WL_stMGp 1 Z hI Z Z Z Z Z (by kernel_rfl) (by decide) hrk hml ?_)
  intro w hI
  simp only [List.set_cons_succ, List.set_cons_zero] at hI
  rw [aheP_set l k m hv] at hI
  refine Wn (WA_end (by kernel_rfl) ?_)
  have hI := hI.d0
  exact Wr (Vl Z (V0 Z (Wn ⟨l.length - (m + 1), by omega, m + 1, rfl, by omega, g11_, hI⟩)))
 clear hI
 rintro ρ w ⟨rbs, hH, hI⟩
 obtain ⟨σ, rfl⟩ := hH.open
 rw [← warP_zero (r0F l) 0] at hI
 refine Wx (fun ρ w => Has ρ [(5, .slice (some ⟨b15, 0, none⟩) l.length l.length)] ∧ Inv NF w0 w [MGE 91 4 b15 rbs l.length (warP (r0F l) l.length 0 0)]) ?_ ?_
 ·refine Wq (Va Z (Vo Z yy94 Z (V0 Z (Wn (Wb ?_)))))
  refine Wl (fun mu ρ w => ∃ (m : Nat), mu = l.length - m ∧ m ≤ l.length ∧ Has ρ [(66, Y (m : Int)), (65, Y (l.length : Int)), (0, .slice A l.length c), (5, .slice (some ⟨b15, 0, none⟩) l.length l.length)] ∧ Inv NF w0 w [MGE 91 4 b15 rbs l.length (warP (r0F l) m 0 0)]) l.length
   ⟨0, rfl, by omega, ⟨rfl, rfl, rfl, rfl, trivial⟩, hI⟩ ?_
  clear hI
  rintro mu ρ w ⟨m, rfl, hm, hH, hI⟩
  obtain ⟨σ, rfl⟩ := hH.open
  by_cases hml : m < l.length
  rotate_left
  ·obtain rfl : m = l.length := by omega
   exact Wq (Vr Z (Yg Z (WE ⟨g1_, hI⟩)))
  refine Wq (Vu Z (Yu Z (Wk (Ws (Wb (Wq (V0 Z (Vb Z (Wn (Wq (Va Z (Vo Z yy94 Z (V0 Z (Wn (Wb ?_)))))))))))))))
  refine Wl (fun mu ρ w => ∃ (i : Nat), mu = l.length - i ∧ i ≤ l.length ∧ Has ρ [(71, Y (i : Int)), (70, Y (l.length : Int)), (10, Y (m : Int)), (66, Y (m : Int)), (65, Y (l.length : Int)), (0, .slice A l.length c), (5, .slice (some ⟨b15, 0, none⟩) l.length l.length)] ∧ Inv NF w0 w [MGE 91 4 b15 rbs l.length (warP (r0F l) m i 0)]) l.length
   ⟨0, rfl, by omega, ⟨rfl, rfl, rfl, rfl, rfl, rfl, rfl, trivial⟩, hI⟩ ?_
  clear hI
  rintro mu ρ w ⟨i, rfl, hi, hH, hI⟩
  obtain ⟨σ, rfl⟩ := hH.open
  by_cases hil : i < l.length
  rotate_left
  ·obtain rfl : i = l.length := by omega
   refine Wq (Vr Z (Yg Z (WE ?_)))
   have hM : MG w 91 4 b15 rbs l.length (warP (r0F l) m l.length 0) := hI.g0
   have hI := hI.u0 (e' := MGE 91 4 b15 rbs l.length (warP (r0F l) (m + 1) 0 0)) (Chg.refl _ _) (MGE.ok (hM.congr (warP_all (r0F l) m l.length))) (fun k hk => .inl hk)
   exact Wr (Vl Z (V0 Z (Wn ⟨l.length - (m + 1), by omega, m + 1, rfl, by omega, g4_, hI⟩)))
  refine Wq (Vu Z (Yu Z (Wk (Ws (Wb (Wq (V0 Z (Vb Z (Wn (Wq (Va Z (Vo Z yy94 Z (V0 Z (Wn (Wb ?_)))))))))))))))
  refine Wl (fun mu ρ w => ∃ (k : Nat), mu = l.length - k ∧ k ≤ l.length ∧ Has ρ [(76, Y (k : Int)), (75, Y (l.length : Int)), (11, Y (i : Int)), (71, Y (i : Int)), (70, Y (l.length : Int)), (10, Y (m : Int)), (66, Y (m : Int)), (65, Y (l.length : Int)), (0, .slice A l.length c), (5, .slice (some ⟨b15, 0, none⟩) l.length l.length)] ∧ Inv NF w0 w [MGE 91 4 b15 rbs l.length (warP (r0F l) m i k)]) l.length
   ⟨0, rfl, by omega, ⟨rfl, rfl, rfl, rfl, rfl, rfl, rfl, rfl, rfl, rfl, trivial⟩, hI⟩ ?_
  clear hI
  rintro mu ρ w ⟨k, rfl, hk, hH, hI⟩
  obtain ⟨σ, rfl⟩ := hH.open
  by_cases hkl : k < l.length
  rotate_left
  ·obtain rfl : k = l.length := by omega
   refine Wq (Vr Z (Yg Z (WE ?_)))
   have hM : MG w 91 4 b15 rbs l.length (warP (r0F l) m i l.length) := hI.g0
   have hI := hI.u0 (e' := MGE 91 4 b15 rbs l.length (warP (r0F l) m (i + 1) 0)) (Chg.refl _ _) (MGE.ok (hM.congr (warP_row (r0F l) m i l.length))) (fun k hk => .inl hk)
   exact Wr (Vl Z (V0 Z (Wn ⟨l.length - (i + 1), by omega, i + 1, rfl, by omega, g7_, hI⟩)))
  have hM : MG w 91 4 b15 rbs l.length (warP (r0F l) m i k) := hI.g0
  obtain ⟨ri, hri, _⟩ := hM.at_ hil
  obtain ⟨rm, hrm, _⟩ := hM.at_ hml
  clear hM
  have eik := warP_ik (r0F l) m i k
  have eim := warP_im (r0F l) m i k
  have emk := warP_mk (r0F l) m i k
  refine Wq (Vu Z (Yu Z (Wk (Ws (Wb (Wq (V0 Z (Vb Z (Wn ?_)))))))))
  cases ha : war (r0F l) m i k with
  | true =>
   rw [ha] at eik
   have hv := warP_set (r0F l) m i k (b := true) (by rw [ha]; rfl)
   refine Yj [31] hI fun Sx hY hXS hI => Vp 0 Z (Vh 1 Z (Te 2 Z yy150 Z (V9 3 (.slice _ _ _) Z (fun W hW => have hI := hY W hW; mg_cell hI.g0 hri hil) (Vh 4 Z (Vp 5 Z (Vh 6 Z (Te 7 Z yy150 Z (V9 8 (.slice _ _ _) Z (fun W hW => have hI := hY W hW; mg_cell hI.g0 hri hil) (Vh 9 Z (Te 10 Z yy91 Z (V9 11 (.bool _) Z (fun W hW => have hI := hY W hW; mg_boolE hI.g0 hri hil hkl eik) (Ve 12 Z (V4 13 Z Z (V4 14 Z Z (V4 15 Z Z (V4 16 Z Z (V4 17 Z Z (V4 18 Z Z (V4 19 Z Z (V4 20 Z Z (V4 21 Z Z (V4 22 Z Z (V4 23 Z Z (V4 24 Z Z (V4 25 Z Z (V4 26 Z Z (V4 27 Z Z (V4 28 Z Z (Vv 29 Z (Te 30 Z yy91 Z (WT_A (by kernel_rfl) ?_)))))))))))))))))))))))))))))))
   clear hXS hY
   refine Tr 31 Z (WL_stMG 0 Z hI Z Z Z Z Z (by kernel_rfl) (by decide) hri hkl ?_)
   intro w hI
   simp only [List.set_cons_succ, List.set_cons_zero] at hI
   rw [hv] at hI
   exact Wn (WA_end (by kernel_rfl) (Wr (Vl Z (V0 Z (Wn ⟨l.length - (k + 1), by omega, k + 1, rfl, by omega, g10_, hI⟩)))))
  | false =>
   rw [ha] at eik
   cases hb : war (r0F l) m i m with
   | false =>
    rw [hb] at eim
    have hv := warP_set (r0F l) m i k (b := false) (by rw [ha, hb]; rfl)
    refine Yj [31] hI fun Sx hY hXS hI => Vp 0 Z (Vh 1 Z (Te 2 Z yy150 Z (V9 3 (.slice _ _ _) Z (fun W hW => have hI := hY W hW; mg_cell hI.g0 hri hil) (Vh 4 Z (Vp 5 Z (Vh 6 Z (Te 7 Z yy150 Z (V9 8 (.slice _ _ _) Z (fun W hW => have hI := hY W hW; mg_cell hI.g0 hri hil) (Vh 9 Z (Te 10 Z yy91 Z (V9 11 (.bool _) Z (fun W hW => have hI := hY W hW; mg_boolE hI.g0 hri hil hkl eik) (Ve 12 Z (Vp 13 Z (Vh 14 Z (Te 15 Z yy150 Z (V9 16 (.slice _ _ _) Z (fun W hW => have hI := hY W hW; mg_cell hI.g0 hri hil) (Vh 17 Z (Te 18 Z yy91 Z (V9 19 (.bool _) Z (fun W hW => have hI := hY W hW; mg_boolE hI.g0 hri hil hml eim) (Ve 20 Z (V4 21 Z Z (V4 22 Z Z (V4 23 Z Z (V4 24 Z Z (V4 25 Z Z (V4 26 Z Z (V4 27 Z Z (Vn 28 Z (Vn 29 Z (Te 30 Z yy91 Z (WT_A (by kernel_rfl) ?_)))))))))))))))))))))))))))))))
    clear hXS hY
    refine Tr 31 Z (WL_stMG 0 Z hI Z Z Z Z Z (by kernel_rfl) (by decide) hri hkl ?_)
    intro w hI
    simp only [List.set_cons_succ, List.set_cons_zero] at hI
    rw [hv] at hI
    exact Wn (WA_end (by kernel_rfl) (Wr (Vl Z (V0 Z (Wn ⟨l.length - (k + 1), by omega, k + 1, rfl, by omega, g10_, hI⟩)))))
   | true =>
    rw [hb] at eim
    cases hd : war (r0F l) m m k with
    | true =>
     rw [hd] at emk
     have hv := warP_set (r0F l) m i k (b := true) (by rw [ha, hb, hd]; rfl)
     refine Yj [31] hI fun Sx hY hXS hI => Vp 0 Z (Vh 1 Z (Te 2 Z yy150 Z (V9 3 (.slice _ _ _) Z (fun W hW => have hI := hY W hW; mg_cell hI.g0 hri hil) (Vh 4 Z (Vp 5 Z (Vh 6 Z (Te 7 Z yy150 Z (V9 8 (.slice _ _ _) Z (fun W hW => have hI := hY W hW; mg_cell hI.g0 hri hil) (Vh 9 Z (Te 10 Z yy91 Z (V9 11 (.bool _) Z (fun W hW => have hI := hY W hW; mg_boolE hI.g0 hri hil hkl eik) (Ve 12 Z (Vp 13 Z (Vh 14 Z (Te 15 Z yy150 Z (V9 16 (.slice _ _ _) Z (fun W hW => have hI := hY W hW; mg_cell hI.g0 hri hil) (Vh 17 Z (Te 18 Z yy91 Z (V9 19 (.bool _) Z (fun W hW => have hI := hY W hW; mg_boolE hI.g0 hri hil hml eim) (Ve 20 Z (Vp 21 Z (Vh 22 Z (Te 23 Z yy150 Z (V9 24 (.slice _ _ _) Z (fun W hW => have hI := hY W hW; mg_cell hI.g0 hrm hml) (Vh 25 Z (Te 26 Z yy91 Z (V9 27 (.bool _) Z (fun W hW => have hI := hY W hW; mg_boolE hI.g0 hrm hml hkl emk) (Vv 28 Z (Vn 29 Z (Te 30 Z yy91 Z (WT_A (by kernel_rfl) ?_)))))))))))))))))))))))))))))))
     clear hXS hY
     refine Tr 31 Z (WL_stMG 0 Z hI Z Z Z Z Z (by kernel_rfl) (by decide) hri hkl ?_)
     intro w hI
     simp only [List.set_cons_succ, List.set_cons_zero] at hI
     rw [hv] at hI
     exact Wn (WA_end (by kernel_rfl) (Wr (Vl Z (V0 Z (Wn ⟨l.length - (k + 1), by omega, k + 1, rfl, by omega, g10_, hI⟩)))))
    | false =>
     rw [hd] at emk
     have hv := warP_set (r0F l) m i k (b := false) (by rw [ha, hb, hd]; rfl)
     refine Yj [31] hI fun Sx hY hXS hI => Vp 0 Z (Vh 1 Z (Te 2 Z yy150 Z (V9 3 (.slice _ _ _) Z (fun W hW => have hI := hY W hW; mg_cell hI.g0 hri hil) (Vh 4 Z (Vp 5 Z (Vh 6 Z (Te 7 Z yy150 Z (V9 8 (.slice _ _ _) Z (fun W hW => have hI := hY W hW; mg_cell hI.g0 hri hil) (Vh 9 Z (Te 10 Z yy91 Z (V9 11 (.bool _) Z (fun W hW => have hI := hY W hW; mg_boolE hI.g0 hri hil hkl eik) (Ve 12 Z (Vp 13 Z (Vh 14 Z (Te 15 Z yy150 Z (V9 16 (.slice _ _ _) Z (fun W hW => have hI := hY W hW; mg_cell hI.g0 hri hil) (Vh 17 Z (Te 18 Z yy91 Z (V9 19 (.bool _) Z (fun W hW => have hI := hY W hW; mg_boolE hI.g0 hri hil hml eim) (Ve 20 Z (Vp 21 Z (Vh 22 Z (Te 23 Z yy150 Z (V9 24 (.slice _ _ _) Z (fun W hW => have hI := hY W hW; mg_cell hI.g0 hrm hml) (Vh 25 Z (Te 26 Z yy91 Z (V9 27 (.bool _) Z (fun W hW => have hI := hY W hW; mg_boolE hI.g0 hrm hml hkl emk) (Vv 28 Z (Vn 29 Z (Te 30 Z yy91 Z (WT_A (by kernel_rfl) ?_)))))))))))))))))))))))))))))))
     clear hXS hY
     refine Tr 31 Z (WL_stMG 0 Z hI Z Z Z Z Z (by kernel_rfl) (by decide) hri hkl ?_)
     intro w hI
     simp only [List.set_cons_succ, List.set_cons_zero] at hI
     rw [hv] at hI
     exact Wn (WA_end (by kernel_rfl) (Wr (Vl Z (V0 Z (Wn ⟨l.length - (k + 1), by omega, k + 1, rfl, by omega, g10_, hI⟩)))))
 clear hI
 rintro ρ w ⟨hH, hI⟩
 obtain ⟨σ, rfl⟩ := hH.open
 refine Wq (Va Z (Vg Z (Wn (WR ?_))))
 rw [warP_zero] at hI
 exact r1_ 4 Z ⟨b15, rbs, Z, hI⟩
end Go.Proofs.YtnckdmogdehnoaaGreatDoor
