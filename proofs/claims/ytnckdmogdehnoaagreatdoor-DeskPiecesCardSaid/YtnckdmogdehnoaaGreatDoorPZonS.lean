/- Part of the proof that a desk answers in pieces. -/
import Derived.Test.YtnckdmogdehnoaaGreatDoorPA
import Derived.Test.YtnckdmogdehnoaaGreatDoorPSxR
import Derived.Test.YtnckdmogdehnoaaGreatDoorPCau2
import Derived.Test.YtnckdmogdehnoaaGreatDoorPLin5
import Derived.Test.YtnckdmogdehnoaaGreatDoorShelfZ
import Derived.Lib.RowBridge
set_option maxRecDepth 8000
set_option maxHeartbeats 8000000
set_option linter.unusedVariables false
set_option linter.unusedSimpArgs false
namespace Go.Proofs.YtnckdmogdehnoaaGreatDoor
open Tryz
open Go.RowKit
variable {v : Int} {l : List Op8} {i j k : Nat}
def fdN (p : Nat → Bool) (k : Nat) : Option Nat := (List.range k).find? p
theorem fdN_some {p : Nat → Bool} (h : fdN p k = some j) : j < k ∧ p j = true := ⟨List.mem_range.1 (List.mem_of_find?_eq_some h), List.find?_some h⟩
theorem fdN_none {p : Nat → Bool} : fdN p k = none ↔ ∀ j, j < k → p j = false := by
 unfold fdN
 rw [List.find?_eq_none]
 exact ⟨fun h j hj => by simpa using h j (List.mem_range.2 hj), fun h j hj => by simpa using h j (List.mem_range.1 hj)⟩
theorem fdN_succ (p : Nat → Bool) (k : Nat) : fdN p (k + 1) = match fdN p k with | some j => some j | none => if p k then some k else none := by
 unfold fdN
 rw [List.range_succ, List.find?_append]
 cases List.find? p (List.range k) with
 | some j => rfl
 | none => cases h : p k <;> simp [h]
def pushB (l : List Op8) (v : Int) (j : Nat) : Bool := decide ((oAt l j).kind = 9) && decide ((oAt l j).a = v)
def popB (l : List Op8) (v : Int) (j : Nat) : Bool := decide ((oAt l j).kind = 10) && decide ((oAt l j).res = v)
abbrev okI : Int → Prop := fun _ => True
abbrev kI : Int → Value := fun a => .int .i64 a
def mpF (f : Int → Nat → Bool) (k : Nat) (v : Int) : Option Value := (fdN (f v) k).map fun j => .int .i64 (j : Int)
theorem mpF_zero (f : Int → Nat → Bool) : (fun _ : Int => (none : Option Value)) = mpF f 0 := rfl
theorem mpF_same {f : Int → Nat → Bool} (h : ∀ v, f v k = true → fdN (f v) k ≠ none) : mpF f (k + 1) = mpF f k := by
 funext v
 unfold mpF
 rw [fdN_succ]
 cases hk : fdN (f v) k with
 | some j => rfl
 | none =>
  have : f v k = false := by
   cases hf : f v k with
   | false => rfl
   | true => exact absurd hk (h v hf)
  rw [this]; rfl
theorem mpF_new {f : Int → Nat → Bool} {a : Int} (h : ∀ v, f v k = true ↔ v = a) (hn : fdN (f a) k = none) : (fun v => if v = a then some (Value.int .i64 (k : Int)) else mpF f k v) = mpF f (k + 1) := by
 funext v
 unfold mpF
 rw [fdN_succ]
 by_cases hv : v = a
 ·subst hv
  rw [if_pos rfl, hn, (h v).2 rfl]; rfl
 rw [if_neg hv]
 cases hk : fdN (f v) k with
 | some j => rfl
 | none =>
  have : f v k = false := by
   cases hf : f v k with
   | false => rfl
   | true => exact absurd ((h v).1 hf) hv
  rw [this]; rfl
structure OkQ (l : List Op8) : Prop where
 ops : OkOps l
 kind : ∀ i, i < l.length → (oAt l i).kind = 9 ∨ (oAt l i).kind = 10
 ret : ∀ i, i < l.length → 0 ≤ (oAt l i).ret
 key : ∀ i, i < l.length → (oAt l i).key = (oAt l 0).key
 push : ∀ i, i < l.length → (oAt l i).kind = 9 → (oAt l i).a ≠ -1 ∧ (oAt l i).res = 0
 pop : ∀ i, i < l.length → (oAt l i).kind = 10 → (oAt l i).res ≠ -1
 once : ∀ i j, i < j → j < l.length → (oAt l i).kind = 9 → (oAt l j).kind = 9 → (oAt l i).a ≠ (oAt l j).a
def OkQ1 (k0 : Int) (p : Op8) : Prop := (p.kind = 9 ∨ p.kind = 10) ∧ 0 ≤ p.ret ∧ p.key = k0 ∧ (p.kind = 9 → p.a ≠ -1 ∧ p.res = 0) ∧ (p.kind = 10 → p.res ≠ -1)
def OkQk (l : List Op8) (k : Nat) : Prop := (∀ i, i < k → OkQ1 (oAt l 0).key (oAt l i)) ∧ ∀ i j, i < j → j < k → (oAt l i).kind = 9 → (oAt l j).kind = 9 → (oAt l i).a ≠ (oAt l j).a
theorem OkQk.succ (h : OkQk l k) (h1 : OkQ1 (oAt l 0).key (oAt l k)) (h2 : (oAt l k).kind = 9 → fdN (pushB l (oAt l k).a) k = none) : OkQk l (k + 1) := by
 refine ⟨fun i hi => ?_, fun i j hij hj ki kj => ?_⟩
 ·rcases Nat.lt_or_ge i k with h3 | h3
  ·exact h.1 i h3
  obtain rfl : i = k := by omega
  exact h1
 rcases Nat.lt_or_ge j k with h3 | h3
 ·exact h.2 i j hij h3 ki kj
 obtain rfl : j = k := by omega
 have := fdN_none.1 (h2 kj) i hij
 intro e
 unfold pushB at this
 simp [ki, e] at this
theorem okQ_of (h1 : OkOps l) (h2 : OkQk l l.length) : OkQ l := ⟨h1, fun i hi => (h2.1 i hi).1, fun i hi => (h2.1 i hi).2.1, fun i hi => (h2.1 i hi).2.2.1, fun i hi => (h2.1 i hi).2.2.2.1, fun i hi => (h2.1 i hi).2.2.2.2, fun i j hij hj => h2.2 i j hij hj⟩
theorem OkQ.one (h : OkQ l) (hi : i < l.length) : OkQ1 (oAt l 0).key (oAt l i) := ⟨h.kind i hi, h.ret i hi, h.key i hi, h.push i hi, h.pop i hi⟩
def CqPost (l : List Op8) (w0 : World) (en : Ending) (w' : World) : Prop := Pure w0 w' ∧ ((OkQ l ∧ en = .returned .nilIface) ∨ (¬ OkQ l ∧ ∃ x, IsErr x ∧ en = .returned x))
def QErr (l : List Op8) (z : Int) : Prop := (40 < l.length → z = 4) ∧ (OkOps l → ∃ k, k < l.length ∧ OkQk l k ∧ ((¬ OkQ1 (oAt l 0).key (oAt l k) ∧ z = 3) ∨ (OkQ1 (oAt l 0).key (oAt l k) ∧ ¬ OkQk l (k + 1) ∧ z = 9)))
def CqPostN (l : List Op8) (w0 : World) (en : Ending) (w' : World) : Prop := Pure w0 w' ∧ ((OkQ l ∧ en = .returned .nilIface) ∨ (¬ OkQ l ∧ ∃ z, QErr l z ∧ en = .returned (.iface 49 (.int .i64 z))))
theorem CqPost.bad {w0 w' : World} {z : Int} (h : ¬ OkQ l) (hz : QErr l z) (hp : Pure w0 w') : CqPostN l w0 (.returned (.iface 49 (.int .i64 z))) w' := ⟨hp, .inr ⟨h, z, hz, rfl⟩⟩
theorem keyI : KeyOk prog 3 okI kI := keyInt yy3
theorem qcheckN_any (A : Option Addr) (n c : Nat) (l : List Op8) (D : Nat → Prop) (w0 : World) (h : OpsR w0 D (.slice A n c) l) : Cq 104 #[.slice A n c] w0 (CqPostN l w0) := by
 obtain ⟨hn, hc1, hc2⟩ := h.len
 subst hn
 have hI := Inv.start (fun _ => False) w0
 refine Vm func104 Z (Wq (Vw Z (Wn ?_)))
 by_cases hok : OkOps l
 rotate_left
 ·refine Ws (Wq (Va Z (Vd [.slice _ _ _] Z func137 Z ((checkOps4_any A l.length c l D _ (h.pure hI.pu)).mono ?_))))
  rintro e w1 ⟨hp, ⟨h1, _⟩ | ⟨_, x, ⟨z, rfl, -, hz4⟩, rfl⟩⟩
  ·exact absurd h1 hok
  refine rV ?_
  have hI := hI.pure hp
  exact Vt Z (Wn (Wq (Vy Z (U0 Z yy37 Z (Yt Z (Wq (Vy Z (Vt Z (Wn (WR (r1_ 2 Z (CqPost.bad (fun hh => hok hh.ops) ⟨hz4, fun hh => absurd hh hok⟩ hI.pu))))))))))))
 refine Ws (Wq (Va Z (Vd [.slice _ _ _] Z func137 Z ((checkOps_any A l.length c l D _ (h.pure hI.pu)).mono ?_))))
 rintro e w1 ⟨hp, ⟨_, rfl⟩ | ⟨h1, _⟩⟩
 rotate_left
 ·exact absurd hok h1
 refine rV ?_
 have hI := hI.pure hp
 refine Vw Z (Wn (Wq (Td Z (Tv Z yy37 Z (Yf Z (Wk (Ws (Wr (WL_mkMapK okI kI hI Z Z Z Z ?_)))))))))
 rintro b16 w hI
 refine Wv Z (by exact rAsgnM rfl rfl) (Wn ?_)
 have h40 := hok.1
 rw [mpF_zero (pushB l)] at hI
 refine Ws (Wq (Va Z (Vo Z yy94 Z (V0 Z (Wn (Wb ?_))))))
 refine Wl (fun mu ρ w => ∃ k : Nat, mu = l.length - k ∧ k ≤ l.length ∧ OkQk l k ∧ Has ρ [(19, Y (k : Int)), (18, Y (l.length : Int)), (17, .slice A l.length c), (4, .map (some b16)), (0, .slice A l.length c)] ∧ Inv NF w0 w [MapKE okI kI b16 (mpF (pushB l) k)]) l.length
  ⟨0, rfl, by omega, ⟨fun i hi => by omega, fun i j _ hj => by omega⟩, ⟨rfl, rfl, rfl, rfl, rfl, trivial⟩, hI⟩ ?_
 clear hI
 rintro mu ρ w ⟨k, rfl, hk, hall, hH, hI⟩
 obtain ⟨σ, rfl⟩ := hH.open
 by_cases hkl : k < l.length
 rotate_left
 ·obtain rfl : k = l.length := by omega
  exact Wq (Vr Z (Yg Z (WE (Wq (Vw Z (Wn (WR (r1_ 2 Z ⟨hI.pu, .inl ⟨okQ_of hok hall, Z⟩⟩))))))))
 obtain ⟨bA, oA, hAe, hoc⟩ := (h.pure hI.pu).at hkl
 subst hAe
 have ho0 : ∀ W : World, Pure w0 W → ∀ (j : Nat) (u : Value), (opV (oAt l 0))[j]? = some u → W.cell? ⟨bA, oA + j, none⟩ = some u := fun W hp j u hj => by
  obtain ⟨b', o', e, hc⟩ := (h.pure hp).at (show 0 < l.length by omega)
  injection e with e
  injection e with e1 e2
  subst e1 e2
  simpa using hc j u hj
 have hone := fun (hh : OkQ l) => hh.one hkl
 have hsucc := hall.succ
 have hsame := mpF_same (f := pushB l) (k := k)
 have hnew := mpF_new (f := pushB l) (k := k) (a := (oAt l k).a)
 have htw : ∀ j, fdN (pushB l (oAt l k).a) k = some j → (oAt l k).kind = 9 → ¬ OkQ l := fun j hj hk9 hh => by
  obtain ⟨q1, q2⟩ := fdN_some hj
  unfold pushB at q2
  simp only [Bool.and_eq_true, decide_eq_true_eq] at q2
  exact hh.once j k q1 hkl q2.1 hk9 q2.2
 have htw2 : ∀ j, fdN (pushB l (oAt l k).a) k = some j → (oAt l k).kind = 9 → ¬ OkQk l (k + 1) := fun j hj hk9 hh => by
  obtain ⟨q1, q2⟩ := fdN_some hj
  unfold pushB at q2
  simp only [Bool.and_eq_true, decide_eq_true_eq] at q2
  exact hh.2 j k q1 (Nat.lt_succ_self k) q2.1 hk9 q2.2
 have hpb : ∀ v, pushB l v k = (decide ((oAt l k).kind = 9) && decide ((oAt l k).a = v)) := fun v => rfl
 generalize hpk : oAt l k = pk at hoc hone hsucc hnew htw htw2 hpb
 obtain ⟨p0, p1, p2, p3, p4, p5, p6, p7⟩ := pk
 generalize hk0 : (oAt l 0) = z0 at ho0 hone hsucc
 obtain ⟨z0, z1, z2, z3, z4, z5, z6, z7⟩ := z0
 simp only at hnew htw htw2 hpb hsucc hone
 have hz1 := fun (W : World) (hp : Pure w0 W) => ho0 W hp 1 _ rfl
 refine Wq (Vu Z (Yu Z (Wk (Ws (Wb (Wq (V0 Z (Th 8 Z yy94 Z (Ts 8 Z (by rfl) hoc (Vz (.agg zI8) (zI8) hI Z ?_))))))))))
 rintro b6 w - - hI
 refine Vb Z (T2 8 (#[_, _, _, _, _, _, _, _]) (.agg _) hI Z ?_)
 intro w hI
 refine Wn ?_
 simp only [opV] at hI
 have bad : ∀ (w : World), ¬ OkQ1 z1 ⟨p0, p1, p2, p3, p4, p5, p6, p7⟩ → Pure w0 w → CqPostN l w0 (.returned (.iface 49 (.int .i64 3))) w := fun w hb hp => CqPost.bad (fun hh => hb (hone hh)) ⟨fun hh => absurd hh (by omega), fun _ => ⟨k, hkl, hall, .inl ⟨by rw [hpk, hk0]; exact hb, rfl⟩⟩⟩ hp
 by_cases k9 : p2 = 9
 ·have k10 : ¬ p2 = 10 := by omega
  refine Ws (Yi hI fun Sx hY hXS hI => Vf 0 2 Z (Ye 1 hY Z Z (U8 2 Z (Vf 3 2 Z (Ye 4 hY Z Z (U5 5 Z (Tg 6 Z (Tg 7 Z (Yz ?_)))))))))
  by_cases hr : 0 ≤ p7
  rotate_left
  ·exact Ws (Ws (Yi hI fun Sx hY hXS hI => Ve 0 Z (Tm 1 Z (Ve 2 Z (V4 3 Z Z (V4 4 Z Z (Vn 5 Z (Ve 6 Z (Vf 7 7 Z (Ye 8 hY Z Z (Un 9 Z (Vn 10 Z (Ve 11 Z (V4 12 Z Z (V4 13 Z Z (V4 14 Z Z (V4 15 Z Z (V4 16 Z Z (V4 17 Z Z (V4 18 Z Z (Vv 19 Z (Ve 20 Z (V4 21 Z Z (V4 22 Z Z (V4 23 Z Z (V4 24 Z Z (V4 25 Z Z (V4 26 Z Z (V4 27 Z Z (V4 28 Z Z (V4 29 Z Z (V4 30 Z Z (V4 31 Z Z (Vv 32 Z (Ve 33 Z (V4 34 Z Z (V4 35 Z Z (V4 36 Z Z (V4 37 Z Z (V4 38 Z Z (V4 39 Z Z (Vv 40 Z (Yz (Wc true Z (Wq (T0 Z yy49 Z (Vt Z (Wn (WR (r1_ 2 Z (bad _ (fun hb => hr hb.2.1) hI.pu)))))))))))))))))))))))))))))))))))))))))))))))))))
  by_cases hkey : p1 = z1
  rotate_left
  ·exact Ws (Ws (Yi hI fun Sx hY hXS hI => Ve 0 Z (Tm 1 Z (Ve 2 Z (V4 3 Z Z (V4 4 Z Z (Vn 5 Z (Ve 6 Z (Vf 7 7 Z (Ye 8 hY Z Z (Ud 9 Z (Vn 10 Z (Ve 11 Z (Vf 12 1 Z (Ye 13 hY Z Z (Vp 14 Z (Uh 15 8 0 Z yy94 Z (T9 16 1 Z (V9 17 (Y _) Z (fun W hW => have hI := hY W hW; hz1 _ hI.pu) (U4 18 Z (Vn 19 Z (Ve 20 Z (V4 21 Z Z (V4 22 Z Z (V4 23 Z Z (V4 24 Z Z (V4 25 Z Z (V4 26 Z Z (V4 27 Z Z (V4 28 Z Z (V4 29 Z Z (V4 30 Z Z (V4 31 Z Z (Vv 32 Z (Ve 33 Z (V4 34 Z Z (V4 35 Z Z (V4 36 Z Z (V4 37 Z Z (V4 38 Z Z (V4 39 Z Z (Vv 40 Z (Yz (Wc true Z (Wq (T0 Z yy49 Z (Vt Z (Wn (WR (r1_ 2 Z (bad _ (fun hb => hkey hb.2.2.1) hI.pu)))))))))))))))))))))))))))))))))))))))))))))))))))
  by_cases ha : p3 = -1
  ·exact Ws (Ws (Yi hI fun Sx hY hXS hI => Ve 0 Z (Tm 1 Z (Ve 2 Z (V4 3 Z Z (V4 4 Z Z (Vn 5 Z (Ve 6 Z (Vf 7 7 Z (Ye 8 hY Z Z (Ud 9 Z (Vn 10 Z (Ve 11 Z (Vf 12 1 Z (Ye 13 hY Z Z (Vp 14 Z (Uh 15 8 0 Z yy94 Z (T9 16 1 Z (V9 17 (Y _) Z (fun W hW => have hI := hY W hW; hz1 _ hI.pu) (Tu 18 Z (Vn 19 Z (Ve 20 Z (Ve 21 Z (Ve 22 Z (Vf 23 3 Z (Ye 24 hY Z Z (U8 25 Z (Ve 26 Z (V4 27 Z Z (V4 28 Z Z (V4 29 Z Z (Vv 30 Z (Vv 31 Z (Vn 32 Z (Ve 33 Z (V4 34 Z Z (V4 35 Z Z (V4 36 Z Z (V4 37 Z Z (V4 38 Z Z (V4 39 Z Z (Vv 40 Z (Yz (Wc true Z (Wq (T0 Z yy49 Z (Vt Z (Wn (WR (r1_ 2 Z (bad _ (fun hb => (hb.2.2.2.1 k9).1 ha) hI.pu)))))))))))))))))))))))))))))))))))))))))))))))))))
  by_cases hs : p5 = 0
  rotate_left
  ·exact Ws (Ws (Yi hI fun Sx hY hXS hI => Ve 0 Z (Tm 1 Z (Ve 2 Z (V4 3 Z Z (V4 4 Z Z (Vn 5 Z (Ve 6 Z (Vf 7 7 Z (Ye 8 hY Z Z (Ud 9 Z (Vn 10 Z (Ve 11 Z (Vf 12 1 Z (Ye 13 hY Z Z (Vp 14 Z (Uh 15 8 0 Z yy94 Z (T9 16 1 Z (V9 17 (Y _) Z (fun W hW => have hI := hY W hW; hz1 _ hI.pu) (Tu 18 Z (Vn 19 Z (Ve 20 Z (Ve 21 Z (Ve 22 Z (Vf 23 3 Z (Ye 24 hY Z Z (U5 25 Z (Ve 26 Z (Vf 27 5 Z (Ye 28 hY Z Z (U4 29 Z (Vn 30 Z (Vv 31 Z (Vn 32 Z (Ve 33 Z (V4 34 Z Z (V4 35 Z Z (V4 36 Z Z (V4 37 Z Z (V4 38 Z Z (V4 39 Z Z (Vv 40 Z (Yz (Wc true Z (Wq (T0 Z yy49 Z (Vt Z (Wn (WR (r1_ 2 Z (bad _ (fun hb => hs (hb.2.2.2.1 k9).2) hI.pu)))))))))))))))))))))))))))))))))))))))))))))))))))
  have hg : OkQ1 z1 ⟨p0, p1, p2, p3, p4, p5, p6, p7⟩ := ⟨.inl k9, hr, hkey, fun _ => ⟨ha, hs⟩, fun h10 => absurd h10 k10⟩
  refine Ws (Ws (Yi hI fun Sx hY hXS hI => Ve 0 Z (Tm 1 Z (Ve 2 Z (V4 3 Z Z (V4 4 Z Z (Vn 5 Z (Ve 6 Z (Vf 7 7 Z (Ye 8 hY Z Z (Ud 9 Z (Vn 10 Z (Ve 11 Z (Vf 12 1 Z (Ye 13 hY Z Z (Vp 14 Z (Uh 15 8 0 Z yy94 Z (T9 16 1 Z (V9 17 (Y _) Z (fun W hW => have hI := hY W hW; hz1 _ hI.pu) (Tu 18 Z (Vn 19 Z (Ve 20 Z (Ve 21 Z (Ve 22 Z (Vf 23 3 Z (Ye 24 hY Z Z (U5 25 Z (Ve 26 Z (Vf 27 5 Z (Ye 28 hY Z Z (Tu 29 Z (Vn 30 Z (Vv 31 Z (Vn 32 Z (Ve 33 Z (Ve 34 Z (Ve 35 Z (V4 36 Z Z (V4 37 Z Z (V4 38 Z Z (Vn 39 Z (Vn 40 Z (Yz (Wc false Z (Wk ?_)))))))))))))))))))))))))))))))))))))))))))))
  cases hwm : fdN (pushB l p3) k with
  | some j =>
   have hv : mpF (pushB l) k p3 = some (.int .i64 (j : Int)) := by unfold mpF; rw [hwm]; rfl
   exact Ws (Wq (Tp Z (V8 3 Z (Yc hI Z Z (Wv Z (rLookKY (a := p3) keyI hv Z yy171 Z Z trivial hI.g1) (T4 Z (Vj Z (Vj Z (Vb Z (Vc Z (Wn (Wq (V7 Z (V7 Z (V7 Z (Vk Z (Yt Z (Wq (T0 Z yy49 Z (Vt Z (Wn (WR (r1_ 2 Z (CqPost.bad (htw j hwm k9) ⟨fun hh => absurd hh (by omega), fun _ => ⟨k, hkl, hall, .inr ⟨by rw [hpk, hk0]; exact hg, htw2 j hwm k9, Z⟩⟩⟩ hI.pu))))))))))))))))))))))))
  | none =>
   have hv : mpF (pushB l) k p3 = none := by unfold mpF; rw [hwm]; rfl
   refine Ws (Wq (Tp Z (V8 3 Z (Yc hI Z Z (Wv Z (rLookKN (a := p3) (zv := Y 0) keyI hv Z yy171 (by kernel_rfl) Z Z trivial hI.g1) (T4 Z (Vj Z (Vj Z (Vb Z (Vc Z (Wn (Wq (V7 Z (V7 Z (V7 Z (Vk Z (Yf Z (Wk (Wq (V7 Z (Yt Z (Wr (Tp Z (V8 3 Z (Yc hI Z Z (V0 Z (WL_mapSetK (a := p3) (v := Y (k : Int)) keyI 1 Z hI Z Z Z yy171 Z Z Z trivial ?_)))))))))))))))))))))))))))
   intro w hI
   simp only [List.set_cons_succ, List.set_cons_zero] at hI
   refine Wn ?_
   rw [hnew (fun v => by rw [hpb]; simp [k9, eq_comm]) hwm] at hI
   have hI := hI.d0
   exact Wr (Vl Z (V0 Z (Wn ⟨l.length - (k + 1), by omega, k + 1, rfl, by omega, hsucc hg (fun _ => hwm), g5_, hI⟩)))
 by_cases k10 : p2 = 10
 rotate_left
 ·exact Ws (Yi hI fun Sx hY hXS hI => Vf 0 2 Z (Ye 1 hY Z Z (U5 2 Z (Vf 3 2 Z (Ye 4 hY Z Z (U5 5 Z (Tg 6 Z (Tg 7 Z (Yz (Ws (Ws (Yi hI fun Sx hY hXS hI => Ve 0 Z (Uc 1 Z (Ve 2 Z (Ve 3 Z (Uc 4 Z (Vv 5 Z (Ve 6 Z (V4 7 Z Z (V4 8 Z Z (V4 9 Z Z (Vv 10 Z (Ve 11 Z (V4 12 Z Z (V4 13 Z Z (V4 14 Z Z (V4 15 Z Z (V4 16 Z Z (V4 17 Z Z (V4 18 Z Z (Vv 19 Z (Ve 20 Z (V4 21 Z Z (V4 22 Z Z (V4 23 Z Z (V4 24 Z Z (V4 25 Z Z (V4 26 Z Z (V4 27 Z Z (V4 28 Z Z (V4 29 Z Z (V4 30 Z Z (V4 31 Z Z (Vv 32 Z (Ve 33 Z (V4 34 Z Z (V4 35 Z Z (V4 36 Z Z (V4 37 Z Z (V4 38 Z Z (V4 39 Z Z (Vv 40 Z (Yz (Wc true Z (Wq (T0 Z yy49 Z (Vt Z (Wn (WR (r1_ 2 Z (bad _ (fun hb => by rcases hb.1 with h1 | h1; exact k9 h1; exact k10 h1) hI.pu)))))))))))))))))))))))))))))))))))))))))))))))))))))))))))))
 refine Ws (Yi hI fun Sx hY hXS hI => Vf 0 2 Z (Ye 1 hY Z Z (U5 2 Z (Vf 3 2 Z (Ye 4 hY Z Z (U8 5 Z (Tg 6 Z (Tg 7 Z (Yz ?_)))))))))
 by_cases hr : 0 ≤ p7
 rotate_left
 ·exact Ws (Ws (Yi hI fun Sx hY hXS hI => Ve 0 Z (Uc 1 Z (Ve 2 Z (Ve 3 Z (Tm 4 Z (Vv 5 Z (Ve 6 Z (Vf 7 7 Z (Ye 8 hY Z Z (Un 9 Z (Vn 10 Z (Ve 11 Z (V4 12 Z Z (V4 13 Z Z (V4 14 Z Z (V4 15 Z Z (V4 16 Z Z (V4 17 Z Z (V4 18 Z Z (Vv 19 Z (Ve 20 Z (V4 21 Z Z (V4 22 Z Z (V4 23 Z Z (V4 24 Z Z (V4 25 Z Z (V4 26 Z Z (V4 27 Z Z (V4 28 Z Z (V4 29 Z Z (V4 30 Z Z (V4 31 Z Z (Vv 32 Z (Ve 33 Z (V4 34 Z Z (V4 35 Z Z (V4 36 Z Z (V4 37 Z Z (V4 38 Z Z (V4 39 Z Z (Vv 40 Z (Yz (Wc true Z (Wq (T0 Z yy49 Z (Vt Z (Wn (WR (r1_ 2 Z (bad _ (fun hb => hr hb.2.1) hI.pu)))))))))))))))))))))))))))))))))))))))))))))))))))
 by_cases hkey : p1 = z1
 rotate_left
 ·exact Ws (Ws (Yi hI fun Sx hY hXS hI => Ve 0 Z (Uc 1 Z (Ve 2 Z (Ve 3 Z (Tm 4 Z (Vv 5 Z (Ve 6 Z (Vf 7 7 Z (Ye 8 hY Z Z (Ud 9 Z (Vn 10 Z (Ve 11 Z (Vf 12 1 Z (Ye 13 hY Z Z (Vp 14 Z (Uh 15 8 0 Z yy94 Z (T9 16 1 Z (V9 17 (Y _) Z (fun W hW => have hI := hY W hW; hz1 _ hI.pu) (U4 18 Z (Vn 19 Z (Ve 20 Z (V4 21 Z Z (V4 22 Z Z (V4 23 Z Z (V4 24 Z Z (V4 25 Z Z (V4 26 Z Z (V4 27 Z Z (V4 28 Z Z (V4 29 Z Z (V4 30 Z Z (V4 31 Z Z (Vv 32 Z (Ve 33 Z (V4 34 Z Z (V4 35 Z Z (V4 36 Z Z (V4 37 Z Z (V4 38 Z Z (V4 39 Z Z (Vv 40 Z (Yz (Wc true Z (Wq (T0 Z yy49 Z (Vt Z (Wn (WR (r1_ 2 Z (bad _ (fun hb => hkey hb.2.2.1) hI.pu)))))))))))))))))))))))))))))))))))))))))))))))))))
 by_cases hs : p5 = -1
 ·exact Ws (Ws (Yi hI fun Sx hY hXS hI => Ve 0 Z (Uc 1 Z (Ve 2 Z (Ve 3 Z (Tm 4 Z (Vv 5 Z (Ve 6 Z (Vf 7 7 Z (Ye 8 hY Z Z (Ud 9 Z (Vn 10 Z (Ve 11 Z (Vf 12 1 Z (Ye 13 hY Z Z (Vp 14 Z (Uh 15 8 0 Z yy94 Z (T9 16 1 Z (V9 17 (Y _) Z (fun W hW => have hI := hY W hW; hz1 _ hI.pu) (Tu 18 Z (Vn 19 Z (Ve 20 Z (Ve 21 Z (Ve 22 Z (V4 23 Z Z (V4 24 Z Z (V4 25 Z Z (V4 26 Z Z (V4 27 Z Z (V4 28 Z Z (V4 29 Z Z (V4 30 Z Z (Vn 31 Z (Vn 32 Z (Ve 33 Z (Ve 34 Z (Ve 35 Z (Vf 36 5 Z (Ye 37 hY Z Z (U8 38 Z (Vv 39 Z (Vn 40 Z (Yz (Wc true Z (Wq (T0 Z yy49 Z (Vt Z (Wn (WR (r1_ 2 Z (bad _ (fun hb => hb.2.2.2.2 k10 hs) hI.pu)))))))))))))))))))))))))))))))))))))))))))))))))))
 have hg : OkQ1 z1 ⟨p0, p1, p2, p3, p4, p5, p6, p7⟩ := ⟨.inr k10, hr, hkey, fun h9 => absurd h9 k9, fun _ => hs⟩
 refine Ws (Ws (Yi hI fun Sx hY hXS hI => Ve 0 Z (Uc 1 Z (Ve 2 Z (Ve 3 Z (Tm 4 Z (Vv 5 Z (Ve 6 Z (Vf 7 7 Z (Ye 8 hY Z Z (Ud 9 Z (Vn 10 Z (Ve 11 Z (Vf 12 1 Z (Ye 13 hY Z Z (Vp 14 Z (Uh 15 8 0 Z yy94 Z (T9 16 1 Z (V9 17 (Y _) Z (fun W hW => have hI := hY W hW; hz1 _ hI.pu) (Tu 18 Z (Vn 19 Z (Ve 20 Z (Ve 21 Z (Ve 22 Z (V4 23 Z Z (V4 24 Z Z (V4 25 Z Z (V4 26 Z Z (V4 27 Z Z (V4 28 Z Z (V4 29 Z Z (V4 30 Z Z (Vn 31 Z (Vn 32 Z (Ve 33 Z (Ve 34 Z (Ve 35 Z (Vf 36 5 Z (Ye 37 hY Z Z (U5 38 Z (Vv 39 Z (Vn 40 Z (Yz (Wc false Z (Wk (Wx (fun ρ w => Has ρ [(19, Y (k : Int)), (18, Y (l.length : Int)), (17, .slice (some ⟨bA, oA, none⟩) l.length c), (4, .map (some b16)), (0, .slice (some ⟨bA, oA, none⟩) l.length c), (7, .bool false)] ∧ Inv NF w0 w [B b6 106 #[Y p0, Y p1, Y p2, Y p3, Y p4, Y p5, Y p6, Y p7], MapKE okI kI b16 (mpF (pushB l) k)]) ?_ ?_))))))))))))))))))))))))))))))))))))))))))))))
 ·cases hwm : fdN (pushB l p3) k with
  | some j =>
   have hv : mpF (pushB l) k p3 = some (.int .i64 (j : Int)) := by unfold mpF; rw [hwm]; rfl
   exact Wq (Tp Z (V8 3 Z (Yc hI Z Z (Wv Z (rLookKY (a := p3) keyI hv Z yy171 Z Z trivial hI.g1) (T4 Z (Vj Z (Vj Z (Vb Z (Vc Z (Wn (Wq (V7 Z (V7 Z (V5 Z (Vi Z (Yf Z (Wk ⟨g6_, hI⟩)))))))))))))))))
  | none =>
   have hv : mpF (pushB l) k p3 = none := by unfold mpF; rw [hwm]; rfl
   exact Wq (Tp Z (V8 3 Z (Yc hI Z Z (Wv Z (rLookKN (a := p3) (zv := Y 0) keyI hv Z yy171 (by kernel_rfl) Z Z trivial hI.g1) (T4 Z (Vj Z (Vj Z (Vb Z (Vc Z (Wn (Wq (V7 Z (V7 Z (V5 Z (Vi Z (Yf Z (Wk ⟨g6_, hI⟩)))))))))))))))))
 clear hI
 rintro ρ w ⟨hH, hI⟩
 obtain ⟨σ, rfl⟩ := hH.open
 refine Wq (V7 Z (Yf Z (Wk ?_)))
 rw [← hsame (fun v hv => by rw [hpb] at hv; simp [k9] at hv)] at hI
 have hI := hI.d0
 exact Wr (Vl Z (V0 Z (Wn ⟨l.length - (k + 1), by omega, k + 1, rfl, by omega, hsucc hg (fun h2 => absurd h2 k9), g5_, hI⟩)))
structure PairC (f : Nat) (cap : List Value) (n : Nat) (p : Nat → Nat → Bool) (w0 : World) : Prop where
 fn : ∃ fn, prog.funcs[f]? = some fn ∧ (fn.name == "runtime.NumGoroutine") = false ∧ fn.body.isNone = false
 call : ∀ i k w, i < n → k < n → Pure w0 w → Cq f (Value.int .i64 (i : Int) :: Value.int .i64 (k : Int) :: cap).toArray w fun en w' => en = .returned (.bool (p i k)) ∧ Pure w w'
def PairN (n : Nat) (p : Nat → Nat → Bool) (a b : Int) (fnd : Bool) : Prop :=
 (fnd = true ∧ ∃ i k, i < n ∧ k < n ∧ a = ((i : Nat) : Int) ∧ b = ((k : Nat) : Int) ∧ p i k = true ∧ (∀ j, j < i → ∀ k, k < n → p j k = false) ∧ ∀ j, j < k → p i j = false) ∨
 (fnd = false ∧ ∀ i k, i < n → k < n → p i k = false)
theorem PairN.any {n : Nat} {p : Nat → Nat → Bool} {a b : Int} {fnd : Bool} (h : PairN n p a b fnd) : fnd = true ↔ ∃ i k, i < n ∧ k < n ∧ p i k = true := by
 rcases h with ⟨rfl, i, k, h1, h2, _, _, h3, _⟩ | ⟨rfl, h⟩
 ·exact ⟨fun _ => ⟨i, k, h1, h2, h3⟩, fun _ => Z⟩
 refine ⟨fun h0 => (by cases h0), ?_⟩
 rintro ⟨i, k, h1, h2, h3⟩
 rw [h i k h1 h2] at h3; cases h3
theorem pairsN_any (f : Nat) (cap : List Value) (n : Nat) (hn : n ≤ 1000) (p : Nat → Nat → Bool) (w0 : World) (h : PairC f cap n p w0) :
  Cq 110 #[.int .i64 (n : Int), .func (.func f) #[] cap.toArray] w0 fun en w' => ∃ (a b : Int) (fnd : Bool), en = .returned (.tuple #[.int .i64 a, .int .i64 b, .bool fnd]) ∧ PairN n p a b fnd ∧ Pure w0 w' := by
 obtain ⟨⟨fn, f1, f2, f3⟩, hcall⟩ := h
 have hI := Inv.start (fun _ => False) w0
 refine Vm func110 Z (Wq (Vb Z (Vb Z (Vc Z (Wn (Ws (Wq (V0 Z (V0 Z (Wn (Wb ?_)))))))))))
 refine Wl (fun mu ρ w => ∃ i : Nat, mu = n - i ∧ i ≤ n ∧ (∀ j, j < i → ∀ k, k < n → p j k = false) ∧ Has ρ [(10, Y (i : Int)), (9, Y (n : Int)), (0, Y (n : Int)), (1, .func (.func f) #[] cap.toArray)] ∧ Inv NF w0 w []) n
  ⟨0, rfl, by omega, fun j hj => by omega, ⟨rfl, rfl, rfl, rfl, trivial⟩, hI⟩ ?_
 clear hI
 rintro mu ρ w ⟨i, rfl, hi, hno, hH, hI⟩
 obtain ⟨σ, rfl⟩ := hH.open
 by_cases hil : i < n
 rotate_left
 ·obtain rfl : i = n := by omega
  exact Wq (Vr Z (Yg Z (WE (Wq (Vb Z (Vb Z (Vc Z (Wn (WR (ret3 4 5 6 (.inr Z) Z ⟨_, _, false, Z, .inr ⟨Z, fun j k hj hk => hno j hj k hk⟩, hI.pu⟩))))))))))
 refine Wq (Vu Z (Yu Z (Wk (Ws (Wb (Wq (V0 Z (Vb Z (Wn (Wq (V0 Z (V0 Z (Wn (Wb ?_))))))))))))))
 refine Wl (fun mu ρ w => ∃ k : Nat, mu = n - k ∧ k ≤ n ∧ (∀ j, j < k → p i j = false) ∧ Has ρ [(14, Y (k : Int)), (13, Y (n : Int)), (7, Y (i : Int)), (10, Y (i : Int)), (9, Y (n : Int)), (0, Y (n : Int)), (1, .func (.func f) #[] cap.toArray)] ∧ Inv NF w0 w []) n
  ⟨0, rfl, by omega, fun j hj => by omega, ⟨rfl, rfl, rfl, rfl, rfl, rfl, rfl, trivial⟩, hI⟩ ?_
 clear hI
 rintro mu ρ w ⟨k, rfl, hk, hno2, hH, hI⟩
 obtain ⟨σ, rfl⟩ := hH.open
 by_cases hkl : k < n
 rotate_left
 ·obtain rfl : k = n := by omega
  refine Wq (Vr Z (Yg Z (WE (Wr (Vl Z (V0 Z (Wn ⟨k - (i + 1), by omega, i + 1, rfl, by omega, fun j hj => ?_, g4_, hI⟩)))))))
  rcases Nat.lt_or_ge j i with h1 | h1
  ·exact hno j h1
  obtain rfl : j = i := by omega
  exact hno2
 refine Wq (Vu Z (Yu Z (Wk (Ws (Wb (Wq (V0 Z (Vb Z (Wn ?_)))))))))
 cases hp : p i k with
 | true =>
  refine Wq (Ua Z (V0 Z (V0 Z (WL_call Z Z Z (rCallF (f := f) (first := []) (cap := cap) (vs := Y _ :: Y _ :: cap) Z Z f1 f2 f3 Z) ((hcall i k _ hil hkl hI.pu).mono ?_)))))
  rw [hp]
  rintro e w1 ⟨rfl, hp⟩
  refine rV ?_
  have hI := hI.pure hp
  exact Yt Z (Wq (V0 Z (V0 Z (Vb Z (Vb Z (Vc Z (Wn (WR (ret3 4 5 6 (.inr Z) Z ⟨_, _, true, Z, .inl ⟨Z, i, k, hil, hkl, Z, Z, by assumption, hno, hno2⟩, hI.pu⟩)))))))))
 | false =>
  refine Wq (Ua Z (V0 Z (V0 Z (WL_call Z Z Z (rCallF (f := f) (first := []) (cap := cap) (vs := Y _ :: Y _ :: cap) Z Z f1 f2 f3 Z) ((hcall i k _ hil hkl hI.pu).mono ?_)))))
  rw [hp]
  rintro e w1 ⟨rfl, hp⟩
  refine rV ?_
  have hI := hI.pure hp
  refine Yf Z (Wk (Wr (Vl Z (V0 Z (Wn ⟨n - (k + 1), by omega, k + 1, rfl, by omega, fun j hj => ?_, g7_, hI⟩)))))
  rcases Nat.lt_or_ge j k with h1 | h1
  ·exact hno2 j h1
  obtain rfl : j = k := by omega
  assumption
def pshB (l : List Op8) (i : Nat) : Bool := decide ((oAt l i).kind = 9)
def twiceB (l : List Op8) (i k : Nat) : Bool := decide (i < k) && !pshB l i && !pshB l k && decide ((oAt l i).res = (oAt l k).res)
def earlyB (l : List Op8) (i k : Nat) : Bool := pshB l i && !pshB l k && decide ((oAt l i).a = (oAt l k).res) && befB (oAt l k) (oAt l i)
def crossB (l : List Op8) (i k : Nat) : Bool := pshB l i && pshB l k && befB (oAt l i) (oAt l k) && (match fdN (popB l (oAt l k).a) l.length with
 | none => false
 | some s => match fdN (popB l (oAt l i).a) l.length with
  | none => true
  | some f => befB (oAt l s) (oAt l f))
structure QB (l : List Op8) (A : Option Addr) (c b1 b18 : Nat) (w : World) : Prop where
 ops : OpsR w (fun _ => True) (.slice A l.length c) l
 box : w.cell? ⟨b1, 0, none⟩ = some (.slice A l.length c)
 psh : w.cell? ⟨b18, 0, none⟩ = some (.func (.func 105) #[] #[.pointer (some ⟨b1, 0, none⟩)])
section
variable {l : List Op8} {A : Option Addr} {c b1 b18 : Nat} {w w' : World}
theorem cellP {p : Addr} {u : Value} (hp : Pure w w') (h : w.cell? p = some u) : w'.cell? p = some u := (Inv.start (fun _ => False) w |>.pure hp).oldp h
theorem QB.pure (h : QB l A c b1 b18 w) (hp : Pure w w') : QB l A c b1 b18 w' := ⟨h.ops.pure hp, cellP hp h.box, cellP hp h.psh⟩
theorem push_any (w0 : World) (h : OpsR w0 (fun _ => True) (.slice A l.length c) l) (hb : w0.cell? ⟨b1, 0, none⟩ = some (.slice A l.length c)) (i : Nat) (hi : i < l.length) :
  Cq 105 #[.int .i64 (i : Int), .pointer (some ⟨b1, 0, none⟩)] w0 fun en w' => en = .returned (.bool (pshB l i)) ∧ Pure w0 w' := by
 have hI := Inv.start (fun _ => False) w0
 obtain ⟨_, hc1, hc2⟩ := h.len
 obtain ⟨bA, oA, rfl, hoi⟩ := h.at hi
 have e : pshB l i = decide ((oAt l i).kind = 9) := rfl
 generalize oAt l i = p at hoi e
 obtain ⟨p0, p1, p2, p3, p4, p5, p6, p7⟩ := p
 rw [e]
 exact Vm func105 Z (Wq (Vc Z (Wn (Wq (V6 (.slice _ _ _) Z (hI.oldp hb) (V0 Z (Th 8 Z yy94 Z (Wv Z (by exact rFld (off := 2) rfl (by kernel_rfl) rfl) (V6 (Y _) Z (hI.oldp (hoi 2 _ Z)) (Wv Z (by exact rEql rfl rfl rfl) (Vc Z (Wn (WR (r1_ 3 Z ⟨Z, hI.pu⟩))))))))))))))
theorem qthin_any (b13 : Nat) (thin : Int) (w0 : World) (hb : w0.cell? ⟨b13, 0, none⟩ = some (.int .i64 thin)) (i k : Nat) :
  Cq 106 #[.int .i64 (i : Int), .int .i64 (k : Int), .pointer (some ⟨b13, 0, none⟩)] w0 fun en w' => en = .returned (.bool (decide ((i : Int) = thin) && decide ((k : Int) = thin))) ∧ Pure w0 w' := by
 have hI := Inv.start (fun _ => False) w0
 by_cases h1 : (i : Int) = thin
 ·rw [decide_eq_true h1, Bool.true_and]
  exact Vm func106 Z (Wq (Vc Z (Wn (Wq (V0 Z (V6 (Y _) Z (hI.oldp hb) (Vx Z (V7 Z (V0 Z (V6 (Y _) Z (hI.oldp hb) (Wv Z (by exact rEql rfl rfl rfl) (Vk Z (Vc Z (Wn (WR (r1_ 5 Z ⟨Z, hI.pu⟩))))))))))))))))
 rw [decide_eq_false h1, Bool.false_and]
 exact Vm func106 Z (Wq (Vc Z (Wn (Wq (V0 Z (V6 (Y _) Z (hI.oldp hb) (Vs Z (V7 Z (V5 Z (V5 Z (V5 Z (Vi Z (Vc Z (Wn (WR (r1_ 5 Z ⟨Z, hI.pu⟩))))))))))))))))
theorem twice_any (w0 : World) (h : QB l A c b1 b18 w0) (i k : Nat) (hi : i < l.length) (hk : k < l.length) :
  Cq 107 #[.int .i64 (i : Int), .int .i64 (k : Int), .pointer (some ⟨b18, 0, none⟩), .pointer (some ⟨b1, 0, none⟩)] w0 fun en w' => en = .returned (.bool (twiceB l i k)) ∧ Pure w0 w' := by
 have hI := Inv.start (fun _ => False) w0
 obtain ⟨_, hc1, hc2⟩ := h.ops.len
 have hbx := h.box
 have hps := h.psh
 obtain ⟨bA, oA, rfl, hoi⟩ := h.ops.at hi
 obtain ⟨bA', oA', hae, hok⟩ := h.ops.at hk
 injection hae with hae
 injection hae with e1 e2
 subst e1 e2
 have hoi5 := hoi 5 _ rfl
 have hok5 := hok 5 _ rfl
 unfold twiceB
 by_cases hik : i < k
 rotate_left
 ·rw [decide_eq_false hik, Bool.false_and, Bool.false_and, Bool.false_and]
  exact Vm func107 Z (Wq (Vc Z (Wn (Ws (Yi hI fun Sx hY hXS hI => Vh 0 Z (Vh 1 Z (Ud 2 Z (Ve 3 Z (V4 4 Z Z (V4 5 Z Z (V4 6 Z Z (V4 7 Z Z (Vn 8 Z (Ve 9 Z (V4 10 Z Z (V4 11 Z Z (V4 12 Z Z (V4 13 Z Z (Vn 14 Z (Ve 15 Z (V4 16 Z Z (V4 17 Z Z (V4 18 Z Z (V4 19 Z Z (V4 20 Z Z (V4 21 Z Z (V4 22 Z Z (V4 23 Z Z (V4 24 Z Z (V4 25 Z Z (V4 26 Z Z (Vn 27 Z (Tg 28 Z (Yz (WR (r1_ 6 Z ⟨Z, hI.pu⟩))))))))))))))))))))))))))))))))))))
 rw [decide_eq_true hik, Bool.true_and]
 cases hbi : pshB l i with
 | true =>
  rw [Bool.not_true, Bool.false_and, Bool.false_and]
  refine Vm func107 Z (Wq (Vc Z (Wn (Ws (Yi hI fun Sx hY hXS hI => Vh 0 Z (Vh 1 Z (Un 2 Z (Ve 3 Z (V9 4 (.func _ _ _) Z (Yo hY hps) (Vh 5 Z (Vq 6 Z (Tx 105 [Y _, .pointer _] [] [_] Z func105 Z ((push_any _ (h.ops.pure hI.pu) (cellP hI.pu h.box) i (by assumption)).mono ?_)))))))))))))
  rw [hbi]
  rintro e w1 ⟨rfl, hp⟩
  refine rV ?_
  have hI := hI.pure hp
  exact Wn ⟨hXS _ hI, (Tm 7 Z (Vv 8 Z (Ve 9 Z (V4 10 Z Z (V4 11 Z Z (V4 12 Z Z (V4 13 Z Z (Vn 14 Z (Ve 15 Z (V4 16 Z Z (V4 17 Z Z (V4 18 Z Z (V4 19 Z Z (V4 20 Z Z (V4 21 Z Z (V4 22 Z Z (V4 23 Z Z (V4 24 Z Z (V4 25 Z Z (V4 26 Z Z (Vn 27 Z (Tg 28 Z (Yz (WR (r1_ 6 Z ⟨Z, hI.pu⟩)))))))))))))))))))))))))⟩
 | false =>
  cases hbk : pshB l k with
  | true =>
   rw [Bool.not_true, Bool.not_false, Bool.true_and, Bool.false_and]
   refine Vm func107 Z (Wq (Vc Z (Wn (Ws (Yi hI fun Sx hY hXS hI => Vh 0 Z (Vh 1 Z (Un 2 Z (Ve 3 Z (V9 4 (.func _ _ _) Z (Yo hY hps) (Vh 5 Z (Vq 6 Z (Tx 105 [Y _, .pointer _] [] [_] Z func105 Z ((push_any _ (h.ops.pure hI.pu) (cellP hI.pu h.box) i (by assumption)).mono ?_)))))))))))))
   rw [hbi]
   rintro e w1 ⟨rfl, hp⟩
   refine rV ?_
   have hI := hI.pure hp
   refine Wn ⟨hXS _ hI, (Uc 7 Z (Vv 8 Z (Ve 9 Z (V9 10 (.func _ _ _) Z (Yo hY hps) (Vh 11 Z (Vq 12 Z (Tx 105 [Y _, .pointer _] [] [_] Z func105 Z ((push_any _ (h.ops.pure hI.pu) (cellP hI.pu h.box) k (by assumption)).mono ?_))))))))⟩
   rw [hbk]
   rintro e w1 ⟨rfl, hp⟩
   refine rV ?_
   have hI := hI.pure hp
   exact Wn ⟨hXS _ hI, (Tm 13 Z (Vv 14 Z (Ve 15 Z (V4 16 Z Z (V4 17 Z Z (V4 18 Z Z (V4 19 Z Z (V4 20 Z Z (V4 21 Z Z (V4 22 Z Z (V4 23 Z Z (V4 24 Z Z (V4 25 Z Z (V4 26 Z Z (Vn 27 Z (Tg 28 Z (Yz (WR (r1_ 6 Z ⟨Z, hI.pu⟩)))))))))))))))))))⟩
  | false =>
   rw [Bool.not_false, Bool.true_and, Bool.true_and]
   refine Vm func107 Z (Wq (Vc Z (Wn (Ws (Yi hI fun Sx hY hXS hI => Vh 0 Z (Vh 1 Z (Un 2 Z (Ve 3 Z (V9 4 (.func _ _ _) Z (Yo hY hps) (Vh 5 Z (Vq 6 Z (Tx 105 [Y _, .pointer _] [] [_] Z func105 Z ((push_any _ (h.ops.pure hI.pu) (cellP hI.pu h.box) i (by assumption)).mono ?_)))))))))))))
   rw [hbi]
   rintro e w1 ⟨rfl, hp⟩
   refine rV ?_
   have hI := hI.pure hp
   refine Wn ⟨hXS _ hI, (Uc 7 Z (Vv 8 Z (Ve 9 Z (V9 10 (.func _ _ _) Z (Yo hY hps) (Vh 11 Z (Vq 12 Z (Tx 105 [Y _, .pointer _] [] [_] Z func105 Z ((push_any _ (h.ops.pure hI.pu) (cellP hI.pu h.box) k (by assumption)).mono ?_))))))))⟩
   rw [hbk]
   rintro e w1 ⟨rfl, hp⟩
   refine rV ?_
   have hI := hI.pure hp
   exact Wn ⟨hXS _ hI, (Uc 13 Z (Vv 14 Z (Ve 15 Z (V9 16 (.slice _ _ _) Z (Yo hY hbx) (Vh 17 Z (Tb 18 8 Z yy94 Z (T9 19 5 Z (V9 20 (Y _) Z (Yo hY hoi5) (V9 21 (.slice _ _ _) Z (Yo hY hbx) (Vh 22 Z (Tb 23 8 Z yy94 Z (T9 24 5 Z (V9 25 (Y _) Z (Yo hY hok5) (Wt 26 Z (fun W hW => have hI := hY W hW; (by exact rEql rfl rfl rfl)) (Vv 27 Z (Tg 28 Z (Yz (WR (r1_ 6 Z ⟨Z, hI.pu⟩)))))))))))))))))))⟩
theorem early_any (w0 : World) (h : QB l A c b1 b18 w0) (i k : Nat) (hi : i < l.length) (hk : k < l.length) :
  Cq 108 #[.int .i64 (i : Int), .int .i64 (k : Int), .pointer (some ⟨b18, 0, none⟩), .pointer (some ⟨b1, 0, none⟩)] w0 fun en w' => en = .returned (.bool (earlyB l i k)) ∧ Pure w0 w' := by
 have hI := Inv.start (fun _ => False) w0
 obtain ⟨_, hc1, hc2⟩ := h.ops.len
 have hbx := h.box
 have hps := h.psh
 obtain ⟨bA, oA, rfl, hoi⟩ := h.ops.at hi
 obtain ⟨bA', oA', hae, hok⟩ := h.ops.at hk
 injection hae with hae
 injection hae with e1 e2
 subst e1 e2
 have hoi3 := hoi 3 _ rfl
 have hok5 := hok 5 _ rfl
 unfold earlyB
 cases hbi : pshB l i with
 | false =>
  rw [Bool.false_and, Bool.false_and, Bool.false_and]
  refine Vm func108 Z (Wq (Vc Z (Wn (Ws (Yi hI fun Sx hY hXS hI => V9 0 (.func _ _ _) Z (Yo hY hps) (Vh 1 Z (Vq 2 Z (Tx 105 [Y _, .pointer _] [] [_] Z func105 Z ((push_any _ (h.ops.pure hI.pu) (cellP hI.pu h.box) i (by assumption)).mono ?_)))))))))
  rw [hbi]
  rintro e w1 ⟨rfl, hp⟩
  refine rV ?_
  have hI := hI.pure hp
  exact Wn ⟨hXS _ hI, (Ve 3 Z (V4 4 Z Z (V4 5 Z Z (V4 6 Z Z (V4 7 Z Z (Vn 8 Z (Ve 9 Z (V4 10 Z Z (V4 11 Z Z (V4 12 Z Z (V4 13 Z Z (V4 14 Z Z (V4 15 Z Z (V4 16 Z Z (V4 17 Z Z (V4 18 Z Z (V4 19 Z Z (V4 20 Z Z (Vn 21 Z (Ve 22 Z (V4 23 Z Z (V4 24 Z Z (V4 25 Z Z (V4 26 Z Z (V4 27 Z Z (V4 28 Z Z (V4 29 Z Z (V4 30 Z Z (V4 31 Z Z (Vn 32 Z (Tg 33 Z (Yz (WR (r1_ 6 Z ⟨Z, hI.pu⟩))))))))))))))))))))))))))))))))))⟩
 | true =>
  cases hbk : pshB l k with
  | true =>
   rw [Bool.not_true, Bool.true_and, Bool.false_and, Bool.false_and]
   refine Vm func108 Z (Wq (Vc Z (Wn (Ws (Yi hI fun Sx hY hXS hI => V9 0 (.func _ _ _) Z (Yo hY hps) (Vh 1 Z (Vq 2 Z (Tx 105 [Y _, .pointer _] [] [_] Z func105 Z ((push_any _ (h.ops.pure hI.pu) (cellP hI.pu h.box) i (by assumption)).mono ?_)))))))))
   rw [hbi]
   rintro e w1 ⟨rfl, hp⟩
   refine rV ?_
   have hI := hI.pure hp
   refine Wn ⟨hXS _ hI, (Ve 3 Z (V9 4 (.func _ _ _) Z (Yo hY hps) (Vh 5 Z (Vq 6 Z (Tx 105 [Y _, .pointer _] [] [_] Z func105 Z ((push_any _ (h.ops.pure hI.pu) (cellP hI.pu h.box) k (by assumption)).mono ?_))))))⟩
   rw [hbk]
   rintro e w1 ⟨rfl, hp⟩
   refine rV ?_
   have hI := hI.pure hp
   exact Wn ⟨hXS _ hI, (Tm 7 Z (Vv 8 Z (Ve 9 Z (V4 10 Z Z (V4 11 Z Z (V4 12 Z Z (V4 13 Z Z (V4 14 Z Z (V4 15 Z Z (V4 16 Z Z (V4 17 Z Z (V4 18 Z Z (V4 19 Z Z (V4 20 Z Z (Vn 21 Z (Ve 22 Z (V4 23 Z Z (V4 24 Z Z (V4 25 Z Z (V4 26 Z Z (V4 27 Z Z (V4 28 Z Z (V4 29 Z Z (V4 30 Z Z (V4 31 Z Z (Vn 32 Z (Tg 33 Z (Yz (WR (r1_ 6 Z ⟨Z, hI.pu⟩))))))))))))))))))))))))))))))⟩
  | false =>
   rw [Bool.not_false, Bool.true_and, Bool.true_and]
   by_cases hav : (oAt l i).a = (oAt l k).res
   ·rw [decide_eq_true hav, Bool.true_and]
    refine Vm func108 Z (Wq (Vc Z (Wn (Ws (Yi hI fun Sx hY hXS hI => V9 0 (.func _ _ _) Z (Yo hY hps) (Vh 1 Z (Vq 2 Z (Tx 105 [Y _, .pointer _] [] [_] Z func105 Z ((push_any _ (h.ops.pure hI.pu) (cellP hI.pu h.box) i (by assumption)).mono ?_)))))))))
    rw [hbi]
    rintro e w1 ⟨rfl, hp⟩
    refine rV ?_
    have hI := hI.pure hp
    refine Wn ⟨hXS _ hI, (Ve 3 Z (V9 4 (.func _ _ _) Z (Yo hY hps) (Vh 5 Z (Vq 6 Z (Tx 105 [Y _, .pointer _] [] [_] Z func105 Z ((push_any _ (h.ops.pure hI.pu) (cellP hI.pu h.box) k (by assumption)).mono ?_))))))⟩
    rw [hbk]
    rintro e w1 ⟨rfl, hp⟩
    refine rV ?_
    have hI := hI.pure hp
    exact Wn ⟨hXS _ hI, (Uc 7 Z (Vv 8 Z (Ve 9 Z (V9 10 (.slice _ _ _) Z (Yo hY hbx) (Vh 11 Z (Tb 12 8 Z yy94 Z (T9 13 3 Z (V9 14 (Y _) Z (Yo hY hoi3) (V9 15 (.slice _ _ _) Z (Yo hY hbx) (Vh 16 Z (Tb 17 8 Z yy94 Z (T9 18 5 Z (V9 19 (Y _) Z (Yo hY hok5) (U8 20 Z (Vv 21 Z (Ve 22 Z (V9 23 (.slice _ _ _) Z (Yo hY hbx) (Vh 24 Z (Tb 25 8 Z yy94 Z (Ug 26 8 Z (by rfl) (fun W hW => have hI := hY W hW; fun k u hk => hI.oldp (hok k u hk)) (V9 27 (.slice _ _ _) Z (Yo hY hbx) (Vh 28 Z (Tb 29 8 Z yy94 Z (Ug 30 8 Z (by rfl) (fun W hW => have hI := hY W hW; fun k u hk => hI.oldp (hoi k u hk)) (Vq 31 Z (Vd [.agg _, .agg _] Z func92 Z ((before_any (oAt l k) (oAt l i) _).mono (okP hI fun w1 hp hI => Wn ⟨hXS _ hI, (Vv 32 Z (Tg 33 Z (Yz (WR (r1_ 6 Z ⟨Z, hI.pu⟩)))))⟩))))))))))))))))))))))))))))⟩
   rw [decide_eq_false hav, Bool.false_and]
   refine Vm func108 Z (Wq (Vc Z (Wn (Ws (Yi hI fun Sx hY hXS hI => V9 0 (.func _ _ _) Z (Yo hY hps) (Vh 1 Z (Vq 2 Z (Tx 105 [Y _, .pointer _] [] [_] Z func105 Z ((push_any _ (h.ops.pure hI.pu) (cellP hI.pu h.box) i (by assumption)).mono ?_)))))))))
   rw [hbi]
   rintro e w1 ⟨rfl, hp⟩
   refine rV ?_
   have hI := hI.pure hp
   refine Wn ⟨hXS _ hI, (Ve 3 Z (V9 4 (.func _ _ _) Z (Yo hY hps) (Vh 5 Z (Vq 6 Z (Tx 105 [Y _, .pointer _] [] [_] Z func105 Z ((push_any _ (h.ops.pure hI.pu) (cellP hI.pu h.box) k (by assumption)).mono ?_))))))⟩
   rw [hbk]
   rintro e w1 ⟨rfl, hp⟩
   refine rV ?_
   have hI := hI.pure hp
   exact Wn ⟨hXS _ hI, (Uc 7 Z (Vv 8 Z (Ve 9 Z (V9 10 (.slice _ _ _) Z (Yo hY hbx) (Vh 11 Z (Tb 12 8 Z yy94 Z (T9 13 3 Z (V9 14 (Y _) Z (Yo hY hoi3) (V9 15 (.slice _ _ _) Z (Yo hY hbx) (Vh 16 Z (Tb 17 8 Z yy94 Z (T9 18 5 Z (V9 19 (Y _) Z (Yo hY hok5) (U5 20 Z (Vv 21 Z (Ve 22 Z (V4 23 Z Z (V4 24 Z Z (V4 25 Z Z (V4 26 Z Z (V4 27 Z Z (V4 28 Z Z (V4 29 Z Z (V4 30 Z Z (V4 31 Z Z (Vn 32 Z (Tg 33 Z (Yz (WR (r1_ 6 Z ⟨Z, hI.pu⟩))))))))))))))))))))))))))))))⟩
end
end Go.Proofs.YtnckdmogdehnoaaGreatDoor
namespace Go.Proofs.YtnckdmogdehnoaaGreatDoor
open Tryz
variable {v : Int} {l : List Op8} {i j k : Nat}
structure OkZ (l : List Op8) : Prop where
 ops : OkOps l
 kind : ∀ i, i < l.length → (oAt l i).kind = 1 ∨ (oAt l i).kind = 2
 ret : ∀ i, i < l.length → 0 ≤ (oAt l i).ret
 key : ∀ i, i < l.length → (oAt l i).key = (oAt l 0).key
 wr : ∀ i, i < l.length → (oAt l i).kind = 2 → (oAt l i).a ≠ 0 ∧ (oAt l i).res = 0
 once : ∀ i j, i < j → j < l.length → (oAt l i).kind = 2 → (oAt l j).kind = 2 → (oAt l i).a ≠ (oAt l j).a
def zvl (l : List Op8) (i : Nat) : Int := if (oAt l i).kind = 2 then (oAt l i).a else (oAt l i).res
def wrB (l : List Op8) (v : Int) (j : Nat) : Bool := decide ((oAt l j).kind = 2) && decide ((oAt l j).a = v)
def rdB (l : List Op8) (v : Int) (j : Nat) : Bool := decide ((oAt l j).kind = 1) && decide ((oAt l j).res = v)
def wcF (l : List Op8) (m : Nat) (v : Int) : Int := match fdN (wrB l v) m with | some j => (oAt l j).call | none => -2
def wrtF (l : List Op8) (m : Nat) (v : Int) : Int := match fdN (wrB l v) m with | some j => (oAt l j).ret | none => -1
def lsF (l : List Op8) (m : Nat) (v : Int) : Nat → Int
 | 0 => wrtF l m v
 | k + 1 => if rdB l v k then min (lsF l m v k) (oAt l k).ret else lsF l m v k
def grF (l : List Op8) (m : Nat) (v : Int) : Nat → Int
 | 0 => wcF l m v
 | k + 1 => if rdB l v k then max (grF l m v k) (oAt l k).call else grF l m v k
def LZ (l : List Op8) (v : Int) : Int := lsF l l.length v l.length
def GZ (l : List Op8) (v : Int) : Int := grF l l.length v l.length
def domZ (l : List Op8) (v : Int) : Prop := v = 0 ∨ ∃ j, j < l.length ∧ (oAt l j).kind = 2 ∧ (oAt l j).a = v
section
variable {l : List Op8}
theorem OkZ.uniq (h : OkZ l) (hi : i < l.length) (hj : j < l.length) (ki : (oAt l i).kind = 2) (kj : (oAt l j).kind = 2) (ha : (oAt l i).a = (oAt l j).a) : i = j := by
 rcases Nat.lt_trichotomy i j with h1 | h1 | h1
 ·exact absurd ha (h.once i j h1 hj ki kj)
 ·exact h1
 exact absurd ha.symm (h.once j i h1 hi kj ki)
theorem OkZ.num (hQ : OkZ l) (hi : i < l.length) : 0 ≤ (oAt l i).call ∧ (oAt l i).call < (oAt l i).ret ∧ (oAt l i).ret ≤ 1000000 := by
 have h1 := (hQ.ops.2 i hi).1
 have h2 := (hQ.ops.2 i hi).2.2.1
 have h3 := hQ.ret i hi
 have h4 := told_num h1 (oAt l i).ret (by simp)
 have h5 := h2.2.2.1
 have h6 := h2.1
 refine ⟨by omega, ?_, h4.2⟩
 rcases Int.lt_or_le (oAt l i).call (oAt l i).ret with h7 | h7
 ·exact h7
 exact absurd ⟨by omega, h7⟩ h5
theorem wr_some {m : Nat} (h : fdN (wrB l v) m = some j) : j < m ∧ (oAt l j).kind = 2 ∧ (oAt l j).a = v := by
 obtain ⟨h1, h2⟩ := fdN_some h
 unfold wrB at h2
 simp only [Bool.and_eq_true, decide_eq_true_eq] at h2
 exact ⟨h1, h2⟩
theorem OkZ.wr_eq (hZ : OkZ l) (hj : j < l.length) (hk : (oAt l j).kind = 2) : fdN (wrB l (oAt l j).a) l.length = some j := by
 cases hw : fdN (wrB l (oAt l j).a) l.length with
 | none =>
  have := fdN_none.1 hw j hj
  unfold wrB at this
  simp [hk] at this
 | some i =>
  obtain ⟨h1, h2, h3⟩ := wr_some hw
  rw [hZ.uniq h1 hj h2 hk h3]
theorem OkZ.wr_zero (hZ : OkZ l) : fdN (wrB l 0) l.length = none := by
 cases hw : fdN (wrB l 0) l.length with
 | none => rfl
 | some i =>
  obtain ⟨h1, h2, h3⟩ := wr_some hw
  exact absurd h3 (hZ.wr i h1 h2).1
theorem rd_iff : rdB l v j = true ↔ (oAt l j).kind = 1 ∧ (oAt l j).res = v := by
 unfold rdB
 simp
theorem lsF_base (m : Nat) (v : Int) : ∀ k, lsF l m v k ≤ wrtF l m v
 | 0 => Int.le_refl _
 | k + 1 => by
  have := lsF_base m v k
  unfold lsF
  split <;> omega
theorem lsF_at (m : Nat) (v : Int) : ∀ k, lsF l m v k = wrtF l m v ∨ ∃ i, i < k ∧ rdB l v i = true ∧ lsF l m v k = (oAt l i).ret
 | 0 => .inl rfl
 | k + 1 => by
  have ih := lsF_at m v k
  unfold lsF
  split
  ·rename_i hr
   by_cases hm : lsF l m v k ≤ (oAt l k).ret
   ·rw [Int.min_eq_left hm]
    rcases ih with h | ⟨i, h1, h2, h3⟩
    ·exact .inl h
    exact .inr ⟨i, by omega, h2, h3⟩
   rw [Int.min_eq_right (by omega)]
   exact .inr ⟨k, by omega, hr, rfl⟩
  rcases ih with h | ⟨i, h1, h2, h3⟩
  ·exact .inl h
  exact .inr ⟨i, by omega, h2, h3⟩
theorem grF_at (m : Nat) (v : Int) : ∀ k, grF l m v k = wcF l m v ∨ ∃ i, i < k ∧ rdB l v i = true ∧ grF l m v k = (oAt l i).call
 | 0 => .inl rfl
 | k + 1 => by
  have ih := grF_at m v k
  unfold grF
  split
  ·rename_i hr
   by_cases hm : (oAt l k).call ≤ grF l m v k
   ·rw [Int.max_eq_left hm]
    rcases ih with h | ⟨i, h1, h2, h3⟩
    ·exact .inl h
    exact .inr ⟨i, by omega, h2, h3⟩
   rw [Int.max_eq_right (by omega)]
   exact .inr ⟨k, by omega, hr, rfl⟩
  rcases ih with h | ⟨i, h1, h2, h3⟩
  ·exact .inl h
  exact .inr ⟨i, by omega, h2, h3⟩
theorem zvl_read (h : rdB l v i = true) : zvl l i = v := by
 obtain ⟨h1, h2⟩ := rd_iff.1 h
 unfold zvl
 rw [if_neg (by omega), h2]
theorem OkZ.least (hZ : OkZ l) (hd : domZ l v) : (v = 0 ∧ LZ l v = -1) ∨ ∃ i, i < l.length ∧ zvl l i = v ∧ LZ l v = (oAt l i).ret := by
 unfold LZ
 rcases lsF_at (l := l) l.length v l.length with h | ⟨i, h1, h2, h3⟩
 ·rw [h]
  unfold wrtF
  rcases hd with rfl | ⟨j, hj, hk, rfl⟩
  ·rw [hZ.wr_zero]; exact .inl ⟨rfl, rfl⟩
  rw [hZ.wr_eq hj hk]; exact .inr ⟨j, hj, if_pos hk, rfl⟩
 exact .inr ⟨i, h1, zvl_read h2, h3⟩
theorem OkZ.greatest (hZ : OkZ l) (hd : domZ l v) : (v = 0 ∧ GZ l v = -2) ∨ ∃ i, i < l.length ∧ zvl l i = v ∧ GZ l v = (oAt l i).call := by
 unfold GZ
 rcases grF_at (l := l) l.length v l.length with h | ⟨i, h1, h2, h3⟩
 ·rw [h]
  unfold wcF
  rcases hd with rfl | ⟨j, hj, hk, rfl⟩
  ·rw [hZ.wr_zero]; exact .inl ⟨rfl, rfl⟩
  rw [hZ.wr_eq hj hk]; exact .inr ⟨j, hj, if_pos hk, rfl⟩
 exact .inr ⟨i, h1, zvl_read h2, h3⟩
def valsZ (l : List Op8) : List Int := 0 :: ((List.range l.length).filter fun i => decide ((oAt l i).kind = 2)).map fun i => (oAt l i).a
theorem mem_valsZ : v ∈ valsZ l ↔ domZ l v := by
 unfold valsZ domZ
 rw [List.mem_cons, List.mem_map]
 constructor
 ·rintro (h | ⟨i, h1, h2⟩)
  ·exact .inl h
  rw [List.mem_filter, List.mem_range] at h1
  exact .inr ⟨i, h1.1, by simpa using h1.2, h2⟩
 rintro (h | ⟨i, h1, h2, h3⟩)
 ·exact .inl h
 exact .inr ⟨i, by rw [List.mem_filter, List.mem_range]; exact ⟨h1, by simpa using h2⟩, h3⟩
theorem OkZ.valsNodup (hZ : OkZ l) : (valsZ l).Nodup := by
 unfold valsZ
 rw [List.nodup_cons]
 constructor
 ·rw [List.mem_map]
  rintro ⟨i, h1, h2⟩
  rw [List.mem_filter, List.mem_range] at h1
  exact (hZ.wr i h1.1 (by simpa using h1.2)).1 h2
 have h1 : ((List.range l.length).filter fun i => decide ((oAt l i).kind = 2)).Nodup := List.nodup_range.filter _
 unfold List.Nodup
 rw [List.pairwise_map]
 refine List.Pairwise.imp_of_mem (fun {a b} ha hb hab e => ?_) h1
 rw [List.mem_filter, List.mem_range] at ha hb
 exact hab (hZ.uniq ha.1 hb.1 (by simpa using ha.2) (by simpa using hb.2) e)
end
open Go.RowKit
def OkZ1 (k0 : Int) (p : Op8) : Prop := (p.kind = 1 ∨ p.kind = 2) ∧ 0 ≤ p.ret ∧ p.key = k0 ∧ (p.kind = 2 → p.a ≠ 0 ∧ p.res = 0)
def OkZk (l : List Op8) (k : Nat) : Prop := (∀ i, i < k → OkZ1 (oAt l 0).key (oAt l i)) ∧ ∀ i j, i < j → j < k → (oAt l i).kind = 2 → (oAt l j).kind = 2 → (oAt l i).a ≠ (oAt l j).a
theorem OkZk.succ (h : OkZk l k) (h1 : OkZ1 (oAt l 0).key (oAt l k)) (h2 : (oAt l k).kind = 2 → fdN (wrB l (oAt l k).a) k = none) : OkZk l (k + 1) := by
 refine ⟨fun i hi => ?_, fun i j hij hj ki kj => ?_⟩
 ·rcases Nat.lt_or_ge i k with h3 | h3
  ·exact h.1 i h3
  obtain rfl : i = k := by omega
  exact h1
 rcases Nat.lt_or_ge j k with h3 | h3
 ·exact h.2 i j hij h3 ki kj
 obtain rfl : j = k := by omega
 have := fdN_none.1 (h2 kj) i hij
 intro e
 unfold wrB at this
 simp [ki, e] at this
theorem okZ_of (h1 : OkOps l) (h2 : OkZk l l.length) : OkZ l := ⟨h1, fun i hi => (h2.1 i hi).1, fun i hi => (h2.1 i hi).2.1, fun i hi => (h2.1 i hi).2.2.1, fun i hi => (h2.1 i hi).2.2.2, fun i j hij hj => h2.2 i j hij hj⟩
theorem OkZ.one (h : OkZ l) (hi : i < l.length) : OkZ1 (oAt l 0).key (oAt l i) := ⟨h.kind i hi, h.ret i hi, h.key i hi, h.wr i hi⟩
def CzPost (l : List Op8) (w0 : World) (en : Ending) (w' : World) : Prop := Pure w0 w' ∧ ((OkZ l ∧ en = .returned .nilIface) ∨ (¬ OkZ l ∧ ∃ x, IsErr8 x ∧ en = .returned x))
def ZErr (l : List Op8) (z : Int) : Prop := z ≠ 8 ∧ (40 < l.length → z = 4) ∧ (OkOps l → ∃ k, k < l.length ∧ OkZk l k ∧ ((¬ OkZ1 (oAt l 0).key (oAt l k) ∧ z = 3) ∨ (OkZ1 (oAt l 0).key (oAt l k) ∧ ¬ OkZk l (k + 1) ∧ z = 9)))
def CzPostN (l : List Op8) (w0 : World) (en : Ending) (w' : World) : Prop := Pure w0 w' ∧ ((OkZ l ∧ en = .returned .nilIface) ∨ (¬ OkZ l ∧ ∃ z, ZErr l z ∧ en = .returned (.iface 49 (.int .i64 z))))
theorem CzPost.bad {w0 w' : World} {z : Int} (h : ¬ OkZ l) (hz : ZErr l z) (hp : Pure w0 w') : CzPostN l w0 (.returned (.iface 49 (.int .i64 z))) w' := ⟨hp, .inr ⟨h, z, hz, rfl⟩⟩
theorem zcheckN_any (A : Option Addr) (n c : Nat) (l : List Op8) (D : Nat → Prop) (w0 : World) (h : OpsR w0 D (.slice A n c) l) : Cq 157 #[.slice A n c] w0 (CzPostN l w0) := by
 obtain ⟨hn, hc1, hc2⟩ := h.len
 subst hn
 have hI := Inv.start (fun _ => False) w0
 refine Vm func157 Z (Wq (Vw Z (Wn ?_)))
 by_cases hok : OkOps l
 rotate_left
 ·refine Ws (Wq (Va Z (Vd [.slice _ _ _] Z func137 Z ((checkOps4_any A l.length c l D _ (h.pure hI.pu)).mono ?_))))
  rintro e w1 ⟨hp, ⟨h1, _⟩ | ⟨_, x, ⟨z, rfl, hz8, hz4⟩, rfl⟩⟩
  ·exact absurd h1 hok
  refine rV ?_
  have hI := hI.pure hp
  exact Vt Z (Wn (Wq (Vy Z (U0 Z yy37 Z (Yt Z (Wq (Vy Z (Vt Z (Wn (WR (r1_ 2 Z (CzPost.bad (fun hh => hok hh.ops) ⟨hz8, hz4, fun hh => absurd hh hok⟩ hI.pu))))))))))))
 refine Ws (Wq (Va Z (Vd [.slice _ _ _] Z func137 Z ((checkOps8_any A l.length c l D _ (h.pure hI.pu)).mono ?_))))
 rintro e w1 ⟨hp, ⟨_, rfl⟩ | ⟨h1, _⟩⟩
 rotate_left
 ·exact absurd hok h1
 refine rV ?_
 have hI := hI.pure hp
 refine Vw Z (Wn (Wq (Td Z (Tv Z yy37 Z (Yf Z (Wk (Ws (Wr (WL_mkMapK okI kI hI Z Z Z Z ?_)))))))))
 rintro b15 w hI
 refine Wv Z (by exact rAsgnM rfl rfl) (Wn ?_)
 have h40 := hok.1
 rw [mpF_zero (wrB l)] at hI
 refine Ws (Wq (Va Z (Vo Z yy94 Z (V0 Z (Wn (Wb ?_))))))
 refine Wl (fun mu ρ w => ∃ k : Nat, mu = l.length - k ∧ k ≤ l.length ∧ OkZk l k ∧ Has ρ [(18, Y (k : Int)), (17, Y (l.length : Int)), (16, .slice A l.length c), (4, .map (some b15)), (0, .slice A l.length c)] ∧ Inv NF w0 w [MapKE okI kI b15 (mpF (wrB l) k)]) l.length
  ⟨0, rfl, by omega, ⟨fun i hi => by omega, fun i j _ hj => by omega⟩, ⟨rfl, rfl, rfl, rfl, rfl, trivial⟩, hI⟩ ?_
 clear hI
 rintro mu ρ w ⟨k, rfl, hk, hall, hH, hI⟩
 obtain ⟨σ, rfl⟩ := hH.open
 by_cases hkl : k < l.length
 rotate_left
 ·obtain rfl : k = l.length := by omega
  exact Wq (Vr Z (Yg Z (WE (Wq (Vw Z (Wn (WR (r1_ 2 Z ⟨hI.pu, .inl ⟨okZ_of hok hall, Z⟩⟩))))))))
 obtain ⟨bA, oA, hAe, hoc⟩ := (h.pure hI.pu).at hkl
 subst hAe
 have ho0 : ∀ W : World, Pure w0 W → ∀ (j : Nat) (u : Value), (opV (oAt l 0))[j]? = some u → W.cell? ⟨bA, oA + j, none⟩ = some u := fun W hp j u hj => by
  obtain ⟨b', o', e, hc⟩ := (h.pure hp).at (show 0 < l.length by omega)
  injection e with e
  injection e with e1 e2
  subst e1 e2
  simpa using hc j u hj
 have hone := fun (hh : OkZ l) => hh.one hkl
 have hsucc := hall.succ
 have hsame := mpF_same (f := wrB l) (k := k)
 have hnew := mpF_new (f := wrB l) (k := k) (a := (oAt l k).a)
 have htw : ∀ j, fdN (wrB l (oAt l k).a) k = some j → (oAt l k).kind = 2 → ¬ OkZ l := fun j hj hk9 hh => by
  obtain ⟨q1, q2, q3⟩ := wr_some hj
  exact hh.once j k q1 hkl q2 hk9 q3
 have htw2 : ∀ j, fdN (wrB l (oAt l k).a) k = some j → (oAt l k).kind = 2 → ¬ OkZk l (k + 1) := fun j hj hk9 hh => by
  obtain ⟨q1, q2, q3⟩ := wr_some hj
  exact hh.2 j k q1 (Nat.lt_succ_self k) q2 hk9 q3
 have hpb : ∀ v, wrB l v k = (decide ((oAt l k).kind = 2) && decide ((oAt l k).a = v)) := fun v => rfl
 generalize hpk : oAt l k = pk at hoc hone hsucc hnew htw htw2 hpb
 obtain ⟨p0, p1, p2, p3, p4, p5, p6, p7⟩ := pk
 generalize hk0 : (oAt l 0) = z0 at ho0 hone hsucc
 obtain ⟨z0, z1, z2, z3, z4, z5, z6, z7⟩ := z0
 simp only at hnew htw htw2 hpb hsucc hone
 have hz1 := fun (W : World) (hp : Pure w0 W) => ho0 W hp 1 _ rfl
 refine Wq (Vu Z (Yu Z (Wk (Ws (Wb (Wq (V0 Z (Th 8 Z yy94 Z (Ts 8 Z (by rfl) hoc (Vz (.agg zI8) (zI8) hI Z ?_))))))))))
 rintro b6 w - - hI
 refine Vb Z (T2 8 (#[_, _, _, _, _, _, _, _]) (.agg _) hI Z ?_)
 intro w hI
 refine Wn ?_
 simp only [opV] at hI
 have bad : ∀ (w : World), ¬ OkZ1 z1 ⟨p0, p1, p2, p3, p4, p5, p6, p7⟩ → Pure w0 w → CzPostN l w0 (.returned (.iface 49 (.int .i64 3))) w := fun w hb hp => CzPost.bad (fun hh => hb (hone hh)) ⟨by decide, fun hh => absurd hh (by omega), fun _ => ⟨k, hkl, hall, .inl ⟨by rw [hpk, hk0]; exact hb, rfl⟩⟩⟩ hp
 by_cases k9 : p2 = 2
 ·have k10 : ¬ p2 = 1 := by omega
  refine Wq (V8 2 Z (Yc hI Z Z (Vx Z (Vc Z (Wn ?_)))))
  by_cases hr : 0 ≤ p7
  rotate_left
  ·exact Ws (Ws (Yi hI fun Sx hY hXS hI => Vf 0 2 Z (Ye 1 hY Z Z (U4 2 Z (Ve 3 Z (Ve 4 Z (Tm 5 Z (Vv 6 Z (Ve 7 Z (Vf 8 7 Z (Ye 9 hY Z Z (Un 10 Z (Vn 11 Z (Ve 12 Z (V4 13 Z Z (V4 14 Z Z (V4 15 Z Z (V4 16 Z Z (V4 17 Z Z (V4 18 Z Z (V4 19 Z Z (Vv 20 Z (Ve 21 Z (V4 22 Z Z (V4 23 Z Z (V4 24 Z Z (V4 25 Z Z (V4 26 Z Z (V4 27 Z Z (V4 28 Z Z (V4 29 Z Z (V4 30 Z Z (V4 31 Z Z (V4 32 Z Z (Vv 33 Z (Yz (Wc true Z (Wq (T0 Z yy49 Z (Vt Z (Wn (WR (r1_ 2 Z (bad _ (fun hb => hr hb.2.1) hI.pu))))))))))))))))))))))))))))))))))))))))))))
  by_cases hkey : p1 = z1
  rotate_left
  ·exact Ws (Ws (Yi hI fun Sx hY hXS hI => Vf 0 2 Z (Ye 1 hY Z Z (U4 2 Z (Ve 3 Z (Ve 4 Z (Tm 5 Z (Vv 6 Z (Ve 7 Z (Vf 8 7 Z (Ye 9 hY Z Z (Ud 10 Z (Vn 11 Z (Ve 12 Z (Vf 13 1 Z (Ye 14 hY Z Z (Vp 15 Z (Uh 16 8 0 Z yy94 Z (T9 17 1 Z (V9 18 (Y _) Z (fun W hW => have hI := hY W hW; hz1 _ hI.pu) (U4 19 Z (Vn 20 Z (Ve 21 Z (V4 22 Z Z (V4 23 Z Z (V4 24 Z Z (V4 25 Z Z (V4 26 Z Z (V4 27 Z Z (V4 28 Z Z (V4 29 Z Z (V4 30 Z Z (V4 31 Z Z (V4 32 Z Z (Vv 33 Z (Yz (Wc true Z (Wq (T0 Z yy49 Z (Vt Z (Wn (WR (r1_ 2 Z (bad _ (fun hb => hkey hb.2.2.1) hI.pu))))))))))))))))))))))))))))))))))))))))))))
  by_cases ha : p3 = 0
  ·exact Ws (Ws (Yi hI fun Sx hY hXS hI => Vf 0 2 Z (Ye 1 hY Z Z (U4 2 Z (Ve 3 Z (Ve 4 Z (Tm 5 Z (Vv 6 Z (Ve 7 Z (Vf 8 7 Z (Ye 9 hY Z Z (Ud 10 Z (Vn 11 Z (Ve 12 Z (Vf 13 1 Z (Ye 14 hY Z Z (Vp 15 Z (Uh 16 8 0 Z yy94 Z (T9 17 1 Z (V9 18 (Y _) Z (fun W hW => have hI := hY W hW; hz1 _ hI.pu) (Tu 19 Z (Vn 20 Z (Ve 21 Z (Ve 22 Z (Ve 23 Z (Vf 24 3 Z (Ye 25 hY Z Z (U8 26 Z (Ve 27 Z (V4 28 Z Z (V4 29 Z Z (V4 30 Z Z (Vv 31 Z (Vv 32 Z (Vn 33 Z (Yz (Wc true Z (Wq (T0 Z yy49 Z (Vt Z (Wn (WR (r1_ 2 Z (bad _ (fun hb => (hb.2.2.2 k9).1 ha) hI.pu))))))))))))))))))))))))))))))))))))))))))))
  by_cases hs : p5 = 0
  rotate_left
  ·exact Ws (Ws (Yi hI fun Sx hY hXS hI => Vf 0 2 Z (Ye 1 hY Z Z (U4 2 Z (Ve 3 Z (Ve 4 Z (Tm 5 Z (Vv 6 Z (Ve 7 Z (Vf 8 7 Z (Ye 9 hY Z Z (Ud 10 Z (Vn 11 Z (Ve 12 Z (Vf 13 1 Z (Ye 14 hY Z Z (Vp 15 Z (Uh 16 8 0 Z yy94 Z (T9 17 1 Z (V9 18 (Y _) Z (fun W hW => have hI := hY W hW; hz1 _ hI.pu) (Tu 19 Z (Vn 20 Z (Ve 21 Z (Ve 22 Z (Ve 23 Z (Vf 24 3 Z (Ye 25 hY Z Z (U5 26 Z (Ve 27 Z (Vf 28 5 Z (Ye 29 hY Z Z (U4 30 Z (Vn 31 Z (Vv 32 Z (Vn 33 Z (Yz (Wc true Z (Wq (T0 Z yy49 Z (Vt Z (Wn (WR (r1_ 2 Z (bad _ (fun hb => hs (hb.2.2.2 k9).2) hI.pu))))))))))))))))))))))))))))))))))))))))))))
  have hg : OkZ1 z1 ⟨p0, p1, p2, p3, p4, p5, p6, p7⟩ := ⟨.inr k9, hr, hkey, fun _ => ⟨ha, hs⟩⟩
  refine Ws (Ws (Yi hI fun Sx hY hXS hI => Vf 0 2 Z (Ye 1 hY Z Z (U4 2 Z (Ve 3 Z (Ve 4 Z (Tm 5 Z (Vv 6 Z (Ve 7 Z (Vf 8 7 Z (Ye 9 hY Z Z (Ud 10 Z (Vn 11 Z (Ve 12 Z (Vf 13 1 Z (Ye 14 hY Z Z (Vp 15 Z (Uh 16 8 0 Z yy94 Z (T9 17 1 Z (V9 18 (Y _) Z (fun W hW => have hI := hY W hW; hz1 _ hI.pu) (Tu 19 Z (Vn 20 Z (Ve 21 Z (Ve 22 Z (Ve 23 Z (Vf 24 3 Z (Ye 25 hY Z Z (U5 26 Z (Ve 27 Z (Vf 28 5 Z (Ye 29 hY Z Z (Tu 30 Z (Vn 31 Z (Vv 32 Z (Vn 33 Z (Yz (Wc false Z (Wk ?_))))))))))))))))))))))))))))))))))))))
  cases hwm : fdN (wrB l p3) k with
  | some j =>
   have hv : mpF (wrB l) k p3 = some (.int .i64 (j : Int)) := by unfold mpF; rw [hwm]; rfl
   exact Ws (Wq (Tp Z (V8 3 Z (Yc hI Z Z (Wv Z (rLookKY (a := p3) keyI hv Z yy171 Z Z trivial hI.g1) (T4 Z (Vj Z (Vj Z (Vb Z (Vc Z (Wn (Wq (V7 Z (V7 Z (V7 Z (Vk Z (Yt Z (Wq (T0 Z yy49 Z (Vt Z (Wn (WR (r1_ 2 Z (CzPost.bad (htw j hwm k9) ⟨by decide, fun hh => absurd hh (by omega), fun _ => ⟨k, hkl, hall, .inr ⟨by rw [hpk, hk0]; exact hg, htw2 j hwm k9, Z⟩⟩⟩ hI.pu))))))))))))))))))))))))
  | none =>
   have hv : mpF (wrB l) k p3 = none := by unfold mpF; rw [hwm]; rfl
   refine Ws (Wq (Tp Z (V8 3 Z (Yc hI Z Z (Wv Z (rLookKN (a := p3) (zv := Y 0) keyI hv Z yy171 (by kernel_rfl) Z Z trivial hI.g1) (T4 Z (Vj Z (Vj Z (Vb Z (Vc Z (Wn (Wq (V7 Z (V7 Z (V7 Z (Vk Z (Yf Z (Wk (Wq (V7 Z (Yt Z (Wr (Tp Z (V8 3 Z (Yc hI Z Z (V0 Z (WL_mapSetK (a := p3) (v := Y (k : Int)) keyI 1 Z hI Z Z Z yy171 Z Z Z trivial ?_)))))))))))))))))))))))))))
   intro w hI
   simp only [List.set_cons_succ, List.set_cons_zero] at hI
   refine Wn ?_
   rw [hnew (fun v => by rw [hpb]; simp [k9, eq_comm]) hwm] at hI
   have hI := hI.d0
   exact Wr (Vl Z (V0 Z (Wn ⟨l.length - (k + 1), by omega, k + 1, rfl, by omega, hsucc hg (fun _ => hwm), g5_, hI⟩)))
 by_cases k10 : p2 = 1
 rotate_left
 ·exact Wq (V8 2 Z (Yc hI Z Z (Vs Z (Vc Z (Wn (Ws (Ws (Yi hI fun Sx hY hXS hI => Vf 0 2 Z (Ye 1 hY Z Z (U4 2 Z (Ve 3 Z (Ve 4 Z (Uc 5 Z (Vv 6 Z (Ve 7 Z (V4 8 Z Z (V4 9 Z Z (V4 10 Z Z (Vv 11 Z (Ve 12 Z (V4 13 Z Z (V4 14 Z Z (V4 15 Z Z (V4 16 Z Z (V4 17 Z Z (V4 18 Z Z (V4 19 Z Z (Vv 20 Z (Ve 21 Z (V4 22 Z Z (V4 23 Z Z (V4 24 Z Z (V4 25 Z Z (V4 26 Z Z (V4 27 Z Z (V4 28 Z Z (V4 29 Z Z (V4 30 Z Z (V4 31 Z Z (V4 32 Z Z (Vv 33 Z (Yz (Wc true Z (Wq (T0 Z yy49 Z (Vt Z (Wn (WR (r1_ 2 Z (bad _ (fun hb => by rcases hb.1 with h1 | h1; exact k10 h1; exact k9 h1) hI.pu))))))))))))))))))))))))))))))))))))))))))))))))))
 refine Wq (V8 2 Z (Yc hI Z Z (Vs Z (Vc Z (Wn ?_)))))
 by_cases hr : 0 ≤ p7
 rotate_left
 ·exact Ws (Ws (Yi hI fun Sx hY hXS hI => Vf 0 2 Z (Ye 1 hY Z Z (Tu 2 Z (Ve 3 Z (V4 4 Z Z (V4 5 Z Z (Vn 6 Z (Ve 7 Z (Vf 8 7 Z (Ye 9 hY Z Z (Un 10 Z (Vn 11 Z (Ve 12 Z (V4 13 Z Z (V4 14 Z Z (V4 15 Z Z (V4 16 Z Z (V4 17 Z Z (V4 18 Z Z (V4 19 Z Z (Vv 20 Z (Ve 21 Z (V4 22 Z Z (V4 23 Z Z (V4 24 Z Z (V4 25 Z Z (V4 26 Z Z (V4 27 Z Z (V4 28 Z Z (V4 29 Z Z (V4 30 Z Z (V4 31 Z Z (V4 32 Z Z (Vv 33 Z (Yz (Wc true Z (Wq (T0 Z yy49 Z (Vt Z (Wn (WR (r1_ 2 Z (bad _ (fun hb => hr hb.2.1) hI.pu))))))))))))))))))))))))))))))))))))))))))))
 by_cases hkey : p1 = z1
 rotate_left
 ·exact Ws (Ws (Yi hI fun Sx hY hXS hI => Vf 0 2 Z (Ye 1 hY Z Z (Tu 2 Z (Ve 3 Z (V4 4 Z Z (V4 5 Z Z (Vn 6 Z (Ve 7 Z (Vf 8 7 Z (Ye 9 hY Z Z (Ud 10 Z (Vn 11 Z (Ve 12 Z (Vf 13 1 Z (Ye 14 hY Z Z (Vp 15 Z (Uh 16 8 0 Z yy94 Z (T9 17 1 Z (V9 18 (Y _) Z (fun W hW => have hI := hY W hW; hz1 _ hI.pu) (U4 19 Z (Vn 20 Z (Ve 21 Z (V4 22 Z Z (V4 23 Z Z (V4 24 Z Z (V4 25 Z Z (V4 26 Z Z (V4 27 Z Z (V4 28 Z Z (V4 29 Z Z (V4 30 Z Z (V4 31 Z Z (V4 32 Z Z (Vv 33 Z (Yz (Wc true Z (Wq (T0 Z yy49 Z (Vt Z (Wn (WR (r1_ 2 Z (bad _ (fun hb => hkey hb.2.2.1) hI.pu))))))))))))))))))))))))))))))))))))))))))))
 have hg : OkZ1 z1 ⟨p0, p1, p2, p3, p4, p5, p6, p7⟩ := ⟨.inl k10, hr, hkey, fun h9 => absurd h9 k9⟩
 refine Ws (Ws (Yi hI fun Sx hY hXS hI => Vf 0 2 Z (Ye 1 hY Z Z (Tu 2 Z (Ve 3 Z (V4 4 Z Z (V4 5 Z Z (Vn 6 Z (Ve 7 Z (Vf 8 7 Z (Ye 9 hY Z Z (Ud 10 Z (Vn 11 Z (Ve 12 Z (Vf 13 1 Z (Ye 14 hY Z Z (Vp 15 Z (Uh 16 8 0 Z yy94 Z (T9 17 1 Z (V9 18 (Y _) Z (fun W hW => have hI := hY W hW; hz1 _ hI.pu) (Tu 19 Z (Vn 20 Z (Ve 21 Z (Ve 22 Z (Ve 23 Z (V4 24 Z Z (V4 25 Z Z (V4 26 Z Z (V4 27 Z Z (V4 28 Z Z (V4 29 Z Z (V4 30 Z Z (V4 31 Z Z (Vn 32 Z (Vn 33 Z (Yz (Wc false Z (Wk (Wx (fun ρ w => Has ρ [(18, Y (k : Int)), (17, Y (l.length : Int)), (16, .slice (some ⟨bA, oA, none⟩) l.length c), (4, .map (some b15)), (0, .slice (some ⟨bA, oA, none⟩) l.length c), (7, .bool false)] ∧ Inv NF w0 w [B b6 106 #[Y p0, Y p1, Y p2, Y p3, Y p4, Y p5, Y p6, Y p7], MapKE okI kI b15 (mpF (wrB l) k)]) ?_ ?_)))))))))))))))))))))))))))))))))))))))
 ·cases hwm : fdN (wrB l p3) k with
  | some j =>
   have hv : mpF (wrB l) k p3 = some (.int .i64 (j : Int)) := by unfold mpF; rw [hwm]; rfl
   exact Wq (Tp Z (V8 3 Z (Yc hI Z Z (Wv Z (rLookKY (a := p3) keyI hv Z yy171 Z Z trivial hI.g1) (T4 Z (Vj Z (Vj Z (Vb Z (Vc Z (Wn (Wq (V7 Z (V7 Z (V5 Z (Vi Z (Yf Z (Wk ⟨g6_, hI⟩)))))))))))))))))
  | none =>
   have hv : mpF (wrB l) k p3 = none := by unfold mpF; rw [hwm]; rfl
   exact Wq (Tp Z (V8 3 Z (Yc hI Z Z (Wv Z (rLookKN (a := p3) (zv := Y 0) keyI hv Z yy171 (by kernel_rfl) Z Z trivial hI.g1) (T4 Z (Vj Z (Vj Z (Vb Z (Vc Z (Wn (Wq (V7 Z (V7 Z (V5 Z (Vi Z (Yf Z (Wk ⟨g6_, hI⟩)))))))))))))))))
 clear hI
 rintro ρ w ⟨hH, hI⟩
 obtain ⟨σ, rfl⟩ := hH.open
 refine Wq (V7 Z (Yf Z (Wk ?_)))
 rw [← hsame (fun v hv => by rw [hpb] at hv; simp [k9] at hv)] at hI
 have hI := hI.d0
 exact Wr (Vl Z (V0 Z (Wn ⟨l.length - (k + 1), by omega, k + 1, rfl, by omega, hsucc hg (fun h2 => absurd h2 k9), g5_, hI⟩)))
structure Zn where
 v : Int
 lo : Int
 hi : Int
 fw : Bool
def znV (z : Zn) : List Value := [.int .i64 z.v, .int .i64 z.lo, .int .i64 z.hi, .bool z.fw]
def zAt (L : List Zn) (i : Nat) : Zn := L.getD i ⟨0, 0, 0, false⟩
theorem zAt_get {L : List Zn} (h : i < L.length) : L[i]? = some (zAt L i) := by
 unfold zAt
 rw [List.getD_eq_getElem?_getD, gE_ h]
 rfl
theorem zAt_mem {L : List Zn} (h : i < L.length) : zAt L i ∈ L := gM_ (zAt_get h)
def zonC (L : List Zn) (junk : List Value) : Array Value := (L.flatMap znV ++ junk).toArray
theorem znsV_len (L : List Zn) : (L.flatMap znV).length = L.length * 4 := by
 induction L with
 | nil => rfl
 | cons z L ih => rw [List.flatMap_cons, List.length_append, ih]; simp [znV]; omega
theorem zonC_get {L : List Zn} {junk : List Value} {q : Nat} (hi : i < L.length) (hq : q < 4) : (zonC L junk)[i * 4 + q]? = (znV (zAt L i))[q]? := by
 unfold zonC
 rw [List.getElem?_toArray, List.getElem?_append_left (by rw [znsV_len]; omega)]
 exact flatN (s := 4) (fun _ => Z) L i _ (zAt_get hi) q hq
theorem zon_at {L : List Zn} {junk : List Value} {g T : Nat} {w : World} (h : Blk w g T (zonC L junk)) (hi : i < L.length) {z : Zn} (hz : zAt L i = z) : ∀ (q : Nat) (u : Value), (znV z)[q]? = some u → w.cell? ⟨g, 0 + i * 4 + q, none⟩ = some u := by
 intro q u hq
 subst hz
 have hq4 : q < 4 := (gS_ hq).1
 rw [Nat.zero_add, h.cell, zonC_get hi hq4]
 exact hq
abbrev cmpV : Value := .func (.func 159) #[] #[]
def SortPost (S : Nat → Prop) (w0 : World) (g : Nat) (L0 : List Zn) (junk : List Value) (e : Ending) (w' : World) : Prop :=
 e = .returned (.tuple #[]) ∧ ∃ L', L'.Perm L0 ∧ (L'.Pairwise fun a b => a.lo ≤ b.lo) ∧ Inv S w0 w' [B g 206 (zonC L' junk)]
end Go.Proofs.YtnckdmogdehnoaaGreatDoor
namespace Go.Proofs.YtnckdmogdehnoaaGreatDoor
open Tryz
open Go Go.RowKit
variable {v : Int} {l : List Op8} {i j k : Nat}
abbrev Zb := { z : Zn // -2 ≤ z.lo ∧ z.lo ≤ 1000000 }
instance : Inhabited Zb := ⟨⟨⟨0, 0, 0, false⟩, by decide⟩⟩
def zbL (z : Zb) : List Value := znV z.1
theorem zbL_len (z : Zb) : (zbL z).length = 4 := rfl
def zbC (x y : Zb) : Int := x.1.lo - y.1.lo
theorem zbLt (x y : Zb) : Go.Proofs.ltOf zbC x y = decide (x.1.lo < y.1.lo) := by
 unfold Go.Proofs.ltOf zbC
 by_cases h1 : x.1.lo < y.1.lo
 ·simp [h1]; omega
 simp [h1]; omega
theorem zbSwo : Go.Sort.SWO (Go.Proofs.ltOf zbC) where
 irrefl x := by rw [zbLt]; simp
 trans x y z h1 h2 := by rw [zbLt] at *; simp at *; omega
 ntrans x y z h1 h2 := by rw [zbLt] at *; simp at *; omega
theorem zbcmp_any (x y : Zb) (W : World) : Cq 159 #[.agg (zbL x).toArray, .agg (zbL y).toArray] W fun e w' => e = .returned (.int .i64 (zbC x y)) ∧ ∃ q os', w' = Go.Sort.grow (W.drewN q) os' := by
 obtain ⟨⟨x0, x1, x2, x3⟩, hx⟩ := x
 obtain ⟨⟨y0, y1, y2, y3⟩, hy⟩ := y
 obtain ⟨r, hr⟩ : ∃ r, zbC ⟨⟨x0, x1, x2, x3⟩, hx⟩ ⟨⟨y0, y1, y2, y3⟩, hy⟩ = r := ⟨_, rfl⟩
 rw [hr]
 unfold zbC at hr
 simp only at hr hx hy
 simp only [zbL, znV]
 have hwr : IntKind.i64.wrap (x1 - y1) = r := by rw [wrap64_in (by omega) (by omega)]; exact hr
 go_enter func159, Tryz.ntmps159
 go_wp2
 all_goals go_ret
 all_goals exact ⟨by first | rw [hwr] | rw [hr] | rfl, 0, _, by rw [Go.Sort.alloc_eq_grow, Go.Sort.alloc_eq_grow, Go.Sort.grow_grow]; rfl⟩
theorem zbcmpLays_any (blk off size : Nat) (w : World) : Go.Proofs.CmpLays prog 159 #[] zbL 4 zbC blk off size w := fun _ _ _ _ x y => zbcmp_any x y _
theorem zbs_len (L : List Zb) : (L.flatMap zbL).length = L.length * 4 := by
 induction L with
 | nil => rfl
 | cons z L ih => rw [List.flatMap_cons, List.length_append, ih, zbL_len]; simp; omega
theorem zbflat (L : List Zb) : L.flatMap zbL = (L.map (·.1)).flatMap znV := by
 rw [List.flatMap_map]
 rfl
theorem zflatK (L : List Zb) : Go.Sort.flatK zbL 4 L.toArray = (L.flatMap zbL).toArray := by
 apply Array.ext_getElem?
 intro t
 have hR : (L.flatMap zbL).toArray[t]? = (L.flatMap zbL)[t]? := by simp
 rw [hR]
 by_cases ht : t < L.length * 4
 ·have hd : t = t / 4 * 4 + t % 4 := by omega
  have hk : t / 4 < L.length := by omega
  have h1 : (Go.Sort.flatK zbL 4 L.toArray)[t]? = some ((zbL L.toArray[t / 4]!)[t % 4]!) := by
   have h0 : t < (Go.Sort.flatK zbL 4 L.toArray).size := by rw [Go.Sort.size_flatK]; simpa using ht
   rw [Array.getElem?_eq_getElem h0, ← getElem!_pos (Go.Sort.flatK zbL 4 L.toArray) t h0, Go.Sort.get_flatK _ _ _ _ (by simpa using ht)]
  rw [h1]
  have h2 := flatN (s := 4) (f := zbL) zbL_len L (t / 4) L[t / 4] (gE_ hk) (t % 4) (by omega)
  rw [← hd] at h2
  rw [h2]
  have h3 : L.toArray[t / 4]! = L[t / 4] := by
   rw [getElem!_pos L.toArray (t / 4) (by simpa using hk)]
   simp
  rw [h3]
  have h4 : t % 4 < (zbL L[t / 4]).length := by rw [zbL_len]; omega
  rw [gE_ h4, getElem!_pos (zbL L[t / 4]) (t % 4) h4]
 rw [Array.getElem?_eq_none (by rw [Go.Sort.size_flatK]; simp; omega), List.getElem?_eq_none (by rw [zbs_len]; omega)]
def zbsC (L : List Zb) (junk : List Value) : Array Value := (L.flatMap zbL ++ junk).toArray
theorem zbsC_splice {L L' : List Zb} {junk : List Value} (h : L'.length = L.length) : splice (zbsC L junk) 0 (L'.flatMap zbL) = zbsC L' junk := by
 have h1 := zbs_len L
 have h2 := zbs_len L'
 apply Array.ext'
 rw [splice_list _ _ _ (by unfold zbsC; rw [List.size_toArray, List.length_append]; omega)]
 unfold zbsC
 rw [List.toList_toArray, List.toList_toArray, List.take_zero, List.nil_append, Nat.zero_add, h2, h, ← h1, List.drop_left]
theorem Chg.grown_ {D : Nat → Prop} (w : World) (os : Array Obj) (q : Nat) : Chg D w (Go.Sort.grow (w.drewN q) os) := ⟨rfl, rfl, rfl, by simp [Go.Sort.grow, World.drewN], fun k hk _ => by
 show (w.heap ++ os)[k]? = _
 rw [Array.getElem?_append_left hk]⟩
def SbPost (S : Nat → Prop) (w0 : World) (g : Nat) (d : List Zb) (junk : List Value) (e : Ending) (w' : World) : Prop :=
 e = .returned (.tuple #[]) ∧ ∃ d' : List Zb, d'.Perm d ∧ (d'.Pairwise fun a b => a.1.lo ≤ b.1.lo) ∧ Inv S w0 w' [B g 206 (zbsC d' junk)]
theorem sortB_any (g n c : Nat) (d : List Zb) (junk : List Value) (S : Nat → Prop) (w0 : World) (hn : d.length = n) (hl : n ≤ 1000000) (hI : Inv S w0 w0 [B g 206 (zbsC d junk)]) :
  Cq 158 #[.slice (some ⟨g, 0, none⟩) n c, cmpV] w0 (SbPost S w0 g d junk) := by
 have hB : Blk w0 g 206 (zbsC d junk) := hI.g0
 have eg : ∀ args w, (callFunc 159 args).run prog w = .ok (.enter 159 args) w := enters_of func159 (by kernel_rfl) rfl
 have hH : Go.Sort.HoldsK zbL 4 w0 g 0 d.toArray := by
  unfold Go.Sort.HoldsK
  rw [zflatK]
  intro j hj
  have hj' : j < (d.flatMap zbL).length := by simpa using hj
  refine ⟨?_, hB.frozen _⟩
  rw [Nat.zero_add, hB.cell]
  unfold zbsC
  rw [show (d.flatMap zbL ++ junk).toArray[j]? = (d.flatMap zbL ++ junk)[j]? by simp, List.getElem?_append_left hj', gE_ hj']
  show _ = some ((d.flatMap zbL).toArray[j]!)
  rw [getElem!_pos (d.flatMap zbL).toArray j hj]
  simp
 have hcon := Go.Proofs.AnyQ.slices_SortFunc Tryz.sortZ 4 isAgg206 sizeOf206 zbL zbL_len (fun x v hv => by
  obtain ⟨⟨x0, x1, x2, x3⟩, hx⟩ := x
  simp [zbL, znV] at hv
  rcases hv with rfl | rfl | rfl | rfl <;> rfl) zbC zbSwo 159 #[] g 0 c d.toArray w0 eg (zbcmpLays_any g 0 _ w0) hH (Blk.lt hB) (by simp; omega)
 change Cq 158 _ _ _ at hcon
 rw [show d.toArray.size = n by simpa using hn] at hcon
 refine hcon.mono ?_
 rintro e w' ⟨rfl, d', q, os, hp, hs, rfl⟩
 obtain ⟨hsz, _, hperm⟩ := hp
 have hln : d'.toList.length = d.length := by simpa using hsz
 have hpm : d'.toList.Perm d := by
  have h1 : d'.extract 0 n = d' := by
   rw [show n = d'.size by rw [hsz]; simpa using hn.symm]
   simp
  have h2 : d.toArray.extract 0 n = d.toArray := by
   rw [show n = d.toArray.size by simpa using hn.symm]
   simp
  rw [h1, h2] at hperm
  simpa using hperm
 have hso : d'.toList.Pairwise fun a b => a.1.lo ≤ b.1.lo := by
  rw [List.pairwise_iff_getElem]
  intro i j hi hj hij
  have h1 := hs i j (Nat.zero_le _) hij (by simp at hj; rw [hsz] at hj; simp at hj; omega)
  rw [zbLt, getElem!_pos d' j (by simpa using hj), getElem!_pos d' i (by simpa using hi)] at h1
  simp at h1 ⊢
  exact h1
 refine ⟨Z, d'.toList, hpm, hso, ?_⟩
 have hw : Go.Proofs.sortWorldK zbL 4 w0 g 0 q d' os = Go.Sort.grow ((w0.drewN q).setCells g 0 (d'.toList.flatMap zbL)) os := by
  unfold Go.Proofs.sortWorldK Go.Sort.putRowK
  have e1 : Go.Sort.flatK zbL 4 d' = (d'.toList.flatMap zbL).toArray := by
   have := zflatK d'.toList
   simpa using this
  rw [e1]
  have e2 := Go.Lib.putRow_eq_setCells id w0 g 0 (Go.Sort.flatK zbL 4 d.toArray) (d'.toList.flatMap zbL) q hH (by rw [zbs_len, Go.Sort.size_flatK, hln]; simp)
  rw [e2, List.map_id]
 rw [hw]
 have hB2 : Blk (w0.drewN q) g 206 (zbsC d junk) := hB
 have hB3 := hB2.setCells (d'.toList.flatMap zbL) 0
 rw [zbsC_splice hln] at hB3
 have hlt : g < ((w0.drewN q).setCells g 0 (d'.toList.flatMap zbL)).heap.size := hB3.lt
 have hB4 : Blk (Go.Sort.grow ((w0.drewN q).setCells g 0 (d'.toList.flatMap zbL)) os) g 206 (zbsC d'.toList junk) := by
  show (((w0.drewN q).setCells g 0 (d'.toList.flatMap zbL)).heap ++ os)[g]? = _
  rw [Array.getElem?_append_left hlt]
  exact hB3
 have hC1 : Chg (B g 206 (zbsC d junk)).D w0 ((w0.drewN q).setCells g 0 (d'.toList.flatMap zbL)) := Chg.setCells (S := (B g 206 (zbsC d junk)).D) (b := g) (.inl rfl) _ _ (by
  have := Chg.grown_ (D := (B g 206 (zbsC d junk)).D) w0 #[] q
  rwa [Go.Sort.grow_empty] at this)
 have hC2 : Chg (B g 206 (zbsC d junk)).D ((w0.drewN q).setCells g 0 (d'.toList.flatMap zbL)) (Go.Sort.grow ((w0.drewN q).setCells g 0 (d'.toList.flatMap zbL)) os) := Chg.grown_ _ os 0
 exact hI.upd 0 Z (hC1.trans' hC2 (fun _ _ h => h)) (B.ok hB4) (fun k hk => .inl hk)
theorem zbsC_eq (L : List Zb) (junk : List Value) : zbsC L junk = zonC (L.map (·.1)) junk := by
 unfold zbsC zonC
 rw [zbflat]
theorem sort_any (g n c : Nat) (L0 : List Zn) (junk : List Value) (S : Nat → Prop) (w0 : World) (hn : L0.length = n) (hb : ∀ z ∈ L0, -2 ≤ z.lo ∧ z.lo ≤ 1000000) (hl : n ≤ 1000000) (hI : Inv S w0 w0 [B g 206 (zonC L0 junk)]) :
  Cq 158 #[.slice (some ⟨g, 0, none⟩) n c, cmpV] w0 (SortPost S w0 g L0 junk) := by
 have e0 : (L0.attachWith _ hb).map (·.1) = L0 := by simp
 have hI' : Inv S w0 w0 [B g 206 (zbsC (L0.attachWith _ hb) junk)] := by rw [zbsC_eq, e0]; exact hI
 refine (sortB_any g n c (L0.attachWith _ hb) junk S w0 (by simp [hn]) hl hI').mono ?_
 rintro e w' ⟨rfl, d', h1, h2, h3⟩
 refine ⟨Z, d'.map (·.1), ?_, ?_, ?_⟩
 ·have := h1.map (·.1)
  rwa [e0] at this
 ·rw [List.pairwise_map]; exact h2
 rw [← zbsC_eq]; exact h3
end Go.Proofs.YtnckdmogdehnoaaGreatDoor
