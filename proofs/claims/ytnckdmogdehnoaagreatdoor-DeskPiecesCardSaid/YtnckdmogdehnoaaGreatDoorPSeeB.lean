/- Part of the proof that a desk answers in pieces. -/
import Derived.Test.YtnckdmogdehnoaaGreatDoorPA
import Derived.Test.YtnckdmogdehnoaaGreatDoorPGraphB
import Derived.Test.YtnckdmogdehnoaaGreatDoorMgx
import Derived.Lib.AppendZeros
set_option maxHeartbeats 2000000
set_option linter.unusedVariables false
set_option linter.unusedSimpArgs false
namespace Go.Proofs.YtnckdmogdehnoaaGreatDoor
open Tryz
open Go.RowKit
variable {l : List Nat} {base c e k n : Nat} {A : Option Addr} {w : World}
def carRec (l : List St) (i k : Nat) : Bool := match placeF l (sAt l i).tx 3 0 l.length, placeF l (sAt l k).tx 3 0 l.length with
 | none, _ => false
 | some _, none => true
 | some own, some other => decide (own < other)
def carStep (l : List St) (i : Nat) (t : Bool × Bool × Bool) : Bool × Bool × Bool :=
 if 3 ≤ (sAt l i).kind then t else match writerF l i with
 | none => t
 | some k => if (sAt l k).tx = (sAt l i).tx then t else if placeF l (sAt l k).tx 3 0 i ≠ none then t else
   if (sAt l i).kind = 2 then (t.1, t.2.1, false) else if carRec l i k = true then (false, false, false) else (t.1, false, false)
def carTo (l : List St) : Nat → Bool × Bool × Bool
 | 0 => (true, true, true)
 | k + 1 => carStep l k (carTo l k)
def CarefulPost (l : List St) (w0 : World) (en : Ending) (w' : World) : Prop :=
 ((OkSteps l ∧ en = .returned (.tuple #[.agg #[.bool (carTo l l.length).1, .bool (carTo l l.length).2.1, .bool (carTo l l.length).2.2], .nilIface])) ∨
  (¬ OkSteps l ∧ ∃ e n, en = .returned (.tuple #[.agg #[.bool false, .bool false, .bool false], e]) ∧ IsE w' e n ∧ FreshE w0 e ∧ (n = 1 ∨ n = 2 ∨ n = 4 ∨ n = 6))) ∧ Pure w0 w'
theorem IsE.form {e : Value} {n : Int} (h : IsE w e n) : ∃ t u, e = .iface t u := by
 rcases h with rfl | ⟨b, o, rfl, _⟩ <;> exact ⟨_, _, rfl⟩
theorem careful_any (A : Option Addr) (n c : Nat) (l : List St) (D : Nat → Prop) (w0 : World) (h : Sts w0 D (.slice A n c) l) (hg : GlobOk w0) :
  Cq 53 #[.slice A n c] w0 (CarefulPost l w0) := by
 have hI := Inv.start (fun _ => False) w0
 obtain ⟨hn, hc1, hc2⟩ := h.len
 refine Vm func53 Z (Wq (Vz (.agg #[.bool false, .bool false, .bool false]) (#[.bool false, .bool false, .bool false]) hI Z ?_))
 rintro b2 w - - hI
 refine Vw Z (Wn (Ws (Wq (Va Z (Vd [.slice _ _ _] Z func70 Z ((scheck_any A n c l D _ (h.pure hI.pu) (hI.oldp hg)).mono ?_))))))
 rintro e w1 ⟨hcase, hp⟩
 have hcase' : ∃ v, e = .returned v ∧ ((OkSteps l ∧ v = .nilIface) ∨ (¬ OkSteps l ∧ ∃ n, IsE w1 v n ∧ FreshE w v ∧ (n = 1 ∨ n = 2 ∨ n = 4 ∨ n = 6))) := by
  rcases hcase with ⟨h1, rfl⟩ | ⟨h1, e', n', rfl, h2, h4, h3⟩
  ·exact ⟨_, Z, .inl ⟨h1, Z⟩⟩
  exact ⟨_, Z, .inr ⟨h1, n', h2, h4, h3⟩⟩
 obtain ⟨v, rfl, hv⟩ := hcase'
 refine rV ?_
 have hIold := hI
 have hI := hI.pure hp
 refine U7 Z (Wn ?_)
 rcases hv with ⟨hok, rfl⟩ | ⟨hbad, m, hE, hF, hm⟩
 rotate_left
 ·obtain ⟨t, u, rfl⟩ := hE.form
  have hF0 : FreshE w0 (.iface t u) := fun b o he => Nat.le_trans hIold.chg.size (hF b o he)
  clear hI
  have hI := hIold.fresh hp (ErrE.ok hE) (fun k ⟨o, hk⟩ => hF k o hk)
  refine Wq (Vy Z (U0 Z yy37 Z (Yt Z (Wq (Tc [] [_, _, _] Z [.bool false, .bool false, .bool false] [] Z (fun _ => by kernel_rfl) (Vy rfl (Ui 3 (#[_, _, _]) (.agg #[_, _, _]) hI rfl ?_)))))))
  intro w hI
  exact Vt Z (Wn (WR (retC2 (n := 3) (t := 87) (.inr Z) Z Z (by kernel_rfl) (by kernel_rfl) Z hI.g1 ⟨.inr ⟨hbad, _, m, Z, hI.g0, hF0, hm⟩, hI.pu⟩)))
 clear hIold
 refine Wq (Td Z (Tv Z yy37 Z (Yf Z (Wk (Wq (Tc [(0, .bool _), (1, .bool _), (2, .bool _)] [_, _, _] Z [.bool false, .bool false, .bool false] [0, 1, 2] Z (fun _ => by kernel_rfl) (Vz (.agg #[.bool false, .bool false, .bool false]) (#[.bool false, .bool false, .bool false]) hI rfl ?_)))))))
 rintro b5 w - - hI
 refine T2 3 (#[_, _, _]) (.agg _) hI Z ?_
 intro w hI
 refine Wn (Ws (Wq (Va Z (Vo Z yy27 Z (V0 Z (Wn (Wb ?_)))))))
 refine W_loop (fun ρ w => ∃ k : Nat, k ≤ n ∧ Has ρ [(20, Y (k : Int)), (19, Y (n : Int)), (18, .slice A n c), (0, .slice A n c), (5, .pointer (some ⟨b5, 0, none⟩)), (2, .pointer (some ⟨b2, 0, none⟩))] ∧ Inv NF w0 w [B b5 87 #[.bool (carTo l k).1, .bool (carTo l k).2.1, .bool (carTo l k).2.2], B b2 87 #[.bool false, .bool false, .bool false]]) (fun ρ _ => n - cnt (ρ 20))
  ⟨0, by omega, ⟨rfl, rfl, rfl, rfl, rfl, rfl, trivial⟩, hI⟩ ?_
 clear hI
 rintro ρ w ⟨k, hk, hH, hI⟩
 obtain ⟨σ, rfl⟩ := hH.open
 by_cases hkn : k < n
 rotate_left
 ·obtain rfl : k = n := by omega
  refine Wq (Vr Z (Yg Z (WE (Wq (Tt 3 Z hI.g0 (Ui 3 (#[_, _, _]) (.agg _) hI Z ?_))))))
  intro w hI
  refine Vw Z (Wn (WR (retC2 (n := 3) (t := 87) (.inr Z) Z Z (by kernel_rfl) (by kernel_rfl) Z hI.g1 ⟨.inl ⟨hok, ?_⟩, hI.pu⟩)))
  rw [← hn]; rfl
 obtain ⟨bA, oA, rfl, q0, q1, q2⟩ := h.at (show k < l.length by omega)
 have hcs : carTo l (k + 1) = carStep l k (carTo l k) := rfl
 unfold carStep at hcs
 refine Wq (Vu Z (Yu Z (Wk (Ws (Wb (Wq (V0 Z (Th 3 Z yy27 Z (Up Z (hI.oldp q0) (hI.oldp q1) (hI.oldp q2) (Vz (.agg #[Y 0, Y 0, Y 0]) (#[Y 0, Y 0, Y 0]) hI Z ?_))))))))))
 rintro b7 w - - hI
 refine Vb Z (T2 3 (#[_, _, _]) (.agg #[_, _, _]) hI Z ?_)
 intro w hI
 refine Wn ?_
 by_cases h3 : 3 ≤ (sAt l k).kind
 ·have hcar := hcs.trans (if_pos h3)
  exact Ws (Wq (V8 1 Z (Yc hI Z Z (U1 Z (Yt Z (WE (Wr (Vl Z (V0 Z (Wn ⟨⟨k + 1, by omega, g6_, by rw [hcar]; exact hI.d0⟩, by show n - ((k + 1 : Nat) : Int).toNat < n - (k : Int).toNat; omega⟩))))))))))
 rw [if_neg h3] at hcs
 have h3' : (sAt l k).kind < 3 := by omega
 refine Ws (Wq (V8 1 Z (Yc hI Z Z (Uf Z (Yf Z (Wk (Wq (Va Z (V0 Z (Vd [.slice _ _ _, Y _] Z func85 Z ((writer_any _ n c l k D _ (h.pure hI.pu) hkn).mono (okP hI fun w1 hp hI => Vb Z (Wn ?_)))))))))))))
 cases hw : writerF l k with
 | none =>
  rw [hw] at hcs
  have hcar : carTo l (k + 1) = carTo l k := hcs
  exact Ws (Ws (Yi hI fun Sx hY hXS hI => Vh 0 Z (Wt 1 Z (fun W hW => have hI := hY W hW; (rLssT (a := -1) Z Z Z (by omega))) (Ve 2 Z (V4 3 Z Z (V4 4 Z Z (V4 5 Z Z (V4 6 Z Z (V4 7 Z Z (V4 8 Z Z (V4 9 Z Z (V4 10 Z Z (Vv 11 Z (Ve 12 Z (V4 13 Z Z (V4 14 Z Z (V4 15 Z Z (V4 16 Z Z (V4 17 Z Z (V4 18 Z Z (V4 19 Z Z (V4 20 Z Z (V4 21 Z Z (Vv 22 Z (Yz (Wc true Z (WE (Wr (Vl Z (V0 Z (Wn ⟨⟨k + 1, by omega, g6_, by rw [hcar]; exact hI.d0⟩, by show n - ((k + 1 : Nat) : Int).toNat < n - (k : Int).toNat; omega⟩)))))))))))))))))))))))))))))))
 | some m =>
  rw [hw] at hcs
  simp only at hcs
  have hmk := writerTo_lt hw
  obtain ⟨bB, oB, hAB, r0, r1, r2⟩ := h.at (show m < l.length by omega)
  injection hAB with hAB
  injection hAB with e1 e2
  subst e1 e2
  by_cases htx : (sAt l m).tx = (sAt l k).tx
  ·have hcar := hcs.trans (if_pos htx)
   exact Ws (Ws (Yi hI fun Sx hY hXS hI => Vh 0 Z (Wt 1 Z (fun W hW => have hI := hY W hW; (rLssF (a := ((m : Nat) : Int)) Z Z Z (by omega))) (Ve 2 Z (Vp 3 Z (Um 4 ((m : Nat) : Int) Z (Tb 5 3 Z yy27 Z (Uk 6 Z (V9 7 (Y _) Z (Yo hY r0) (Vf 8 0 Z (Ye 9 hY Z Z (U8 10 Z (Vn 11 Z (Ve 12 Z (V4 13 Z Z (V4 14 Z Z (V4 15 Z Z (V4 16 Z Z (V4 17 Z Z (V4 18 Z Z (V4 19 Z Z (V4 20 Z Z (V4 21 Z Z (Vv 22 Z (Yz (Wc true Z (WE (Wr (Vl Z (V0 Z (Wn ⟨⟨k + 1, by omega, g6_, by rw [hcar]; exact hI.d0⟩, by show n - ((k + 1 : Nat) : Int).toNat < n - (k : Int).toNat; omega⟩)))))))))))))))))))))))))))))))
  rw [if_neg htx] at hcs
  by_cases hpl : placeF l (sAt l m).tx 3 0 k = none
  rotate_left
  ·obtain ⟨z, hz⟩ := Option.ne_none_iff_exists'.1 hpl
   have hcar := hcs.trans (if_pos hpl)
   refine Ws (Ws (Yi hI fun Sx hY hXS hI => Vh 0 Z (Wt 1 Z (fun W hW => have hI := hY W hW; (rLssF (a := ((m : Nat) : Int)) Z Z Z (by omega))) (Ve 2 Z (Vp 3 Z (Um 4 ((m : Nat) : Int) Z (Tb 5 3 Z yy27 Z (Uk 6 Z (V9 7 (Y _) Z (Yo hY r0) (Vf 8 0 Z (Ye 9 hY Z Z (U5 10 Z (Vn 11 Z (Ve 12 Z (Vp 13 Z (Vp 14 Z (Um 15 ((m : Nat) : Int) Z (Tb 16 3 Z yy27 Z (Uk 17 Z (V9 18 (Y _) Z (Yo hY r0) (Vh 19 Z (Vq 20 Z (Vd [.slice _ _ _, Y _, Y _, Y _, Y _] Z func86 Z ((place_any _ n c l _ 3 0 k D _ (h.pure hI.pu) (by omega)).mono ?_))))))))))))))))))))))))
   rw [hz]
   rintro e w1 ⟨rfl, hp⟩
   refine rV ?_
   have hI := hI.pure hp
   have hzz : optI (some z) = (z : Int) := rfl
   exact Wn ⟨hXS _ hI, (Wt 21 Z (fun W hW => have hI := hY W hW; (by exact rGeqT rfl rfl rfl (by omega))) (Vn 22 Z (Yz (Wc true Z (WE (Wr (Vl Z (V0 Z (Wn ⟨⟨k + 1, by omega, g6_, by rw [hcar]; exact hI.d0⟩, by show n - ((k + 1 : Nat) : Int).toNat < n - (k : Int).toNat; omega⟩)))))))))⟩
  rw [if_neg (fun h => h hpl)] at hcs
  refine Ws (Ws (Yi hI fun Sx hY hXS hI => Vh 0 Z (Wt 1 Z (fun W hW => have hI := hY W hW; (rLssF (a := ((m : Nat) : Int)) Z Z Z (by omega))) (Ve 2 Z (Vp 3 Z (Um 4 ((m : Nat) : Int) Z (Tb 5 3 Z yy27 Z (Uk 6 Z (V9 7 (Y _) Z (Yo hY r0) (Vf 8 0 Z (Ye 9 hY Z Z (U5 10 Z (Vn 11 Z (Ve 12 Z (Vp 13 Z (Vp 14 Z (Um 15 ((m : Nat) : Int) Z (Tb 16 3 Z yy27 Z (Uk 17 Z (V9 18 (Y _) Z (Yo hY r0) (Vh 19 Z (Vq 20 Z (Vd [.slice _ _ _, Y _, Y _, Y _, Y _] Z func86 Z ((place_any _ n c l _ 3 0 k D _ (h.pure hI.pu) (by omega)).mono ?_))))))))))))))))))))))))
  rw [hpl]
  rintro e w1 ⟨rfl, hp⟩
  refine rV ?_
  have hI := hI.pure hp
  have hzz : optI none = -1 := rfl
  refine Wn ⟨hXS _ hI, (Wt 21 Z (fun W hW => have hI := hY W hW; (by exact rGeqF rfl rfl rfl (by omega))) (Vn 22 Z (Yz (Wc false Z (Wk (Wq (V8 2 Z (WL_st1 (u := .bool _) hI Z Z Z Z Z Z (by kernel_rfl) Z Z Z ?_))))))))⟩
  intro w hI
  refine Wn ?_
  by_cases h2 : (sAt l k).kind = 2
  ·have hcar := hcs.trans (if_pos h2)
   exact Ws (Wq (V8 1 Z (Yc hI Z Z (Vx Z (Yt Z (WE (Wr (Vl Z (V0 Z (Wn ⟨⟨k + 1, by omega, g6_, by rw [hcar]; exact hI.d0⟩, by show n - ((k + 1 : Nat) : Int).toNat < n - (k : Int).toNat; omega⟩))))))))))
  rw [if_neg h2] at hcs
  refine Ws (Wq (V8 1 Z (Yc hI Z Z (Vs Z (Yf Z (Wk (Wq (V8 1 Z (WL_st1 (u := .bool _) hI Z Z Z Z Z Z (by kernel_rfl) Z Z Z ?_)))))))))
  intro w hI
  refine Wn ?_
  unfold carRec at hcs
  rw [← hn] at hcs
  cases hown : placeF l (sAt l k).tx 3 0 n with
  | none =>
   rw [hown] at hcs
   have hcar : carTo l (k + 1) = ((carTo l k).1, false, false) := hcs
   have hz1 : optI none = -1 := rfl
   cases hoth : placeF l (sAt l m).tx 3 0 n with
   | none =>
    refine Ws (Yi hI fun Sx hY hXS hI => Vp 0 Z (Vf 1 0 Z (Ye 2 hY Z Z (Vp 3 Z (U2 4 Z yy27 Z (Vp 6 Z (Vp 7 Z (Um 8 ((m : Nat) : Int) Z (Tb 9 3 Z yy27 Z (Uk 10 Z (V9 11 (Y _) Z (Yo hY r0) (Vp 12 Z (U2 13 Z yy27 Z (Vq 5 Z (Vd [.slice _ _ _, Y _, Y _, Y _, Y _] Z func86 Z ((place_any _ n c l _ 3 0 n D _ (h.pure hI.pu) (by omega)).mono ?_))))))))))))))))
    rw [hown]
    rintro e w1 ⟨rfl, hp⟩
    refine rV ?_
    have hI := hI.pure hp
    refine Wn ⟨hXS _ hI, (Vq 14 Z (Vd [.slice _ _ _, Y _, Y _, Y _, Y _] Z func86 Z ((place_any _ n c l _ 3 0 n D _ (h.pure hI.pu) (by omega)).mono ?_)))⟩
    rw [hoth]
    rintro e w1 ⟨rfl, hp⟩
    refine rV ?_
    have hI := hI.pure hp
    exact Wn ⟨hXS _ hI, (Tl 15 Z (Tl 16 Z (Yz (Wq (V0 Z (Uf Z (V7 Z (V5 Z (V5 Z (V5 Z (V5 Z (V5 Z (V5 Z (V5 Z (Vi Z (Yf Z (Wk (Wr (Vl Z (V0 Z (Wn ⟨⟨k + 1, by omega, g6_, by rw [hcar]; exact hI.d0⟩, by show n - ((k + 1 : Nat) : Int).toNat < n - (k : Int).toNat; omega⟩)))))))))))))))))))))⟩
   | some q =>
    refine Ws (Yi hI fun Sx hY hXS hI => Vp 0 Z (Vf 1 0 Z (Ye 2 hY Z Z (Vp 3 Z (U2 4 Z yy27 Z (Vp 6 Z (Vp 7 Z (Um 8 ((m : Nat) : Int) Z (Tb 9 3 Z yy27 Z (Uk 10 Z (V9 11 (Y _) Z (Yo hY r0) (Vp 12 Z (U2 13 Z yy27 Z (Vq 5 Z (Vd [.slice _ _ _, Y _, Y _, Y _, Y _] Z func86 Z ((place_any _ n c l _ 3 0 n D _ (h.pure hI.pu) (by omega)).mono ?_))))))))))))))))
    rw [hown]
    rintro e w1 ⟨rfl, hp⟩
    refine rV ?_
    have hI := hI.pure hp
    refine Wn ⟨hXS _ hI, (Vq 14 Z (Vd [.slice _ _ _, Y _, Y _, Y _, Y _] Z func86 Z ((place_any _ n c l _ 3 0 n D _ (h.pure hI.pu) (by omega)).mono ?_)))⟩
    rw [hoth]
    rintro e w1 ⟨rfl, hp⟩
    refine rV ?_
    have hI := hI.pure hp
    exact Wn ⟨hXS _ hI, (Tl 15 Z (Tl 16 Z (Yz (Wq (V0 Z (Uf Z (V7 Z (V5 Z (V5 Z (V5 Z (V5 Z (V5 Z (V5 Z (V5 Z (Vi Z (Yf Z (Wk (Wr (Vl Z (V0 Z (Wn ⟨⟨k + 1, by omega, g6_, by rw [hcar]; exact hI.d0⟩, by show n - ((k + 1 : Nat) : Int).toNat < n - (k : Int).toNat; omega⟩)))))))))))))))))))))⟩
  | some p =>
   rw [hown] at hcs
   have hz1 : optI (some p) = (p : Int) := rfl
   cases hoth : placeF l (sAt l m).tx 3 0 n with
   | none =>
    rw [hoth] at hcs
    have hcar : carTo l (k + 1) = (false, false, false) := hcs
    have hz2 : optI none = -1 := rfl
    refine Ws (Yi hI fun Sx hY hXS hI => Vp 0 Z (Vf 1 0 Z (Ye 2 hY Z Z (Vp 3 Z (U2 4 Z yy27 Z (Vp 6 Z (Vp 7 Z (Um 8 ((m : Nat) : Int) Z (Tb 9 3 Z yy27 Z (Uk 10 Z (V9 11 (Y _) Z (Yo hY r0) (Vp 12 Z (U2 13 Z yy27 Z (Vq 5 Z (Vd [.slice _ _ _, Y _, Y _, Y _, Y _] Z func86 Z ((place_any _ n c l _ 3 0 n D _ (h.pure hI.pu) (by omega)).mono ?_))))))))))))))))
    rw [hown]
    rintro e w1 ⟨rfl, hp⟩
    refine rV ?_
    have hI := hI.pure hp
    refine Wn ⟨hXS _ hI, (Vq 14 Z (Vd [.slice _ _ _, Y _, Y _, Y _, Y _] Z func86 Z ((place_any _ n c l _ 3 0 n D _ (h.pure hI.pu) (by omega)).mono ?_)))⟩
    rw [hoth]
    rintro e w1 ⟨rfl, hp⟩
    refine rV ?_
    have hI := hI.pure hp
    refine Wn ⟨hXS _ hI, (Tl 15 Z (Tl 16 Z (Yz (Wq (V0 Z (U1 Z (V7 Z (V0 Z (Vu Z (V7 Z (V5 Z (V5 Z (V5 Z (Vk Z (Vk Z (Yt Z (Wr (V8 0 Z (WL_st1 (u := .bool _) hI Z Z Z Z Z Z (by kernel_rfl) Z Z Z ?_)))))))))))))))))))⟩
    intro w hI
    exact Wn (Wr (Vl Z (V0 Z (Wn ⟨⟨k + 1, by omega, g6_, by rw [hcar]; exact hI.d0⟩, by show n - ((k + 1 : Nat) : Int).toNat < n - (k : Int).toNat; omega⟩))))
   | some q =>
    rw [hoth] at hcs
    have hz2 : optI (some q) = (q : Int) := rfl
    by_cases hpq : p < q
    ·have hcar : carTo l (k + 1) = (false, false, false) := by simpa [hpq] using hcs
     refine Ws (Yi hI fun Sx hY hXS hI => Vp 0 Z (Vf 1 0 Z (Ye 2 hY Z Z (Vp 3 Z (U2 4 Z yy27 Z (Vp 6 Z (Vp 7 Z (Um 8 ((m : Nat) : Int) Z (Tb 9 3 Z yy27 Z (Uk 10 Z (V9 11 (Y _) Z (Yo hY r0) (Vp 12 Z (U2 13 Z yy27 Z (Vq 5 Z (Vd [.slice _ _ _, Y _, Y _, Y _, Y _] Z func86 Z ((place_any _ n c l _ 3 0 n D _ (h.pure hI.pu) (by omega)).mono ?_))))))))))))))))
     rw [hown]
     rintro e w1 ⟨rfl, hp⟩
     refine rV ?_
     have hI := hI.pure hp
     refine Wn ⟨hXS _ hI, (Vq 14 Z (Vd [.slice _ _ _, Y _, Y _, Y _, Y _] Z func86 Z ((place_any _ n c l _ 3 0 n D _ (h.pure hI.pu) (by omega)).mono ?_)))⟩
     rw [hoth]
     rintro e w1 ⟨rfl, hp⟩
     refine rV ?_
     have hI := hI.pure hp
     refine Wn ⟨hXS _ hI, (Tl 15 Z (Tl 16 Z (Yz (Wq (V0 Z (U1 Z (V7 Z (V0 Z (Vr Z (V7 Z (V0 Z (V0 Z (U6 Z (Vi Z (Vk Z (Yt Z (Wr (V8 0 Z (WL_st1 (u := .bool _) hI Z Z Z Z Z Z (by kernel_rfl) Z Z Z ?_)))))))))))))))))))⟩
     intro w hI
     exact Wn (Wr (Vl Z (V0 Z (Wn ⟨⟨k + 1, by omega, g6_, by rw [hcar]; exact hI.d0⟩, by show n - ((k + 1 : Nat) : Int).toNat < n - (k : Int).toNat; omega⟩))))
    have hcar : carTo l (k + 1) = ((carTo l k).1, false, false) := by simpa [hpq] using hcs
    refine Ws (Yi hI fun Sx hY hXS hI => Vp 0 Z (Vf 1 0 Z (Ye 2 hY Z Z (Vp 3 Z (U2 4 Z yy27 Z (Vp 6 Z (Vp 7 Z (Um 8 ((m : Nat) : Int) Z (Tb 9 3 Z yy27 Z (Uk 10 Z (V9 11 (Y _) Z (Yo hY r0) (Vp 12 Z (U2 13 Z yy27 Z (Vq 5 Z (Vd [.slice _ _ _, Y _, Y _, Y _, Y _] Z func86 Z ((place_any _ n c l _ 3 0 n D _ (h.pure hI.pu) (by omega)).mono ?_))))))))))))))))
    rw [hown]
    rintro e w1 ⟨rfl, hp⟩
    refine rV ?_
    have hI := hI.pure hp
    refine Wn ⟨hXS _ hI, (Vq 14 Z (Vd [.slice _ _ _, Y _, Y _, Y _, Y _] Z func86 Z ((place_any _ n c l _ 3 0 n D _ (h.pure hI.pu) (by omega)).mono ?_)))⟩
    rw [hoth]
    rintro e w1 ⟨rfl, hp⟩
    refine rV ?_
    have hI := hI.pure hp
    exact Wn ⟨hXS _ hI, (Tl 15 Z (Tl 16 Z (Yz (Wq (V0 Z (U1 Z (V7 Z (V0 Z (Vr Z (V7 Z (V0 Z (V0 Z (U3 Z (Vi Z (Vk Z (Yf Z (Wk (Wr (Vl Z (V0 Z (Wn ⟨⟨k + 1, by omega, g6_, by rw [hcar]; exact hI.d0⟩, by show n - ((k + 1 : Nat) : Int).toNat < n - (k : Int).toNat; omega⟩)))))))))))))))))))))⟩
abbrev stI (s : St) : List Int := [s.tx, s.kind, s.key]
theorem stI_inj {s t : St} (h : stI s = stI t) : s = t := by
 cases s; cases t
 simp [stI] at h
 simp [h]
theorem idxS_any (A : Option Addr) (n c : Nat) (l : List St) (x : St) (D : Nat → Prop) (w0 : World) (h : Sts w0 D (.slice A n c) l) :
  Cq 174 #[.slice A n c, .agg (stV x).toArray] w0 fun en w' => (∃ o : Option Nat, en = .returned (.int .i64 (optI o)) ∧ (o.isSome = true ↔ x ∈ l)) ∧ Pure w0 w' := by
 have hI := Inv.start (fun _ => False) w0
 obtain ⟨hn, hc1, hc2⟩ := h.len
 refine Vm func174 Z (Wq (Tq (.agg _) (#[_, _, _]) hI Z ?_))
 rintro b3 w - - hI
 refine Vb Z (Wn (Ws (Wq (Va Z (Vo Z yy27 Z (V0 Z (Wn (Wb ?_))))))))
 refine W_loop (fun ρ w => ∃ k : Nat, k ≤ n ∧ (∀ j, j < k → sAt l j ≠ x) ∧ Has ρ [(8, Y (k : Int)), (7, Y (n : Int)), (0, .slice A n c), (3, .pointer (some ⟨b3, 0, none⟩))] ∧ Inv NF w0 w [B b3 114 #[Y x.tx, Y x.kind, Y x.key]]) (fun ρ _ => n - cnt (ρ 8))
  ⟨0, by omega, fun j hj => by omega, ⟨rfl, rfl, rfl, rfl, trivial⟩, hI⟩ ?_
 clear hI
 rintro ρ w ⟨k, hk, hno, hH, hI⟩
 obtain ⟨σ, rfl⟩ := hH.open
 by_cases hkn : k < n
 ·obtain ⟨bA, oA, rfl, q0, q1, q2⟩ := h.at (show k < l.length by omega)
  refine Wq (Vu Z (Yu Z (Wk (Ws (Wb (Wq (V0 Z (Vb Z (Wn ?_)))))))))
  by_cases hx : x = sAt l k
  ·exact Ws (Yi hI fun Sx hY hXS hI => Ul 0 3 Z (fun W hW => (hY W hW).g0) (Vp 1 Z (Vh 2 Z (Tb 3 3 Z yy27 Z (Wt 4 Z (fun W hW => have hI := hY W hW; (by exact rLd3 rfl (by kernel_rfl) (by kernel_rfl) rfl (by exact hI.oldp q0) (by exact hI.oldp q1) (by exact hI.oldp q2))) (Wt 5 Z (fun W hW => have hI := hY W hW; (rEqlS (n := 3) (la := stI x) (lb := stI (sAt l k)) Z (by kernel_rfl) Z Z Z Z)) (Yz (Wc true (by show Value.bool _ = _; rw [decide_eq_true (by rw [← hx])]) (Wq (V0 Z (Vb Z (Wn (WR (r1_ 4 Z ⟨⟨some k, Z, by simp only [Option.isSome_some, true_iff]; rw [hx]; simp [sAt, List.getD, gE_ (show k < l.length by omega)]⟩, hI.pu⟩))))))))))))))
  refine Ws (Yi hI fun Sx hY hXS hI => Ul 0 3 Z (fun W hW => (hY W hW).g0) (Vp 1 Z (Vh 2 Z (Tb 3 3 Z yy27 Z (Wt 4 Z (fun W hW => have hI := hY W hW; (by exact rLd3 rfl (by kernel_rfl) (by kernel_rfl) rfl (by exact hI.oldp q0) (by exact hI.oldp q1) (by exact hI.oldp q2))) (Wt 5 Z (fun W hW => have hI := hY W hW; (rEqlS (n := 3) (la := stI x) (lb := stI (sAt l k)) Z (by kernel_rfl) Z Z Z Z)) (Yz (Wc false (by show Value.bool _ = _; rw [decide_eq_false (fun e => hx (stI_inj e))]) (Wk (Wr (Vl Z (V0 Z (Wn ⟨⟨k + 1, by omega, fun j hj => ?_, g4_, hI⟩, by show n - ((k + 1 : Nat) : Int).toNat < n - (k : Int).toNat; omega⟩)))))))))))))
  rcases Nat.lt_or_ge j k with h1 | h1
  ·exact hno j h1
  have : j = k := by omega
  subst this; exact fun e => hx e.symm
 exact Wq (Vr Z (Yg Z (WE (Wq (Vb Z (Wn (WR (r1_ 4 Z ⟨⟨none, Z, by simp only [Option.isSome_none, Bool.false_eq_true, false_iff]; exact fun hm => all_getD (p := fun y => y ≠ x) (fun j hj => hno j (by omega)) x hm rfl⟩, hI.pu⟩))))))))
theorem conS_any (A : Option Addr) (n c : Nat) (l : List St) (x : St) (D : Nat → Prop) (w0 : World) (h : Sts w0 D (.slice A n c) l) :
  Cq 144 #[.slice A n c, .agg (stV x).toArray] w0 fun en w' => en = .returned (.bool (decide (x ∈ l))) ∧ Pure w0 w' := by
 have hI := Inv.start (fun _ => False) w0
 refine Vm func144 Z (Wq (Tq (.agg _) (#[_, _, _]) hI Z ?_))
 rintro b3 w - - hI
 refine Vc Z (Wn (Wq (Va Z (Tt 3 Z hI.g0 (Vd [.slice _ _ _, .agg _] Z func174 Z ((idxS_any A n c l x D _ (h.pure hI.pu)).mono ?_))))))
 rintro e w1 ⟨⟨o, rfl, ho⟩, hp⟩
 refine rV ?_
 have hI := hI.pure hp
 refine Wv Z (rGeq Z Z Z) (Vc Z (Wn (WR (r1_ 4 Z ⟨?_, hI.pu⟩))))
 have : decide (0 ≤ optI o) = decide (x ∈ l) := by
  rw [decide_eq_decide, ← ho]
  cases o <;> simp [optI]
 rw [← this]; rfl
theorem clo_any (s : St) (tx : Int) (b : Nat) (w0 : World) (hb : w0.cell? ⟨b, 0, none⟩ = some (.int .i64 tx)) : Cq 146 #[.agg (stV s).toArray, .pointer (some ⟨b, 0, none⟩)] w0 fun en w' => en = .returned (.bool (decide (s.tx = tx ∧ s.kind = 3))) ∧ Pure w0 w' := by
 have hI := Inv.start (fun _ => False) w0
 obtain ⟨a, k, y⟩ := s
 refine Vm func146 Z (Wq (Tq (.agg _) (#[_, _, _]) hI Z ?_))
 rintro b2 w - - hI
 refine Vc Z (Wn ?_)
 by_cases h1 : a = tx
 ·by_cases h2 : k = 3
  ·exact Wq (V8 0 Z (Yc hI Z Z (V6 (Y _) Z (hI.oldp hb) (Vx Z (V7 Z (V8 1 Z (Yc hI Z Z (Vx Z (Vk Z (Vc Z (Wn (WR (r1_ 3 Z ⟨by rw [decide_eq_true ⟨h1, h2⟩]; rfl, hI.pu⟩)))))))))))))
  exact Wq (V8 0 Z (Yc hI Z Z (V6 (Y _) Z (hI.oldp hb) (Vx Z (V7 Z (V8 1 Z (Yc hI Z Z (Vs Z (Vk Z (Vc Z (Wn (WR (r1_ 3 Z ⟨by rw [decide_eq_false (fun h => h2 h.2)]; rfl, hI.pu⟩)))))))))))))
 exact Wq (V8 0 Z (Yc hI Z Z (V6 (Y _) Z (hI.oldp hb) (Vs Z (V7 Z (V5 Z (V5 Z (V5 Z (Vi Z (Vc Z (Wn (WR (r1_ 3 Z ⟨by rw [decide_eq_false (fun h => h1 h.1)]; rfl, hI.pu⟩)))))))))))))
theorem idxF_any (A : Option Addr) (n c : Nat) (l : List St) (tx : Int) (b : Nat) (D : Nat → Prop) (w0 : World) (h : Sts w0 D (.slice A n c) l) (hb : w0.cell? ⟨b, 0, none⟩ = some (.int .i64 tx)) :
  Cq 175 #[.slice A n c, .func (.func 146) #[] #[.pointer (some ⟨b, 0, none⟩)]] w0 fun en w' => (∃ o : Option Nat, en = .returned (.int .i64 (optI o)) ∧ (o.isSome = true ↔ ∃ s ∈ l, s.tx = tx ∧ s.kind = 3)) ∧ Pure w0 w' := by
 have hI := Inv.start (fun _ => False) w0
 obtain ⟨hn, hc1, hc2⟩ := h.len
 refine Vm func175 Z (Wq (Vb Z (Wn (Ws (Wq (Va Z (Vo Z yy27 Z (V0 Z (Wn (Wb ?_))))))))))
 refine W_loop (fun ρ w => ∃ k : Nat, k ≤ n ∧ (∀ j, j < k → ¬ ((sAt l j).tx = tx ∧ (sAt l j).kind = 3)) ∧ Has ρ [(8, Y (k : Int)), (7, Y (n : Int)), (0, .slice A n c), (1, .func (.func 146) #[] #[.pointer (some ⟨b, 0, none⟩)])] ∧ Inv NF w0 w []) (fun ρ _ => n - cnt (ρ 8))
  ⟨0, by omega, fun j hj => by omega, ⟨rfl, rfl, rfl, rfl, trivial⟩, hI⟩ ?_
 clear hI
 rintro ρ w ⟨k, hk, hno, hH, hI⟩
 obtain ⟨σ, rfl⟩ := hH.open
 by_cases hkn : k < n
 ·obtain ⟨bA, oA, rfl, q0, q1, q2⟩ := h.at (show k < l.length by omega)
  refine Wq (Vu Z (Yu Z (Wk (Ws (Wb (Wq (V0 Z (Vb Z (Wn ?_)))))))))
  by_cases hx : (sAt l k).tx = tx ∧ (sAt l k).kind = 3
  ·refine Wq (Ua Z (Va Z (V0 Z (Th 3 Z yy27 Z (Up Z (hI.oldp q0) (hI.oldp q1) (hI.oldp q2) (Ue [.agg (stV (sAt l k)).toArray, .pointer _] [] [_] Z func146 Z ((clo_any (sAt l k) tx b _ (hI.oldp hb)).mono ?_)))))))
   rw [decide_eq_true hx]
   rintro e w1 ⟨rfl, hp⟩
   refine rV ?_
   have hI := hI.pure hp
   exact Yt Z (Wq (V0 Z (Vb Z (Wn (WR (r1_ 4 Z ⟨⟨some k, Z, by simp only [Option.isSome_some, true_iff]; exact ⟨sAt l k, by simp [sAt, List.getD, gE_ (show k < l.length by omega)], hx⟩⟩, hI.pu⟩))))))
  refine Wq (Ua Z (Va Z (V0 Z (Th 3 Z yy27 Z (Up Z (hI.oldp q0) (hI.oldp q1) (hI.oldp q2) (Ue [.agg (stV (sAt l k)).toArray, .pointer _] [] [_] Z func146 Z ((clo_any (sAt l k) tx b _ (hI.oldp hb)).mono ?_)))))))
  rw [decide_eq_false hx]
  rintro e w1 ⟨rfl, hp⟩
  refine rV ?_
  have hI := hI.pure hp
  refine Yf Z (Wk (Wr (Vl Z (V0 Z (Wn ⟨⟨k + 1, by omega, fun j hj => ?_, g4_, hI⟩, by show n - ((k + 1 : Nat) : Int).toNat < n - (k : Int).toNat; omega⟩)))))
  rcases Nat.lt_or_ge j k with h1 | h1
  ·exact hno j h1
  have : j = k := by omega
  subst this; exact hx
 refine Wq (Vr Z (Yg Z (WE (Wq (Vb Z (Wn (WR (r1_ 4 Z ⟨⟨none, Z, ?_⟩, hI.pu⟩))))))))
 simp only [Option.isSome_none, Bool.false_eq_true, false_iff]
 rintro ⟨s, hs, hp⟩
 exact all_getD (p := fun y => ¬ (y.tx = tx ∧ y.kind = 3)) (fun j hj => hno j (by omega)) s hs hp
theorem conF_any (A : Option Addr) (n c : Nat) (l : List St) (tx : Int) (b : Nat) (D : Nat → Prop) (w0 : World) (h : Sts w0 D (.slice A n c) l) (hb : w0.cell? ⟨b, 0, none⟩ = some (.int .i64 tx)) :
  Cq 145 #[.slice A n c, .func (.func 146) #[] #[.pointer (some ⟨b, 0, none⟩)]] w0 fun en w' => en = .returned (.bool (l.any fun s => decide (s.tx = tx ∧ s.kind = 3))) ∧ Pure w0 w' := by
 have hI := Inv.start (fun _ => False) w0
 refine Vm func145 Z (Wq (Vc Z (Wn (Wq (Va Z (Ua Z (Vd [.slice _ _ _, .func _ _ _] Z func175 Z ((idxF_any A n c l tx b D _ h hb).mono ?_))))))))
 rintro e w1 ⟨⟨o, rfl, ho⟩, hp⟩
 refine rV ?_
 have hI := hI.pure hp
 refine Wv Z (rGeq Z Z Z) (Vc Z (Wn (WR (r1_ 4 Z ⟨?_, hI.pu⟩))))
 have : decide (0 ≤ optI o) = (l.any fun s => decide (s.tx = tx ∧ s.kind = 3)) := by
  rw [Bool.eq_iff_iff, decide_eq_true_eq, List.any_eq_true]
  simp only [decide_eq_true_eq]
  rw [← ho]
  cases o <;> simp [optI]
 rw [← this]; rfl
def comB (l : List St) (t : Nat) : Bool := l.any fun s => decide (s.tx = (t : Int) ∧ s.kind = 3)
def commitsTo (l : List St) (k : Nat) : List Nat := (List.range k).filter (comB l)
def commitsF (l : List St) : List Nat := commitsTo l 8
theorem commitsTo_succ (l : List St) (k : Nat) : commitsTo l (k + 1) = if comB l k then commitsTo l k ++ [k] else commitsTo l k := by
 unfold commitsTo
 rw [List.range_succ, List.filter_append]
 cases h : comB l k <;> simp [h]
theorem commitsTo_len (l : List St) (k : Nat) : (commitsTo l k).length ≤ k := by
 have := List.length_filter_le (comB l) (List.range k)
 simpa [commitsTo] using this
theorem com_of_mem {l : List St} {t : Nat} (h : (⟨(t : Int), 3, 0⟩ : St) ∈ l) : comB l t = true := by
 unfold comB
 rw [List.any_eq_true]
 exact ⟨_, h, by simp⟩
def OwnedInts (w0 w' : World) (v : Value) (l : List Nat) : Prop := ∃ A c, v = .slice A l.length c ∧ w'.ownsRow w0.heap.size 3 1 (.slice A l.length c) l.length (natV l)
theorem commits_any (A : Option Addr) (n c : Nat) (l : List St) (D : Nat → Prop) (w0 : World) (h : Sts w0 D (.slice A n c) l) :
  Cq 96 #[.slice A n c] w0 fun en w' => (∃ v, en = .returned v ∧ OwnedInts w0 w' v (commitsF l)) ∧ Pure w0 w' := by
 have hI : Inv NF w0 w0 [Row w0.heap.size 3 1 none 0 0 (natV [])] := (Inv.start (fun _ => False) w0).fresh (Pure.refl w0) (Row.nil w0 _ _ _) (fun k hk => by simp [Row] at hk)
 refine Vm func96 Z (Wq (Vg Z (Wn (Wq (Vg Z (Wn (Ws (Wq (V0 Z (Wn (Wb ?_)))))))))))
 refine W_loop (fun ρ w => ∃ (k : Nat) (A' : Option Addr) (c' : Nat), k ≤ 8 ∧ Has ρ [(5, Y (k : Int)), (0, .slice A n c), (3, .slice A' (commitsTo l k).length c')] ∧ Inv NF w0 w [Row w0.heap.size 3 1 A' (commitsTo l k).length c' (natV (commitsTo l k))]) (fun ρ _ => 8 - cnt (ρ 5))
  ⟨0, none, 0, by omega, ⟨rfl, rfl, rfl, trivial⟩, hI⟩ ?_
 clear hI
 rintro ρ w ⟨k, A', c', hk, hH, hI⟩
 obtain ⟨σ, rfl⟩ := hH.open
 have hlen := commitsTo_len l k
 by_cases hk8 : k < 8
 ·have hsu := commitsTo_succ l k
  refine Wq (Vu Z (Yu Z (Wk (Ws (Wb (Wq (V0 Z (Vz (Y 0) (#[Y 0]) hI Z ?_))))))))
  rintro b4 w - - hI
  refine T2 1 #[_] (Y _) hI Z ?_
  intro w hI
  refine Wn (Wx (fun ρ w => ∃ b4, Has ρ [(16, .bool (comB l k)), (4, .pointer (some ⟨b4, 0, none⟩)), (5, Y (k : Int)), (0, .slice A n c), (3, .slice A' (commitsTo l k).length c')] ∧ Inv NF w0 w [B b4 3 #[Y (k : Int)], Row w0.heap.size 3 1 A' (commitsTo l k).length c' (natV (commitsTo l k))]) ?_ ?_)
  ·by_cases hm : (⟨(k : Int), 3, 0⟩ : St) ∈ l
   ·refine Wr (Va Z (Yc hI Z Z (Tc [(0, Y _), (1, Y _)] [_, _, _] Z [Y 0, Y 0, Y 0] [0, 1] Z (fun _ => by kernel_rfl) (Vd [.slice _ _ _, .agg _] rfl func144 rfl ((conS_any A n c l ⟨(k : Int), 3, 0⟩ D _ (h.pure hI.pu)).mono ?_)))))
    rw [decide_eq_true hm]
    rintro e w1 ⟨rfl, hp⟩
    refine rV ?_
    have hI := hI.pure hp
    exact V7 Z (V5 Z (V5 Z (V5 Z (Vk Z (Wn ⟨b4, ⟨by rw [com_of_mem hm]; rfl, Z, Z, Z, Z, trivial⟩, hI⟩)))))
   refine Wr (Va Z (Yc hI Z Z (Tc [(0, Y _), (1, Y _)] [_, _, _] Z [Y 0, Y 0, Y 0] [0, 1] Z (fun _ => by kernel_rfl) (Vd [.slice _ _ _, .agg _] rfl func144 rfl ((conS_any A n c l ⟨(k : Int), 3, 0⟩ D _ (h.pure hI.pu)).mono ?_)))))
   rw [decide_eq_false hm]
   rintro e w1 ⟨rfl, hp⟩
   refine rV ?_
   have hI := hI.pure hp
   exact V7 Z (Va Z (Tw [] [_] Z (Vd [.slice _ _ _, .func _ _ _] Z func145 Z ((conF_any A n c l (k : Int) b4 D _ (h.pure hI.pu) (hI.c0 Z)).mono (okP hI fun w1 hp hI => Vi Z (Wn ⟨b4, g5_, hI⟩))))))
  clear hI
  rintro ρ w ⟨b4, hH, hI⟩
  obtain ⟨σ, rfl⟩ := hH.open
  cases hcb : comB l k with
  | true =>
   rw [hcb, if_pos rfl] at hsu
   refine Wc true (by rw [← hcb]; rfl) (Wr (Va Z (Yc hI Z Z (T3 [(0, Y _)] [_] [Y 0] [0] hI Z yy41 (fun _ => by kernel_rfl) ?_))))
   rintro b19 w - - hI
   refine WL_app2 (z := Y 0) (by_ := 8) hI Z Z Z Z Z Z yy41 (by kernel_rfl) Z (by omega) (by rfl) hI.lit0 (by rfl) (by omega) (by omega) (by (have := hI.chg.size; omega)) ?_
   rintro A20 c20 w hA20 hc20 hI
   have hI := hI.d0
   refine Vg Z (Wn ?_)
   have hI := hI.d0
   refine Wr (Vl Z (V0 Z (Wn ?_)))
   have e1 : (commitsTo l k ++ [k]).length = (commitsTo l k).length + 1 := by simp
   have e2 : natV (commitsTo l k ++ [k]) = natV (commitsTo l k) ++ [.int .i64 ((k : Nat) : Int)] := by simp [natV]
   refine ⟨⟨k + 1, A20, c20, by omega, ⟨rfl, rfl, by rw [hsu, e1]; rfl, trivial⟩, by rw [hsu, e1, e2]; exact hI⟩, by show 8 - ((k + 1 : Nat) : Int).toNat < 8 - (k : Int).toNat; omega⟩
  | false =>
   rw [hcb, if_neg (by simp)] at hsu
   refine Wc false (by rw [← hcb]; rfl) (Wk ?_)
   have hI := hI.d0
   refine Wr (Vl Z (V0 Z (Wn ⟨⟨k + 1, A', c', by omega, ⟨rfl, rfl, by rw [hsu]; rfl, trivial⟩, by rw [hsu]; exact hI⟩, by show 8 - ((k + 1 : Nat) : Int).toNat < 8 - (k : Int).toNat; omega⟩)))
 obtain rfl : k = 8 := by omega
 exact Wq (Vr Z (Yg Z (WE (Wq (Va Z (Vg Z (Wn (WR (r1_ 2 Z ⟨⟨_, Z, A', c', Z, hI.g0⟩, hI.pu⟩)))))))))
theorem own_base' {base' : Nat} {e : TypeId} {size : Nat} {v : Value} {xs : List Value} (h : w.ownsRow base e size v n xs) (hb : base' ≤ base) : w.ownsRow base' e size v n xs := own_base h hb
theorem Inv.freshR {S : Nat → Prop} {w0 w' : World} {H : List Ent} {size : Nat} {xs : List Value} (hI : Inv S w0 w H) (hp : Pure w w') (hown : w'.ownsRow w.heap.size e size (.slice A n c) n xs) : Inv S w0 w' (Row 0 e size A n c xs :: H) :=
 hI.fresh hp (Row.ok (own_base' hown (Nat.zero_le _))) (fun k hk => by
  rcases hown.2 with ⟨hv, _⟩ | ⟨g, cap, cur, hv, hge, _⟩
  ·injection hv with hv; subst hv; simp [Row] at hk
  injection hv with hv; subst hv; have : some g = some k := hk; injection this with this; omega)
theorem ints_of_own {cs : List Nat} (h : w.ownsRow base e 1 (.slice A cs.length c) cs.length (natV cs)) : Ints w (fun _ => True) (.slice A cs.length c) (cs.map Int.ofNat) := by
 have := Rd.of_own (D := fun _ => True) h (fun _ _ _ => trivial)
 unfold Ints
 rw [List.length_map, List.map_map]
 exact this
theorem sts_of_own {l : List St} (h : w.ownsRow base e 3 (.slice A l.length c) l.length (l.flatMap stV)) : Sts w (fun _ => True) (.slice A l.length c) l := Rd.of_own (D := fun _ => True) h (fun _ _ _ => trivial)
def doneB (l : List St) (s : St) : Bool := decide (s.kind < 3) && decide (s.tx ∈ (commitsF l).map Int.ofNat)
def doneTo (l : List St) (k : Nat) : List St := (l.take k).filter (doneB l)
def doneF (l : List St) : List St := l.filter (doneB l)
theorem doneTo_succ (l : List St) (hk : k < l.length) : doneTo l (k + 1) = if doneB l (sAt l k) then doneTo l k ++ [sAt l k] else doneTo l k := by
 unfold doneTo
 rw [List.take_add_one, List.filter_append]
 have : l[k]?.toList = [sAt l k] := by simp [sAt, List.getD, gE_ hk]
 rw [this]
 cases h : doneB l (sAt l k) <;> simp only [List.filter_cons, List.filter_nil, h, if_true, Bool.false_eq_true, if_false, List.append_nil]
theorem doneTo_len (l : List St) (k : Nat) : (doneTo l k).length ≤ k := by
 have := List.length_filter_le (doneB l) (l.take k)
 simp [doneTo] at *
 omega
def OwnedSts (w0 w' : World) (v : Value) (l : List St) : Prop := ∃ A c, v = .slice A l.length c ∧ w'.ownsRow w0.heap.size 114 3 (.slice A l.length c) l.length (l.flatMap stV)
theorem done_any (A : Option Addr) (n c : Nat) (l : List St) (D : Nat → Prop) (w0 : World) (h : Sts w0 D (.slice A n c) l) (hn60 : n ≤ 200) :
  Cq 116 #[.slice A n c] w0 fun en w' => (∃ v, en = .returned v ∧ OwnedSts w0 w' v (doneF l)) ∧ Pure w0 w' := by
 obtain ⟨hn, hc1, hc2⟩ := h.len
 have hI : Inv NF w0 w0 [Row w0.heap.size 114 3 none 0 0 []] := (Inv.start (fun _ => False) w0).fresh (Pure.refl w0) (Row.nil w0 _ _ _) (fun k hk => by simp [Row] at hk)
 refine Vm func116 Z (Wq (Vg Z (Wn (Wq (Va Z (Vd [.slice _ _ _] Z func96 Z ((commits_any A n c l D _ (h.pure hI.pu)).mono ?_)))))))
 rintro e w1 ⟨⟨v, rfl, Ac, cc, rfl, hown⟩, hp⟩
 refine rV ?_
 have hI := hI.freshR hp hown
 have hI := hI.sw0
 refine Vg Z (Wn (Wq (Vg Z (Wn (Ws (Wq (Va Z (Vo Z yy27 Z (V0 Z (Wn (Wb ?_)))))))))))
 refine W_loop (fun ρ w => ∃ (k : Nat) (A' : Option Addr) (c' : Nat), k ≤ n ∧ Has ρ [(11, Y (k : Int)), (10, Y (n : Int)), (9, .slice A n c), (3, .slice Ac (commitsF l).length cc), (4, .slice A' (doneTo l k).length c')] ∧ Inv NF w0 w [Row w0.heap.size 114 3 A' (doneTo l k).length c' ((doneTo l k).flatMap stV), Row 0 3 1 Ac (commitsF l).length cc (natV (commitsF l))]) (fun ρ _ => n - cnt (ρ 11))
  ⟨0, none, 0, by omega, ⟨rfl, rfl, rfl, rfl, rfl, trivial⟩, hI⟩ ?_
 clear hI
 rintro ρ w ⟨k, A', c', hk, hH, hI⟩
 obtain ⟨σ, rfl⟩ := hH.open
 have hlen := doneTo_len l k
 by_cases hkn : k < n
 ·obtain ⟨bA, oA, rfl, q0, q1, q2⟩ := h.at (show k < l.length by omega)
  have hsu := doneTo_succ l (show k < l.length by omega)
  refine Wq (Vu Z (Yu Z (Wk (Ws (Wb (Wq (Th 3 Z yy27 Z (Up Z (hI.oldp q0) (hI.oldp q1) (hI.oldp q2) (Vz (.agg #[Y 0, Y 0, Y 0]) (#[Y 0, Y 0, Y 0]) hI Z ?_)))))))))
  rintro b6 w - - hI
  refine T2 3 (#[_, _, _]) (.agg #[_, _, _]) hI Z ?_
  intro w hI
  refine Wn (Wx (fun ρ w => ∃ b6, Has ρ [(23, .bool (doneB l (sAt l k))), (6, .pointer (some ⟨b6, 0, none⟩)), (11, Y (k : Int)), (10, Y (n : Int)), (9, .slice (some ⟨bA, oA, none⟩) n c), (3, .slice Ac (commitsF l).length cc), (4, .slice A' (doneTo l k).length c')] ∧ Inv NF w0 w [B b6 114 #[Y (sAt l k).tx, Y (sAt l k).kind, Y (sAt l k).key], Row w0.heap.size 114 3 A' (doneTo l k).length c' ((doneTo l k).flatMap stV), Row 0 3 1 Ac (commitsF l).length cc (natV (commitsF l))]) ?_ ?_)
  ·by_cases hm : (sAt l k).kind < 3
   ·exact Wr (V8 1 Z (Yc hI Z Z (Vu Z (V7 Z (Va Z (V8 0 Z (Yc hI Z Z (Vd [.slice _ _ _, Y _] Z func99 Z ((conI_any Ac _ cc _ (sAt l k).tx _ _ (ints_of_own hI.g2)).mono (okP hI fun w1 hp hI => Vk Z (Wn ⟨b6, ⟨by show Value.bool _ = _; unfold doneB; rw [decide_eq_true hm]; rfl, Z, Z, Z, Z, Z, Z, trivial⟩, hI⟩)))))))))))
   have hm' : 3 ≤ (sAt l k).kind := by omega
   exact Wr (V8 1 Z (Yc hI Z Z (Vr Z (V7 Z (V5 Z (V5 Z (V5 Z (V5 Z (Vi Z (Wn ⟨b6, ⟨by show Value.bool _ = _; unfold doneB; rw [decide_eq_false hm]; rfl, Z, Z, Z, Z, Z, Z, trivial⟩, hI⟩))))))))))
  clear hI
  rintro ρ w ⟨b6, hH, hI⟩
  obtain ⟨σ, rfl⟩ := hH.open
  cases hcb : doneB l (sAt l k) with
  | true =>
   rw [hcb, if_pos rfl] at hsu
   refine Wc true (by rw [← hcb]; rfl) (Wr (Va Z (Tt 3 Z hI.g0 (T3 [(0, .agg #[_, _, _])] [_, _, _] [Y 0, Y 0, Y 0] [0] hI Z yy27 (fun _ => by kernel_rfl) ?_))))
   rintro b26 w - - hI
   refine WL_app2 (z := .agg #[Y 0, Y 0, Y 0]) (by_ := 24) hI Z Z Z Z Z Z yy27 (by kernel_rfl) Z (by omega) (by rfl) hI.lit0 (by rfl) (by omega) (by omega) (by (have := hI.chg.size; omega)) ?_
   rintro A27 c27 w hA27 hc27 hI
   have hI := hI.d0
   refine Vg Z (Wn ?_)
   have hI := hI.d0
   refine Wr (Vl Z (V0 Z (Wn ?_)))
   have e1 : (doneTo l k ++ [sAt l k]).length = (doneTo l k).length + 1 := by simp
   have e2 : (doneTo l k ++ [sAt l k]).flatMap stV = (doneTo l k).flatMap stV ++ stV (sAt l k) := by simp
   refine ⟨⟨k + 1, A27, c27, by omega, ⟨rfl, rfl, rfl, rfl, by rw [hsu, e1]; rfl, trivial⟩, by rw [hsu, e1, e2]; exact hI⟩, by show n - ((k + 1 : Nat) : Int).toNat < n - (k : Int).toNat; omega⟩
  | false =>
   rw [hcb, if_neg (by simp)] at hsu
   refine Wc false (by rw [← hcb]; rfl) (Wk ?_)
   have hI := hI.d0
   refine Wr (Vl Z (V0 Z (Wn ⟨⟨k + 1, A', c', by omega, ⟨rfl, rfl, rfl, rfl, by rw [hsu]; rfl, trivial⟩, by rw [hsu]; exact hI⟩, by show n - ((k + 1 : Nat) : Int).toNat < n - (k : Int).toNat; omega⟩)))
 have hall : doneTo l k = doneF l := by unfold doneTo doneF; rw [List.take_of_length_le (by omega)]
 rw [hall] at hI hH
 exact Wq (Vr Z (Yg Z (WE (Wq (Va Z (Vg Z (Wn (WR (r1_ 2 Z ⟨⟨_, Z, A', c', by rw [← hall]; rfl, hI.g0⟩, hI.pu⟩)))))))))
def clashB (a b : St) : Bool := decide (a.tx ≠ b.tx) && (decide (a.key = b.key) && (decide (a.kind = 2) || decide (b.kind = 2)))
theorem clash_any (a b : St) (w0 : World) : Cq 141 #[.agg (stV a).toArray, .agg (stV b).toArray] w0 fun en w' => en = .returned (.bool (clashB a b)) ∧ Pure w0 w' := by
 have hI := Inv.start (fun _ => False) w0
 obtain ⟨x1, x2, x3⟩ := a
 obtain ⟨y1, y2, y3⟩ := b
 refine Vm func141 Z (Wq (Tq (.agg _) (#[_, _, _]) hI Z ?_))
 rintro b2 w - - hI
 refine Tq (.agg _) (#[_, _, _]) hI Z ?_
 rintro b3 w - - hI
 refine Vc Z (Wn ?_)
 by_cases h1 : x1 = y1
 ·exact Wq (V8 0 Z (Yd hI Z Z (V8 0 Z (Yc hI Z Z (Ty Z (V7 Z (V5 Z (V5 Z (V5 Z (V5 Z (V5 Z (Vi Z (V7 Z (V5 Z (V5 Z (V5 Z (V5 Z (V5 Z (V5 Z (V5 Z (V5 Z (Vi Z (Vc Z (Wn (WR (r1_ 4 Z ⟨by rw [show clashB ⟨x1, x2, x3⟩ ⟨y1, y2, y3⟩ = false from by simp [clashB, h1]]; rfl, hI.pu⟩))))))))))))))))))))))))))
 by_cases h2 : x3 = y3
 ·by_cases h3 : x2 = 2
  ·exact Wq (V8 0 Z (Yd hI Z Z (V8 0 Z (Yc hI Z Z (Tn Z (V7 Z (V8 2 Z (Yd hI Z Z (V8 2 Z (Yc hI Z Z (Vx Z (Vk Z (V7 Z (V8 1 Z (Yd hI Z Z (Vx Z (V7 Z (V5 Z (V5 Z (V5 Z (Vk Z (Vk Z (Vc Z (Wn (WR (r1_ 4 Z ⟨by rw [show clashB ⟨x1, x2, x3⟩ ⟨y1, y2, y3⟩ = true from by simp [clashB, h1, h2, h3]]; rfl, hI.pu⟩))))))))))))))))))))))))))
  by_cases h4 : y2 = 2
  ·exact Wq (V8 0 Z (Yd hI Z Z (V8 0 Z (Yc hI Z Z (Tn Z (V7 Z (V8 2 Z (Yd hI Z Z (V8 2 Z (Yc hI Z Z (Vx Z (Vk Z (V7 Z (V8 1 Z (Yd hI Z Z (Vs Z (V7 Z (V8 1 Z (Yc hI Z Z (Vx Z (Vi Z (Vk Z (Vc Z (Wn (WR (r1_ 4 Z ⟨by rw [show clashB ⟨x1, x2, x3⟩ ⟨y1, y2, y3⟩ = true from by simp [clashB, h1, h2, h4]]; rfl, hI.pu⟩))))))))))))))))))))))))))
  exact Wq (V8 0 Z (Yd hI Z Z (V8 0 Z (Yc hI Z Z (Tn Z (V7 Z (V8 2 Z (Yd hI Z Z (V8 2 Z (Yc hI Z Z (Vx Z (Vk Z (V7 Z (V8 1 Z (Yd hI Z Z (Vs Z (V7 Z (V8 1 Z (Yc hI Z Z (Vs Z (Vi Z (Vk Z (Vc Z (Wn (WR (r1_ 4 Z ⟨by rw [show clashB ⟨x1, x2, x3⟩ ⟨y1, y2, y3⟩ = false from by simp [clashB, h3, h4]]; rfl, hI.pu⟩))))))))))))))))))))))))))
 exact Wq (V8 0 Z (Yd hI Z Z (V8 0 Z (Yc hI Z Z (Tn Z (V7 Z (V8 2 Z (Yd hI Z Z (V8 2 Z (Yc hI Z Z (Vs Z (Vk Z (V7 Z (V5 Z (V5 Z (V5 Z (V5 Z (V5 Z (V5 Z (V5 Z (V5 Z (Vi Z (Vc Z (Wn (WR (r1_ 4 Z ⟨by rw [show clashB ⟨x1, x2, x3⟩ ⟨y1, y2, y3⟩ = false from by simp [clashB, h2]]; rfl, hI.pu⟩))))))))))))))))))))))))))
def rowG (d : List St) (k m : Nat) (x y : Nat) : Bool := (List.range m).any fun i => clashB (sAt d i) (sAt d k) && (decide ((sAt d i).tx = (x : Int)) && decide ((sAt d k).tx = (y : Int)))
def graphTo (d : List St) (k : Nat) (x y : Nat) : Bool := (List.range k).any fun j => rowG d j j x y
def graphF (l : List St) : Nat → Nat → Bool := graphTo (doneF l) (doneF l).length
theorem rowG_succ (d : List St) (k m x y : Nat) : rowG d k (m + 1) x y = (rowG d k m x y || (clashB (sAt d m) (sAt d k) && (decide ((sAt d m).tx = (x : Int)) && decide ((sAt d k).tx = (y : Int))))) := by
 simp [rowG, List.range_succ]
theorem graphTo_succ (d : List St) (k x y : Nat) : graphTo d (k + 1) x y = (graphTo d k x y || rowG d k k x y) := by
 simp [graphTo, List.range_succ]
theorem done_ok {l : List St} (h : OkSteps l) : ∀ s ∈ doneF l, 0 ≤ s.tx ∧ s.tx < 8 := fun s hs => by
 have hm : s ∈ l := (List.mem_filter.1 hs).1
 obtain ⟨i, hi⟩ := List.getElem?_of_mem hm
 have hlt := (gS_ hi).1
 have h1 := (h.2 i hlt).1
 have e : sAt l i = s := by simp [sAt, List.getD, hi]
 rw [e] at h1
 have := stpE_none h1
 omega
theorem done_len (l : List St) : (doneF l).length ≤ l.length := List.length_filter_le ..
section
variable {w : World} {base e n c b o k : Nat} {l : List St}
theorem row3 (h : w.ownsRow base e 3 (.slice (some ⟨b, o, none⟩) l.length c) l.length (l.flatMap stV)) (hk : k < l.length) : w.cell? ⟨b, o + k * 3, none⟩ = some (.int .i64 (sAt l k).tx) ∧ w.cell? ⟨b, o + k * 3 + 1, none⟩ = some (.int .i64 (sAt l k).kind) ∧ w.cell? ⟨b, o + k * 3 + 2, none⟩ = some (.int .i64 (sAt l k).key) := by
 obtain ⟨b', o', h1, h2⟩ := (sts_of_own h).at hk
 injection h1 with h1
 injection h1 with e1 e2
 subst e1 e2
 exact h2
end
def GraphPost (l : List St) (w0 : World) (en : Ending) (w' : World) : Prop :=
 ((OkSteps l ∧ ∃ ob rbs, en = .returned (.tuple #[.slice (some ⟨ob, 0, none⟩) 8 8, .nilIface]) ∧ MG w' 91 4 ob rbs 8 (graphF l) ∧ w0.heap.size ≤ ob ∧ ∀ i r : Nat, rbs[i]? = some r → w0.heap.size ≤ r) ∨
  (¬ OkSteps l ∧ ∃ e n, en = .returned (.tuple #[.slice none 0 0, e]) ∧ IsE w' e n ∧ FreshE w0 e ∧ (n = 1 ∨ n = 2 ∨ n = 4 ∨ n = 6))) ∧ Pure w0 w'
theorem graph_any (A : Option Addr) (n c : Nat) (l : List St) (D : Nat → Prop) (w0 : World) (h : Sts w0 D (.slice A n c) l) (hg : GlobOk w0) :
  Cq 93 #[.slice A n c] w0 (GraphPost l w0) := by
 have hI := Inv.start (fun _ => False) w0
 obtain ⟨hn, hc1, hc2⟩ := h.len
 refine Vm func93 Z (Wq (Vg Z (Vw Z (Wn (Ws (Wq (Va Z (Vd [.slice _ _ _] Z func70 Z ((scheck_any A n c l D _ (h.pure hI.pu) (hI.oldp hg)).mono ?_)))))))))
 rintro e w1 ⟨hcase, hp⟩
 have hcase' : ∃ v, e = .returned v ∧ ((OkSteps l ∧ v = .nilIface) ∨ (¬ OkSteps l ∧ ∃ n, IsE w1 v n ∧ FreshE w0 v ∧ (n = 1 ∨ n = 2 ∨ n = 4 ∨ n = 6))) := by
  rcases hcase with ⟨h1, rfl⟩ | ⟨h1, e', n', rfl, h2, h4, h3⟩
  ·exact ⟨_, Z, .inl ⟨h1, Z⟩⟩
  exact ⟨_, Z, .inr ⟨h1, n', h2, h4, h3⟩⟩
 obtain ⟨v, rfl, hv⟩ := hcase'
 refine rV ?_
 have hI := hI.pure hp
 refine U7 Z (Wn ?_)
 rcases hv with ⟨hok, rfl⟩ | ⟨hbad, m, hE, hF, hm⟩
 rotate_left
 ·obtain ⟨t, u, rfl⟩ := hE.form
  exact Wq (Vy Z (U0 Z yy37 Z (Yt Z (Wq (Vy Z (Vg Z (Vt Z (Wn (WR (r2_ 2 3 Z ⟨.inr ⟨hbad, _, m, Z, hE, hF, hm⟩, hI.pu⟩))))))))))
 refine Wq (Td Z (Tv Z yy37 Z (Yf Z (Wk (Ws (Wr (WL_mk (n := 8) (by_ := 24) (z := .slice none 0 0) hI Z Z Z Z Z Z yy157 (by kernel_rfl) Z (by omega) (by omega) ?_)))))))
 rintro b17 w - - hI
 refine Vg Z (Wn ?_)
 have hI := hI.u0 (e' := MGpE 91 4 b17 [] 8 (fun _ _ => false)) (Chg.refl _ _) (MGpE.ok (MGp.start hI.g0)) (fun k hk => .inl (by rcases hk with hk | ⟨i, hi⟩; exact hk; simp at hi))
 refine Wx (fun ρ w => ∃ rbs, Has ρ [(0, .slice A n c), (5, .slice (some ⟨b17, 0, none⟩) 8 8)] ∧ Inv NF w0 w [MGE 91 4 b17 rbs 8 (fun _ _ => false)]) ?_ ?_
 ·refine Wq (Va Z (Vo Z yy157 Z (V0 Z (Wn (Wb ?_)))))
  refine W_loop (fun ρ w => ∃ (k : Nat) (rbs : List Nat), k ≤ 8 ∧ rbs.length = k ∧ Has ρ [(20, Y (k : Int)), (19, Y ((8 : Nat) : Int)), (0, .slice A n c), (5, .slice (some ⟨b17, 0, none⟩) 8 8)] ∧ Inv NF w0 w [MGpE 91 4 b17 rbs 8 (fun _ _ => false)]) (fun ρ _ => 8 - cnt (ρ 20))
   ⟨0, [], by omega, rfl, ⟨rfl, rfl, rfl, rfl, trivial⟩, hI⟩ ?_
  clear hI
  rintro ρ w ⟨k, rbs, hk, hrl, hH, hI⟩
  obtain ⟨σ, rfl⟩ := hH.open
  by_cases hk8 : k < 8
  ·refine Wq (Vu Z (Yu Z (Wk (Ws (Wb (Wq (V0 Z (Vb Z (Wn (Wr (Va Z (V0 Z (WL_mk (n := 8) (by_ := 1) (z := .bool false) hI Z Z Z Z Z Z yy91 (by kernel_rfl) Z (by omega) (by omega) ?_)))))))))))))
   rintro b25 w - - hI
   refine T6 Z yy157 Z ?_
   have hMp : MGp w 91 4 b17 rbs 8 (fun _ _ => false) := hI.g1
   have hrow : Blk w b25 4 (rep (.bool false) 8) := hI.g0
   have hnew : ∀ i x : Nat, rbs[i]? = some x → x ≠ b25 := fun i x hx e => hI.disj (i := 0) (j := 1) rfl rfl (by decide) b25 rfl (.inr ⟨i, e ▸ hx⟩)
   have hne : b17 ≠ b25 := fun e => hI.disj (i := 0) (j := 1) rfl rfl (by decide) b25 rfl (.inl e.symm)
   have hnext := hMp.next (r := b25) (by decide) (by omega) (by rw [← rep_row]; exact hrow) hnew
   rw [hrl] at hnext
   refine WL_store Z Z (run_store (n := 1) (vs := #[.slice (some ⟨b25, 0, none⟩) 8 8]) Z Z Z Z (by kernel_rfl) Z hMp.out (by simp [outC]; omega) Z) ?_
   have hI := hI.join.u0 (e' := MGpE 91 4 b17 (rbs ++ [b25]) 8 (fun _ _ => false)) ((Chg.refl _ w).setCell (p := ⟨b17, k, none⟩) (.inl (.inr (.inl rfl))) _) (MGpE.ok hnext) (fun k' hk' => .inl (by
    rcases hk' with hk' | ⟨i, hi⟩
    ·exact .inr (.inl hk')
    rcases Nat.lt_or_ge i rbs.length with h1 | h1
    ·rw [List.getElem?_append_left h1] at hi; exact .inr (.inr ⟨i, hi⟩)
    rw [List.getElem?_append_right h1] at hi
    have := (gS_ hi).1
    have h0 : i - rbs.length = 0 := by simp at this; omega
    rw [h0] at hi
    simp at hi
    exact .inl hi.symm))
   exact Wn (Wr (Vl Z (V0 Z (Wn ⟨⟨k + 1, rbs ++ [b25], by omega, by simp [hrl], g4_, hI⟩, by show 8 - ((k + 1 : Nat) : Int).toNat < 8 - (k : Int).toNat; omega⟩))))
  have hk8' : rbs.length = 8 := by omega
  refine Wq (Vr Z (Yg Z (WE ?_)))
  have hMp : MGp w 91 4 b17 rbs 8 (fun _ _ => false) := hI.g0
  exact ⟨rbs, g2_, hI.u0 (e' := MGE 91 4 b17 rbs 8 (fun _ _ => false)) (Chg.refl _ _) (MGE.ok (hMp.full hk8')) (fun k hk => .inl hk)⟩
 clear hI
 rintro ρ w ⟨rbs, hH, hI⟩
 obtain ⟨σ, rfl⟩ := hH.open
 have h60 : n ≤ 60 := by have := hok.1; omega
 refine Wq (Va Z (Vd [.slice _ _ _] Z func116 Z ((done_any A n c l D _ (h.pure hI.pu) (by omega)).mono ?_)))
 rintro e w1 ⟨⟨v, rfl, Ad, cd, rfl, hown⟩, hp⟩
 refine rV ?_
 have hI := hI.freshR hp hown
 refine Vg Z (Wn ?_)
 have hdl := done_len l
 have hdo := done_ok hok
 have hgF : graphF l = graphTo (doneF l) (doneF l).length := rfl
 generalize doneF l = d at *
 replace hI : Inv NF w0 w1 [Row 0 114 3 Ad d.length cd (d.flatMap stV), MGE 91 4 b17 rbs 8 (graphTo d 0)] := hI
 refine Ws (Wq (Va Z (Vo Z yy27 Z (V0 Z (Wn (Wb ?_))))))
 refine W_loop (fun ρ w => ∃ k : Nat, k ≤ d.length ∧ Has ρ [(32, Y (k : Int)), (31, Y (d.length : Int)), (30, .slice Ad d.length cd), (7, .slice Ad d.length cd), (5, .slice (some ⟨b17, 0, none⟩) 8 8)] ∧ Inv NF w0 w [Row 0 114 3 Ad d.length cd (d.flatMap stV), MGE 91 4 b17 rbs 8 (graphTo d k)]) (fun ρ _ => d.length - cnt (ρ 32))
  ⟨0, by omega, ⟨rfl, rfl, rfl, rfl, rfl, trivial⟩, hI⟩ ?_
 clear hI
 rintro ρ w ⟨k, hk, hH, hI⟩
 obtain ⟨σ, rfl⟩ := hH.open
 by_cases hkn : k < d.length
 rotate_left
 ·obtain rfl : k = d.length := by omega
  refine Wq (Vr Z (Yg Z (WE (Wq (Va Z (Vg Z (Vw Z (Wn (WR (r2_ 2 3 Z ⟨.inl ⟨hok, b17, rbs, Z, ?_, ?_, ?_⟩, hI.pu⟩))))))))))
  ·rw [hgF]; exact hI.g1
  ·exact (hI.own _ (gM_ (i := 1) Z) b17 (.inl Z)).resolve_left (fun h => h)
  exact fun i r hr => (hI.own _ (gM_ (i := 1) Z) r (.inr ⟨i, hr⟩)).resolve_left (fun h => h)
 obtain ⟨lb, lo, rfl, _⟩ := (sts_of_own hI.g0).at hkn
 have hcd := (sts_of_own hI.g0).len
 refine Wq (Vu Z (Yu Z (Wk (Ws (Wb (Wq (V0 Z (Th 3 Z yy27 Z (Up Z ((row3 hI.g0 hkn).1) ((row3 hI.g0 hkn).2.1) ((row3 hI.g0 hkn).2.2) (Vz (.agg #[Y 0, Y 0, Y 0]) (#[Y 0, Y 0, Y 0]) hI Z ?_))))))))))
 rintro b9 w - - hI
 refine Vb Z (T2 3 (#[_, _, _]) (.agg _) hI Z ?_)
 intro w hI
 refine Wn (Wq (Va Z (V0 Z (Wv Z (rSliceTo (sz := 3) Z yy27 (by kernel_rfl) Z Z (by omega)) (Vo Z yy27 Z (V0 Z (Wn (Wb ?_))))))))
 refine W_loop (fun ρ w => ∃ m : Nat, m ≤ k ∧ Has ρ [(41, Y (m : Int)), (40, Y (k : Int)), (39, .slice (some ⟨lb, lo, none⟩) k cd), (9, .pointer (some ⟨b9, 0, none⟩)), (32, Y (k : Int)), (31, Y (d.length : Int)), (30, .slice (some ⟨lb, lo, none⟩) d.length cd), (7, .slice (some ⟨lb, lo, none⟩) d.length cd), (5, .slice (some ⟨b17, 0, none⟩) 8 8)] ∧ Inv NF w0 w [B b9 114 #[Y (sAt d k).tx, Y (sAt d k).kind, Y (sAt d k).key], Row 0 114 3 (some ⟨lb, lo, none⟩) d.length cd (d.flatMap stV), MGE 91 4 b17 rbs 8 (fun x y => graphTo d k x y || rowG d k m x y)]) (fun ρ _ => k - cnt (ρ 41))
  ⟨0, by omega, ⟨rfl, rfl, rfl, rfl, rfl, rfl, rfl, rfl, rfl, trivial⟩, by simpa [rowG] using hI⟩ ?_
 clear hI
 rintro ρ w ⟨m, hm, hH, hI⟩
 obtain ⟨σ, rfl⟩ := hH.open
 by_cases hmk : m < k
 rotate_left
 ·obtain rfl : m = k := by omega
  have hgs : (fun x y => graphTo d m x y || rowG d m m x y) = graphTo d (m + 1) := by funext x y; rw [graphTo_succ]
  rw [hgs] at hI
  exact Wq (Vr Z (Yg Z (WE (Wr (Vl Z (V0 Z (Wn ⟨⟨m + 1, by omega, g5_, hI.d0⟩, by show d.length - ((m + 1 : Nat) : Int).toNat < d.length - (m : Int).toNat; omega⟩)))))))
 have hmn : m < d.length := by omega
 have hta := hdo (sAt d m) (by simp [sAt, List.getD, gE_ hmn])
 have htb := hdo (sAt d k) (by simp [sAt, List.getD, gE_ hkn])
 obtain ⟨ta, hta'⟩ : ∃ t : Nat, (sAt d m).tx = (t : Int) := ⟨(sAt d m).tx.toNat, by omega⟩
 obtain ⟨tb, htb'⟩ : ∃ t : Nat, (sAt d k).tx = (t : Int) := ⟨(sAt d k).tx.toNat, by omega⟩
 refine Wq (Vu Z (Yu Z (Wk (Ws (Wb (Wq (Th 3 Z yy27 Z (Up Z ((row3 hI.g1 hmn).1) ((row3 hI.g1 hmn).2.1) ((row3 hI.g1 hmn).2.2) (Vz (.agg #[Y 0, Y 0, Y 0]) (#[Y 0, Y 0, Y 0]) hI Z ?_)))))))))
 rintro b11 w - - hI
 refine T2 3 (#[_, _, _]) (.agg _) hI Z ?_
 intro w hI
 refine Wn (Wq (Tt 3 Z hI.g0 (Tt 3 Z hI.g1 (Vd [.agg _, .agg _] Z func141 Z ((clash_any (sAt d m) (sAt d k) _).mono (okP hI fun w1 hp hI => Wn ?_))))))
 cases hcl : clashB (sAt d m) (sAt d k) with
 | false =>
  have hgs : (fun x y => graphTo d k x y || rowG d k m x y) = (fun x y => graphTo d k x y || rowG d k (m + 1) x y) := by
   funext x y; rw [rowG_succ, hcl]; simp
  rw [hgs] at hI
  exact Wc false Z (Wk (Wr (Vl Z (V0 Z (Wn ⟨⟨m + 1, by omega, g9_, hI.d0⟩, by show k - ((m + 1 : Nat) : Int).toNat < k - (m : Int).toNat; omega⟩)))))
 | true =>
  have hM : MG w1 91 4 b17 rbs 8 (fun x y => graphTo d k x y || rowG d k m x y) := hI.g3
  obtain ⟨r, hr, _⟩ := hM.at_ (show ta < 8 by omega)
  clear hM
  refine Wc true Z (Yj [8] hI fun Sx hY hXS hI => Vp 0 Z (Vf 1 0 Z (Ye 2 hY Z Z (Wt 3 Z (fun W hW => have hI := hY W hW; (rIdx0 (i := ta) Z yy157 (by kernel_rfl) Z Z hta' (by omega))) (V9 4 (.slice _ _ _) Z (fun W hW => have hI := hY W hW; mg_cell hI.g3 hr (by omega)) (Vf 5 0 Z (V9 6 (Y _) Z (fun W hW => (hY W hW).c1 Z) (Wt 7 Z (fun W hW => have hI := hY W hW; (rIdx0 (i := tb) Z yy91 (by kernel_rfl) Z Z htb' (by omega))) (WT_A (by kernel_rfl) ?_)))))))))
  clear hXS hY
  refine Tr 8 Z ?_
  have hM : MG _ 91 4 b17 rbs 8 (fun x y => graphTo d k x y || rowG d k m x y) := hI.g3
  have hset := hM.set_ (by decide) hr (show tb < 8 by omega) true
  have hset' := hset.congr (g := fun x y => graphTo d k x y || rowG d k (m + 1) x y) (fun x y hx hy => by
   rw [rowG_succ, hcl, hta', htb']
   by_cases hxy : x = ta ∧ y = tb
   ·rw [if_pos hxy, hxy.1, hxy.2]; simp
   rw [if_neg hxy]
   have : (decide ((ta : Int) = (x : Int)) && decide ((tb : Int) = (y : Int))) = false := by
    simp only [Bool.and_eq_false_iff, decide_eq_false_iff_not]
    by_cases h1 : x = ta
    ·exact .inr (fun h => hxy ⟨h1, by omega⟩)
    exact .inl (fun h => h1 (by omega))
   rw [this]; simp)
  refine WL_store Z Z (run_store (n := 1) (vs := #[.bool true]) Z Z Z Z (by kernel_rfl) Z (hM.row ta r hr) (by simp; omega) Z) ?_
  have hI := hI.u3 ((Chg.refl _ _).setCell (p := ⟨r, tb, none⟩) (.inl (.inr ⟨ta, hr⟩)) _) (MGE.ok hset') (fun k hk => .inl hk)
  exact Wn (WA_end (by kernel_rfl) (Wr (Vl Z (V0 Z (Wn ⟨⟨m + 1, by omega, g9_, hI.d0⟩, by show k - ((m + 1 : Nat) : Int).toNat < k - (m : Int).toNat; omega⟩)))))
theorem keepB_next {p : Nat → Bool} {x : Nat} (h : l[k]? = some x) : (l.take (k + 1)).filter p = (l.take k).filter p ++ (if p x then [x] else []) := by
 rw [List.take_add_one, h, List.filter_append]
 cases hp : p x <;> simp [hp]
theorem keepB_all {p : Nat → Bool} (h : ∀ y ∈ l, p y = true) : l.filter p = l := List.filter_eq_self.2 h
theorem take_snoc {α : Type} {l : List α} {x : α} (h : l[k]? = some x) : l.take (k + 1) = l.take k ++ [x] := by
 rw [List.take_add_one, h]; rfl
def CloK (w0 : World) (g sb : Nat) (l : List Nat) (p : Nat → Bool) : Prop :=
 ∀ W, Chg (fun k => k = g) w0 W → ∀ x ∈ l, Cq 98 #[.int .i64 ((x : Nat) : Int), .pointer (some ⟨sb, 0, none⟩)] W fun en w' => en = .returned (.bool (!p x)) ∧ Pure W w'
theorem idxC_any (sb g m cm : Nat) (A' : Option Addr) (l : List Nat) (p : Nat → Bool) (w0 : World) (hK : CloK w0 g sb l p) (hm : l.length = m) (hm63 : m < 9223372036854775807) (hr : ∀ (j x : Nat), l[j]? = some x → A' = some ⟨g, 0, none⟩ ∧ w0.cell? ⟨g, j, none⟩ = some (.int .i64 x)) :
  Cq 147 #[.slice A' m cm, .func (.func 98) #[] #[.pointer (some ⟨sb, 0, none⟩)]] w0 fun en w' => ((∃ k x : Nat, en = .returned (.int .i64 ((k : Nat) : Int)) ∧ l[k]? = some x ∧ p x = false ∧ ∀ y ∈ l.take k, p y = true) ∨ (en = .returned (.int .i64 (-1)) ∧ ∀ y ∈ l, p y = true)) ∧ Pure w0 w' := by
 have hI := Inv.start (fun _ => False) w0
 refine Vm func147 Z (Wq (Vb Z (Wn (Ws (Wq (Va Z (Vo Z yy41 Z (V0 Z (Wn (Wb ?_))))))))))
 refine W_loop (fun ρ w => ∃ k : Nat, k ≤ m ∧ Has ρ [(8, Y k), (7, Y m), (0, .slice A' m cm), (1, .func (.func 98) #[] #[.pointer (some ⟨sb, 0, none⟩)])] ∧ (∀ y ∈ l.take k, p y = true) ∧ Inv NF w0 w []) (fun ρ _ => m - cnt (ρ 8))
  ⟨0, by omega, ⟨rfl, rfl, rfl, rfl, trivial⟩, by simp, hI⟩ ?_
 clear hI
 rintro ρ w ⟨k, hk, hH, hno, hI⟩
 obtain ⟨σ, rfl⟩ := hH.open
 by_cases hkm : k < m
 ·obtain ⟨x, hx⟩ : ∃ x, l[k]? = some x := ⟨_, gE_ (by omega)⟩
  obtain ⟨rfl, hc⟩ := hr k x hx
  have hcall := hK w (hI.pu.chg _) x (gM_ hx)
  have hcw : w.cell? ⟨g, k, none⟩ = some (.int .i64 (x : Int)) := hI.oldp hc
  refine Wq (Vu Z (Yu Z (Wk (Ws (Wb (Wq (V0 Z (Vb Z (Wn ?_)))))))))
  cases hp : p x with
  | false =>
   rw [hp] at hcall
   exact Wq (Ua Z (Va Z (V0 Z (T6 Z yy41 Z (V6 (Y _) Z hcw (Ue [Y _, .pointer _] [] [_] Z func98 Z (hcall.mono (okP hI fun w1 hp1 hI => Yt Z (Wq (V0 Z (Vb Z (Wn (WR (r1_ 4 Z ⟨.inl ⟨k, x, Z, hx, hp, hno⟩, hI.pu⟩))))))))))))))
  | true =>
   rw [hp] at hcall
   refine Wq (Ua Z (Va Z (V0 Z (T6 Z yy41 Z (V6 (Y _) Z hcw (Ue [Y _, .pointer _] [] [_] Z func98 Z (hcall.mono (okP hI fun w1 hp1 hI => Yf Z (Wk (Wr (Vl Z (V0 Z (Wn ⟨⟨k + 1, by omega, g4_, ?_, hI⟩, by show m - ((k + 1 : Nat) : Int).toNat < m - (k : Int).toNat; omega⟩)))))))))))))
   rw [take_snoc hx]
   intro y hy
   rcases List.mem_append.1 hy with hy | hy
   ·exact hno y hy
   rw [List.mem_singleton.1 hy]; exact hp
 refine Wq (Vr Z (Yg Z (WE (Wq (Vb Z (Wn (WR (r1_ 4 Z ⟨.inr ⟨Z, ?_⟩, hI.pu⟩))))))))
 rwa [List.take_of_length_le (by omega)] at hno
def DelPostC (w : World) (A' : Option Addr) (g cm : Nat) (r : List Nat) (e : Ending) (w' : World) : Prop :=
 Chg (fun k => k = g) w w' ∧ e = .returned (.slice A' r.length cm) ∧ ∀ (j x : Nat), r[j]? = some x → w'.cell? ⟨g, j, none⟩ = some (.int .i64 x)
theorem mem_take {α : Type} {l : List α} {j : Nat} {x : α} (h : l[k]? = some x) (hk : k < j) : x ∈ l.take j :=
 gM_ (i := k) (by rw [List.getElem?_take, if_pos hk]; exact h)
theorem first_bad {p : Nat → Bool} : ∀ {l : List Nat}, ¬ (∀ y ∈ l, p y = true) → ∃ k x : Nat, l[k]? = some x ∧ p x = false ∧ ∀ y ∈ l.take k, p y = true
 | [], h => absurd (by simp) h
 | a :: l, h => by
  cases ha : p a with
  | false => exact ⟨0, a, rfl, ha, by simp⟩
  | true =>
   have h' : ¬ (∀ y ∈ l, p y = true) := fun hl => h (fun y hy => by
    rcases List.mem_cons.1 hy with rfl | hy
    ·exact ha
    exact hl y hy)
   obtain ⟨k, x, h1, h2, h3⟩ := first_bad h'
   refine ⟨k + 1, x, by simpa using h1, h2, fun y hy => ?_⟩
   rw [List.take_succ_cons] at hy
   rcases List.mem_cons.1 hy with rfl | hy
   ·exact ha
   exact h3 y hy
theorem delC_any (sb : Nat) (g m cm : Nat) (A' : Option Addr) (l : List Nat) (p : Nat → Bool) (w0 : World) (hK : CloK w0 g sb l p) (hm : l.length = m) (hmc : m ≤ cm) (hm63 : m < 9223372036854775807)
  (cur : Array Value) (hr : l = [] ∨ (A' = some ⟨g, 0, none⟩ ∧ cur.size = cm ∧ Blk w0 g 3 cur ∧ ∀ (j x : Nat), l[j]? = some x → cur[j]? = some (.int .i64 x))) :
  Cq 97 #[.slice A' m cm, .func (.func 98) #[] #[.pointer (some ⟨sb, 0, none⟩)]] w0 (DelPostC w0 A' g cm (l.filter p)) := by
 have hrd : ∀ (j x : Nat), l[j]? = some x → A' = some ⟨g, 0, none⟩ ∧ w0.cell? ⟨g, j, none⟩ = some (.int .i64 x) := fun j x hx => by
  rcases hr with rfl | ⟨h1, h2, h3, h4⟩
  ·simp at hx
  exact ⟨h1, by rw [h3.cell]; exact h4 j x hx⟩
 have hI0 := Inv.start (fun _ => False) w0
 rcases hr with rfl | ⟨rfl, hcs, hB, hcur⟩
 ·simp only [List.filter_nil]
  have hI := hI0
  clear hI0
  refine Vm func97 Z (Wq (Vg Z (Wn (Wq (Va Z (Ua Z (Vd [.slice _ _ _, .func _ _ _] Z func147 Z ((idxC_any sb g m cm A' [] p _ (fun W hW => hK W (by exact hW)) hm (by omega) (fun j x hx => by simp at hx)).mono ?_))))))))
  rintro e w1 ⟨⟨k, x, rfl, hx, _⟩ | ⟨rfl, _⟩, hp⟩
  ·simp at hx
  refine rV ?_
  have hI := hI.pure hp
  exact Vb Z (Wn (Ws (Wq (V0 Z (Vx Z (Yt Z (Wq (Va Z (Vg Z (Wn (WR (r1_ 4 Z ⟨hI.pu.chg _, by simp at hm; subst hm; rfl, fun j x hx => by simp at hx⟩))))))))))))
 have hI := Inv.own1 hB
 clear hI0
 refine Vm func97 Z (Wq (Vg Z (Wn ?_)))
 by_cases hall : ∀ y ∈ l, p y = true
 ·refine Wq (Va Z (Ua Z (Vd [.slice _ _ _, .func _ _ _] Z func147 Z ((idxC_any sb g m cm _ l p _ hK hm (by omega) hrd).mono ?_))))
  rintro e w1 ⟨⟨k, x, rfl, hx, hpx, _⟩ | ⟨rfl, _⟩, hp⟩
  ·rw [hall x (gM_ hx)] at hpx
   cases hpx
  refine rV ?_
  have hI := hI.pure hp
  exact Vb Z (Wn (Ws (Wq (V0 Z (Vx Z (Yt Z (Wq (Va Z (Vg Z (Wn (WR (r1_ 4 Z ⟨hI.chg, by rw [keepB_all hall, hm]; rfl, fun j x hx => by rw [keepB_all hall] at hx; exact hI.c0 (hcur j x hx)⟩))))))))))))
 obtain ⟨k, x, hx, hpx, hbef, hcallI⟩ : ∃ k x : Nat, l[k]? = some x ∧ p x = false ∧ (∀ y ∈ l.take k, p y = true) ∧ Cq 147 #[.slice (some ⟨g, 0, none⟩) m cm, .func (.func 98) #[] #[.pointer (some ⟨sb, 0, none⟩)]] w0 fun en w' => en = .returned (.int .i64 ((k : Nat) : Int)) ∧ Pure w0 w' := by
  obtain ⟨k, x, hx, hpx, hbef⟩ := first_bad hall
  refine ⟨k, x, hx, hpx, hbef, (idxC_any sb g m cm _ l p _ hK hm (by omega) hrd).mono ?_⟩
  rintro e w1 ⟨⟨k', x', rfl, hx', hpx', hbef'⟩ | ⟨rfl, ha⟩, hp⟩
  ·refine ⟨?_, hp⟩
   have : k' = k := by
    rcases Nat.lt_trichotomy k' k with h1 | h1 | h1
    ·have := hbef x' (mem_take hx' h1)
     rw [hpx'] at this; cases this
    ·exact h1
    have := hbef' x (mem_take hx h1)
    rw [hpx] at this; cases this
   rw [this]
  exact absurd ha hall
 have hk : k < m := by have := (gS_ hx).1; omega
 refine Wq (Va Z (Ua Z (Vd [.slice _ _ _, .func _ _ _] Z func147 Z (hcallI.mono (okP hI fun w1 hp hI => Vb Z (Wn (Ws (Wq (V0 Z (Vs Z (Yf Z (Wk (Ws (Wq (V0 Z (Vl Z (Vb Z (Wn (Wb ?_)))))))))))))))))))
 have hst : (l.take (k + 1)).filter p = l.take k := by
  rw [keepB_next hx, keepB_all hbef, hpx]
  simp
 refine W_loop (fun ρ w => ∃ (i j : Nat) (cu : Array Value), i < j ∧ j ≤ m ∧ Has ρ [(5, Y i), (6, Y j), (0, .slice (some ⟨g, 0, none⟩) m cm), (1, .func (.func 98) #[] #[.pointer (some ⟨sb, 0, none⟩)])] ∧ i = ((l.take j).filter p).length ∧ cu.size = cm ∧
  (∀ (q y : Nat), ((l.take j).filter p)[q]? = some y → cu[q]? = some (.int .i64 y)) ∧ (∀ (q y : Nat), j ≤ q → l[q]? = some y → cu[q]? = some (.int .i64 y)) ∧ Inv (fun k => k = g) w0 w [B g 3 cu]) (fun ρ _ => m - cnt (ρ 6))
  ⟨k, k + 1, cur, by omega, by omega, ⟨rfl, rfl, rfl, rfl, trivial⟩, by rw [hst]; simp; omega, hcs, fun q y hq => ?_, fun q y _ hq => hcur q y hq, hI⟩ ?_
 ·rw [hst, List.getElem?_take] at hq
  split at hq
  ·exact hcur q y hq
  cases hq
 clear hI
 rintro ρ w ⟨i, j, cu, hij, hjm, hH, hi, hcu, h1, h2, hI⟩
 obtain ⟨σ, rfl⟩ := hH.open
 by_cases hlt : j < m
 ·obtain ⟨y, hy⟩ : ∃ y, l[j]? = some y := ⟨_, gE_ (by omega)⟩
  have hcy := h2 j y (Nat.le_refl _) hy
  refine Ws (Wq (V0 Z (Va Z (Vo Z yy41 Z (Vu Z (Yt Z (Wk ?_)))))))
  refine Wx (fun ρ w => ∃ (i' : Nat) (cu : Array Value), i' < j + 1 ∧ Has ρ [(5, Y i'), (6, Y j), (0, .slice (some ⟨g, 0, none⟩) m cm), (1, .func (.func 98) #[] #[.pointer (some ⟨sb, 0, none⟩)])] ∧ i' = ((l.take (j + 1)).filter p).length ∧ cu.size = cm ∧
   (∀ (q y : Nat), ((l.take (j + 1)).filter p)[q]? = some y → cu[q]? = some (.int .i64 y)) ∧ (∀ (q y : Nat), j + 1 ≤ q → l[q]? = some y → cu[q]? = some (.int .i64 y)) ∧ Inv (fun k => k = g) w0 w [B g 3 cu]) ?_ ?_
  ·refine Wb ?_
   have hcy' := hI.c0 hcy
   refine Wq (Va Z (V0 Z (T6 Z yy41 Z (V6 (Y _) Z hcy' (Vb Z (Wn ?_))))))
   have hcall := hK _ hI.chg y (gM_ hy)
   have hkn := keepB_next (p := p) hy
   cases hc : p y with
   | true =>
    rw [hc, if_pos rfl] at hkn
    rw [hc] at hcall
    refine Wq (Ua Z (V0 Z (Ue [Y _, .pointer _] [] [_] Z func98 Z (hcall.mono (okP hI fun w1 hp hI => To Z (Yt Z (Wq (Va Z (V0 Z (V0 Z (T6 Z yy41 Z (WL_st0 (u := Y _) (j := i) hI Z Z Z Z Z Z (by kernel_rfl) Z (by simp [Nat.blt]; omega) Z ?_))))))))))))
    rintro w hI
    refine Wn (Wr (V0 Z (Vl Z (Vb Z (Wn ⟨i + 1, _, by omega, g4_, by rw [hkn]; simp [hi], by simpa using hcu, fun q z hq => ?_, fun q z hq hz => ?_, hI⟩)))))
    ·rw [Array.getElem?_setIfInBounds]
     rw [hkn] at hq
     by_cases hqi : i = q
     ·subst hqi
      rw [hi, List.getElem?_append_right (Nat.le_refl _)] at hq
      simp at hq
      rw [if_pos rfl, if_pos (by omega), hq]
     rw [if_neg hqi]
     refine h1 q z ?_
     have := (gS_ hq).1
     simp at this
     rwa [List.getElem?_append_left (by omega)] at hq
    rw [Array.getElem?_setIfInBounds, if_neg (by omega)]
    exact h2 q z (by omega) hz
   | false =>
    rw [hc] at hkn
    rw [hc] at hcall
    simp only [Bool.false_eq_true, if_false, List.append_nil] at hkn
    exact Wq (Ua Z (V0 Z (Ue [Y _, .pointer _] [] [_] Z func98 Z (hcall.mono (okP hI fun w1 hp hI => Tf Z (Yf Z (Wk ⟨i, cu, by omega, g4_, by rw [hkn]; exact hi, hcu, by rw [hkn]; exact h1, fun q z hq hz => h2 q z (by omega) hz, hI⟩)))))))
  clear hI
  rintro ρ w ⟨i', cu', hi', hH, h3, h4, h5, h6, hI⟩
  obtain ⟨σ, rfl⟩ := hH.open
  exact Wr (V0 Z (Vl Z (Vb Z (Wn ⟨⟨i', j + 1, cu', hi', by omega, g4_, h3, h4, h5, h6, hI⟩, by show m - ((j + 1 : Nat) : Int).toNat < m - (j : Int).toNat; omega⟩))))
 obtain rfl : m = j := by omega
 rw [List.take_of_length_le (by omega)] at hi h1
 refine Ws (Wq (V0 Z (Va Z (Vo Z yy41 Z (Vr Z (Yf Z (WE (Wq (Va Z (V0 Z (Wv Z (by exact rSliceFrom (sz := 1) rfl yy41 (by kernel_rfl) rfl rfl (by omega) (by omega)) (WL_clear (i := 0) (z := Y 0) Z hI Z Z Z yy41 (by kernel_rfl) Z Z Z (by omega) (by omega) ?_))))))))))))
 rintro w cu' hz1 hz2 hI
 refine Wn (Wq (Va Z (V0 Z (Wv Z (rSliceTo (sz := 1) Z yy41 (by kernel_rfl) Z Z (by omega)) (Vg Z (Wn (WR (r1_ 4 Z ⟨hI.chg, by rw [← hi]; rfl, fun q y hq => ?_⟩))))))))
 have hlt := (gS_ hq).1
 refine hI.c0 ?_
 rw [hz2 q (by omega)]
 exact h1 q y hq
theorem del_any (sb : Nat) (CA : Option Addr) (cn cc : Nat) (cs : List Int) (x : Int) (D : Nat → Prop) (w0 : World) (hs : w0.cell? ⟨sb, 0, none⟩ = some (.slice CA cn cc)) (h : Ints w0 D (.slice CA cn cc) cs) :
  Cq 98 #[.int .i64 x, .pointer (some ⟨sb, 0, none⟩)] w0 fun en w' => en = .returned (.bool (!decide (x ∈ cs))) ∧ Pure w0 w' := by
 have hI := Inv.start (fun _ => False) w0
 exact Vm func98 Z (Wq (Vc Z (Wn (Wq (V6 (.slice _ _ _) Z (hI.oldp hs) (V0 Z (Vd [.slice _ _ _, Y _] Z func99 Z ((conI_any CA cn cc cs x D _ (h.chg (hI.pu.chg NF) (fun _ _ h => h))).mono (okP hI fun w1 hp hI => Wv Z (by exact rNot rfl rfl) (Vc Z (Wn (WR (r1_ 3 Z ⟨Z, hI.pu⟩)))))))))))))
def inC (l : List St) (x : Nat) : Bool := decide (x ∈ commitsF l)
theorem inC_eq (l : List St) (x : Nat) : decide (((x : Nat) : Int) ∈ (commitsF l).map Int.ofNat) = inC l x := by
 unfold inC
 rw [decide_eq_decide]
 constructor
 ·intro h
  obtain ⟨y, hy, he⟩ := List.mem_map.1 h
  have : y = x := by have he : ((y : Nat) : Int) = x := he; omega
  rwa [← this]
 intro h
 exact List.mem_map.2 ⟨x, h, Z⟩
theorem clashesOk_any (A : Option Addr) (n c : Nat) (l : List St) (D : Nat → Prop) (w0 : World) (h : Sts w0 D (.slice A n c) l) (hg : GlobOk w0) (hok : OkSteps l) (od : List Nat) (ho : orderF 8 (graphF l) = some od) :
  Cq 59 #[.slice A n c] w0 fun en w' => (∃ OA oc, en = .returned (.tuple #[.slice OA (od.filter (inC l)).length oc, .slice none 0 0, .nilIface]) ∧ Ints w' (fun k => w0.heap.size ≤ k) (.slice OA (od.filter (inC l)).length oc) ((od.filter (inC l)).map Int.ofNat)) ∧ Pure w0 w' := by
 have hI := Inv.start (fun _ => False) w0
 have hspec := orderTo_spec 8 od ho
 refine Vm func59 Z (Wq (Vg Z (Vg Z (Vw Z (Wn (Wq (Va Z (Vd [.slice _ _ _] Z func93 Z ((graph_any A n c l D _ h hg).mono ?_)))))))))
 rintro e w1 ⟨⟨_, ob, rbs, rfl, hM, hob, hrb⟩ | ⟨hbad, _⟩, hp⟩
 rotate_left
 ·exact absurd hok hbad
 have hS := hM.toSq (D := fun _ => True) (by omega) trivial (fun _ _ _ => trivial)
 refine rV ?_
 have hI := hI.pure hp
 refine T4 Z (Vj Z (Vj Z (Vg Z (Vw Z (Wn (Ws (Wq (Td Z (Tv Z yy37 Z (Yf Z (Wk (Wq (Va Z (Vd [.slice _ _ _] Z func94 Z ((gorder2_any _ 8 8 _ _ _ hS (by omega)).mono ?_)))))))))))))))
 rintro e w2 (⟨l', v, ho', rfl, hown, hp2⟩ | ⟨ho', _⟩)
 rotate_left
 ·rw [ho] at ho'; cases ho'
 obtain rfl : od = l' := by rw [ho] at ho'; injection ho'
 refine rV ?_
 obtain ⟨OA, oc, rfl⟩ := own_slice hown
 have hI := hI.freshR hp2 hown
 refine T4 Z (Vj Z (Vj Z (Vg Z (Vw Z (Wn (Ws (Wq (Td Z (Tv Z yy37 Z (Yf Z (Wk (Wq (Va Z (Vd [.slice _ _ _] Z func96 Z ((commits_any A n c l D _ (h.chg (hI.pu.chg NF) (fun _ _ h => h))).mono ?_)))))))))))))))
 rintro e w3 ⟨⟨v, rfl, CA, cc, rfl, hown2⟩, hp3⟩
 refine rV ?_
 have hI := hI.freshR hp3 hown2
 refine Vz (.slice none 0 0) (#[.slice none 0 0]) hI Z ?_
 rintro b7 w - - hI
 refine T2 1 #[_] (.slice _ _ _) hI Z ?_
 intro w hI
 refine Wn ?_
 have hOr := hI.g2
 rcases hOr.2 with ⟨hv, hl0⟩ | ⟨gb, cap, cur, hv, hgb, hh, hnc, hcm, hcs, htake⟩
 ·have := hspec.1
  omega
 injection hv with e1 _ e3
 subst e1 e3
 have hd0 := hI.disj (i := 2) (j := 0) rfl rfl (by omega) gb rfl
 have hd1 := hI.disj (i := 2) (j := 1) rfl rfl (by omega) gb rfl
 have hgb0 : w0.heap.size ≤ gb := (hI.own _ (gM_ (i := 2) rfl) gb rfl).resolve_left id
 have hs0 := hI.c0 (j := 0) rfl
 have hIn : Ints w (fun k => k ≠ gb) (.slice CA (commitsF l).length cc) ((commitsF l).map Int.ofNat) := by
  have h1 := Rd.of_own (D := fun k => k ≠ gb) hI.g1 (fun k hk _ e => by
   rw [ownBlock_slice] at hk
   exact hd1 (e ▸ hk))
  unfold Ints
  have e : ((commitsF l).map Int.ofNat).map (Value.int .i64) = natV (commitsF l) := by simp [natV]
  rw [e, List.length_map]
  exact h1
 have hBk : Blk w gb 3 cur := hh
 have hK : CloK w gb b7 od (inC l) := fun W hW x hx => by
  have hs : W.cell? ⟨b7, 0, none⟩ = _ := (World.cell?_of_block (hW.block _ (World.block_lt_of_cell? w _ hs0) (fun e => hd0 e.symm))).trans hs0
  have := del_any b7 CA _ cc _ (x : Int) (fun k => k ≠ gb) W hs (hIn.chg hW (fun k hk e => hk e))
  rw [inC_eq] at this
  exact this
 have hdel := delC_any b7 gb od.length oc (some ⟨gb, 0, none⟩) od (inC l) w hK rfl hnc (by have := hspec.1; omega) cur (.inr ⟨rfl, by omega, hBk, fun j x hx => by
  have h1 : (natV od)[j]? = some (.int .i64 x) := by simp [natV, hx]
  rw [← htake, List.getElem?_take] at h1
  split at h1
  ·simpa using h1
  cases h1⟩)
 refine Wq (Va Z (Tw [] [_] Z (Vd [.slice _ _ _, .func _ _ _] Z func97 Z (hdel.mono ?_))))
 rintro e w4 ⟨hc4, rfl, hcells⟩
 refine rV (Vg Z (Vg Z (Vw Z (Wn (WR ?_)))))
 have hl8 := hspec.1
 have hfin : Ints w4 (fun k => w0.heap.size ≤ k) (.slice (some ⟨gb, 0, none⟩) (od.filter (inC l)).length oc) ((od.filter (inC l)).map Int.ofNat) := by
  unfold Ints
  rw [List.length_map]
  refine ⟨_, _, Z, Nat.le_trans (List.length_filter_le _ _) hnc, by simpa [maxLen] using hcm, by simp, fun _ => ⟨gb, 0, rfl, hgb0, fun j u hj => ?_⟩⟩
  rw [List.getElem?_map, List.getElem?_map] at hj
  obtain ⟨y, hy, rfl⟩ := Option.map_eq_some_iff.1 hj
  obtain ⟨x, hx, rfl⟩ := Option.map_eq_some_iff.1 hy
  rw [Nat.zero_add]
  exact hcells j x hx
 refine ret3 2 3 4 (.inr Z) Z ⟨⟨_, oc, Z, hfin⟩, (hI.chg.trans' hc4 fun k hk1 hk2 => ?_).toPure⟩
 omega
theorem clashesCyc_any (A : Option Addr) (n c : Nat) (l : List St) (D : Nat → Prop) (w0 : World) (h : Sts w0 D (.slice A n c) l) (hg : GlobOk w0) (hok : OkSteps l) (ho : orderF 8 (graphF l) = none) :
  Cq 59 #[.slice A n c] w0 fun en w' => (∃ cl Ac cc, cycF 8 (graphF l) = some cl ∧ en = .returned (.tuple #[.slice none 0 0, .slice Ac cl.length cc, .iface 49 (.int .i64 11)]) ∧ CycL 8 (graphF l) cl ∧ w'.ownsRow 0 3 1 (.slice Ac cl.length cc) cl.length (natV cl)) ∧ Pure w0 w' := by
 have hI := Inv.start (fun _ => False) w0
 refine Vm func59 Z (Wq (Vg Z (Vg Z (Vw Z (Wn (Wq (Va Z (Vd [.slice _ _ _] Z func93 Z ((graph_any A n c l D _ h hg).mono ?_)))))))))
 rintro e w1 ⟨⟨_, ob, rbs, rfl, hM, hob, hrb⟩ | ⟨hbad, _⟩, hp⟩
 rotate_left
 ·exact absurd hok hbad
 have hS := hM.toSq (D := fun _ => True) (by omega) trivial (fun _ _ _ => trivial)
 refine rV ?_
 have hI := hI.pure hp
 refine T4 Z (Vj Z (Vj Z (Vg Z (Vw Z (Wn (Ws (Wq (Td Z (Tv Z yy37 Z (Yf Z (Wk (Wq (Va Z (Vd [.slice _ _ _] Z func94 Z ((gorder2_any _ 8 8 _ _ _ hS (by omega)).mono ?_)))))))))))))))
 rintro e w2 (⟨l', v, ho', _⟩ | ⟨_, ⟨x, rfl, rfl⟩, hp2⟩)
 ·rw [ho] at ho'; cases ho'
 refine rV ?_
 have hI := hI.pure hp2
 replace hS := hS.pure hp2
 refine T4 Z (Vj Z (Vj Z (Vg Z (Vt Z (Wn (Ws (Wq (Vy Z (U0 Z yy37 Z (Yt Z (Ws (Wr (Va Z (Vd [.slice _ _ _] Z func95 Z ((cycle_any _ 8 8 _ _ _ hS (by omega)).mono ?_)))))))))))))))
 rintro e w3 (⟨cl, Ac, cc, hcf, hcl, _, rfl, hown, hp3⟩ | ⟨_, hno, _⟩)
 rotate_left
 ·exact absurd (order_none ho) hno
 refine rV ?_
 have hI := hI.freshR hp3 hown
 exact T4 Z (Vj Z (Vj Z (Vg Z (Wn (Wq (Va Z (Vy Z (Vg Z (Vg Z (Vt Z (Wn (WR (ret3 2 3 4 (.inr Z) Z ⟨⟨cl, Ac, cc, hcf, Z, hcl, hI.g0⟩, hI.pu⟩)))))))))))))
section
variable {P : Program} {ρ : Env} {o : Oper} {w : World} {x y : Operand} {t kt et b : Nat} {q : IntKind} {a : Int} {v zv : Value} {g : Int → Option Value}
end
def intC (n : Nat) (f : Nat → Int) : Array Value := ((List.range n).map fun v => Value.int .i64 (f v)).toArray
theorem intC_size (n : Nat) (f : Nat → Int) : (intC n f).size = n := by simp [intC]
theorem intC_set (f : Nat → Int) (u : Nat) (z : Int) : (intC n f).setIfInBounds u (.int .i64 z) = intC n (fun x => if x = u then z else f x) := by
 apply Array.ext'
 simp only [intC, Array.toList_setIfInBounds]
 refine List.ext_getElem (by simp) (fun i h1 h2 => ?_)
 simp only [List.getElem_set, List.getElem_map, List.getElem_range]
 by_cases h : u = i
 ·subst h; simp
 rw [if_neg h, if_neg (Ne.symm h)]
theorem intC_congr {f g : Nat → Int} (h : ∀ v, v < n → f v = g v) : intC n f = intC n g := by
 unfold intC
 congr 1
 refine List.map_congr_left fun v hv => ?_
 rw [h v (List.mem_range.1 hv)]
def seeStep (d : List St) (s : (Nat → Int) × (Int → Int)) (i : Nat) : (Nat → Int) × (Int → Int) :=
 if (sAt d i).kind = 2 then (fun x => if x = i then -1 else s.1 x, fun k => if k = (sAt d i).key then (i : Int) else s.2 k) else (fun x => if x = i then s.2 (sAt d i).key else s.1 x, s.2)
def seeTo (d : List St) (order : List Nat) : (Nat → Int) × (Int → Int) := order.foldl (seeStep d) (fun _ => 0, fun _ => -1)
def seeF (d : List St) (order : List Nat) (v : Nat) : Int := if v < 60 then (seeTo d order).1 v else (seeTo d order).2 ((v - 60 : Nat) : Int)
theorem seeTo_snoc (d : List St) (order : List Nat) (i : Nat) : seeTo d (order ++ [i]) = seeStep d (seeTo d order) i := by
 unfold seeTo
 rw [List.foldl_append]; rfl
theorem see_ge (d : List St) (order : List Nat) (k : Int) : -1 ≤ (seeTo d order).2 k := by
 have : ∀ (l : List Nat) (s : (Nat → Int) × (Int → Int)), (∀ k, -1 ≤ s.2 k) → ∀ k, -1 ≤ (l.foldl (seeStep d) s).2 k := fun l => by
  induction l with
  | nil => intro s h; exact h
  | cons i l ih =>
   intro s h
   rw [List.foldl_cons]
   refine ih _ fun k => ?_
   unfold seeStep
   split
   ·dsimp only
    split
    ·omega
    exact h k
   exact h k
 exact this order _ (fun _ => Int.le_refl _) k
def lgv (z : Int) : Option Value := if z < 0 then none else some (.int .i64 z)
def lg (la : Int → Int) : Int → Option Value := fun k => lgv (la k)
theorem lg_set (la : Int → Int) (a : Int) (i : Nat) : (fun j => if j = a then some (Value.int .i64 (i : Int)) else lg la j) = lg (fun k => if k = a then (i : Int) else la k) := by
 funext j
 show (if j = a then some (Value.int .i64 (i : Int)) else lgv (la j)) = lgv (if j = a then (i : Int) else la j)
 by_cases h : j = a
 ·rw [if_pos h, if_pos h]
  unfold lgv
  rw [if_neg (by omega)]
 rw [if_neg h, if_neg h]
theorem take_nat {x : Nat} (h : l[k]? = some x) : l.take (k + 1) = l.take k ++ [x] := by
 rw [List.take_add_one, h]; rfl
theorem nats_get {D : Nat → Prop} (h : Ints w D (.slice A n c) (l.map Int.ofNat)) {x : Nat} (hx : l[k]? = some x) : ∃ b o, A = some ⟨b, o, none⟩ ∧ w.cell? ⟨b, o + k, none⟩ = some (.int .i64 (x : Int)) := by
 have hl := (gS_ hx).1
 obtain ⟨b, o, h1, h2⟩ := h.at (k := k) (by simpa using hl)
 refine ⟨b, o, h1, ?_⟩
 rw [h2]
 simp [List.getD, hx]
theorem see_any (A : Option Addr) (n c : Nat) (d : List St) (KA : Option Addr) (kn kc : Nat) (od : List Nat) (D D2 : Nat → Prop) (w0 : World) (h : Sts w0 D (.slice A n c) d) (hK : Ints w0 D2 (.slice KA kn kc) (od.map Int.ofNat)) (h60 : d.length ≤ 60) (hod : ∀ x ∈ od, x < d.length) :
  Cq 117 #[.slice A n c, .slice KA kn kc] w0 fun en w' => en = .returned (.agg (intC 68 (seeF d od))) ∧ Pure w0 w' := by
 have hI := Inv.start (fun _ => False) w0
 obtain ⟨rfl, hc1, hc2⟩ := h.len
 obtain ⟨hkn, hk1, hk2⟩ := hK.len
 rw [List.length_map] at hkn
 subst hkn
 refine Vm func117 Z (Wq (Vz (.agg (intC 68 fun _ => 0)) (intC 68 fun _ => 0) hI Z ?_))
 rintro b4 w - - hI
 refine Wn (Wq (Vz (.agg (intC 68 fun _ => 0)) (intC 68 fun _ => 0) hI Z ?_))
 rintro b5 w - - hI
 refine Wn (Ws (Wr (WL_mkMap hI Z Z Z Z ?_)))
 rintro wm w hI
 refine Wv Z (by exact rAsgnM rfl rfl) (Wn (Wx (fun ρ w => Has ρ [(6, .map (some wm)), (5, .pointer (some ⟨b5, 0, none⟩)), (4, .pointer (some ⟨b4, 0, none⟩))] ∧ Inv NF w0 w [MapE wm (lg (seeTo d od).2), B b5 190 (intC 68 fun v => if v < 60 then (seeTo d od).1 v else 0), B b4 190 (intC 68 fun _ => 0)]) ?_ ?_))
 ·refine Wq (Va Z (Vo Z yy41 Z (V0 Z (Wn (Wb ?_)))))
  refine W_loop (fun ρ w => ∃ k : Nat, k ≤ od.length ∧ Has ρ [(18, Y (k : Int)), (17, Y (od.length : Int)), (16, .slice KA od.length kc), (0, .slice A d.length c), (6, .map (some wm)), (5, .pointer (some ⟨b5, 0, none⟩)), (4, .pointer (some ⟨b4, 0, none⟩))] ∧ Inv NF w0 w [MapE wm (lg (seeTo d (od.take k)).2), B b5 190 (intC 68 fun v => if v < 60 then (seeTo d (od.take k)).1 v else 0), B b4 190 (intC 68 fun _ => 0)]) (fun ρ _ => od.length - cnt (ρ 18))
   ⟨0, by omega, ⟨rfl, rfl, rfl, rfl, rfl, rfl, rfl, trivial⟩, by
    have e1 : lg (seeTo d (od.take 0)).2 = fun _ => none := by funext j; rfl
    have e2 : (intC 68 fun v => if v < 60 then (seeTo d (od.take 0)).1 v else 0) = intC 68 fun _ => 0 := intC_congr fun v _ => by show (if v < 60 then (0 : Int) else 0) = 0; split <;> rfl
    rw [e1, e2]; exact hI⟩ ?_
  clear hI
  rintro ρ w ⟨k, hk, hH, hI⟩
  obtain ⟨σ, rfl⟩ := hH.open
  by_cases hkl : k < od.length
  ·obtain ⟨x, hx⟩ : ∃ x, od[k]? = some x := ⟨_, gE_ hkl⟩
   obtain ⟨kb, ko, rfl, q0⟩ := nats_get hK hx
   have hxd := hod x (gM_ hx)
   obtain ⟨b, o, rfl, y0, y1, y2⟩ := h.at hxd
   have hto : seeTo d (od.take (k + 1)) = seeStep d (seeTo d (od.take k)) x := by rw [take_nat hx, seeTo_snoc]
   refine Wq (Vu Z (Yu Z (Wk (Ws (Wb (Wq (Tz Z yy41 Z (V6 (Y _) Z (hI.oldp q0) (Vb Z (Wn (Wq (Va Z (V0 Z (Th 3 Z yy27 Z (Up Z (hI.oldp y0) (hI.oldp y1) (hI.oldp y2) (Vz (.agg #[Y 0, Y 0, Y 0]) (#[Y 0, Y 0, Y 0]) hI Z ?_))))))))))))))))
   rintro b9 w - - hI
   refine T2 3 (#[_, _, _]) (.agg _) hI Z ?_
   intro w hI
   refine Wn ?_
   obtain ⟨st, hst⟩ : ∃ st, d.getD x ⟨0, 0, 0⟩ = st := ⟨_, rfl⟩
   obtain ⟨sk, hsk⟩ : ∃ sk, seeTo d (od.take k) = sk := ⟨_, rfl⟩
   have hge : -1 ≤ sk.2 st.key := by rw [← hsk]; exact see_ge _ _ _
   have hstep : seeStep d sk x = if st.kind = 2 then (fun z => if z = x then -1 else sk.1 z, fun z => if z = st.key then (x : Int) else sk.2 z) else (fun z => if z = x then sk.2 st.key else sk.1 z, sk.2) := by unfold seeStep; rw [show sAt d x = st from hst]
   rw [hst, hsk] at hI
   rw [hsk] at hto
   refine Wq (Tp Z (V8 2 Z (Yc hI Z Z (Wv Z (rLook (zv := Y 0) Z yy171 yy3 (by kernel_rfl) Z Z (hI.ok _ (gM_ (i := 1) Z)).1) (T4 Z (Vj Z (Vj Z (U7 Z (Vc Z (Wn (Wx (fun ρ w => Has ρ [(10, Y (sk.2 st.key)), (8, Y (x : Int)), (18, Y (k : Int)), (17, Y (od.length : Int)), (16, .slice (some ⟨kb, ko, none⟩) od.length kc), (0, .slice (some ⟨b, o, none⟩) d.length c), (6, .map (some wm)), (9, .pointer (some ⟨b9, 0, none⟩)), (5, .pointer (some ⟨b5, 0, none⟩)), (4, .pointer (some ⟨b4, 0, none⟩))] ∧ Inv NF w0 w [B b9 114 (stV st).toArray, MapE wm (lg sk.2), B b5 190 (intC 68 fun v => if v < 60 then sk.1 v else 0), B b4 190 (intC 68 fun _ => 0)]) ?_ ?_)))))))))))
   ·by_cases hneg : sk.2 st.key < 0
    ·have hl : lg sk.2 st.key = none := by unfold lg lgv; rw [if_pos hneg]
     rw [hl]
     exact Wq (V7 Z (To Z (Yt Z (Wr (Vb Z (Wn ⟨⟨by show Value.int .i64 (-1) = _; rw [show sk.2 st.key = -1 by omega], Z, Z, Z, Z, Z, Z, Z, Z, Z, trivial⟩, hI⟩))))))
    have hl : lg sk.2 st.key = some (.int .i64 (sk.2 st.key)) := by unfold lg lgv; rw [if_neg hneg]
    rw [hl]
    exact Wq (V7 Z (Tf Z (Yf Z (Wk ⟨g10_, hI⟩))))
   clear hI
   rintro ρ w ⟨hH, hI⟩
   obtain ⟨σ, rfl⟩ := hH.open
   refine Wx (fun ρ w => Has ρ [(10, Y ((seeStep d sk x).1 x)), (8, Y (x : Int)), (18, Y (k : Int)), (17, Y (od.length : Int)), (16, .slice (some ⟨kb, ko, none⟩) od.length kc), (0, .slice (some ⟨b, o, none⟩) d.length c), (6, .map (some wm)), (9, .pointer (some ⟨b9, 0, none⟩)), (5, .pointer (some ⟨b5, 0, none⟩)), (4, .pointer (some ⟨b4, 0, none⟩))] ∧ Inv NF w0 w [B b9 114 (stV st).toArray, MapE wm (lg (seeStep d sk x).2), B b5 190 (intC 68 fun v => if v < 60 then sk.1 v else 0), B b4 190 (intC 68 fun _ => 0)]) ?_ ?_
   ·by_cases hk2 : st.kind = 2
    ·rw [if_pos hk2] at hstep
     refine Wq (V8 1 Z (Yc hI Z Z (Vx Z (Yt Z (Wq (Tp Z (V8 2 Z (Yc hI Z Z (V0 Z (WL_mapSet 1 (v := Y (x : Int)) Z hI Z Z Z yy171 yy3 Z Z Z ?_))))))))))
     intro w hI
     refine Wn (Wr (Vb Z (Wn ⟨⟨by rw [hstep]; show Value.int .i64 (-1) = Value.int .i64 (if x = x then -1 else _); rw [if_pos rfl], Z, Z, Z, Z, Z, Z, Z, Z, Z, trivial⟩, ?_⟩)))
     rw [hstep, ← lg_set]
     exact hI
    rw [if_neg hk2] at hstep
    refine Wq (V8 1 Z (Yc hI Z Z (Vs Z (Yf Z (Wk ⟨⟨by rw [hstep]; show Value.int .i64 (sk.2 st.key) = Value.int .i64 (if x = x then _ else _); rw [if_pos rfl], Z, Z, Z, Z, Z, Z, Z, Z, Z, trivial⟩, ?_⟩)))))
    rw [hstep]
    exact hI
   clear hI
   rintro ρ w ⟨hH, hI⟩
   obtain ⟨σ, rfl⟩ := hH.open
   refine Wr (V0 Z (V0 Z (V8 0 Z (Wv Z (rIdxArr (sz := 1) Z underlying187 (by kernel_rfl) Z Z Z (by omega)) (WL_st2 (u := Y _) (j := 0 + x * 1) hI Z Z Z Z Z Z (by kernel_rfl) Z (by rw [intC_size]; simp [Nat.blt]; omega) Z ?_)))))
   intro w hI
   refine Wn ?_
   have hI := hI.d0
   refine Wr (Vl Z (V0 Z (Wn ⟨⟨k + 1, by omega, g7_, ?_⟩, by show od.length - ((k + 1 : Nat) : Int).toNat < od.length - (k : Int).toNat; omega⟩)))
   have e1 : (intC 68 fun v => if v < 60 then (seeStep d sk x).1 v else 0) = (intC 68 fun v => if v < 60 then sk.1 v else 0).setIfInBounds (0 + x * 1) (.int .i64 ((seeStep d sk x).1 x)) := by
    rw [intC_set]
    refine intC_congr fun v _ => ?_
    by_cases hvx : v = x
    ·subst hvx
     rw [if_pos (show v < 60 by omega), if_pos (show v = 0 + v * 1 by omega)]
    rw [if_neg (show ¬ v = 0 + x * 1 by omega), hstep]
    split
    ·split
     ·dsimp only; rw [if_neg hvx]
     dsimp only; rw [if_neg hvx]
    rfl
   rw [hto, e1]
   exact hI
  obtain rfl : k = od.length := by omega
  refine Wq (Vr Z (Yg Z (WE ?_)))
  rw [List.take_length] at hI
  exact ⟨g3_, hI⟩
 clear hI
 rintro ρ w ⟨hH, hI⟩
 obtain ⟨σ, rfl⟩ := hH.open
 refine Wx (fun ρ w => Has ρ [(5, .pointer (some ⟨b5, 0, none⟩)), (4, .pointer (some ⟨b4, 0, none⟩))] ∧ Inv NF w0 w [B b5 190 (intC 68 (seeF d od)), B b4 190 (intC 68 fun _ => 0)]) ?_ ?_
 ·refine Wq (V0 Z (Wn (Wb ?_)))
  refine W_loop (fun ρ w => ∃ k : Nat, k ≤ 8 ∧ Has ρ [(47, Y (k : Int)), (6, .map (some wm)), (5, .pointer (some ⟨b5, 0, none⟩)), (4, .pointer (some ⟨b4, 0, none⟩))] ∧ Inv NF w0 w [MapE wm (lg (seeTo d od).2), B b5 190 (intC 68 fun v => if v < 60 + k then seeF d od v else 0), B b4 190 (intC 68 fun _ => 0)]) (fun ρ _ => 8 - cnt (ρ 47))
   ⟨0, by omega, ⟨rfl, rfl, rfl, rfl, trivial⟩, by
    have e1 : (intC 68 fun v => if v < 60 + 0 then seeF d od v else 0) = intC 68 fun v => if v < 60 then (seeTo d od).1 v else 0 := intC_congr fun v _ => by
     show (if v < 60 then seeF d od v else 0) = _
     split
     ·unfold seeF; rw [if_pos ‹_›]
     rfl
    rw [e1]; exact hI⟩ ?_
  clear hI
  rintro ρ w ⟨k, hk, hH, hI⟩
  obtain ⟨σ, rfl⟩ := hH.open
  by_cases hk8 : k < 8
  ·obtain ⟨sk, hsk⟩ : ∃ sk, seeTo d od = sk := ⟨_, rfl⟩
   have hge : -1 ≤ sk.2 (k : Int) := by rw [← hsk]; exact see_ge _ _ _
   have hfin : seeF d od (60 + k) = sk.2 (k : Int) := by
    unfold seeF
    rw [if_neg (by omega), hsk, Nat.add_sub_cancel_left]
   rw [hsk] at hI
   refine Wq (Vu Z (Yu Z (Wk (Ws (Wb (Wq (V0 Z (Vb Z (Wn (Wq (Tp Z (V0 Z (Wv Z (rLook (zv := Y 0) Z yy171 yy3 (by kernel_rfl) Z Z (hI.ok _ (gM_ (i := 0) Z)).1) (T4 Z (Vj Z (Vj Z (U7 Z (Vc Z (Wn (Wx (fun ρ w => Has ρ [(13, Y (sk.2 (k : Int))), (12, Y (k : Int)), (47, Y (k : Int)), (6, .map (some wm)), (5, .pointer (some ⟨b5, 0, none⟩)), (4, .pointer (some ⟨b4, 0, none⟩))] ∧ Inv NF w0 w [MapE wm (lg sk.2), B b5 190 (intC 68 fun v => if v < 60 + k then seeF d od v else 0), B b4 190 (intC 68 fun _ => 0)]) ?_ ?_))))))))))))))))))))
   ·by_cases hneg : sk.2 (k : Int) < 0
    ·have hl : lg sk.2 (k : Int) = none := by unfold lg lgv; rw [if_pos hneg]
     rw [hl]
     exact Wq (V7 Z (To Z (Yt Z (Wr (Vb Z (Wn ⟨⟨by show Value.int .i64 (-1) = _; rw [show sk.2 (k : Int) = -1 by omega], Z, Z, Z, Z, Z, trivial⟩, hI⟩))))))
    have hl : lg sk.2 (k : Int) = some (.int .i64 (sk.2 (k : Int))) := by unfold lg lgv; rw [if_neg hneg]
    rw [hl]
    exact Wq (V7 Z (Tf Z (Yf Z (Wk ⟨g6_, hI⟩))))
   clear hI
   rintro ρ w ⟨hH, hI⟩
   obtain ⟨σ, rfl⟩ := hH.open
   refine Wr (V0 Z (V0 Z (V8 60 Z (Wv Z (rIdxArr (sz := 1) Z underlying188 (by kernel_rfl) Z Z Z (by omega)) (WL_st1 (u := Y _) (j := 60 + k * 1) hI Z Z Z Z Z Z (by kernel_rfl) Z (by rw [intC_size]; simp [Nat.blt]; omega) Z ?_)))))
   intro w hI
   refine Wn (Wr (Vl Z (V0 Z (Wn ⟨⟨k + 1, by omega, g4_, ?_⟩, by show 8 - ((k + 1 : Nat) : Int).toNat < 8 - (k : Int).toNat; omega⟩))))
   have e1 : (intC 68 fun v => if v < 60 + (k + 1) then seeF d od v else 0) = (intC 68 fun v => if v < 60 + k then seeF d od v else 0).setIfInBounds (60 + k * 1) (.int .i64 (sk.2 (k : Int))) := by
    rw [intC_set]
    refine intC_congr fun v _ => ?_
    by_cases hvx : v = 60 + k
    ·subst hvx
     rw [if_pos (show 60 + k < 60 + (k + 1) by omega), if_pos (show 60 + k = 60 + k * 1 by omega), hfin]
    rw [if_neg (show ¬ v = 60 + k * 1 by omega)]
    by_cases hvk : v < 60 + k
    ·rw [if_pos hvk, if_pos (by omega)]
    rw [if_neg hvk, if_neg (by omega)]
   rw [hsk, e1]
   exact hI
  obtain rfl : k = 8 := by omega
  refine Wq (Vr Z (Yg Z (WE ?_)))
  have e1 : (intC 68 fun v => if v < 60 + 8 then seeF d od v else 0) = intC 68 (seeF d od) := intC_congr fun v hv => by rw [if_pos (show v < 60 + 8 by omega)]
  rw [e1] at hI
  exact ⟨g2_, hI.d0⟩
 clear hI
 rintro ρ w ⟨hH, hI⟩
 obtain ⟨σ, rfl⟩ := hH.open
 refine Ws (Wr (Wv Z (by exact rLdB (n := 68) rfl (by kernel_rfl) (by kernel_rfl) rfl (by rfl) hI.g0) (WL_stw1 (u := .agg _) (vs := _) (n := 68) hI Z Z Z Z Z Z (by kernel_rfl) (by rfl) (by rfl) (by rfl) ?_)))
 intro w hI
 refine Wn (WR ?_)
 first
  | exact retC (n := 68) (.inr rfl) rfl rfl (by kernel_rfl) (by kernel_rfl) (intC_size _ _) hI.g1 ⟨rfl, hI.pu⟩
  | exact retC (n := 68) (.inr rfl) rfl rfl (by kernel_rfl) (by kernel_rfl) (intC_size _ _) hI.g0 ⟨rfl, hI.pu⟩
theorem take_snoc' {α : Type} {l : List α} {x : α} (h : l[k]? = some x) : l.take (k + 1) = l.take k ++ [x] := by
 rw [List.take_add_one, h]; rfl
theorem natV_len (l : List Nat) : (natV l).length = l.length := by simp [natV]
theorem natV_app (a b : List Nat) : natV (a ++ b) = natV a ++ natV b := by simp [natV]
theorem natV_one (l : List Nat) : (natV l).all (·.oneCell') = true := by simp [natV, Value.oneCell']
theorem nats_cells {D : Nat → Prop} {g o : Nat} (h : Ints w D (.slice (some ⟨g, o, none⟩) n c) (l.map Int.ofNat)) (i : Nat) (u : Value) (hi : (natV l)[i]? = some u) : w.cell? ⟨g, o + i, none⟩ = some u := by
 rw [natV, List.getElem?_map] at hi
 obtain ⟨x, hx, rfl⟩ := Option.map_eq_some_iff.1 hi
 obtain ⟨g', o', he, hc⟩ := nats_get h hx
 injection he with he
 injection he with e1 e2
 subst e1 e2
 exact hc
theorem Row.lo {size : Nat} {xs : List Value} (h : w.ownsRow base e size (.slice A n c) n xs) (hk : A.map (·.block) = some k) : base ≤ k := by
 rcases h.2 with ⟨hv, _⟩ | ⟨g, cap, cur, hv, hg, _⟩
 ·injection hv with hv; subst hv; simp at hk
 injection hv with hv; subst hv; simp at hk; omega
def NewI (w : World) (l : List Nat) (v : Value) (w' : World) : Prop := Pure w w' ∧ ∃ A c, v = .slice A l.length c ∧ w'.ownsRow w.heap.size 3 1 (.slice A l.length c) l.length (natV l)
theorem run_app2 {P : Program} {ρ : Env} {o : Oper} {w' : World} {x y : Operand} {t tn ty : TypeId} {vx vy v : Value} (ho : o.op = .call { callee := .builtin .append, args := #[x, y], argTypes := #[t, tn] }) (hty : o.type = ty) (hx : ev ρ x = vx) (hy : ev ρ y = vy) (hr : (Builtin.append_ #[t, tn] ty #[vx, vy]).run P w = .ok v w') : (execOp (ev ρ) o).run P w = .ok (.value v) w' := by
 subst hty
 simp [execOp, ho, resolve, invoke, builtin, hx, hy, hr]
theorem infoIntG : (prog.info? 3).map (fun i => (i.zero, i.size, i.bytes)) = some (some (.int .i64 0), 1, 8) := by kernel_rfl
theorem grow_any (n : Nat) (w0 : World) (hn : n ≤ 1000000) : Cq 155 #[.slice none 0 0, .int .i64 n] w0 fun en w' => ∃ v, en = .returned v ∧ NewI w0 [] v w' := by
 have hI := Inv.start (fun _ => False) w0
 obtain ⟨i0, hi0, hz0, hz1, hz2⟩ := info_parts infoIntG
 refine Vm func155 Z (Wq (Vg Z (Wn (Ws (Wq (V0 Z (Vr Z (Yf Z (Wk ?_)))))))))
 rcases Nat.eq_zero_or_pos n with h0 | h0
 ·subst h0
  exact Ws (Wq (V0 Z (Va Z (Wv Z (rCap Z yy41 Z) (Va Z (Vo Z yy41 Z (Uj Z (Uj Z (Vb Z (Wn (Wq (V0 Z (U3 Z (Yf Z (Wk (Ws (Wr (Va Z (Vg Z (Wn (WR (r1_ 4 Z ⟨_, Z, hI.pu, none, 0, Z, World.ownsRow_nil ..⟩))))))))))))))))))))))
 refine Ws (Wq (V0 Z (Va Z (Wv Z (rCap Z yy41 Z) (Va Z (Vo Z yy41 Z (Uj Z (Uj Z (Vb Z (Wn (Wq (V0 Z (U6 Z (Yt Z ?_))))))))))))))
 have hrun := Lib.run_append_nil_zeros (P := prog) w0 41 3 41 3 i0 (.int .i64 0) .i64 .i64 yy41 yy3 hi0 hz0 n h0 (by omega) (by omega) (by rw [hz2]; omega)
 have hge := grownCap_ge w0 n 0 3
 have hle := grownCap_le_maxLen w0 n 0 3 (by simp [maxLen]; omega)
 generalize grownCap w0 n 0 3 = cap at *
 refine Wr (Va Z (Va Z (Wv Z (rCap Z yy41 Z) (Wv Z (rSliceTo (sz := 1) Z yy41 (by kernel_rfl) Z Z (by omega)) (V0 Z ?_)))))
 have hpu : Pure w0 (w0.drew.alloc (.cells (Builtin.zeroCells (Value.int .i64 0).cells n ++ Builtin.zeroCells (Value.int .i64 0).cells (cap - n)) 3)) := ((Pure.refl w0).drew).alloc _
 have hown : (w0.drew.alloc (.cells (Builtin.zeroCells (Value.int .i64 0).cells n ++ Builtin.zeroCells (Value.int .i64 0).cells (cap - n)) 3)).ownsRow w0.heap.size 3 1 (.slice (some ⟨w0.heap.size, 0, none⟩) 0 cap) 0 [] := by
  refine ⟨Z, .inr ⟨w0.heap.size, cap, _, Z, Nat.le_refl _, Blk.new w0.drew 3 _, Nat.zero_le _, hle, ?_, by simp⟩⟩
  simp [Builtin.zeroCells, Value.cells]
  omega
 refine WL_eff Z Z Z (run_app2 (vx := .slice none 0 0) (vy := Y (n : Int)) Z Z Z (by show Value.int .i64 ((n : Int) - (((0 : Nat) : Int) - ((0 : Nat) : Int))) = _; simp) hrun) ?_
 have hI := hI.fresh hpu (Row.ok hown) (fun k hk => Row.lo hown hk)
 clear hrun hown
 generalize (w0.drew.alloc (.cells (Builtin.zeroCells (Value.int .i64 0).cells n ++ Builtin.zeroCells (Value.int .i64 0).cells (cap - n)) 3)) = w at *
 exact Va Z (Vo Z yy41 Z (Wv Z (rSliceTo (sz := 1) Z yy41 (by kernel_rfl) Z Z (by omega)) (Vg Z (Wn (Wq (Va Z (Vg Z (Wn (WR (r1_ 4 Z ⟨_, Z, hpu, _, cap, Z, hI.g0⟩))))))))))
def Parts (w : World) (D : Nat → Prop) (g : Nat) (ls : List (List Nat)) : Prop := ∀ (i : Nat) (l : List Nat), ls[i]? = some l → ∃ A c, w.cell? ⟨g, i, none⟩ = some (.slice A l.length c) ∧ Ints w D (.slice A l.length c) (l.map Int.ofNat)
theorem sum_take {ls : List (List Nat)} (h : ls[k]? = some l) : (ls.take (k + 1)).flatten = (ls.take k).flatten ++ l := by
 rw [take_snoc' h, List.flatten_append]
 simp
theorem concat_any (g m : Nat) (ls : List (List Nat)) (D : Nat → Prop) (w0 : World) (h : Parts w0 D g ls) (hm : ls.length = m) (hl : ls.flatten.length ≤ 1000000) (hm9 : m ≤ 1000) :
  Cq 120 #[.slice (some ⟨g, 0, none⟩) m m] w0 fun en w' => ∃ v, en = .returned v ∧ NewI w0 ls.flatten v w' := by
 have hI := Inv.start (fun _ => False) w0
 have hpre : ∀ k, (ls.take k).flatten.length ≤ ls.flatten.length := fun k => by
  conv => rhs; rw [← List.take_append_drop k ls, List.flatten_append, List.length_append]
  omega
 refine Vm func120 Z (Wq (Vg Z (Wn (Wq (Vb Z (Wn (Ws (Wq (Va Z (Vo Z yy245 Z (V0 Z (Wn (Wb ?_)))))))))))))
 refine W_loop (fun ρ w => ∃ k : Nat, k ≤ m ∧ Has ρ [(11, Y k), (10, Y m), (9, .slice (some ⟨g, 0, none⟩) m m), (0, .slice (some ⟨g, 0, none⟩) m m), (3, Y ((ls.take k).flatten.length : Nat))] ∧ w0 = w) (fun ρ _ => m - cnt (ρ 11))
  ⟨0, by omega, ⟨rfl, rfl, rfl, rfl, rfl, trivial⟩, rfl⟩ ?_
 rintro ρ w ⟨k, hk, hH, rfl⟩
 obtain ⟨σ, rfl⟩ := hH.open
 by_cases hkm : k < m
 ·obtain ⟨l, hlk⟩ : ∃ l, ls[k]? = some l := ⟨_, gE_ (by omega)⟩
  obtain ⟨A, c, hc, hb⟩ := h k l hlk
  have hst := congrArg List.length (sum_take hlk)
  rw [List.length_append] at hst
  have hp1 := hpre (k + 1)
  refine Wq (Vu Z (Yu Z (Wk (Ws (Wb (Wq (T6 Z yy245 Z (V6 (.slice _ _ _) Z (hI.oldp hc) (Vg Z (Wn (Wq (V0 Z (Va Z (Vo Z yy41 Z (Wv Z (by exact rAdd rfl rfl rfl (by omega)) (Vb Z (Wn (Wq (V0 Z (Vr Z (Yf Z (Wk (Wr (Vl Z (V0 Z (Wn ⟨⟨k + 1, by omega, ⟨rfl, rfl, rfl, rfl, ?_, trivial⟩, rfl⟩, by show m - ((k + 1 : Nat) : Int).toNat < m - (k : Int).toNat; omega⟩))))))))))))))))))))))))))
  show Value.int .i64 (((ls.take k).flatten.length : Int) + (l.length : Int)) = _
  rw [hst]
  push_cast
  rfl
 obtain rfl : m = k := by omega
 rw [List.take_of_length_le (by omega)] at *
 refine Wq (Vr Z (Yg Z (WE (Wq (V0 Z (Vd [.slice _ _ _, Y _] Z func155 Z ((grow_any ls.flatten.length _ (by omega)).mono ?_)))))))
 rintro en w1 ⟨v, rfl, hp, A, c, rfl, hown⟩
 refine rV ?_
 have hI := hI.fresh hp (Row.ok hown) (fun k hk => Row.lo hown hk)
 refine Vg Z (Wn (Ws (Wq (Va Z (Vo Z yy245 Z (V0 Z (Wn (Wb ?_))))))))
 refine W_loop (fun ρ w => ∃ (k : Nat) (A : Option Addr) (c : Nat), k ≤ m ∧ (ls.take k).flatten.length ≤ c ∧ Has ρ [(27, Y k), (26, Y m), (25, .slice (some ⟨g, 0, none⟩) m m), (6, .slice A (ls.take k).flatten.length c)] ∧ Inv NF w0 w [Row w0.heap.size 3 1 A (ls.take k).flatten.length c (natV (ls.take k).flatten)]) (fun ρ _ => m - cnt (ρ 27))
  ⟨0, A, c, by omega, by simp, ⟨rfl, rfl, rfl, rfl, trivial⟩, hI⟩ ?_
 clear hI
 rintro ρ w ⟨k, A, c, hk, hlc, hH, hI⟩
 obtain ⟨σ, rfl⟩ := hH.open
 by_cases hkm : k < m
 ·obtain ⟨l, hlk⟩ : ∃ l, ls[k]? = some l := ⟨_, gE_ (by omega)⟩
  obtain ⟨A2, c2, hc, hb⟩ := h k l hlk
  have hst := sum_take hlk
  have hsl := congrArg List.length hst
  rw [List.length_append] at hsl
  have hp1 := hpre (k + 1)
  refine Wq (Vu Z (Yu Z (Wk (Wx (fun ρ w => ∃ (A : Option Addr) (c : Nat), (ls.take (k + 1)).flatten.length ≤ c ∧ Has ρ [(27, Y k), (26, Y m), (25, .slice (some ⟨g, 0, none⟩) m m), (6, .slice A (ls.take (k + 1)).flatten.length c)] ∧ Inv NF w0 w [Row w0.heap.size 3 1 A (ls.take (k + 1)).flatten.length c (natV (ls.take (k + 1)).flatten)]) ?_ ?_))))
  ·refine Wb (Wq (T6 Z yy245 Z (V6 (.slice _ _ _) Z (hI.oldp hc) (Vg Z (Wn ?_)))))
   rcases Nat.eq_zero_or_pos l.length with hl0 | hl0
   ·have hln : l = [] := List.eq_nil_of_length_eq_zero hl0
    subst hln
    rw [List.append_nil] at hst
    refine Wr (Va Z (Va Z ?_))
    refine Wv Z (rApp0 Z yy41 (sz := 1) (by kernel_rfl) Z Z hlc) (Vg Z (Wn ?_))
    rw [hst]
    exact ⟨A, c, hlc, g4_, hI⟩
   obtain ⟨x0, hx0⟩ : ∃ x, l[0]? = some x := ⟨_, gE_ hl0⟩
   obtain ⟨g2, o2, rfl, _⟩ := nats_get hb hx0
   refine Wr (Va Z (Va Z ?_))
   refine WL_app0 (z := Y 0) (by_ := 8) (news := natV l) hI Z Z Z Z Z Z yy41 (by kernel_rfl) Z (by omega) (by rw [natV_len, Nat.mul_one]) (fun i u hi => hI.oldp (nats_cells hb i u hi)) (natV_one _) (by omega) (by omega) hI.pu.size ?_
   rintro A' c' w hc1 hc2 hI
   refine Vg Z (Wn ⟨A', c', by omega, ⟨rfl, rfl, rfl, ?_, trivial⟩, ?_⟩)
   ·rw [hsl]; rfl
   rw [hst, natV_app, List.length_append]
   exact hI
  clear hI
  rintro ρ w ⟨A', c', hlc', hH, hI⟩
  obtain ⟨σ, rfl⟩ := hH.open
  exact Wr (Vl Z (V0 Z (Wn ⟨⟨k + 1, A', c', by omega, hlc', g4_, hI⟩, by show m - ((k + 1 : Nat) : Int).toNat < m - (k : Int).toNat; omega⟩)))
 obtain rfl : m = k := by omega
 rw [List.take_of_length_le (by omega)] at *
 exact Wq (Vr Z (Yg Z (WE (Wq (Va Z (Vg Z (Wn (WR (r1_ 2 Z ⟨_, Z, hI.pu, A, c, Z, hI.g0⟩)))))))))
end Go.Proofs.YtnckdmogdehnoaaGreatDoor
