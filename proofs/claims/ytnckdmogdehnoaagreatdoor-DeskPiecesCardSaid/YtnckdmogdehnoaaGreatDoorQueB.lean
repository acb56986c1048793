/- Part of the proof that a desk answers in pieces. -/
import Derived.Test.YtnckdmogdehnoaaGreatDoorPA
import Derived.Test.YtnckdmogdehnoaaGreatDoorPZonS
import Derived.Test.YtnckdmogdehnoaaGreatDoorPLin5
set_option maxRecDepth 8000
set_option maxHeartbeats 16000000
set_option linter.unusedVariables false
set_option linter.unusedSimpArgs false
namespace Go.Proofs.YtnckdmogdehnoaaGreatDoor
open Tryz
open Go.RowKit
variable {a thin : Int} {left : Int → Prop} {l : List Op8}
section
variable {l : List Op8} {A : Option Addr} {c b1 b18 : Nat}
theorem mapP {κ : Type} {ok : κ → Prop} {K : κ → Value} {w w' : World} {b : Nat} {g : κ → Option Value} (hp : Pure w w') (h : MapKIs ok K w b g) : MapKIs ok K w' b g :=
 ((MapKE.ok h).chg (hp.chg NF) (fun _ _ h => h)).1
theorem cross_any (b8 mb : Nat) (w0 : World) (h : QB l A c b1 b18 w0) (h8 : w0.cell? ⟨b8, 0, none⟩ = some (.map (some mb))) (hM : MapKIs okI kI w0 mb (mpF (popB l) l.length)) (i k : Nat) (hi : i < l.length) (hk : k < l.length) :
  Cq 109 #[.int .i64 (i : Int), .int .i64 (k : Int), .pointer (some ⟨b18, 0, none⟩), .pointer (some ⟨b1, 0, none⟩), .pointer (some ⟨b8, 0, none⟩)] w0 fun en w' => en = .returned (.bool (crossB l i k)) ∧ Pure w0 w' := by
 have hI := Inv.start (fun _ => False) w0
 obtain ⟨_, hc1, hc2⟩ := h.ops.len
 have hbx := h.box
 have hps := h.psh
 have hat := fun m hm => h.ops.at (k := m) hm
 obtain ⟨bA, oA, rfl, hoi⟩ := h.ops.at hi
 obtain ⟨bA', oA', hae, hok⟩ := h.ops.at hk
 injection hae with hae
 injection hae with e1 e2
 subst e1 e2
 have hoi3 := hoi 3 _ rfl
 have hok3 := hok 3 _ rfl
 unfold crossB
 cases hbi : pshB l i with
 | false =>
  rw [Bool.false_and, Bool.false_and, Bool.false_and]
  refine Vm func109 Z (Wq (Vc Z (Wn (Ws (Ws (Yi hI fun Sx hY hXS hI => V9 0 (.func _ _ _) Z (Yo hY hps) (Vh 1 Z (Vq 2 Z (Tx 105 [Y _, .pointer _] [] [_] Z func105 Z ((push_any _ (h.ops.pure hI.pu) (cellP hI.pu h.box) i (by assumption)).mono ?_))))))))))
  rw [hbi]
  rintro e w1 ⟨rfl, hp⟩
  refine rV ?_
  have hI := hI.pure hp
  exact Wn ⟨hXS _ hI, (Uc 3 Z (Ve 4 Z (V4 5 Z Z (V4 6 Z Z (V4 7 Z Z (V4 8 Z Z (Vv 9 Z (Ve 10 Z (V4 11 Z Z (V4 12 Z Z (V4 13 Z Z (V4 14 Z Z (V4 15 Z Z (V4 16 Z Z (V4 17 Z Z (V4 18 Z Z (V4 19 Z Z (V4 20 Z Z (Vv 21 Z (Yz (Wc true Z (Wq (Vc Z (Wn (WR (r1_ 7 Z ⟨Z, hI.pu⟩))))))))))))))))))))))))))⟩
 | true =>
 cases hbk : pshB l k with
 | false =>
  rw [Bool.true_and, Bool.false_and, Bool.false_and]
  refine Vm func109 Z (Wq (Vc Z (Wn (Ws (Ws (Yi hI fun Sx hY hXS hI => V9 0 (.func _ _ _) Z (Yo hY hps) (Vh 1 Z (Vq 2 Z (Tx 105 [Y _, .pointer _] [] [_] Z func105 Z ((push_any _ (h.ops.pure hI.pu) (cellP hI.pu h.box) i (by assumption)).mono ?_))))))))))
  rw [hbi]
  rintro e w1 ⟨rfl, hp⟩
  refine rV ?_
  have hI := hI.pure hp
  refine Wn ⟨hXS _ hI, (Tm 3 Z (Ve 4 Z (V9 5 (.func _ _ _) Z (Yo hY hps) (Vh 6 Z (Vq 7 Z (Tx 105 [Y _, .pointer _] [] [_] Z func105 Z ((push_any _ (h.ops.pure hI.pu) (cellP hI.pu h.box) k (by assumption)).mono ?_)))))))⟩
  rw [hbk]
  rintro e w1 ⟨rfl, hp⟩
  refine rV ?_
  have hI := hI.pure hp
  exact Wn ⟨hXS _ hI, (Uc 8 Z (Vn 9 Z (Ve 10 Z (V4 11 Z Z (V4 12 Z Z (V4 13 Z Z (V4 14 Z Z (V4 15 Z Z (V4 16 Z Z (V4 17 Z Z (V4 18 Z Z (V4 19 Z Z (V4 20 Z Z (Vv 21 Z (Yz (Wc true Z (Wq (Vc Z (Wn (WR (r1_ 7 Z ⟨Z, hI.pu⟩)))))))))))))))))))))⟩
 | true =>
 cases hbf : befB (oAt l i) (oAt l k) with
 | false =>
  rw [Bool.true_and, Bool.true_and, Bool.false_and]
  refine Vm func109 Z (Wq (Vc Z (Wn (Ws (Ws (Yi hI fun Sx hY hXS hI => V9 0 (.func _ _ _) Z (Yo hY hps) (Vh 1 Z (Vq 2 Z (Tx 105 [Y _, .pointer _] [] [_] Z func105 Z ((push_any _ (h.ops.pure hI.pu) (cellP hI.pu h.box) i (by assumption)).mono ?_))))))))))
  rw [hbi]
  rintro e w1 ⟨rfl, hp⟩
  refine rV ?_
  have hI := hI.pure hp
  refine Wn ⟨hXS _ hI, (Tm 3 Z (Ve 4 Z (V9 5 (.func _ _ _) Z (Yo hY hps) (Vh 6 Z (Vq 7 Z (Tx 105 [Y _, .pointer _] [] [_] Z func105 Z ((push_any _ (h.ops.pure hI.pu) (cellP hI.pu h.box) k (by assumption)).mono ?_)))))))⟩
  rw [hbk]
  rintro e w1 ⟨rfl, hp⟩
  refine rV ?_
  have hI := hI.pure hp
  refine Wn ⟨hXS _ hI, (Tm 8 Z (Vn 9 Z (Ve 10 Z (V9 11 (.slice _ _ _) Z (Yo hY hbx) (Vh 12 Z (Tb 13 8 Z yy94 Z (Ug 14 8 Z (by rfl) (fun W hW => have hI := hY W hW; fun k u hk => hI.oldp (hoi k u hk)) (V9 15 (.slice _ _ _) Z (Yo hY hbx) (Vh 16 Z (Tb 17 8 Z yy94 Z (Ug 18 8 Z (by rfl) (fun W hW => have hI := hY W hW; fun k u hk => hI.oldp (hok k u hk)) (Vq 19 Z (Vd [.agg _, .agg _] Z func92 Z ((before_any (oAt l i) (oAt l k) _).mono ?_))))))))))))))⟩
  rw [hbf]
  rintro e w1 ⟨rfl, hp⟩
  refine rV ?_
  have hI := hI.pure hp
  exact Wn ⟨hXS _ hI, (Uc 20 Z (Vn 21 Z (Yz (Wc true Z (Wq (Vc Z (Wn (WR (r1_ 7 Z ⟨Z, hI.pu⟩)))))))))⟩
 | true =>
 rw [Bool.true_and, Bool.true_and, Bool.true_and]
 cases hs : fdN (popB l (oAt l k).a) l.length with
 | none =>
  cases hf : fdN (popB l (oAt l i).a) l.length with
  | none =>
   refine Vm func109 Z (Wq (Vc Z (Wn (Ws (Ws (Yi hI fun Sx hY hXS hI => V9 0 (.func _ _ _) Z (Yo hY hps) (Vh 1 Z (Vq 2 Z (Tx 105 [Y _, .pointer _] [] [_] Z func105 Z ((push_any _ (h.ops.pure hI.pu) (cellP hI.pu h.box) i (by assumption)).mono ?_))))))))))
   rw [hbi]
   rintro e w1 ⟨rfl, hp⟩
   refine rV ?_
   have hI := hI.pure hp
   refine Wn ⟨hXS _ hI, (Tm 3 Z (Ve 4 Z (V9 5 (.func _ _ _) Z (Yo hY hps) (Vh 6 Z (Vq 7 Z (Tx 105 [Y _, .pointer _] [] [_] Z func105 Z ((push_any _ (h.ops.pure hI.pu) (cellP hI.pu h.box) k (by assumption)).mono ?_)))))))⟩
   rw [hbk]
   rintro e w1 ⟨rfl, hp⟩
   refine rV ?_
   have hI := hI.pure hp
   refine Wn ⟨hXS _ hI, (Tm 8 Z (Vn 9 Z (Ve 10 Z (V9 11 (.slice _ _ _) Z (Yo hY hbx) (Vh 12 Z (Tb 13 8 Z yy94 Z (Ug 14 8 Z (by rfl) (fun W hW => have hI := hY W hW; fun k u hk => hI.oldp (hoi k u hk)) (V9 15 (.slice _ _ _) Z (Yo hY hbx) (Vh 16 Z (Tb 17 8 Z yy94 Z (Ug 18 8 Z (by rfl) (fun W hW => have hI := hY W hW; fun k u hk => hI.oldp (hok k u hk)) (Vq 19 Z (Vd [.agg _, .agg _] Z func92 Z ((before_any (oAt l i) (oAt l k) _).mono ?_))))))))))))))⟩
   rw [hbf]
   rintro e w1 ⟨rfl, hp⟩
   refine rV ?_
   have hI := hI.pure hp
   refine Wn ⟨hXS _ hI, (Tm 20 Z (Vn 21 Z (Yz (Wc false Z (Wk ?_)))))⟩
   have hv3 : mpF (popB l) l.length (oAt l i).a = none := by unfold mpF; rw [hf]; rfl
   refine Ws (Yi hI fun Sx hY hXS hI => V9 0 (.map _) Z (Yo hY h8) (V9 1 (.slice _ _ _) Z (Yo hY hbx) (Vh 2 Z (Tb 3 8 Z yy94 Z (T9 4 3 Z (V9 5 (Y _) Z (Yo hY hoi3) (Wt 6 Z (fun W hW => have hI := hY W hW; (rLookKN (a := (oAt l i).a) (zv := Y 0) keyI hv3 Z yy171 (by kernel_rfl) Z Z trivial (mapP hI.pu hM))) (Ub 7 Z (Ti 8 Z (Ti 9 Z (Tl 10 Z (Tg 11 Z (Yz ?_)))))))))))))
   have hv4 : mpF (popB l) l.length (oAt l k).a = none := by unfold mpF; rw [hs]; rfl
   exact Ws (Yi hI fun Sx hY hXS hI => V9 0 (.map _) Z (Yo hY h8) (V9 1 (.slice _ _ _) Z (Yo hY hbx) (Vh 2 Z (Tb 3 8 Z yy94 Z (T9 4 3 Z (V9 5 (Y _) Z (Yo hY hok3) (Wt 6 Z (fun W hW => have hI := hY W hW; (rLookKN (a := (oAt l k).a) (zv := Y 0) keyI hv4 Z yy171 (by kernel_rfl) Z Z trivial (mapP hI.pu hM))) (Ub 7 Z (Ti 8 Z (Ti 9 Z (Tl 10 Z (Tg 11 Z (Yz (Ws (Yi hI fun Sx hY hXS hI => Ve 0 Z (Ve 1 Z (V4 2 Z Z (V4 3 Z Z (V4 4 Z Z (V4 5 Z Z (V4 6 Z Z (V4 7 Z Z (V4 8 Z Z (V4 9 Z Z (V4 10 Z Z (V4 11 Z Z (V4 12 Z Z (V4 13 Z Z (V4 14 Z Z (Vn 15 Z (Tg 16 Z (Yz (WR (r1_ 7 Z ⟨Z, hI.pu⟩))))))))))))))))))))))))))))))))))
  | some f =>
   refine Vm func109 Z (Wq (Vc Z (Wn (Ws (Ws (Yi hI fun Sx hY hXS hI => V9 0 (.func _ _ _) Z (Yo hY hps) (Vh 1 Z (Vq 2 Z (Tx 105 [Y _, .pointer _] [] [_] Z func105 Z ((push_any _ (h.ops.pure hI.pu) (cellP hI.pu h.box) i (by assumption)).mono ?_))))))))))
   rw [hbi]
   rintro e w1 ⟨rfl, hp⟩
   refine rV ?_
   have hI := hI.pure hp
   refine Wn ⟨hXS _ hI, (Tm 3 Z (Ve 4 Z (V9 5 (.func _ _ _) Z (Yo hY hps) (Vh 6 Z (Vq 7 Z (Tx 105 [Y _, .pointer _] [] [_] Z func105 Z ((push_any _ (h.ops.pure hI.pu) (cellP hI.pu h.box) k (by assumption)).mono ?_)))))))⟩
   rw [hbk]
   rintro e w1 ⟨rfl, hp⟩
   refine rV ?_
   have hI := hI.pure hp
   refine Wn ⟨hXS _ hI, (Tm 8 Z (Vn 9 Z (Ve 10 Z (V9 11 (.slice _ _ _) Z (Yo hY hbx) (Vh 12 Z (Tb 13 8 Z yy94 Z (Ug 14 8 Z (by rfl) (fun W hW => have hI := hY W hW; fun k u hk => hI.oldp (hoi k u hk)) (V9 15 (.slice _ _ _) Z (Yo hY hbx) (Vh 16 Z (Tb 17 8 Z yy94 Z (Ug 18 8 Z (by rfl) (fun W hW => have hI := hY W hW; fun k u hk => hI.oldp (hok k u hk)) (Vq 19 Z (Vd [.agg _, .agg _] Z func92 Z ((before_any (oAt l i) (oAt l k) _).mono ?_))))))))))))))⟩
   rw [hbf]
   rintro e w1 ⟨rfl, hp⟩
   refine rV ?_
   have hI := hI.pure hp
   refine Wn ⟨hXS _ hI, (Tm 20 Z (Vn 21 Z (Yz (Wc false Z (Wk ?_)))))⟩
   have hv3 : mpF (popB l) l.length (oAt l i).a = some (.int .i64 (f : Int)) := by unfold mpF; rw [hf]; rfl
   refine Ws (Yi hI fun Sx hY hXS hI => V9 0 (.map _) Z (Yo hY h8) (V9 1 (.slice _ _ _) Z (Yo hY hbx) (Vh 2 Z (Tb 3 8 Z yy94 Z (T9 4 3 Z (V9 5 (Y _) Z (Yo hY hoi3) (Wt 6 Z (fun W hW => have hI := hY W hW; (rLookKY (a := (oAt l i).a) keyI hv3 Z yy171 Z Z trivial (mapP hI.pu hM))) (Ub 7 Z (Ti 8 Z (Ti 9 Z (Tl 10 Z (Tg 11 Z (Yz ?_)))))))))))))
   have hv4 : mpF (popB l) l.length (oAt l k).a = none := by unfold mpF; rw [hs]; rfl
   exact Ws (Yi hI fun Sx hY hXS hI => V9 0 (.map _) Z (Yo hY h8) (V9 1 (.slice _ _ _) Z (Yo hY hbx) (Vh 2 Z (Tb 3 8 Z yy94 Z (T9 4 3 Z (V9 5 (Y _) Z (Yo hY hok3) (Wt 6 Z (fun W hW => have hI := hY W hW; (rLookKN (a := (oAt l k).a) (zv := Y 0) keyI hv4 Z yy171 (by kernel_rfl) Z Z trivial (mapP hI.pu hM))) (Ub 7 Z (Ti 8 Z (Ti 9 Z (Tl 10 Z (Tg 11 Z (Yz (Ws (Yi hI fun Sx hY hXS hI => Ve 0 Z (Ve 1 Z (V4 2 Z Z (V4 3 Z Z (V4 4 Z Z (V4 5 Z Z (V4 6 Z Z (V4 7 Z Z (V4 8 Z Z (V4 9 Z Z (V4 10 Z Z (V4 11 Z Z (V4 12 Z Z (V4 13 Z Z (V4 14 Z Z (Vn 15 Z (Tg 16 Z (Yz (WR (r1_ 7 Z ⟨Z, hI.pu⟩))))))))))))))))))))))))))))))))))
 | some s =>
  have hsl := (fdN_some hs).1
  cases hf : fdN (popB l (oAt l i).a) l.length with
  | none =>
   refine Vm func109 Z (Wq (Vc Z (Wn (Ws (Ws (Yi hI fun Sx hY hXS hI => V9 0 (.func _ _ _) Z (Yo hY hps) (Vh 1 Z (Vq 2 Z (Tx 105 [Y _, .pointer _] [] [_] Z func105 Z ((push_any _ (h.ops.pure hI.pu) (cellP hI.pu h.box) i (by assumption)).mono ?_))))))))))
   rw [hbi]
   rintro e w1 ⟨rfl, hp⟩
   refine rV ?_
   have hI := hI.pure hp
   refine Wn ⟨hXS _ hI, (Tm 3 Z (Ve 4 Z (V9 5 (.func _ _ _) Z (Yo hY hps) (Vh 6 Z (Vq 7 Z (Tx 105 [Y _, .pointer _] [] [_] Z func105 Z ((push_any _ (h.ops.pure hI.pu) (cellP hI.pu h.box) k (by assumption)).mono ?_)))))))⟩
   rw [hbk]
   rintro e w1 ⟨rfl, hp⟩
   refine rV ?_
   have hI := hI.pure hp
   refine Wn ⟨hXS _ hI, (Tm 8 Z (Vn 9 Z (Ve 10 Z (V9 11 (.slice _ _ _) Z (Yo hY hbx) (Vh 12 Z (Tb 13 8 Z yy94 Z (Ug 14 8 Z (by rfl) (fun W hW => have hI := hY W hW; fun k u hk => hI.oldp (hoi k u hk)) (V9 15 (.slice _ _ _) Z (Yo hY hbx) (Vh 16 Z (Tb 17 8 Z yy94 Z (Ug 18 8 Z (by rfl) (fun W hW => have hI := hY W hW; fun k u hk => hI.oldp (hok k u hk)) (Vq 19 Z (Vd [.agg _, .agg _] Z func92 Z ((before_any (oAt l i) (oAt l k) _).mono ?_))))))))))))))⟩
   rw [hbf]
   rintro e w1 ⟨rfl, hp⟩
   refine rV ?_
   have hI := hI.pure hp
   refine Wn ⟨hXS _ hI, (Tm 20 Z (Vn 21 Z (Yz (Wc false Z (Wk ?_)))))⟩
   have hv3 : mpF (popB l) l.length (oAt l i).a = none := by unfold mpF; rw [hf]; rfl
   refine Ws (Yi hI fun Sx hY hXS hI => V9 0 (.map _) Z (Yo hY h8) (V9 1 (.slice _ _ _) Z (Yo hY hbx) (Vh 2 Z (Tb 3 8 Z yy94 Z (T9 4 3 Z (V9 5 (Y _) Z (Yo hY hoi3) (Wt 6 Z (fun W hW => have hI := hY W hW; (rLookKN (a := (oAt l i).a) (zv := Y 0) keyI hv3 Z yy171 (by kernel_rfl) Z Z trivial (mapP hI.pu hM))) (Ub 7 Z (Ti 8 Z (Ti 9 Z (Tl 10 Z (Tg 11 Z (Yz ?_)))))))))))))
   have hv4 : mpF (popB l) l.length (oAt l k).a = some (.int .i64 (s : Int)) := by unfold mpF; rw [hs]; rfl
   exact Ws (Yi hI fun Sx hY hXS hI => V9 0 (.map _) Z (Yo hY h8) (V9 1 (.slice _ _ _) Z (Yo hY hbx) (Vh 2 Z (Tb 3 8 Z yy94 Z (T9 4 3 Z (V9 5 (Y _) Z (Yo hY hok3) (Wt 6 Z (fun W hW => have hI := hY W hW; (rLookKY (a := (oAt l k).a) keyI hv4 Z yy171 Z Z trivial (mapP hI.pu hM))) (Ub 7 Z (Ti 8 Z (Ti 9 Z (Tl 10 Z (Tg 11 Z (Yz (Ws (Yi hI fun Sx hY hXS hI => Ve 0 Z (Ve 1 Z (Ve 2 Z (Uc 3 Z (Ve 4 Z (V4 5 Z Z (V4 6 Z Z (V4 7 Z Z (V4 8 Z Z (V4 9 Z Z (V4 10 Z Z (V4 11 Z Z (V4 12 Z Z (V4 13 Z Z (Vv 14 Z (Vv 15 Z (Tg 16 Z (Yz (WR (r1_ 7 Z ⟨Z, hI.pu⟩))))))))))))))))))))))))))))))))))
  | some f =>
   have hfl := (fdN_some hf).1
   obtain ⟨bA', oA', hae, hos⟩ := hat s hsl
   injection hae with hae
   injection hae with e1 e2
   subst e1 e2
   obtain ⟨bA', oA', hae, hof⟩ := hat f hfl
   injection hae with hae
   injection hae with e1 e2
   subst e1 e2
   refine Vm func109 Z (Wq (Vc Z (Wn (Ws (Ws (Yi hI fun Sx hY hXS hI => V9 0 (.func _ _ _) Z (Yo hY hps) (Vh 1 Z (Vq 2 Z (Tx 105 [Y _, .pointer _] [] [_] Z func105 Z ((push_any _ (h.ops.pure hI.pu) (cellP hI.pu h.box) i (by assumption)).mono ?_))))))))))
   rw [hbi]
   rintro e w1 ⟨rfl, hp⟩
   refine rV ?_
   have hI := hI.pure hp
   refine Wn ⟨hXS _ hI, (Tm 3 Z (Ve 4 Z (V9 5 (.func _ _ _) Z (Yo hY hps) (Vh 6 Z (Vq 7 Z (Tx 105 [Y _, .pointer _] [] [_] Z func105 Z ((push_any _ (h.ops.pure hI.pu) (cellP hI.pu h.box) k (by assumption)).mono ?_)))))))⟩
   rw [hbk]
   rintro e w1 ⟨rfl, hp⟩
   refine rV ?_
   have hI := hI.pure hp
   refine Wn ⟨hXS _ hI, (Tm 8 Z (Vn 9 Z (Ve 10 Z (V9 11 (.slice _ _ _) Z (Yo hY hbx) (Vh 12 Z (Tb 13 8 Z yy94 Z (Ug 14 8 Z (by rfl) (fun W hW => have hI := hY W hW; fun k u hk => hI.oldp (hoi k u hk)) (V9 15 (.slice _ _ _) Z (Yo hY hbx) (Vh 16 Z (Tb 17 8 Z yy94 Z (Ug 18 8 Z (by rfl) (fun W hW => have hI := hY W hW; fun k u hk => hI.oldp (hok k u hk)) (Vq 19 Z (Vd [.agg _, .agg _] Z func92 Z ((before_any (oAt l i) (oAt l k) _).mono ?_))))))))))))))⟩
   rw [hbf]
   rintro e w1 ⟨rfl, hp⟩
   refine rV ?_
   have hI := hI.pure hp
   refine Wn ⟨hXS _ hI, (Tm 20 Z (Vn 21 Z (Yz (Wc false Z (Wk ?_)))))⟩
   have hv3 : mpF (popB l) l.length (oAt l i).a = some (.int .i64 (f : Int)) := by unfold mpF; rw [hf]; rfl
   refine Ws (Yi hI fun Sx hY hXS hI => V9 0 (.map _) Z (Yo hY h8) (V9 1 (.slice _ _ _) Z (Yo hY hbx) (Vh 2 Z (Tb 3 8 Z yy94 Z (T9 4 3 Z (V9 5 (Y _) Z (Yo hY hoi3) (Wt 6 Z (fun W hW => have hI := hY W hW; (rLookKY (a := (oAt l i).a) keyI hv3 Z yy171 Z Z trivial (mapP hI.pu hM))) (Ub 7 Z (Ti 8 Z (Ti 9 Z (Tl 10 Z (Tg 11 Z (Yz ?_)))))))))))))
   have hv4 : mpF (popB l) l.length (oAt l k).a = some (.int .i64 (s : Int)) := by unfold mpF; rw [hs]; rfl
   exact Ws (Yi hI fun Sx hY hXS hI => V9 0 (.map _) Z (Yo hY h8) (V9 1 (.slice _ _ _) Z (Yo hY hbx) (Vh 2 Z (Tb 3 8 Z yy94 Z (T9 4 3 Z (V9 5 (Y _) Z (Yo hY hok3) (Wt 6 Z (fun W hW => have hI := hY W hW; (rLookKY (a := (oAt l k).a) keyI hv4 Z yy171 Z Z trivial (mapP hI.pu hM))) (Ub 7 Z (Ti 8 Z (Ti 9 Z (Tl 10 Z (Tg 11 Z (Yz (Ws (Yi hI fun Sx hY hXS hI => Ve 0 Z (Ve 1 Z (Ve 2 Z (Tm 3 Z (Ve 4 Z (V9 5 (.slice _ _ _) Z (Yo hY hbx) (Vh 6 Z (Tb 7 8 Z yy94 Z (Ug 8 8 Z (by rfl) (fun W hW => have hI := hY W hW; fun k u hk => hI.oldp (hos k u hk)) (V9 9 (.slice _ _ _) Z (Yo hY hbx) (Vh 10 Z (Tb 11 8 Z yy94 Z (Ug 12 8 Z (by rfl) (fun W hW => have hI := hY W hW; fun k u hk => hI.oldp (hof k u hk)) (Vq 13 Z (Vd [.agg _, .agg _] Z func92 Z ((before_any (oAt l s) (oAt l f) _).mono (okP hI fun w1 hp hI => Wn ⟨hXS _ hI, (Vn 14 Z (Vv 15 Z (Tg 16 Z (Yz (WR (r1_ 7 Z ⟨Z, hI.pu⟩))))))⟩)))))))))))))))))))))))))))))))
end
theorem ret4q {P : Program} {ρ : Env} {w : World} {fn : Func} {R : Ending → World → Prop} {e : Exit} (s t u v : Tmp) (he : e = .normal ∨ e = .ret) (hr : fn.results = #[.tmp s, .tmp t, .tmp u, .tmp v]) (h : R (.returned (.tuple #[ρ s, ρ t, ρ u, ρ v])) w) : retQ P fn R e ρ w := by
 refine retQ_intro he fun a ha => ⟨_, ?_, h⟩
 have h1 := ha.get t; have h2 := ha.get s; have h3 := ha.get u; have h4 := ha.get v
 simp only [Array.getD_eq_getD_getElem?] at h1 h2 h3 h4
 simp [results, hr, h1, h2, h3, h4]
def AnyB (n : Nat) (p : Nat → Nat → Bool) : Prop := ∃ i k, i < n ∧ k < n ∧ p i k = true
def ThinI (l : List Op8) (left : Int → Prop) (thin : Int) : Prop :=
 (thin = -1 ∧ ∀ v j, fdN (popB l v) l.length = some j → ¬ left v → fdN (pushB l v) l.length ≠ none) ∨
 ∃ v j, thin = ((j : Nat) : Int) ∧ fdN (popB l v) l.length = some j ∧ fdN (pushB l v) l.length = none ∧ ∀ v' j', fdN (popB l v') l.length = some j' → ¬ left v' → fdN (pushB l v') l.length = none → j ≤ j'
theorem ThinI.start (l : List Op8) : ThinI l (fun v => (mpF (popB l) l.length v).isSome = true) (-1) := .inl ⟨rfl, fun v j hj hn => by
 exfalso; apply hn; unfold mpF; rw [hj]; rfl⟩
theorem ThinI.pushed {l : List Op8} {left : Int → Prop} {thin a : Int} (h : ThinI l left thin) (ha : fdN (pushB l a) l.length ≠ none) : ThinI l (fun k => left k ∧ k ≠ a) thin := by
 have hk : ∀ {v : Int}, ¬ (left v ∧ v ≠ a) → fdN (pushB l v) l.length = none → ¬ left v := fun hn hp hl => hn ⟨hl, fun e => ha (by rw [← e]; exact hp)⟩
 rcases h with ⟨h1, h2⟩ | ⟨v, j, h1, h2, h3, h4⟩
 ·exact .inl ⟨h1, fun v j hj hn hp => h2 v j hj (hk hn hp) hp⟩
 exact .inr ⟨v, j, h1, h2, h3, fun v' j' q1 q2 q3 => h4 v' j' q1 (hk q2 q3) q3⟩
theorem ThinI.keep {l : List Op8} {left : Int → Prop} {thin a : Int} {j : Nat} (h : ThinI l left thin) (h0 : 0 ≤ thin) (h1 : fdN (popB l a) l.length = some j) (h2 : thin ≤ (j : Int)) : ThinI l (fun k => left k ∧ k ≠ a) thin := by
 rcases h with ⟨h3, _⟩ | ⟨v, j0, q1, q2, q3, q4⟩
 ·omega
 refine .inr ⟨v, j0, q1, q2, q3, fun v' j' p1 p2 p3 => ?_⟩
 by_cases hv : v' = a
 ·subst hv
  rw [h1] at p1
  injection p1 with p1
  omega
 exact q4 v' j' p1 (fun hl => p2 ⟨hl, hv⟩) p3
theorem ThinI.at {l : List Op8} {left : Int → Prop} {thin a : Int} {j : Nat} (h : ThinI l left thin) (h1 : fdN (popB l a) l.length = some j) (h2 : fdN (pushB l a) l.length = .none) (h3 : thin < 0 ∨ (j : Int) < thin) : ThinI l (fun k => left k ∧ k ≠ a) (j : Int) := by
 refine .inr ⟨a, j, Z, h1, h2, fun v' j' p1 p2 p3 => ?_⟩
 by_cases hv : v' = a
 ·subst hv
  rw [h1] at p1
  injection p1 with p1
  omega
 have hl : ¬ left v' := fun hl => p2 ⟨hl, hv⟩
 rcases h with ⟨_, q2⟩ | ⟨v, j0, q1, _, _, q4⟩
 ·exact absurd p3 (q2 v' j' p1 hl)
 have := q4 v' j' p1 hl p3
 omega
theorem ThinI.over {l : List Op8} {left : Int → Prop} {thin : Int} (h : ThinI l left thin) (hl : ∀ v, ¬ left v) : ThinI l (fun _ => False) thin := by
 rcases h with ⟨h1, h2⟩ | ⟨v, j, h1, h2, h3, h4⟩
 ·exact .inl ⟨h1, fun v j hj _ => h2 v j hj (hl v)⟩
 exact .inr ⟨v, j, h1, h2, h3, fun v' j' q1 _ => h4 v' j' q1 (hl v')⟩
theorem ThinI.one {l : List Op8} {thin thin' : Int} (h : ThinI l (fun _ => False) thin) (h' : ThinI l (fun _ => False) thin') : thin = thin' := by
 rcases h with ⟨h1, h2⟩ | ⟨v, j, h1, h2, h3, h4⟩ <;> rcases h' with ⟨q1, q2⟩ | ⟨v', j', q1, q2, q3, q4⟩
 ·rw [h1, q1]
 ·exact absurd q3 (h2 v' j' q2 id)
 ·exact absurd h3 (q2 v j h2 id)
 have a1 := h4 v' j' q2 id q3
 have a2 := q4 v j h2 id h3
 omega
def thinB (thin : Int) (i k : Nat) : Bool := decide ((i : Int) = thin) && decide ((k : Int) = thin)
def testC (b1 b8 b13 b18 : Nat) : Array Value := #[.nilFunc, .func (.func 106) #[] #[.pointer (some ⟨b13, 0, none⟩)], .func (.func 107) #[] #[.pointer (some ⟨b18, 0, none⟩), .pointer (some ⟨b1, 0, none⟩)], .func (.func 108) #[] #[.pointer (some ⟨b18, 0, none⟩), .pointer (some ⟨b1, 0, none⟩)], .func (.func 109) #[] #[.pointer (some ⟨b18, 0, none⟩), .pointer (some ⟨b1, 0, none⟩), .pointer (some ⟨b8, 0, none⟩)]]
def tstQ (l : List Op8) (thin : Int) : Nat → Nat → Nat → Bool
 | 1 => thinB thin
 | 2 => twiceB l
 | 3 => earlyB l
 | _ => crossB l
theorem tests_any {l : List Op8} {A : Option Addr} {c b1 b8 b13 b18 mb : Nat} {thin : Int} (w : World) (hQ : QB l A c b1 b18 w) (h13 : w.cell? ⟨b13, 0, none⟩ = some (.int .i64 thin)) (h8 : w.cell? ⟨b8, 0, none⟩ = some (.map (some mb))) (hM : MapKIs okI kI w mb (mpF (popB l) l.length)) (t : Nat) (h1 : 1 ≤ t) (h4 : t ≤ 4) :
  ∃ f cap, (testC b1 b8 b13 b18)[t]? = some (.func (.func f) #[] (List.toArray cap)) ∧ PairC f cap l.length (tstQ l thin t) w := by
 obtain rfl | rfl | rfl | rfl : t = 1 ∨ t = 2 ∨ t = 3 ∨ t = 4 := by omega
 ·exact ⟨106, [.pointer (some ⟨b13, 0, none⟩)], Z, ⟨_, func106, Z, Z⟩, fun i k w2 hi hk hp => qthin_any b13 thin w2 (cellP hp h13) i k⟩
 ·exact ⟨107, [.pointer (some ⟨b18, 0, none⟩), .pointer (some ⟨b1, 0, none⟩)], Z, ⟨_, func107, Z, Z⟩, fun i k w2 hi hk hp => twice_any w2 (hQ.pure hp) i k hi hk⟩
 ·exact ⟨108, [.pointer (some ⟨b18, 0, none⟩), .pointer (some ⟨b1, 0, none⟩)], Z, ⟨_, func108, Z, Z⟩, fun i k w2 hi hk hp => early_any w2 (hQ.pure hp) i k hi hk⟩
 exact ⟨109, [.pointer (some ⟨b18, 0, none⟩), .pointer (some ⟨b1, 0, none⟩), .pointer (some ⟨b8, 0, none⟩)], Z, ⟨_, func109, Z, Z⟩, fun i k w2 hi hk hp => cross_any b8 mb w2 (hQ.pure hp) (cellP hp h8) (mapP hp hM) i k hi hk⟩
def QFindsN (l : List Op8) (code a b : Int) : Prop := ∃ thin, ThinI l (fun _ => False) thin ∧
 ((code = 0 ∧ a = 0 ∧ b = 0 ∧ ∀ t, 1 ≤ t → t < 5 → ¬ AnyB l.length (tstQ l thin t)) ∨
 ∃ q : Nat, 1 ≤ q ∧ q ≤ 4 ∧ code = (q : Int) ∧ PairN l.length (tstQ l thin q) a b true ∧ ∀ t, 1 ≤ t → t < q → ¬ AnyB l.length (tstQ l thin t))
theorem PairN.bad {n : Nat} {p : Nat → Nat → Bool} {a b : Int} (h : PairN n p a b true) : AnyB n p := h.any.1 rfl
theorem PairN.one {n : Nat} {p : Nat → Nat → Bool} {a b a' b' : Int} (h : PairN n p a b true) (h' : PairN n p a' b' true) : a = a' ∧ b = b' := by
 rcases h with ⟨_, i, k, h1, h2, rfl, rfl, h3, h4, h5⟩ | ⟨h, _⟩
 ·rcases h' with ⟨_, i', k', q1, q2, rfl, rfl, q3, q4, q5⟩ | ⟨h, _⟩
  ·obtain rfl : i = i' := by
    rcases Nat.lt_trichotomy i i' with h | h | h
    ·rw [q4 i h k h2] at h3; cases h3
    ·exact h
    rw [h4 i' h k' q2] at q3; cases q3
   obtain rfl : k = k' := by
    rcases Nat.lt_trichotomy k k' with h | h | h
    ·rw [q5 k h] at h3; cases h3
    ·exact h
    rw [h5 k' h] at q3; cases q3
   exact ⟨Z, Z⟩
  cases h
 cases h
theorem QFindsN.one {l : List Op8} {code a b code' a' b' : Int} (h : QFindsN l code a b) (h' : QFindsN l code' a' b') : code = code' ∧ a = a' ∧ b = b' := by
 obtain ⟨thin, ht, h⟩ := h
 obtain ⟨thin', ht', h'⟩ := h'
 obtain rfl := ht.one ht'
 rcases h with ⟨rfl, rfl, rfl, h⟩ | ⟨q, h1, h2, rfl, h3, h4⟩ <;> rcases h' with ⟨rfl, rfl, rfl, h'⟩ | ⟨q', h1', h2', rfl, h3', h4'⟩
 ·exact ⟨Z, Z, Z⟩
 ·exact absurd h3'.bad (h q' h1' (by omega))
 ·exact absurd h3.bad (h' q h1 (by omega))
 rcases Nat.lt_trichotomy q q' with hq | hq | hq
 ·exact absurd h3.bad (h4' q h1 hq)
 ·subst hq
  exact ⟨Z, h3.one h3'⟩
 exact absurd h3'.bad (h4 q' h1' hq)
def QfPostN (l : List Op8) (w0 : World) (en : Ending) (w' : World) : Prop := Pure w0 w' ∧ ((¬ OkQ l ∧ ∃ z : Int, QErr l z ∧ en = .returned (.tuple #[.int .i64 0, .int .i64 0, .int .i64 0, .iface 49 (.int .i64 z)])) ∨
 (OkQ l ∧ ∃ code a b : Int, en = .returned (.tuple #[.int .i64 code, .int .i64 a, .int .i64 b, .nilIface]) ∧ QFindsN l code a b))
theorem qfindsN_any (A : Option Addr) (n c : Nat) (l : List Op8) (D : Nat → Prop) (w0 : World) (h : OpsR w0 D (.slice A n c) l) : Cq 64 #[.slice A n c] w0 (QfPostN l w0) := by
 obtain ⟨hn, hc1, hc2⟩ := h.len
 subst hn
 have hI := Inv.start (fun _ => False) w0
 refine Vm func64 Z (Wq (Tq (.slice _ _ _) #[_] hI Z ?_))
 rintro b1 w - - hI
 refine Vb Z (Vb Z (Vb Z (Vw Z (Wn ?_))))
 by_cases hok : OkQ l
 rotate_left
 ·refine Ws (Wq (V6 (.slice _ _ _) Z (hI.c0 Z) (Vd [.slice _ _ _] Z func104 Z ((qcheckN_any A l.length c l D _ (h.pure hI.pu)).mono ?_))))
  rintro e w1 ⟨hp, ⟨h1, _⟩ | ⟨_, z, hz, rfl⟩⟩
  ·exact absurd h1 hok
  refine rV ?_
  have hI := hI.pure hp
  exact Vt Z (Wn (Wq (Vy Z (U0 Z yy37 Z (Yt Z (Wq (Vy Z (Vb Z (Vb Z (Vb Z (Vt Z (Wn (WR (ret4q 2 3 4 5 (.inr Z) Z ⟨hI.pu, .inl ⟨hok, z, hz, Z⟩⟩))))))))))))))
 refine Ws (Wq (V6 (.slice _ _ _) Z (hI.c0 Z) (Vd [.slice _ _ _] Z func104 Z ((qcheckN_any A l.length c l D _ (h.pure hI.pu)).mono ?_))))
 rintro e w1 ⟨hp, ⟨_, rfl⟩ | ⟨h1, _⟩⟩
 rotate_left
 ·exact absurd hok h1
 refine rV ?_
 have hI := hI.pure hp
 refine Vw Z (Wn ?_)
 have h40 := hok.ops.1
 refine Wq (Td Z (Tv Z yy37 Z (Yf Z (Wk (Ws (Wr (WL_mkMapK okI kI hI Z Z Z Z ?_)))))))
 rintro b29 w hI
 refine WL_mkMapK okI kI hI Z Z Z Z ?_
 rintro b30 w hI
 refine Vz (.map none) (#[.map none]) hI Z ?_
 rintro b8 w - - hI
 refine Wv Z (by exact rAsgnM rfl rfl) (T2 1 #[_] (.map _) hI Z ?_)
 intro w hI
 refine Wn ?_
 replace hI : Inv NF w0 w [B b8 171 #[.map (some b30)], MapKE okI kI b30 (mpF (popB l) 0), MapKE okI kI b29 (mpF (pushB l) 0), B b1 94 #[.slice A l.length c]] := hI
 refine Ws (Wq (V6 (.slice _ _ _) Z (hI.c3 Z) (Vo Z yy94 Z (V0 Z (Wn (Wb ?_))))))
 refine Wl (fun mu ρ w => ∃ k : Nat, mu = l.length - k ∧ k ≤ l.length ∧ Has ρ [(33, Y (k : Int)), (32, Y (l.length : Int)), (31, .slice A l.length c), (1, .pointer (some ⟨b1, 0, none⟩)), (7, .map (some b29)), (8, .pointer (some ⟨b8, 0, none⟩))] ∧ Inv NF w0 w [B b8 171 #[.map (some b30)], MapKE okI kI b30 (mpF (popB l) k), MapKE okI kI b29 (mpF (pushB l) k), B b1 94 #[.slice A l.length c]]) l.length
  ⟨0, rfl, by omega, ⟨rfl, rfl, rfl, rfl, rfl, rfl, trivial⟩, hI⟩ ?_
 clear hI
 rintro mu ρ w ⟨k, rfl, hk, hH, hI⟩
 obtain ⟨σ, rfl⟩ := hH.open
 by_cases hkl : k < l.length
 ·obtain ⟨bA, oA, rfl, hoc⟩ := (h.pure hI.pu).at hkl
  have hkd := hok.kind k hkl
  have hsame := mpF_same (f := pushB l) (k := k)
  have hnew := mpF_new (f := pushB l) (k := k) (a := (oAt l k).a)
  have hsameP := mpF_same (f := popB l) (k := k)
  have hnewP := mpF_new (f := popB l) (k := k) (a := (oAt l k).res)
  have hpb : ∀ v, pushB l v k = (decide ((oAt l k).kind = 9) && decide ((oAt l k).a = v)) := fun v => rfl
  have hqb : ∀ v, popB l v k = (decide ((oAt l k).kind = 10) && decide ((oAt l k).res = v)) := fun v => rfl
  have hone : (oAt l k).kind = 9 → fdN (pushB l (oAt l k).a) k = none := fun h9 => by
   rw [fdN_none]
   intro j hj
   unfold pushB
   cases hkj : decide ((oAt l j).kind = 9) with
   | false => rfl
   | true =>
    have := hok.once j k hj hkl (by simpa using hkj) h9
    simp [this]
  generalize hpk : oAt l k = pk at hoc hnew hnewP hpb hqb hone hkd
  obtain ⟨p0, p1, p2, p3, p4, p5, p6, p7⟩ := pk
  simp only at hnew hnewP hpb hqb hone hkd
  refine Wq (Vu Z (Yu Z (Wk (Ws (Wb (Wq (V0 Z (Th 8 Z yy94 Z (Ts 8 Z (by rfl) hoc (Vz (.agg zI8) (zI8) hI Z ?_))))))))))
  rintro b10 w - - hI
  refine Vb Z (T2 8 (#[_, _, _, _, _, _, _, _]) (.agg _) hI Z ?_)
  intro w hI
  refine Wn ?_
  simp only [opV] at hI
  refine Wx (fun ρ w => Has ρ [(33, Y (k : Int)), (32, Y (l.length : Int)), (31, .slice (some ⟨bA, oA, none⟩) l.length c), (1, .pointer (some ⟨b1, 0, none⟩)), (7, .map (some b29)), (8, .pointer (some ⟨b8, 0, none⟩)), (9, Y (k : Int)), (10, .pointer (some ⟨b10, 0, none⟩))] ∧ Inv NF w0 w [B b10 106 #[Y p0, Y p1, Y p2, Y p3, Y p4, Y p5, Y p6, Y p7], B b8 171 #[.map (some b30)], MapKE okI kI b30 (mpF (popB l) (k + 1)), MapKE okI kI b29 (mpF (pushB l) k), B b1 94 #[.slice (some ⟨bA, oA, none⟩) l.length c]]) ?_ ?_
  ·cases hwm : fdN (popB l p5) k with
   | some j =>
    have hv : mpF (popB l) k p5 = some (.int .i64 (j : Int)) := by unfold mpF; rw [hwm]; rfl
    have hS := hsameP (fun v hv2 => by rw [hqb] at hv2; simp only [Bool.and_eq_true, decide_eq_true_eq] at hv2; rw [← hv2.2, hwm]; simp)
    refine Wq (V6 (.map _) Z (hI.c1 Z) (V8 5 Z (Yc hI Z Z (Wv Z (rLookKY (a := p5) keyI hv Z yy171 Z Z trivial hI.g2) (T4 Z (Vj Z (Vj Z (Vb Z (Vc Z (Wn ?_))))))))))
    rw [← hS] at hI
    by_cases k10 : p2 = 10
    ·exact Wq (V8 2 Z (Yc hI Z Z (Vx Z (V7 Z (V7 Z (Tf Z (Vk Z (Yf Z (Wk ⟨g8_, hI⟩)))))))))
    exact Wq (V8 2 Z (Yc hI Z Z (Vs Z (V7 Z (V5 Z (V5 Z (Vi Z (Yf Z (Wk ⟨g8_, hI⟩)))))))))
   | none =>
    have hv : mpF (popB l) k p5 = none := by unfold mpF; rw [hwm]; rfl
    refine Wq (V6 (.map _) Z (hI.c1 Z) (V8 5 Z (Yc hI Z Z (Wv Z (rLookKN (a := p5) (zv := Y 0) keyI hv Z yy171 (by kernel_rfl) Z Z trivial hI.g2) (T4 Z (Vj Z (Vj Z (Vb Z (Vc Z (Wn ?_))))))))))
    by_cases k10 : p2 = 10
    ·refine Wq (V8 2 Z (Yc hI Z Z (Vx Z (V7 Z (V7 Z (To Z (Vk Z (Yt Z (Wr (V6 (.map _) Z (hI.c1 Z) (V8 5 Z (Yc hI Z Z (V0 Z (WL_mapSetK (a := p5) (v := Y (k : Int)) keyI 2 Z hI Z Z Z yy171 Z Z Z trivial ?_))))))))))))))
     intro w hI
     simp only [List.set_cons_succ, List.set_cons_zero] at hI
     refine Wn ?_
     rw [hnewP (fun v => by rw [hqb]; simp [k10, eq_comm]) hwm] at hI
     exact ⟨g8_, hI⟩
    rw [← hsameP (fun v hv2 => by rw [hqb] at hv2; simp [k10] at hv2)] at hI
    exact Wq (V8 2 Z (Yc hI Z Z (Vs Z (V7 Z (V5 Z (V5 Z (Vi Z (Yf Z (Wk ⟨g8_, hI⟩)))))))))
  clear hI
  rintro ρ w ⟨hH, hI⟩
  obtain ⟨σ, rfl⟩ := hH.open
  by_cases k9 : p2 = 9
  ·refine Wq (V8 2 Z (Yc hI Z Z (Vx Z (Yt Z (Wr (Tp Z (V8 3 Z (Yc hI Z Z (V0 Z (WL_mapSetK (a := p3) (v := Y (k : Int)) keyI 3 Z hI Z Z Z yy171 Z Z Z trivial ?_))))))))))
   intro w hI
   simp only [List.set_cons_succ, List.set_cons_zero] at hI
   refine Wn ?_
   rw [hnew (fun v => by rw [hpb]; simp [k9, eq_comm]) (hone k9)] at hI
   exact Wr (Vl Z (V0 Z (Wn ⟨l.length - (k + 1), by omega, k + 1, rfl, by omega, g6_, hI.d0⟩)))
  rw [← hsame (fun v hv2 => by rw [hpb] at hv2; simp [k9] at hv2)] at hI
  exact Wq (V8 2 Z (Yc hI Z Z (Vs Z (Yf Z (Wk (Wr (Vl Z (V0 Z (Wn ⟨l.length - (k + 1), by omega, k + 1, rfl, by omega, g6_, hI.d0⟩)))))))))
 obtain rfl : k = l.length := by omega
 refine Wq (Vr Z (Yg Z (WE (Wq (Vz (Y 0) (#[Y 0]) hI Z ?_)))))
 rintro b13 w - - hI
 refine T2 1 #[_] (Y _) hI Z ?_
 intro w hI
 refine Wn (Ws (Wq (V6 (.map _) Z (hI.c1 Z) (WL_rangeK 2 Z hI Z Z Z Z yy171 Z ?_))))
 intro br cnt w hI
 simp only [List.set_cons_succ, List.set_cons_zero] at hI
 refine Wn (Wb ?_)
 refine Wl (fun mu ρ w => ∃ (left : Int → Prop) (cur : Option Int) (thin : Int), ThinI l left thin ∧ Has ρ [(65, .pointer (some ⟨br, 0, none⟩)), (1, .pointer (some ⟨b1, 0, none⟩)), (7, .map (some b29)), (8, .pointer (some ⟨b8, 0, none⟩)), (13, .pointer (some ⟨b13, 0, none⟩))] ∧ Inv NF w0 w [B b13 3 #[Y thin], B b8 171 #[.map (some b30)], RngE okI kI b30 br (mpF (popB l) l.length) left mu cur, MapKE okI kI b29 (mpF (pushB l) l.length), B b1 94 #[.slice A l.length c]]) cnt
  ⟨_, _, -1, ThinI.start l, ⟨rfl, rfl, rfl, rfl, rfl, trivial⟩, hI⟩ ?_
 clear hI
 rintro mu ρ w ⟨left, cur, thin, hT, hH, hI⟩
 obtain ⟨σ, rfl⟩ := hH.open
 refine Ws (Wr (WL_nextK 2 Z hI Z Z Z Z Z (fun hnone => ?_) ?_))
 rotate_left
 ·clear hI
  rintro a v w hla hga hmu hI
  simp only [List.set_cons_succ, List.set_cons_zero] at hI
  obtain ⟨j, hj, rfl⟩ : ∃ j : Nat, fdN (popB l a) l.length = some j ∧ v = .int .i64 (j : Int) := by
   unfold mpF at hga
   cases hf : fdN (popB l a) l.length with
   | none => rw [hf] at hga; cases hga
   | some j => rw [hf] at hga; exact ⟨j, rfl, by injection hga with hga; exact hga.symm⟩
  refine Vj Z (Yu Z (Wk (Wb (Ws (Wr (Wv Z (rEntryK hga Z Z hI.g2) (Vj Z (Vj Z (Vb Z (Vb Z (Wn ?_)))))))))))
  cases hf : fdN (pushB l a) l.length with
  | some q =>
   have hv : mpF (pushB l) l.length a = some (.int .i64 (q : Int)) := by unfold mpF; rw [hf]; rfl
   exact Wq (Tp Z (V0 Z (Wv Z (rLookKY (a := a) keyI hv Z yy171 Z Z trivial hI.g3) (T4 Z (Vj Z (Vj Z (Vb Z (Vc Z (Wn (Wq (V7 Z (Tf Z (V7 Z (V5 Z (V5 Z (V5 Z (V5 Z (V5 Z (V5 Z (V5 Z (Vi Z (Yf Z (Wk ⟨mu - 1, by omega, _, _, thin, hT.pushed (by rw [hf]; simp), g5_, hI⟩)))))))))))))))))))))))
  | none =>
   have hv : mpF (pushB l) l.length a = none := by unfold mpF; rw [hf]; rfl
   refine Wq (Tp Z (V0 Z (Wv Z (rLookKN (a := a) (zv := Y 0) keyI hv Z yy171 (by kernel_rfl) Z Z trivial hI.g3) (T4 Z (Vj Z (Vj Z (Vb Z (Vc Z (Wn ?_)))))))))
   by_cases ht : thin < 0
   ·refine Wq (V7 Z (To Z (V7 Z (Yc hI Z Z (Vu Z (V7 Z (V5 Z (V5 Z (V5 Z (Vk Z (Vk Z (Wn (Wc true Z (Wr (V0 Z (T2 1 #[_] (Y _) hI Z ?_))))))))))))))))
    intro w hI
    exact Wn ⟨mu - 1, by omega, _, _, (j : Int), hT.at hj hf (by omega), g5_, hI⟩
   by_cases ht2 : (j : Int) < thin
   ·refine Wq (V7 Z (To Z (V7 Z (Yc hI Z Z (Vr Z (V7 Z (V0 Z (Yc hI Z Z (Vu Z (Vi Z (Vk Z (Wn (Wc true Z (Wr (V0 Z (T2 1 #[_] (Y _) hI Z ?_))))))))))))))))
    intro w hI
    exact Wn ⟨mu - 1, by omega, _, _, (j : Int), hT.at hj hf (by omega), g5_, hI⟩
   exact Wq (V7 Z (To Z (V7 Z (Yc hI Z Z (Vr Z (V7 Z (V0 Z (Yc hI Z Z (Vr Z (Vi Z (Vk Z (Wn (Wc false Z (Wk ⟨mu - 1, by omega, _, _, thin, hT.keep (by omega) hj (by omega), g5_, hI⟩))))))))))))))
 refine Vj Z (Yg Z (WE ?_))
 have hTd := hT.over hnone
 clear hT
 have hI := hI.rngOff 2 rfl
 simp only [List.set_cons_succ, List.set_cons_zero] at hI
 refine Wq (Tw [] [_] Z (Vz .nilFunc #[.nilFunc] hI Z ?_))
 rintro b18 w - - hI
 refine T2 1 #[_] (.func _ _ _) hI Z ?_
 intro w hI
 refine Wn (Wq (Tw [] [_] Z (Tw [] [_, _] Z (Tw [] [_, _] Z (Tw [] [_, _, _] Z (T3 [(1, .func _ _ _), (2, .func _ _ _), (3, .func _ _ _), (4, .func _ _ _)] [_, _, _, _, _] [.nilFunc, .nilFunc, .nilFunc, .nilFunc, .nilFunc] [1, 2, 3, 4] hI Z underlying174 (fun _ => by kernel_rfl) ?_))))))
 rintro b94 w - - hI
 refine Vg Z (Wn (Ws (Wq (Vb Z (Wn ?_)))))
 replace hI : Inv NF w0 w [B b94 173 (testC b1 b8 b13 b18), B b18 164 #[.func (.func 105) #[] #[.pointer (some ⟨b1, 0, none⟩)]], B b13 3 #[.int .i64 thin], B b8 171 #[.map (some b30)], MapKE okI kI b30 (mpF (popB l) l.length), MapKE okI kI b29 (mpF (pushB l) l.length), B b1 94 #[.slice A l.length c]] := hI
 refine Wb ?_
 refine Wl (fun mu ρ w => ∃ q : Nat, mu = 5 - q ∧ 1 ≤ q ∧ q ≤ 5 ∧ (∀ t, 1 ≤ t → t < q → ¬ AnyB l.length (tstQ l thin t)) ∧ Has ρ [(20, Y (q : Int)), (1, .pointer (some ⟨b1, 0, none⟩)), (19, .slice (some ⟨b94, 0, none⟩) 5 5)] ∧ Inv NF w0 w [B b94 173 (testC b1 b8 b13 b18), B b18 164 #[.func (.func 105) #[] #[.pointer (some ⟨b1, 0, none⟩)]], B b13 3 #[Y thin], B b8 171 #[.map (some b30)], MapKE okI kI b30 (mpF (popB l) l.length), MapKE okI kI b29 (mpF (pushB l) l.length), B b1 94 #[.slice A l.length c]]) 4
  ⟨1, rfl, by omega, by omega, fun t h1 h2 => by omega, ⟨rfl, rfl, rfl, trivial⟩, hI⟩ ?_
 clear hI
 rintro mu ρ w ⟨q, rfl, hq1, hq5, hno, hH, hI⟩
 obtain ⟨σ, rfl⟩ := hH.open
 by_cases hq : q ≤ 4
 rotate_left
 ·obtain rfl : q = 5 := by omega
  exact Ws (Wq (V0 Z (Wv Z (by exact rLeqF rfl rfl rfl (by omega)) (Yf Z (WE (Wq (Vb Z (Vb Z (Vb Z (Vw Z (Wn (WR (ret4q 2 3 4 5 (.inr Z) Z ⟨hI.pu, .inr ⟨hok, 0, 0, 0, Z, thin, hTd, .inl ⟨Z, Z, Z, hno⟩⟩⟩)))))))))))))
 have hQ : QB l A c b1 b18 w := ⟨(h.pure hI.pu).mono fun _ _ => trivial, hI.cell 6 rfl rfl, hI.cell 1 rfl rfl⟩
 obtain ⟨f, cap, hcf, hPC⟩ := tests_any w hQ (hI.cell 2 rfl rfl) (hI.cell 3 rfl rfl) (hI.ok _ (gM_ (i := 4) rfl)).1 q hq1 hq (thin := thin)
 refine Ws (Wq (V0 Z (Wv Z (by exact rLeqT rfl rfl rfl (by omega)) (Yt Z (Wk (Ws (Wb (Ws (Yi hI fun Sx hY hXS hI => V9 0 (.slice _ _ _) Z (fun W hW => (hY W hW).c6 Z) (U2 1 Z yy94 Z (Vp 2 Z (Vh 3 Z (Te 4 Z underlying174 Z (V9 5 (.func _ _ _) Z (fun W hW => (hY W hW).c0 hcf) (Vq 6 Z (Vd [Y _, .func _ _ _] Z func110 Z ((pairsN_any f cap l.length (by omega) _ _ ⟨hPC.fn, fun i k w2 hi hk hp => hPC.call i k w2 hi hk hp.undrew⟩).mono ?_)))))))))))))))))
 rintro e w1 ⟨a, b, fnd, rfl, hfnd, hp⟩
 refine rV ?_
 have hI := hI.pure hp
 refine Wn ⟨hXS _ hI, (Ub 7 Z (Ti 8 Z (Ti 9 Z (Ti 10 Z (Tl 11 Z (Tl 12 Z (Tg 13 Z (Yz (Wq (V7 Z (Wn ?_)))))))))))⟩
 cases fnd with
 | true =>
  exact Wc true Z (Wq (V0 Z (V0 Z (V0 Z (Vb Z (Vb Z (Vb Z (Vw Z (Wn (WR (ret4q 2 3 4 5 (.inr Z) Z ⟨hI.pu, .inr ⟨hok, (q : Int), _, _, Z, thin, hTd, .inr ⟨q, hq1, hq, Z, hfnd, hno⟩⟩⟩)))))))))))
 | false =>
  refine Wc false Z (Wk (Wr (V0 Z (Vl Z (Vb Z (Wn ⟨5 - (q + 1), by omega, q + 1, rfl, by omega, by omega, fun t h1 h2 hA => ?_, g3_, hI⟩))))))
  rcases Nat.lt_or_ge t q with h3 | h3
  ·exact hno t h1 h3 hA
  obtain rfl : t = q := by omega
  have := hfnd.any.2 hA
  cases this
end Go.Proofs.YtnckdmogdehnoaaGreatDoor
namespace Go.Proofs.YtnckdmogdehnoaaGreatDoor
open Tryz
variable {a thin : Int} {left : Int → Prop} {l : List Op8}
section
variable {l : List Op8} {ord : List Int}
end
section
variable {l : List Op8}
end
section
variable {l : List Op8} {V : List Nat}
end
section
variable {l : List Op8} {K : Nat → Int} {rk : Nat → Nat}
end
section
variable {l : List Op8} {K : Nat → Int} {rk : Nat → Nat}
end
end Go.Proofs.YtnckdmogdehnoaaGreatDoor
