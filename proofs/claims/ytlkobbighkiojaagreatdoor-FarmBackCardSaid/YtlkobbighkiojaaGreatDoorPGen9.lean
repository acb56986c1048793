/- FarmBack. -/
import Derived.Test.YtlkobbighkiojaaGreatDoorPA
import Derived.Test.YtlkobbighkiojaaGreatDoorPStoN
import Derived.Test.YtlkobbighkiojaaGreatDoorPStoI
import Derived.Test.YtlkobbighkiojaaGreatDoorProg
import Derived.Test.YtlkobbighkiojaaGreatDoorPSxI
import Derived.Test.YtlkobbighkiojaaGreatDoorPStoB
import Derived.Test.YtlkobbighkiojaaGreatDoorPEvo2
set_option maxHeartbeats 8000000
set_option linter.unusedVariables false
set_option linter.unusedSimpArgs false
namespace Go.Proofs.YtlkobbighkiojaaGreatDoor
open Tryz
open Go.RowKit
def RowsV (vals : List Value) (D : Nat → Prop) (v : Value) (lb : List Bool) : Ent := ⟨D, fun w => (RowsE vals D).Φ w ∧ Bools w D v lb⟩
theorem RowsV.ok {w : World} {vals : List Value} {D : Nat → Prop} {v : Value} {lb : List Bool} (h : (RowsE vals D).ok w) (hb : Bools w D v lb) : (RowsV vals D v lb).ok w :=
 Ent.mk_ok ⟨h.1, hb⟩ (fun k hk => h.2.1 k hk) (fun S w1 w2 hc hS h1 => ⟨h.2.2 S w1 w2 hc hS h1.1, Rd.chg h1.2 hc (fun k hk => hS k hk)⟩)
theorem RowsV.to {S : Nat → Prop} {w0 w : World} {H : List Ent} {vals : List Value} {D : Nat → Prop} {v : Value} (h : Inv S w0 w (RowsE vals D :: H)) (hv : v ∈ vals) : ∃ lb : List Bool, lb.length ≤ 1000 ∧ Inv S w0 w (RowsV vals D v lb :: H) := by
 have hk := h.ok _ (List.mem_of_getElem? (i := 0) rfl)
 obtain ⟨lb, hb, hl⟩ := hk.1.2 v hv
 exact ⟨lb, hl, h.u0 (Chg.refl _ _) (RowsV.ok hk hb) (fun k hk => .inl hk)⟩
theorem RowsV.from {S : Nat → Prop} {w0 w : World} {H : List Ent} {vals : List Value} {D : Nat → Prop} {v : Value} {lb : List Bool} (h : Inv S w0 w (RowsV vals D v lb :: H)) : Inv S w0 w (RowsE vals D :: H) := by
 have hk := (h.ok _ (List.mem_of_getElem? (i := 0) rfl)).1.1
 exact h.u0 (Chg.refl _ _) (RowsE.ok hk.1 hk.2) (fun k hk => .inl hk)
theorem num_any (i n b sb : Nat) (w0 : World) (hb : w0.cell? ⟨b, 0, none⟩ = some (.pointer (some ⟨sb, 0, none⟩))) (hn : w0.cell? ⟨sb, 0, none⟩ = some (.int .i64 (n : Int))) (hi : i < 1000) (hn1 : 1 ≤ n ∧ n ≤ 7) :
  Cq 88 #[.int .i64 (i : Int), .pointer (some ⟨b, 0, none⟩)] w0 fun en w' => ∃ j : Nat, en = .returned (.int .i64 (j : Int)) ∧ j < n ∧ Pure w0 w' := by
 have hI := Inv.start (fun _ => False) w0
 refine Vn func88 rfl ?_
 refine Wq (Vc rfl (Wn ?_))
 by_cases h : i < n
 ·refine Ws (Wq (V0 rfl (V5 (.pointer _) rfl (hI.oldp hb) (Vb rfl (V7 0 rfl (V7 0 rfl (V5 (.int .i64 _) rfl (hI.oldp hn) (Vt rfl (Wn (Wc true rfl (Ws (Wr ?_))))))))))))
  refine V0 rfl (Vc rfl (Wn ?_))
  exact WR (r1_ 3 rfl ⟨i, rfl, h, hI.pu⟩)
 refine Ws (Wq (V0 rfl (V5 (.pointer _) rfl (hI.oldp hb) (Vb rfl (V7 0 rfl (V7 0 rfl (V5 (.int .i64 _) rfl (hI.oldp hn) (Vr rfl (Wn (Wc false rfl (Wk (Ws ?_))))))))))))
 refine Wd (by kernel_rfl) ?_
 refine Wi (T := []) hI.drew ?_
 intro Sx hY hZ
 have hI := hI.drew
 refine Vx 0 rfl (Vd 1 (.pointer _) rfl (fun W hW => (hY W hW).oldp hb) (Vm 2 rfl (Vf 3 0 rfl (Vf 4 0 rfl (Vd 5 (.int .i64 _) rfl (fun W hW => (hY W hW).oldp hn) ?_)))))
 refine Wt 6 rfl (fun W hW => have hI := hY W hW; (rSubNN rfl rfl rfl (by omega) (by omega))) ?_
 refine Vd 7 (.pointer _) rfl (fun W hW => (hY W hW).oldp hb) (Vm 8 rfl (Vf 9 0 rfl (Vf 10 0 rfl (Vd 11 (.int .i64 _) rfl (fun W hW => (hY W hW).oldp hn) ?_))))
 refine Wt 12 rfl (fun W hW => have hI := hY W hW; (rRemNN rfl rfl rfl (by omega) (by omega))) ?_
 refine Ty 13 rfl (We (by kernel_rfl) ?_)
 exact WR (r1_ 3 rfl ⟨(i - n) % n, rfl, Nat.mod_lt _ (by omega), hI.pu⟩)
theorem Inv.rowsNil {S : Nat → Prop} {w0 w : World} {H : List Ent} (h : Inv S w0 w H) : Inv S w0 w (Row 0 113 1 none 0 0 [] :: RowsE [] (fun _ => False) :: H) :=
 (h.fresh (Pure.refl w) (RowsE.ok (w := w) (vals := []) (D := fun _ => False) (fun _ h => h.elim) (fun v hv => by simp at hv)) (fun k hk => hk.elim)).fresh (Pure.refl w) (Row.nil w 0 113 1) (fun k hk => by simp [Row] at hk)
def CutPost (L : StL) (s : StS) (X : List Ent) (S : Nat → Prop) (w0 : World) (en : Ending) (w' : World) : Prop :=
 (∃ v, en = .returned v) ∧ ∃ L', L'.sb = L.sb ∧ L'.cw = L.cw ∧ Inv S w0 w' (spt L' s)
theorem cutNilX (L : StL) (s : StS) (S : Nat → Prop) (w0 : World) (hI : Inv S w0 w0 (spt L s)) :
  Cq 41 #[.pointer (some ⟨L.sb, 0, none⟩), .slice none 0 0] w0 fun en w' => (∃ v, en = .returned v) ∧ ∃ L', L'.sb = L.sb ∧ L'.cw = L.cw ∧ L'.cut = false ∧ Inv S w0 w' (spt L' s) := by
 refine Vn func41 rfl ?_
 refine Wq (Tb (.pointer _) #[_] hI rfl ?_)
 rintro b2 w - - hI
 refine Vj rfl (Wn (Ws (Wq (V5 (.pointer _) rfl (hI.c0 rfl) ?_))))
 refine Wv rfl (rPtrEq rfl yy46 rfl rfl) ?_
 refine V6 rfl (Vi rfl ?_)
 refine Wv rfl (rSliceNeF rfl yy88 rfl) ?_
 refine V6 rfl (V4 rfl (V4 rfl (V4 rfl (V4 rfl (V4 rfl (V4 rfl (V4 rfl (V4 rfl (Ve rfl (Ve rfl (Wn (Wc false rfl (Wk ?_)))))))))))))
 refine Ws (Wq (Vi rfl ?_))
 refine Wv rfl (rSliceNilT rfl yy88 rfl) ?_
 refine Wn (Wc true rfl ?_)
 have hI := hI.rowsNil.pull 2 rfl
 refine Wq (V5 (.pointer _) rfl (hI.c0 rfl) (Vb rfl (V7 7 rfl (Va [.pointer _, .slice _ _ _] rfl func87 rfl ?_))))
 refine (ncut_any L s none 0 0 [] (fun _ => False) (by omega) rfl (DLs _) _ (hI.fromB (X := [_]))).mono ?_
 rintro en w1 ⟨rfl, LA, ln, lc, lv, LD, hJ⟩
 refine rV ?_
 have hI := hI.callB (X := [_]) hJ
 refine Wn (Wq (Vj rfl (Wn ?_)))
 exact WR (r1_ 4 rfl ⟨⟨_, rfl⟩, { L with LA := LA, ln := ln, lc := lc, cut := false, lv := lv, LD := LD }, rfl, rfl, rfl, hI.d0.d0.d0⟩)
theorem cutNil (L : StL) (s : StS) (S : Nat → Prop) (w0 : World) (hI : Inv S w0 w0 (spt L s)) :
  Cq 41 #[.pointer (some ⟨L.sb, 0, none⟩), .slice none 0 0] w0 (CutPost L s [] S w0) :=
 (cutNilX L s S w0 hI).mono fun en w' ⟨hv, L', h1, h2, _, h3⟩ => ⟨hv, L', h1, h2, h3⟩
theorem cutSome (L : StL) (s : StS) (M g m : Nat) (vals : List Value) (D : Nat → Prop) (h : SOk L s M) (hvl : vals.length = m) (S : Nat → Prop) (w0 : World) (hI : Inv S w0 w0 ([Row 0 113 1 (some ⟨g, 0, none⟩) m m vals, RowsE vals D] ++ spt L s)) :
  Cq 41 #[.pointer (some ⟨L.sb, 0, none⟩), .slice (some ⟨g, 0, none⟩) m m] w0 (CutPost L s [] S w0) := by
 have hn := h.n1
 have hk := h.k1
 refine Vn func41 rfl ?_
 refine Wq (Tb (.pointer _) #[_] hI rfl ?_)
 rintro b2 w - - hI
 refine Vj rfl (Wn ?_)
 by_cases hm : m = s.n
 rotate_left
 ·have hc0 : ∀ w b2, Inv S w0 w ([B b2 46 #[.pointer (some ⟨L.sb, 0, none⟩)], Row 0 113 1 (some ⟨g, 0, none⟩) m m vals, RowsE vals D] ++ spt L s) → w.cell? ⟨L.sb, 0, none⟩ = some (.int .i64 (s.n : Int)) := fun w b2 hI => sp_c0 hI
  refine Ws (Wq (V5 (.pointer _) rfl (hI.c0 rfl) ?_))
  refine Wv rfl (rPtrEq rfl yy46 rfl rfl) ?_
  refine V6 rfl (Vi rfl ?_)
  refine Wv rfl (rSliceNeT rfl yy88 rfl) ?_
  refine V6 rfl (Vi rfl (Vs rfl yy88 rfl (V5 (.pointer _) rfl (hI.c0 rfl) (Vb rfl (V7 0 rfl (V7 0 rfl (V5 (.int .i64 _) rfl (hc0 _ _ hI) (U1 rfl (Vk rfl (Ve rfl (Wn (Wc true rfl (Ws ?_)))))))))))))
  refine Wr (T6 rfl yy45 rfl (Vp rfl (Wn ?_)))
  exact WR (r1_ 4 rfl ⟨⟨_, rfl⟩, L, rfl, rfl, hI.d0.d0.d0⟩)
 subst hm
 replace hI : Inv S w0 w ([B b2 46 #[.pointer (some ⟨L.sb, 0, none⟩)], Row 0 113 1 (some ⟨g, 0, none⟩) s.n s.n vals, RowsE vals D] ++ spt L s) := hI
 have hc0 : ∀ w X, Inv S w0 w (X ++ spt L s) → w.cell? ⟨L.sb, 0, none⟩ = some (.int .i64 (s.n : Int)) := fun w X hI => sp_c0 hI
 have hc1 : ∀ w X, Inv S w0 w (X ++ spt L s) → w.cell? ⟨L.sb, 1, none⟩ = some (.int .i64 (s.k : Int)) := fun w X hI => hI.fromB.cell 0 rfl rfl
 have hd0 : ∀ w, Inv S w0 w ([B b2 46 #[.pointer (some ⟨L.sb, 0, none⟩)], Row 0 113 1 (some ⟨g, 0, none⟩) s.n s.n vals, RowsE vals D] ++ spt L s) → w.cell? ⟨L.sb, 0, none⟩ = some (.int .i64 (s.n : Int)) ∧ w.cell? ⟨L.sb, 1, none⟩ = some (.int .i64 (s.k : Int)) := fun w hI => ⟨hc0 w _ hI, hc1 w _ hI⟩
 refine Ws (Wq (V5 (.pointer _) rfl (hI.c0 rfl) ?_))
 refine Wv rfl (rPtrEq rfl yy46 rfl rfl) ?_
 refine V6 rfl (Vi rfl ?_)
 refine Wv rfl (rSliceNeT rfl yy88 rfl) ?_
 refine V6 rfl (Vi rfl (Vs rfl yy88 rfl (V5 (.pointer _) rfl (hI.c0 rfl) (Vb rfl (V7 0 rfl (V7 0 rfl (V5 (.int .i64 _) rfl ((hd0 _ hI).1) (U2 rfl (Vk rfl (Ve rfl (Wn (Wc false rfl (Wk ?_)))))))))))))
 refine Ws (Wq (Vi rfl ?_))
 refine Wv rfl (rSliceNilF rfl yy88 rfl) ?_
 refine Wn (Wc false rfl (Wk (Ws (Wr ?_))))
 refine Wv rfl (rFunc (l := []) (m := [_]) rfl rfl rfl) ?_
 refine Wv rfl (by exact rAsgnF rfl rfl) ?_
 refine Wn ?_
 obtain ⟨N, hN⟩ : ∃ N, s.n + s.k = N := ⟨_, rfl⟩
 refine Ws (Wd (by kernel_rfl) ?_)
 refine Wi (T := []) hI.drew ?_
 intro Sx hY hZ
 have hI := hI.drew
 refine Vd 0 (.pointer _) rfl (fun W hW => (hY W hW).c0 rfl) (Vm 1 rfl (Vf 2 0 rfl (Vf 3 0 rfl (Vd 4 (.int .i64 (s.n : Int)) rfl (fun W hW => have hI := hY W hW; (hd0 _ hI).1) (Vd 5 (.pointer _) rfl (fun W hW => (hY W hW).c0 rfl) (Vm 6 rfl (Vf 7 0 rfl (Vf 8 1 rfl (Vd 9 (.int .i64 (s.k : Int)) rfl (fun W hW => have hI := hY W hW; (hd0 _ hI).2) ?_)))))))))
 refine Wt 10 rfl (fun W hW => have hI := hY W hW; ((hN ▸ rAddNN rfl rfl rfl (by omega) : Runs _ _ _ _ (.int .i64 (N : Int))))) ?_
 refine Vu 11 rfl ?_
 refine WL_mkZ (n := N) (m := 1) (by_ := 24) (z := .slice none 0 0) [.slice none 0 0] hI rfl rfl rfl rfl rfl rfl yy88 (by kernel_rfl) rfl rfl (by omega) (by omega) (by omega) ?_
 rintro b46 w - - hI
 refine Wn ⟨hZ _ hI.d0, ?_⟩
 refine Ur 12 rfl (We (by kernel_rfl) ?_)
 have hst : flatB N (fun _ => [Value.slice none 0 0]) = (([] : List Value) ++ List.replicate (N - 0) (Value.slice none 0 0)).toArray := flat_rep N _
 rw [hst] at hI
 replace hI := (hI.fresh (Pure.refl _) (RowsE.ok (w := w) (vals := []) (D := fun _ => False) (fun _ h => h.elim) (fun v hv => by simp at hv)) (fun k hk => hk.elim)).sw0
 have hb2 : ∀ w X Y, Inv S w0 w (X ++ (B b2 46 #[.pointer (some ⟨L.sb, 0, none⟩)] :: Y)) → w.cell? ⟨b2, 0, none⟩ = some (.pointer (some ⟨L.sb, 0, none⟩)) := fun w X Y hI => hI.fromB.cell 0 rfl rfl
 refine Wx (fun ρ w => ∃ (done : List Value) (E : Nat → Prop), done.length = N ∧ Has ρ [(6, .slice (some ⟨b46, 0, none⟩) N N), (2, .pointer (some ⟨b2, 0, none⟩))] ∧ Inv S w0 w ([B b46 113 (done ++ List.replicate (N - N) (Value.slice none 0 0)).toArray, RowsE done E, B b2 46 #[.pointer (some ⟨L.sb, 0, none⟩)], Row 0 113 1 (some ⟨g, 0, none⟩) s.n s.n vals, RowsE vals D] ++ spt L s)) ?_ ?_
 ·refine Wq (Vi rfl (Vs rfl yy88 rfl (V0 rfl (Wn (Wb ?_)))))
  refine W_loop (fun ρ w => ∃ (a : Nat) (done : List Value) (E : Nat → Prop), a ≤ N ∧ done.length = a ∧ Has ρ [(49, .int .i64 (a : Int)), (48, .int .i64 (N : Int)), (1, .slice (some ⟨g, 0, none⟩) s.n s.n), (5, .func (.func 88) #[] #[.pointer (some ⟨b2, 0, none⟩)]), (6, .slice (some ⟨b46, 0, none⟩) N N), (2, .pointer (some ⟨b2, 0, none⟩))] ∧
   Inv S w0 w ([B b46 113 (done ++ List.replicate (N - a) (Value.slice none 0 0)).toArray, RowsE done E, B b2 46 #[.pointer (some ⟨L.sb, 0, none⟩)], Row 0 113 1 (some ⟨g, 0, none⟩) s.n s.n vals, RowsE vals D] ++ spt L s)) (fun ρ _ => N - cnt (ρ 49))
   ⟨0, [], fun _ => False, by omega, rfl, ⟨rfl, rfl, rfl, rfl, rfl, rfl, trivial⟩, hI⟩ ?_
  clear hI
  rintro ρ w ⟨a, done, E, ha, hdl, hH, hI⟩
  obtain ⟨σ, rfl⟩ := hH.open
  by_cases haN : a < N
  rotate_left
  ·obtain rfl : a = N := by omega
   refine Wq (Vr rfl (Wn (Ws (Wc false rfl ?_))))
   refine WE ?_
   exact ⟨done, E, hdl, ⟨rfl, rfl, trivial⟩, hI⟩
  refine Wq (Vt rfl (Wn (Ws (Wc true rfl (Wk (Ws (Wb (Wq (V0 rfl (Vc rfl (Wn ?_)))))))))))
  refine Wq (Vi rfl ?_)
  refine Wv rfl (by exact rMoveF rfl rfl) ?_
  refine V0 rfl ?_
  refine WL_call rfl rfl rfl (rCallF (first := []) (cap := [_]) (vs := [_, _]) rfl rfl func88 rfl rfl rfl) ?_
  refine (num_any a s.n b2 L.sb _ (hb2 _ [_, _] _ hI) (hc0 _ [_, _, _, _, _] hI) (by omega) hn).mono ?_
  rintro en w1 ⟨j, rfl, hj, hp⟩
  refine rV ?_
  have hI := hI.pure hp
  obtain ⟨v, hv⟩ : ∃ v, vals[j]? = some v := ⟨_, List.getElem?_eq_getElem (by omega)⟩
  have hvm := List.mem_of_getElem? hv
  obtain ⟨RA, mm, rc, rfl⟩ : ∃ RA mm rc, v = .slice RA mm rc := by
   obtain ⟨lb, hlb, _⟩ := (hI.ok _ (List.mem_of_getElem? (i := 4) rfl)).1.2 v hvm
   obtain ⟨RA, rc, he, _⟩ := Rd.form hlb
   exact ⟨RA, _, rc, he⟩
  have hz : w1.cell? ⟨g, j, none⟩ = some (.slice RA mm rc) := by
   obtain ⟨A', c', he, _, _, _, q⟩ := Rd.of_own (D := fun _ => True) (hI.ok _ (List.mem_of_getElem? (i := 3) rfl)).1 (fun _ _ _ => trivial)
   injection he with he _ _
   subst he
   obtain ⟨g', o', he2, _, hc⟩ := q (by omega)
   injection he2 with he2
   injection he2 with e1 e2
   subst e1 e2
   have := hc j _ hv
   rwa [Nat.zero_add] at this
  refine Tp rfl yy88 rfl (V5 (.slice _ _ _) rfl hz (Vo rfl (Wn ?_)))
  obtain ⟨lb, hlb, hI⟩ := RowsV.to (hI.pull 4 rfl) hvm
  have hmm : mm = lb.length := by
   obtain ⟨_, _, he, _⟩ := Rd.form (hI.ok _ (List.mem_of_getElem? (i := 0) rfl)).1.2
   injection he
  have hI := hI.back 4
  rw [rep_nil_succ haN] at hI
  have hI := hI.fresh (Pure.refl _) (Row.nil _ 0 4 1) (fun k hk => by simp [Row] at hk)
  refine Wq (Vi rfl (Vs rfl yy88 rfl (V0 rfl (Wn (Wb ?_)))))
  refine W_loop (fun ρ w => ∃ (b : Nat) (l : List Bool) (A : Option Addr) (c : Nat), b ≤ N ∧ l.length = b ∧ Has ρ [(60, .int .i64 (b : Int)), (59, .int .i64 (N : Int)), (8, .slice RA mm rc), (7, .int .i64 (a : Int)), (49, .int .i64 (a : Int)), (48, .int .i64 (N : Int)), (1, .slice (some ⟨g, 0, none⟩) s.n s.n), (5, .func (.func 88) #[] #[.pointer (some ⟨b2, 0, none⟩)]), (6, .slice (some ⟨b46, 0, none⟩) N N), (2, .pointer (some ⟨b2, 0, none⟩))] ∧
   Inv S w0 w ([Row 0 4 1 A b c (boolsV l), B b46 113 (done ++ Value.slice A b c :: List.replicate (N - (a + 1)) (Value.slice none 0 0)).toArray, RowsE done E, B b2 46 #[.pointer (some ⟨L.sb, 0, none⟩)], Row 0 113 1 (some ⟨g, 0, none⟩) s.n s.n vals, RowsV vals D (.slice RA mm rc) lb] ++ spt L s)) (fun ρ _ => N - cnt (ρ 60))
   ⟨0, [], none, 0, by omega, rfl, ⟨rfl, rfl, rfl, rfl, rfl, rfl, rfl, rfl, rfl, rfl, trivial⟩, hI⟩ ?_
  clear hI
  rintro ρ w ⟨b, l, A, c, hb, hll, hH, hI⟩
  obtain ⟨σ, rfl⟩ := hH.open
  by_cases hbn : b < N
  rotate_left
  ·obtain rfl : b = N := by omega
   refine Wq (Vr rfl (Wn (Ws (Wc false rfl ?_))))
   refine WE ?_
   refine Wr (Vv rfl (V0 rfl (Wn ?_)))
   have h1 := (RowsV.from (hI.pull 5 rfl)).back 5
   have h2 := (Inv.sw1 h1).rowsIn hll.symm (by omega)
   have h3 := h2.sw0
   have e1 : (done ++ Value.slice A b c :: List.replicate (b - (a + 1)) (.slice none 0 0)) = (done ++ [.slice A b c]) ++ List.replicate (b - (a + 1)) (.slice none 0 0) := by simp
   rw [e1] at h3
   refine ⟨⟨a + 1, done ++ [Value.slice A b c], (fun k => A.map (·.block) = some k ∨ E k), by omega, by simp [hdl], ⟨rfl, rfl, rfl, rfl, rfl, rfl, trivial⟩, h3⟩, by show b - ((a + 1 : Nat) : Int).toNat < b - (a : Int).toNat; omega⟩
  refine Wq (Vt rfl (Wn (Ws (Wc true rfl (Wk ?_)))))
  refine Wx (fun ρ w => ∃ (r : Bool) (A' : Option Addr) (c' : Nat), Has ρ [(60, .int .i64 (b : Int)), (59, .int .i64 (N : Int)), (8, .slice RA mm rc), (7, .int .i64 (a : Int)), (49, .int .i64 (a : Int)), (48, .int .i64 (N : Int)), (1, .slice (some ⟨g, 0, none⟩) s.n s.n), (5, .func (.func 88) #[] #[.pointer (some ⟨b2, 0, none⟩)]), (6, .slice (some ⟨b46, 0, none⟩) N N), (2, .pointer (some ⟨b2, 0, none⟩))] ∧
   Inv S w0 w ([Row 0 4 1 A' (b + 1) c' (boolsV (l ++ [r])), B b46 113 (done ++ Value.slice A' (b + 1) c' :: List.replicate (N - (a + 1)) (Value.slice none 0 0)).toArray, RowsE done E, B b2 46 #[.pointer (some ⟨L.sb, 0, none⟩)], Row 0 113 1 (some ⟨g, 0, none⟩) s.n s.n vals, RowsV vals D (.slice RA mm rc) lb] ++ spt L s)) ?_ ?_
  ·refine Wb (Wq (V0 rfl (Vc rfl (Wn (Ws (Wr ?_))))))
   refine Wv rfl (by exact rMoveF rfl rfl) ?_
   refine V0 rfl ?_
   refine WL_call rfl rfl rfl (rCallF (first := []) (cap := [_]) (vs := [_, _]) rfl rfl func88 rfl rfl rfl) ?_
   refine (num_any b s.n b2 L.sb _ (hb2 _ [_, _, _] _ hI) (hc0 _ [_, _, _, _, _, _] hI) (by omega) hn).mono ?_
   rintro en w1 ⟨q, rfl, hq, hp⟩
   refine rV ?_
   have hI := hI.pure hp
   refine Vc rfl (Wn ?_)
   have hga : ∀ w Y, Inv S w0 w (B b46 113 (done ++ Value.slice A b c :: List.replicate (N - (a + 1)) (Value.slice none 0 0)).toArray :: Y) → w.cell? ⟨b46, a, none⟩ = some (.slice A b c) := fun w Y hI => hI.cell 0 rfl (mid_get hdl)
   have hbools : ∀ r : Bool, boolsV l ++ [.bool r] = boolsV (l ++ [r]) := fun r => by simp [boolsV]
   by_cases hql : q < mm
   ·have hrv := (hI.ok _ (List.mem_of_getElem? (i := 5) rfl)).1.2
    obtain ⟨A2, c2, he, _, _, _, q4⟩ := hrv
    injection he with he _ _
    subst he
    obtain ⟨rb, ro, rfl, _, _⟩ := q4 (by omega)
    have hgr : ∀ w, Inv S w0 w ([B b46 113 (done ++ Value.slice A b c :: List.replicate (N - (a + 1)) (Value.slice none 0 0)).toArray, RowsE done E, B b2 46 #[.pointer (some ⟨L.sb, 0, none⟩)], Row 0 113 1 (some ⟨g, 0, none⟩) s.n s.n vals, RowsV vals D (.slice (some ⟨rb, ro, none⟩) mm rc) lb] ++ spt L s) → w.cell? ⟨rb, ro + q, none⟩ = some (.bool (lb.getD q false)) := fun w hI => by
     obtain ⟨A3, c3, he, _, _, _, q5⟩ := (hI.ok _ (List.mem_of_getElem? (i := 4) rfl)).1.2
     injection he with he _ _
     subst he
     obtain ⟨rb', ro', he2, _, hc⟩ := q5 (by omega)
     injection he2 with he2
     injection he2 with e1 e2
     subst e1 e2
     refine hc q _ ?_
     rw [List.getElem?_map, List.getElem?_eq_getElem (by omega)]
     simp [List.getD, show q < lb.length by omega]
    refine Wd (by kernel_rfl) ?_
    refine Wi (T := [19]) hI.d0.drew ?_
    intro Sx hY hZ
    have hI := hI.drew
    refine Ta 0 rfl (Vx 1 rfl (Ta 2 rfl (Vx 3 rfl (Uc 4 rfl yy88 rfl (Vd 5 (.slice _ _ _) rfl (fun W hW => have hI := hY W hW; hga _ _ hI) (Vx 6 rfl (Ta 7 rfl (Ui 8 rfl yy113 rfl ?_))))))))
    refine Wt 9 rfl (fun W hW => have hI := hY W hW; (by exact rLssT rfl rfl rfl (by omega))) ?_
    refine Tg 10 rfl (Ta 11 rfl (Vx 12 rfl ?_))
    refine Wt 13 rfl (fun W hW => have hI := hY W hW; (by exact rIdx1 rfl yy113 (by kernel_rfl) rfl rfl (by omega))) ?_
    refine Vd 14 (.bool _) rfl (fun W hW => have hI := hY W hW; hgr _ hI) (U4 15 rfl (Vu 16 rfl ?_))
    refine T3 [(0, .bool _)] [_] [.bool false] [0] hI rfl yy113 (fun _ => by kernel_rfl) ?_
    rintro b82 w - - hI
    refine Wn ⟨hZ _ hI.d0.d0, ?_⟩
    refine Vu 17 rfl ?_
    refine Tx 1 (.bool false) hI rfl yy113 rfl (by rfl) hI.lit0 (by rfl) (Nat.zero_le _) ?_
    rintro A83 c83 w hA83 hc83 hI
    have hI := hI.d0
    refine Wn ⟨hZ _ hI.d0, ?_⟩
    refine Uc 18 rfl yy88 rfl ?_
    refine WT_A (by kernel_rfl) ?_
    clear hZ hY
    refine T2 19 rfl ?_
    refine WL_st1 (u := .slice A83 (b + 1) c83) (j := a) hI rfl rfl rfl rfl rfl rfl (by kernel_rfl) rfl (mid_blt hdl) (mid_set hdl) ?_
    intro w hI
    refine Wn ?_
    refine WA_end (by kernel_rfl) ?_
    have e := hbools (lb.getD q false)
    exact ⟨lb.getD q false, A83, c83, ⟨rfl, rfl, rfl, rfl, rfl, rfl, rfl, rfl, rfl, rfl, trivial⟩, by rw [← e]; exact hI⟩
   refine Wd (by kernel_rfl) ?_
   refine Wi (T := [19]) hI.d0.drew ?_
   intro Sx hY hZ
   have hI := hI.drew
   refine Ta 0 rfl (Vx 1 rfl (Ta 2 rfl (Vx 3 rfl (Uc 4 rfl yy88 rfl (Vd 5 (.slice _ _ _) rfl (fun W hW => have hI := hY W hW; hga _ _ hI) (Vx 6 rfl (Ta 7 rfl (Ui 8 rfl yy113 rfl ?_))))))))
   refine Wt 9 rfl (fun W hW => have hI := hY W hW; (by exact rLssF rfl rfl rfl (by omega))) ?_
   refine Tg 10 rfl (Vq 11 rfl rfl (Vq 12 rfl rfl (Vq 13 rfl rfl (Vq 14 rfl rfl (Tw 15 rfl (Vu 16 rfl ?_))))))
   refine T3 [(0, .bool _)] [_] [.bool false] [0] hI rfl yy113 (fun _ => by kernel_rfl) ?_
   rintro b82 w - - hI
   refine Wn ⟨hZ _ hI.d0.d0, ?_⟩
   refine Vu 17 rfl ?_
   refine Tx 1 (.bool false) hI rfl yy113 rfl (by rfl) hI.lit0 (by rfl) (Nat.zero_le _) ?_
   rintro A83 c83 w hA83 hc83 hI
   have hI := hI.d0
   refine Wn ⟨hZ _ hI.d0, ?_⟩
   refine Uc 18 rfl yy88 rfl ?_
   refine WT_A (by kernel_rfl) ?_
   clear hZ hY
   refine T2 19 rfl ?_
   refine WL_st1 (u := .slice A83 (b + 1) c83) (j := a) hI rfl rfl rfl rfl rfl rfl (by kernel_rfl) rfl (mid_blt hdl) (mid_set hdl) ?_
   intro w hI
   refine Wn ?_
   refine WA_end (by kernel_rfl) ?_
   have e := hbools false
   exact ⟨false, A83, c83, ⟨rfl, rfl, rfl, rfl, rfl, rfl, rfl, rfl, rfl, rfl, trivial⟩, by rw [← e]; exact hI⟩
  clear hI
  rintro ρ w ⟨r, A', c', hH, hI⟩
  obtain ⟨σ, rfl⟩ := hH.open
  refine Wr (Vv rfl (V0 rfl (Wn ?_)))
  exact ⟨⟨b + 1, l ++ [r], A', c', by omega, by simp [hll], ⟨rfl, rfl, rfl, rfl, rfl, rfl, rfl, rfl, rfl, rfl, trivial⟩, hI⟩, by show N - ((b + 1 : Nat) : Int).toNat < N - (b : Int).toNat; omega⟩
 clear hI
 rintro ρ w ⟨done, E, hdl, hH, hI⟩
 obtain ⟨σ, rfl⟩ := hH.open
 rw [Nat.sub_self, List.replicate_zero, List.append_nil] at hI
 have hI := hI.u0 (e' := Row 0 113 1 (some ⟨b46, 0, none⟩) N N done.toArray.toList) (Chg.refl _ _) (Row.of_blk hI.g0 (Nat.zero_le _) (by simp [hdl]) (by omega)) (fun k hk => .inl (by have : some b46 = some k := hk; injection this with this; exact this.symm))
 replace hI := ((hI.pull 4 rfl).pull 4 rfl).pull 4 rfl
 replace hI : Inv S w0 w ([B b2 46 #[.pointer (some ⟨L.sb, 0, none⟩)], Row 0 113 1 (some ⟨g, 0, none⟩) s.n s.n vals, RowsE vals D] ++ ([Row 0 113 1 (some ⟨b46, 0, none⟩) N N done, RowsE done E] ++ spt L s)) := hI
 refine Wq (V5 (.pointer _) rfl (hI.c0 rfl) (Vb rfl (V7 7 rfl (Vi rfl (Va [.pointer _, .slice _ _ _] rfl func87 rfl ?_)))))
 refine (ncut_any L s (some ⟨b46, 0, none⟩) N N done E (by omega) hdl (DLs _) _ (hI.fromB (X := [_, _, _]))).mono ?_
 rintro en w1 ⟨rfl, LA, ln, lc, lv, LD, hJ⟩
 refine rV ?_
 have hI := hI.callB (X := [_, _, _]) hJ
 refine Wn (Wq (Vj rfl (Wn ?_)))
 exact WR (r1_ 4 rfl ⟨⟨_, rfl⟩, { L with LA := LA, ln := ln, lc := lc, cut := true, lv := lv, LD := LD }, rfl, rfl, hI.d0.d0.d0.d0.d0⟩)
theorem BegR.facts {nums : List Int} {t t' : Tr} {c : Int} {r : Bool} (h : BegR nums t c r t') : Mv t.st t'.st ∧ t'.g.sz ≤ t.g.sz ∧ t.u ≤ t'.u ∧ t'.u ≤ t.u + t.g.sz ∧ t.b ≤ t'.b ∧ t'.b ≤ t.b + 1 ∧ (t.b ≤ 40 → t'.b ≤ 40) := by
 rcases h with ⟨_, _, rfl⟩ | ⟨_, hb, c', hm, rr, g', u', hnx, h⟩
 ·exact ⟨Mv.refl _, Nat.le_refl _, Nat.le_refl _, by omega, Nat.le_refl _, by omega, id⟩
 have hs := hnx.sz
 rcases h with ⟨_, _, rfl⟩ | ⟨w, k, v, _, ⟨_, _, rfl⟩ | ⟨hok, _, rfl⟩⟩
 ·exact ⟨Mv.refl _, hs.2.2, hs.1, hs.2.1, Nat.le_refl _, by show t.b ≤ t.b + 1; omega, id⟩
 ·exact ⟨Mv.refl _, hs.2.2, hs.1, hs.2.1, Nat.le_refl _, by show t.b ≤ t.b + 1; omega, id⟩
 refine ⟨.inr (.inl ⟨c', k.toNat, w, v, hm.lt, hm.busy, hm.gone, ?_, hok.2.1, rfl⟩), hs.2.2, hs.1, hs.2.1, by show t.b ≤ t.b + 1; omega, Nat.le_refl _, fun _ => by show t.b + 1 ≤ 40; omega⟩
 have := hok.1; omega
abbrev triE (tb : Nat) (sb : Nat) (gv : Value) (q : Nat) (p : FPlan) (b : Nat) (em : Bool) : Ent := B tb 59 (trC sb gv q p b em)
theorem Inv.toEnd {S : Nat → Prop} {w0 w : World} {a b : Ent} {X R : List Ent} (h : Inv S w0 w (a :: b :: (X ++ R))) : Inv S w0 w (X ++ (a :: b :: R)) := h.perm (List.perm_append_comm_assoc [a, b] X R)
section
variable {S D : Nat → Prop} {w0 : World} {gv : Value} {LG : List Ent} {q tb : Nat} {p : FPlan} {A : Option Addr} {len cp : Nat} {nums : List Int}
theorem part_any (w : World) (L : StL) (s : StS) (u b M : Nat) (em : Bool)
  (hI : Inv S w0 w (triE tb L.sb gv q p b em :: tapeE q (.slice A len cp) u :: (LG ++ spt L s))) (hok : SOk L s M) (hM : M ≤ 100000) (hN : Ints w0 D (.slice A len cp) nums) (hD : ∀ k, D k → ¬ S k) (hu : u + 4 ≤ 4611686018427387904) (hpn : p.n ≤ 1000) (hpk : p.k ≤ 1000) :
  Cq 40 #[at0 tb] w fun e w' => (∃ v, e = .returned v) ∧ ∃ u' L' s', Mv s s' ∧ SOk L' s' (M + 1) ∧ L'.sb = L.sb ∧ u ≤ u' ∧ u' ≤ u + 2 ∧ Inv S w0 w' (triE tb L.sb gv q p b em :: tapeE q (.slice A len cp) u' :: (LG ++ spt L' s')) := by
 have hk8 := hok.k1
 have hBel := fun (w : World) (u : Nat) (n : Int) (hI : Inv S w0 w (triE tb L.sb gv q p b em :: tapeE q (.slice A len cp) u :: (LG ++ spt L s))) (hn : n ≤ 1000) (hu : u ≤ 4611686018427387904) => belowG_any S D w0 w _ q A len cp nums u n (hI.perm (.swap ..)) hN hD (by omega) (by omega)
 refine Vn func40 rfl ?_
 refine Wq (Vo rfl (Wn (Wq (Vj rfl (Wn (Wq (V9 rfl (Vb rfl (V7 3 rfl (Tj rfl ?_))))))))))
 refine Tj rfl (V5 (.int .i64 _) rfl (hI.c0 rfl) (Vc rfl (Wn ?_)))
 have hLink : ∀ {ρ : Env} {w w' : World} {u' : Nat} {v0 v1 : Value}, Inv S w0 w (triE tb L.sb gv q p b em :: tapeE q (.slice A len cp) u' :: (LG ++ spt L s)) → LinkR w v0 v1 w' → u ≤ u' → u' ≤ u + 2 → Has ρ [(2, v0), (3, v1), (0, at0 tb)] →
   ∃ (u' : Nat) (v0 v1 : Value), u ≤ u' ∧ u' ≤ u + 2 ∧ Has ρ [(2, v0), (3, v1), (0, at0 tb)] ∧
  ((v0 = .slice none 0 0 ∧ (v1 = .nilIface ∨ ∃ z : Int, v1 = .iface 45 (.int .i64 z)) ∧ Inv S w0 w' (triE tb L.sb gv q p b em :: tapeE q (.slice A len cp) u' :: (LG ++ spt L s))) ∨
   (v1 = .nilIface ∧ ∃ (g n : Nat) (vals : List Value) (E : Nat → Prop), v0 = .slice (some ⟨g, 0, none⟩) n n ∧ vals.length = n ∧ Inv S w0 w' (Row 0 113 1 (some ⟨g, 0, none⟩) n n vals :: RowsE vals E :: triE tb L.sb gv q p b em :: tapeE q (.slice A len cp) u' :: (LG ++ spt L s)))) := by
  intro ρ w w' u' v0 v1 hI hL h1 h2 hH
  refine ⟨u', v0, v1, h1, h2, hH, ?_⟩
  rcases hL with ⟨e1, g, n, vals, E, e0, hvl, _, hJ⟩ | ⟨e0, e1, hp⟩
  ·exact .inr ⟨e1, g, n, vals, E, e0, hvl, hI.app2 hJ⟩
  exact .inl ⟨e0, .inr e1, hI.pure hp⟩
 refine Wx (fun ρ w => ∃ (u' : Nat) (v0 v1 : Value), u ≤ u' ∧ u' ≤ u + 2 ∧ Has ρ [(2, v0), (3, v1), (0, at0 tb)] ∧
  ((v0 = .slice none 0 0 ∧ (v1 = .nilIface ∨ ∃ z : Int, v1 = .iface 45 (.int .i64 z)) ∧ Inv S w0 w (triE tb L.sb gv q p b em :: tapeE q (.slice A len cp) u' :: (LG ++ spt L s))) ∨
   (v1 = .nilIface ∧ ∃ (g n : Nat) (vals : List Value) (E : Nat → Prop), v0 = .slice (some ⟨g, 0, none⟩) n n ∧ vals.length = n ∧ Inv S w0 w (Row 0 113 1 (some ⟨g, 0, none⟩) n n vals :: RowsE vals E :: triE tb L.sb gv q p b em :: tapeE q (.slice A len cp) u' :: (LG ++ spt L s))))) ?_ ?_
 ·refine Wq (V9 rfl (Vb rfl (V7 2 rfl (V5 (.pointer _) rfl (hI.c0 rfl) (Va [.pointer _, .int .i64 _] rfl func34 rfl ?_)))))
  refine (hBel _ u 6 hI (by omega) (by omega)).mono ?_
  rintro e w1 ⟨z, u', rfl, hz, -, hu1, hu2, hI1⟩
  refine rV ?_
  replace hI := hI1.perm (.swap ..)
  clear hI1
  refine Wn ?_
  obtain ⟨rfl, hz6⟩ := hz (by omega)
  refine Wb ?_
  by_cases h1 : z = 1
  ·refine Wq (T5 rfl (V8 rfl (Wn (Wc true rfl (Wr (V0 rfl (Va [.int .i64 _] rfl func82 rfl ?_)))))))
   refine (halves_any _ _).mono ?_
   rintro e w1 ⟨v0, v1, rfl, hL⟩
   refine rV ?_
   refine Vz rfl (Vg rfl (Vg rfl (Tn rfl (Tn rfl (Wn ?_)))))
   exact hLink hI hL (by omega) (by omega) ⟨rfl, rfl, rfl, trivial⟩
  refine Wq (Vw rfl (V8 rfl (Wn (Wc false rfl ?_))))
  by_cases h2 : z = 2
  ·refine Wq (T5 rfl (V8 rfl (Wn (Wc true rfl (Wr (V0 rfl (Va [.int .i64 _] rfl func83 rfl ?_)))))))
   refine (bridge_any _ _).mono ?_
   rintro e w1 ⟨v0, v1, rfl, hL⟩
   refine rV ?_
   refine Vz rfl (Vg rfl (Vg rfl (Tn rfl (Tn rfl (Wn ?_)))))
   exact hLink hI hL (by omega) (by omega) ⟨rfl, rfl, rfl, trivial⟩
  refine Wq (Vw rfl (V8 rfl (Wn (Wc false rfl ?_))))
  by_cases h3 : z = 3
  ·refine Wq (T5 rfl (V8 rfl (Wn (Wc true rfl (Wr (V0 rfl (Va [.int .i64 _] rfl func84 rfl ?_)))))))
   refine (ring_any _ _).mono ?_
   rintro e w1 ⟨v0, v1, rfl, hL⟩
   refine rV ?_
   refine Vz rfl (Vg rfl (Vg rfl (Tn rfl (Tn rfl (Wn ?_)))))
   exact hLink hI hL (by omega) (by omega) ⟨rfl, rfl, rfl, trivial⟩
  refine Wq (Vw rfl (V8 rfl (Wn (Wc false rfl ?_))))
  by_cases h4 : z = 4
  ·refine Wq (T5 rfl (V8 rfl (Wn (Wc true rfl (Wr (V0 rfl (V9 rfl (Vb rfl (V7 2 rfl (V5 (.pointer _) rfl (hI.c0 rfl) (V0 rfl (Va [.pointer _, .int .i64 _] rfl func34 rfl ?_))))))))))))
   refine (hBel _ _ (p.n : Int) hI (by omega) (by omega)).mono ?_
   rintro e w2 ⟨z2, u2, rfl, -, -, hu3, hu4, hI2⟩
   refine rV ?_
   replace hI := hI2.perm (.swap ..)
   clear hI2
   refine Va [.int .i64 _, .int .i64 _] rfl func85 rfl ?_
   refine (alone_any _ _ _).mono ?_
   rintro e w1 ⟨v0, v1, rfl, hL⟩
   refine rV ?_
   refine Vz rfl (Vg rfl (Vg rfl (Tn rfl (Tn rfl (Wn ?_)))))
   exact hLink hI hL (by omega) (by omega) ⟨rfl, rfl, rfl, trivial⟩
  refine Wq (Vw rfl (V8 rfl (Wn (Wc false rfl ?_))))
  by_cases h5 : z = 5
  ·refine Wq (T5 rfl (V8 rfl (Wn (Wc true rfl (Ws (Wd (by kernel_rfl) ?_))))))
   refine Wi (T := []) hI.hd1.drew ?_
   intro Sx hY hZ
   have hI := hI.drew
   refine Vl 0 rfl (Vm 1 rfl (Vf 2 0 rfl (Vd 3 (.pointer _) rfl (fun W hW => (hY W hW).c0 rfl) (Vl 4 rfl (Vm 5 rfl (Vf 6 2 rfl (Vd 7 (.pointer _) rfl (fun W hW => (hY W hW).c0 rfl) (Vl 8 rfl (Vm 9 rfl (Vf 10 3 rfl (U9 11 rfl (Th 12 1 rfl (Vd 13 (.int .i64 _) rfl (fun W hW => (hY W hW).c0 rfl) ?_)))))))))))))
   refine Vu 14 rfl ?_
   refine Va [.pointer _, .int .i64 _] rfl func34 rfl ?_
   refine (hBel _ _ (p.k : Int) hI (by omega) (by omega)).mono ?_
   rintro e w2 ⟨z2, u2, rfl, -, -, hu3, hu4, hI2⟩
   refine rV ?_
   replace hI := hI2.perm (.swap ..)
   clear hI2
   refine Wn ⟨hZ _ hI.hd1, ?_⟩
   refine Vu 15 rfl ?_
   refine Va [.pointer _, .int .i64 _] rfl func86 rfl ?_
   refine (giveupM L s M hok (DLs (spt L s)) _ (Inv.fromB (X := triE tb L.sb gv q p b em :: tapeE q (.slice A len cp) u2 :: LG) hI) z2).mono ?_
   rintro e w3 ⟨⟨v, rfl⟩, L', s', hmv, hok', hsb, hJ⟩
   refine rV ?_
   have hI := Inv.callB (X := triE tb L.sb gv q p b em :: tapeE q (.slice A len cp) u2 :: LG) hI hJ
   refine Wn ⟨hZ _ hI.hd1, ?_⟩
   refine We (by kernel_rfl) ?_
   refine WR ?_
   exact ret0 (.inr rfl) rfl ⟨⟨_, rfl⟩, u2, L', s', hmv, hok', hsb, by omega, by omega, hI⟩
  refine Wq (Vw rfl (V8 rfl (Wn (Wc false rfl (Wk ?_)))))
  exact ⟨_, _, _, (by omega : u ≤ u + 1), by omega, ⟨rfl, rfl, rfl, trivial⟩, .inl ⟨rfl, .inl rfl, hI⟩⟩
 clear hI
 rintro ρ w ⟨u', v0, v1, hu1, hu2, hH, hcase⟩
 obtain ⟨σ, rfl⟩ := hH.open
 rcases hcase with ⟨rfl, (rfl | ⟨z, rfl⟩), hI⟩ | ⟨rfl, g, n, vals, E, rfl, hvl, hI⟩
 ·refine Wq (T8 rfl ?_)
  refine Wv rfl (by exact rNilEq rfl yy34 rfl) ?_
  refine Wn (Wc true rfl (Wr (V9 rfl (Vb rfl (V7 0 rfl (V5 (.pointer _) rfl (hI.c0 rfl) (Vi rfl (Va [.pointer _, .slice _ _ _] rfl func41 rfl ?_))))))))
  refine (cutNil L s (DLs (spt L s)) _ (Inv.fromB (X := triE tb L.sb gv q p b em :: tapeE q (.slice A len cp) u' :: LG) hI)).mono ?_
  rintro e w3 ⟨⟨v, rfl⟩, L', hsb, hcw, hJ⟩
  refine rV ?_
  have hI := Inv.callB (X := triE tb L.sb gv q p b em :: tapeE q (.slice A len cp) u' :: LG) hI hJ
  refine Wn ?_
  exact ret0 (.inl rfl) rfl ⟨⟨_, rfl⟩, u', L', s, Mv.refl _, (hok.loc hcw).mono (by omega), hsb, hu1, hu2, hI⟩
 ·refine Wq (Vy rfl ?_)
  refine Wv rfl (by exact rIfaceEq rfl yy34 rfl rfl) ?_
  refine Wn (Wc false rfl (Wk ?_))
  exact ret0 (.inl rfl) rfl ⟨⟨_, rfl⟩, u', L, s, Mv.refl _, hok.mono (by omega), rfl, hu1, hu2, hI⟩
 refine Wq (T8 rfl ?_)
 refine Wv rfl (by exact rNilEq rfl yy34 rfl) ?_
 refine Wn (Wc true rfl (Wr (V9 rfl (Vb rfl (V7 0 rfl (V5 (.pointer _) rfl (hI.c2 rfl) (Vi rfl (Va [.pointer _, .slice _ _ _] rfl func41 rfl ?_))))))))
 refine (cutSome L s M g n vals E hok hvl (DLs (Row 0 113 1 (some ⟨g, 0, none⟩) n n vals :: RowsE vals E :: spt L s)) _ (Inv.fromB (X := triE tb L.sb gv q p b em :: tapeE q (.slice A len cp) u' :: LG) (Inv.toEnd (X := triE tb L.sb gv q p b em :: tapeE q (.slice A len cp) u' :: LG) hI))).mono ?_
 rintro e w3 ⟨⟨v, rfl⟩, L', hsb, hcw, hJ⟩
 refine rV ?_
 have hI := Inv.callB (X := triE tb L.sb gv q p b em :: tapeE q (.slice A len cp) u' :: LG) (Inv.toEnd (X := triE tb L.sb gv q p b em :: tapeE q (.slice A len cp) u' :: LG) hI) hJ
 refine Wn ?_
 exact ret0 (.inl rfl) rfl ⟨⟨_, rfl⟩, u', L', s, Mv.refl _, (hok.loc hcw).mono (by omega), hsb, hu1, hu2, hI⟩
theorem move_any (w : World) (L : StL) (t : Tr) (M : Nat)
  (hI : Inv S w0 w (triE tb L.sb gv q p t.b t.em :: tapeE q (.slice A len cp) t.u :: (LG ++ spt L t.st))) (hr : Rep t.g gv LG) (hok : SOk L t.st M) (hM : M ≤ 100000) (hN : Ints w0 D (.slice A len cp) nums) (hD : ∀ k, D k → ¬ S k) (hu : t.u + 8 + t.g.sz ≤ 4611686018427387904) (hb : t.b ≤ 1000) (hpn : p.n ≤ 1000) (hpk : p.k ≤ 1000) :
  Cq 15 #[at0 tb] w fun e w' => (∃ v, e = .returned v) ∧ ∃ (t' : Tr) (L' : StL) (LG' : List Ent), Mv t.st t'.st ∧ Rep t'.g gv LG' ∧ t'.g.sz ≤ t.g.sz ∧ SOk L' t'.st (M + 1) ∧ L'.sb = L.sb ∧ t.u < t'.u ∧ t'.u ≤ t.u + 4 + t.g.sz ∧ t.b ≤ t'.b ∧ (t.b ≤ 40 → t'.b ≤ 40) ∧
   Inv S w0 w' (triE tb L.sb gv q p t'.b t'.em :: tapeE q (.slice A len cp) t'.u :: (LG' ++ spt L' t'.st)) := by
 obtain ⟨s, g, u, b, em⟩ := t
 dsimp only at hI hr hok hu hb ⊢
 have hml := hok.mlen
 have hBel := fun (w : World) (u : Nat) (n : Int) (hI : Inv S w0 w (triE tb L.sb gv q p b em :: tapeE q (.slice A len cp) u :: (LG ++ spt L s))) (hn : n ≤ 1000) (hu : u ≤ 4611686018427387904) => belowG_any S D w0 w _ q A len cp nums u n (hI.perm (.swap ..)) hN hD (by omega) (by omega)
 have hWait := fun (w : World) (u2 : Nat) (hI : Inv S w0 w ((triE tb L.sb gv q p b em :: tapeE q (.slice A len cp) u2 :: LG) ++ spt L s)) => waiting_any L.sb s.mails.length L.mc L.MA w (sp_c7 hI)
 have hEnd : ∀ {w' : World} {u2 : Nat} {v : Value} {L' : StL} {s' : StS}, Mv s s' → SOk L' s' (M + 1) → L'.sb = L.sb → u + 1 ≤ u2 → u2 ≤ u + 3 → Inv S w0 w' (triE tb L.sb gv q p b em :: tapeE q (.slice A len cp) u2 :: (LG ++ spt L' s')) →
   (∃ v', Ending.returned v = .returned v') ∧ ∃ (t' : Tr) (L' : StL) (LG' : List Ent), Mv s t'.st ∧ Rep t'.g gv LG' ∧ t'.g.sz ≤ g.sz ∧ SOk L' t'.st (M + 1) ∧ L'.sb = L.sb ∧ u < t'.u ∧ t'.u ≤ u + 4 + g.sz ∧ b ≤ t'.b ∧ (b ≤ 40 → t'.b ≤ 40) ∧
   Inv S w0 w' (triE tb L.sb gv q p t'.b t'.em :: tapeE q (.slice A len cp) t'.u :: (LG' ++ spt L' t'.st)) :=
  fun {w' u2 v L' s'} h1 h2 h3 h4 h5 hI => ⟨⟨_, rfl⟩, ⟨s', g, u2, b, em⟩, L', LG, h1, hr, Nat.le_refl _, h2, h3, by show u < u2; omega, by show u2 ≤ u + 4 + g.sz; omega, Nat.le_refl _, id, hI⟩
 refine Vn func15 rfl ?_
 refine Wq (V9 rfl (Vb rfl (V7 2 rfl (V5 (.pointer _) rfl (hI.c0 rfl) (Va [.pointer _, .int .i64 _] rfl func34 rfl ?_)))))
 refine (hBel _ u 10 hI (by omega) (by omega)).mono ?_
 rintro e w1 ⟨z, u1, rfl, hz, -, hu1, hu2, hI1⟩
 refine rV ?_
 replace hI := hI1.perm (.swap ..)
 clear hI1
 refine Vc rfl (Wn ?_)
 obtain ⟨rfl, hz10⟩ := hz (by omega)
 refine Wb ?_
 by_cases h3 : z < 3
 ·refine Wq (V0 rfl (Vt rfl (V8 rfl (Wn (Wc true rfl (Wd (by kernel_rfl) ?_))))))
  refine Wi (T := [12]) hI.hd1.drew ?_
  intro Sx hY hZ
  have hI := hI.drew
  refine Vl 0 rfl (Vl 1 rfl (Vm 2 rfl (Vf 3 2 rfl (Vd 4 (.pointer _) rfl (fun W hW => (hY W hW).c0 rfl) (Vl 5 rfl (Vm 6 rfl (Vf 7 3 rfl (U9 8 rfl (Th 9 1 rfl (Vd 10 (.int .i64 _) rfl (fun W hW => (hY W hW).c0 rfl) (Vu 11 rfl ?_)))))))))))
  refine Va [.pointer _, .int .i64 _] rfl func34 rfl ?_
  refine (hBel _ _ (p.k : Int) hI (by omega) (by omega)).mono ?_
  rintro e w2 ⟨z2, u2, rfl, -, -, hu3, hu4, hI2⟩
  refine rV ?_
  replace hI := hI2.perm (.swap ..)
  clear hI2
  refine Wn ⟨hZ _ hI.hd1, ?_⟩
  refine WT_A (by kernel_rfl) ?_
  clear hZ hY
  refine T2 12 rfl ?_
  refine Va [.pointer _, .int .i64 _] rfl func35 rfl ?_
  refine (tbegin_any S D w0 _ L gv LG q tb p ⟨s, g, u2, b, em⟩ A len cp nums M z2 hI hr hok hM hN hD (by show u2 + g.sz ≤ _; omega) hb).mono ?_
  rintro e w3 ⟨r, t', L', LG', rfl, hbeg, hr', hok', hsb, -, hI3⟩
  refine rV ?_
  replace hI := hI3
  clear hI3
  refine Wn ?_
  refine WA_end (by kernel_rfl) ?_
  obtain ⟨f1, f2, f3, f4, f5, f6, f7⟩ := hbeg.facts
  dsimp only at f1 f2 f3 f4 f5 f6 f7
  exact ret0 (.inl rfl) rfl ⟨⟨_, rfl⟩, t', L', LG', f1, hr', f2, hok', hsb, by omega, by omega, f5, f7, hI⟩
 refine Wq (V0 rfl (Vr rfl (V8 rfl (Wn (Wc false rfl ?_)))))
 by_cases h7 : z < 7
 ·refine Wq (V0 rfl (Vt rfl (V8 rfl (Wn (Wc true rfl (Wd (by kernel_rfl) ?_))))))
  refine Wi (T := []) hI.hd1.drew ?_
  intro Sx hY hZ
  have hI := hI.drew
  refine Vl 0 rfl (Vm 1 rfl (Vf 2 0 rfl (Vd 3 (.pointer _) rfl (fun W hW => (hY W hW).c0 rfl) (Vl 4 rfl (Vm 5 rfl (Vf 6 2 rfl (Vd 7 (.pointer _) rfl (fun W hW => (hY W hW).c0 rfl) (Vl 8 rfl (Vm 9 rfl (Vf 10 0 rfl (Vd 11 (.pointer _) rfl (fun W hW => (hY W hW).c0 rfl) (Vu 12 rfl ?_))))))))))))
  refine Va [.pointer _] rfl func37 rfl ?_
  refine (hWait _ _ hI).mono (okP hI fun w1 hp hI => ?_)
  refine Wn ⟨hZ _ hI.hd1, ?_⟩
  refine Vu 13 rfl ?_
  refine Va [.pointer _, .int .i64 _] rfl func34 rfl ?_
  refine (hBel _ _ (s.mails.length : Int) hI (by omega) (by omega)).mono ?_
  rintro e w2 ⟨z2, u2, rfl, -, -, hu3, hu4, hI2⟩
  refine rV ?_
  replace hI := hI2.perm (.swap ..)
  clear hI2
  refine Wn ⟨hZ _ hI.hd1, ?_⟩
  refine Vu 14 rfl ?_
  refine Va [.pointer _, .int .i64 _] rfl func36 rfl ?_
  refine (deliverM L s M hok hM (DLs (spt L s)) _ (Inv.fromB (X := (triE tb L.sb gv q p b em :: tapeE q (.slice A len cp) u2 :: LG)) hI) z2).mono ?_
  rintro e w3 ⟨v, L', s', rfl, hmv, hok', hsb, -, hJ, -⟩
  refine rV ?_
  have hI := Inv.callB (X := (triE tb L.sb gv q p b em :: tapeE q (.slice A len cp) u2 :: LG)) hI hJ
  refine Wn ⟨hZ _ hI.hd1, ?_⟩
  refine We (by kernel_rfl) ?_
  exact ret0 (.inl rfl) rfl (hEnd hmv hok' hsb (by omega) (by omega) hI)
 refine Wq (V0 rfl (Vr rfl (V8 rfl (Wn (Wc false rfl ?_)))))
 by_cases h7b : z = 7
 ·refine Wq (V0 rfl (T5 rfl (V8 rfl (Wn (Wc true rfl (Wd (by kernel_rfl) ?_))))))
  refine Wi (T := []) hI.hd1.drew ?_
  intro Sx hY hZ
  have hI := hI.drew
  refine Vl 0 rfl (Vm 1 rfl (Vf 2 0 rfl (Vd 3 (.pointer _) rfl (fun W hW => (hY W hW).c0 rfl) (Vl 4 rfl (Vm 5 rfl (Vf 6 2 rfl (Vd 7 (.pointer _) rfl (fun W hW => (hY W hW).c0 rfl) (Vl 8 rfl (Vm 9 rfl (Vf 10 0 rfl (Vd 11 (.pointer _) rfl (fun W hW => (hY W hW).c0 rfl) (Vu 12 rfl ?_))))))))))))
  refine Va [.pointer _] rfl func37 rfl ?_
  refine (hWait _ _ hI).mono (okP hI fun w1 hp hI => ?_)
  refine Wn ⟨hZ _ hI.hd1, ?_⟩
  refine Vu 13 rfl ?_
  refine Va [.pointer _, .int .i64 _] rfl func34 rfl ?_
  refine (hBel _ _ (s.mails.length : Int) hI (by omega) (by omega)).mono ?_
  rintro e w2 ⟨z2, u2, rfl, -, -, hu3, hu4, hI2⟩
  refine rV ?_
  replace hI := hI2.perm (.swap ..)
  clear hI2
  refine Wn ⟨hZ _ hI.hd1, ?_⟩
  refine Vu 14 rfl ?_
  refine Va [.pointer _, .int .i64 _] rfl func38 rfl ?_
  refine (dropM L s M hok (DLs (spt L s)) _ (Inv.fromB (X := (triE tb L.sb gv q p b em :: tapeE q (.slice A len cp) u2 :: LG)) hI) z2).mono ?_
  rintro e w3 ⟨⟨v, rfl⟩, L', s', hmv, hok', hsb, hJ⟩
  refine rV ?_
  have hI := Inv.callB (X := (triE tb L.sb gv q p b em :: tapeE q (.slice A len cp) u2 :: LG)) hI hJ
  refine Wn ⟨hZ _ hI.hd1, ?_⟩
  refine We (by kernel_rfl) ?_
  exact ret0 (.inl rfl) rfl (hEnd hmv hok' hsb (by omega) (by omega) hI)
 refine Wq (V0 rfl (Vw rfl (V8 rfl (Wn (Wc false rfl ?_)))))
 by_cases h8b : z = 8
 ·refine Wq (V0 rfl (T5 rfl (V8 rfl (Wn (Wc true rfl (Wd (by kernel_rfl) ?_))))))
  refine Wi (T := []) hI.hd1.drew ?_
  intro Sx hY hZ
  have hI := hI.drew
  refine Vl 0 rfl (Vm 1 rfl (Vf 2 0 rfl (Vd 3 (.pointer _) rfl (fun W hW => (hY W hW).c0 rfl) (Vl 4 rfl (Vm 5 rfl (Vf 6 2 rfl (Vd 7 (.pointer _) rfl (fun W hW => (hY W hW).c0 rfl) (Vl 8 rfl (Vm 9 rfl (Vf 10 0 rfl (Vd 11 (.pointer _) rfl (fun W hW => (hY W hW).c0 rfl) (Vu 12 rfl ?_))))))))))))
  refine Va [.pointer _] rfl func37 rfl ?_
  refine (hWait _ _ hI).mono (okP hI fun w1 hp hI => ?_)
  refine Wn ⟨hZ _ hI.hd1, ?_⟩
  refine Vu 13 rfl ?_
  refine Va [.pointer _, .int .i64 _] rfl func34 rfl ?_
  refine (hBel _ _ (s.mails.length : Int) hI (by omega) (by omega)).mono ?_
  rintro e w2 ⟨z2, u2, rfl, -, -, hu3, hu4, hI2⟩
  refine rV ?_
  replace hI := hI2.perm (.swap ..)
  clear hI2
  refine Wn ⟨hZ _ hI.hd1, ?_⟩
  refine Vu 14 rfl ?_
  refine Va [.pointer _, .int .i64 _] rfl func39 rfl ?_
  refine (doubleM L s M hok (DLs (spt L s)) _ (Inv.fromB (X := (triE tb L.sb gv q p b em :: tapeE q (.slice A len cp) u2 :: LG)) hI) z2).mono ?_
  rintro e w3 ⟨⟨v, rfl⟩, L', s', hmv, hok', hsb, hJ⟩
  refine rV ?_
  have hI := Inv.callB (X := (triE tb L.sb gv q p b em :: tapeE q (.slice A len cp) u2 :: LG)) hI hJ
  refine Wn ⟨hZ _ hI.hd1, ?_⟩
  refine We (by kernel_rfl) ?_
  exact ret0 (.inl rfl) rfl (hEnd hmv hok' hsb (by omega) (by omega) hI)
 refine Wq (V0 rfl (Vw rfl (V8 rfl (Wn (Wc false rfl (Wr (V9 rfl (Va [.pointer _] rfl func40 rfl ?_))))))))
 refine (part_any _ L s (u + 1) b M em hI hok hM hN hD (by omega) hpn hpk).mono ?_
 rintro e w3 ⟨⟨v, rfl⟩, u3, L', s', hmv, hok', hsb, hu3, hu4, hI3⟩
 refine rV ?_
 replace hI := hI3
 clear hI3
 refine Wn ?_
 exact ret0 (.inl rfl) rfl (hEnd hmv hok' hsb (by omega) (by omega) hI)
end
inductive DelR : StS → StS → Prop
 | nil {s : StS} : s.mails = [] → DelR s s
 | step {s s' : StS} {m : SMail} : s.mails[0]? = some m → DelR (deliverF s 0 m) s' → DelR s s'
inductive RndR (nums : List Int) (k : Nat) : Nat → Tr → Bool → Tr → Bool → Prop
 | done {t : Tr} {m : Bool} : RndR nums k k t m t m
 | step {i : Nat} {t t1 t2 : Tr} {r m m2 : Bool} : i < k → BegR nums t (i : Int) r t1 → RndR nums k (i + 1) t1 (r || m) t2 m2 → RndR nums k i t m t2 m2
inductive FinR (nums : List Int) (k : Nat) : Tr → Tr → Prop
 | last {t t1 : Tr} {s1 : StS} : DelR t.st s1 → RndR nums k 0 { t with st := s1 } false t1 false → FinR nums k t t1
 | more {t t1 t2 : Tr} {s1 : StS} : DelR t.st s1 → RndR nums k 0 { t with st := s1 } false t1 true → FinR nums k t1 t2 → FinR nums k t t2
theorem BegR.mu {nums : List Int} {t t' : Tr} {c : Int} {r : Bool} (h : BegR nums t c r t') (hn : t.st.n ≤ 7) : (r = true → t'.b = t.b + 1 ∧ t.b < 40 ∧ muS t'.st ≤ muS t.st + 29) ∧ (r = false → t'.b = t.b ∧ t'.st = t.st) := by
 rcases h with ⟨_, rfl, rfl⟩ | ⟨_, hb, c', hm, rr, g', u', hnx, h⟩
 ·exact ⟨fun h => (by cases h), fun _ => ⟨rfl, rfl⟩⟩
 rcases h with ⟨_, rfl, rfl⟩ | ⟨w, k, v, _, ⟨_, rfl, rfl⟩ | ⟨hok, rfl, rfl⟩⟩
 ·exact ⟨fun h => (by cases h), fun _ => ⟨rfl, rfl⟩⟩
 ·exact ⟨fun h => (by cases h), fun _ => ⟨rfl, rfl⟩⟩
 refine ⟨fun _ => ⟨rfl, hb, ?_⟩, fun h => (by cases h)⟩
 have := mu_beg (s := t.st) (key := k.toNat) (write := w) (value := v) hm.lt
 show muS (begS t.st c' k.toNat w v) ≤ _
 omega
theorem begS_nk (s : StS) (c key : Nat) (w : Bool) (v : Int) : (begS s c key w v).n = s.n ∧ (begS s c key w v).k = s.k := ⟨rfl, rfl⟩
theorem BegR.nk {nums : List Int} {t t' : Tr} {c : Int} {r : Bool} (h : BegR nums t c r t') : t'.st.n = t.st.n ∧ t'.st.k = t.st.k := by
 rcases h with ⟨_, _, rfl⟩ | ⟨_, hb, c', hm, rr, g', u', hnx, h⟩
 ·exact ⟨rfl, rfl⟩
 rcases h with ⟨_, _, rfl⟩ | ⟨w, k, v, _, ⟨_, _, rfl⟩ | ⟨hok, _, rfl⟩⟩
 ·exact ⟨rfl, rfl⟩
 ·exact ⟨rfl, rfl⟩
 exact begS_nk ..
theorem hear_nk (s : StS) (j : Nat) (m : SMsg) : (hearF s j m).n = s.n ∧ (hearF s j m).k = s.k := by
 unfold hearF
 dsimp only
 split
 ·exact ⟨rfl, rfl⟩
 split
 ·split <;> exact ⟨rfl, rfl⟩
 split
 ·exact ⟨rfl, rfl⟩
 split <;> exact ⟨rfl, rfl⟩
theorem del_nk (s : StS) (i : Nat) (m : SMail) : (deliverF s i m).n = s.n ∧ (deliverF s i m).k = s.k := by
 unfold deliverF
 dsimp only
 split
 ·exact ⟨rfl, rfl⟩
 exact hear_nk { s with mails := s.mails.eraseIdx i } m.src m.m
section
variable {S D : Nat → Prop} {w0 : World} {gv : Value} {q tb sb : Nat} {p : FPlan} {A : Option Addr} {len cp : Nat} {nums : List Int} {SZ C : Nat}
structure FI (S : Nat → Prop) (w0 : World) (gv : Value) (q tb sb : Nat) (p : FPlan) (A : Option Addr) (len cp : Nat) (SZ C : Nat) (t : Tr) (L : StL) (LG : List Ent) (M : Nat) (w : World) : Prop where
 rep : Rep t.g gv LG
 sz : t.g.sz ≤ SZ
 ok : SOk L t.st M
 sbe : L.sb = sb
 cut : L.cut = false
 b40 : t.b ≤ 40
 k : t.st.k = p.k
 mc : M ≤ C
 u : t.u + (C - M) * SZ + SZ ≤ 4000000000000000000
 inv : Inv S w0 w (triE tb sb gv q p t.b t.em :: tapeE q (.slice A len cp) t.u :: (LG ++ spt L t.st))
theorem mul_step {C M SZ : Nat} (h : M + 1 ≤ C) : (C - (M + 1)) * SZ + SZ = (C - M) * SZ := by
 have e : C - M = (C - (M + 1)) + 1 := by omega
 rw [e, Nat.succ_mul]
theorem finish_any (w : World) (L : StL) (LG : List Ent) (t0 : Tr) (M0 : Nat)
  (hI : Inv S w0 w (triE tb L.sb gv q p t0.b t0.em :: tapeE q (.slice A len cp) t0.u :: (LG ++ spt L t0.st))) (hr : Rep t0.g gv LG) (hok : SOk L t0.st M0) (hC : M0 + muS t0.st + 60 * (40 - t0.b) + 8 ≤ C) (hC2 : C ≤ 90000) (hN : Ints w0 D (.slice A len cp) nums) (hD : ∀ k, D k → ¬ S k)
  (hsz : t0.g.sz ≤ SZ) (hu : t0.u + (C - M0) * SZ + SZ ≤ 4000000000000000000) (hb : t0.b ≤ 40) (hpk : t0.st.k = p.k) :
  Cq 16 #[at0 tb] w fun e w' => (∃ v, e = .returned v) ∧ ∃ (t' : Tr) (L' : StL) (LG' : List Ent) (M' : Nat), FinR nums p.k t0 t' ∧ Rep t'.g gv LG' ∧ SOk L' t'.st M' ∧ L'.sb = L.sb ∧
   Inv S w0 w' (triE tb L.sb gv q p t'.b t'.em :: tapeE q (.slice A len cp) t'.u :: (LG' ++ spt L' t'.st)) := by
 refine Vn func16 rfl ?_
 refine Wq (V9 rfl (Vb rfl (V7 0 rfl (V5 (.pointer _) rfl (hI.c0 rfl) (Va [.pointer _, .slice _ _ _] rfl func41 rfl ?_)))))
 refine (cutNilX L t0.st (DLs (spt L t0.st)) _ (Inv.fromB (X := triE tb L.sb gv q p t0.b t0.em :: tapeE q (.slice A len cp) t0.u :: LG) hI)).mono ?_
 rintro e w3 ⟨⟨v, rfl⟩, L1, hsb, hcw, hcut, hJ⟩
 refine rV ?_
 have hI := Inv.callB (X := triE tb L.sb gv q p t0.b t0.em :: tapeE q (.slice A len cp) t0.u :: LG) hI hJ
 refine Wn ?_
 have hFI : FI S w0 gv q tb L.sb p A len cp SZ C t0 L1 LG M0 w3 := ⟨hr, hsz, hok.loc hcw, hsb, hcut, hb, hpk, by omega, hu, hI⟩
 refine Wq (V8 rfl (Wn (Wb ?_)))
 refine Wl (fun mu ρ w => ∃ (t : Tr) (L1 : StL) (LG1 : List Ent) (M : Nat) (more : Bool), mu = 2 * (40 - t.b) + more.toNat ∧ FI S w0 gv q tb L.sb p A len cp SZ C t L1 LG1 M w ∧ Has ρ [(2, .bool more), (0, at0 tb)] ∧
   ((more = true ∧ (∀ t', FinR nums p.k t t' → FinR nums p.k t0 t') ∧ M + muS t.st + 60 * (40 - t.b) + 8 ≤ C) ∨ (more = false ∧ FinR nums p.k t0 t))) (2 * (40 - t0.b) + 1)
  ⟨t0, L1, LG, M0, true, rfl, hFI, ⟨rfl, rfl, trivial⟩, .inl ⟨rfl, fun _ h => h, hC⟩⟩ ?_
 clear hI hFI hr hok hC hsz hu hb hpk hsb hcw hcut hJ
 rintro mu ρ w ⟨t, L1, LG1, M, more, rfl, hF, hH, hcase⟩
 obtain ⟨σ, rfl⟩ := hH.open
 have hI := hF.inv
 rcases hcase with ⟨rfl, hfin, hC⟩ | ⟨rfl, hfin⟩
 rotate_left
 ·refine Ws (Wq (V6 rfl (Wn (Wc false rfl ?_))))
  refine WE ?_
  exact ret0 (.inl rfl) rfl ⟨⟨_, rfl⟩, t, L1, LG1, M, hfin, hF.rep, hF.ok, hF.sbe, hI⟩
 refine Ws (Wq (V6 rfl (Wn (Wc true rfl (Wk (Wb ?_))))))
 refine Wx (fun ρ w => ∃ (s1 : StS) (L2 : StL) (M2 : Nat), FI S w0 gv q tb L.sb p A len cp SZ C { t with st := s1 } L2 LG1 M2 w ∧ DelR t.st s1 ∧ M2 + muS s1 + 60 * (40 - t.b) + 8 ≤ C ∧ Has ρ [(0, at0 tb)]) ?_ ?_
 ·refine Wb ?_
  refine Wl (fun mu ρ w => ∃ (s1 : StS) (L2 : StL) (M2 : Nat), mu = muS s1 ∧ FI S w0 gv q tb L.sb p A len cp SZ C { t with st := s1 } L2 LG1 M2 w ∧ (∀ s', DelR s1 s' → DelR t.st s') ∧ M2 + muS s1 + 60 * (40 - t.b) + 8 ≤ C ∧ Has ρ [(0, at0 tb)]) (muS t.st)
   ⟨t.st, L1, M, rfl, hF, fun _ h => h, hC, ⟨rfl, trivial⟩⟩ ?_
  clear hI hF hC
  rintro mu ρ w ⟨s1, L2, M2, rfl, hF, hdel, hC, hH⟩
  obtain ⟨σ, rfl⟩ := hH.open
  have hI := hF.inv
  have hsb := hF.sbe
  have hmf := hF.ok.mok
  have hfk := hF.k
  have hfn := hF.ok.n1
  dsimp only at hI hmf hfk hfn
  rw [← hsb] at hI
  replace hI : Inv S w0 w ((triE tb L2.sb gv q p t.b t.em :: tapeE q (.slice A len cp) t.u :: LG1) ++ spt L2 s1) := hI
  by_cases hm0 : s1.mails.length = 0
  ·refine Ws (Wq (V9 rfl (Vb rfl (V7 0 rfl (V5 (.pointer _) rfl (hI.c0 rfl) (Va [.pointer _] rfl func37 rfl ?_))))))
   refine (waiting_any L2.sb s1.mails.length L2.mc L2.MA _ (sp_c7 (X := (triE tb L2.sb gv q p t.b t.em :: tapeE q (.slice A len cp) t.u :: LG1)) hI)).mono (okP hI fun w1 hp hI => ?_)
   refine Tc rfl (Wn (Wc false rfl ?_))
   refine WE ?_
   have hI1 : Inv S w0 w1 (triE tb L.sb gv q p t.b t.em :: tapeE q (.slice A len cp) t.u :: (LG1 ++ spt L2 s1)) := by rw [← hsb]; exact hI
   exact ⟨s1, L2, M2, { hF with inv := hI1 }, hdel s1 (.nil (List.eq_nil_of_length_eq_zero hm0)), hC, ⟨rfl, trivial⟩⟩
  obtain ⟨m, hm⟩ : ∃ m, s1.mails[0]? = some m := ⟨_, List.getElem?_eq_getElem (by omega)⟩
  have hmu := mu_deliver hm (hmf m (List.mem_of_getElem? hm)).1
  refine Ws (Wq (V9 rfl (Vb rfl (V7 0 rfl (V5 (.pointer _) rfl (hI.c0 rfl) (Va [.pointer _] rfl func37 rfl ?_))))))
  refine (waiting_any L2.sb s1.mails.length L2.mc L2.MA _ (sp_c7 (X := (triE tb L2.sb gv q p t.b t.em :: tapeE q (.slice A len cp) t.u :: LG1)) hI)).mono (okP hI fun w1 hp hI => ?_)
  refine Tq rfl (Wn (Wc true rfl (Wk (Wb (Wr (V9 rfl (Vb rfl (V7 0 rfl (V5 (.pointer _) rfl (hI.c0 rfl) (Va [.pointer _, .int .i64 _] rfl func36 rfl ?_))))))))))
  refine (deliverM L2 s1 M2 hF.ok (by have := hF.mc; omega) (DLs (spt L2 s1)) _ (Inv.fromB (X := (triE tb L2.sb gv q p t.b t.em :: tapeE q (.slice A len cp) t.u :: LG1)) hI) 0).mono ?_
  rintro e w3 ⟨v, L3, s3, rfl, hmv, hok3, hsb3, hcut3, hJ, hex⟩
  obtain ⟨rfl, rfl⟩ := hex 0 m hF.cut rfl hm
  refine rV ?_
  have hI := Inv.callB (X := (triE tb L2.sb gv q p t.b t.em :: tapeE q (.slice A len cp) t.u :: LG1)) hI hJ
  refine Wn ?_
  have hI1 : Inv S w0 w3 (triE tb L.sb gv q p t.b t.em :: tapeE q (.slice A len cp) t.u :: (LG1 ++ spt L3 (deliverF s1 0 m))) := by rw [← hsb]; exact hI
  have hstep := mul_step (SZ := SZ) (show M2 + 1 ≤ C by omega)
  have hfu := hF.u
  dsimp only at hfu
  exact ⟨muS (deliverF s1 0 m), hmu, deliverF s1 0 m, L3, M2 + 1, rfl, ⟨hF.rep, hF.sz, hok3, hsb3.trans hsb, hcut3.trans hF.cut, hF.b40, (del_nk s1 0 m).2.trans hfk, by omega, by show t.u + (C - (M2 + 1)) * SZ + SZ ≤ _; omega, hI1⟩, fun s' h => hdel s' (.step hm h), by omega, ⟨rfl, trivial⟩⟩
 clear hI hF hC
 rintro ρ w ⟨s1, L2, M2, hF, hdel, hC, hH⟩
 obtain ⟨σ, rfl⟩ := hH.open
 have hI := hF.inv
 dsimp only at hI
 have hk8 := hF.ok.k1
 have hkk := hF.k
 dsimp only at hk8 hkk
 refine Wq (V8 rfl (Wn (Wq (V9 rfl (Vb rfl (V7 3 rfl (Tj rfl (Tf 1 rfl (V5 (.int .i64 _) rfl (hI.c0 rfl) (V0 rfl (Wn ?_)))))))))))
 refine Wb ?_
 refine Wl (fun mu ρ w => ∃ (i : Nat) (t1 : Tr) (L3 : StL) (LG3 : List Ent) (M3 : Nat) (more : Bool), mu = p.k - i ∧ i ≤ p.k ∧ FI S w0 gv q tb L.sb p A len cp SZ C t1 L3 LG3 M3 w ∧ (∀ t2 m2, RndR nums p.k i t1 more t2 m2 → RndR nums p.k 0 { t with st := s1 } false t2 m2) ∧
   M3 + muS t1.st + 60 * (40 - t1.b) + (8 - i) + 8 * more.toNat ≤ C ∧ (more = true → t.b < t1.b) ∧ t.b ≤ t1.b ∧ Has ρ [(2, .bool more), (27, .int .i64 (i : Int)), (26, .int .i64 (p.k : Int)), (0, at0 tb)]) p.k
  ⟨0, { t with st := s1 }, L2, LG1, M2, false, rfl, by omega, hF, fun _ _ h => h, by show M2 + muS s1 + 60 * (40 - t.b) + (8 - 0) + 8 * 0 ≤ C; omega, fun h => (by cases h), Nat.le_refl _, ⟨rfl, rfl, rfl, rfl, trivial⟩⟩ ?_
 clear hI hC
 rintro mu ρ w ⟨i, t1, L3, LG3, M3, more, rfl, hik, hF1, hrnd, hC, hmb, hb1, hH⟩
 obtain ⟨σ, rfl⟩ := hH.open
 have hI := hF1.inv
 have hsb := hF1.sbe
 have hn7 := hF1.ok.n1
 have hF1b := hF1.b40
 by_cases hi : i < p.k
 rotate_left
 ·obtain rfl : i = p.k := by omega
  refine Wq (Vr rfl (Wn (Ws (Wc false rfl ?_))))
  refine WE ?_
  cases more with
  | true =>
   have h1 := hmb rfl
   exact ⟨2 * (40 - t1.b) + 1, by show 2 * (40 - t1.b) + 1 < 2 * (40 - t.b) + 1; omega, t1, L3, LG3, M3, true, rfl, hF1, ⟨rfl, rfl, trivial⟩, .inl ⟨rfl, fun t' h => hfin t' (.more hdel (hrnd t1 true .done) h), by dsimp only [Bool.toNat, cond] at hC; omega⟩⟩
  | false =>
   exact ⟨2 * (40 - t1.b) + 0, by show 2 * (40 - t1.b) + 0 < 2 * (40 - t.b) + 1; omega, t1, L3, LG3, M3, false, rfl, hF1, ⟨rfl, rfl, trivial⟩, .inr ⟨rfl, hfin t1 (.last hdel (hrnd t1 false .done))⟩⟩
 refine Wq (Vt rfl (Wn (Ws (Wc true rfl (Wk ?_)))))
 rw [← hsb] at hI
 have hbeg := fun (w : World) (hI : Inv S w0 w (triE tb L3.sb gv q p t1.b t1.em :: tapeE q (.slice A len cp) t1.u :: (LG3 ++ spt L3 t1.st))) =>
  tbegin_any S D w0 w L3 gv LG3 q tb p t1 A len cp nums M3 (i : Int) hI hF1.rep hF1.ok (by have := hF1.mc; omega) hN hD (by have := hF1.u; have := hF1.sz; omega) (by omega)
 refine Wx (fun ρ w => ∃ (r : Bool) (t2 : Tr) (L4 : StL) (LG4 : List Ent), BegR nums t1 (i : Int) r t2 ∧ Rep t2.g gv LG4 ∧ SOk L4 t2.st (M3 + 1) ∧ L4.sb = L.sb ∧ L4.cut = false ∧ Has ρ [(2, .bool (r || more)), (27, .int .i64 (i : Int)), (26, .int .i64 (p.k : Int)), (0, at0 tb)] ∧
  Inv S w0 w (triE tb L.sb gv q p t2.b t2.em :: tapeE q (.slice A len cp) t2.u :: (LG4 ++ spt L4 t2.st))) ?_ ?_
 ·refine Wb (Wq (V0 rfl (Vc rfl (Wn (Wr (V9 rfl (V0 rfl (Va [.pointer _, .int .i64 _] rfl func35 rfl ?_))))))))
  refine (hbeg _ hI).mono ?_
  rintro e w4 ⟨r, t2, L4, LG4, rfl, hb, hr4, hok4, hsb4, hcut4, hI4⟩
  refine rV ?_
  rw [hsb] at hI4
  cases r with
  | true =>
   refine V6 rfl (V4 rfl (Vk rfl (V8 rfl (Wn ?_))))
   exact ⟨true, t2, L4, LG4, hb, hr4, hok4, hsb4.trans hsb, hcut4.trans hF1.cut, ⟨rfl, rfl, rfl, rfl, trivial⟩, hI4⟩
  | false =>
   refine V6 rfl (V6 rfl (Ve rfl (V8 rfl (Wn ?_))))
   exact ⟨false, t2, L4, LG4, hb, hr4, hok4, hsb4.trans hsb, hcut4.trans hF1.cut, ⟨rfl, rfl, rfl, rfl, trivial⟩, hI4⟩
 clear hI
 rintro ρ w ⟨r, t2, L4, LG4, hb, hr4, hok4, hsb4, hcut4, hH, hI⟩
 obtain ⟨σ, rfl⟩ := hH.open
 refine Wr (Vv rfl (V0 rfl (Wn ?_)))
 obtain ⟨f1, f2, f3, f4, f5, f6, f7⟩ := hb.facts
 obtain ⟨m1, m2⟩ := hb.mu hn7.2
 have hnk := hb.nk
 have hstep := mul_step (SZ := SZ) (M := M3) (C := C) (by omega)
 have hfu := hF1.u
 have hfs := hF1.sz
 refine ⟨p.k - (i + 1), by omega, i + 1, t2, L4, LG4, M3 + 1, r || more, rfl, by omega, ⟨hr4, by omega, hok4, hsb4, hcut4, f7 hF1b, hnk.2.trans hF1.k, by omega, by omega, hI⟩, fun t3 m3 h => hrnd t3 m3 (.step hi hb h), ?_, ?_, by omega, ⟨rfl, rfl, rfl, rfl, trivial⟩⟩
 ·cases r with
  | true =>
   obtain ⟨b1, b2, b3⟩ := m1 rfl
   show M3 + 1 + muS t2.st + 60 * (40 - t2.b) + (8 - (i + 1)) + 8 * 1 ≤ C
   omega
  | false =>
   obtain ⟨b1, b2⟩ := m2 rfl
   show M3 + 1 + muS t2.st + 60 * (40 - t2.b) + (8 - (i + 1)) + 8 * more.toNat ≤ C
   rw [b1, b2]
   omega
 cases r with
 | true =>
  obtain ⟨b1, b2, b3⟩ := m1 rfl
  intro _
  omega
 | false =>
  intro h
  have := hmb h
  omega
end
end Go.Proofs.YtlkobbighkiojaaGreatDoor
namespace Go.Proofs.YtlkobbighkiojaaGreatDoor
open Tryz
inductive MvS : StS → StS → Prop
 | refl (s : StS) : MvS s s
 | step {s t u : StS} : MvS s t → Mv t u → MvS s u
open Go.RowKit
abbrev Sg := Tok × Nat
def sgL (s : Sg) : List Value := [strV s.1, .int .i64 (s.2 : Int)]
theorem sgL_len (s : Sg) : (sgL s).length = 2 := rfl
theorem sg_push (l : List Sg) (e : Sg) : (l ++ [e]).flatMap sgL = l.flatMap sgL ++ sgL e := by simp
def curF (bs : List UInt8) (fr : Option Nat) (i : Nat) : Tok := match fr with
 | none => []
 | some f => (bs.drop f).take (i - f)
def flushS (bs : List UInt8) (out : List Sg) (fr : Option Nat) (i : Nat) : List Sg := match fr with
 | none => out
 | some f => out ++ [((bs.drop f).take (i - f), f)]
def frV (fr : Option Nat) : Int := match fr with
 | none => -1
 | some f => (f : Int)
structure SgOk (bs : List UInt8) (i : Nat) (out : List Sg) (fr : Option Nat) : Prop where
 eq : out.map (·.1) ++ tg (curF bs fr i) (bs.drop i) = toks bs
 lt : ∀ f, fr = some f → f < i ∧ f < bs.length
 fin : bs.length < i → fr = none
 len : out.length ≤ 2 * i
section
variable {bs : List UInt8} {i : Nat} {out : List Sg} {fr : Option Nat}
theorem SgOk.start : SgOk bs 0 [] none := ⟨by simp [curF, toks], by simp, fun _ => rfl, by simp⟩
theorem curF_ne (h : SgOk bs i out fr) {f : Nat} (hf : fr = some f) : curF bs fr i ≠ [] := by
 have := h.lt f hf
 subst hf
 intro hc
 have hl := congrArg List.length hc
 simp only [curF, List.length_take, List.length_drop, List.length_nil] at hl
 omega
theorem flush_map (h : SgOk bs i out fr) : (flushS bs out fr i).map (·.1) = out.map (·.1) ++ flushT (curF bs fr i) := by
 cases fr with
 | none => simp [flushS, curF, flushT]
 | some f =>
  have := curF_ne h rfl
  simp only [flushT, if_neg this]
  simp [flushS, curF]
theorem flush_len : (flushS bs out fr i).length ≤ out.length + 1 := by cases fr <;> simp [flushS]
theorem SgOk.single (h : SgOk bs i out fr) {c : UInt8} (hc : bs[i]? = some c) (hs : singleB c = true) : SgOk bs (i + 1) (flushS bs out fr i ++ [([c], i)]) none := by
 obtain ⟨hi, hce⟩ := List.getElem?_eq_some_iff.1 hc
 have he := h.eq
 rw [List.drop_eq_getElem_cons hi, hce, tg, if_pos hs] at he
 refine ⟨?_, by simp, fun _ => rfl, ?_⟩
 ·rw [List.map_append, flush_map h, ← he]
  simp [curF]
 have := flush_len (bs := bs) (i := i) (out := out) (fr := fr)
 have := h.len
 simp only [List.length_append, List.length_singleton]; omega
theorem SgOk.space (h : SgOk bs i out fr) {c : UInt8} (hc : bs[i]? = some c) (hs : singleB c = false) (h32 : c = 32) : SgOk bs (i + 1) (flushS bs out fr i) none := by
 obtain ⟨hi, hce⟩ := List.getElem?_eq_some_iff.1 hc
 have he := h.eq
 rw [List.drop_eq_getElem_cons hi, hce, tg, hs, if_neg (by simp), if_pos h32] at he
 refine ⟨?_, by simp, fun _ => rfl, ?_⟩
 ·rw [flush_map h, ← he]
  simp [curF]
 have := flush_len (bs := bs) (i := i) (out := out) (fr := fr)
 have := h.len
 omega
theorem SgOk.word (h : SgOk bs i out fr) {c : UInt8} (hc : bs[i]? = some c) (hs : singleB c = false) (h32 : c ≠ 32) : SgOk bs (i + 1) out (some (fr.getD i)) := by
 obtain ⟨hi, hce⟩ := List.getElem?_eq_some_iff.1 hc
 have he := h.eq
 rw [List.drop_eq_getElem_cons hi, hce, tg, hs, if_neg (by simp), if_neg h32] at he
 refine ⟨?_, fun f hf => ?_, fun hl => by omega, by have := h.len; omega⟩
 ·have e : curF bs (some (fr.getD i)) (i + 1) = curF bs fr i ++ [c] := by
   cases fr with
   | none =>
    simp only [curF, Option.getD_none, List.nil_append]
    rw [List.drop_eq_getElem_cons hi, hce, show i + 1 - i = 1 by omega]
    rfl
   | some f =>
    have hf := h.lt f rfl
    simp only [curF, Option.getD_some]
    rw [show i + 1 - f = (i - f) + 1 by omega, List.take_add_one, List.getElem?_drop, show f + (i - f) = i by omega, hc]
    rfl
  rw [e]
  exact he
 cases hf
 cases fr with
 | none => simp only [Option.getD_none]; omega
 | some f => have := h.lt f rfl; simp only [Option.getD_some]; omega
theorem SgOk.last (h : SgOk bs bs.length out fr) : SgOk bs (bs.length + 1) (flushS bs out fr bs.length) none := by
 have he := h.eq
 rw [List.drop_of_length_le (Nat.le_refl _), tg] at he
 refine ⟨?_, by simp, fun _ => rfl, ?_⟩
 ·rw [flush_map h, ← he]
  simp [curF, tg, flushT, List.drop_of_length_le]
 have := flush_len (bs := bs) (i := bs.length) (out := out) (fr := fr)
 have := h.len
 omega
theorem SgOk.end_ (h : SgOk bs (bs.length + 1) out fr) : out.map (·.1) = toks bs := by
 have he := h.eq
 have := h.fin (by omega)
 subst this
 rw [List.drop_of_length_le (by omega)] at he
 simpa [curF, tg, flushT] using he
end
theorem single_of (c : UInt8) : singleB c = true ↔ c.toNat = 40 ∨ c.toNat = 41 ∨ c.toNat = 44 := by
 unfold singleB
 simp only [Bool.or_eq_true, beq_iff_eq, ← UInt8.toNat_inj, or_assoc]
 rfl
theorem signs_any (bs : List UInt8) (w0 : World) (hl : bs.length ≤ 100000) :
  Cq 31 #[strV bs] w0 fun e w' => ∃ (A : Option Addr) (c : Nat) (out : List Sg), e = .returned (.slice A out.length c) ∧ out.map (·.1) = toks bs ++ [[]] ∧ Inv NF w0 w' [Row 0 167 2 A out.length c (out.flatMap sgL)] := by
 have hI := Inv.start (fun _ => False) w0
 refine Vn func31 rfl ?_
 refine Wq (Vo rfl (Wn (Wq (Vo rfl (Wn (Wq (Vc rfl (Wn (Ws (Ws ?_))))))))))
 refine Wr (Vc rfl (Wn (Wb ?_)))
 have hI0 := hI.fresh (Pure.refl w0) (Row.nil w0 0 167 2) (fun k hk => by simp [Row] at hk)
 refine Wl (fun mu ρ w => ∃ (i : Nat) (out : List Sg) (fr : Option Nat) (A : Option Addr) (c : Nat), mu = bs.length + 1 - i ∧ i ≤ bs.length + 1 ∧ SgOk bs i out fr ∧ Has ρ [(0, strV bs), (3, .slice A out.length c), (4, .int .i64 (frV fr)), (5, .int .i64 (i : Int))] ∧
   Inv NF w0 w [Row 0 167 2 A out.length c (out.flatMap sgL)]) (bs.length + 1)
  ⟨0, [], none, none, 0, rfl, Nat.zero_le _, .start, ⟨rfl, rfl, rfl, rfl, trivial⟩, hI0⟩ ?_
 clear hI0 hI
 rintro mu ρ w ⟨i, out, fr, A, c, rfl, hi, hS, hH, hI⟩
 obtain ⟨σ, rfl⟩ := hH.open
 have hol := hS.len
 by_cases hle : i ≤ bs.length
 rotate_left
 ·obtain rfl : i = bs.length + 1 := by omega
  refine Ws (Wq (V0 rfl (Vh rfl (T0 rfl yy9 rfl ?_))))
  refine Wv rfl (by exact rLeqF rfl rfl rfl (by omega)) ?_
  refine Wn (Wc false rfl ?_)
  refine WE ?_
  refine Wq (Vi rfl (Vh rfl (T0 rfl yy9 rfl (Td [(0, .string ⟨#[]⟩), (1, .int .i64 _)] [.string ⟨#[]⟩, .int .i64 _] rfl [.string ⟨#[]⟩, .int .i64 0] [0, 1] rfl (fun _ => by kernel_rfl) (T3 [(0, .agg #[_, _])] [_, _] [.string ⟨#[]⟩, .int .i64 0] [0] hI rfl yy100 (fun _ => by kernel_rfl) ?_)))))
  rintro b88 w - - hI
  refine Tx 24 (.agg #[.string ⟨#[]⟩, .int .i64 0]) hI rfl yy100 rfl (by rfl) hI.lit0 (by rfl) (Nat.zero_le _) ?_
  rintro A89 c89 w hA89 hc89 hI
  have hI := hI.d0
  refine Vo rfl (Wn ?_)
  refine WR ?_
  have e1 : (out ++ [(([] : Tok), bs.length)]).length = out.length + 1 := by simp
  refine r1_ 2 rfl ⟨A89, c89, out ++ [([], bs.length)], by rw [e1]; rfl, by rw [List.map_append, hS.end_]; rfl, ?_⟩
  rw [sg_push, e1]
  exact hI
 refine Ws (Wq (V0 rfl (Vh rfl (T0 rfl yy9 rfl (Up rfl (Wn (Wc true rfl (Wk (Ws (Wb ?_))))))))))
 rcases Nat.lt_or_ge i bs.length with hil | hge
 rotate_left
 ·obtain rfl : i = bs.length := by omega
  refine Wq (V0 rfl (Vh rfl (T0 rfl yy9 rfl (Vr rfl (V6 rfl (V4 rfl (V4 rfl (V4 rfl (V4 rfl (V4 rfl (V4 rfl (V4 rfl ?_))))))))))))
  refine V4 rfl (V4 rfl (V4 rfl (V4 rfl (V4 rfl (V4 rfl (V4 rfl (V4 rfl (V4 rfl (Ve rfl (V8 rfl (Wn (Ws (Wr ?_)))))))))))))
  refine V0 rfl (Vh rfl (T0 rfl yy9 rfl (Vr rfl (V6 rfl (V4 rfl (V4 rfl (Ve rfl (V6 rfl (V4 rfl (V4 rfl (V4 rfl (V4 rfl (Ve rfl ?_)))))))))))))
  refine V8 rfl (Wn ?_)
  refine Wx (fun ρ w => ∃ A c, Has ρ [(0, strV bs), (3, .slice A (flushS bs out fr bs.length).length c), (4, .int .i64 (-1)), (5, .int .i64 (bs.length : Int)), (6, .bool false), (7, .bool false)] ∧ Inv NF w0 w [Row 0 167 2 A (flushS bs out fr bs.length).length c ((flushS bs out fr bs.length).flatMap sgL)]) ?_ ?_
  ·cases fr with
   | none =>
    refine Wq (V0 rfl (Uk rfl (V6 rfl (V4 rfl (V4 rfl (Ve rfl (Wn (Wc false rfl (Wk ?_)))))))))
    exact ⟨A, c, ⟨rfl, rfl, rfl, rfl, rfl, rfl, trivial⟩, hI⟩
   | some f =>
    have hf := hS.lt f rfl
    refine Wq (V0 rfl (Uk rfl (V6 rfl (V6 rfl (Ti rfl (Vk rfl (Wn (Wc true rfl (Wq (Vi rfl (Vh rfl ?_)))))))))))
    refine V0 rfl (V0 rfl ?_)
    refine Wv rfl (rStrSl rfl yy9 rfl rfl rfl (by omega) (by omega)) ?_
    refine V0 rfl (Td [(0, .string _), (1, .int .i64 _)] [_, _] rfl [.string ⟨#[]⟩, .int .i64 0] [0, 1] rfl (fun _ => by kernel_rfl) (T3 [(0, .agg #[_, _])] [_, _] [.string ⟨#[]⟩, .int .i64 0] [0] hI rfl yy100 (fun _ => by kernel_rfl) ?_))
    rintro b63 w - - hI
    refine Tx 24 (.agg #[.string ⟨#[]⟩, .int .i64 0]) hI rfl yy100 rfl (by rfl) hI.lit0 (by rfl) (Nat.zero_le _) ?_
    rintro A64 c64 w hA64 hc64 hI
    have hI := hI.d0
    refine Vo rfl (Wn (Wr (Vc rfl (Wn ?_))))
    have e1 : (flushS bs out (some f) bs.length).length = out.length + 1 := by simp [flushS]
    refine ⟨A64, c64, ⟨rfl, by rw [e1]; rfl, rfl, rfl, rfl, rfl, trivial⟩, ?_⟩
    rw [e1]
    simp only [flushS, sg_push]
    exact hI
  have hfl := flush_len (bs := bs) (i := bs.length) (out := out) (fr := fr)
  clear hI
  rintro ρ w ⟨A, c, hH, hI⟩
  obtain ⟨σ, rfl⟩ := hH.open
  refine Wb (Wq (V6 rfl (V8 rfl (Wn (Wc false rfl (Wq (V6 rfl (V6 rfl (V4 rfl (V4 rfl (Ve rfl ?_)))))))))))
  refine V8 rfl (Wn (Wc false rfl (Wk (Wr (V0 rfl (Vv rfl (Vc rfl (Wn ?_))))))))
  exact ⟨0, by omega, bs.length + 1, _, none, A, c, by omega, by omega, hS.last, ⟨rfl, rfl, rfl, rfl, trivial⟩, hI⟩
 obtain ⟨ch, hch⟩ : ∃ ch, bs[i]? = some ch := ⟨bs[i], List.getElem?_eq_getElem hil⟩
 cases hs : singleB ch with
 | true =>
  have hs' := (single_of ch).1 hs
  rcases hs' with h40 | h41 | h44
  ·refine Wq (V0 rfl (Vh rfl (T0 rfl yy9 rfl (Vt rfl (V6 rfl (Vh rfl (V0 rfl (Ua rfl yy9 rfl ?_))))))))
   refine T5 rfl (V6 rfl (V4 rfl (V4 rfl (V4 rfl (V4 rfl (Vk rfl (V6 rfl (V4 rfl (V4 rfl (V4 rfl (V4 rfl (Vk rfl (Vk rfl ?_)))))))))))))
   refine V8 rfl (Wn (Wq (V0 rfl (Vh rfl (T0 rfl yy9 rfl (Vt rfl (V6 rfl (V6 rfl (T9 rfl (Vk rfl (V6 rfl (V4 rfl ?_))))))))))))
   refine V4 rfl (V4 rfl (V4 rfl (Ve rfl (V8 rfl (Wn ?_)))))
   refine Wx (fun ρ w => ∃ A c, Has ρ [(0, strV bs), (3, .slice A (flushS bs out fr i).length c), (4, .int .i64 (-1)), (5, .int .i64 (i : Int)), (6, .bool true), (7, .bool false)] ∧ Inv NF w0 w [Row 0 167 2 A (flushS bs out fr i).length c ((flushS bs out fr i).flatMap sgL)]) ?_ ?_
   ·cases fr with
    | none =>
     refine Wq (V0 rfl (Uk rfl (V6 rfl (V4 rfl (V4 rfl (Ve rfl (Wn (Wc false rfl (Wk ?_)))))))))
     exact ⟨A, c, ⟨rfl, rfl, rfl, rfl, rfl, rfl, trivial⟩, hI⟩
    | some f =>
     have hf := hS.lt f rfl
     refine Wq (V0 rfl (Uk rfl (V6 rfl (V6 rfl (Ti rfl (Vk rfl (Wn (Wc true rfl (Wq (Vi rfl (Vh rfl ?_)))))))))))
     refine V0 rfl (V0 rfl ?_)
     refine Wv rfl (rStrSl rfl yy9 rfl rfl rfl (by omega) (by omega)) ?_
     refine V0 rfl (Td [(0, .string _), (1, .int .i64 _)] [_, _] rfl [.string ⟨#[]⟩, .int .i64 0] [0, 1] rfl (fun _ => by kernel_rfl) (T3 [(0, .agg #[_, _])] [_, _] [.string ⟨#[]⟩, .int .i64 0] [0] hI rfl yy100 (fun _ => by kernel_rfl) ?_))
     rintro b63 w - - hI
     refine Tx 24 (.agg #[.string ⟨#[]⟩, .int .i64 0]) hI rfl yy100 rfl (by rfl) hI.lit0 (by rfl) (Nat.zero_le _) ?_
     rintro A64 c64 w hA64 hc64 hI
     have hI := hI.d0
     refine Vo rfl (Wn (Wr (Vc rfl (Wn ?_))))
     have e1 : (flushS bs out (some f) i).length = out.length + 1 := by simp [flushS]
     refine ⟨A64, c64, ⟨rfl, by rw [e1]; rfl, rfl, rfl, rfl, rfl, trivial⟩, ?_⟩
     rw [e1]
     simp only [flushS, sg_push]
     exact hI
   have hfl := flush_len (bs := bs) (i := i) (out := out) (fr := fr)
   clear hI
   rintro ρ w ⟨A, c, hH, hI⟩
   obtain ⟨σ, rfl⟩ := hH.open
   refine Wb (Wq (V6 rfl (V8 rfl (Wn (Wc true rfl (Wr (Vi rfl (Vh rfl (V0 rfl (V0 rfl (Vv rfl ?_)))))))))))
   refine Wv rfl (rStrSl (a := i) (b := i + 1) rfl yy9 rfl rfl rfl (by omega) (by omega)) ?_
   refine V0 rfl (Td [(0, .string _), (1, .int .i64 _)] [_, _] rfl [.string ⟨#[]⟩, .int .i64 0] [0, 1] rfl (fun _ => by kernel_rfl) (T3 [(0, .agg #[_, _])] [_, _] [.string ⟨#[]⟩, .int .i64 0] [0] hI rfl yy100 (fun _ => by kernel_rfl) ?_))
   rintro b75 w - - hI
   refine Tx 24 (.agg #[.string ⟨#[]⟩, .int .i64 0]) hI rfl yy100 rfl (by rfl) hI.lit0 (by rfl) (Nat.zero_le _) ?_
   rintro A76 c76 w hA76 hc76 hI
   have hI := hI.d0
   refine Vo rfl (Wn (Wr (V0 rfl (Vv rfl (Vc rfl (Wn ?_))))))
   have e1 : (flushS bs out fr i ++ [([ch], i)]).length = (flushS bs out fr i).length + 1 := by simp
   have e2 : (bs.drop i).take (i + 1 - i) = [ch] := by
    obtain ⟨h1, h2⟩ := List.getElem?_eq_some_iff.1 hch
    rw [List.drop_eq_getElem_cons h1, h2, show i + 1 - i = 1 by omega]; rfl
   rw [e2] at hI
   refine ⟨bs.length + 1 - (i + 1), by omega, i + 1, _, none, A76, c76, rfl, by omega, hS.single hch hs, ⟨rfl, by rw [e1]; rfl, rfl, rfl, trivial⟩, ?_⟩
   rw [e1, sg_push]
   exact hI
  ·refine Wq (V0 rfl (Vh rfl (T0 rfl yy9 rfl (Vt rfl (V6 rfl (Vh rfl (V0 rfl (Ua rfl yy9 rfl ?_))))))))
   refine Vw rfl (V6 rfl (Vh rfl (V0 rfl (Ua rfl yy9 rfl ?_))))
   refine T5 rfl (Ve rfl (V6 rfl (V4 rfl (V4 rfl (V4 rfl (V4 rfl (Vk rfl (Vk rfl (V8 rfl (Wn (Wq (V0 rfl ?_))))))))))))
   refine Vh rfl (T0 rfl yy9 rfl (Vt rfl (V6 rfl (V6 rfl (T9 rfl (Vk rfl (V6 rfl (V4 rfl (V4 rfl (V4 rfl (V4 rfl (Ve rfl (V8 rfl ?_)))))))))))))
   refine Wn ?_
   refine Wx (fun ρ w => ∃ A c, Has ρ [(0, strV bs), (3, .slice A (flushS bs out fr i).length c), (4, .int .i64 (-1)), (5, .int .i64 (i : Int)), (6, .bool true), (7, .bool false)] ∧ Inv NF w0 w [Row 0 167 2 A (flushS bs out fr i).length c ((flushS bs out fr i).flatMap sgL)]) ?_ ?_
   ·cases fr with
    | none =>
     refine Wq (V0 rfl (Uk rfl (V6 rfl (V4 rfl (V4 rfl (Ve rfl (Wn (Wc false rfl (Wk ?_)))))))))
     exact ⟨A, c, ⟨rfl, rfl, rfl, rfl, rfl, rfl, trivial⟩, hI⟩
    | some f =>
     have hf := hS.lt f rfl
     refine Wq (V0 rfl (Uk rfl (V6 rfl (V6 rfl (Ti rfl (Vk rfl (Wn (Wc true rfl (Wq (Vi rfl (Vh rfl ?_)))))))))))
     refine V0 rfl (V0 rfl ?_)
     refine Wv rfl (rStrSl rfl yy9 rfl rfl rfl (by omega) (by omega)) ?_
     refine V0 rfl (Td [(0, .string _), (1, .int .i64 _)] [_, _] rfl [.string ⟨#[]⟩, .int .i64 0] [0, 1] rfl (fun _ => by kernel_rfl) (T3 [(0, .agg #[_, _])] [_, _] [.string ⟨#[]⟩, .int .i64 0] [0] hI rfl yy100 (fun _ => by kernel_rfl) ?_))
     rintro b63 w - - hI
     refine Tx 24 (.agg #[.string ⟨#[]⟩, .int .i64 0]) hI rfl yy100 rfl (by rfl) hI.lit0 (by rfl) (Nat.zero_le _) ?_
     rintro A64 c64 w hA64 hc64 hI
     have hI := hI.d0
     refine Vo rfl (Wn (Wr (Vc rfl (Wn ?_))))
     have e1 : (flushS bs out (some f) i).length = out.length + 1 := by simp [flushS]
     refine ⟨A64, c64, ⟨rfl, by rw [e1]; rfl, rfl, rfl, rfl, rfl, trivial⟩, ?_⟩
     rw [e1]
     simp only [flushS, sg_push]
     exact hI
   have hfl := flush_len (bs := bs) (i := i) (out := out) (fr := fr)
   clear hI
   rintro ρ w ⟨A, c, hH, hI⟩
   obtain ⟨σ, rfl⟩ := hH.open
   refine Wb (Wq (V6 rfl (V8 rfl (Wn (Wc true rfl (Wr (Vi rfl (Vh rfl (V0 rfl (V0 rfl (Vv rfl ?_)))))))))))
   refine Wv rfl (rStrSl (a := i) (b := i + 1) rfl yy9 rfl rfl rfl (by omega) (by omega)) ?_
   refine V0 rfl (Td [(0, .string _), (1, .int .i64 _)] [_, _] rfl [.string ⟨#[]⟩, .int .i64 0] [0, 1] rfl (fun _ => by kernel_rfl) (T3 [(0, .agg #[_, _])] [_, _] [.string ⟨#[]⟩, .int .i64 0] [0] hI rfl yy100 (fun _ => by kernel_rfl) ?_))
   rintro b75 w - - hI
   refine Tx 24 (.agg #[.string ⟨#[]⟩, .int .i64 0]) hI rfl yy100 rfl (by rfl) hI.lit0 (by rfl) (Nat.zero_le _) ?_
   rintro A76 c76 w hA76 hc76 hI
   have hI := hI.d0
   refine Vo rfl (Wn (Wr (V0 rfl (Vv rfl (Vc rfl (Wn ?_))))))
   have e1 : (flushS bs out fr i ++ [([ch], i)]).length = (flushS bs out fr i).length + 1 := by simp
   have e2 : (bs.drop i).take (i + 1 - i) = [ch] := by
    obtain ⟨h1, h2⟩ := List.getElem?_eq_some_iff.1 hch
    rw [List.drop_eq_getElem_cons h1, h2, show i + 1 - i = 1 by omega]; rfl
   rw [e2] at hI
   refine ⟨bs.length + 1 - (i + 1), by omega, i + 1, _, none, A76, c76, rfl, by omega, hS.single hch hs, ⟨rfl, by rw [e1]; rfl, rfl, rfl, trivial⟩, ?_⟩
   rw [e1, sg_push]
   exact hI
  refine Wq (V0 rfl (Vh rfl (T0 rfl yy9 rfl (Vt rfl (V6 rfl (Vh rfl (V0 rfl (Ua rfl yy9 rfl ?_))))))))
  refine Vw rfl (V6 rfl (Vh rfl (V0 rfl (Ua rfl yy9 rfl ?_))))
  refine Vw rfl (Ve rfl (V6 rfl (Vh rfl (V0 rfl (Ua rfl yy9 rfl ?_)))))
  refine T5 rfl (Ve rfl (Vk rfl (V8 rfl (Wn (Wq (V0 rfl (Vh rfl (T0 rfl yy9 rfl (Vt rfl (V6 rfl (V6 rfl (T9 rfl ?_))))))))))))
  refine Vk rfl (V6 rfl (V4 rfl (V4 rfl (V4 rfl (V4 rfl (Ve rfl (V8 rfl (Wn ?_))))))))
  refine Wx (fun ρ w => ∃ A c, Has ρ [(0, strV bs), (3, .slice A (flushS bs out fr i).length c), (4, .int .i64 (-1)), (5, .int .i64 (i : Int)), (6, .bool true), (7, .bool false)] ∧ Inv NF w0 w [Row 0 167 2 A (flushS bs out fr i).length c ((flushS bs out fr i).flatMap sgL)]) ?_ ?_
  ·cases fr with
   | none =>
    refine Wq (V0 rfl (Uk rfl (V6 rfl (V4 rfl (V4 rfl (Ve rfl (Wn (Wc false rfl (Wk ?_)))))))))
    exact ⟨A, c, ⟨rfl, rfl, rfl, rfl, rfl, rfl, trivial⟩, hI⟩
   | some f =>
    have hf := hS.lt f rfl
    refine Wq (V0 rfl (Uk rfl (V6 rfl (V6 rfl (Ti rfl (Vk rfl (Wn (Wc true rfl (Wq (Vi rfl (Vh rfl ?_)))))))))))
    refine V0 rfl (V0 rfl ?_)
    refine Wv rfl (rStrSl rfl yy9 rfl rfl rfl (by omega) (by omega)) ?_
    refine V0 rfl (Td [(0, .string _), (1, .int .i64 _)] [_, _] rfl [.string ⟨#[]⟩, .int .i64 0] [0, 1] rfl (fun _ => by kernel_rfl) (T3 [(0, .agg #[_, _])] [_, _] [.string ⟨#[]⟩, .int .i64 0] [0] hI rfl yy100 (fun _ => by kernel_rfl) ?_))
    rintro b63 w - - hI
    refine Tx 24 (.agg #[.string ⟨#[]⟩, .int .i64 0]) hI rfl yy100 rfl (by rfl) hI.lit0 (by rfl) (Nat.zero_le _) ?_
    rintro A64 c64 w hA64 hc64 hI
    have hI := hI.d0
    refine Vo rfl (Wn (Wr (Vc rfl (Wn ?_))))
    have e1 : (flushS bs out (some f) i).length = out.length + 1 := by simp [flushS]
    refine ⟨A64, c64, ⟨rfl, by rw [e1]; rfl, rfl, rfl, rfl, rfl, trivial⟩, ?_⟩
    rw [e1]
    simp only [flushS, sg_push]
    exact hI
  have hfl := flush_len (bs := bs) (i := i) (out := out) (fr := fr)
  clear hI
  rintro ρ w ⟨A, c, hH, hI⟩
  obtain ⟨σ, rfl⟩ := hH.open
  refine Wb (Wq (V6 rfl (V8 rfl (Wn (Wc true rfl (Wr (Vi rfl (Vh rfl (V0 rfl (V0 rfl (Vv rfl ?_)))))))))))
  refine Wv rfl (rStrSl (a := i) (b := i + 1) rfl yy9 rfl rfl rfl (by omega) (by omega)) ?_
  refine V0 rfl (Td [(0, .string _), (1, .int .i64 _)] [_, _] rfl [.string ⟨#[]⟩, .int .i64 0] [0, 1] rfl (fun _ => by kernel_rfl) (T3 [(0, .agg #[_, _])] [_, _] [.string ⟨#[]⟩, .int .i64 0] [0] hI rfl yy100 (fun _ => by kernel_rfl) ?_))
  rintro b75 w - - hI
  refine Tx 24 (.agg #[.string ⟨#[]⟩, .int .i64 0]) hI rfl yy100 rfl (by rfl) hI.lit0 (by rfl) (Nat.zero_le _) ?_
  rintro A76 c76 w hA76 hc76 hI
  have hI := hI.d0
  refine Vo rfl (Wn (Wr (V0 rfl (Vv rfl (Vc rfl (Wn ?_))))))
  have e1 : (flushS bs out fr i ++ [([ch], i)]).length = (flushS bs out fr i).length + 1 := by simp
  have e2 : (bs.drop i).take (i + 1 - i) = [ch] := by
   obtain ⟨h1, h2⟩ := List.getElem?_eq_some_iff.1 hch
   rw [List.drop_eq_getElem_cons h1, h2, show i + 1 - i = 1 by omega]; rfl
  rw [e2] at hI
  refine ⟨bs.length + 1 - (i + 1), by omega, i + 1, _, none, A76, c76, rfl, by omega, hS.single hch hs, ⟨rfl, by rw [e1]; rfl, rfl, rfl, trivial⟩, ?_⟩
  rw [e1, sg_push]
  exact hI
 | false =>
  have hs' : ¬ (ch.toNat = 40 ∨ ch.toNat = 41 ∨ ch.toNat = 44) := fun h => by
   rw [← single_of, hs] at h
   cases h
  by_cases h32 : ch = 32
  ·have h32' : ch.toNat = 32 := by rw [h32]; rfl
   refine Wq (V0 rfl (Vh rfl (T0 rfl yy9 rfl (Vt rfl (V6 rfl (Vh rfl (V0 rfl (Ua rfl yy9 rfl ?_))))))))
   refine Vw rfl (V6 rfl (Vh rfl (V0 rfl (Ua rfl yy9 rfl ?_))))
   refine Vw rfl (Ve rfl (V6 rfl (Vh rfl (V0 rfl (Ua rfl yy9 rfl ?_)))))
   refine Vw rfl (Ve rfl (Vk rfl (V8 rfl (Wn (Wq (V0 rfl (Vh rfl (T0 rfl yy9 rfl (Vt rfl (V6 rfl (V6 rfl (Ti rfl ?_))))))))))))
   refine Vk rfl (V6 rfl (Vh rfl (V0 rfl (Ua rfl yy9 rfl ?_))))
   refine U2 rfl (Vk rfl (V8 rfl (Wn ?_)))
   refine Wx (fun ρ w => ∃ A c, Has ρ [(0, strV bs), (3, .slice A (flushS bs out fr i).length c), (4, .int .i64 (-1)), (5, .int .i64 (i : Int)), (6, .bool false), (7, .bool false)] ∧ Inv NF w0 w [Row 0 167 2 A (flushS bs out fr i).length c ((flushS bs out fr i).flatMap sgL)]) ?_ ?_
   ·cases fr with
    | none =>
     refine Wq (V0 rfl (Uk rfl (V6 rfl (V4 rfl (V4 rfl (Ve rfl (Wn (Wc false rfl (Wk ?_)))))))))
     exact ⟨A, c, ⟨rfl, rfl, rfl, rfl, rfl, rfl, trivial⟩, hI⟩
    | some f =>
     have hf := hS.lt f rfl
     refine Wq (V0 rfl (Uk rfl (V6 rfl (V6 rfl (Ti rfl (Vk rfl (Wn (Wc true rfl (Wq (Vi rfl (Vh rfl ?_)))))))))))
     refine V0 rfl (V0 rfl ?_)
     refine Wv rfl (rStrSl rfl yy9 rfl rfl rfl (by omega) (by omega)) ?_
     refine V0 rfl (Td [(0, .string _), (1, .int .i64 _)] [_, _] rfl [.string ⟨#[]⟩, .int .i64 0] [0, 1] rfl (fun _ => by kernel_rfl) (T3 [(0, .agg #[_, _])] [_, _] [.string ⟨#[]⟩, .int .i64 0] [0] hI rfl yy100 (fun _ => by kernel_rfl) ?_))
     rintro b63 w - - hI
     refine Tx 24 (.agg #[.string ⟨#[]⟩, .int .i64 0]) hI rfl yy100 rfl (by rfl) hI.lit0 (by rfl) (Nat.zero_le _) ?_
     rintro A64 c64 w hA64 hc64 hI
     have hI := hI.d0
     refine Vo rfl (Wn (Wr (Vc rfl (Wn ?_))))
     have e1 : (flushS bs out (some f) i).length = out.length + 1 := by simp [flushS]
     refine ⟨A64, c64, ⟨rfl, by rw [e1]; rfl, rfl, rfl, rfl, rfl, trivial⟩, ?_⟩
     rw [e1]
     simp only [flushS, sg_push]
     exact hI
   have hfl := flush_len (bs := bs) (i := i) (out := out) (fr := fr)
   clear hI
   rintro ρ w ⟨A, c, hH, hI⟩
   obtain ⟨σ, rfl⟩ := hH.open
   refine Wb (Wq (V6 rfl (V8 rfl (Wn (Wc false rfl (Wq (V6 rfl (V6 rfl (V4 rfl (V4 rfl (Ve rfl ?_)))))))))))
   refine V8 rfl (Wn (Wc false rfl (Wk (Wr (V0 rfl (Vv rfl (Vc rfl (Wn ?_))))))))
   exact ⟨bs.length + 1 - (i + 1), by omega, i + 1, _, none, A, c, rfl, by omega, hS.space hch hs h32, ⟨rfl, rfl, rfl, rfl, trivial⟩, hI⟩
  have h32' : ch.toNat ≠ 32 := fun h => h32 (UInt8.toNat_inj.1 (by rw [h]; rfl))
  refine Wq (V0 rfl (Vh rfl (T0 rfl yy9 rfl (Vt rfl (V6 rfl (Vh rfl (V0 rfl (Ua rfl yy9 rfl ?_))))))))
  refine Vw rfl (V6 rfl (Vh rfl (V0 rfl (Ua rfl yy9 rfl ?_))))
  refine Vw rfl (Ve rfl (V6 rfl (Vh rfl (V0 rfl (Ua rfl yy9 rfl ?_)))))
  refine Vw rfl (Ve rfl (Vk rfl (V8 rfl (Wn (Wq (V0 rfl (Vh rfl (T0 rfl yy9 rfl (Vt rfl (V6 rfl (V6 rfl (Ti rfl ?_))))))))))))
  refine Vk rfl (V6 rfl (Vh rfl (V0 rfl (Ua rfl yy9 rfl ?_))))
  refine U1 rfl (Vk rfl (V8 rfl (Wn ?_)))
  cases fr with
  | none =>
   refine Ws (Wq (V0 rfl (Uk rfl (V6 rfl (V4 rfl (V4 rfl (Ve rfl (Wn (Wc false rfl (Wk (Wb (Ws ?_))))))))))))
   refine Wr (V6 rfl (V8 rfl (Wn (Wc false rfl (Wq (V6 rfl (V6 rfl (V0 rfl ?_))))))))
   refine Wv rfl (by exact rLss rfl rfl rfl) ?_
   refine Vk rfl (V8 rfl (Wn (Wc true rfl (Wr (V0 rfl (Vc rfl (Wn (Wr (V0 rfl (Vv rfl (Vc rfl (Wn ?_))))))))))))
   exact ⟨bs.length + 1 - (i + 1), by omega, i + 1, _, some i, A, c, rfl, by omega, hS.word hch hs h32, ⟨rfl, rfl, rfl, rfl, trivial⟩, hI⟩
  | some f =>
   refine Ws (Wq (V0 rfl (Uk rfl (V6 rfl (V6 rfl (T9 rfl (Vk rfl (Wn (Wc false rfl (Wk (Wb (Ws ?_))))))))))))
   refine Wr (V6 rfl (V8 rfl (Wn (Wc false rfl (Wq (V6 rfl (V6 rfl (V0 rfl ?_))))))))
   refine Wv rfl (by exact rLss rfl rfl rfl) ?_
   refine Vk rfl (V8 rfl (Wn (Wc false rfl (Wk (Wr (V0 rfl (Vv rfl (Vc rfl (Wn ?_)))))))))
   exact ⟨bs.length + 1 - (i + 1), by omega, i + 1, _, some f, A, c, rfl, by omega, hS.word hch hs h32, ⟨rfl, rfl, rfl, rfl, trivial⟩, hI⟩
def sgE (g : Nat) (sgs : List Sg) : Ent := ⟨fun k => k = g, fun w => ∃ (T : TypeId) (cur : Array Value), Blk w g T cur ∧ ∀ (j : Nat) (u : Value), (sgs.flatMap sgL)[j]? = some u → cur[j]? = some u⟩
def parE (p g : Nat) (sgs : List Sg) (c i : Nat) : Ent := B p 103 #[.slice (some ⟨g, i * 2, none⟩) (sgs.length - i) (c - i)]
structure Ptx (T : List Tok) (sgs : List Sg) (c : Nat) : Prop where
 hs : sgs.map (·.1) = T ++ [[]]
 ne : ∀ t ∈ T, t ≠ []
 nc : sgs.length ≤ c
 c63 : c ≤ 9223372036854775807
 tl : T.length ≤ 100000
 tk : ∀ t ∈ T, t.length ≤ 1000000
section
variable {T : List Tok} {sgs : List Sg} {c i p g : Nat} {S : Nat → Prop} {w0 w : World} {H : List Ent}
theorem Ptx.len (h : Ptx T sgs c) : sgs.length = T.length + 1 := by
 have := congrArg List.length h.hs
 simpa using this
theorem Ptx.at_ (h : Ptx T sgs c) (hi : i ≤ T.length) : ∃ n, sgs[i]? = some (headT (T.drop i), n) := by
 have hl : i < sgs.length := by rw [h.len]; omega
 refine ⟨sgs[i].2, ?_⟩
 rw [List.getElem?_eq_getElem hl]
 congr 1
 have h1 : (sgs.map (·.1))[i]? = some sgs[i].1 := by rw [List.getElem?_map, List.getElem?_eq_getElem hl]; rfl
 rw [h.hs] at h1
 refine Prod.ext ?_ rfl
 show sgs[i].1 = headT (T.drop i)
 rcases Nat.lt_or_ge i T.length with h2 | h2
 ·rw [List.getElem?_append_left h2, List.getElem?_eq_getElem h2] at h1
  rw [List.drop_eq_getElem_cons h2]
  exact (Option.some.inj h1).symm
 obtain rfl : i = T.length := by omega
 rw [List.getElem?_append_right (Nat.le_refl _), Nat.sub_self] at h1
 rw [List.drop_of_length_le (Nat.le_refl _)]
 exact (Option.some.inj h1).symm
theorem Ptx.tok (h : Ptx T sgs c) (i : Nat) : (headT (T.drop i)).length ≤ 1000000 := by
 rcases Nat.lt_or_ge i T.length with h2 | h2
 ·rw [List.drop_eq_getElem_cons h2]
  exact h.tk _ (List.getElem_mem h2)
 rw [List.drop_of_length_le h2]; simp [headT]
theorem sgE.cells (hI : Inv S w0 w (sgE g sgs :: H)) {s : Sg} (hi : sgs[i]? = some s) : w.cell? ⟨g, i * 2, none⟩ = some (strV s.1) ∧ w.cell? ⟨g, i * 2 + 1, none⟩ = some (.int .i64 (s.2 : Int)) := by
 obtain ⟨T, cur, hb, hc⟩ := (hI.ok _ (List.mem_cons_self ..)).1
 have h0 := flat_get sgL_len sgs i 0 s hi (by omega)
 have h1 := flat_get sgL_len sgs i 1 s hi (by omega)
 rw [hb.cell, hb.cell]
 exact ⟨hc _ _ h0, hc _ _ h1⟩
theorem Ptx.cells (h : Ptx T sgs c) (hi : i ≤ T.length) (hI : Inv S w0 w (parE p g sgs c i :: sgE g sgs :: H)) : w.cell? ⟨g, i * 2, none⟩ = some (strV (headT (T.drop i))) ∧ ∃ n : Nat, w.cell? ⟨g, i * 2 + 1, none⟩ = some (.int .i64 (n : Int)) := by
 obtain ⟨n, hn⟩ := h.at_ hi
 have := sgE.cells hI.d0 hn
 exact ⟨this.1, n, this.2⟩
end
theorem wrong_any (T : List Tok) (sgs : List Sg) (c i p g : Nat) (S : Nat → Prop) (w0 w : World) (H : List Ent) (ec : Int) (hP : Ptx T sgs c) (hi : i ≤ T.length) (hI : Inv S w0 w (parE p g sgs c i :: sgE g sgs :: H)) :
  Cq 69 #[at0 p, .int .i64 ec] w fun e w' => (∃ U u, e = .returned (.iface U u)) ∧ Inv S w0 w' (parE p g sgs c i :: sgE g sgs :: H) := by
 obtain ⟨hc, n, hn⟩ := hP.cells hi hI
 have hl := hP.len
 have hnc := hP.nc
 unfold parE at hI
 refine Vn func69 rfl ?_
 refine Wq (Vj rfl (Wn (Wq (V0 rfl (V9 rfl (Vb rfl (V7 0 rfl (V5 (.slice _ _ _) rfl (hI.c0 rfl) ?_))))))))
 refine Wv rfl (rIdx (sz := 2) (i := 0) rfl yy100 (by kernel_rfl) rfl rfl (by omega)) ?_
 refine Tf 1 rfl (V5 (.int .i64 _) rfl hn (Td [(0, .int .i64 _), (1, .int .i64 _)] [_, _] rfl [.int .i64 0, .int .i64 0] [0, 1] rfl (fun _ => by kernel_rfl) (Tb (.agg _) (#[_, _]) hI rfl ?_)))
 rintro b14 w - - hI
 refine T6 rfl underlying128 rfl (Vp rfl (Wn ?_))
 exact WR (r1_ 4 rfl ⟨⟨_, _, rfl⟩, hI.d0⟩)
theorem ptake_any (T : List Tok) (sgs : List Sg) (c i p g : Nat) (S : Nat → Prop) (w0 w : World) (H : List Ent) (hP : Ptx T sgs c) (hi : i ≤ T.length) (hI : Inv S w0 w (parE p g sgs c i :: sgE g sgs :: H)) :
  Cq 70 #[at0 p] w fun e w' => e = .returned (strV (headT (T.drop i))) ∧ ∃ i', i' ≤ T.length ∧ T.drop i' = (T.drop i).tail ∧ Inv S w0 w' (parE p g sgs c i' :: sgE g sgs :: H) := by
 obtain ⟨hc, n, hn⟩ := hP.cells hi hI
 have hl := hP.len
 have hnc := hP.nc
 unfold parE at hI
 refine Vn func70 rfl ?_
 refine Wq (T4 rfl (Wn (Wq (V9 rfl (Vb rfl (V7 0 rfl (V5 (.slice _ _ _) rfl (hI.c0 rfl) ?_)))))))
 refine Wv rfl (rIdx (sz := 2) (i := 0) rfl yy100 (by kernel_rfl) rfl rfl (by omega)) ?_
 refine Tj rfl (V5 (.string _) rfl hc (T4 rfl (Wn ?_)))
 rcases Nat.lt_or_ge i T.length with hlt | hge
 ·have hne : headT (T.drop i) ≠ [] := by
   rw [List.drop_eq_getElem_cons hlt]
   exact hP.ne _ (List.getElem_mem hlt)
  refine Ws (Wq (Vh rfl ?_))
  refine Wv rfl (by exact rStrNeT rfl rfl rfl (by assumption)) ?_
  refine Wn (Wc true rfl (Wr (V9 rfl (V9 rfl (Vb rfl (V7 0 rfl (V5 (.slice _ _ _) rfl (hI.c0 rfl) ?_)))))))
  refine Wv rfl (by exact rSliceFrom (sz := 2) (i := 1) rfl yy100 (by kernel_rfl) rfl rfl (by omega) (by omega)) ?_
  refine Vb rfl (V7 0 rfl (T7 1 #[_] (.slice _ _ _) hI rfl ?_))
  intro w hI
  refine Wn (Wq (Vh rfl (T4 rfl (Wn ?_))))
  refine WR ?_
  refine r1_ 2 rfl ⟨rfl, i + 1, by omega, ?_, ?_⟩
  ·rw [List.drop_eq_getElem_cons hlt]; rfl
  unfold parE
  rw [show (i + 1) * 2 = i * 2 + 1 * 2 by omega, Nat.sub_add_eq sgs.length, Nat.sub_add_eq c]
  exact hI
 have he : headT (T.drop i) = [] := by rw [List.drop_of_length_le hge]; rfl
 refine Ws (Wq (Vh rfl ?_))
 refine Wv rfl (by exact rStrNeF rfl rfl rfl (by assumption)) ?_
 refine Wn (Wc false rfl (Wk (Wq (Vh rfl (T4 rfl (Wn ?_))))))
 refine WR ?_
 refine r1_ 2 rfl ⟨rfl, i, hi, ?_, hI⟩
 rw [List.drop_of_length_le hge]; rfl
theorem expect_any (T : List Tok) (sgs : List Sg) (c i p g : Nat) (S : Nat → Prop) (w0 w : World) (H : List Ent) (t : Tok) (hP : Ptx T sgs c) (hi : i ≤ T.length) (hI : Inv S w0 w (parE p g sgs c i :: sgE g sgs :: H)) :
  Cq 33 #[at0 p, strV t] w fun e w' => (headT (T.drop i) = t ∧ e = .returned .nilIface ∧ ∃ i', i' ≤ T.length ∧ T.drop i' = (T.drop i).tail ∧ Inv S w0 w' (parE p g sgs c i' :: sgE g sgs :: H)) ∨
   (headT (T.drop i) ≠ t ∧ (∃ U u, e = .returned (.iface U u)) ∧ Inv S w0 w' (parE p g sgs c i :: sgE g sgs :: H)) := by
 obtain ⟨hc, n, hn⟩ := hP.cells hi hI
 have hl := hP.len
 have hnc := hP.nc
 have hI' := hI
 unfold parE at hI
 refine Vn func33 rfl ?_
 refine Wq (Vj rfl (Wn ?_))
 by_cases ht : headT (T.drop i) = t
 ·refine Ws (Wq (V9 rfl (Vb rfl (V7 0 rfl (V5 (.slice _ _ _) rfl (hI.c0 rfl) ?_)))))
  refine Wv rfl (rIdx (sz := 2) (i := 0) rfl yy100 (by kernel_rfl) rfl rfl (by omega)) ?_
  refine Tj rfl (V5 (.string _) rfl hc (Vh rfl ?_))
  refine Wv rfl (by exact rStrNeF rfl rfl rfl (by assumption)) ?_
  refine Wn (Wc false rfl (Wk (Wq (V9 rfl (Va [.pointer _] rfl func70 rfl ?_)))))
  refine (ptake_any T sgs c i p g S w0 _ H hP hi hI).mono ?_
  rintro e w1 ⟨rfl, i', hi', hd, hI1⟩
  refine rV ?_
  refine Wn (Wq (Vj rfl (Wn ?_)))
  exact WR (r1_ 4 rfl (.inl ⟨ht, rfl, i', hi', hd, hI1⟩))
 refine Ws (Wq (V9 rfl (Vb rfl (V7 0 rfl (V5 (.slice _ _ _) rfl (hI.c0 rfl) ?_)))))
 refine Wv rfl (rIdx (sz := 2) (i := 0) rfl yy100 (by kernel_rfl) rfl rfl (by omega)) ?_
 refine Tj rfl (V5 (.string _) rfl hc (Vh rfl ?_))
 refine Wv rfl (by exact rStrNeT rfl rfl rfl (by assumption)) ?_
 refine Wn (Wc true rfl (Wq (V9 rfl (Va [.pointer _, .int .i64 _] rfl func69 rfl ?_))))
 refine (wrong_any T sgs c i p g S w0 _ H 3 hP hi hI).mono ?_
 rintro e w1 ⟨⟨U, u, rfl⟩, hI1⟩
 refine rV ?_
 refine Vp rfl (Wn ?_)
 exact WR (r1_ 4 rfl (.inr ⟨ht, ⟨U, u, rfl⟩, hI1⟩))
theorem number_any (T : List Tok) (sgs : List Sg) (c i p g : Nat) (S : Nat → Prop) (w0 w : World) (H : List Ent) (a b : Int) (hP : Ptx T sgs c) (hi : i ≤ T.length) (hI : Inv S w0 w (parE p g sgs c i :: sgE g sgs :: H)) (hG : NumG w0) (hS : NoG S) :
  Cq 71 #[at0 p, .int .i64 a, .int .i64 b] w fun e w' => (∃ n i', numT a b (T.drop i) = some (n, T.drop i') ∧ e = .returned (.tuple #[.int .i64 n, .nilIface]) ∧ i' ≤ T.length ∧ Inv S w0 w' (parE p g sgs c i' :: sgE g sgs :: H)) ∨
   (numT a b (T.drop i) = none ∧ (∃ U u, e = .returned (.tuple #[.int .i64 0, .iface U u])) ∧ Inv S w0 w' (parE p g sgs c i :: sgE g sgs :: H)) := by
 obtain ⟨hc, n, hn⟩ := hP.cells hi hI
 have hl := hP.len
 have hnc := hP.nc
 have hG1 : NumG w := hG.chg hI.chg hS
 have htok := hP.tok i
 rw [numT_head]
 obtain ⟨t, ht⟩ : ∃ t, headT (T.drop i) = t := ⟨_, rfl⟩
 rw [ht] at hc htok ⊢
 unfold parE at hI
 refine Vn func71 rfl ?_
 refine Wq (Vc rfl (Vj rfl (Wn (Wq (V9 rfl (Vb rfl (V7 0 rfl (V5 (.slice _ _ _) rfl (hI.c0 rfl) ?_))))))))
 refine Wv rfl (rIdx (sz := 2) (i := 0) rfl yy100 (by kernel_rfl) rfl rfl (by omega)) ?_
 refine Tj rfl (V5 (.string _) rfl hc (T4 rfl (Wn ?_)))
 have hat := atoi_any t htok w hG1
 unfold atoiPost at hat
 cases hx : Lib.atoiAll t with
 | ok m =>
  rw [hx] at hat
  refine Wq (Vh rfl (Va [.string _] rfl func66 rfl ?_))
  refine hat.mono ?_
  rintro e w1 ⟨⟨rfl, hm1, hm2⟩, hp⟩
  refine rV ?_
  have hI := hI.pure hp
  refine Vz rfl (Vg rfl (Vg rfl (Vc rfl (Vj rfl (Wn (Ws (Wb ?_)))))))
  by_cases hit : Lib.itoa m = t
  ·refine Wq (T8 rfl (Te rfl yy34 rfl (V6 rfl (V0 rfl (Va [.int .i64 _] rfl func22 rfl ?_)))))
   refine (itoa_any m hm1 hm2 _ (hG.chg hI.chg hS)).mono (okP hI fun w1 hp1 hI => ?_)
   refine Vh rfl ?_
   refine Wv rfl (by exact rStrNeF rfl rfl rfl (by assumption)) ?_
   refine Ve rfl (V8 rfl (Wn (Wc false rfl ?_)))
   by_cases ha : m < a
   ·refine Wq (V0 rfl (V0 rfl (Vt rfl (V6 rfl (V4 rfl (V4 rfl (V4 rfl (Vk rfl (V8 rfl (Wn (Wc true rfl (Ws ?_))))))))))))
    refine Wr (V9 rfl (Va [.pointer _, .int .i64 _] rfl func69 rfl ?_))
    refine (wrong_any T sgs c i p g S w0 _ H 2 hP hi hI).mono ?_
    rintro e w2 ⟨⟨U, u, rfl⟩, hI2⟩
    refine rV ?_
    refine Vc rfl (Vp rfl (Wn ?_))
    exact WR (r2_ 6 7 rfl (.inr ⟨(by rw [Option.map_eq_none_iff]; exact Option.eq_none_iff_forall_ne_some.2 fun v hv => by obtain ⟨q1, q2, q3, q4⟩ := numF_ok.1 hv; rw [hx] at q1; cases q1; omega), ⟨U, u, rfl⟩, hI2⟩))
   by_cases hb : b < m
   ·refine Wq (V0 rfl (V0 rfl (Vr rfl (V6 rfl (V0 rfl (V0 rfl (Tq rfl (Ve rfl (V8 rfl (Wn (Wc true rfl (Ws ?_))))))))))))
    refine Wr (V9 rfl (Va [.pointer _, .int .i64 _] rfl func69 rfl ?_))
    refine (wrong_any T sgs c i p g S w0 _ H 2 hP hi hI).mono ?_
    rintro e w2 ⟨⟨U, u, rfl⟩, hI2⟩
    refine rV ?_
    refine Vc rfl (Vp rfl (Wn ?_))
    exact WR (r2_ 6 7 rfl (.inr ⟨(by rw [Option.map_eq_none_iff]; exact Option.eq_none_iff_forall_ne_some.2 fun v hv => by obtain ⟨q1, q2, q3, q4⟩ := numF_ok.1 hv; rw [hx] at q1; cases q1; omega), ⟨U, u, rfl⟩, hI2⟩))
   refine Wq (V0 rfl (V0 rfl (Vr rfl (V6 rfl (V0 rfl (V0 rfl (Tc rfl (Ve rfl (V8 rfl (Wn (Wc false rfl (Wk ?_))))))))))))
   refine Wq (V9 rfl (Va [.pointer _] rfl func70 rfl ?_))
   refine (ptake_any T sgs c i p g S w0 _ H hP hi hI).mono ?_
   rintro e w2 ⟨rfl, i', hi', hd, hI2⟩
   refine rV ?_
   refine Wn (Wq (V0 rfl (Vc rfl (Vj rfl (Wn ?_)))))
   refine WR ?_
   refine r2_ 6 7 rfl (.inl ⟨m, i', ?_, rfl, hi', hI2⟩)
   rw [numF_ok.2 ⟨hx, hit, by omega, by omega⟩, hd]
   rfl
  refine Wq (T8 rfl (Te rfl yy34 rfl (V6 rfl (V0 rfl (Va [.int .i64 _] rfl func22 rfl ?_)))))
  refine (itoa_any m hm1 hm2 _ (hG.chg hI.chg hS)).mono (okP hI fun w1 hp1 hI => ?_)
  refine Vh rfl ?_
  refine Wv rfl (by exact rStrNeT rfl rfl rfl (by assumption)) ?_
  refine Ve rfl (V8 rfl (Wn (Wc true rfl (Wq (V9 rfl (Va [.pointer _, .int .i64 _] rfl func69 rfl ?_))))))
  refine (wrong_any T sgs c i p g S w0 _ H 3 hP hi hI).mono ?_
  rintro e w2 ⟨⟨U, u, rfl⟩, hI2⟩
  refine rV ?_
  refine Vc rfl (Vp rfl (Wn ?_))
  exact WR (r2_ 6 7 rfl (.inr ⟨(by rw [Option.map_eq_none_iff]; exact Option.eq_none_iff_forall_ne_some.2 fun v hv => by obtain ⟨q1, q2, q3, q4⟩ := numF_ok.1 hv; rw [hx] at q1; cases q1; exact hit q2), ⟨U, u, rfl⟩, hI2⟩))
 | range =>
  rw [hx] at hat
  refine Wq (Vh rfl (Va [.string _] rfl func66 rfl ?_))
  refine hat.mono ?_
  rintro e w1 ⟨⟨m, U0, u0, rfl⟩, hp⟩
  refine rV ?_
  have hI := hI.pure hp
  refine Vz rfl (Vg rfl (Vg rfl (Vc rfl (Vp rfl (Wn (Ws (Wb (Wq (Vy rfl (Tl rfl yy34 rfl (V6 rfl (V4 rfl ?_))))))))))))
  refine V4 rfl (V4 rfl (V4 rfl (Vk rfl (V8 rfl (Wn (Wc true rfl (Wq (V9 rfl (Va [.pointer _, .int .i64 _] rfl func69 rfl ?_)))))))))
  refine (wrong_any T sgs c i p g S w0 _ H 3 hP hi hI).mono ?_
  rintro e w2 ⟨⟨U, u, rfl⟩, hI2⟩
  refine rV ?_
  refine Vc rfl (Vp rfl (Wn ?_))
  exact WR (r2_ 6 7 rfl (.inr ⟨(by rw [Option.map_eq_none_iff]; exact Option.eq_none_iff_forall_ne_some.2 fun v hv => by obtain ⟨q1, q2, q3, q4⟩ := numF_ok.1 hv; rw [hx] at q1; cases q1), ⟨U, u, rfl⟩, hI2⟩))
 | _ =>
  rw [hx] at hat
  refine Wq (Vh rfl (Va [.string _] rfl func66 rfl ?_))
  refine hat.mono ?_
  rintro e w1 ⟨⟨m, U0, u0, rfl⟩, hp⟩
  refine rV ?_
  have hI := hI.pure hp
  refine Vz rfl (Vg rfl (Vg rfl (Vc rfl (Vp rfl (Wn (Ws (Wb (Wq (Vy rfl (Tl rfl yy34 rfl (V6 rfl (V4 rfl ?_))))))))))))
  refine V4 rfl (V4 rfl (V4 rfl (Vk rfl (V8 rfl (Wn (Wc true rfl (Wq (V9 rfl (Va [.pointer _, .int .i64 _] rfl func69 rfl ?_)))))))))
  refine (wrong_any T sgs c i p g S w0 _ H 3 hP hi hI).mono ?_
  rintro e w2 ⟨⟨U, u, rfl⟩, hI2⟩
  refine rV ?_
  refine Vc rfl (Vp rfl (Wn ?_))
  exact WR (r2_ 6 7 rfl (.inr ⟨(by rw [Option.map_eq_none_iff]; exact Option.eq_none_iff_forall_ne_some.2 fun v hv => by obtain ⟨q1, q2, q3, q4⟩ := numF_ok.1 hv; rw [hx] at q1; cases q1), ⟨U, u, rfl⟩, hI2⟩))
def ReadPost (T : List Tok) (sgs : List Sg) (c p g : Nat) (S : Nat → Prop) (w0 : World) (H : List Ent) (r : Option (Ge × List Tok)) (e : Ending) (w' : World) : Prop :=
 (∃ ge v L i', r = some (ge, T.drop i') ∧ e = .returned (.tuple #[v, .nilIface]) ∧ Rep ge v L ∧ i' ≤ T.length ∧ Inv S w0 w' (parE p g sgs c i' :: sgE g sgs :: (L ++ H))) ∨
 (r = none ∧ ∃ U u i', e = .returned (.tuple #[.nilIface, .iface U u]) ∧ i' ≤ T.length ∧ Inv S w0 w' (parE p g sgs c i' :: sgE g sgs :: H))
theorem pwrite_any (T : List Tok) (sgs : List Sg) (c i p g : Nat) (S : Nat → Prop) (w0 w : World) (H : List Ent) (hP : Ptx T sgs c) (hi : i ≤ T.length) (hI : Inv S w0 w (parE p g sgs c i :: sgE g sgs :: H)) (hG : NumG w0) (hS : NoG S) :
  Cq 72 #[at0 p] w (ReadPost T sgs c p g S w0 H (pW (T.drop i))) := by
 unfold ReadPost
 refine Vn func72 rfl ?_
 refine Wq (Vj rfl (Vj rfl (Wn ?_)))
 cases h1 : numT 0 7 (T.drop i) with
 | none =>
  refine Wq (V9 rfl (Va [.pointer _, .int .i64 _, .int .i64 _] rfl func71 rfl ?_))
  refine (number_any T sgs c i p g S w0 _ H 0 7 hP hi hI hG hS).mono ?_
  rintro e w1 (⟨n, i1, hk, -, -, -⟩ | ⟨hk, ⟨U, u, rfl⟩, hIe⟩)
  ·rw [h1] at hk; cases hk
  refine rV ?_
  refine Vz rfl (Vg rfl (Vg rfl (Vc rfl (Vp rfl (Wn (Ws (Wq (Vy rfl (Tl rfl yy34 rfl (Wn (Wc true rfl (Ws ?_))))))))))))
  refine Wr (Vy rfl (Vj rfl (Vp rfl (Wn ?_))))
  exact WR (r2_ 2 3 rfl (.inr ⟨(by unfold pW; rw [h1]), U, u, i, rfl, hi, hIe⟩))
 | some q1 =>
  obtain ⟨k, r1⟩ := q1
  refine Wq (V9 rfl (Va [.pointer _, .int .i64 _, .int .i64 _] rfl func71 rfl ?_))
  refine (number_any T sgs c i p g S w0 _ H 0 7 hP hi hI hG hS).mono ?_
  rintro e w1 (⟨k', i1, hk, rfl, hi1, hI1⟩ | ⟨hk, -⟩)
  rotate_left
  ·rw [h1] at hk; cases hk
  rw [h1] at hk
  cases hk
  refine rV ?_
  refine Vz rfl (Vg rfl (Vg rfl (Vc rfl (Vj rfl (Wn (Ws (Wq (T8 rfl (Te rfl yy34 rfl (Wn (Wc false rfl (Wk ?_))))))))))))
  cases h2 : numT (-1000000) 1000000 (T.drop i1) with
  | none =>
   refine Wq (V9 rfl (Va [.pointer _, .int .i64 _, .int .i64 _] rfl func71 rfl ?_))
   refine (number_any T sgs c i1 p g S w0 _ H (-1000000) 1000000 hP hi1 hI1 hG hS).mono ?_
   rintro e w1 (⟨n, i1, hk, -, -, -⟩ | ⟨hk, ⟨U, u, rfl⟩, hIe⟩)
   ·rw [h2] at hk; cases hk
   refine rV ?_
   refine Vz rfl (Vg rfl (Vg rfl (Vc rfl (Vp rfl (Wn (Ws (Wq (Vy rfl (Tl rfl yy34 rfl (Wn (Wc true rfl (Ws ?_))))))))))))
   refine Wr (Vy rfl (Vj rfl (Vp rfl (Wn ?_))))
   exact WR (r2_ 2 3 rfl (.inr ⟨(by unfold pW; rw [h1]; simp only; rw [h2]), U, u, i1, rfl, hi1, hIe⟩))
  | some q2 =>
   obtain ⟨l, r2⟩ := q2
   refine Wq (V9 rfl (Va [.pointer _, .int .i64 _, .int .i64 _] rfl func71 rfl ?_))
   refine (number_any T sgs c i1 p g S w0 _ H (-1000000) 1000000 hP hi1 hI1 hG hS).mono ?_
   rintro e w1 (⟨l', i2, hk, rfl, hi2, hI2⟩ | ⟨hk, -⟩)
   rotate_left
   ·rw [h2] at hk; cases hk
   rw [h2] at hk
   cases hk
   refine rV ?_
   refine Vz rfl (Vg rfl (Vg rfl (Vc rfl (Vj rfl (Wn (Ws (Wq (T8 rfl (Te rfl yy34 rfl (Wn (Wc false rfl (Wk ?_))))))))))))
   cases h3 : numT l 1000000 (T.drop i2) with
   | none =>
    refine Wq (V9 rfl (V0 rfl (Va [.pointer _, .int .i64 _, .int .i64 _] rfl func71 rfl ?_)))
    refine (number_any T sgs c i2 p g S w0 _ H l 1000000 hP hi2 hI2 hG hS).mono ?_
    rintro e w1 (⟨n, i1, hk, -, -, -⟩ | ⟨hk, ⟨U, u, rfl⟩, hIe⟩)
    ·rw [h3] at hk; cases hk
    refine rV ?_
    refine Vz rfl (Vg rfl (Vg rfl (Vc rfl (Vp rfl (Wn (Ws (Wq (Vy rfl (Tl rfl yy34 rfl (Wn (Wc true rfl (Ws ?_))))))))))))
    refine Wr (Vy rfl (Vj rfl (Vp rfl (Wn ?_))))
    exact WR (r2_ 2 3 rfl (.inr ⟨(by unfold pW; rw [h1]; simp only; rw [h2]; simp only; rw [h3]), U, u, i2, rfl, hi2, hIe⟩))
   | some q3 =>
    obtain ⟨t, r3⟩ := q3
    refine Wq (V9 rfl (V0 rfl (Va [.pointer _, .int .i64 _, .int .i64 _] rfl func71 rfl ?_)))
    refine (number_any T sgs c i2 p g S w0 _ H l 1000000 hP hi2 hI2 hG hS).mono ?_
    rintro e w1 (⟨t', i3, hk, rfl, hi3, hI3⟩ | ⟨hk, -⟩)
    rotate_left
    ·rw [h3] at hk; cases hk
    rw [h3] at hk
    cases hk
    refine rV ?_
    refine Vz rfl (Vg rfl (Vg rfl (Vc rfl (Vj rfl (Wn (Ws (Wq (T8 rfl (Te rfl yy34 rfl (Wn (Wc false rfl (Wk ?_))))))))))))
    have hI := hI3
    refine Wq (V0 rfl (V0 rfl (V0 rfl (Td [(0, .int .i64 _), (1, .int .i64 _), (2, .int .i64 _)] [_, _, _] rfl [.int .i64 0, .int .i64 0, .int .i64 0] [0, 1, 2] rfl (fun _ => by kernel_rfl) (Tb (.agg _) (#[_, _, _]) hI rfl ?_)))))
    rintro b37 w - - hI
    refine T6 rfl underlying234 rfl (Vp rfl (Vj rfl (Wn ?_)))
    refine WR ?_
    have hb1 := numT_pre h2
    have hb2 := numT_pre h3
    refine r2_ 2 3 rfl (.inl ⟨.wr k l t, _, _, i3, ?_, rfl, .wr (b := b37) hb1.1 hb2.1 hb2.2.1, hi3, ?_⟩)
    ·unfold pW; rw [h1]; simp only; rw [h2]; simp only; rw [h3]
    exact hI.sw0.sw1
theorem pG_succ (k : Nat) (l : List Tok) : pG (k + 1) l = if headT l = tRead then (numT 0 7 l.tail).map (fun r => (.rd r.1, r.2)) else if headT l = tWrite then pW l.tail else if headT l = tLimit then (match numT 0 1000 l.tail with
   | none => none
   | some (n, s) => (pG k s).map fun r => (.lim n.toNat r.1, r.2)) else if headT l = tMix then (pV (pG k) l.tail).map (fun r => (.mix r.1, r.2)) else if headT l = tThen then (pV (pG k) l.tail).map (fun r => (.thn r.1, r.2)) else none := by
 cases l with
 | nil => rfl
 | cons t s => rfl
theorem pV_head (p : List Tok → Option (Ge × List Tok)) (l : List Tok) : pV p l = if headT l = tOpen then pS p l.tail.length l.tail else none := by
 cases l with
 | nil => rfl
 | cons t s => rfl
theorem pS_succ (p : List Tok → Option (Ge × List Tok)) (n : Nat) (s : List Tok) : pS p (n + 1) s = match p s with
  | none => none
  | some (g, s') => if headT s' = tShut then some ([g], s'.tail) else if headT s' = tComma then (pS p n s'.tail).map (fun r => (g :: r.1, r.2)) else none := by
 rw [pS]
 cases p s with
 | none => rfl
 | some q =>
  obtain ⟨g, s'⟩ := q
  cases s' with
  | nil => rfl
  | cons t s' => rfl
theorem RepL.snoc : ∀ {gs : List Ge} {vs : List Value} {L M : List Ent} {g : Ge} {v : Value}, RepL gs vs L → Rep g v M → RepL (gs ++ [g]) (vs ++ [v]) (L ++ M)
 | _, _, _, M, g, v, .nil, h => by
  have := RepL.cons h .nil
  rwa [List.append_nil] at this
 | _, _, _, M, g, v, .cons h0 h1, h => by
  rw [List.append_assoc]
  exact .cons h0 (RepL.snoc h1 h)
theorem drop_lt {T : List Tok} {i j : Nat} (hj : j ≤ T.length) (hi : i ≤ T.length) (h : (T.drop j).length < (T.drop i).length) : i < j := by
 simp only [List.length_drop] at h
 omega
def GenOk (k : Nat) : Prop := ∀ (d : Int) (T : List Tok) (sgs : List Sg) (c i p g : Nat) (S : Nat → Prop) (w0 w : World) (H : List Ent), d = 20 - (k : Int) → Ptx T sgs c → i ≤ T.length → Inv S w0 w (parE p g sgs c i :: sgE g sgs :: H) → NumG w0 → NoG S →
 Cq 32 #[at0 p, .int .i64 d] w (ReadPost T sgs c p g S w0 H (pG k (T.drop i)))
def SevPost (T : List Tok) (sgs : List Sg) (c p g : Nat) (S : Nat → Prop) (w0 : World) (H : List Ent) (r : Option (List Ge × List Tok)) (e : Ending) (w' : World) : Prop :=
 (∃ gs vs L A c' i', r = some (gs, T.drop i') ∧ e = .returned (.tuple #[.slice A gs.length c', .nilIface]) ∧ RepL gs vs L ∧ gs.length ≤ 100000 ∧ i' ≤ T.length ∧ Inv S w0 w' (parE p g sgs c i' :: sgE g sgs :: Row 0 50 1 A gs.length c' vs :: (L ++ H))) ∨
 (r = none ∧ ∃ U u i', e = .returned (.tuple #[.slice none 0 0, .iface U u]) ∧ i' ≤ T.length ∧ Inv S w0 w' (parE p g sgs c i' :: sgE g sgs :: H))
theorem several_any (k : Nat) (hk : k ≤ 20) (hGen : GenOk k) (d : Int) (T : List Tok) (sgs : List Sg) (c i p g : Nat) (S : Nat → Prop) (w0 w : World) (H : List Ent) (hd : d = 20 - (k : Int)) (hP : Ptx T sgs c) (hi : i ≤ T.length) (hI : Inv S w0 w (parE p g sgs c i :: sgE g sgs :: H)) (hG : NumG w0) (hS : NoG S) :
  Cq 73 #[at0 p, .int .i64 d] w (SevPost T sgs c p g S w0 H (pV (pG k) (T.drop i))) := by
 unfold SevPost
 rw [pV_head]
 have hTl := hP.tl
 refine Vn func73 rfl ?_
 refine Wq (Vo rfl (Vj rfl (Wn ?_)))
 by_cases ho : headT (T.drop i) = tOpen
 rotate_left
 ·refine Ws (Wq (V9 rfl (Va [.pointer _, .string _] rfl func33 rfl ?_)))
  refine (expect_any T sgs c i p g S w0 _ H tOpen hP hi hI).mono ?_
  rintro e w1 (⟨h, -⟩ | ⟨h, ⟨U, u, rfl⟩, hI1⟩)
  ·exact absurd h ho
  refine rV ?_
  refine Vp rfl (Wn (Wq (Vy rfl (Tl rfl yy34 rfl (Wn (Wc true rfl (Wq (Vy rfl (Vo rfl (Vp rfl (Wn ?_)))))))))))
  exact WR (r2_ 4 5 rfl (.inr ⟨if_neg ho, U, u, i, rfl, hi, hI1⟩))
 rw [if_pos ho]
 refine Ws (Wq (V9 rfl (Va [.pointer _, .string _] rfl func33 rfl ?_)))
 refine (expect_any T sgs c i p g S w0 _ H tOpen hP hi hI).mono ?_
 rintro e w1 (⟨h, rfl, i1, hi1, hd1, hI1⟩ | ⟨h, -⟩)
 rotate_left
 ·exact absurd ho h
 refine rV ?_
 refine Vj rfl (Wn (Wq (T8 rfl (Te rfl yy34 rfl (Wn (Wc false rfl (Wk (Wq (Vo rfl (Wn ?_))))))))))
 rw [← hd1]
 refine Wb ?_
 have hI0 := hI1.fresh (Pure.refl w1) (Row.nil w1 0 50 1) (fun k hk => by simp [Row] at hk)
 refine Wl (fun mu ρ w => ∃ (n : Nat) (gs : List Ge) (vs : List Value) (L : List Ent) (A : Option Addr) (c1 i2 : Nat), mu = n ∧ i2 ≤ T.length ∧ gs.length ≤ i2 ∧ (T.drop i2).length ≤ n ∧ RepL gs vs L ∧ pS (pG k) (T.drop i1).length (T.drop i1) = (pS (pG k) n (T.drop i2)).map (fun r => (gs ++ r.1, r.2)) ∧
   Has ρ [(0, at0 p), (1, .int .i64 d), (7, .slice A gs.length c1)] ∧ Inv S w0 w (Row 0 50 1 A gs.length c1 vs :: parE p g sgs c i2 :: sgE g sgs :: (L ++ H))) (T.drop i1).length
  ⟨_, [], [], [], none, 0, i1, rfl, hi1, Nat.zero_le _, Nat.le_refl _, .nil, by simp, ⟨rfl, rfl, rfl, trivial⟩, hI0⟩ ?_
 clear hI0 hI1 hI
 rintro mu ρ w ⟨n, gs, vs, L, A, c1, i2, rfl, hi2, hgl, hn, hL, heq, hH, hI⟩
 obtain ⟨σ, rfl⟩ := hH.open
 refine Wb ?_
 have hpre := pG_pre k (T.drop i2)
 cases hx : pG k (T.drop i2) with
 | none =>
  refine Wq (V9 rfl (V0 rfl (Va [.pointer _, .int .i64 _] rfl func32 rfl ?_)))
  refine (hGen d T sgs c i2 p g S w0 _ _ hd hP hi2 ((hI.pull 0 rfl).sw0.sw1) hG hS).mono ?_
  unfold ReadPost
  rintro e w2 (⟨ge, v, L', i', h, -⟩ | ⟨-, U, u, i', rfl, hi', hI2⟩)
  ·rw [hx] at h; cases h
  refine rV ?_
  refine Vz rfl (Vg rfl (Vg rfl (Vj rfl (Vp rfl (Wn (Ws (Wq (Vy rfl (Tl rfl yy34 rfl (Wn (Wc true rfl (Ws ?_))))))))))))
  refine Wr (Vy rfl (Vo rfl (Vp rfl (Wn ?_))))
  refine WR ?_
  refine r2_ 4 5 rfl (.inr ⟨?_, U, u, i', rfl, hi', hI2.sub ?_⟩)
  ·rw [heq]
   cases mu with
   | zero => rfl
   | succ n => rw [pS_succ, hx]; rfl
  exact (((List.sublist_append_right ..).cons _).cons_cons _).cons_cons _
 | some q =>
  obtain ⟨ge, r⟩ := q
  obtain ⟨hsz, -⟩ := hpre _ _ hx
  have hsp := sz_pos ge
  refine Wq (V9 rfl (V0 rfl (Va [.pointer _, .int .i64 _] rfl func32 rfl ?_)))
  refine (hGen d T sgs c i2 p g S w0 _ _ hd hP hi2 ((hI.pull 0 rfl).sw0.sw1) hG hS).mono ?_
  unfold ReadPost
  rintro e w2 (⟨ge', v, M, i3, h, rfl, hM, hi3, hI2⟩ | ⟨h, -⟩)
  rotate_left
  ·rw [hx] at h; cases h
  rw [hx] at h
  cases h
  refine rV ?_
  replace hI : Inv S w0 w2 (Row 0 50 1 A gs.length c1 vs :: parE p g sgs c i3 :: sgE g sgs :: (L ++ (M ++ H))) := (hI2.perm ((((List.perm_append_comm_assoc M [_] (L ++ H)).trans ((List.perm_append_comm_assoc M L H).cons _)).cons _).cons _)).sw1.sw0
  clear hI2
  refine Vz rfl (Vg rfl (Vg rfl (Tn rfl (Vj rfl (Wn ?_)))))
  have hi23 := drop_lt hi3 hi2 (by omega)
  have hMv := hM.val
  obtain ⟨Tv, bv, rfl⟩ := hMv
  refine Ws (Wq (T8 rfl (Te rfl yy34 rfl (Wn (Wc false rfl (Wk (Wq (Vi rfl (Vy rfl (T3 [(0, _)] [_] [.nilIface] [0] hI rfl yy177 (fun _ => by kernel_rfl) ?_))))))))))
  rintro b27 w - - hI
  refine Tx 16 .nilIface hI rfl yy177 rfl (by rfl) hI.lit0 (by rfl) (Nat.zero_le _) ?_
  rintro A28 c28 w hA28 hc28 hI
  have hI := hI.d0
  refine Vo rfl (Wn ?_)
  have e1 : (gs ++ [ge]).length = gs.length + 1 := by simp
  replace hI : Inv S w0 w (Row 0 50 1 A28 (gs.length + 1) c28 (vs ++ [.iface Tv (at0 bv)]) :: parE p g sgs c i3 :: sgE g sgs :: ((L ++ M) ++ H)) := by rw [List.append_assoc]; exact hI
  have hLM := hL.snoc hM
  obtain ⟨hcell, -, -⟩ := hP.cells hi3 (hI.d0)
  have hl := hP.len
  have hnc := hP.nc
  obtain ⟨n', rfl⟩ : ∃ n', mu = n' + 1 := ⟨mu - 1, by omega⟩
  rw [pS_succ, hx] at heq
  simp only at heq
  by_cases hsh : headT (T.drop i3) = tShut
  ·unfold parE at hI
   refine Ws (Wq (V9 rfl (Vb rfl (V7 0 rfl (V5 (.slice _ _ _) rfl (hI.c1 rfl) ?_)))))
   refine Wv rfl (rIdx (sz := 2) (i := 0) rfl yy100 (by kernel_rfl) rfl rfl (by omega)) ?_
   refine Tj rfl (V5 (.string _) rfl hcell ?_)
   refine Wv rfl (by exact rStrEqT rfl rfl rfl (by assumption)) ?_
   refine Wn (Wc true rfl (Wq (V9 rfl (Va [.pointer _] rfl func70 rfl ?_))))
   refine (ptake_any T sgs c i3 p g S w0 _ _ hP hi3 (hI.sw0.sw1)).mono ?_
   rintro e w3 ⟨rfl, i4, hi4, hd4, hI3⟩
   refine rV ?_
   refine Wn (Wq (Vi rfl (Vo rfl (Vj rfl (Wn ?_)))))
   refine WR ?_
   refine r2_ 4 5 rfl (.inl ⟨gs ++ [ge], _, _, A28, c28, i4, ?_, by rw [e1]; rfl, hLM, by omega, hi4, ?_⟩)
   ·rw [heq, if_pos hsh, hd4]; rfl
   rw [e1]; exact hI3
  have hI' := hI
  unfold parE at hI
  refine Ws (Wq (V9 rfl (Vb rfl (V7 0 rfl (V5 (.slice _ _ _) rfl (hI.c1 rfl) ?_)))))
  refine Wv rfl (rIdx (sz := 2) (i := 0) rfl yy100 (by kernel_rfl) rfl rfl (by omega)) ?_
  refine Tj rfl (V5 (.string _) rfl hcell (U3 rfl ?_))
  refine Wn (Wc false rfl (Wk ?_))
  by_cases hcm : headT (T.drop i3) = tComma
  ·refine Wq (V9 rfl (Va [.pointer _, .string _] rfl func33 rfl ?_))
   refine (expect_any T sgs c i3 p g S w0 _ _ tComma hP hi3 (hI.sw0.sw1)).mono ?_
   rintro e w3 (⟨h, rfl, i4, hi4, hd4, hI3⟩ | ⟨h, -⟩)
   rotate_left
   ·exact absurd hcm h
   refine rV ?_
   refine Vj rfl (Wn (Wq (T8 rfl (Te rfl yy34 rfl (Wn (Wc false rfl (Wk ?_)))))))
   refine ⟨n', by omega, n', gs ++ [ge], _, L ++ M, A28, c28, i4, rfl, hi4, ?_, ?_, hLM, ?_, ⟨rfl, rfl, by rw [e1]; rfl, trivial⟩, ?_⟩
   ·have : (T.drop i4).length ≤ (T.drop i3).length := by rw [hd4, List.length_tail]; omega
    simp only [List.length_drop] at this
    omega
   ·rw [hd4]
    have : (T.drop i3).tail.length ≤ (T.drop i3).length - 1 := by rw [List.length_tail]; omega
    omega
   ·rw [heq, if_neg hsh, if_pos hcm, hd4]
    cases pS (pG k) n' (T.drop i3).tail with
    | none => rfl
    | some x => simp
   rw [e1]; exact hI3.sw1.sw0
  refine Wq (V9 rfl (Va [.pointer _, .string _] rfl func33 rfl ?_))
  refine (expect_any T sgs c i3 p g S w0 _ _ tComma hP hi3 (hI.sw0.sw1)).mono ?_
  rintro e w3 (⟨h, -⟩ | ⟨h, ⟨U, u, rfl⟩, hI3⟩)
  ·exact absurd h hcm
  refine rV ?_
  refine Vp rfl (Wn (Wq (Vy rfl (Tl rfl yy34 rfl (Wn (Wc true rfl (Wq (Vy rfl (Vo rfl (Vp rfl (Wn ?_)))))))))))
  refine WR ?_
  refine r2_ 4 5 rfl (.inr ⟨?_, U, u, i3, rfl, hi3, hI3.sub ?_⟩)
  ·rw [heq, if_neg hsh, if_neg hcm]; rfl
  exact (((List.sublist_append_right ..).cons _).cons_cons _).cons_cons _
theorem gen_step (k : Nat) (hk : k < 20) (hGen : GenOk k) : GenOk (k + 1) := by
 intro d T sgs c i p g S w0 w H hd hP hi hI hG hS
 have hSev := several_any k (by omega) hGen
 obtain ⟨hcell, -, -⟩ := hP.cells hi hI
 have hl := hP.len
 have hnc := hP.nc
 rw [pG_succ]
 have hI' := hI
 have htk : ∀ (w : World), Inv S w0 w (parE p g sgs c i :: sgE g sgs :: H) → Cq 70 #[at0 p] w fun e w' => e = .returned (strV (headT (T.drop i))) ∧ ∃ i', i' ≤ T.length ∧ T.drop i' = (T.drop i).tail ∧ Inv S w0 w' (parE p g sgs c i' :: sgE g sgs :: H) := fun w h => ptake_any T sgs c i p g S w0 w H hP hi h
 obtain ⟨t, ht⟩ : ∃ t, headT (T.drop i) = t := ⟨_, rfl⟩
 rw [ht] at hcell htk ⊢
 unfold ReadPost
 unfold parE at hI
 refine Vn func32 rfl ?_
 refine Wq (Vj rfl (Vj rfl (Wn (Ws (Wq (V0 rfl (Tc rfl (Wn (Wc false rfl (Wk (Ws ?_)))))))))))
 refine Wq (V9 rfl (Vb rfl (V7 0 rfl (V5 (.slice _ _ _) rfl (hI.c0 rfl) ?_))))
 refine Wv rfl (rIdx (sz := 2) (i := 0) rfl yy100 (by kernel_rfl) rfl rfl (by omega)) ?_
 refine Tj rfl (V5 (.string _) rfl hcell (Wn (Wb ?_)))
 by_cases hr : t = tRead
 ·subst hr
  rw [if_pos rfl]
  refine Wq (Uj rfl (V8 rfl (Wn (Wc true rfl (Wq (V9 rfl (Va [.pointer _] rfl func70 rfl ?_)))))))
  refine (htk _ hI').mono ?_
  rintro e w1 ⟨rfl, i1, hi1, hd1, hI1⟩
  refine rV ?_
  refine Wn ?_
  rw [← hd1]
  cases h1 : numT 0 7 (T.drop i1) with
  | none =>
   refine Wq (V9 rfl (Va [.pointer _, .int .i64 _, .int .i64 _] rfl func71 rfl ?_))
   refine (number_any T sgs c i1 p g S w0 _ H 0 7 hP hi1 hI1 hG hS).mono ?_
   rintro e w2 (⟨n, i2, hk, -, -, -⟩ | ⟨hk, ⟨U, u, rfl⟩, hIe⟩)
   ·rw [h1] at hk; cases hk
   refine rV ?_
   refine Vz rfl (Vg rfl (Vg rfl (Vc rfl (Vp rfl (Wn (Ws (Wq (Vy rfl (Tl rfl yy34 rfl (Wn (Wc true rfl (Ws ?_))))))))))))
   refine Wr (Vy rfl (Vj rfl (Vp rfl (Wn ?_))))
   exact WR (r2_ 4 5 rfl (.inr ⟨rfl, U, u, i1, rfl, hi1, hIe⟩))
  | some q1 =>
   obtain ⟨n, r1⟩ := q1
   refine Wq (V9 rfl (Va [.pointer _, .int .i64 _, .int .i64 _] rfl func71 rfl ?_))
   refine (number_any T sgs c i1 p g S w0 _ H 0 7 hP hi1 hI1 hG hS).mono ?_
   rintro e w2 (⟨n', i2, hk, rfl, hi2, hI2⟩ | ⟨hk, -⟩)
   rotate_left
   ·rw [h1] at hk; cases hk
   rw [h1] at hk
   cases hk
   refine rV ?_
   refine Vz rfl (Vg rfl (Vg rfl (Vc rfl (Vj rfl (Wn (Ws (Wq (T8 rfl (Te rfl yy34 rfl (Wn (Wc false rfl (Wk ?_))))))))))))
   have hI := hI2
   refine Wq (V0 rfl (Td [(0, .int .i64 _)] [_] rfl [.int .i64 0] [0] rfl (fun _ => by kernel_rfl) (Tb (.agg _) #[_] hI rfl ?_)))
   rintro b39 w - - hI
   refine T6 rfl underlying170 rfl (Vp rfl (Vj rfl (Wn ?_)))
   exact WR (r2_ 4 5 rfl (.inl ⟨.rd n, _, _, i2, rfl, rfl, .rd (b := b39), hi2, hI.sw0.sw1⟩))
 rw [if_neg hr]
 by_cases hwr : t = tWrite
 ·subst hwr
  rw [if_pos rfl]
  refine Wq (U3 rfl ?_)
  refine V8 rfl (Wn (Wc false rfl (Wq (Uj rfl (V8 rfl (Wn (Wc true rfl (Wq (V9 rfl (Va [.pointer _] rfl func70 rfl ?_))))))))))
  refine (htk _ hI').mono ?_
  rintro e w1 ⟨rfl, i1, hi1, hd1, hI1⟩
  refine rV ?_
  refine Wn ?_
  rw [← hd1]
  cases hpw : pW (T.drop i1) with
  | none =>
   refine Wq (V9 rfl (Va [.pointer _] rfl func72 rfl ?_))
   refine (pwrite_any T sgs c i1 p g S w0 _ H hP hi1 hI1 hG hS).mono ?_
   unfold ReadPost
   rintro e w2 (⟨ge, v, L, i2, hk, -⟩ | ⟨hk, U, u, i2, rfl, hi2, hI2⟩)
   ·rw [hpw] at hk; cases hk
   refine rV ?_
   refine Vg rfl (Vg rfl (Vj rfl (Vp rfl (Wn ?_))))
   exact WR (r2_ 4 5 rfl (.inr ⟨rfl, U, u, i2, rfl, hi2, hI2⟩))
  | some q =>
   obtain ⟨ge, r1⟩ := q
   refine Wq (V9 rfl (Va [.pointer _] rfl func72 rfl ?_))
   refine (pwrite_any T sgs c i1 p g S w0 _ H hP hi1 hI1 hG hS).mono ?_
   unfold ReadPost
   rintro e w2 (⟨ge', v, L, i2, hk, rfl, hR, hi2, hI2⟩ | ⟨hk, -⟩)
   rotate_left
   ·rw [hpw] at hk; cases hk
   rw [hpw] at hk
   cases hk
   obtain ⟨Tv, bv, rfl⟩ := hR.val
   refine rV ?_
   refine Vg rfl (Vg rfl (Vp rfl (Vj rfl (Wn ?_))))
   exact WR (r2_ 4 5 rfl (.inl ⟨ge, _, L, i2, rfl, rfl, hR, hi2, hI2⟩))
 rw [if_neg hwr]
 by_cases hli : t = tLimit
 ·subst hli
  rw [if_pos rfl]
  refine Wq (U3 rfl ?_)
  refine V8 rfl (Wn (Wc false rfl (Wq (U3 rfl ?_))))
  refine V8 rfl (Wn (Wc false rfl (Wq (Uj rfl (V8 rfl (Wn (Wc true rfl (Wq (V9 rfl (Va [.pointer _] rfl func70 rfl ?_))))))))))
  refine (htk _ hI').mono ?_
  rintro e w1 ⟨rfl, i1, hi1, hd1, hI1⟩
  refine rV ?_
  refine Wn ?_
  rw [← hd1]
  cases h1 : numT 0 1000 (T.drop i1) with
  | none =>
   refine Wq (V9 rfl (Va [.pointer _, .int .i64 _, .int .i64 _] rfl func71 rfl ?_))
   refine (number_any T sgs c i1 p g S w0 _ H 0 1000 hP hi1 hI1 hG hS).mono ?_
   rintro e w2 (⟨n, i2, hk, -, -, -⟩ | ⟨hk, ⟨U, u, rfl⟩, hIe⟩)
   ·rw [h1] at hk; cases hk
   refine rV ?_
   refine Vz rfl (Vg rfl (Vg rfl (Vc rfl (Vp rfl (Wn (Ws (Wq (Vy rfl (Tl rfl yy34 rfl (Wn (Wc true rfl (Ws ?_))))))))))))
   refine Wr (Vy rfl (Vj rfl (Vp rfl (Wn ?_))))
   exact WR (r2_ 4 5 rfl (.inr ⟨rfl, U, u, i1, rfl, hi1, hIe⟩))
  | some q1 =>
   obtain ⟨n, r1⟩ := q1
   refine Wq (V9 rfl (Va [.pointer _, .int .i64 _, .int .i64 _] rfl func71 rfl ?_))
   refine (number_any T sgs c i1 p g S w0 _ H 0 1000 hP hi1 hI1 hG hS).mono ?_
   rintro e w2 (⟨n', i2, hk, rfl, hi2, hI2⟩ | ⟨hk, -⟩)
   rotate_left
   ·rw [h1] at hk; cases hk
   rw [h1] at hk
   cases hk
   refine rV ?_
   refine Vz rfl (Vg rfl (Vg rfl (Vc rfl (Vj rfl (Wn ?_)))))
   have hnb := numT_pre h1
   obtain ⟨m, rfl⟩ : ∃ m : Nat, n = (m : Int) := ⟨n.toNat, by omega⟩
   simp only [Int.toNat_natCast]
   refine Ws (Wq (T8 rfl (Te rfl yy34 rfl (Wn (Wc false rfl (Wk ?_))))))
   cases hx : pG k (T.drop i2) with
   | none =>
    refine Wq (V9 rfl (V0 rfl (Ud rfl (Va [.pointer _, .int .i64 _] rfl func32 rfl ?_))))
    refine (hGen (d + 1) T sgs c i2 p g S w0 _ H (by omega) hP hi2 hI2 hG hS).mono ?_
    unfold ReadPost
    rintro e w3 (⟨ge, v, L', i', h, -⟩ | ⟨-, U, u, i', rfl, hi', hI3⟩)
    ·rw [hx] at h; cases h
    refine rV ?_
    refine Vz rfl (Vg rfl (Vg rfl (Vj rfl (Vp rfl (Wn (Ws (Wq (Vy rfl (Tl rfl yy34 rfl (Wn (Wc true rfl (Ws ?_))))))))))))
    refine Wr (Vy rfl (Vj rfl (Vp rfl (Wn ?_))))
    exact WR (r2_ 4 5 rfl (.inr ⟨rfl, U, u, i', rfl, hi', hI3⟩))
   | some q =>
    obtain ⟨ge, r⟩ := q
    refine Wq (V9 rfl (V0 rfl (Ud rfl (Va [.pointer _, .int .i64 _] rfl func32 rfl ?_))))
    refine (hGen (d + 1) T sgs c i2 p g S w0 _ H (by omega) hP hi2 hI2 hG hS).mono ?_
    unfold ReadPost
    rintro e w3 (⟨ge', v, M, i3, h, rfl, hM, hi3, hI3⟩ | ⟨h, -⟩)
    rotate_left
    ·rw [hx] at h; cases h
    rw [hx] at h
    cases h
    obtain ⟨Tv, bv, rfl⟩ := hM.val
    refine rV ?_
    refine Vz rfl (Vg rfl (Vg rfl (Vp rfl (Vj rfl (Wn (Ws (Wq (T8 rfl (Te rfl yy34 rfl (Wn (Wc false rfl (Wk ?_))))))))))))
    have hI := hI3
    refine Wq (Vy rfl (V0 rfl (Td [(0, _), (1, .int .i64 _)] [_, _] rfl [.nilIface, .int .i64 0] [0, 1] rfl (fun _ => by kernel_rfl) (Tb (.agg _) (#[_, _]) hI rfl ?_))))
    rintro b74 w - - hI
    refine T6 rfl underlying174 rfl (Vp rfl (Vj rfl (Wn ?_)))
    exact WR (r2_ 4 5 rfl (.inl ⟨.lim m ge, _, _, i3, rfl, rfl, .lim (b := b74) (by omega) hM, hi3, hI.sw0.sw1⟩))
 rw [if_neg hli]
 by_cases hmi : t = tMix
 ·subst hmi
  rw [if_pos rfl]
  refine Wq (U3 rfl ?_)
  refine V8 rfl (Wn (Wc false rfl (Wq (U3 rfl ?_))))
  refine V8 rfl (Wn (Wc false rfl (Wq (U3 rfl ?_))))
  refine V8 rfl (Wn (Wc false rfl (Ws (Wq (Uj rfl (V8 rfl (Wn (Wc true rfl (Wk (Wc true rfl (Ws (Wr ?_))))))))))))
  refine V9 rfl (Va [.pointer _] rfl func70 rfl ?_)
  refine (htk _ hI').mono ?_
  rintro e w1 ⟨rfl, i1, hi1, hd1, hI1⟩
  refine rV ?_
  refine T4 rfl (Wn ?_)
  rw [← hd1]
  cases hx : pV (pG k) (T.drop i1) with
  | none =>
   refine Wq (V9 rfl (V0 rfl (Ud rfl (Va [.pointer _, .int .i64 _] rfl func73 rfl ?_))))
   refine (hSev (d + 1) T sgs c i1 p g S w0 _ H (by omega) hP hi1 hI1 hG hS).mono ?_
   unfold SevPost
   rintro e w2 (⟨gs, vs, L, A, c', i2, h, -⟩ | ⟨-, U, u, i2, rfl, hi2, hI2⟩)
   ·rw [hx] at h; cases h
   refine rV ?_
   refine Vz rfl (Vg rfl (Vg rfl (Vo rfl (Vp rfl (Wn (Ws (Wb (Wq (Vy rfl (Tl rfl yy34 rfl (V8 rfl (Wn ?_))))))))))))
   refine Wc true rfl (Wq (Vy rfl (Vj rfl (Vp rfl (Wn ?_)))))
   exact WR (r2_ 4 5 rfl (.inr ⟨rfl, U, u, i2, rfl, hi2, hI2⟩))
  | some q =>
   obtain ⟨gs, r1⟩ := q
   refine Wq (V9 rfl (V0 rfl (Ud rfl (Va [.pointer _, .int .i64 _] rfl func73 rfl ?_))))
   refine (hSev (d + 1) T sgs c i1 p g S w0 _ H (by omega) hP hi1 hI1 hG hS).mono ?_
   unfold SevPost
   rintro e w2 (⟨gs', vs, L, A, c', i2, h, rfl, hR, hgl, hi2, hI2⟩ | ⟨h, -⟩)
   rotate_left
   ·rw [hx] at h; cases h
   rw [hx] at h
   cases h
   refine rV ?_
   refine Vz rfl (Vg rfl (Vg rfl (Vo rfl (Vj rfl (Wn (Ws (Wb (Wq (T8 rfl (Te rfl yy34 rfl (V8 rfl (Wn ?_))))))))))))
   refine Wc false rfl ?_
   have hI := hI2
   refine Wq (Vh rfl (Uj rfl (V8 rfl (Wn (Wc true rfl (Wq (Vi rfl (Td [(0, .slice _ _ _)] [_] rfl [.slice none 0 0] [0] rfl (fun _ => by kernel_rfl) (Tb (.agg _) #[_] hI rfl ?_)))))))))
   rintro b97 w - - hI
   refine T6 rfl underlying180 rfl (Vp rfl (Vj rfl (Wn ?_)))
   exact WR (r2_ 4 5 rfl (.inl ⟨.mix gs, _, _, i2, rfl, rfl, .mix (b := b97) (by omega) hR, hi2, hI.sw0.sw1⟩))
 rw [if_neg hmi]
 by_cases hth : t = tThen
 ·subst hth
  rw [if_pos rfl]
  refine Wq (U3 rfl ?_)
  refine V8 rfl (Wn (Wc false rfl (Wq (U3 rfl ?_))))
  refine V8 rfl (Wn (Wc false rfl (Wq (U3 rfl ?_))))
  refine V8 rfl (Wn (Wc false rfl (Ws (Wq (U3 rfl ?_)))))
  refine V8 rfl (Wn (Wc false rfl (Wr (Uj rfl (V8 rfl (Wn (Wc true rfl (Wq (V9 rfl (Va [.pointer _] rfl func70 rfl ?_))))))))))
  refine (htk _ hI').mono ?_
  rintro e w1 ⟨rfl, i1, hi1, hd1, hI1⟩
  refine rV ?_
  refine T4 rfl (Wn ?_)
  rw [← hd1]
  cases hx : pV (pG k) (T.drop i1) with
  | none =>
   refine Wq (V9 rfl (V0 rfl (Ud rfl (Va [.pointer _, .int .i64 _] rfl func73 rfl ?_))))
   refine (hSev (d + 1) T sgs c i1 p g S w0 _ H (by omega) hP hi1 hI1 hG hS).mono ?_
   unfold SevPost
   rintro e w2 (⟨gs, vs, L, A, c', i2, h, -⟩ | ⟨-, U, u, i2, rfl, hi2, hI2⟩)
   ·rw [hx] at h; cases h
   refine rV ?_
   refine Vz rfl (Vg rfl (Vg rfl (Vo rfl (Vp rfl (Wn (Ws (Wb (Wq (Vy rfl (Tl rfl yy34 rfl (V8 rfl (Wn ?_))))))))))))
   refine Wc true rfl (Wq (Vy rfl (Vj rfl (Vp rfl (Wn ?_)))))
   exact WR (r2_ 4 5 rfl (.inr ⟨rfl, U, u, i2, rfl, hi2, hI2⟩))
  | some q =>
   obtain ⟨gs, r1⟩ := q
   refine Wq (V9 rfl (V0 rfl (Ud rfl (Va [.pointer _, .int .i64 _] rfl func73 rfl ?_))))
   refine (hSev (d + 1) T sgs c i1 p g S w0 _ H (by omega) hP hi1 hI1 hG hS).mono ?_
   unfold SevPost
   rintro e w2 (⟨gs', vs, L, A, c', i2, h, rfl, hR, hgl, hi2, hI2⟩ | ⟨h, -⟩)
   rotate_left
   ·rw [hx] at h; cases h
   rw [hx] at h
   cases h
   refine rV ?_
   refine Vz rfl (Vg rfl (Vg rfl (Vo rfl (Vj rfl (Wn (Ws (Wb (Wq (T8 rfl (Te rfl yy34 rfl (V8 rfl (Wn ?_))))))))))))
   refine Wc false rfl ?_
   have hI : Inv S w0 w2 (parE p g sgs c i2 :: sgE g sgs :: Win 50 1 A gs.length c' vs :: (L ++ H)) := ((hI2.pull 2 rfl).winOf).back 2
   refine Wq (Vh rfl (U3 rfl ?_))
   refine V8 rfl (Wn (Wc false rfl (Wk (Wq (Vi rfl (Td [(0, .slice _ _ _)] [_] rfl [.slice none 0 0] [0] rfl (fun _ => by kernel_rfl) (Tb (.agg _) #[_] hI rfl ?_)))))))
   rintro b101 w - - hI
   refine T6 rfl underlying183 rfl (Vp rfl (Vj rfl (Wn ?_)))
   exact WR (r2_ 4 5 rfl (.inl ⟨.thn gs, _, _, i2, rfl, rfl, .thn (b := b101) (by omega) hR, hi2, hI.sw0.sw1⟩))
 rw [if_neg hth]
 refine Wq (U3 rfl ?_)
 refine V8 rfl (Wn (Wc false rfl (Wq (U3 rfl ?_))))
 refine V8 rfl (Wn (Wc false rfl (Wq (U3 rfl ?_))))
 refine V8 rfl (Wn (Wc false rfl (Ws (Wq (U3 rfl ?_)))))
 refine V8 rfl (Wn (Wc false rfl (Wr (U3 rfl ?_))))
 refine V8 rfl (Wn (Wc false rfl (Wk (Wq (V9 rfl (Va [.pointer _, .int .i64 _] rfl func69 rfl ?_))))))
 refine (wrong_any T sgs c i p g S w0 _ H 3 hP hi hI').mono ?_
 rintro e w1 ⟨⟨U, u, rfl⟩, hI1⟩
 refine rV ?_
 refine Vj rfl (Vp rfl (Wn ?_))
 exact WR (r2_ 4 5 rfl (.inr ⟨rfl, U, u, i, rfl, hi, hI1⟩))
theorem gen_zero : GenOk 0 := by
 intro d T sgs c i p g S w0 w H hd hP hi hI hG hS
 unfold ReadPost
 refine Vn func32 rfl ?_
 refine Wq (Vj rfl (Vj rfl (Wn (Ws (Wq (V0 rfl (Tq rfl (Wn (Wc true rfl (Ws (Wr ?_)))))))))))
 refine V9 rfl (Va [.pointer _, .int .i64 _] rfl func69 rfl ?_)
 refine (wrong_any T sgs c i p g S w0 _ H 4 hP hi hI).mono ?_
 rintro e w1 ⟨⟨U, u, rfl⟩, hI1⟩
 refine rV ?_
 refine Vj rfl (Vp rfl (Wn ?_))
 exact WR (r2_ 4 5 rfl (.inr ⟨rfl, U, u, i, rfl, hi, hI1⟩))
theorem gen_any : ∀ (k : Nat), k ≤ 20 → GenOk k
 | 0, _ => gen_zero
 | k + 1, h => gen_step k h (gen_any k (by omega))
def parsedT (bs : List UInt8) : Option Ge := if bs.length ≤ 2000 then parsed bs else none
theorem sgE_of {S : Nat → Prop} {w0 w : World} {H : List Ent} {A : Option Addr} {n c : Nat} {out : List Sg} (hI : Inv S w0 w (Row 0 167 2 A n c (out.flatMap sgL) :: H)) (hn : 0 < n) : ∃ g, A = some ⟨g, 0, none⟩ ∧ n ≤ c ∧ c ≤ 9223372036854775807 ∧ Inv S w0 w (sgE g out :: H) := by
 have h1 : w.ownsRow 0 167 2 (.slice A n c) n (out.flatMap sgL) := (hI.ok _ (List.mem_cons_self ..)).1
 rcases h1.2 with ⟨hv, h0⟩ | ⟨g, cap, cur, hv, hb, hh, hnc, hcm, hcs, htake⟩
 ·omega
 injection hv with q1 q2 q3
 subst q1 q3
 have hB : Blk w g 167 cur := hh
 have hP : ∀ j u, (out.flatMap sgL)[j]? = some u → cur[j]? = some u := fun j u hj => by
  rw [← htake, List.getElem?_take] at hj
  split at hj
  ·rwa [Array.getElem?_toList] at hj
  cases hj
 refine ⟨g, rfl, hnc, hcm, hI.u0 (e' := sgE g out) (Chg.refl _ _) (Ent.mk_ok ⟨_, cur, hB, hP⟩ (fun k hk => ?_) (fun S w1 w2 hc hS h1 => ?_)) (fun k hk => .inl ?_)⟩
 ·have : k = g := hk
  subst this
  exact hB.lt
 ·obtain ⟨T, cur', hb', hc'⟩ := h1
  exact ⟨T, cur', Blk.chg hb' hc (hS g rfl), hc'⟩
 have : k = g := hk
 subst this
 rfl
theorem parsed_some {bs : List UInt8} {g : Ge} {r : List Tok} (h : pG 20 (toks bs) = some (g, r)) : parsed bs = if r = [] then some g else none := by
 unfold parsed
 rw [h]
 cases r with
 | nil => rfl
 | cons a r => rfl
theorem parsed_none {bs : List UInt8} (h : pG 20 (toks bs) = none) : parsed bs = none := by
 unfold parsed
 rw [h]
theorem parse_any (bs : List UInt8) (w0 : World) (hG : NumG w0) (hb : bs.length ≤ 9000000000000000000) :
  Cq 12 #[strV bs] w0 fun e w' => (∃ g v L, parsedT bs = some g ∧ e = .returned (.tuple #[v, .nilIface]) ∧ Rep g v L ∧ Inv NF w0 w' L) ∨
   (parsedT bs = none ∧ (∃ U u, e = .returned (.tuple #[.nilIface, .iface U u])) ∧ Pure w0 w') := by
 have hI := Inv.start (fun _ => False) w0
 unfold parsedT
 refine Vn func12 rfl ?_
 refine Wq (Vj rfl (Vj rfl (Wn ?_)))
 by_cases hl : bs.length ≤ 2000
 rotate_left
 ·refine Ws (Wq (Vh rfl (T0 rfl yy9 rfl (Tq rfl (Wn (Wc true rfl (Wq (T6 rfl yy45 rfl (Vj rfl (Vp rfl (Wn ?_)))))))))))
  exact WR (r2_ 2 3 rfl (.inr ⟨if_neg hl, ⟨_, _, rfl⟩, hI.pu⟩))
 rw [if_pos hl]
 refine Ws (Wq (Vh rfl (T0 rfl yy9 rfl (Tc rfl (Wn (Wc false rfl (Wk (Wq (Vh rfl (Va [.string _] rfl func31 rfl ?_))))))))))
 refine (signs_any bs _ (by omega)).mono ?_
 rintro e w1 ⟨A, c, out, rfl, hout, hJ⟩
 refine rV ?_
 have hI := hI.app1 hJ
 have hlen : out.length = (toks bs).length + 1 := by
  have := congrArg List.length hout
  simpa using this
 obtain ⟨g, rfl, hnc, hc63, hI⟩ := sgE_of hI (by omega)
 have hP : Ptx (toks bs) out c := ⟨hout, tg_ne bs [], hnc, hc63, by have := toks_len bs; omega, fun t ht => by have := toks_tok bs t ht; omega⟩
 refine Td [(0, .slice _ _ _)] [_] rfl [.slice none 0 0] [0] rfl (fun _ => by kernel_rfl) (Tb (.agg _) #[_] hI rfl ?_)
 rintro b14 w - - hI
 refine Tm rfl (Wn ?_)
 have hI0 : Inv NF w0 w (parE b14 g out c 0 :: sgE g out :: []) := hI
 have hge := gen_any 20 (by omega) 0 (toks bs) out c 0 b14 g (fun _ => False) w0 w [] rfl hP (Nat.zero_le _) hI0 hG NoG.none
 rw [List.drop_zero] at hge
 unfold ReadPost at hge
 cases hx : pG 20 (toks bs) with
 | none =>
  rw [hx] at hge
  refine Wq (V9 rfl (Va [.pointer _, .int .i64 _] rfl func32 rfl ?_))
  refine hge.mono ?_
  rintro e w2 (⟨ge, v, L, i', h, -⟩ | ⟨-, U, u, i', rfl, hi', hI2⟩)
  ·cases h
  refine rV ?_
  refine Vz rfl (Vg rfl (Vg rfl (Vj rfl (Vp rfl (Wn (Ws (Wq (Vy rfl ?_))))))))
  refine Wv rfl (by exact rIfaceEq rfl yy34 rfl rfl) ?_
  refine Wn (Wc false rfl (Wk (Ws (Wq (Vy rfl (Tl rfl yy34 rfl (Wn (Wc true rfl (Wq (Vy rfl (Vj rfl ?_)))))))))))
  refine Vp rfl (Wn ?_)
  exact WR (r2_ 2 3 rfl (.inr ⟨parsed_none hx, ⟨U, u, rfl⟩, hI2.pu⟩))
 | some q =>
  obtain ⟨ge, r⟩ := q
  rw [parsed_some hx]
  rw [hx] at hge
  refine Wq (V9 rfl (Va [.pointer _, .int .i64 _] rfl func32 rfl ?_))
  refine hge.mono ?_
  rintro e w2 (⟨ge', v, L, i', h, rfl, hR, hi', hI2⟩ | ⟨h, -⟩)
  rotate_left
  ·cases h
  cases h
  obtain ⟨Tv, bv, rfl⟩ := hR.val
  refine rV ?_
  refine Vz rfl (Vg rfl (Vg rfl (Vp rfl (Vj rfl (Wn (Ws (Wq (T8 rfl ?_))))))))
  refine Wv rfl (by exact rNilEq rfl yy34 rfl) ?_
  refine Wn (Wc true rfl ?_)
  by_cases hr : (toks bs).drop i' = []
  ·rw [if_pos hr]
   refine Wr (V9 rfl (Va [.pointer _, .string _] rfl func33 rfl ?_))
   refine (expect_any (toks bs) out c i' b14 g _ w0 _ _ [] hP hi' hI2).mono ?_
   rintro e w3 (⟨h, rfl, i4, hi4, hd4, hI3⟩ | ⟨h, -⟩)
   rotate_left
   ·exact absurd (by rw [hr]; rfl) h
   refine rV ?_
   refine Vj rfl (Wn (Ws (Wq (T8 rfl (Te rfl yy34 rfl (Wn (Wc false rfl (Wk (Wq (Vy rfl (Vp rfl ?_)))))))))))
   refine Vj rfl (Wn ?_)
   exact WR (r2_ 2 3 rfl (.inl ⟨ge, _, L, rfl, rfl, hR, by have := hI3.d0.d0; rwa [List.append_nil] at this⟩))
  rw [if_neg hr]
  have hne : headT ((toks bs).drop i') ≠ [] := by
   have hlt : i' < (toks bs).length := Nat.lt_of_not_le fun hn => hr (List.drop_of_length_le hn)
   rw [List.drop_eq_getElem_cons hlt]
   exact hP.ne _ (List.getElem_mem hlt)
  refine Wr (V9 rfl (Va [.pointer _, .string _] rfl func33 rfl ?_))
  refine (expect_any (toks bs) out c i' b14 g _ w0 _ _ [] hP hi' hI2).mono ?_
  rintro e w3 (⟨h, -⟩ | ⟨h, ⟨U, u, rfl⟩, hI3⟩)
  ·exact absurd h hne
  refine rV ?_
  refine Vp rfl (Wn (Ws (Wq (Vy rfl (Tl rfl yy34 rfl (Wn (Wc true rfl (Wq (Vy rfl (Vj rfl (Vp rfl ?_)))))))))))
  refine Wn ?_
  exact WR (r2_ 2 3 rfl (.inr ⟨rfl, ⟨U, u, rfl⟩, hI3.pu⟩))
end Go.Proofs.YtlkobbighkiojaaGreatDoor
