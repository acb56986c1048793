/- Texts of the proof, merged: StoM, StoN, StoO, FarB, FarC, StoMv, SlI, Gen5, Gen7. -/
import Derived.Test.YthndpiopbdecfaaGreatDoorPStoL
import Derived.Test.YthndpiopbdecfaaGreatDoorPStoA
import Derived.Test.YthndpiopbdecfaaGreatDoorProg
namespace Go.Proofs.YthndpiopbdecfaaGreatDoor
open Go.RowKit
set_option linter.unusedVariables false
set_option linter.unusedSimpArgs false
theorem mid_get {l r : List Value} {v : Value} {a : Nat} (h : l.length = a) : (l ++ v :: r).toArray[a]? = some v := by
 subst h; simp
theorem mid_set {l r : List Value} {v u : Value} {a : Nat} (h : l.length = a) : (l ++ v :: r).toArray.setIfInBounds a u = (l ++ u :: r).toArray := by
 subst h; simp
theorem mid_blt {l r : List Value} {v : Value} {a : Nat} (h : l.length = a) : Nat.blt a (l ++ v :: r).toArray.size = true := by
 subst h; rw [Nat.blt_eq]; simp
theorem rep_nil_succ {n a : Nat} (h : a < n) : List.replicate (n - a) (Value.slice none 0 0) = .slice none 0 0 :: List.replicate (n - (a + 1)) (.slice none 0 0) := by
 rw [show n - a = (n - (a + 1)) + 1 by omega, List.replicate_succ]
theorem flat_rep (n : Nat) (v : Value) : flatB n (fun _ => [v]) = (([] : List Value) ++ List.replicate (n - 0) v).toArray := by
 unfold flatB
 congr 1
 rw [List.nil_append, Nat.sub_zero]
 induction n with
 | zero => rfl
 | succ n ih => rw [List.range_succ, List.flatMap_append, ih, List.replicate_succ']; rfl
set_option maxRecDepth 4000 in
set_option maxHeartbeats 4000000 in
theorem links_ok (F n : Nat) (fn : Func) (cap : List Value) (w0 : World) (hf : Tryz.prog.funcs[F]? = some fn) (hfn : (fn.name == "runtime.NumGoroutine") = false) (hfb : fn.body.isNone = false) (hn : 1 ≤ n ∧ n ≤ 7) (hC : CanF F cap w0) :
  Calls Tryz.prog 103 #[.int .i64 (n : Int), .func (.func F) #[] cap.toArray] w0 fun en w' => ∃ g vals D, en = .returned (.tuple #[.slice (some ⟨g, 0, none⟩) n n, .nilIface]) ∧ vals.length = n ∧ Inv (fun _ => False) w0 w' [Row 0 70 1 (some ⟨g, 0, none⟩) n n vals, RowsE vals D] := by
 have hI := Inv.start (fun _ => False) w0
 refine Vm Tryz.f103.ntmps Tryz.func103 rfl ?_
 refine W_seq (W_region (Vl rfl (Vf rfl (WL_nil (W_seq (W_seq (W_region (V0 rfl (Vn rfl (V2 rfl (V0 rfl (Td rfl (V8 rfl ?_)))))))))))))
 refine WL_nil (W_cond false rfl (W_skip (W_seq (W_region (V0 rfl ?_)))))
 refine WL_mkZ (n := n) (m := 1) (by_ := 24) (z := .slice none 0 0) [.slice none 0 0] hI rfl rfl rfl rfl rfl rfl Tryz.underlying95 (by kernel_rfl) rfl rfl (by omega) (by omega) (by omega) ?_
 clear hI; rintro g w - - hI
 refine Vl rfl (WL_nil ?_)
 have hst : flatB n (fun _ => [Value.slice none 0 0]) = (([] : List Value) ++ List.replicate (n - 0) (Value.slice none 0 0)).toArray := flat_rep n _
 rw [hst] at hI
 replace hI := (hI.fresh (Pure.refl _) (RowsE.ok (w := w) (vals := []) (D := fun _ => False) (fun _ h => h.elim) (fun v hv => by simp at hv)) (fun k hk => hk.elim)).sw0
 refine W_seq_cut (fun ρ w => ∃ (vals : List Value) (D : Nat → Prop), vals.length = n ∧ Has ρ [(6, .slice (some ⟨g, 0, none⟩) n n)] ∧ Inv (fun _ => False) w0 w [B g 70 (vals ++ List.replicate (n - n) (Value.slice none 0 0)).toArray, RowsE vals D]) ?_ ?_
 ·refine W_seq (W_region (Ve rfl (Vs rfl Tryz.underlying95 rfl (V0 rfl (WL_nil (W_block ?_))))))
  refine W_loop (fun ρ w => ∃ (a : Nat) (vals : List Value) (D : Nat → Prop), a ≤ n ∧ vals.length = a ∧ Has ρ [(20, .int .i64 (a : Int)), (19, .int .i64 (n : Int)), (0, .int .i64 (n : Int)), (1, .func (.func F) #[] cap.toArray), (6, .slice (some ⟨g, 0, none⟩) n n)] ∧ Inv (fun _ => False) w0 w [B g 70 (vals ++ List.replicate (n - a) (Value.slice none 0 0)).toArray, RowsE vals D]) (fun ρ _ => n - cnt (ρ 20))
   ⟨0, [], fun _ => False, by omega, rfl, ⟨rfl, rfl, rfl, rfl, rfl, trivial⟩, hI⟩ ?_
  clear hI
  rintro ρ w ⟨a, vals, D, ha, hvl, hH, hI⟩
  obtain ⟨σ, rfl⟩ := hH.open
  by_cases han : a < n
  rotate_left
  ·obtain rfl : a = n := by omega
   refine W_seq (W_region (Vn rfl (WL_nil (W_seq (W_cond false rfl ?_)))))
   refine W_exit ?_
   exact ⟨vals, D, hvl, ⟨rfl, trivial⟩, hI⟩
  refine W_seq (W_region (Vp rfl (WL_nil (W_seq (W_cond true rfl (W_skip (W_seq (W_block (W_seq (W_region (V0 rfl (Va rfl (WL_nil ?_)))))))))))))
  refine W_seq (W_region (V0 rfl (V0 rfl (WL_nil ?_))))
  rw [rep_nil_succ han] at hI
  replace hI := hI.fresh (Pure.refl _) (Row.nil _ 0 4 1) (fun k hk => by simp [Row] at hk)
  refine W_block ?_
  refine W_loop (fun ρ w => ∃ (b : Nat) (l : List Bool) (A : Option Addr) (c : Nat), b ≤ n ∧ l.length = b ∧ Has ρ [(24, .int .i64 (b : Int)), (23, .int .i64 (n : Int)), (7, .int .i64 (a : Int)), (20, .int .i64 (a : Int)), (19, .int .i64 (n : Int)), (0, .int .i64 (n : Int)), (1, .func (.func F) #[] cap.toArray), (6, .slice (some ⟨g, 0, none⟩) n n)] ∧
   Inv (fun _ => False) w0 w [Row 0 4 1 A b c (boolsV l), B g 70 (vals ++ Value.slice A b c :: List.replicate (n - (a + 1)) (Value.slice none 0 0)).toArray, RowsE vals D]) (fun ρ _ => n - cnt (ρ 24))
   ⟨0, [], none, 0, by omega, rfl, ⟨rfl, rfl, rfl, rfl, rfl, rfl, rfl, rfl, trivial⟩, hI⟩ ?_
  clear hI
  rintro ρ w ⟨b, l, A, c, hb, hll, hH, hI⟩
  obtain ⟨σ, rfl⟩ := hH.open
  by_cases hbn : b < n
  rotate_left
  ·obtain rfl : b = n := by omega
   refine W_seq (W_region (Vn rfl (WL_nil (W_seq (W_cond false rfl ?_)))))
   refine W_exit ?_
   refine W_region (Vu rfl (V0 rfl (WL_nil ?_)))
   have h2 := (hI.sw1.rowsIn hll.symm (by omega)).sw0
   have e1 : (vals ++ Value.slice A b c :: List.replicate (b - (a + 1)) (.slice none 0 0)) = (vals ++ [.slice A b c]) ++ List.replicate (b - (a + 1)) (.slice none 0 0) := by simp
   rw [e1] at h2
   refine ⟨⟨a + 1, vals ++ [.slice A b c], _, by omega, by simp [hvl], ⟨rfl, rfl, rfl, rfl, rfl, trivial⟩, h2⟩, by show b - ((a + 1 : Nat) : Int).toNat < b - (a : Int).toNat; omega⟩
  have hga : ∀ w, Inv (fun _ => False) w0 w [B g 70 (vals ++ Value.slice A b c :: List.replicate (n - (a + 1)) (Value.slice none 0 0)).toArray, RowsE vals D] → w.cell? ⟨g, a, none⟩ = some (.slice A b c) := fun w hI => hI.cell 0 rfl (mid_get hvl)
  refine W_seq (W_region (Vp rfl (WL_nil (W_seq (W_cond true rfl (W_skip ?_))))))
  refine W_seq_cut (fun ρ w => ∃ (r : Bool) (A' : Option Addr) (c' : Nat), Has ρ [(24, .int .i64 (b : Int)), (23, .int .i64 (n : Int)), (7, .int .i64 (a : Int)), (20, .int .i64 (a : Int)), (19, .int .i64 (n : Int)), (0, .int .i64 (n : Int)), (1, .func (.func F) #[] cap.toArray), (6, .slice (some ⟨g, 0, none⟩) n n)] ∧
   Inv (fun _ => False) w0 w [Row 0 4 1 A' (b + 1) c' (boolsV (l ++ [r])), B g 70 (vals ++ Value.slice A' (b + 1) c' :: List.replicate (n - (a + 1)) (Value.slice none 0 0)).toArray, RowsE vals D]) ?_ ?_
  ·refine W_block (W_seq (W_region (V0 rfl (Va rfl (WL_nil ?_)))))
   have hbools : ∀ r : Bool, boolsV l ++ [.bool r] = boolsV (l ++ [r]) := fun r => by simp [boolsV]
   by_cases hab : a = b
   ·refine W_draw (by kernel_rfl) ?_
    refine WA_inv (T := [18]) hI.d0.drew ?_
    intro Sx hSx hXS
    replace hI := hI.drew
    refine T9 0 (hXS _ hI.d0) rfl (Vw 1 (hXS _ hI.d0) rfl (T9 2 (hXS _ hI.d0) rfl (Vw 3 (hXS _ hI.d0) rfl (U1 4 (hXS _ hI.d0) rfl Tryz.underlying95 rfl (V9 5 (.slice _ _ _) (hXS _ hI.d0) rfl (fun W hW => have hI := hSx W hW; hga _ hI) (Vw 6 (hXS _ hI.d0) rfl (Vw 7 (hXS _ hI.d0) rfl ?_)))))))
    refine WT_take 8 rfl rfl (by kernel_rfl) (hXS _ hI.d0) rfl (fun W hW => have hI := hSx W hW; (by exact rEqlT rfl rfl rfl (by omega))) ?_
    refine T5 9 (hXS _ hI.d0) rfl (Vj 10 rfl (hXS _ hI.d0) rfl (Vj 11 rfl (hXS _ hI.d0) rfl (Vj 12 rfl (hXS _ hI.d0) rfl (Vj 13 rfl (hXS _ hI.d0) rfl (Tu 14 (hXS _ hI.d0) rfl (Vt 15 rfl ?_))))))
    refine Vy [(0, .bool _)] [_] [.bool false] [0] hI rfl Tryz.underlying70 (fun _ => by kernel_rfl) ?_
    clear hI; rintro b42 w - - hI
    refine WL_nil ⟨hXS _ hI.d0.d0, ?_⟩
    refine Vt 16 rfl ?_
    refine Tq 1 (.bool false) hI rfl Tryz.underlying70 rfl (by rfl) hI.lit0 (by rfl) (Nat.zero_le _) ?_
    clear hI; rintro A43 c43 w hA43 hc43 hI
    replace hI := hI.d0
    refine WL_nil ⟨hXS _ hI.d0, ?_⟩
    refine U1 17 (hXS _ hI.d0) rfl Tryz.underlying95 rfl ?_
    refine WT_A (by kernel_rfl) ?_
    clear hXS hSx
    refine T2 18 rfl ?_
    refine WL_st1 (u := .slice A43 (b + 1) c43) (j := a) hI rfl rfl rfl rfl rfl rfl (by kernel_rfl) rfl (mid_blt hvl) (mid_set hvl) ?_
    clear hI; intro w hI
    refine WL_nil ?_
    refine WA_end (by kernel_rfl) ?_
    have e := hbools true
    exact ⟨true, A43, c43, ⟨rfl, rfl, rfl, rfl, rfl, rfl, rfl, rfl, trivial⟩, by rw [← e]; exact hI⟩
   ·refine W_draw (by kernel_rfl) ?_
    refine WA_inv (T := [18]) hI.d0.drew ?_
    intro Sx hSx hXS
    replace hI := hI.drew
    refine T9 0 (hXS _ hI.d0) rfl (Vw 1 (hXS _ hI.d0) rfl (T9 2 (hXS _ hI.d0) rfl (Vw 3 (hXS _ hI.d0) rfl (U1 4 (hXS _ hI.d0) rfl Tryz.underlying95 rfl (V9 5 (.slice _ _ _) (hXS _ hI.d0) rfl (fun W hW => have hI := hSx W hW; hga _ hI) (Vw 6 (hXS _ hI.d0) rfl (Vw 7 (hXS _ hI.d0) rfl ?_)))))))
    refine WT_take 8 rfl rfl (by kernel_rfl) (hXS _ hI.d0) rfl (fun W hW => have hI := hSx W hW; (by exact rEqlF rfl rfl rfl (by omega))) ?_
    refine T5 9 (hXS _ hI.d0) rfl ?_
    refine WT_take 10 rfl rfl (by kernel_rfl) (hXS _ hI.d0) rfl (fun W hW => have hI := hSx W hW; (by exact rMoveF rfl rfl)) ?_
    refine Vw 11 (hXS _ hI.d0) rfl (Vw 12 (hXS _ hI.d0) rfl (Vt 13 rfl ?_))
    refine WL_call rfl rfl rfl (rCallF (first := []) (cap := cap) (vs := [.int .i64 (a : Int), .int .i64 (b : Int)] ++ cap) rfl rfl hf hfn hfb rfl) ?_
    refine (hC _ a b hI.pu (by omega) (by omega)).mono ?_
    rintro en w1 ⟨⟨r, rfl⟩, hp⟩
    refine ⟨_, rfl, ?_⟩
    replace hI := hI.pure hp
    refine WL_nil ⟨hXS _ hI.d0, ?_⟩
    refine Tm 14 (hXS _ hI.d0) rfl (Vt 15 rfl ?_)
    refine Vy [(0, .bool _)] [_] [.bool false] [0] hI rfl Tryz.underlying70 (fun _ => by kernel_rfl) ?_
    clear hI; rintro b42 w - - hI
    refine WL_nil ⟨hXS _ hI.d0.d0, ?_⟩
    refine Vt 16 rfl ?_
    refine Tq 1 (.bool false) hI rfl Tryz.underlying70 rfl (by rfl) hI.lit0 (by rfl) (Nat.zero_le _) ?_
    clear hI; rintro A43 c43 w hA43 hc43 hI
    replace hI := hI.d0
    refine WL_nil ⟨hXS _ hI.d0, ?_⟩
    refine U1 17 (hXS _ hI.d0) rfl Tryz.underlying95 rfl ?_
    refine WT_A (by kernel_rfl) ?_
    clear hXS hSx
    refine T2 18 rfl ?_
    refine WL_st1 (u := .slice A43 (b + 1) c43) (j := a) hI rfl rfl rfl rfl rfl rfl (by kernel_rfl) rfl (mid_blt hvl) (mid_set hvl) ?_
    clear hI; intro w hI
    refine WL_nil ?_
    refine WA_end (by kernel_rfl) ?_
    have e := hbools r
    exact ⟨r, A43, c43, ⟨rfl, rfl, rfl, rfl, rfl, rfl, rfl, rfl, trivial⟩, by rw [← e]; exact hI⟩
  ·clear hI
   rintro ρ w ⟨r, A', c', hH, hI⟩
   obtain ⟨σ, rfl⟩ := hH.open
   refine W_region (Vu rfl (V0 rfl (WL_nil ?_)))
   exact ⟨⟨b + 1, l ++ [r], A', c', by omega, by simp [hll], ⟨rfl, rfl, rfl, rfl, rfl, rfl, rfl, rfl, trivial⟩, hI⟩, by show n - ((b + 1 : Nat) : Int).toNat < n - (b : Int).toNat; omega⟩
 clear hI
 rintro ρ w ⟨vals, D, hvl, hH, hI⟩
 obtain ⟨σ, rfl⟩ := hH.open
 rw [Nat.sub_self, List.replicate_zero, List.append_nil] at hI
 refine W_seq (W_region (Ve rfl (Vl rfl (Vf rfl (WL_nil ?_)))))
 refine W_ret ?_
 refine ret2 4 5 (.inr rfl) rfl ⟨g, vals, D, rfl, hvl, ?_⟩
 have h2 := hI.u0 (e' := Row 0 70 1 (some ⟨g, 0, none⟩) n n vals.toArray.toList) (Chg.refl _ _) (Row.of_blk hI.g0 (Nat.zero_le _) (by simp [hvl]) (by omega)) (fun k hk => .inl (by have : some g = some k := hk; injection this with this; exact this.symm))
 exact h2
set_option maxHeartbeats 1000000 in
theorem links_bad (n : Int) (fv : Value) (w0 : World) (hn : n < 1 ∨ 7 < n) (hfv : ∃ F cap, fv = .func (.func F) #[] cap) :
  Calls Tryz.prog 103 #[.int .i64 n, fv] w0 fun en w' => (∃ z, en = .returned (.tuple #[.slice none 0 0, .iface 49 (.int .i64 z)])) ∧ Pure w0 w' := by
 have hI := Inv.start (fun _ => False) w0
 obtain ⟨F, cap, rfl⟩ := hfv
 refine Vm Tryz.f103.ntmps Tryz.func103 rfl ?_
 refine W_seq (W_region (Vl rfl (Vf rfl (WL_nil (W_seq ?_)))))
 refine W_seq_cut (fun ρ w => ρ 14 = .bool true ∧ Pure w0 w) ?_ ?_
 ·by_cases h1 : n < 1
  ·refine W_region (V0 rfl (Vp rfl (V2 rfl (V1 rfl (V1 rfl (Vd rfl (WL_nil ?_)))))))
   exact ⟨rfl, hI.pu⟩
  ·have h2 : 7 < n := by omega
   refine W_region (V0 rfl (Vn rfl (V2 rfl (V0 rfl (Ts rfl (V8 rfl (WL_nil ?_)))))))
   exact ⟨rfl, hI.pu⟩
 clear hI
 rintro ρ w ⟨h14, hp⟩
 refine W_cond true h14 (W_seq (W_region (Vx rfl Tryz.underlying49 rfl (Vl rfl (Vk rfl (WL_nil ?_))))))
 refine W_ret ?_
 exact ret2 4 5 (.inr rfl) rfl ⟨⟨_, rfl⟩, hp⟩
section
variable {P : Program} {ρ : Env} {w : World} {o : Oper} {x : Operand} {t t' e : TypeId}
theorem rSliceNeT {n c : Nat} {p : Addr} (ho : o.op = .binOp .neq t x (.const (.slice none 0 0)) t') (ht : P.underlying t = some (.slice e)) (hx : ev ρ x = .slice (some p) n c) : Runs P ρ o w (.bool true) := by
 have h := run_equal (P := P) (w := w) (t := t) (x := .slice (some p) n c) (y := .slice none 0 0) (r := false) (fun d => by simp [Op.equalIn, run_underlying ht])
 simp [Runs, execOp, ho, hx, show ev ρ (.const (.slice none 0 0)) = .slice none 0 0 from rfl, eqGuard, binOp, h]
theorem rSliceNeF {n c : Nat} (ho : o.op = .binOp .neq t x (.const (.slice none 0 0)) t') (ht : P.underlying t = some (.slice e)) (hx : ev ρ x = .slice none n c) : Runs P ρ o w (.bool false) := by
 have h := run_equal (P := P) (w := w) (t := t) (x := .slice none n c) (y := .slice none 0 0) (r := true) (fun d => by simp [Op.equalIn, run_underlying ht])
 simp [Runs, execOp, ho, hx, show ev ρ (.const (.slice none 0 0)) = .slice none 0 0 from rfl, eqGuard, binOp, h]
theorem rSliceNe {A : Option Addr} {n c : Nat} (ho : o.op = .binOp .neq t x (.const (.slice none 0 0)) t') (ht : P.underlying t = some (.slice e)) (hx : ev ρ x = .slice A n c) : Runs P ρ o w (.bool A.isSome) := by
 cases A with
 | none => exact rSliceNeF ho ht hx
 | some p => exact rSliceNeT ho ht hx
end
set_option maxRecDepth 4000 in
set_option maxHeartbeats 4000000 in
theorem ncut_any (L : StL) (s : StS) (A : Option Addr) (n c : Nat) (vals : List Value) (D : Nat → Prop) (hn : n ≤ 1000) (hvl : vals.length = n) (S : Nat → Prop) (w0 : World) (hI : Inv S w0 w0 ([Row 0 70 1 A n c vals, RowsE vals D] ++ spt L s)) :
  Calls Tryz.prog 74 #[.pointer (some ⟨L.sb, 7, none⟩), .slice A n c] w0 fun en w' => en = .returned (.tuple #[]) ∧ ∃ LA ln lc lv LD, Inv S w0 w' ([Row 0 70 1 A n c vals, RowsE vals D] ++ spt { L with LA := LA, ln := ln, lc := lc, cut := A.isSome, lv := lv, LD := LD } s) := by
 unfold spt at hI
 replace hI : Inv S w0 w0 [Row 0 70 1 A n c vals, RowsE vals D, B L.sb 100 (stoC L s), B L.nb 105 (flatB (s.n * 8) (ndF s)), B L.cb 209 (flatB s.k (clF L s)), Many s.k (cntE L s), Row 0 167 9 L.MA s.mails.length L.mc (s.mails.flatMap mailL), Row 0 70 1 L.LA L.ln L.lc L.lv, RowsE L.lv L.LD, Row 0 48 7 L.EA s.evs.length L.ec (s.evs.flatMap evL), Row 0 102 2 L.SA s.sts.length L.sc (s.sts.flatMap stmL)] := hI
 refine Vm Tryz.f74.ntmps Tryz.func74 rfl ?_
 refine W_seq (W_region (V7 rfl (V7 rfl (Ve rfl ?_))))
 refine WL_val rfl rfl rfl (rSliceNe rfl Tryz.underlying95 rfl) ?_
 refine Vb rfl (Tb 1 rfl ?_)
 refine WL_st 2 rfl (u := .slice none 0 0) (j := 8) hI rfl rfl rfl rfl rfl rfl (by kernel_rfl) rfl rfl rfl ?_
 clear hI; intro w hI
 refine Vb rfl (Tb 2 rfl ?_)
 refine WL_st 2 rfl (u := .bool A.isSome) (j := 9) hI rfl rfl rfl rfl rfl rfl (by kernel_rfl) rfl rfl rfl ?_
 clear hI; intro w hI
 refine WL_nil ?_
 replace hI := (((hI.erase 7).erase 7).fresh (Pure.refl _) (Row.nil _ 0 70 1) (fun k hk => by simp [Row] at hk)).back 7
 replace hI := (hI.fresh (Pure.refl _) (RowsE.ok (w := w) (vals := []) (D := fun _ => False) (fun _ h => h.elim) (fun v hv => by simp at hv)) (fun k hk => hk.elim)).back 8
 replace hI : Inv S w0 w ([Row 0 70 1 A n c vals, RowsE vals D] ++ spt { L with LA := none, ln := 0, lc := 0, cut := A.isSome, lv := [], LD := fun _ => False } s) := hI
 refine W_seq (W_region (Ve rfl (Vs rfl Tryz.underlying95 rfl (V0 rfl (WL_nil (W_block ?_))))))
 refine W_loop (fun ρ w => ∃ (i : Nat) (LA : Option Addr) (lc : Nat) (lv : List Value) (LD : Nat → Prop), i ≤ n ∧ lv.length = i ∧ Has ρ [(16, .int .i64 (i : Int)), (15, .int .i64 (n : Int)), (14, .slice A n c), (0, .pointer (some ⟨L.sb, 7, none⟩))] ∧ Inv S w0 w ([Row 0 70 1 A n c vals, RowsE vals D] ++ spt { L with LA := LA, ln := i, lc := lc, cut := A.isSome, lv := lv, LD := LD } s)) (fun ρ _ => n - cnt (ρ 16))
  ⟨0, none, 0, [], fun _ => False, by omega, rfl, ⟨rfl, rfl, rfl, rfl, trivial⟩, hI⟩ ?_
 clear hI
 rintro ρ w ⟨i, LA, lc, lv, LD, hi, hlv, hH, hI⟩
 obtain ⟨σ, rfl⟩ := hH.open
 by_cases hin : i < n
 rotate_left
 ·refine W_seq (W_region (Vn rfl (WL_nil (W_seq (W_cond false rfl ?_)))))
  refine W_exit ?_
  exact ret0 (.inl rfl) rfl ⟨rfl, LA, i, lc, lv, LD, hI⟩
 obtain ⟨v, hv⟩ : ∃ v, vals[i]? = some v := ⟨_, List.getElem?_eq_getElem (by omega)⟩
 have hvm := List.mem_of_getElem? hv
 have hrow : Rd w (fun _ => True) 1 (.slice A n c) n vals := Rd.of_own (hI.ok _ (List.mem_of_getElem? (i := 0) rfl)).1 (fun _ _ _ => trivial)
 obtain ⟨A', c', hve, q1, q2, q3, q4⟩ := hrow
 injection hve with e1 _ _
 subst e1
 obtain ⟨g, o, rfl, _, hc⟩ := q4 (by omega)
 have hcv := hc i v hv
 have hrs := (hI.ok _ (List.mem_of_getElem? (i := 1) rfl)).1
 obtain ⟨lb, hlb, hlbb⟩ := hrs.2 _ hvm
 obtain ⟨RA, rc, hve2, _, _⟩ := Rd.form hlb
 obtain ⟨m, hm⟩ : ∃ m, lb.length = m := ⟨_, rfl⟩
 rw [hm] at hve2
 subst hve2
 refine W_seq (W_region (Vp rfl (WL_nil (W_seq (W_cond true rfl (W_skip (W_seq (W_block (W_seq (W_region (Uf rfl Tryz.underlying95 rfl (V3 (.slice _ _ _) rfl hcv (Vl rfl ?_)))))))))))))
 refine WL_nil ?_
 clear hlb hrs hm hlbb
 unfold spt at hI
 replace hI := hI.pull 7 rfl
 replace hI : Inv S w0 w [Row 0 70 1 LA i lc lv, Row 0 70 1 (some ⟨g, o, none⟩) n c vals, RowsE vals D, B L.sb 100 (stoC { L with LA := LA, ln := i, lc := lc, cut := true, lv := lv, LD := LD } s), B L.nb 105 (flatB (s.n * 8) (ndF s)), B L.cb 209 (flatB s.k (clF L s)), Many s.k (cntE L s), Row 0 167 9 L.MA s.mails.length L.mc (s.mails.flatMap mailL), RowsE lv LD, Row 0 48 7 L.EA s.evs.length L.ec (s.evs.flatMap evL), Row 0 102 2 L.SA s.sts.length L.sc (s.sts.flatMap stmL)] := hI
 have h8 : ∀ w H, Inv S w0 w (RowsE vals D :: B L.sb 100 (stoC { L with LA := LA, ln := i, lc := lc, cut := true, lv := lv, LD := LD } s) :: H) → w.cell? ⟨L.sb, 8, none⟩ = some (.slice LA i lc) := fun w H hI => hI.cell 1 rfl rfl
 refine W_draw (by kernel_rfl) ?_
 refine WA_inv (T := [11]) hI.d0.d0.drew ?_
 intro Sx hSx hXS
 replace hI := hI.drew
 refine Vh 0 (hXS _ hI.d0.d0) rfl (Vh 1 (hXS _ hI.d0.d0) rfl (Vi 2 (hXS _ hI.d0.d0) rfl (T8 3 1 (hXS _ hI.d0.d0) rfl (V9 4 (.slice _ _ _) (hXS _ hI.d0.d0) rfl (fun W hW => have hI := hSx W hW; h8 _ _ hI) (T9 5 (hXS _ hI.d0.d0) rfl (Vt 6 rfl ?_))))))
 refine V6 [.slice _ _ _] rfl Tryz.func108 rfl ?_
 have hrs' := (hI.ok _ (List.mem_of_getElem? (i := 2) rfl)).1
 obtain ⟨lb', hlb', hb'⟩ := hrs'.2 _ hvm
 have hm' : m = lb'.length := by
  obtain ⟨_, _, he, _⟩ := Rd.form hlb'
  injection he
 refine (cloneB_any RA m rc lb' (fun _ => True) _ (by rw [hm'] at hlb' ⊢; exact Rd.mono hlb' fun _ _ => trivial) (by omega)).mono ?_
 rintro en w1 ⟨A2, c2, rfl, _, hJ⟩
 refine ⟨_, rfl, ?_⟩
 replace hI := hI.app1 hJ
 refine WL_nil ⟨hXS _ hI.d0.d0.d0, ?_⟩
 refine Vt 7 rfl ?_
 refine Vy [(0, .slice _ _ _)] [_] [.slice none 0 0] [0] hI rfl Tryz.underlying95 (fun _ => by kernel_rfl) ?_
 clear hI; rintro b27 w - - hI
 refine WL_nil ⟨hXS _ hI.d0.d0.d0.d0, ?_⟩
 refine Vt 8 rfl ?_
 refine WL_app2 (z := .slice none 0 0) (by_ := 24) (news := [.slice A2 m c2]) hI rfl rfl rfl rfl rfl rfl Tryz.underlying95 (by kernel_rfl) rfl (by omega) (by rfl) hI.lit0 rfl (by omega) (by omega) (Nat.zero_le _) ?_
 clear hI; rintro A28 c28 w _ hc28 hI
 refine WL_nil ⟨hXS _ hI.d0.d0.d0.d0, ?_⟩
 refine Vi 9 (hXS _ hI.d0.d0.d0.d0) rfl (T8 10 1 (hXS _ hI.d0.d0.d0.d0) rfl ?_)
 refine WT_A (by kernel_rfl) ?_
 clear hXS hSx
 refine T2 11 rfl ?_
 refine WL_st 5 rfl (u := .slice A28 (i + 1) c28) (j := 8) hI rfl rfl rfl rfl rfl rfl (by kernel_rfl) rfl rfl rfl ?_
 clear hI; intro w hI
 refine WL_nil ?_
 refine WA_end (by kernel_rfl) ?_
 refine W_region (Vu rfl (V0 rfl (WL_nil ?_)))
 replace hI := hI.d0
 have hA := (hI.pull 9 rfl).sw0
 have hB := ((hA.rowsIn hm' (by omega)).back 8).back 7
 refine ⟨⟨i + 1, A28, c28, lv ++ [Value.slice A2 m c2], (fun k => A2.map (·.block) = some k ∨ LD k), by omega, by simp [hlv], ⟨rfl, rfl, rfl, rfl, trivial⟩, hB⟩, by show n - ((i + 1 : Nat) : Int).toNat < n - (i : Int).toNat; omega⟩
/-- What those give that make links: a grid, or an error. -/
def LinkR (w0 : World) (v0 v1 : Value) (w' : World) : Prop :=
 (v1 = .nilIface ∧ ∃ (g n : Nat) (vals : List Value) (D : Nat → Prop), v0 = .slice (some ⟨g, 0, none⟩) n n ∧ vals.length = n ∧ (1 ≤ n ∧ n ≤ 7) ∧ Inv (fun _ => False) w0 w' [Row 0 70 1 (some ⟨g, 0, none⟩) n n vals, RowsE vals D]) ∨
 (v0 = .slice none 0 0 ∧ (∃ z, v1 = .iface 49 (.int .i64 z)) ∧ Pure w0 w')
theorem links_any (F : Nat) (n : Int) (fn : Func) (cap : List Value) (w0 : World) (hf : Tryz.prog.funcs[F]? = some fn) (hfn : (fn.name == "runtime.NumGoroutine") = false) (hfb : fn.body.isNone = false) (hC : ∀ m : Nat, n = (m : Int) → m ≤ 7 → CanF F cap w0) :
  Calls Tryz.prog 103 #[.int .i64 n, .func (.func F) #[] cap.toArray] w0 fun en w' => ∃ v0 v1, en = .returned (.tuple #[v0, v1]) ∧ LinkR w0 v0 v1 w' := by
 by_cases hn : 1 ≤ n ∧ n ≤ 7
 ·obtain ⟨m, rfl⟩ : ∃ m : Nat, n = (m : Int) := ⟨n.toNat, by omega⟩
  refine (links_ok F m fn cap w0 hf hfn hfb (by omega) (hC m rfl (by omega))).mono ?_
  rintro en w' ⟨g, vals, D, rfl, hl, hI⟩
  exact ⟨_, _, rfl, .inl ⟨rfl, g, m, vals, D, rfl, hl, by omega, hI⟩⟩
 ·refine (links_bad n _ w0 (by omega) ⟨F, cap.toArray, rfl⟩).mono ?_
  rintro en w' ⟨⟨z, rfl⟩, hp⟩
  exact ⟨_, _, rfl, .inr ⟨rfl, ⟨z, rfl⟩, hp⟩⟩
theorem LinkR.box {w0 w w' : World} {v0 v1 : Value} {H : List Ent} (hI : Inv (fun _ => False) w0 w H) (h : LinkR w v0 v1 w') : LinkR w0 v0 v1 w' := by
 rcases h with ⟨h1, g, n, vals, D, h2, h3, h4, h5⟩ | ⟨h1, h2, h3⟩
 ·refine .inl ⟨h1, g, n, vals, D, h2, h3, h4, ?_⟩
  have h6 := hI.app2 h5
  exact ⟨h6.chg, fun e he => h6.ok e (by rcases List.mem_cons.1 he with rfl | he; simp; rw [List.mem_singleton.1 he]; simp), fun e he => h6.own e (by rcases List.mem_cons.1 he with rfl | he; simp; rw [List.mem_singleton.1 he]; simp), h5.apart⟩
 ·exact .inr ⟨h1, h2, hI.pu.trans h3⟩
set_option maxHeartbeats 1000000 in
theorem halves_any (n : Int) (w0 : World) : Calls Tryz.prog 69 #[.int .i64 n] w0 fun en w' => ∃ v0 v1, en = .returned (.tuple #[v0, v1]) ∧ LinkR w0 v0 v1 w' := by
 have hI := Inv.start (fun _ => False) w0
 refine Vm Tryz.f69.ntmps Tryz.func69 rfl ?_
 refine W_seq (W_region (T7 (.int .i64 _) #[_] hI rfl ?_))
 clear hI; rintro b1 w - - hI
 refine Vl rfl (Vf rfl (WL_nil (W_seq (W_region (V3 (.int .i64 _) rfl (hI.c0 rfl) ?_)))))
 refine WL_val rfl rfl rfl (rFunc (l := []) (m := [_]) rfl rfl rfl) ?_
 refine V6 [.int .i64 _, .func _ _ _] rfl Tryz.func103 rfl ?_
 refine (links_any 104 n _ [.pointer (some ⟨b1, 0, none⟩)] _ Tryz.func104 rfl rfl (fun m hm h7 => halves1_any b1 m _ h7 (by subst hm; exact hI.c0 rfl))).mono ?_
 rintro en w1 ⟨v0, v1, rfl, hL⟩
 refine ⟨_, rfl, ?_⟩
 replace hL := hL.box hI
 refine Vg rfl (Vg rfl (Th rfl (Th rfl (WL_nil ?_))))
 refine W_ret ?_
 exact ret2 2 3 (.inr rfl) rfl ⟨v0, v1, rfl, hL⟩
set_option maxHeartbeats 1000000 in
theorem bridge_any (n : Int) (w0 : World) : Calls Tryz.prog 70 #[.int .i64 n] w0 fun en w' => ∃ v0 v1, en = .returned (.tuple #[v0, v1]) ∧ LinkR w0 v0 v1 w' := by
 have hI := Inv.start (fun _ => False) w0
 refine Vm Tryz.f70.ntmps Tryz.func70 rfl ?_
 refine W_seq (W_region (T7 (.int .i64 _) #[_] hI rfl ?_))
 clear hI; rintro b1 w - - hI
 refine Vl rfl (Vf rfl (WL_nil (W_seq (W_region (V3 (.int .i64 _) rfl (hI.c0 rfl) ?_)))))
 refine WL_val rfl rfl rfl (rFunc (l := []) (m := [_]) rfl rfl rfl) ?_
 refine V6 [.int .i64 _, .func _ _ _] rfl Tryz.func103 rfl ?_
 refine (links_any 105 n _ [.pointer (some ⟨b1, 0, none⟩)] _ Tryz.func105 rfl rfl (fun m hm h7 => bridge1_any b1 m _ h7 (by subst hm; exact hI.c0 rfl))).mono ?_
 rintro en w1 ⟨v0, v1, rfl, hL⟩
 refine ⟨_, rfl, ?_⟩
 replace hL := hL.box hI
 refine Vg rfl (Vg rfl (Th rfl (Th rfl (WL_nil ?_))))
 refine W_ret ?_
 exact ret2 2 3 (.inr rfl) rfl ⟨v0, v1, rfl, hL⟩
set_option maxHeartbeats 1000000 in
theorem ring_any (n : Int) (w0 : World) : Calls Tryz.prog 71 #[.int .i64 n] w0 fun en w' => ∃ v0 v1, en = .returned (.tuple #[v0, v1]) ∧ LinkR w0 v0 v1 w' := by
 have hI := Inv.start (fun _ => False) w0
 refine Vm Tryz.f71.ntmps Tryz.func71 rfl ?_
 refine W_seq (W_region (T7 (.int .i64 _) #[_] hI rfl ?_))
 clear hI; rintro b1 w - - hI
 refine Vl rfl (Vf rfl (WL_nil (W_seq (W_region (V3 (.int .i64 _) rfl (hI.c0 rfl) ?_)))))
 refine WL_val rfl rfl rfl (rFunc (l := []) (m := [_]) rfl rfl rfl) ?_
 refine V6 [.int .i64 _, .func _ _ _] rfl Tryz.func103 rfl ?_
 refine (links_any 106 n _ [.pointer (some ⟨b1, 0, none⟩)] _ Tryz.func106 rfl rfl (fun m hm h7 => ring1_any b1 m _ h7 (by subst hm; exact hI.c0 rfl))).mono ?_
 rintro en w1 ⟨v0, v1, rfl, hL⟩
 refine ⟨_, rfl, ?_⟩
 replace hL := hL.box hI
 refine Vg rfl (Vg rfl (Th rfl (Th rfl (WL_nil ?_))))
 refine W_ret ?_
 exact ret2 2 3 (.inr rfl) rfl ⟨v0, v1, rfl, hL⟩
theorem LinkR.pure {w0 w' : World} {v0 v1 : Value} (h : LinkR w0 v0 v1 w') : Pure w0 w' := by
 rcases h with ⟨_, g, n, vals, D, _, _, _, h5⟩ | ⟨_, _, h3⟩
 ·exact h5.pu
 ·exact h3
set_option maxHeartbeats 1000000 in
theorem alone_any (n who : Int) (w0 : World) : Calls Tryz.prog 72 #[.int .i64 n, .int .i64 who] w0 fun en w' => ∃ v0 v1, en = .returned (.tuple #[v0, v1]) ∧ LinkR w0 v0 v1 w' := by
 have hI := Inv.start (fun _ => False) w0
 refine Vm Tryz.f72.ntmps Tryz.func72 rfl ?_
 refine W_seq (W_region (T7 (.int .i64 _) #[_] hI rfl ?_))
 clear hI; rintro b3 w - - hI
 refine Vl rfl (Vf rfl (WL_nil (W_seq (W_region (V0 rfl ?_)))))
 refine WL_val rfl rfl rfl (rFunc (l := []) (m := [_]) rfl rfl rfl) ?_
 refine V6 [.int .i64 _, .func _ _ _] rfl Tryz.func103 rfl ?_
 refine (links_any 107 n _ [.pointer (some ⟨b3, 0, none⟩)] _ Tryz.func107 rfl rfl (fun m hm h7 => alone1_any b3 who _ (hI.c0 rfl))).mono ?_
 rintro en w1 ⟨v0, v1, rfl, hL⟩
 refine ⟨_, rfl, ?_⟩
 have hLb := hL.box hI
 replace hI := hI.pure hL.pure
 have hcs : (v1 = .nilIface ∧ ∃ (g m : Nat), v0 = .slice (some ⟨g, 0, none⟩) m m) ∨ ∃ z, v1 = .iface 49 (.int .i64 z) := by
  rcases hL with ⟨h1, g, m, vals, D, h2, _⟩ | ⟨_, ⟨z, h2⟩, _⟩
  ·exact .inl ⟨h1, g, m, h2⟩
  ·exact .inr ⟨z, h2⟩
 refine Vv rfl (Vg rfl (Vg rfl (Th rfl (Th rfl (WL_nil ?_)))))
 rcases hcs with ⟨rfl, g, m, rfl⟩ | ⟨z, rfl⟩
 rotate_left
 ·refine W_seq (W_seq (W_region (Vo rfl ?_)))
  refine WL_val rfl rfl rfl (by exact rIfaceEq rfl Tryz.underlying29 rfl rfl) ?_
  refine V2 rfl (V1 rfl (V1 rfl (V1 rfl (V1 rfl (V1 rfl (V1 rfl (V1 rfl (V8 rfl (WL_nil (W_cond false rfl (W_skip (W_seq (W_region ?_)))))))))))))
  refine WL_val rfl rfl rfl (by exact rMove rfl) ?_
  refine Vo rfl (Th rfl (Vk rfl (WL_nil ?_)))
  refine W_ret ?_
  exact ret2 4 5 (.inr rfl) rfl ⟨_, _, rfl, hLb⟩
 by_cases hw : who < 0 ∨ n ≤ who
 ·refine W_seq ?_
  refine W_seq_cut (fun ρ w => ρ 24 = .bool true ∧ Pure w0 w) ?_ ?_
  ·by_cases h1 : who < 0
   ·refine W_region (T3 rfl ?_)
    refine WL_val rfl rfl rfl (by exact rNilEq rfl Tryz.underlying29 rfl) ?_
    refine V2 rfl (V3 (.int .i64 _) rfl (hI.c0 rfl) (Vp rfl (V2 rfl (V1 rfl (V1 rfl (V1 rfl (Vd rfl (Vd rfl (WL_nil ?_)))))))))
    exact ⟨rfl, hI.pu⟩
   ·have h2 : n ≤ who := by omega
    refine W_region (T3 rfl ?_)
    refine WL_val rfl rfl rfl (by exact rNilEq rfl Tryz.underlying29 rfl) ?_
    refine V2 rfl (V3 (.int .i64 _) rfl (hI.c0 rfl) (Vn rfl (V2 rfl (V3 (.int .i64 _) rfl (hI.c0 rfl) (V0 rfl (Tg rfl (V8 rfl (Vd rfl (WL_nil ?_)))))))))
    exact ⟨rfl, hI.pu⟩
  clear hI
  rintro ρ w ⟨h24, hp⟩
  refine W_cond true h24 (W_seq (W_region (Vx rfl Tryz.underlying49 rfl (Vl rfl (Vk rfl (WL_nil ?_))))))
  refine W_ret ?_
  exact ret2 4 5 (.inr rfl) rfl ⟨_, _, rfl, .inr ⟨rfl, ⟨_, rfl⟩, hp⟩⟩
 ·refine W_seq (W_seq (W_region (T3 rfl ?_)))
  refine WL_val rfl rfl rfl (by exact rNilEq rfl Tryz.underlying29 rfl) ?_
  refine V2 rfl (V3 (.int .i64 _) rfl (hI.c0 rfl) (Vn rfl (V2 rfl (V3 (.int .i64 _) rfl (hI.c0 rfl) (V0 rfl (To rfl (V8 rfl (Vd rfl (WL_nil (W_cond false rfl (W_skip (W_seq (W_region ?_)))))))))))))
  refine Ve rfl (T3 rfl (Vl rfl (Vf rfl (WL_nil ?_))))
  refine W_ret ?_
  exact ret2 4 5 (.inr rfl) rfl ⟨_, _, rfl, hLb⟩
/-- The rows, of which one is known. -/
def RowsV (vals : List Value) (D : Nat → Prop) (v : Value) (lb : List Bool) : Ent := ⟨D, fun w => (RowsE vals D).Φ w ∧ Bools w D v lb⟩
theorem RowsV.ok {w : World} {vals : List Value} {D : Nat → Prop} {v : Value} {lb : List Bool} (h : (RowsE vals D).ok w) (hb : Bools w D v lb) : (RowsV vals D v lb).ok w :=
 Ent.mk_ok ⟨h.1, hb⟩ (fun k hk => h.2.1 k hk) (fun S w1 w2 hc hS h1 => ⟨h.2.2 S w1 w2 hc hS h1.1, Rd.chg h1.2 hc (fun k hk => hS k hk)⟩)
theorem RowsV.to {S : Nat → Prop} {w0 w : World} {H : List Ent} {vals : List Value} {D : Nat → Prop} {v : Value} (h : Inv S w0 w (RowsE vals D :: H)) (hv : v ∈ vals) : ∃ lb : List Bool, lb.length ≤ 1000 ∧ Inv S w0 w (RowsV vals D v lb :: H) := by
 have hk := h.ok _ (List.mem_of_getElem? (i := 0) rfl)
 obtain ⟨lb, hb, hl⟩ := hk.1.2 v hv
 exact ⟨lb, hl, h.u0 (Chg.refl _ _) (RowsV.ok hk hb) (fun k hk => .inl hk)⟩
theorem RowsV.from {S : Nat → Prop} {w0 w : World} {H : List Ent} {vals : List Value} {D : Nat → Prop} {v : Value} {lb : List Bool} (h : Inv S w0 w (RowsV vals D v lb :: H)) : Inv S w0 w (RowsE vals D :: H) := by
 have hk := (h.ok _ (List.mem_of_getElem? (i := 0) rfl)).1.1
 exact h.u0 (Chg.refl _ _) (RowsE.ok hk.1 hk.2) (fun k hk => .inl hk)
set_option maxHeartbeats 1000000 in
theorem num_any (i n b sb : Nat) (w0 : World) (hb : w0.cell? ⟨b, 0, none⟩ = some (.pointer (some ⟨sb, 0, none⟩))) (hn : w0.cell? ⟨sb, 0, none⟩ = some (.int .i64 (n : Int))) (hi : i < 1000) (hn1 : 1 ≤ n ∧ n ≤ 7) :
  Calls Tryz.prog 75 #[.int .i64 (i : Int), .pointer (some ⟨b, 0, none⟩)] w0 fun en w' => ∃ j : Nat, en = .returned (.int .i64 (j : Int)) ∧ j < n ∧ Pure w0 w' := by
 have hI := Inv.start (fun _ => False) w0
 refine Vm Tryz.f75.ntmps Tryz.func75 rfl ?_
 refine W_seq (W_region (Va rfl (WL_nil ?_)))
 by_cases h : i < n
 ·refine W_seq (W_seq (W_region (V0 rfl (V3 (.pointer _) rfl (hI.oldp hb) (Vb rfl (V5 0 rfl (V5 0 rfl (V3 (.int .i64 _) rfl (hI.oldp hn) (Vp rfl (WL_nil (W_cond true rfl (W_seq (W_region ?_)))))))))))))
  refine V0 rfl (Va rfl (WL_nil ?_))
  refine W_ret ?_
  exact ret1 3 (.inr rfl) rfl ⟨i, rfl, h, hI.pu⟩
 ·refine W_seq (W_seq (W_region (V0 rfl (V3 (.pointer _) rfl (hI.oldp hb) (Vb rfl (V5 0 rfl (V5 0 rfl (V3 (.int .i64 _) rfl (hI.oldp hn) (Vn rfl (WL_nil (W_cond false rfl (W_skip (W_seq ?_)))))))))))))
  refine W_draw (by kernel_rfl) ?_
  refine WA_inv (T := []) hI.drew ?_
  intro Sx hSx hXS
  replace hI := hI.drew
  refine Vw 0 (hXS _ hI) rfl (V9 1 (.pointer _) (hXS _ hI) rfl (fun W hW => (hSx W hW).oldp hb) (Vi 2 (hXS _ hI) rfl (Vc 3 0 (hXS _ hI) rfl (Vc 4 0 (hXS _ hI) rfl (V9 5 (.int .i64 _) (hXS _ hI) rfl (fun W hW => (hSx W hW).oldp hn) ?_)))))
  refine WT_take 6 rfl rfl (by kernel_rfl) (hXS _ hI) rfl (fun W hW => have hI := hSx W hW; (rSubNN rfl rfl rfl (by omega) (by omega))) ?_
  refine V9 7 (.pointer _) (hXS _ hI) rfl (fun W hW => (hSx W hW).oldp hb) (Vi 8 (hXS _ hI) rfl (Vc 9 0 (hXS _ hI) rfl (Vc 10 0 (hXS _ hI) rfl (V9 11 (.int .i64 _) (hXS _ hI) rfl (fun W hW => (hSx W hW).oldp hn) ?_))))
  refine WT_take 12 rfl rfl (by kernel_rfl) (hXS _ hI) rfl (fun W hW => have hI := hSx W hW; (rRemNN rfl rfl rfl (by omega) (by omega))) ?_
  refine Ua 13 (hXS _ hI) rfl (WT_end (by kernel_rfl) ?_)
  refine W_ret ?_
  exact ret1 3 (.inr rfl) rfl ⟨(i - n) % n, rfl, Nat.mod_lt _ (by omega), hI.pu⟩
theorem Inv.rowsNil {S : Nat → Prop} {w0 w : World} {H : List Ent} (h : Inv S w0 w H) : Inv S w0 w (Row 0 70 1 none 0 0 [] :: RowsE [] (fun _ => False) :: H) :=
 (h.fresh (Pure.refl w) (RowsE.ok (w := w) (vals := []) (D := fun _ => False) (fun _ h => h.elim) (fun v hv => by simp at hv)) (fun k hk => hk.elim)).fresh (Pure.refl w) (Row.nil w 0 70 1) (fun k hk => by simp [Row] at hk)
def CutPost (L : StL) (s : StS) (X : List Ent) (S : Nat → Prop) (w0 : World) (en : Ending) (w' : World) : Prop :=
 (∃ v, en = .returned v) ∧ ∃ L', L'.sb = L.sb ∧ L'.cw = L.cw ∧ Inv S w0 w' (spt L' s)
set_option maxHeartbeats 1000000 in
theorem cutNilX (L : StL) (s : StS) (S : Nat → Prop) (w0 : World) (hI : Inv S w0 w0 (spt L s)) :
  Calls Tryz.prog 42 #[.pointer (some ⟨L.sb, 0, none⟩), .slice none 0 0] w0 fun en w' => (∃ v, en = .returned v) ∧ ∃ L', L'.sb = L.sb ∧ L'.cw = L.cw ∧ L'.cut = false ∧ Inv S w0 w' (spt L' s) := by
 refine Vm Tryz.f42.ntmps Tryz.func42 rfl ?_
 refine W_seq (W_region (T7 (.pointer _) #[_] hI rfl ?_))
 clear hI; rintro b2 w - - hI
 refine Vf rfl (WL_nil (W_seq (W_seq (W_region (V3 (.pointer _) rfl (hI.c0 rfl) ?_)))))
 refine WL_val rfl rfl rfl (rPtrEq rfl Tryz.underlying50 rfl rfl) ?_
 refine V2 rfl (Ve rfl ?_)
 refine WL_val rfl rfl rfl (rSliceNeF rfl Tryz.underlying95 rfl) ?_
 refine V2 rfl (V1 rfl (V1 rfl (V1 rfl (V1 rfl (V1 rfl (V1 rfl (V1 rfl (V1 rfl (V8 rfl (V8 rfl (WL_nil (W_cond false rfl (W_skip ?_)))))))))))))
 refine W_seq (W_seq (W_region (Ve rfl ?_)))
 refine WL_val rfl rfl rfl (rSliceNilT rfl Tryz.underlying95 rfl) ?_
 refine WL_nil (W_cond true rfl ?_)
 replace hI := hI.rowsNil.pull 2 rfl
 refine W_seq (W_region (V3 (.pointer _) rfl (hI.c0 rfl) (Vb rfl (V5 7 rfl (V6 [.pointer _, .slice _ _ _] rfl Tryz.func74 rfl ?_)))))
 refine (ncut_any L s none 0 0 [] (fun _ => False) (by omega) rfl (DLs _) _ (hI.fromB (X := [_]))).mono ?_
 rintro en w1 ⟨rfl, LA, ln, lc, lv, LD, hJ⟩
 refine ⟨_, rfl, ?_⟩
 replace hI := hI.callB (X := [_]) hJ
 refine WL_nil (W_seq (W_region (Vf rfl (WL_nil ?_))))
 refine W_ret ?_
 exact ret1 4 (.inr rfl) rfl ⟨⟨_, rfl⟩, { L with LA := LA, ln := ln, lc := lc, cut := false, lv := lv, LD := LD }, rfl, rfl, rfl, hI.d0.d0.d0⟩
theorem cutNil (L : StL) (s : StS) (S : Nat → Prop) (w0 : World) (hI : Inv S w0 w0 (spt L s)) :
  Calls Tryz.prog 42 #[.pointer (some ⟨L.sb, 0, none⟩), .slice none 0 0] w0 (CutPost L s [] S w0) :=
 (cutNilX L s S w0 hI).mono fun en w' ⟨hv, L', h1, h2, _, h3⟩ => ⟨hv, L', h1, h2, h3⟩
set_option maxHeartbeats 4000000 in
theorem cutSome (L : StL) (s : StS) (M g m : Nat) (vals : List Value) (D : Nat → Prop) (h : SOk L s M) (hvl : vals.length = m) (S : Nat → Prop) (w0 : World) (hI : Inv S w0 w0 ([Row 0 70 1 (some ⟨g, 0, none⟩) m m vals, RowsE vals D] ++ spt L s)) :
  Calls Tryz.prog 42 #[.pointer (some ⟨L.sb, 0, none⟩), .slice (some ⟨g, 0, none⟩) m m] w0 (CutPost L s [] S w0) := by
 have hn := h.n1
 have hk := h.k1
 refine Vm Tryz.f42.ntmps Tryz.func42 rfl ?_
 refine W_seq (W_region (T7 (.pointer _) #[_] hI rfl ?_))
 clear hI; rintro b2 w - - hI
 refine Vf rfl (WL_nil ?_)
 by_cases hm : m = s.n
 rotate_left
 ·have hc0 : ∀ w b2, Inv S w0 w ([B b2 50 #[.pointer (some ⟨L.sb, 0, none⟩)], Row 0 70 1 (some ⟨g, 0, none⟩) m m vals, RowsE vals D] ++ spt L s) → w.cell? ⟨L.sb, 0, none⟩ = some (.int .i64 (s.n : Int)) := fun w b2 hI => sp_c0 hI
  refine W_seq (W_seq (W_region (V3 (.pointer _) rfl (hI.c0 rfl) ?_)))
  refine WL_val rfl rfl rfl (rPtrEq rfl Tryz.underlying50 rfl rfl) ?_
  refine V2 rfl (Ve rfl ?_)
  refine WL_val rfl rfl rfl (rSliceNeT rfl Tryz.underlying95 rfl) ?_
  refine V2 rfl (Ve rfl (Vs rfl Tryz.underlying95 rfl (V3 (.pointer _) rfl (hI.c0 rfl) (Vb rfl (V5 0 rfl (V5 0 rfl (V3 (.int .i64 _) rfl (hc0 _ _ hI) (Tx rfl (Vd rfl (V8 rfl (WL_nil (W_cond true rfl (W_seq ?_)))))))))))))
  refine W_region (Vx rfl Tryz.underlying49 rfl (Vk rfl (WL_nil ?_)))
  refine W_ret ?_
  exact ret1 4 (.inr rfl) rfl ⟨⟨_, rfl⟩, L, rfl, rfl, hI.d0.d0.d0⟩
 subst hm
 replace hI : Inv S w0 w ([B b2 50 #[.pointer (some ⟨L.sb, 0, none⟩)], Row 0 70 1 (some ⟨g, 0, none⟩) s.n s.n vals, RowsE vals D] ++ spt L s) := hI
 have hc0 : ∀ w X, Inv S w0 w (X ++ spt L s) → w.cell? ⟨L.sb, 0, none⟩ = some (.int .i64 (s.n : Int)) := fun w X hI => sp_c0 hI
 have hc1 : ∀ w X, Inv S w0 w (X ++ spt L s) → w.cell? ⟨L.sb, 1, none⟩ = some (.int .i64 (s.k : Int)) := fun w X hI => hI.fromB.cell 0 rfl rfl
 have hd0 : ∀ w, Inv S w0 w ([B b2 50 #[.pointer (some ⟨L.sb, 0, none⟩)], Row 0 70 1 (some ⟨g, 0, none⟩) s.n s.n vals, RowsE vals D] ++ spt L s) → w.cell? ⟨L.sb, 0, none⟩ = some (.int .i64 (s.n : Int)) ∧ w.cell? ⟨L.sb, 1, none⟩ = some (.int .i64 (s.k : Int)) := fun w hI => ⟨hc0 w _ hI, hc1 w _ hI⟩
 refine W_seq (W_seq (W_region (V3 (.pointer _) rfl (hI.c0 rfl) ?_)))
 refine WL_val rfl rfl rfl (rPtrEq rfl Tryz.underlying50 rfl rfl) ?_
 refine V2 rfl (Ve rfl ?_)
 refine WL_val rfl rfl rfl (rSliceNeT rfl Tryz.underlying95 rfl) ?_
 refine V2 rfl (Ve rfl (Vs rfl Tryz.underlying95 rfl (V3 (.pointer _) rfl (hI.c0 rfl) (Vb rfl (V5 0 rfl (V5 0 rfl (V3 (.int .i64 _) rfl ((hd0 _ hI).1) (U5 rfl (Vd rfl (V8 rfl (WL_nil (W_cond false rfl (W_skip ?_)))))))))))))
 refine W_seq (W_seq (W_region (Ve rfl ?_)))
 refine WL_val rfl rfl rfl (rSliceNilF rfl Tryz.underlying95 rfl) ?_
 refine WL_nil (W_cond false rfl (W_skip (W_seq (W_region ?_))))
 refine WL_val rfl rfl rfl (rFunc (l := []) (m := [_]) rfl rfl rfl) ?_
 refine WL_val rfl rfl rfl (by exact rAsgnF rfl rfl) ?_
 refine WL_nil ?_
 obtain ⟨N, hN⟩ : ∃ N, s.n + s.k = N := ⟨_, rfl⟩
 refine W_seq (W_draw (by kernel_rfl) ?_)
 refine WA_inv (T := []) hI.drew ?_
 intro Sx hSx hXS
 replace hI := hI.drew
 refine V9 0 (.pointer _) (hXS _ hI) rfl (fun W hW => (hSx W hW).c0 rfl) (Vi 1 (hXS _ hI) rfl (Vc 2 0 (hXS _ hI) rfl (Vc 3 0 (hXS _ hI) rfl (V9 4 (.int .i64 (s.n : Int)) (hXS _ hI) rfl (fun W hW => have hI := hSx W hW; (hd0 _ hI).1) (V9 5 (.pointer _) (hXS _ hI) rfl (fun W hW => (hSx W hW).c0 rfl) (Vi 6 (hXS _ hI) rfl (Vc 7 0 (hXS _ hI) rfl (Vc 8 1 (hXS _ hI) rfl (V9 9 (.int .i64 (s.k : Int)) (hXS _ hI) rfl (fun W hW => have hI := hSx W hW; (hd0 _ hI).2) ?_)))))))))
 refine WT_take 10 rfl rfl (by kernel_rfl) (hXS _ hI) rfl (fun W hW => have hI := hSx W hW; ((hN ▸ rAddNN rfl rfl rfl (by omega) : Runs _ _ _ _ (.int .i64 (N : Int))))) ?_
 refine Vt 11 rfl ?_
 refine WL_mkZ (n := N) (m := 1) (by_ := 24) (z := .slice none 0 0) [.slice none 0 0] hI rfl rfl rfl rfl rfl rfl Tryz.underlying95 (by kernel_rfl) rfl rfl (by omega) (by omega) (by omega) ?_
 clear hI; rintro b46 w - - hI
 refine WL_nil ⟨hXS _ hI.d0, ?_⟩
 refine WT_take 12 rfl rfl (by kernel_rfl) (hXS _ hI.d0) rfl (fun W hW => have hI := hSx W hW; (by exact rAsgnS rfl rfl)) ?_
 refine WT_end (by kernel_rfl) ?_
 have hst : flatB N (fun _ => [Value.slice none 0 0]) = (([] : List Value) ++ List.replicate (N - 0) (Value.slice none 0 0)).toArray := flat_rep N _
 rw [hst] at hI
 replace hI := (hI.fresh (Pure.refl _) (RowsE.ok (w := w) (vals := []) (D := fun _ => False) (fun _ h => h.elim) (fun v hv => by simp at hv)) (fun k hk => hk.elim)).sw0
 have hb2 : ∀ w X Y, Inv S w0 w (X ++ (B b2 50 #[.pointer (some ⟨L.sb, 0, none⟩)] :: Y)) → w.cell? ⟨b2, 0, none⟩ = some (.pointer (some ⟨L.sb, 0, none⟩)) := fun w X Y hI => hI.fromB.cell 0 rfl rfl
 refine W_seq_cut (fun ρ w => ∃ (done : List Value) (E : Nat → Prop), done.length = N ∧ Has ρ [(6, .slice (some ⟨b46, 0, none⟩) N N), (2, .pointer (some ⟨b2, 0, none⟩))] ∧ Inv S w0 w ([B b46 70 (done ++ List.replicate (N - N) (Value.slice none 0 0)).toArray, RowsE done E, B b2 50 #[.pointer (some ⟨L.sb, 0, none⟩)], Row 0 70 1 (some ⟨g, 0, none⟩) s.n s.n vals, RowsE vals D] ++ spt L s)) ?_ ?_
 ·refine W_seq (W_region (Ve rfl (Vs rfl Tryz.underlying95 rfl (V0 rfl (WL_nil (W_block ?_))))))
  refine W_loop (fun ρ w => ∃ (a : Nat) (done : List Value) (E : Nat → Prop), a ≤ N ∧ done.length = a ∧ Has ρ [(49, .int .i64 (a : Int)), (48, .int .i64 (N : Int)), (1, .slice (some ⟨g, 0, none⟩) s.n s.n), (5, .func (.func 75) #[] #[.pointer (some ⟨b2, 0, none⟩)]), (6, .slice (some ⟨b46, 0, none⟩) N N), (2, .pointer (some ⟨b2, 0, none⟩))] ∧
   Inv S w0 w ([B b46 70 (done ++ List.replicate (N - a) (Value.slice none 0 0)).toArray, RowsE done E, B b2 50 #[.pointer (some ⟨L.sb, 0, none⟩)], Row 0 70 1 (some ⟨g, 0, none⟩) s.n s.n vals, RowsE vals D] ++ spt L s)) (fun ρ _ => N - cnt (ρ 49))
   ⟨0, [], fun _ => False, by omega, rfl, ⟨rfl, rfl, rfl, rfl, rfl, rfl, trivial⟩, hI⟩ ?_
  clear hI
  rintro ρ w ⟨a, done, E, ha, hdl, hH, hI⟩
  obtain ⟨σ, rfl⟩ := hH.open
  by_cases haN : a < N
  rotate_left
  ·obtain rfl : a = N := by omega
   refine W_seq (W_region (Vn rfl (WL_nil (W_seq (W_cond false rfl ?_)))))
   refine W_exit ?_
   exact ⟨done, E, hdl, ⟨rfl, rfl, trivial⟩, hI⟩
  refine W_seq (W_region (Vp rfl (WL_nil (W_seq (W_cond true rfl (W_skip (W_seq (W_block (W_seq (W_region (V0 rfl (Va rfl (WL_nil ?_)))))))))))))
  refine W_seq (W_region (Ve rfl ?_))
  refine WL_val rfl rfl rfl (by exact rMoveF rfl rfl) ?_
  refine V0 rfl ?_
  refine WL_call rfl rfl rfl (rCallF (first := []) (cap := [_]) (vs := [_, _]) rfl rfl Tryz.func75 rfl rfl rfl) ?_
  refine (num_any a s.n b2 L.sb _ (hb2 _ [_, _] _ hI) (hc0 _ [_, _, _, _, _] hI) (by omega) hn).mono ?_
  rintro en w1 ⟨j, rfl, hj, hp⟩
  refine ⟨_, rfl, ?_⟩
  replace hI := hI.pure hp
  obtain ⟨v, hv⟩ : ∃ v, vals[j]? = some v := ⟨_, List.getElem?_eq_getElem (by omega)⟩
  have hvm := List.mem_of_getElem? hv
  obtain ⟨RA, mm, rc, rfl⟩ : ∃ RA mm rc, v = .slice RA mm rc := by
   obtain ⟨lb, hlb, _⟩ := (hI.ok _ (List.mem_of_getElem? (i := 4) rfl)).1.2 v hvm
   obtain ⟨RA, rc, he, _⟩ := Rd.form hlb
   exact ⟨RA, _, rc, he⟩
  have hz : w1.cell? ⟨g, j, none⟩ = some (.slice RA mm rc) := by
   obtain ⟨A', c', he, _, _, _, q⟩ := Rd.of_own (D := fun _ => True) (hI.ok _ (List.mem_of_getElem? (i := 3) rfl)).1 (fun _ _ _ => trivial)
   injection he with he _ _
   subst he
   obtain ⟨g', o', he2, _, hc⟩ := q (by omega)
   injection he2 with he2
   injection he2 with e1 e2
   subst e1 e2
   have := hc j _ hv
   rwa [Nat.zero_add] at this
  refine Tj rfl Tryz.underlying95 rfl (V3 (.slice _ _ _) rfl hz (Vl rfl (WL_nil ?_)))
  obtain ⟨lb, hlb, hI⟩ := RowsV.to (hI.pull 4 rfl) hvm
  have hmm : mm = lb.length := by
   obtain ⟨_, _, he, _⟩ := Rd.form (hI.ok _ (List.mem_of_getElem? (i := 0) rfl)).1.2
   injection he
  replace hI := hI.back 4
  rw [rep_nil_succ haN] at hI
  replace hI := hI.fresh (Pure.refl _) (Row.nil _ 0 4 1) (fun k hk => by simp [Row] at hk)
  refine W_seq (W_region (Ve rfl (Vs rfl Tryz.underlying95 rfl (V0 rfl (WL_nil (W_block ?_))))))
  refine W_loop (fun ρ w => ∃ (b : Nat) (l : List Bool) (A : Option Addr) (c : Nat), b ≤ N ∧ l.length = b ∧ Has ρ [(60, .int .i64 (b : Int)), (59, .int .i64 (N : Int)), (8, .slice RA mm rc), (7, .int .i64 (a : Int)), (49, .int .i64 (a : Int)), (48, .int .i64 (N : Int)), (1, .slice (some ⟨g, 0, none⟩) s.n s.n), (5, .func (.func 75) #[] #[.pointer (some ⟨b2, 0, none⟩)]), (6, .slice (some ⟨b46, 0, none⟩) N N), (2, .pointer (some ⟨b2, 0, none⟩))] ∧
   Inv S w0 w ([Row 0 4 1 A b c (boolsV l), B b46 70 (done ++ Value.slice A b c :: List.replicate (N - (a + 1)) (Value.slice none 0 0)).toArray, RowsE done E, B b2 50 #[.pointer (some ⟨L.sb, 0, none⟩)], Row 0 70 1 (some ⟨g, 0, none⟩) s.n s.n vals, RowsV vals D (.slice RA mm rc) lb] ++ spt L s)) (fun ρ _ => N - cnt (ρ 60))
   ⟨0, [], none, 0, by omega, rfl, ⟨rfl, rfl, rfl, rfl, rfl, rfl, rfl, rfl, rfl, rfl, trivial⟩, hI⟩ ?_
  clear hI
  rintro ρ w ⟨b, l, A, c, hb, hll, hH, hI⟩
  obtain ⟨σ, rfl⟩ := hH.open
  by_cases hbn : b < N
  rotate_left
  ·obtain rfl : b = N := by omega
   refine W_seq (W_region (Vn rfl (WL_nil (W_seq (W_cond false rfl ?_)))))
   refine W_exit ?_
   refine W_region (Vu rfl (V0 rfl (WL_nil ?_)))
   have h1 := (RowsV.from (hI.pull 5 rfl)).back 5
   have h2 := (Inv.sw1 h1).rowsIn hll.symm (by omega)
   have h3 := h2.sw0
   have e1 : (done ++ Value.slice A b c :: List.replicate (b - (a + 1)) (.slice none 0 0)) = (done ++ [.slice A b c]) ++ List.replicate (b - (a + 1)) (.slice none 0 0) := by simp
   rw [e1] at h3
   refine ⟨⟨a + 1, done ++ [Value.slice A b c], (fun k => A.map (·.block) = some k ∨ E k), by omega, by simp [hdl], ⟨rfl, rfl, rfl, rfl, rfl, rfl, trivial⟩, h3⟩, by show b - ((a + 1 : Nat) : Int).toNat < b - (a : Int).toNat; omega⟩
  refine W_seq (W_region (Vp rfl (WL_nil (W_seq (W_cond true rfl (W_skip ?_))))))
  refine W_seq_cut (fun ρ w => ∃ (r : Bool) (A' : Option Addr) (c' : Nat), Has ρ [(60, .int .i64 (b : Int)), (59, .int .i64 (N : Int)), (8, .slice RA mm rc), (7, .int .i64 (a : Int)), (49, .int .i64 (a : Int)), (48, .int .i64 (N : Int)), (1, .slice (some ⟨g, 0, none⟩) s.n s.n), (5, .func (.func 75) #[] #[.pointer (some ⟨b2, 0, none⟩)]), (6, .slice (some ⟨b46, 0, none⟩) N N), (2, .pointer (some ⟨b2, 0, none⟩))] ∧
   Inv S w0 w ([Row 0 4 1 A' (b + 1) c' (boolsV (l ++ [r])), B b46 70 (done ++ Value.slice A' (b + 1) c' :: List.replicate (N - (a + 1)) (Value.slice none 0 0)).toArray, RowsE done E, B b2 50 #[.pointer (some ⟨L.sb, 0, none⟩)], Row 0 70 1 (some ⟨g, 0, none⟩) s.n s.n vals, RowsV vals D (.slice RA mm rc) lb] ++ spt L s)) ?_ ?_
  ·refine W_block (W_seq (W_region (V0 rfl (Va rfl (WL_nil (W_seq (W_region ?_)))))))
   refine WL_val rfl rfl rfl (by exact rMoveF rfl rfl) ?_
   refine V0 rfl ?_
   refine WL_call rfl rfl rfl (rCallF (first := []) (cap := [_]) (vs := [_, _]) rfl rfl Tryz.func75 rfl rfl rfl) ?_
   refine (num_any b s.n b2 L.sb _ (hb2 _ [_, _, _] _ hI) (hc0 _ [_, _, _, _, _, _] hI) (by omega) hn).mono ?_
   rintro en w1 ⟨q, rfl, hq, hp⟩
   refine ⟨_, rfl, ?_⟩
   replace hI := hI.pure hp
   refine Va rfl (WL_nil ?_)
   have hga : ∀ w Y, Inv S w0 w (B b46 70 (done ++ Value.slice A b c :: List.replicate (N - (a + 1)) (Value.slice none 0 0)).toArray :: Y) → w.cell? ⟨b46, a, none⟩ = some (.slice A b c) := fun w Y hI => hI.cell 0 rfl (mid_get hdl)
   have hbools : ∀ r : Bool, boolsV l ++ [.bool r] = boolsV (l ++ [r]) := fun r => by simp [boolsV]
   by_cases hql : q < mm
   ·have hrv := (hI.ok _ (List.mem_of_getElem? (i := 5) rfl)).1.2
    obtain ⟨A2, c2, he, _, _, _, q4⟩ := hrv
    injection he with he _ _
    subst he
    obtain ⟨rb, ro, rfl, _, _⟩ := q4 (by omega)
    have hgr : ∀ w, Inv S w0 w ([B b46 70 (done ++ Value.slice A b c :: List.replicate (N - (a + 1)) (Value.slice none 0 0)).toArray, RowsE done E, B b2 50 #[.pointer (some ⟨L.sb, 0, none⟩)], Row 0 70 1 (some ⟨g, 0, none⟩) s.n s.n vals, RowsV vals D (.slice (some ⟨rb, ro, none⟩) mm rc) lb] ++ spt L s) → w.cell? ⟨rb, ro + q, none⟩ = some (.bool (lb.getD q false)) := fun w hI => by
     obtain ⟨A3, c3, he, _, _, _, q5⟩ := (hI.ok _ (List.mem_of_getElem? (i := 4) rfl)).1.2
     injection he with he _ _
     subst he
     obtain ⟨rb', ro', he2, _, hc⟩ := q5 (by omega)
     injection he2 with he2
     injection he2 with e1 e2
     subst e1 e2
     refine hc q _ ?_
     rw [List.getElem?_map, List.getElem?_eq_getElem (by omega)]
     simp [List.getD, show q < lb.length by omega]
    refine W_draw (by kernel_rfl) ?_
    refine WA_inv (T := [19]) hI.d0.drew ?_
    intro Sx hSx hXS
    replace hI := hI.drew
    refine T9 0 (hXS _ hI.d0) rfl (Vw 1 (hXS _ hI.d0) rfl (T9 2 (hXS _ hI.d0) rfl (Vw 3 (hXS _ hI.d0) rfl (U1 4 (hXS _ hI.d0) rfl Tryz.underlying95 rfl (V9 5 (.slice _ _ _) (hXS _ hI.d0) rfl (fun W hW => have hI := hSx W hW; hga _ _ hI) (Vw 6 (hXS _ hI.d0) rfl (T9 7 (hXS _ hI.d0) rfl (Uh 8 (hXS _ hI.d0) rfl Tryz.underlying70 rfl ?_))))))))
    refine WT_take 9 rfl rfl (by kernel_rfl) (hXS _ hI.d0) rfl (fun W hW => have hI := hSx W hW; (by exact rLssT rfl rfl rfl (by omega))) ?_
    refine T5 10 (hXS _ hI.d0) rfl (T9 11 (hXS _ hI.d0) rfl (Vw 12 (hXS _ hI.d0) rfl ?_))
    refine WT_take 13 rfl rfl (by kernel_rfl) (hXS _ hI.d0) rfl (fun W hW => have hI := hSx W hW; (by exact rIdx1 rfl Tryz.underlying70 (by kernel_rfl) rfl rfl (by omega))) ?_
    refine V9 14 (.bool _) (hXS _ hI.d0) rfl (fun W hW => have hI := hSx W hW; hgr _ hI) (Tu 15 (hXS _ hI.d0) rfl (Vt 16 rfl ?_))
    refine Vy [(0, .bool _)] [_] [.bool false] [0] hI rfl Tryz.underlying70 (fun _ => by kernel_rfl) ?_
    clear hI; rintro b82 w - - hI
    refine WL_nil ⟨hXS _ hI.d0.d0, ?_⟩
    refine Vt 17 rfl ?_
    refine Tq 1 (.bool false) hI rfl Tryz.underlying70 rfl (by rfl) hI.lit0 (by rfl) (Nat.zero_le _) ?_
    clear hI; rintro A83 c83 w hA83 hc83 hI
    replace hI := hI.d0
    refine WL_nil ⟨hXS _ hI.d0, ?_⟩
    refine U1 18 (hXS _ hI.d0) rfl Tryz.underlying95 rfl ?_
    refine WT_A (by kernel_rfl) ?_
    clear hXS hSx
    refine T2 19 rfl ?_
    refine WL_st1 (u := .slice A83 (b + 1) c83) (j := a) hI rfl rfl rfl rfl rfl rfl (by kernel_rfl) rfl (mid_blt hdl) (mid_set hdl) ?_
    clear hI; intro w hI
    refine WL_nil ?_
    refine WA_end (by kernel_rfl) ?_
    have e := hbools (lb.getD q false)
    exact ⟨lb.getD q false, A83, c83, ⟨rfl, rfl, rfl, rfl, rfl, rfl, rfl, rfl, rfl, rfl, trivial⟩, by rw [← e]; exact hI⟩
   ·refine W_draw (by kernel_rfl) ?_
    refine WA_inv (T := [19]) hI.d0.drew ?_
    intro Sx hSx hXS
    replace hI := hI.drew
    refine T9 0 (hXS _ hI.d0) rfl (Vw 1 (hXS _ hI.d0) rfl (T9 2 (hXS _ hI.d0) rfl (Vw 3 (hXS _ hI.d0) rfl (U1 4 (hXS _ hI.d0) rfl Tryz.underlying95 rfl (V9 5 (.slice _ _ _) (hXS _ hI.d0) rfl (fun W hW => have hI := hSx W hW; hga _ _ hI) (Vw 6 (hXS _ hI.d0) rfl (T9 7 (hXS _ hI.d0) rfl (Uh 8 (hXS _ hI.d0) rfl Tryz.underlying70 rfl ?_))))))))
    refine WT_take 9 rfl rfl (by kernel_rfl) (hXS _ hI.d0) rfl (fun W hW => have hI := hSx W hW; (by exact rLssF rfl rfl rfl (by omega))) ?_
    refine T5 10 (hXS _ hI.d0) rfl (Vj 11 rfl (hXS _ hI.d0) rfl (Vj 12 rfl (hXS _ hI.d0) rfl (Vj 13 rfl (hXS _ hI.d0) rfl (Vj 14 rfl (hXS _ hI.d0) rfl (Tm 15 (hXS _ hI.d0) rfl (Vt 16 rfl ?_))))))
    refine Vy [(0, .bool _)] [_] [.bool false] [0] hI rfl Tryz.underlying70 (fun _ => by kernel_rfl) ?_
    clear hI; rintro b82 w - - hI
    refine WL_nil ⟨hXS _ hI.d0.d0, ?_⟩
    refine Vt 17 rfl ?_
    refine Tq 1 (.bool false) hI rfl Tryz.underlying70 rfl (by rfl) hI.lit0 (by rfl) (Nat.zero_le _) ?_
    clear hI; rintro A83 c83 w hA83 hc83 hI
    replace hI := hI.d0
    refine WL_nil ⟨hXS _ hI.d0, ?_⟩
    refine U1 18 (hXS _ hI.d0) rfl Tryz.underlying95 rfl ?_
    refine WT_A (by kernel_rfl) ?_
    clear hXS hSx
    refine T2 19 rfl ?_
    refine WL_st1 (u := .slice A83 (b + 1) c83) (j := a) hI rfl rfl rfl rfl rfl rfl (by kernel_rfl) rfl (mid_blt hdl) (mid_set hdl) ?_
    clear hI; intro w hI
    refine WL_nil ?_
    refine WA_end (by kernel_rfl) ?_
    have e := hbools false
    exact ⟨false, A83, c83, ⟨rfl, rfl, rfl, rfl, rfl, rfl, rfl, rfl, rfl, rfl, trivial⟩, by rw [← e]; exact hI⟩
  ·clear hI
   rintro ρ w ⟨r, A', c', hH, hI⟩
   obtain ⟨σ, rfl⟩ := hH.open
   refine W_region (Vu rfl (V0 rfl (WL_nil ?_)))
   exact ⟨⟨b + 1, l ++ [r], A', c', by omega, by simp [hll], ⟨rfl, rfl, rfl, rfl, rfl, rfl, rfl, rfl, rfl, rfl, trivial⟩, hI⟩, by show N - ((b + 1 : Nat) : Int).toNat < N - (b : Int).toNat; omega⟩
 clear hI
 rintro ρ w ⟨done, E, hdl, hH, hI⟩
 obtain ⟨σ, rfl⟩ := hH.open
 rw [Nat.sub_self, List.replicate_zero, List.append_nil] at hI
 replace hI := hI.u0 (e' := Row 0 70 1 (some ⟨b46, 0, none⟩) N N done.toArray.toList) (Chg.refl _ _) (Row.of_blk hI.g0 (Nat.zero_le _) (by simp [hdl]) (by omega)) (fun k hk => .inl (by have : some b46 = some k := hk; injection this with this; exact this.symm))
 replace hI := ((hI.pull 4 rfl).pull 4 rfl).pull 4 rfl
 replace hI : Inv S w0 w ([B b2 50 #[.pointer (some ⟨L.sb, 0, none⟩)], Row 0 70 1 (some ⟨g, 0, none⟩) s.n s.n vals, RowsE vals D] ++ ([Row 0 70 1 (some ⟨b46, 0, none⟩) N N done, RowsE done E] ++ spt L s)) := hI
 refine W_seq (W_region (V3 (.pointer _) rfl (hI.c0 rfl) (Vb rfl (V5 7 rfl (Ve rfl (V6 [.pointer _, .slice _ _ _] rfl Tryz.func74 rfl ?_))))))
 refine (ncut_any L s (some ⟨b46, 0, none⟩) N N done E (by omega) hdl (DLs _) _ (hI.fromB (X := [_, _, _]))).mono ?_
 rintro en w1 ⟨rfl, LA, ln, lc, lv, LD, hJ⟩
 refine ⟨_, rfl, ?_⟩
 replace hI := hI.callB (X := [_, _, _]) hJ
 refine WL_nil (W_seq (W_region (Vf rfl (WL_nil ?_))))
 refine W_ret ?_
 exact ret1 4 (.inr rfl) rfl ⟨⟨_, rfl⟩, { L with LA := LA, ln := ln, lc := lc, cut := true, lv := lv, LD := LD }, rfl, rfl, hI.d0.d0.d0.d0.d0⟩
theorem BegR.facts {nums : List Int} {t t' : Tr} {c : Int} {r : Bool} (h : BegR nums t c r t') : Mv t.st t'.st ∧ t'.g.sz ≤ t.g.sz ∧ t.u ≤ t'.u ∧ t'.u ≤ t.u + t.g.sz ∧ t.b ≤ t'.b ∧ t'.b ≤ t.b + 1 ∧ (t.b ≤ 40 → t'.b ≤ 40) := by
 rcases h with ⟨_, _, rfl⟩ | ⟨_, hb, c', hm, rr, g', u', hnx, h⟩
 ·exact ⟨Mv.refl _, Nat.le_refl _, Nat.le_refl _, by omega, Nat.le_refl _, by omega, id⟩
 ·have hs := hnx.sz
  rcases h with ⟨_, _, rfl⟩ | ⟨w, k, v, _, ⟨_, _, rfl⟩ | ⟨hok, _, rfl⟩⟩
  ·exact ⟨Mv.refl _, hs.2.2, hs.1, hs.2.1, Nat.le_refl _, by show t.b ≤ t.b + 1; omega, id⟩
  ·exact ⟨Mv.refl _, hs.2.2, hs.1, hs.2.1, Nat.le_refl _, by show t.b ≤ t.b + 1; omega, id⟩
  ·refine ⟨.inr (.inl ⟨c', k.toNat, w, v, hm.lt, hm.busy, hm.gone, ?_, hok.2.1, rfl⟩), hs.2.2, hs.1, hs.2.1, by show t.b ≤ t.b + 1; omega, Nat.le_refl _, fun _ => by show t.b + 1 ≤ 40; omega⟩
   have := hok.1; omega
abbrev triE (tb : Nat) (sb : Nat) (gv : Value) (q : Nat) (p : FPlan) (b : Nat) (em : Bool) : Ent := B tb 63 (trC sb gv q p b em)
theorem Inv.toEnd {S : Nat → Prop} {w0 w : World} {a b : Ent} {X R : List Ent} (h : Inv S w0 w (a :: b :: (X ++ R))) : Inv S w0 w (X ++ (a :: b :: R)) := h.perm (List.perm_append_comm_assoc [a, b] X R)
section
variable {S D : Nat → Prop} {w0 : World} {gv : Value} {LG : List Ent} {q tb : Nat} {p : FPlan} {A : Option Addr} {len cp : Nat} {nums : List Int}
set_option maxHeartbeats 4000000 in
theorem part_any (w : World) (L : StL) (s : StS) (u b M : Nat) (em : Bool)
  (hI : Inv S w0 w (triE tb L.sb gv q p b em :: tapeE q (.slice A len cp) u :: (LG ++ spt L s))) (hok : SOk L s M) (hM : M ≤ 100000) (hN : Ints w0 D (.slice A len cp) nums) (hD : ∀ k, D k → ¬ S k) (hu : u + 4 ≤ 4611686018427387904) (hpn : p.n ≤ 1000) (hpk : p.k ≤ 1000) :
  Calls Tryz.prog 41 #[at0 tb] w fun e w' => (∃ v, e = .returned v) ∧ ∃ u' L' s', Mv s s' ∧ SOk L' s' (M + 1) ∧ L'.sb = L.sb ∧ u ≤ u' ∧ u' ≤ u + 2 ∧ Inv S w0 w' (triE tb L.sb gv q p b em :: tapeE q (.slice A len cp) u' :: (LG ++ spt L' s')) := by
 have hk8 := hok.k1
 have hBel := fun (w : World) (u : Nat) (n : Int) (hI : Inv S w0 w (triE tb L.sb gv q p b em :: tapeE q (.slice A len cp) u :: (LG ++ spt L s))) (hn : n ≤ 1000) (hu : u ≤ 4611686018427387904) => belowG_any S D w0 w _ q A len cp nums u n (hI.perm (.swap ..)) hN hD (by omega) (by omega)
 refine Vm Tryz.f41.ntmps Tryz.func41 rfl ?_
 refine W_seq (W_region (Vl rfl (WL_nil (W_seq (W_region (Vf rfl (WL_nil (W_seq (W_region (V7 rfl (Vb rfl (V5 3 rfl (Te rfl ?_)))))))))))))
 refine Te rfl (V3 (.int .i64 _) rfl (hI.c0 rfl) (Va rfl (WL_nil ?_)))
 have hLink : ∀ {ρ : Env} {w w' : World} {u' : Nat} {v0 v1 : Value}, Inv S w0 w (triE tb L.sb gv q p b em :: tapeE q (.slice A len cp) u' :: (LG ++ spt L s)) → LinkR w v0 v1 w' → u ≤ u' → u' ≤ u + 2 → Has ρ [(2, v0), (3, v1), (0, at0 tb)] →
   ∃ (u' : Nat) (v0 v1 : Value), u ≤ u' ∧ u' ≤ u + 2 ∧ Has ρ [(2, v0), (3, v1), (0, at0 tb)] ∧
  ((v0 = .slice none 0 0 ∧ (v1 = .nilIface ∨ ∃ z : Int, v1 = .iface 49 (.int .i64 z)) ∧ Inv S w0 w' (triE tb L.sb gv q p b em :: tapeE q (.slice A len cp) u' :: (LG ++ spt L s))) ∨
   (v1 = .nilIface ∧ ∃ (g n : Nat) (vals : List Value) (E : Nat → Prop), v0 = .slice (some ⟨g, 0, none⟩) n n ∧ vals.length = n ∧ Inv S w0 w' (Row 0 70 1 (some ⟨g, 0, none⟩) n n vals :: RowsE vals E :: triE tb L.sb gv q p b em :: tapeE q (.slice A len cp) u' :: (LG ++ spt L s)))) := by
  intro ρ w w' u' v0 v1 hI hL h1 h2 hH
  refine ⟨u', v0, v1, h1, h2, hH, ?_⟩
  rcases hL with ⟨e1, g, n, vals, E, e0, hvl, _, hJ⟩ | ⟨e0, e1, hp⟩
  ·exact .inr ⟨e1, g, n, vals, E, e0, hvl, hI.app2 hJ⟩
  ·exact .inl ⟨e0, .inr e1, hI.pure hp⟩
 refine W_seq_cut (fun ρ w => ∃ (u' : Nat) (v0 v1 : Value), u ≤ u' ∧ u' ≤ u + 2 ∧ Has ρ [(2, v0), (3, v1), (0, at0 tb)] ∧
  ((v0 = .slice none 0 0 ∧ (v1 = .nilIface ∨ ∃ z : Int, v1 = .iface 49 (.int .i64 z)) ∧ Inv S w0 w (triE tb L.sb gv q p b em :: tapeE q (.slice A len cp) u' :: (LG ++ spt L s))) ∨
   (v1 = .nilIface ∧ ∃ (g n : Nat) (vals : List Value) (E : Nat → Prop), v0 = .slice (some ⟨g, 0, none⟩) n n ∧ vals.length = n ∧ Inv S w0 w (Row 0 70 1 (some ⟨g, 0, none⟩) n n vals :: RowsE vals E :: triE tb L.sb gv q p b em :: tapeE q (.slice A len cp) u' :: (LG ++ spt L s))))) ?_ ?_
 ·refine W_seq (W_region (V7 rfl (Vb rfl (V5 2 rfl (V3 (.pointer _) rfl (hI.c0 rfl) (V6 [.pointer _, .int .i64 _] rfl Tryz.func35 rfl ?_))))))
  refine (hBel _ u 6 hI (by omega) (by omega)).mono ?_
  rintro e w1 ⟨z, u', rfl, hz, -, hu1, hu2, hI1⟩
  refine ⟨_, rfl, ?_⟩
  replace hI := hI1.perm (.swap ..)
  clear hI1
  refine WL_nil ?_
  obtain ⟨rfl, hz6⟩ := hz (by omega)
  refine W_block ?_
  by_cases h1 : z = 1
  ·refine W_seq (W_region (Vz rfl (V4 rfl (WL_nil (W_cond true rfl (W_region (V0 rfl (V6 [.int .i64 _] rfl Tryz.func69 rfl ?_))))))))
   refine (halves_any _ _).mono ?_
   rintro e w1 ⟨v0, v1, rfl, hL⟩
   refine ⟨_, rfl, ?_⟩
   refine Vv rfl (Vg rfl (Vg rfl (Th rfl (Th rfl (WL_nil ?_)))))
   exact hLink hI hL (by omega) (by omega) ⟨rfl, rfl, rfl, trivial⟩
  refine W_seq (W_region (Vr rfl (V4 rfl (WL_nil (W_cond false rfl ?_)))))
  by_cases h2 : z = 2
  ·refine W_seq (W_region (Vz rfl (V4 rfl (WL_nil (W_cond true rfl (W_region (V0 rfl (V6 [.int .i64 _] rfl Tryz.func70 rfl ?_))))))))
   refine (bridge_any _ _).mono ?_
   rintro e w1 ⟨v0, v1, rfl, hL⟩
   refine ⟨_, rfl, ?_⟩
   refine Vv rfl (Vg rfl (Vg rfl (Th rfl (Th rfl (WL_nil ?_)))))
   exact hLink hI hL (by omega) (by omega) ⟨rfl, rfl, rfl, trivial⟩
  refine W_seq (W_region (Vr rfl (V4 rfl (WL_nil (W_cond false rfl ?_)))))
  by_cases h3 : z = 3
  ·refine W_seq (W_region (Vz rfl (V4 rfl (WL_nil (W_cond true rfl (W_region (V0 rfl (V6 [.int .i64 _] rfl Tryz.func71 rfl ?_))))))))
   refine (ring_any _ _).mono ?_
   rintro e w1 ⟨v0, v1, rfl, hL⟩
   refine ⟨_, rfl, ?_⟩
   refine Vv rfl (Vg rfl (Vg rfl (Th rfl (Th rfl (WL_nil ?_)))))
   exact hLink hI hL (by omega) (by omega) ⟨rfl, rfl, rfl, trivial⟩
  refine W_seq (W_region (Vr rfl (V4 rfl (WL_nil (W_cond false rfl ?_)))))
  by_cases h4 : z = 4
  ·refine W_seq (W_region (Vz rfl (V4 rfl (WL_nil (W_cond true rfl (W_region (V0 rfl (V7 rfl (Vb rfl (V5 2 rfl (V3 (.pointer _) rfl (hI.c0 rfl) (V0 rfl (V6 [.pointer _, .int .i64 _] rfl Tryz.func35 rfl ?_)))))))))))))
   refine (hBel _ _ (p.n : Int) hI (by omega) (by omega)).mono ?_
   rintro e w2 ⟨z2, u2, rfl, -, -, hu3, hu4, hI2⟩
   refine ⟨_, rfl, ?_⟩
   replace hI := hI2.perm (.swap ..)
   clear hI2
   refine V6 [.int .i64 _, .int .i64 _] rfl Tryz.func72 rfl ?_
   refine (alone_any _ _ _).mono ?_
   rintro e w1 ⟨v0, v1, rfl, hL⟩
   refine ⟨_, rfl, ?_⟩
   refine Vv rfl (Vg rfl (Vg rfl (Th rfl (Th rfl (WL_nil ?_)))))
   exact hLink hI hL (by omega) (by omega) ⟨rfl, rfl, rfl, trivial⟩
  refine W_seq (W_region (Vr rfl (V4 rfl (WL_nil (W_cond false rfl ?_)))))
  by_cases h5 : z = 5
  ·refine W_seq (W_region (Vz rfl (V4 rfl (WL_nil (W_cond true rfl (W_seq (W_draw (by kernel_rfl) ?_)))))))
   refine WA_inv (T := []) hI.hd1.drew ?_
   intro Sx hSx hXS
   replace hI := hI.drew
   refine Vh 0 (hXS _ hI.hd1) rfl (Vi 1 (hXS _ hI.hd1) rfl (Vc 2 0 (hXS _ hI.hd1) rfl (V9 3 (.pointer _) (hXS _ hI.hd1) rfl (fun W hW => (hSx W hW).c0 rfl) (Vh 4 (hXS _ hI.hd1) rfl (Vi 5 (hXS _ hI.hd1) rfl (Vc 6 2 (hXS _ hI.hd1) rfl (V9 7 (.pointer _) (hXS _ hI.hd1) rfl (fun W hW => (hSx W hW).c0 rfl) (Vh 8 (hXS _ hI.hd1) rfl (Vi 9 (hXS _ hI.hd1) rfl (Vc 10 3 (hXS _ hI.hd1) rfl (Tz 11 (hXS _ hI.hd1) rfl (T8 12 1 (hXS _ hI.hd1) rfl (V9 13 (.int .i64 _) (hXS _ hI.hd1) rfl (fun W hW => (hSx W hW).c0 rfl) ?_)))))))))))))
   refine Vt 14 rfl ?_
   refine V6 [.pointer _, .int .i64 _] rfl Tryz.func35 rfl ?_
   refine (hBel _ _ (p.k : Int) hI (by omega) (by omega)).mono ?_
   rintro e w2 ⟨z2, u2, rfl, -, -, hu3, hu4, hI2⟩
   refine ⟨_, rfl, ?_⟩
   replace hI := hI2.perm (.swap ..)
   clear hI2
   refine WL_nil ⟨hXS _ hI.hd1, ?_⟩
   refine Vt 15 rfl ?_
   refine V6 [.pointer _, .int .i64 _] rfl Tryz.func73 rfl ?_
   refine (giveupM L s M hok (DLs (spt L s)) _ (Inv.fromB (X := triE tb L.sb gv q p b em :: tapeE q (.slice A len cp) u2 :: LG) hI) z2).mono ?_
   rintro e w3 ⟨⟨v, rfl⟩, L', s', hmv, hok', hsb, hJ⟩
   refine ⟨_, rfl, ?_⟩
   replace hI := Inv.callB (X := triE tb L.sb gv q p b em :: tapeE q (.slice A len cp) u2 :: LG) hI hJ
   refine WL_nil ⟨hXS _ hI.hd1, ?_⟩
   refine WT_end (by kernel_rfl) ?_
   refine W_ret ?_
   exact ret0 (.inr rfl) rfl ⟨⟨_, rfl⟩, u2, L', s', hmv, hok', hsb, by omega, by omega, hI⟩
  refine W_seq (W_region (Vr rfl (V4 rfl (WL_nil (W_cond false rfl (W_skip ?_))))))
  exact ⟨_, _, _, (by omega : u ≤ u + 1), by omega, ⟨rfl, rfl, rfl, trivial⟩, .inl ⟨rfl, .inl rfl, hI⟩⟩
 clear hI
 rintro ρ w ⟨u', v0, v1, hu1, hu2, hH, hcase⟩
 obtain ⟨σ, rfl⟩ := hH.open
 rcases hcase with ⟨rfl, (rfl | ⟨z, rfl⟩), hI⟩ | ⟨rfl, g, n, vals, E, rfl, hvl, hI⟩
 ·refine W_seq (W_region (T3 rfl ?_))
  refine WL_val rfl rfl rfl (by exact rNilEq rfl Tryz.underlying29 rfl) ?_
  refine WL_nil (W_cond true rfl (W_region (V7 rfl (Vb rfl (V5 0 rfl (V3 (.pointer _) rfl (hI.c0 rfl) (Ve rfl (V6 [.pointer _, .slice _ _ _] rfl Tryz.func42 rfl ?_))))))))
  refine (cutNil L s (DLs (spt L s)) _ (Inv.fromB (X := triE tb L.sb gv q p b em :: tapeE q (.slice A len cp) u' :: LG) hI)).mono ?_
  rintro e w3 ⟨⟨v, rfl⟩, L', hsb, hcw, hJ⟩
  refine ⟨_, rfl, ?_⟩
  replace hI := Inv.callB (X := triE tb L.sb gv q p b em :: tapeE q (.slice A len cp) u' :: LG) hI hJ
  refine WL_nil ?_
  exact ret0 (.inl rfl) rfl ⟨⟨_, rfl⟩, u', L', s, Mv.refl _, (hok.loc hcw).mono (by omega), hsb, hu1, hu2, hI⟩
 ·refine W_seq (W_region (Vo rfl ?_))
  refine WL_val rfl rfl rfl (by exact rIfaceEq rfl Tryz.underlying29 rfl rfl) ?_
  refine WL_nil (W_cond false rfl (W_skip ?_))
  exact ret0 (.inl rfl) rfl ⟨⟨_, rfl⟩, u', L, s, Mv.refl _, hok.mono (by omega), rfl, hu1, hu2, hI⟩
 ·refine W_seq (W_region (T3 rfl ?_))
  refine WL_val rfl rfl rfl (by exact rNilEq rfl Tryz.underlying29 rfl) ?_
  refine WL_nil (W_cond true rfl (W_region (V7 rfl (Vb rfl (V5 0 rfl (V3 (.pointer _) rfl (hI.c2 rfl) (Ve rfl (V6 [.pointer _, .slice _ _ _] rfl Tryz.func42 rfl ?_))))))))
  refine (cutSome L s M g n vals E hok hvl (DLs (Row 0 70 1 (some ⟨g, 0, none⟩) n n vals :: RowsE vals E :: spt L s)) _ (Inv.fromB (X := triE tb L.sb gv q p b em :: tapeE q (.slice A len cp) u' :: LG) (Inv.toEnd (X := triE tb L.sb gv q p b em :: tapeE q (.slice A len cp) u' :: LG) hI))).mono ?_
  rintro e w3 ⟨⟨v, rfl⟩, L', hsb, hcw, hJ⟩
  refine ⟨_, rfl, ?_⟩
  replace hI := Inv.callB (X := triE tb L.sb gv q p b em :: tapeE q (.slice A len cp) u' :: LG) (Inv.toEnd (X := triE tb L.sb gv q p b em :: tapeE q (.slice A len cp) u' :: LG) hI) hJ
  refine WL_nil ?_
  exact ret0 (.inl rfl) rfl ⟨⟨_, rfl⟩, u', L', s, Mv.refl _, (hok.loc hcw).mono (by omega), hsb, hu1, hu2, hI⟩
set_option maxHeartbeats 4000000 in
theorem move_any (w : World) (L : StL) (t : Tr) (M : Nat)
  (hI : Inv S w0 w (triE tb L.sb gv q p t.b t.em :: tapeE q (.slice A len cp) t.u :: (LG ++ spt L t.st))) (hr : Rep t.g gv LG) (hok : SOk L t.st M) (hM : M ≤ 100000) (hN : Ints w0 D (.slice A len cp) nums) (hD : ∀ k, D k → ¬ S k) (hu : t.u + 8 + t.g.sz ≤ 4611686018427387904) (hb : t.b ≤ 1000) (hpn : p.n ≤ 1000) (hpk : p.k ≤ 1000) :
  Calls Tryz.prog 16 #[at0 tb] w fun e w' => (∃ v, e = .returned v) ∧ ∃ (t' : Tr) (L' : StL) (LG' : List Ent), Mv t.st t'.st ∧ Rep t'.g gv LG' ∧ t'.g.sz ≤ t.g.sz ∧ SOk L' t'.st (M + 1) ∧ L'.sb = L.sb ∧ t.u < t'.u ∧ t'.u ≤ t.u + 4 + t.g.sz ∧ t.b ≤ t'.b ∧ (t.b ≤ 40 → t'.b ≤ 40) ∧
   Inv S w0 w' (triE tb L.sb gv q p t'.b t'.em :: tapeE q (.slice A len cp) t'.u :: (LG' ++ spt L' t'.st)) := by
 obtain ⟨s, g, u, b, em⟩ := t
 dsimp only at hI hr hok hu hb ⊢
 have hml := hok.mlen
 have hBel := fun (w : World) (u : Nat) (n : Int) (hI : Inv S w0 w (triE tb L.sb gv q p b em :: tapeE q (.slice A len cp) u :: (LG ++ spt L s))) (hn : n ≤ 1000) (hu : u ≤ 4611686018427387904) => belowG_any S D w0 w _ q A len cp nums u n (hI.perm (.swap ..)) hN hD (by omega) (by omega)
 have hWait := fun (w : World) (u2 : Nat) (hI : Inv S w0 w ((triE tb L.sb gv q p b em :: tapeE q (.slice A len cp) u2 :: LG) ++ spt L s)) => waiting_any L.sb s.mails.length L.mc L.MA w (sp_c7 hI)
 have hEnd : ∀ {w' : World} {u2 : Nat} {v : Value} {L' : StL} {s' : StS}, Mv s s' → SOk L' s' (M + 1) → L'.sb = L.sb → u + 1 ≤ u2 → u2 ≤ u + 3 → Inv S w0 w' (triE tb L.sb gv q p b em :: tapeE q (.slice A len cp) u2 :: (LG ++ spt L' s')) →
   (∃ v', Ending.returned v = .returned v') ∧ ∃ (t' : Tr) (L' : StL) (LG' : List Ent), Mv s t'.st ∧ Rep t'.g gv LG' ∧ t'.g.sz ≤ g.sz ∧ SOk L' t'.st (M + 1) ∧ L'.sb = L.sb ∧ u < t'.u ∧ t'.u ≤ u + 4 + g.sz ∧ b ≤ t'.b ∧ (b ≤ 40 → t'.b ≤ 40) ∧
   Inv S w0 w' (triE tb L.sb gv q p t'.b t'.em :: tapeE q (.slice A len cp) t'.u :: (LG' ++ spt L' t'.st)) :=
  fun {w' u2 v L' s'} h1 h2 h3 h4 h5 hI => ⟨⟨_, rfl⟩, ⟨s', g, u2, b, em⟩, L', LG, h1, hr, Nat.le_refl _, h2, h3, by show u < u2; omega, by show u2 ≤ u + 4 + g.sz; omega, Nat.le_refl _, id, hI⟩
 refine Vm Tryz.f16.ntmps Tryz.func16 rfl ?_
 refine W_seq (W_region (V7 rfl (Vb rfl (V5 2 rfl (V3 (.pointer _) rfl (hI.c0 rfl) (V6 [.pointer _, .int .i64 _] rfl Tryz.func35 rfl ?_))))))
 refine (hBel _ u 10 hI (by omega) (by omega)).mono ?_
 rintro e w1 ⟨z, u1, rfl, hz, -, hu1, hu2, hI1⟩
 refine ⟨_, rfl, ?_⟩
 replace hI := hI1.perm (.swap ..)
 clear hI1
 refine Va rfl (WL_nil ?_)
 obtain ⟨rfl, hz10⟩ := hz (by omega)
 refine W_block ?_
 by_cases h3 : z < 3
 ·refine W_seq (W_region (V0 rfl (Vp rfl (V4 rfl (WL_nil (W_cond true rfl (W_draw (by kernel_rfl) ?_)))))))
  refine WA_inv (T := [12]) hI.hd1.drew ?_
  intro Sx hSx hXS
  replace hI := hI.drew
  refine Vh 0 (hXS _ hI.hd1) rfl (Vh 1 (hXS _ hI.hd1) rfl (Vi 2 (hXS _ hI.hd1) rfl (Vc 3 2 (hXS _ hI.hd1) rfl (V9 4 (.pointer _) (hXS _ hI.hd1) rfl (fun W hW => (hSx W hW).c0 rfl) (Vh 5 (hXS _ hI.hd1) rfl (Vi 6 (hXS _ hI.hd1) rfl (Vc 7 3 (hXS _ hI.hd1) rfl (Tz 8 (hXS _ hI.hd1) rfl (T8 9 1 (hXS _ hI.hd1) rfl (V9 10 (.int .i64 _) (hXS _ hI.hd1) rfl (fun W hW => (hSx W hW).c0 rfl) (Vt 11 rfl ?_)))))))))))
  refine V6 [.pointer _, .int .i64 _] rfl Tryz.func35 rfl ?_
  refine (hBel _ _ (p.k : Int) hI (by omega) (by omega)).mono ?_
  rintro e w2 ⟨z2, u2, rfl, -, -, hu3, hu4, hI2⟩
  refine ⟨_, rfl, ?_⟩
  replace hI := hI2.perm (.swap ..)
  clear hI2
  refine WL_nil ⟨hXS _ hI.hd1, ?_⟩
  refine WT_A (by kernel_rfl) ?_
  clear hXS hSx
  refine T2 12 rfl ?_
  refine V6 [.pointer _, .int .i64 _] rfl Tryz.func36 rfl ?_
  refine (tbegin_any S D w0 _ L gv LG q tb p ⟨s, g, u2, b, em⟩ A len cp nums M z2 hI hr hok hM hN hD (by show u2 + g.sz ≤ _; omega) hb).mono ?_
  rintro e w3 ⟨r, t', L', LG', rfl, hbeg, hr', hok', hsb, -, hI3⟩
  refine ⟨_, rfl, ?_⟩
  replace hI := hI3
  clear hI3
  refine WL_nil ?_
  refine WA_end (by kernel_rfl) ?_
  obtain ⟨f1, f2, f3, f4, f5, f6, f7⟩ := hbeg.facts
  dsimp only at f1 f2 f3 f4 f5 f6 f7
  exact ret0 (.inl rfl) rfl ⟨⟨_, rfl⟩, t', L', LG', f1, hr', f2, hok', hsb, by omega, by omega, f5, f7, hI⟩
 refine W_seq (W_region (V0 rfl (Vn rfl (V4 rfl (WL_nil (W_cond false rfl ?_))))))
 by_cases h7 : z < 7
 ·refine W_seq (W_region (V0 rfl (Vp rfl (V4 rfl (WL_nil (W_cond true rfl (W_draw (by kernel_rfl) ?_)))))))
  refine WA_inv (T := []) hI.hd1.drew ?_
  intro Sx hSx hXS
  replace hI := hI.drew
  refine Vh 0 (hXS _ hI.hd1) rfl (Vi 1 (hXS _ hI.hd1) rfl (Vc 2 0 (hXS _ hI.hd1) rfl (V9 3 (.pointer _) (hXS _ hI.hd1) rfl (fun W hW => (hSx W hW).c0 rfl) (Vh 4 (hXS _ hI.hd1) rfl (Vi 5 (hXS _ hI.hd1) rfl (Vc 6 2 (hXS _ hI.hd1) rfl (V9 7 (.pointer _) (hXS _ hI.hd1) rfl (fun W hW => (hSx W hW).c0 rfl) (Vh 8 (hXS _ hI.hd1) rfl (Vi 9 (hXS _ hI.hd1) rfl (Vc 10 0 (hXS _ hI.hd1) rfl (V9 11 (.pointer _) (hXS _ hI.hd1) rfl (fun W hW => (hSx W hW).c0 rfl) (Vt 12 rfl ?_))))))))))))
  refine V6 [.pointer _] rfl Tryz.func38 rfl ?_
  refine (hWait _ _ hI).mono ?_
  rintro e w1 ⟨rfl, hp⟩
  refine ⟨_, rfl, ?_⟩
  replace hI := hI.pure hp
  refine WL_nil ⟨hXS _ hI.hd1, ?_⟩
  refine Vt 13 rfl ?_
  refine V6 [.pointer _, .int .i64 _] rfl Tryz.func35 rfl ?_
  refine (hBel _ _ (s.mails.length : Int) hI (by omega) (by omega)).mono ?_
  rintro e w2 ⟨z2, u2, rfl, -, -, hu3, hu4, hI2⟩
  refine ⟨_, rfl, ?_⟩
  replace hI := hI2.perm (.swap ..)
  clear hI2
  refine WL_nil ⟨hXS _ hI.hd1, ?_⟩
  refine Vt 14 rfl ?_
  refine V6 [.pointer _, .int .i64 _] rfl Tryz.func37 rfl ?_
  refine (deliverM L s M hok hM (DLs (spt L s)) _ (Inv.fromB (X := (triE tb L.sb gv q p b em :: tapeE q (.slice A len cp) u2 :: LG)) hI) z2).mono ?_
  rintro e w3 ⟨v, L', s', rfl, hmv, hok', hsb, -, hJ, -⟩
  refine ⟨_, rfl, ?_⟩
  replace hI := Inv.callB (X := (triE tb L.sb gv q p b em :: tapeE q (.slice A len cp) u2 :: LG)) hI hJ
  refine WL_nil ⟨hXS _ hI.hd1, ?_⟩
  refine WT_end (by kernel_rfl) ?_
  exact ret0 (.inl rfl) rfl (hEnd hmv hok' hsb (by omega) (by omega) hI)
 refine W_seq (W_region (V0 rfl (Vn rfl (V4 rfl (WL_nil (W_cond false rfl ?_))))))
 by_cases h7b : z = 7
 ·refine W_seq (W_region (V0 rfl (Vz rfl (V4 rfl (WL_nil (W_cond true rfl (W_draw (by kernel_rfl) ?_)))))))
  refine WA_inv (T := []) hI.hd1.drew ?_
  intro Sx hSx hXS
  replace hI := hI.drew
  refine Vh 0 (hXS _ hI.hd1) rfl (Vi 1 (hXS _ hI.hd1) rfl (Vc 2 0 (hXS _ hI.hd1) rfl (V9 3 (.pointer _) (hXS _ hI.hd1) rfl (fun W hW => (hSx W hW).c0 rfl) (Vh 4 (hXS _ hI.hd1) rfl (Vi 5 (hXS _ hI.hd1) rfl (Vc 6 2 (hXS _ hI.hd1) rfl (V9 7 (.pointer _) (hXS _ hI.hd1) rfl (fun W hW => (hSx W hW).c0 rfl) (Vh 8 (hXS _ hI.hd1) rfl (Vi 9 (hXS _ hI.hd1) rfl (Vc 10 0 (hXS _ hI.hd1) rfl (V9 11 (.pointer _) (hXS _ hI.hd1) rfl (fun W hW => (hSx W hW).c0 rfl) (Vt 12 rfl ?_))))))))))))
  refine V6 [.pointer _] rfl Tryz.func38 rfl ?_
  refine (hWait _ _ hI).mono ?_
  rintro e w1 ⟨rfl, hp⟩
  refine ⟨_, rfl, ?_⟩
  replace hI := hI.pure hp
  refine WL_nil ⟨hXS _ hI.hd1, ?_⟩
  refine Vt 13 rfl ?_
  refine V6 [.pointer _, .int .i64 _] rfl Tryz.func35 rfl ?_
  refine (hBel _ _ (s.mails.length : Int) hI (by omega) (by omega)).mono ?_
  rintro e w2 ⟨z2, u2, rfl, -, -, hu3, hu4, hI2⟩
  refine ⟨_, rfl, ?_⟩
  replace hI := hI2.perm (.swap ..)
  clear hI2
  refine WL_nil ⟨hXS _ hI.hd1, ?_⟩
  refine Vt 14 rfl ?_
  refine V6 [.pointer _, .int .i64 _] rfl Tryz.func39 rfl ?_
  refine (dropM L s M hok (DLs (spt L s)) _ (Inv.fromB (X := (triE tb L.sb gv q p b em :: tapeE q (.slice A len cp) u2 :: LG)) hI) z2).mono ?_
  rintro e w3 ⟨⟨v, rfl⟩, L', s', hmv, hok', hsb, hJ⟩
  refine ⟨_, rfl, ?_⟩
  replace hI := Inv.callB (X := (triE tb L.sb gv q p b em :: tapeE q (.slice A len cp) u2 :: LG)) hI hJ
  refine WL_nil ⟨hXS _ hI.hd1, ?_⟩
  refine WT_end (by kernel_rfl) ?_
  exact ret0 (.inl rfl) rfl (hEnd hmv hok' hsb (by omega) (by omega) hI)
 refine W_seq (W_region (V0 rfl (Vr rfl (V4 rfl (WL_nil (W_cond false rfl ?_))))))
 by_cases h8b : z = 8
 ·refine W_seq (W_region (V0 rfl (Vz rfl (V4 rfl (WL_nil (W_cond true rfl (W_draw (by kernel_rfl) ?_)))))))
  refine WA_inv (T := []) hI.hd1.drew ?_
  intro Sx hSx hXS
  replace hI := hI.drew
  refine Vh 0 (hXS _ hI.hd1) rfl (Vi 1 (hXS _ hI.hd1) rfl (Vc 2 0 (hXS _ hI.hd1) rfl (V9 3 (.pointer _) (hXS _ hI.hd1) rfl (fun W hW => (hSx W hW).c0 rfl) (Vh 4 (hXS _ hI.hd1) rfl (Vi 5 (hXS _ hI.hd1) rfl (Vc 6 2 (hXS _ hI.hd1) rfl (V9 7 (.pointer _) (hXS _ hI.hd1) rfl (fun W hW => (hSx W hW).c0 rfl) (Vh 8 (hXS _ hI.hd1) rfl (Vi 9 (hXS _ hI.hd1) rfl (Vc 10 0 (hXS _ hI.hd1) rfl (V9 11 (.pointer _) (hXS _ hI.hd1) rfl (fun W hW => (hSx W hW).c0 rfl) (Vt 12 rfl ?_))))))))))))
  refine V6 [.pointer _] rfl Tryz.func38 rfl ?_
  refine (hWait _ _ hI).mono ?_
  rintro e w1 ⟨rfl, hp⟩
  refine ⟨_, rfl, ?_⟩
  replace hI := hI.pure hp
  refine WL_nil ⟨hXS _ hI.hd1, ?_⟩
  refine Vt 13 rfl ?_
  refine V6 [.pointer _, .int .i64 _] rfl Tryz.func35 rfl ?_
  refine (hBel _ _ (s.mails.length : Int) hI (by omega) (by omega)).mono ?_
  rintro e w2 ⟨z2, u2, rfl, -, -, hu3, hu4, hI2⟩
  refine ⟨_, rfl, ?_⟩
  replace hI := hI2.perm (.swap ..)
  clear hI2
  refine WL_nil ⟨hXS _ hI.hd1, ?_⟩
  refine Vt 14 rfl ?_
  refine V6 [.pointer _, .int .i64 _] rfl Tryz.func40 rfl ?_
  refine (doubleM L s M hok (DLs (spt L s)) _ (Inv.fromB (X := (triE tb L.sb gv q p b em :: tapeE q (.slice A len cp) u2 :: LG)) hI) z2).mono ?_
  rintro e w3 ⟨⟨v, rfl⟩, L', s', hmv, hok', hsb, hJ⟩
  refine ⟨_, rfl, ?_⟩
  replace hI := Inv.callB (X := (triE tb L.sb gv q p b em :: tapeE q (.slice A len cp) u2 :: LG)) hI hJ
  refine WL_nil ⟨hXS _ hI.hd1, ?_⟩
  refine WT_end (by kernel_rfl) ?_
  exact ret0 (.inl rfl) rfl (hEnd hmv hok' hsb (by omega) (by omega) hI)
 refine W_seq (W_region (V0 rfl (Vr rfl (V4 rfl (WL_nil (W_cond false rfl (W_region (V7 rfl (V6 [.pointer _] rfl Tryz.func41 rfl ?_)))))))))
 refine (part_any _ L s (u + 1) b M em hI hok hM hN hD (by omega) hpn hpk).mono ?_
 rintro e w3 ⟨⟨v, rfl⟩, u3, L', s', hmv, hok', hsb, hu3, hu4, hI3⟩
 refine ⟨_, rfl, ?_⟩
 replace hI := hI3
 clear hI3
 refine WL_nil ?_
 exact ret0 (.inl rfl) rfl (hEnd hmv hok' hsb (by omega) (by omega) hI)
end
/-- All mails are delivered, the first one first. -/
inductive DelR : StS → StS → Prop
 | nil {s : StS} : s.mails = [] → DelR s s
 | step {s s' : StS} {m : SMail} : s.mails[0]? = some m → DelR (deliverF s 0 m) s' → DelR s s'
/-- Each client from i on may begin. -/
inductive RndR (nums : List Int) (k : Nat) : Nat → Tr → Bool → Tr → Bool → Prop
 | done {t : Tr} {m : Bool} : RndR nums k k t m t m
 | step {i : Nat} {t t1 t2 : Tr} {r m m2 : Bool} : i < k → BegR nums t (i : Int) r t1 → RndR nums k (i + 1) t1 (r || m) t2 m2 → RndR nums k i t m t2 m2
inductive FinR (nums : List Int) (k : Nat) : Tr → Tr → Prop
 | last {t t1 : Tr} {s1 : StS} : DelR t.st s1 → RndR nums k 0 { t with st := s1 } false t1 false → FinR nums k t t1
 | more {t t1 t2 : Tr} {s1 : StS} : DelR t.st s1 → RndR nums k 0 { t with st := s1 } false t1 true → FinR nums k t1 t2 → FinR nums k t t2
theorem BegR.mu {nums : List Int} {t t' : Tr} {c : Int} {r : Bool} (h : BegR nums t c r t') (hn : t.st.n ≤ 7) : (r = true → t'.b = t.b + 1 ∧ t.b < 40 ∧ muS t'.st ≤ muS t.st + 29) ∧ (r = false → t'.b = t.b ∧ t'.st = t.st) := by
 rcases h with ⟨_, rfl, rfl⟩ | ⟨_, hb, c', hm, rr, g', u', hnx, h⟩
 ·exact ⟨fun h => (by cases h), fun _ => ⟨rfl, rfl⟩⟩
 ·rcases h with ⟨_, rfl, rfl⟩ | ⟨w, k, v, _, ⟨_, rfl, rfl⟩ | ⟨hok, rfl, rfl⟩⟩
  ·exact ⟨fun h => (by cases h), fun _ => ⟨rfl, rfl⟩⟩
  ·exact ⟨fun h => (by cases h), fun _ => ⟨rfl, rfl⟩⟩
  ·refine ⟨fun _ => ⟨rfl, hb, ?_⟩, fun h => (by cases h)⟩
   have := mu_beg (s := t.st) (key := k.toNat) (write := w) (value := v) hm.lt
   show muS (begS t.st c' k.toNat w v) ≤ _
   omega
theorem begS_nk (s : StS) (c key : Nat) (w : Bool) (v : Int) : (begS s c key w v).n = s.n ∧ (begS s c key w v).k = s.k := ⟨rfl, rfl⟩
theorem BegR.nk {nums : List Int} {t t' : Tr} {c : Int} {r : Bool} (h : BegR nums t c r t') : t'.st.n = t.st.n ∧ t'.st.k = t.st.k := by
 rcases h with ⟨_, _, rfl⟩ | ⟨_, hb, c', hm, rr, g', u', hnx, h⟩
 ·exact ⟨rfl, rfl⟩
 ·rcases h with ⟨_, _, rfl⟩ | ⟨w, k, v, _, ⟨_, _, rfl⟩ | ⟨hok, _, rfl⟩⟩
  ·exact ⟨rfl, rfl⟩
  ·exact ⟨rfl, rfl⟩
  ·exact begS_nk ..
theorem hear_nk (s : StS) (j : Nat) (m : SMsg) : (hearF s j m).n = s.n ∧ (hearF s j m).k = s.k := by
 unfold hearF
 dsimp only
 split
 ·exact ⟨rfl, rfl⟩
 ·split
  ·split <;> exact ⟨rfl, rfl⟩
  ·split
   ·exact ⟨rfl, rfl⟩
   ·split <;> exact ⟨rfl, rfl⟩
theorem del_nk (s : StS) (i : Nat) (m : SMail) : (deliverF s i m).n = s.n ∧ (deliverF s i m).k = s.k := by
 unfold deliverF
 dsimp only
 split
 ·exact ⟨rfl, rfl⟩
 ·exact hear_nk { s with mails := s.mails.eraseIdx i } m.src m.m
section
variable {S D : Nat → Prop} {w0 : World} {gv : Value} {q tb sb : Nat} {p : FPlan} {A : Option Addr} {len cp : Nat} {nums : List Int} {SZ C : Nat}
/-- A trial in memory, and how much may still come. -/
structure FI (S : Nat → Prop) (w0 : World) (gv : Value) (q tb sb : Nat) (p : FPlan) (A : Option Addr) (len cp : Nat) (SZ C : Nat) (t : Tr) (L : StL) (LG : List Ent) (M : Nat) (w : World) : Prop where
 rep : Rep t.g gv LG
 sz : t.g.sz ≤ SZ
 ok : SOk L t.st M
 sbe : L.sb = sb
 cut : L.cut = false
 b40 : t.b ≤ 40
 k : t.st.k = p.k
 mc : M ≤ C
 u : t.u + (C - M) * SZ + SZ ≤ 4000000000000000000
 inv : Inv S w0 w (triE tb sb gv q p t.b t.em :: tapeE q (.slice A len cp) t.u :: (LG ++ spt L t.st))
theorem mul_step {C M SZ : Nat} (h : M + 1 ≤ C) : (C - (M + 1)) * SZ + SZ = (C - M) * SZ := by
 have e : C - M = (C - (M + 1)) + 1 := by omega
 rw [e, Nat.succ_mul]
set_option maxHeartbeats 8000000 in
theorem finish_any (w : World) (L : StL) (LG : List Ent) (t0 : Tr) (M0 : Nat)
  (hI : Inv S w0 w (triE tb L.sb gv q p t0.b t0.em :: tapeE q (.slice A len cp) t0.u :: (LG ++ spt L t0.st))) (hr : Rep t0.g gv LG) (hok : SOk L t0.st M0) (hC : M0 + muS t0.st + 60 * (40 - t0.b) + 8 ≤ C) (hC2 : C ≤ 90000) (hN : Ints w0 D (.slice A len cp) nums) (hD : ∀ k, D k → ¬ S k)
  (hsz : t0.g.sz ≤ SZ) (hu : t0.u + (C - M0) * SZ + SZ ≤ 4000000000000000000) (hb : t0.b ≤ 40) (hpk : t0.st.k = p.k) :
  Calls Tryz.prog 17 #[at0 tb] w fun e w' => (∃ v, e = .returned v) ∧ ∃ (t' : Tr) (L' : StL) (LG' : List Ent) (M' : Nat), FinR nums p.k t0 t' ∧ Rep t'.g gv LG' ∧ SOk L' t'.st M' ∧ L'.sb = L.sb ∧
   Inv S w0 w' (triE tb L.sb gv q p t'.b t'.em :: tapeE q (.slice A len cp) t'.u :: (LG' ++ spt L' t'.st)) := by
 refine Vm Tryz.f17.ntmps Tryz.func17 rfl ?_
 refine W_seq (W_region (V7 rfl (Vb rfl (V5 0 rfl (V3 (.pointer _) rfl (hI.c0 rfl) (V6 [.pointer _, .slice _ _ _] rfl Tryz.func42 rfl ?_))))))
 refine (cutNilX L t0.st (DLs (spt L t0.st)) _ (Inv.fromB (X := triE tb L.sb gv q p t0.b t0.em :: tapeE q (.slice A len cp) t0.u :: LG) hI)).mono ?_
 rintro e w3 ⟨⟨v, rfl⟩, L1, hsb, hcw, hcut, hJ⟩
 refine ⟨_, rfl, ?_⟩
 replace hI := Inv.callB (X := triE tb L.sb gv q p t0.b t0.em :: tapeE q (.slice A len cp) t0.u :: LG) hI hJ
 refine WL_nil ?_
 have hFI : FI S w0 gv q tb L.sb p A len cp SZ C t0 L1 LG M0 w3 := ⟨hr, hsz, hok.loc hcw, hsb, hcut, hb, hpk, by omega, hu, hI⟩
 refine W_seq (W_region (V4 rfl (WL_nil (W_block ?_))))
 refine W_loopN (fun mu ρ w => ∃ (t : Tr) (L1 : StL) (LG1 : List Ent) (M : Nat) (more : Bool), mu = 2 * (40 - t.b) + more.toNat ∧ FI S w0 gv q tb L.sb p A len cp SZ C t L1 LG1 M w ∧ Has ρ [(2, .bool more), (0, at0 tb)] ∧
   ((more = true ∧ (∀ t', FinR nums p.k t t' → FinR nums p.k t0 t') ∧ M + muS t.st + 60 * (40 - t.b) + 8 ≤ C) ∨ (more = false ∧ FinR nums p.k t0 t))) (2 * (40 - t0.b) + 1)
  ⟨t0, L1, LG, M0, true, rfl, hFI, ⟨rfl, rfl, trivial⟩, .inl ⟨rfl, fun _ h => h, hC⟩⟩ ?_
 clear hI hFI hr hok hC hsz hu hb hpk hsb hcw hcut hJ
 rintro mu ρ w ⟨t, L1, LG1, M, more, rfl, hF, hH, hcase⟩
 obtain ⟨σ, rfl⟩ := hH.open
 have hI := hF.inv
 rcases hcase with ⟨rfl, hfin, hC⟩ | ⟨rfl, hfin⟩
 rotate_left
 ·refine W_seq (W_seq (W_region (V2 rfl (WL_nil (W_cond false rfl ?_)))))
  refine W_exit ?_
  exact ret0 (.inl rfl) rfl ⟨⟨_, rfl⟩, t, L1, LG1, M, hfin, hF.rep, hF.ok, hF.sbe, hI⟩
 refine W_seq (W_seq (W_region (V2 rfl (WL_nil (W_cond true rfl (W_skip (W_block ?_)))))))
 refine W_seq_cut (fun ρ w => ∃ (s1 : StS) (L2 : StL) (M2 : Nat), FI S w0 gv q tb L.sb p A len cp SZ C { t with st := s1 } L2 LG1 M2 w ∧ DelR t.st s1 ∧ M2 + muS s1 + 60 * (40 - t.b) + 8 ≤ C ∧ Has ρ [(0, at0 tb)]) ?_ ?_
 ·refine W_block ?_
  refine W_loopN (fun mu ρ w => ∃ (s1 : StS) (L2 : StL) (M2 : Nat), mu = muS s1 ∧ FI S w0 gv q tb L.sb p A len cp SZ C { t with st := s1 } L2 LG1 M2 w ∧ (∀ s', DelR s1 s' → DelR t.st s') ∧ M2 + muS s1 + 60 * (40 - t.b) + 8 ≤ C ∧ Has ρ [(0, at0 tb)]) (muS t.st)
   ⟨t.st, L1, M, rfl, hF, fun _ h => h, hC, ⟨rfl, trivial⟩⟩ ?_
  clear hI hF hC
  rintro mu ρ w ⟨s1, L2, M2, rfl, hF, hdel, hC, hH⟩
  obtain ⟨σ, rfl⟩ := hH.open
  have hI := hF.inv
  have hsb := hF.sbe
  have hmf := hF.ok.mok
  have hfk := hF.k
  have hfn := hF.ok.n1
  dsimp only at hI hmf hfk hfn
  rw [← hsb] at hI
  replace hI : Inv S w0 w ((triE tb L2.sb gv q p t.b t.em :: tapeE q (.slice A len cp) t.u :: LG1) ++ spt L2 s1) := hI
  by_cases hm0 : s1.mails.length = 0
  ·refine W_seq (W_seq (W_region (V7 rfl (Vb rfl (V5 0 rfl (V3 (.pointer _) rfl (hI.c0 rfl) (V6 [.pointer _] rfl Tryz.func38 rfl ?_)))))))
   refine (waiting_any L2.sb s1.mails.length L2.mc L2.MA _ (sp_c7 (X := (triE tb L2.sb gv q p t.b t.em :: tapeE q (.slice A len cp) t.u :: LG1)) hI)).mono ?_
   rintro e w1 ⟨rfl, hp⟩
   refine ⟨_, rfl, ?_⟩
   replace hI := hI.pure hp
   refine Td rfl (WL_nil (W_cond false rfl ?_))
   refine W_exit ?_
   have hI1 : Inv S w0 w1 (triE tb L.sb gv q p t.b t.em :: tapeE q (.slice A len cp) t.u :: (LG1 ++ spt L2 s1)) := by rw [← hsb]; exact hI
   exact ⟨s1, L2, M2, { hF with inv := hI1 }, hdel s1 (.nil (List.eq_nil_of_length_eq_zero hm0)), hC, ⟨rfl, trivial⟩⟩
  ·obtain ⟨m, hm⟩ : ∃ m, s1.mails[0]? = some m := ⟨_, List.getElem?_eq_getElem (by omega)⟩
   have hmu := mu_deliver hm (hmf m (List.mem_of_getElem? hm)).1
   refine W_seq (W_seq (W_region (V7 rfl (Vb rfl (V5 0 rfl (V3 (.pointer _) rfl (hI.c0 rfl) (V6 [.pointer _] rfl Tryz.func38 rfl ?_)))))))
   refine (waiting_any L2.sb s1.mails.length L2.mc L2.MA _ (sp_c7 (X := (triE tb L2.sb gv q p t.b t.em :: tapeE q (.slice A len cp) t.u :: LG1)) hI)).mono ?_
   rintro e w1 ⟨rfl, hp⟩
   refine ⟨_, rfl, ?_⟩
   replace hI := hI.pure hp
   refine Ts rfl (WL_nil (W_cond true rfl (W_skip (W_block (W_region (V7 rfl (Vb rfl (V5 0 rfl (V3 (.pointer _) rfl (hI.c0 rfl) (V6 [.pointer _, .int .i64 _] rfl Tryz.func37 rfl ?_))))))))))
   refine (deliverM L2 s1 M2 hF.ok (by have := hF.mc; omega) (DLs (spt L2 s1)) _ (Inv.fromB (X := (triE tb L2.sb gv q p t.b t.em :: tapeE q (.slice A len cp) t.u :: LG1)) hI) 0).mono ?_
   rintro e w3 ⟨v, L3, s3, rfl, hmv, hok3, hsb3, hcut3, hJ, hex⟩
   obtain ⟨rfl, rfl⟩ := hex 0 m hF.cut rfl hm
   refine ⟨_, rfl, ?_⟩
   replace hI := Inv.callB (X := (triE tb L2.sb gv q p t.b t.em :: tapeE q (.slice A len cp) t.u :: LG1)) hI hJ
   refine WL_nil ?_
   have hI1 : Inv S w0 w3 (triE tb L.sb gv q p t.b t.em :: tapeE q (.slice A len cp) t.u :: (LG1 ++ spt L3 (deliverF s1 0 m))) := by rw [← hsb]; exact hI
   have hstep := mul_step (SZ := SZ) (show M2 + 1 ≤ C by omega)
   have hfu := hF.u
   dsimp only at hfu
   exact ⟨muS (deliverF s1 0 m), hmu, deliverF s1 0 m, L3, M2 + 1, rfl, ⟨hF.rep, hF.sz, hok3, hsb3.trans hsb, hcut3.trans hF.cut, hF.b40, (del_nk s1 0 m).2.trans hfk, by omega, by show t.u + (C - (M2 + 1)) * SZ + SZ ≤ _; omega, hI1⟩, fun s' h => hdel s' (.step hm h), by omega, ⟨rfl, trivial⟩⟩
 clear hI hF hC
 rintro ρ w ⟨s1, L2, M2, hF, hdel, hC, hH⟩
 obtain ⟨σ, rfl⟩ := hH.open
 have hI := hF.inv
 dsimp only at hI
 have hk8 := hF.ok.k1
 have hkk := hF.k
 dsimp only at hk8 hkk
 refine W_seq (W_region (V4 rfl (WL_nil (W_seq (W_region (V7 rfl (Vb rfl (V5 3 rfl (Te rfl (Tb 1 rfl (V3 (.int .i64 _) rfl (hI.c0 rfl) (V0 rfl (WL_nil ?_)))))))))))))
 refine W_block ?_
 refine W_loopN (fun mu ρ w => ∃ (i : Nat) (t1 : Tr) (L3 : StL) (LG3 : List Ent) (M3 : Nat) (more : Bool), mu = p.k - i ∧ i ≤ p.k ∧ FI S w0 gv q tb L.sb p A len cp SZ C t1 L3 LG3 M3 w ∧ (∀ t2 m2, RndR nums p.k i t1 more t2 m2 → RndR nums p.k 0 { t with st := s1 } false t2 m2) ∧
   M3 + muS t1.st + 60 * (40 - t1.b) + (8 - i) + 8 * more.toNat ≤ C ∧ (more = true → t.b < t1.b) ∧ t.b ≤ t1.b ∧ Has ρ [(2, .bool more), (27, .int .i64 (i : Int)), (26, .int .i64 (p.k : Int)), (0, at0 tb)]) p.k
  ⟨0, { t with st := s1 }, L2, LG1, M2, false, rfl, by omega, hF, fun _ _ h => h, by show M2 + muS s1 + 60 * (40 - t.b) + (8 - 0) + 8 * 0 ≤ C; omega, fun h => (by cases h), Nat.le_refl _, ⟨rfl, rfl, rfl, rfl, trivial⟩⟩ ?_
 clear hI hC
 rintro mu ρ w ⟨i, t1, L3, LG3, M3, more, rfl, hik, hF1, hrnd, hC, hmb, hb1, hH⟩
 obtain ⟨σ, rfl⟩ := hH.open
 have hI := hF1.inv
 have hsb := hF1.sbe
 have hn7 := hF1.ok.n1
 have hF1b := hF1.b40
 by_cases hi : i < p.k
 rotate_left
 ·obtain rfl : i = p.k := by omega
  refine W_seq (W_region (Vn rfl (WL_nil (W_seq (W_cond false rfl ?_)))))
  refine W_exit ?_
  cases more with
  | true =>
   have h1 := hmb rfl
   exact ⟨2 * (40 - t1.b) + 1, by show 2 * (40 - t1.b) + 1 < 2 * (40 - t.b) + 1; omega, t1, L3, LG3, M3, true, rfl, hF1, ⟨rfl, rfl, trivial⟩, .inl ⟨rfl, fun t' h => hfin t' (.more hdel (hrnd t1 true .done) h), by dsimp only [Bool.toNat, cond] at hC; omega⟩⟩
  | false =>
   exact ⟨2 * (40 - t1.b) + 0, by show 2 * (40 - t1.b) + 0 < 2 * (40 - t.b) + 1; omega, t1, L3, LG3, M3, false, rfl, hF1, ⟨rfl, rfl, trivial⟩, .inr ⟨rfl, hfin t1 (.last hdel (hrnd t1 false .done))⟩⟩
 refine W_seq (W_region (Vp rfl (WL_nil (W_seq (W_cond true rfl (W_skip ?_))))))
 rw [← hsb] at hI
 have hbeg := fun (w : World) (hI : Inv S w0 w (triE tb L3.sb gv q p t1.b t1.em :: tapeE q (.slice A len cp) t1.u :: (LG3 ++ spt L3 t1.st))) =>
  tbegin_any S D w0 w L3 gv LG3 q tb p t1 A len cp nums M3 (i : Int) hI hF1.rep hF1.ok (by have := hF1.mc; omega) hN hD (by have := hF1.u; have := hF1.sz; omega) (by omega)
 refine W_seq_cut (fun ρ w => ∃ (r : Bool) (t2 : Tr) (L4 : StL) (LG4 : List Ent), BegR nums t1 (i : Int) r t2 ∧ Rep t2.g gv LG4 ∧ SOk L4 t2.st (M3 + 1) ∧ L4.sb = L.sb ∧ L4.cut = false ∧ Has ρ [(2, .bool (r || more)), (27, .int .i64 (i : Int)), (26, .int .i64 (p.k : Int)), (0, at0 tb)] ∧
  Inv S w0 w (triE tb L.sb gv q p t2.b t2.em :: tapeE q (.slice A len cp) t2.u :: (LG4 ++ spt L4 t2.st))) ?_ ?_
 ·refine W_block (W_seq (W_region (V0 rfl (Va rfl (WL_nil (W_region (V7 rfl (V0 rfl (V6 [.pointer _, .int .i64 _] rfl Tryz.func36 rfl ?_)))))))))
  refine (hbeg _ hI).mono ?_
  rintro e w4 ⟨r, t2, L4, LG4, rfl, hb, hr4, hok4, hsb4, hcut4, hI4⟩
  refine ⟨_, rfl, ?_⟩
  rw [hsb] at hI4
  cases r with
  | true =>
   refine V2 rfl (V1 rfl (Vd rfl (V4 rfl (WL_nil ?_))))
   exact ⟨true, t2, L4, LG4, hb, hr4, hok4, hsb4.trans hsb, hcut4.trans hF1.cut, ⟨rfl, rfl, rfl, rfl, trivial⟩, hI4⟩
  | false =>
   refine V2 rfl (V2 rfl (V8 rfl (V4 rfl (WL_nil ?_))))
   exact ⟨false, t2, L4, LG4, hb, hr4, hok4, hsb4.trans hsb, hcut4.trans hF1.cut, ⟨rfl, rfl, rfl, rfl, trivial⟩, hI4⟩
 clear hI
 rintro ρ w ⟨r, t2, L4, LG4, hb, hr4, hok4, hsb4, hcut4, hH, hI⟩
 obtain ⟨σ, rfl⟩ := hH.open
 refine W_region (Vu rfl (V0 rfl (WL_nil ?_)))
 obtain ⟨f1, f2, f3, f4, f5, f6, f7⟩ := hb.facts
 obtain ⟨m1, m2⟩ := hb.mu hn7.2
 have hnk := hb.nk
 have hstep := mul_step (SZ := SZ) (M := M3) (C := C) (by omega)
 have hfu := hF1.u
 have hfs := hF1.sz
 refine ⟨p.k - (i + 1), by omega, i + 1, t2, L4, LG4, M3 + 1, r || more, rfl, by omega, ⟨hr4, by omega, hok4, hsb4, hcut4, f7 hF1b, hnk.2.trans hF1.k, by omega, by omega, hI⟩, fun t3 m3 h => hrnd t3 m3 (.step hi hb h), ?_, ?_, by omega, ⟨rfl, rfl, rfl, rfl, trivial⟩⟩
 ·cases r with
  | true =>
   obtain ⟨b1, b2, b3⟩ := m1 rfl
   show M3 + 1 + muS t2.st + 60 * (40 - t2.b) + (8 - (i + 1)) + 8 * 1 ≤ C
   omega
  | false =>
   obtain ⟨b1, b2⟩ := m2 rfl
   show M3 + 1 + muS t2.st + 60 * (40 - t2.b) + (8 - (i + 1)) + 8 * more.toNat ≤ C
   rw [b1, b2]
   omega
 ·cases r with
  | true =>
   obtain ⟨b1, b2, b3⟩ := m1 rfl
   intro _
   omega
  | false =>
   intro h
   have := hmb h
   omega
end
end Go.Proofs.YthndpiopbdecfaaGreatDoor
namespace Go.Proofs.YthndpiopbdecfaaGreatDoor
/-- Moves, one behind the other. -/
inductive MvS : StS → StS → Prop
 | refl (s : StS) : MvS s s
 | step {s t u : StS} : MvS s t → Mv t u → MvS s u
end Go.Proofs.YthndpiopbdecfaaGreatDoor
namespace Go.Proofs.YthndpiopbdecfaaGreatDoor
open Go.RowKit
set_option linter.unusedVariables false
set_option linter.unusedSimpArgs false
section
variable {P : Program} {ρ : Env} {w : World} {o : Oper} {x : Operand} {t t' e : TypeId}
theorem rSlNT {n c : Nat} (ho : o.op = .binOp .eql t x (.const (.slice none 0 0)) t') (ht : P.underlying t = some (.slice e)) (hx : ev ρ x = .slice none n c) : Runs P ρ o w (.bool true) := by
 have h := run_equal (P := P) (w := w) (t := t) (x := .slice none n c) (y := .slice none 0 0) (r := true) (fun d => by simp [Op.equalIn, run_underlying ht])
 simp [Runs, execOp, ho, hx, show ev ρ (.const (.slice none 0 0)) = .slice none 0 0 from rfl, eqGuard, binOp, h]
theorem rSlNF {n c : Nat} {p : Addr} (ho : o.op = .binOp .eql t x (.const (.slice none 0 0)) t') (ht : P.underlying t = some (.slice e)) (hx : ev ρ x = .slice (some p) n c) : Runs P ρ o w (.bool false) := by
 have h := run_equal (P := P) (w := w) (t := t) (x := .slice (some p) n c) (y := .slice none 0 0) (r := false) (fun d => by simp [Op.equalIn, run_underlying ht])
 simp [Runs, execOp, ho, hx, show ev ρ (.const (.slice none 0 0)) = .slice none 0 0 from rfl, eqGuard, binOp, h]
end
theorem ints_one (l : List Int) : (l.map (Value.int .i64)).all (·.oneCell') = true := by simp [Value.oneCell']
set_option maxHeartbeats 1000000 in
theorem cloneI_any (A : Option Addr) (n c : Nat) (l : List Int) (D : Nat → Prop) (w0 : World) (h : Ints w0 D (.slice A n c) l) (hb : l.length ≤ 1000000) :
  Calls Tryz.prog 14 #[.slice A n c] w0 fun en w' => ∃ A' c', en = .returned (.slice A' n c') ∧ Inv (fun _ => False) w0 w' [Row 0 3 1 A' n c' (l.map (Value.int .i64))] := by
 obtain ⟨A1, c1, hv, hnc, hcm, hlen, hcell⟩ := h
 injection hv with e1 e2 e3
 subst e1 e2 e3
 have hI := Inv.start (fun _ => False) w0
 refine Vm Tryz.f14.ntmps Tryz.func14 rfl ?_
 refine W_seq (W_region (Vl rfl (WL_nil ?_)))
 cases A with
 | none =>
  have hl : l = [] := by
   rcases Nat.eq_zero_or_pos l.length with h0 | h0
   ·exact List.eq_nil_of_length_eq_zero h0
   ·obtain ⟨b, o, hbo, _⟩ := hcell h0
    cases hbo
  subst hl
  refine W_seq (W_seq (W_region (Ve rfl ?_)))
  refine WL_val rfl rfl rfl (rSlNT rfl Tryz.underlying26 rfl) ?_
  refine WL_nil (W_cond true rfl (W_seq (W_region (Vl rfl (WL_nil ?_)))))
  refine W_ret ?_
  exact ret1 2 (.inr rfl) rfl ⟨none, 0, rfl, hI.fresh (Pure.refl _) (Row.nil _ 0 3 1) (fun k hk => by simp [Row] at hk)⟩
 | some p =>
  refine W_seq (W_seq (W_region (Ve rfl ?_)))
  refine WL_val rfl rfl rfl (rSlNF rfl Tryz.underlying26 rfl) ?_
  refine WL_nil (W_cond false rfl (W_skip (W_seq (W_region (Vy [] [] [] [] hI rfl Tryz.underlying26 (fun _ => by kernel_rfl) ?_)))))
  clear hI; rintro b5 w - - hI
  refine Ve rfl ?_
  replace hI := hI.u0 (e' := Row 0 3 1 (some ⟨b5, 0, none⟩) 0 0 []) (Chg.refl _ _) (Row.of_blk hI.g0 (Nat.zero_le _) (by simp) (by omega)) (fun k hk => .inl (by have : some b5 = some k := hk; injection this with this; exact this.symm))
  rcases Nat.eq_zero_or_pos l.length with h0 | h0
  ·have hl : l = [] := List.eq_nil_of_length_eq_zero h0
   subst hl
   refine WL_val rfl rfl rfl (rApp0 rfl Tryz.underlying26 (sz := 1) (by kernel_rfl) rfl rfl (Nat.le_refl _)) ?_
   refine Vl rfl (WL_nil ?_)
   refine W_ret ?_
   exact ret1 2 (.inr rfl) rfl ⟨_, _, rfl, hI⟩
  ·obtain ⟨b, o, hbo, _, hcl⟩ := hcell h0
   injection hbo with hbo
   subst hbo
   refine WL_app0 (z := .int .i64 0) (by_ := 8) (news := l.map (Value.int .i64)) hI rfl rfl rfl rfl rfl rfl Tryz.underlying26 (by kernel_rfl) rfl (by omega) (by rw [hlen]) (fun k u hk => hI.oldp (hcl k u hk)) (ints_one l) (by simp; omega) (by simp; omega) (Nat.zero_le _) ?_
   clear hI; rintro A2 c2 w _ _ hI
   refine Vl rfl (WL_nil ?_)
   refine W_ret ?_
   refine ret1 2 (.inr rfl) rfl ⟨A2, c2, ?_, ?_⟩
   ·show Ending.returned (.slice A2 (0 + l.length) c2) = _; rw [Nat.zero_add]
   ·have h' : Inv (fun _ => False) w0 w [Row 0 3 1 A2 (0 + l.length) c2 ([] ++ l.map (Value.int .i64))] := hI
    rw [Nat.zero_add, List.nil_append] at h'; exact h'
abbrev Sg := Tok × Nat
def sgL (s : Sg) : List Value := [strV s.1, .int .i64 (s.2 : Int)]
theorem sgL_len (s : Sg) : (sgL s).length = 2 := rfl
theorem sg_push (l : List Sg) (e : Sg) : (l ++ [e]).flatMap sgL = l.flatMap sgL ++ sgL e := by simp
def curF (bs : List UInt8) (fr : Option Nat) (i : Nat) : Tok := match fr with
 | none => []
 | some f => (bs.drop f).take (i - f)
def flushS (bs : List UInt8) (out : List Sg) (fr : Option Nat) (i : Nat) : List Sg := match fr with
 | none => out
 | some f => out ++ [((bs.drop f).take (i - f), f)]
def frV (fr : Option Nat) : Int := match fr with
 | none => -1
 | some f => (f : Int)
/-- What holds ahead of place i. -/
structure SgOk (bs : List UInt8) (i : Nat) (out : List Sg) (fr : Option Nat) : Prop where
 eq : out.map (·.1) ++ tg (curF bs fr i) (bs.drop i) = toks bs
 lt : ∀ f, fr = some f → f < i ∧ f < bs.length
 fin : bs.length < i → fr = none
 len : out.length ≤ 2 * i
section
variable {bs : List UInt8} {i : Nat} {out : List Sg} {fr : Option Nat}
theorem SgOk.start : SgOk bs 0 [] none := ⟨by simp [curF, toks], by simp, fun _ => rfl, by simp⟩
theorem curF_ne (h : SgOk bs i out fr) {f : Nat} (hf : fr = some f) : curF bs fr i ≠ [] := by
 have := h.lt f hf
 subst hf
 intro hc
 have hl := congrArg List.length hc
 simp only [curF, List.length_take, List.length_drop, List.length_nil] at hl
 omega
theorem flush_map (h : SgOk bs i out fr) : (flushS bs out fr i).map (·.1) = out.map (·.1) ++ flushT (curF bs fr i) := by
 cases fr with
 | none => simp [flushS, curF, flushT]
 | some f =>
  have := curF_ne h rfl
  simp only [flushT, if_neg this]
  simp [flushS, curF]
theorem flush_len : (flushS bs out fr i).length ≤ out.length + 1 := by cases fr <;> simp [flushS]
theorem SgOk.single (h : SgOk bs i out fr) {c : UInt8} (hc : bs[i]? = some c) (hs : singleB c = true) : SgOk bs (i + 1) (flushS bs out fr i ++ [([c], i)]) none := by
 obtain ⟨hi, hce⟩ := List.getElem?_eq_some_iff.1 hc
 have he := h.eq
 rw [List.drop_eq_getElem_cons hi, hce, tg, if_pos hs] at he
 refine ⟨?_, by simp, fun _ => rfl, ?_⟩
 ·rw [List.map_append, flush_map h, ← he]
  simp [curF]
 ·have := flush_len (bs := bs) (i := i) (out := out) (fr := fr)
  have := h.len
  simp only [List.length_append, List.length_singleton]; omega
theorem SgOk.space (h : SgOk bs i out fr) {c : UInt8} (hc : bs[i]? = some c) (hs : singleB c = false) (h32 : c = 32) : SgOk bs (i + 1) (flushS bs out fr i) none := by
 obtain ⟨hi, hce⟩ := List.getElem?_eq_some_iff.1 hc
 have he := h.eq
 rw [List.drop_eq_getElem_cons hi, hce, tg, hs, if_neg (by simp), if_pos h32] at he
 refine ⟨?_, by simp, fun _ => rfl, ?_⟩
 ·rw [flush_map h, ← he]
  simp [curF]
 ·have := flush_len (bs := bs) (i := i) (out := out) (fr := fr)
  have := h.len
  omega
theorem SgOk.word (h : SgOk bs i out fr) {c : UInt8} (hc : bs[i]? = some c) (hs : singleB c = false) (h32 : c ≠ 32) : SgOk bs (i + 1) out (some (fr.getD i)) := by
 obtain ⟨hi, hce⟩ := List.getElem?_eq_some_iff.1 hc
 have he := h.eq
 rw [List.drop_eq_getElem_cons hi, hce, tg, hs, if_neg (by simp), if_neg h32] at he
 refine ⟨?_, fun f hf => ?_, fun hl => by omega, by have := h.len; omega⟩
 ·have e : curF bs (some (fr.getD i)) (i + 1) = curF bs fr i ++ [c] := by
   cases fr with
   | none =>
    simp only [curF, Option.getD_none, List.nil_append]
    rw [List.drop_eq_getElem_cons hi, hce, show i + 1 - i = 1 by omega]
    rfl
   | some f =>
    have hf := h.lt f rfl
    simp only [curF, Option.getD_some]
    rw [show i + 1 - f = (i - f) + 1 by omega, List.take_add_one, List.getElem?_drop, show f + (i - f) = i by omega, hc]
    rfl
  rw [e]
  exact he
 ·cases hf
  cases fr with
  | none => simp only [Option.getD_none]; omega
  | some f => have := h.lt f rfl; simp only [Option.getD_some]; omega
theorem SgOk.last (h : SgOk bs bs.length out fr) : SgOk bs (bs.length + 1) (flushS bs out fr bs.length) none := by
 have he := h.eq
 rw [List.drop_of_length_le (Nat.le_refl _), tg] at he
 refine ⟨?_, by simp, fun _ => rfl, ?_⟩
 ·rw [flush_map h, ← he]
  simp [curF, tg, flushT, List.drop_of_length_le]
 ·have := flush_len (bs := bs) (i := bs.length) (out := out) (fr := fr)
  have := h.len
  omega
theorem SgOk.end_ (h : SgOk bs (bs.length + 1) out fr) : out.map (·.1) = toks bs := by
 have he := h.eq
 have := h.fin (by omega)
 subst this
 rw [List.drop_of_length_le (by omega)] at he
 simpa [curF, tg, flushT] using he
end
theorem single_of (c : UInt8) : singleB c = true ↔ c.toNat = 40 ∨ c.toNat = 41 ∨ c.toNat = 44 := by
 unfold singleB
 simp only [Bool.or_eq_true, beq_iff_eq, ← UInt8.toNat_inj, or_assoc]
 rfl
set_option maxHeartbeats 4000000 in
theorem signs_any (bs : List UInt8) (w0 : World) (hl : bs.length ≤ 100000) :
  Calls Tryz.prog 32 #[strV bs] w0 fun e w' => ∃ (A : Option Addr) (c : Nat) (out : List Sg), e = .returned (.slice A out.length c) ∧ out.map (·.1) = toks bs ++ [[]] ∧ Inv (fun _ => False) w0 w' [Row 0 138 2 A out.length c (out.flatMap sgL)] := by
 have hI := Inv.start (fun _ => False) w0
 refine Vm Tryz.f32.ntmps Tryz.func32 rfl ?_
 refine W_seq (W_region (Vl rfl (WL_nil (W_seq (W_region (Vl rfl (WL_nil (W_seq (W_region (Va rfl (WL_nil (W_seq (W_seq ?_)))))))))))))
 refine W_region (Va rfl (WL_nil (W_block ?_)))
 have hI0 := hI.fresh (Pure.refl w0) (Row.nil w0 0 138 2) (fun k hk => by simp [Row] at hk)
 refine W_loopN (fun mu ρ w => ∃ (i : Nat) (out : List Sg) (fr : Option Nat) (A : Option Addr) (c : Nat), mu = bs.length + 1 - i ∧ i ≤ bs.length + 1 ∧ SgOk bs i out fr ∧ Has ρ [(0, strV bs), (3, .slice A out.length c), (4, .int .i64 (frV fr)), (5, .int .i64 (i : Int))] ∧
   Inv (fun _ => False) w0 w [Row 0 138 2 A out.length c (out.flatMap sgL)]) (bs.length + 1)
  ⟨0, [], none, none, 0, rfl, Nat.zero_le _, .start, ⟨rfl, rfl, rfl, rfl, trivial⟩, hI0⟩ ?_
 clear hI0 hI
 rintro mu ρ w ⟨i, out, fr, A, c, rfl, hi, hS, hH, hI⟩
 obtain ⟨σ, rfl⟩ := hH.open
 have hol := hS.len
 by_cases hle : i ≤ bs.length
 rotate_left
 ·obtain rfl : i = bs.length + 1 := by omega
  refine W_seq (W_seq (W_region (V0 rfl (Vq rfl (Tp rfl Tryz.underlying9 rfl ?_)))))
  refine WL_val rfl rfl rfl (by exact rLeqF rfl rfl rfl (by omega)) ?_
  refine WL_nil (W_cond false rfl ?_)
  refine W_exit ?_
  refine W_seq (W_region (Ve rfl (Vq rfl (Tp rfl Tryz.underlying9 rfl (T6 [(0, .string ⟨#[]⟩), (1, .int .i64 _)] [.string ⟨#[]⟩, .int .i64 _] rfl [.string ⟨#[]⟩, .int .i64 0] [0, 1] rfl (fun _ => by kernel_rfl) (Vy [(0, .agg #[_, _])] [_, _] [.string ⟨#[]⟩, .int .i64 0] [0] hI rfl Tryz.underlying107 (fun _ => by kernel_rfl) ?_))))))
  clear hI; rintro b88 w - - hI
  refine Tq 24 (.agg #[.string ⟨#[]⟩, .int .i64 0]) hI rfl Tryz.underlying107 rfl (by rfl) hI.lit0 (by rfl) (Nat.zero_le _) ?_
  clear hI; rintro A89 c89 w hA89 hc89 hI
  replace hI := hI.d0
  refine Vl rfl (WL_nil ?_)
  refine W_ret ?_
  have e1 : (out ++ [(([] : Tok), bs.length)]).length = out.length + 1 := by simp
  refine ret1 2 (.inr rfl) rfl ⟨A89, c89, out ++ [([], bs.length)], by rw [e1]; rfl, by rw [List.map_append, hS.end_]; rfl, ?_⟩
  rw [sg_push, e1]
  exact hI
 refine W_seq (W_seq (W_region (V0 rfl (Vq rfl (Tp rfl Tryz.underlying9 rfl ?_)))))
 refine WL_val rfl rfl rfl (by exact rLeqT rfl rfl rfl (by omega)) ?_
 refine WL_nil (W_cond true rfl (W_skip (W_seq (W_block ?_))))
 rcases Nat.lt_or_ge i bs.length with hil | hge
 rotate_left
 ·obtain rfl : i = bs.length := by omega
  refine W_seq (W_region (V0 rfl (Vq rfl (Tp rfl Tryz.underlying9 rfl (Vn rfl (V2 rfl (V1 rfl (V1 rfl (V1 rfl (V1 rfl (V1 rfl (V1 rfl (V1 rfl ?_)))))))))))))
  refine V1 rfl (V1 rfl (V1 rfl (V1 rfl (V1 rfl (V1 rfl (V1 rfl (V1 rfl (V1 rfl (V8 rfl (V4 rfl (WL_nil (W_seq (W_region ?_)))))))))))))
  refine V0 rfl (Vq rfl (Tp rfl Tryz.underlying9 rfl (Vn rfl (V2 rfl (V1 rfl (V1 rfl (V8 rfl (V2 rfl (V1 rfl (V1 rfl (V1 rfl (V1 rfl (V8 rfl ?_)))))))))))))
  refine V4 rfl (WL_nil ?_)
  refine W_seq_cut (fun ρ w => ∃ A c, Has ρ [(0, strV bs), (3, .slice A (flushS bs out fr bs.length).length c), (4, .int .i64 (-1)), (5, .int .i64 (bs.length : Int)), (6, .bool false), (7, .bool false)] ∧ Inv (fun _ => False) w0 w [Row 0 138 2 A (flushS bs out fr bs.length).length c ((flushS bs out fr bs.length).flatMap sgL)]) ?_ ?_
  ·cases fr with
   | none =>
    refine W_seq (W_region (V0 rfl (Ub rfl (V2 rfl (V1 rfl (V1 rfl (V8 rfl (WL_nil (W_cond false rfl (W_skip ?_))))))))))
    exact ⟨A, c, ⟨rfl, rfl, rfl, rfl, rfl, rfl, trivial⟩, hI⟩
   | some f =>
    have hf := hS.lt f rfl
    refine W_seq (W_region (V0 rfl (Ub rfl (V2 rfl (V2 rfl (Ta rfl (Vd rfl (WL_nil (W_cond true rfl (W_seq (W_region (Ve rfl (Vq rfl ?_)))))))))))))
    refine V0 rfl (V0 rfl ?_)
    refine WL_val rfl rfl rfl (rStrSl rfl Tryz.underlying9 rfl rfl rfl (by omega) (by omega)) ?_
    refine V0 rfl (T6 [(0, .string _), (1, .int .i64 _)] [_, _] rfl [.string ⟨#[]⟩, .int .i64 0] [0, 1] rfl (fun _ => by kernel_rfl) (Vy [(0, .agg #[_, _])] [_, _] [.string ⟨#[]⟩, .int .i64 0] [0] hI rfl Tryz.underlying107 (fun _ => by kernel_rfl) ?_))
    clear hI; rintro b63 w - - hI
    refine Tq 24 (.agg #[.string ⟨#[]⟩, .int .i64 0]) hI rfl Tryz.underlying107 rfl (by rfl) hI.lit0 (by rfl) (Nat.zero_le _) ?_
    clear hI; rintro A64 c64 w hA64 hc64 hI
    replace hI := hI.d0
    refine Vl rfl (WL_nil (W_region (Va rfl (WL_nil ?_))))
    have e1 : (flushS bs out (some f) bs.length).length = out.length + 1 := by simp [flushS]
    refine ⟨A64, c64, ⟨rfl, by rw [e1]; rfl, rfl, rfl, rfl, rfl, trivial⟩, ?_⟩
    rw [e1]
    simp only [flushS, sg_push]
    exact hI
  have hfl := flush_len (bs := bs) (i := bs.length) (out := out) (fr := fr)
  clear hI
  rintro ρ w ⟨A, c, hH, hI⟩
  obtain ⟨σ, rfl⟩ := hH.open
  refine W_block (W_seq (W_region (V2 rfl (V4 rfl (WL_nil (W_cond false rfl (W_seq (W_region (V2 rfl (V2 rfl (V1 rfl (V1 rfl (V8 rfl ?_)))))))))))))
  refine V4 rfl (WL_nil (W_cond false rfl (W_skip (W_region (V0 rfl (Vu rfl (Va rfl (WL_nil ?_))))))))
  exact ⟨0, by omega, bs.length + 1, _, none, A, c, by omega, by omega, hS.last, ⟨rfl, rfl, rfl, rfl, trivial⟩, hI⟩
 obtain ⟨ch, hch⟩ : ∃ ch, bs[i]? = some ch := ⟨bs[i], List.getElem?_eq_getElem hil⟩
 cases hs : singleB ch with
 | true =>
  have hs' := (single_of ch).1 hs
  rcases hs' with h40 | h41 | h44
  ·refine W_seq (W_region (V0 rfl (Vq rfl (Tp rfl Tryz.underlying9 rfl (Vp rfl (V2 rfl (Vq rfl (V0 rfl (U9 rfl Tryz.underlying9 rfl ?_)))))))))
   refine Vz rfl (V2 rfl (V1 rfl (V1 rfl (V1 rfl (V1 rfl (Vd rfl (V2 rfl (V1 rfl (V1 rfl (V1 rfl (V1 rfl (Vd rfl (Vd rfl ?_)))))))))))))
   refine V4 rfl (WL_nil (W_seq (W_region (V0 rfl (Vq rfl (Tp rfl Tryz.underlying9 rfl (Vp rfl (V2 rfl (V2 rfl (T4 rfl (Vd rfl (V2 rfl (V1 rfl ?_)))))))))))))
   refine V1 rfl (V1 rfl (V1 rfl (V8 rfl (V4 rfl (WL_nil ?_)))))
   refine W_seq_cut (fun ρ w => ∃ A c, Has ρ [(0, strV bs), (3, .slice A (flushS bs out fr i).length c), (4, .int .i64 (-1)), (5, .int .i64 (i : Int)), (6, .bool true), (7, .bool false)] ∧ Inv (fun _ => False) w0 w [Row 0 138 2 A (flushS bs out fr i).length c ((flushS bs out fr i).flatMap sgL)]) ?_ ?_
   ·cases fr with
    | none =>
     refine W_seq (W_region (V0 rfl (Ub rfl (V2 rfl (V1 rfl (V1 rfl (V8 rfl (WL_nil (W_cond false rfl (W_skip ?_))))))))))
     exact ⟨A, c, ⟨rfl, rfl, rfl, rfl, rfl, rfl, trivial⟩, hI⟩
    | some f =>
     have hf := hS.lt f rfl
     refine W_seq (W_region (V0 rfl (Ub rfl (V2 rfl (V2 rfl (Ta rfl (Vd rfl (WL_nil (W_cond true rfl (W_seq (W_region (Ve rfl (Vq rfl ?_)))))))))))))
     refine V0 rfl (V0 rfl ?_)
     refine WL_val rfl rfl rfl (rStrSl rfl Tryz.underlying9 rfl rfl rfl (by omega) (by omega)) ?_
     refine V0 rfl (T6 [(0, .string _), (1, .int .i64 _)] [_, _] rfl [.string ⟨#[]⟩, .int .i64 0] [0, 1] rfl (fun _ => by kernel_rfl) (Vy [(0, .agg #[_, _])] [_, _] [.string ⟨#[]⟩, .int .i64 0] [0] hI rfl Tryz.underlying107 (fun _ => by kernel_rfl) ?_))
     clear hI; rintro b63 w - - hI
     refine Tq 24 (.agg #[.string ⟨#[]⟩, .int .i64 0]) hI rfl Tryz.underlying107 rfl (by rfl) hI.lit0 (by rfl) (Nat.zero_le _) ?_
     clear hI; rintro A64 c64 w hA64 hc64 hI
     replace hI := hI.d0
     refine Vl rfl (WL_nil (W_region (Va rfl (WL_nil ?_))))
     have e1 : (flushS bs out (some f) i).length = out.length + 1 := by simp [flushS]
     refine ⟨A64, c64, ⟨rfl, by rw [e1]; rfl, rfl, rfl, rfl, rfl, trivial⟩, ?_⟩
     rw [e1]
     simp only [flushS, sg_push]
     exact hI
   have hfl := flush_len (bs := bs) (i := i) (out := out) (fr := fr)
   clear hI
   rintro ρ w ⟨A, c, hH, hI⟩
   obtain ⟨σ, rfl⟩ := hH.open
   refine W_block (W_seq (W_region (V2 rfl (V4 rfl (WL_nil (W_cond true rfl (W_region (Ve rfl (Vq rfl (V0 rfl (V0 rfl (Vu rfl ?_))))))))))))
   refine WL_val rfl rfl rfl (rStrSl (a := i) (b := i + 1) rfl Tryz.underlying9 rfl rfl rfl (by omega) (by omega)) ?_
   refine V0 rfl (T6 [(0, .string _), (1, .int .i64 _)] [_, _] rfl [.string ⟨#[]⟩, .int .i64 0] [0, 1] rfl (fun _ => by kernel_rfl) (Vy [(0, .agg #[_, _])] [_, _] [.string ⟨#[]⟩, .int .i64 0] [0] hI rfl Tryz.underlying107 (fun _ => by kernel_rfl) ?_))
   clear hI; rintro b75 w - - hI
   refine Tq 24 (.agg #[.string ⟨#[]⟩, .int .i64 0]) hI rfl Tryz.underlying107 rfl (by rfl) hI.lit0 (by rfl) (Nat.zero_le _) ?_
   clear hI; rintro A76 c76 w hA76 hc76 hI
   replace hI := hI.d0
   refine Vl rfl (WL_nil (W_region (V0 rfl (Vu rfl (Va rfl (WL_nil ?_))))))
   have e1 : (flushS bs out fr i ++ [([ch], i)]).length = (flushS bs out fr i).length + 1 := by simp
   have e2 : (bs.drop i).take (i + 1 - i) = [ch] := by
    obtain ⟨h1, h2⟩ := List.getElem?_eq_some_iff.1 hch
    rw [List.drop_eq_getElem_cons h1, h2, show i + 1 - i = 1 by omega]; rfl
   rw [e2] at hI
   refine ⟨bs.length + 1 - (i + 1), by omega, i + 1, _, none, A76, c76, rfl, by omega, hS.single hch hs, ⟨rfl, by rw [e1]; rfl, rfl, rfl, trivial⟩, ?_⟩
   rw [e1, sg_push]
   exact hI
  ·refine W_seq (W_region (V0 rfl (Vq rfl (Tp rfl Tryz.underlying9 rfl (Vp rfl (V2 rfl (Vq rfl (V0 rfl (U9 rfl Tryz.underlying9 rfl ?_)))))))))
   refine Vr rfl (V2 rfl (Vq rfl (V0 rfl (U9 rfl Tryz.underlying9 rfl ?_))))
   refine Vz rfl (V8 rfl (V2 rfl (V1 rfl (V1 rfl (V1 rfl (V1 rfl (Vd rfl (Vd rfl (V4 rfl (WL_nil (W_seq (W_region (V0 rfl ?_)))))))))))))
   refine Vq rfl (Tp rfl Tryz.underlying9 rfl (Vp rfl (V2 rfl (V2 rfl (T4 rfl (Vd rfl (V2 rfl (V1 rfl (V1 rfl (V1 rfl (V1 rfl (V8 rfl (V4 rfl ?_)))))))))))))
   refine WL_nil ?_
   refine W_seq_cut (fun ρ w => ∃ A c, Has ρ [(0, strV bs), (3, .slice A (flushS bs out fr i).length c), (4, .int .i64 (-1)), (5, .int .i64 (i : Int)), (6, .bool true), (7, .bool false)] ∧ Inv (fun _ => False) w0 w [Row 0 138 2 A (flushS bs out fr i).length c ((flushS bs out fr i).flatMap sgL)]) ?_ ?_
   ·cases fr with
    | none =>
     refine W_seq (W_region (V0 rfl (Ub rfl (V2 rfl (V1 rfl (V1 rfl (V8 rfl (WL_nil (W_cond false rfl (W_skip ?_))))))))))
     exact ⟨A, c, ⟨rfl, rfl, rfl, rfl, rfl, rfl, trivial⟩, hI⟩
    | some f =>
     have hf := hS.lt f rfl
     refine W_seq (W_region (V0 rfl (Ub rfl (V2 rfl (V2 rfl (Ta rfl (Vd rfl (WL_nil (W_cond true rfl (W_seq (W_region (Ve rfl (Vq rfl ?_)))))))))))))
     refine V0 rfl (V0 rfl ?_)
     refine WL_val rfl rfl rfl (rStrSl rfl Tryz.underlying9 rfl rfl rfl (by omega) (by omega)) ?_
     refine V0 rfl (T6 [(0, .string _), (1, .int .i64 _)] [_, _] rfl [.string ⟨#[]⟩, .int .i64 0] [0, 1] rfl (fun _ => by kernel_rfl) (Vy [(0, .agg #[_, _])] [_, _] [.string ⟨#[]⟩, .int .i64 0] [0] hI rfl Tryz.underlying107 (fun _ => by kernel_rfl) ?_))
     clear hI; rintro b63 w - - hI
     refine Tq 24 (.agg #[.string ⟨#[]⟩, .int .i64 0]) hI rfl Tryz.underlying107 rfl (by rfl) hI.lit0 (by rfl) (Nat.zero_le _) ?_
     clear hI; rintro A64 c64 w hA64 hc64 hI
     replace hI := hI.d0
     refine Vl rfl (WL_nil (W_region (Va rfl (WL_nil ?_))))
     have e1 : (flushS bs out (some f) i).length = out.length + 1 := by simp [flushS]
     refine ⟨A64, c64, ⟨rfl, by rw [e1]; rfl, rfl, rfl, rfl, rfl, trivial⟩, ?_⟩
     rw [e1]
     simp only [flushS, sg_push]
     exact hI
   have hfl := flush_len (bs := bs) (i := i) (out := out) (fr := fr)
   clear hI
   rintro ρ w ⟨A, c, hH, hI⟩
   obtain ⟨σ, rfl⟩ := hH.open
   refine W_block (W_seq (W_region (V2 rfl (V4 rfl (WL_nil (W_cond true rfl (W_region (Ve rfl (Vq rfl (V0 rfl (V0 rfl (Vu rfl ?_))))))))))))
   refine WL_val rfl rfl rfl (rStrSl (a := i) (b := i + 1) rfl Tryz.underlying9 rfl rfl rfl (by omega) (by omega)) ?_
   refine V0 rfl (T6 [(0, .string _), (1, .int .i64 _)] [_, _] rfl [.string ⟨#[]⟩, .int .i64 0] [0, 1] rfl (fun _ => by kernel_rfl) (Vy [(0, .agg #[_, _])] [_, _] [.string ⟨#[]⟩, .int .i64 0] [0] hI rfl Tryz.underlying107 (fun _ => by kernel_rfl) ?_))
   clear hI; rintro b75 w - - hI
   refine Tq 24 (.agg #[.string ⟨#[]⟩, .int .i64 0]) hI rfl Tryz.underlying107 rfl (by rfl) hI.lit0 (by rfl) (Nat.zero_le _) ?_
   clear hI; rintro A76 c76 w hA76 hc76 hI
   replace hI := hI.d0
   refine Vl rfl (WL_nil (W_region (V0 rfl (Vu rfl (Va rfl (WL_nil ?_))))))
   have e1 : (flushS bs out fr i ++ [([ch], i)]).length = (flushS bs out fr i).length + 1 := by simp
   have e2 : (bs.drop i).take (i + 1 - i) = [ch] := by
    obtain ⟨h1, h2⟩ := List.getElem?_eq_some_iff.1 hch
    rw [List.drop_eq_getElem_cons h1, h2, show i + 1 - i = 1 by omega]; rfl
   rw [e2] at hI
   refine ⟨bs.length + 1 - (i + 1), by omega, i + 1, _, none, A76, c76, rfl, by omega, hS.single hch hs, ⟨rfl, by rw [e1]; rfl, rfl, rfl, trivial⟩, ?_⟩
   rw [e1, sg_push]
   exact hI
  ·refine W_seq (W_region (V0 rfl (Vq rfl (Tp rfl Tryz.underlying9 rfl (Vp rfl (V2 rfl (Vq rfl (V0 rfl (U9 rfl Tryz.underlying9 rfl ?_)))))))))
   refine Vr rfl (V2 rfl (Vq rfl (V0 rfl (U9 rfl Tryz.underlying9 rfl ?_))))
   refine Vr rfl (V8 rfl (V2 rfl (Vq rfl (V0 rfl (U9 rfl Tryz.underlying9 rfl ?_)))))
   refine Vz rfl (V8 rfl (Vd rfl (V4 rfl (WL_nil (W_seq (W_region (V0 rfl (Vq rfl (Tp rfl Tryz.underlying9 rfl (Vp rfl (V2 rfl (V2 rfl (T4 rfl ?_)))))))))))))
   refine Vd rfl (V2 rfl (V1 rfl (V1 rfl (V1 rfl (V1 rfl (V8 rfl (V4 rfl (WL_nil ?_))))))))
   refine W_seq_cut (fun ρ w => ∃ A c, Has ρ [(0, strV bs), (3, .slice A (flushS bs out fr i).length c), (4, .int .i64 (-1)), (5, .int .i64 (i : Int)), (6, .bool true), (7, .bool false)] ∧ Inv (fun _ => False) w0 w [Row 0 138 2 A (flushS bs out fr i).length c ((flushS bs out fr i).flatMap sgL)]) ?_ ?_
   ·cases fr with
    | none =>
     refine W_seq (W_region (V0 rfl (Ub rfl (V2 rfl (V1 rfl (V1 rfl (V8 rfl (WL_nil (W_cond false rfl (W_skip ?_))))))))))
     exact ⟨A, c, ⟨rfl, rfl, rfl, rfl, rfl, rfl, trivial⟩, hI⟩
    | some f =>
     have hf := hS.lt f rfl
     refine W_seq (W_region (V0 rfl (Ub rfl (V2 rfl (V2 rfl (Ta rfl (Vd rfl (WL_nil (W_cond true rfl (W_seq (W_region (Ve rfl (Vq rfl ?_)))))))))))))
     refine V0 rfl (V0 rfl ?_)
     refine WL_val rfl rfl rfl (rStrSl rfl Tryz.underlying9 rfl rfl rfl (by omega) (by omega)) ?_
     refine V0 rfl (T6 [(0, .string _), (1, .int .i64 _)] [_, _] rfl [.string ⟨#[]⟩, .int .i64 0] [0, 1] rfl (fun _ => by kernel_rfl) (Vy [(0, .agg #[_, _])] [_, _] [.string ⟨#[]⟩, .int .i64 0] [0] hI rfl Tryz.underlying107 (fun _ => by kernel_rfl) ?_))
     clear hI; rintro b63 w - - hI
     refine Tq 24 (.agg #[.string ⟨#[]⟩, .int .i64 0]) hI rfl Tryz.underlying107 rfl (by rfl) hI.lit0 (by rfl) (Nat.zero_le _) ?_
     clear hI; rintro A64 c64 w hA64 hc64 hI
     replace hI := hI.d0
     refine Vl rfl (WL_nil (W_region (Va rfl (WL_nil ?_))))
     have e1 : (flushS bs out (some f) i).length = out.length + 1 := by simp [flushS]
     refine ⟨A64, c64, ⟨rfl, by rw [e1]; rfl, rfl, rfl, rfl, rfl, trivial⟩, ?_⟩
     rw [e1]
     simp only [flushS, sg_push]
     exact hI
   have hfl := flush_len (bs := bs) (i := i) (out := out) (fr := fr)
   clear hI
   rintro ρ w ⟨A, c, hH, hI⟩
   obtain ⟨σ, rfl⟩ := hH.open
   refine W_block (W_seq (W_region (V2 rfl (V4 rfl (WL_nil (W_cond true rfl (W_region (Ve rfl (Vq rfl (V0 rfl (V0 rfl (Vu rfl ?_))))))))))))
   refine WL_val rfl rfl rfl (rStrSl (a := i) (b := i + 1) rfl Tryz.underlying9 rfl rfl rfl (by omega) (by omega)) ?_
   refine V0 rfl (T6 [(0, .string _), (1, .int .i64 _)] [_, _] rfl [.string ⟨#[]⟩, .int .i64 0] [0, 1] rfl (fun _ => by kernel_rfl) (Vy [(0, .agg #[_, _])] [_, _] [.string ⟨#[]⟩, .int .i64 0] [0] hI rfl Tryz.underlying107 (fun _ => by kernel_rfl) ?_))
   clear hI; rintro b75 w - - hI
   refine Tq 24 (.agg #[.string ⟨#[]⟩, .int .i64 0]) hI rfl Tryz.underlying107 rfl (by rfl) hI.lit0 (by rfl) (Nat.zero_le _) ?_
   clear hI; rintro A76 c76 w hA76 hc76 hI
   replace hI := hI.d0
   refine Vl rfl (WL_nil (W_region (V0 rfl (Vu rfl (Va rfl (WL_nil ?_))))))
   have e1 : (flushS bs out fr i ++ [([ch], i)]).length = (flushS bs out fr i).length + 1 := by simp
   have e2 : (bs.drop i).take (i + 1 - i) = [ch] := by
    obtain ⟨h1, h2⟩ := List.getElem?_eq_some_iff.1 hch
    rw [List.drop_eq_getElem_cons h1, h2, show i + 1 - i = 1 by omega]; rfl
   rw [e2] at hI
   refine ⟨bs.length + 1 - (i + 1), by omega, i + 1, _, none, A76, c76, rfl, by omega, hS.single hch hs, ⟨rfl, by rw [e1]; rfl, rfl, rfl, trivial⟩, ?_⟩
   rw [e1, sg_push]
   exact hI
 | false =>
  have hs' : ¬ (ch.toNat = 40 ∨ ch.toNat = 41 ∨ ch.toNat = 44) := fun h => by
   rw [← single_of, hs] at h
   cases h
  by_cases h32 : ch = 32
  ·have h32' : ch.toNat = 32 := by rw [h32]; rfl
   refine W_seq (W_region (V0 rfl (Vq rfl (Tp rfl Tryz.underlying9 rfl (Vp rfl (V2 rfl (Vq rfl (V0 rfl (U9 rfl Tryz.underlying9 rfl ?_)))))))))
   refine Vr rfl (V2 rfl (Vq rfl (V0 rfl (U9 rfl Tryz.underlying9 rfl ?_))))
   refine Vr rfl (V8 rfl (V2 rfl (Vq rfl (V0 rfl (U9 rfl Tryz.underlying9 rfl ?_)))))
   refine Vr rfl (V8 rfl (Vd rfl (V4 rfl (WL_nil (W_seq (W_region (V0 rfl (Vq rfl (Tp rfl Tryz.underlying9 rfl (Vp rfl (V2 rfl (V2 rfl (Ta rfl ?_)))))))))))))
   refine Vd rfl (V2 rfl (Vq rfl (V0 rfl (U9 rfl Tryz.underlying9 rfl ?_))))
   refine U5 rfl (Vd rfl (V4 rfl (WL_nil ?_)))
   refine W_seq_cut (fun ρ w => ∃ A c, Has ρ [(0, strV bs), (3, .slice A (flushS bs out fr i).length c), (4, .int .i64 (-1)), (5, .int .i64 (i : Int)), (6, .bool false), (7, .bool false)] ∧ Inv (fun _ => False) w0 w [Row 0 138 2 A (flushS bs out fr i).length c ((flushS bs out fr i).flatMap sgL)]) ?_ ?_
   ·cases fr with
    | none =>
     refine W_seq (W_region (V0 rfl (Ub rfl (V2 rfl (V1 rfl (V1 rfl (V8 rfl (WL_nil (W_cond false rfl (W_skip ?_))))))))))
     exact ⟨A, c, ⟨rfl, rfl, rfl, rfl, rfl, rfl, trivial⟩, hI⟩
    | some f =>
     have hf := hS.lt f rfl
     refine W_seq (W_region (V0 rfl (Ub rfl (V2 rfl (V2 rfl (Ta rfl (Vd rfl (WL_nil (W_cond true rfl (W_seq (W_region (Ve rfl (Vq rfl ?_)))))))))))))
     refine V0 rfl (V0 rfl ?_)
     refine WL_val rfl rfl rfl (rStrSl rfl Tryz.underlying9 rfl rfl rfl (by omega) (by omega)) ?_
     refine V0 rfl (T6 [(0, .string _), (1, .int .i64 _)] [_, _] rfl [.string ⟨#[]⟩, .int .i64 0] [0, 1] rfl (fun _ => by kernel_rfl) (Vy [(0, .agg #[_, _])] [_, _] [.string ⟨#[]⟩, .int .i64 0] [0] hI rfl Tryz.underlying107 (fun _ => by kernel_rfl) ?_))
     clear hI; rintro b63 w - - hI
     refine Tq 24 (.agg #[.string ⟨#[]⟩, .int .i64 0]) hI rfl Tryz.underlying107 rfl (by rfl) hI.lit0 (by rfl) (Nat.zero_le _) ?_
     clear hI; rintro A64 c64 w hA64 hc64 hI
     replace hI := hI.d0
     refine Vl rfl (WL_nil (W_region (Va rfl (WL_nil ?_))))
     have e1 : (flushS bs out (some f) i).length = out.length + 1 := by simp [flushS]
     refine ⟨A64, c64, ⟨rfl, by rw [e1]; rfl, rfl, rfl, rfl, rfl, trivial⟩, ?_⟩
     rw [e1]
     simp only [flushS, sg_push]
     exact hI
   have hfl := flush_len (bs := bs) (i := i) (out := out) (fr := fr)
   clear hI
   rintro ρ w ⟨A, c, hH, hI⟩
   obtain ⟨σ, rfl⟩ := hH.open
   refine W_block (W_seq (W_region (V2 rfl (V4 rfl (WL_nil (W_cond false rfl (W_seq (W_region (V2 rfl (V2 rfl (V1 rfl (V1 rfl (V8 rfl ?_)))))))))))))
   refine V4 rfl (WL_nil (W_cond false rfl (W_skip (W_region (V0 rfl (Vu rfl (Va rfl (WL_nil ?_))))))))
   exact ⟨bs.length + 1 - (i + 1), by omega, i + 1, _, none, A, c, rfl, by omega, hS.space hch hs h32, ⟨rfl, rfl, rfl, rfl, trivial⟩, hI⟩
  ·have h32' : ch.toNat ≠ 32 := fun h => h32 (UInt8.toNat_inj.1 (by rw [h]; rfl))
   refine W_seq (W_region (V0 rfl (Vq rfl (Tp rfl Tryz.underlying9 rfl (Vp rfl (V2 rfl (Vq rfl (V0 rfl (U9 rfl Tryz.underlying9 rfl ?_)))))))))
   refine Vr rfl (V2 rfl (Vq rfl (V0 rfl (U9 rfl Tryz.underlying9 rfl ?_))))
   refine Vr rfl (V8 rfl (V2 rfl (Vq rfl (V0 rfl (U9 rfl Tryz.underlying9 rfl ?_)))))
   refine Vr rfl (V8 rfl (Vd rfl (V4 rfl (WL_nil (W_seq (W_region (V0 rfl (Vq rfl (Tp rfl Tryz.underlying9 rfl (Vp rfl (V2 rfl (V2 rfl (Ta rfl ?_)))))))))))))
   refine Vd rfl (V2 rfl (Vq rfl (V0 rfl (U9 rfl Tryz.underlying9 rfl ?_))))
   refine Tx rfl (Vd rfl (V4 rfl (WL_nil ?_)))
   cases fr with
   | none =>
    refine W_seq (W_seq (W_region (V0 rfl (Ub rfl (V2 rfl (V1 rfl (V1 rfl (V8 rfl (WL_nil (W_cond false rfl (W_skip (W_block (W_seq ?_)))))))))))))
    refine W_region (V2 rfl (V4 rfl (WL_nil (W_cond false rfl (W_seq (W_region (V2 rfl (V2 rfl (V0 rfl ?_)))))))))
    refine WL_val rfl rfl rfl (by exact rLss rfl rfl rfl) ?_
    refine Vd rfl (V4 rfl (WL_nil (W_cond true rfl (W_region (V0 rfl (Va rfl (WL_nil (W_region (V0 rfl (Vu rfl (Va rfl (WL_nil ?_))))))))))))
    exact ⟨bs.length + 1 - (i + 1), by omega, i + 1, _, some i, A, c, rfl, by omega, hS.word hch hs h32, ⟨rfl, rfl, rfl, rfl, trivial⟩, hI⟩
   | some f =>
    refine W_seq (W_seq (W_region (V0 rfl (Ub rfl (V2 rfl (V2 rfl (T4 rfl (Vd rfl (WL_nil (W_cond false rfl (W_skip (W_block (W_seq ?_)))))))))))))
    refine W_region (V2 rfl (V4 rfl (WL_nil (W_cond false rfl (W_seq (W_region (V2 rfl (V2 rfl (V0 rfl ?_)))))))))
    refine WL_val rfl rfl rfl (by exact rLss rfl rfl rfl) ?_
    refine Vd rfl (V4 rfl (WL_nil (W_cond false rfl (W_skip (W_region (V0 rfl (Vu rfl (Va rfl (WL_nil ?_)))))))))
    exact ⟨bs.length + 1 - (i + 1), by omega, i + 1, _, some f, A, c, rfl, by omega, hS.word hch hs h32, ⟨rfl, rfl, rfl, rfl, trivial⟩, hI⟩
def sgE (g : Nat) (sgs : List Sg) : Ent := ⟨fun k => k = g, fun w => ∃ (T : TypeId) (cur : Array Value), Blk w g T cur ∧ ∀ (j : Nat) (u : Value), (sgs.flatMap sgL)[j]? = some u → cur[j]? = some u⟩
def parE (p g : Nat) (sgs : List Sg) (c i : Nat) : Ent := B p 110 #[.slice (some ⟨g, i * 2, none⟩) (sgs.length - i) (c - i)]
/-- What is read: the words of a text, an empty one behind them. -/
structure Ptx (T : List Tok) (sgs : List Sg) (c : Nat) : Prop where
 hs : sgs.map (·.1) = T ++ [[]]
 ne : ∀ t ∈ T, t ≠ []
 nc : sgs.length ≤ c
 c63 : c ≤ 9223372036854775807
 tl : T.length ≤ 100000
 tk : ∀ t ∈ T, t.length ≤ 1000000
section
variable {T : List Tok} {sgs : List Sg} {c i p g : Nat} {S : Nat → Prop} {w0 w : World} {H : List Ent}
theorem Ptx.len (h : Ptx T sgs c) : sgs.length = T.length + 1 := by
 have := congrArg List.length h.hs
 simpa using this
theorem Ptx.at_ (h : Ptx T sgs c) (hi : i ≤ T.length) : ∃ n, sgs[i]? = some (headT (T.drop i), n) := by
 have hl : i < sgs.length := by rw [h.len]; omega
 refine ⟨sgs[i].2, ?_⟩
 rw [List.getElem?_eq_getElem hl]
 congr 1
 have h1 : (sgs.map (·.1))[i]? = some sgs[i].1 := by rw [List.getElem?_map, List.getElem?_eq_getElem hl]; rfl
 rw [h.hs] at h1
 refine Prod.ext ?_ rfl
 show sgs[i].1 = headT (T.drop i)
 rcases Nat.lt_or_ge i T.length with h2 | h2
 ·rw [List.getElem?_append_left h2, List.getElem?_eq_getElem h2] at h1
  rw [List.drop_eq_getElem_cons h2]
  exact (Option.some.inj h1).symm
 ·obtain rfl : i = T.length := by omega
  rw [List.getElem?_append_right (Nat.le_refl _), Nat.sub_self] at h1
  rw [List.drop_of_length_le (Nat.le_refl _)]
  exact (Option.some.inj h1).symm
theorem Ptx.tok (h : Ptx T sgs c) (i : Nat) : (headT (T.drop i)).length ≤ 1000000 := by
 rcases Nat.lt_or_ge i T.length with h2 | h2
 ·rw [List.drop_eq_getElem_cons h2]
  exact h.tk _ (List.getElem_mem h2)
 ·rw [List.drop_of_length_le h2]; simp [headT]
theorem sgE.cells (hI : Inv S w0 w (sgE g sgs :: H)) {s : Sg} (hi : sgs[i]? = some s) : w.cell? ⟨g, i * 2, none⟩ = some (strV s.1) ∧ w.cell? ⟨g, i * 2 + 1, none⟩ = some (.int .i64 (s.2 : Int)) := by
 obtain ⟨T, cur, hb, hc⟩ := (hI.ok _ (List.mem_cons_self ..)).1
 have h0 := flat_get sgL_len sgs i 0 s hi (by omega)
 have h1 := flat_get sgL_len sgs i 1 s hi (by omega)
 rw [hb.cell, hb.cell]
 exact ⟨hc _ _ h0, hc _ _ h1⟩
/-- The next word. -/
theorem Ptx.cells (h : Ptx T sgs c) (hi : i ≤ T.length) (hI : Inv S w0 w (parE p g sgs c i :: sgE g sgs :: H)) : w.cell? ⟨g, i * 2, none⟩ = some (strV (headT (T.drop i))) ∧ ∃ n : Nat, w.cell? ⟨g, i * 2 + 1, none⟩ = some (.int .i64 (n : Int)) := by
 obtain ⟨n, hn⟩ := h.at_ hi
 have := sgE.cells hI.d0 hn
 exact ⟨this.1, n, this.2⟩
end
set_option maxHeartbeats 1000000 in
theorem wrong_any (T : List Tok) (sgs : List Sg) (c i p g : Nat) (S : Nat → Prop) (w0 w : World) (H : List Ent) (ec : Int) (hP : Ptx T sgs c) (hi : i ≤ T.length) (hI : Inv S w0 w (parE p g sgs c i :: sgE g sgs :: H)) :
  Calls Tryz.prog 56 #[at0 p, .int .i64 ec] w fun e w' => (∃ U u, e = .returned (.iface U u)) ∧ Inv S w0 w' (parE p g sgs c i :: sgE g sgs :: H) := by
 obtain ⟨hc, n, hn⟩ := hP.cells hi hI
 have hl := hP.len
 have hnc := hP.nc
 unfold parE at hI
 refine Vm Tryz.f56.ntmps Tryz.func56 rfl ?_
 refine W_seq (W_region (Vf rfl (WL_nil (W_seq (W_region (V0 rfl (V7 rfl (Vb rfl (V5 0 rfl (V3 (.slice _ _ _) rfl (hI.c0 rfl) ?_))))))))))
 refine WL_val rfl rfl rfl (rIdx (sz := 2) (i := 0) rfl Tryz.underlying107 (by kernel_rfl) rfl rfl (by omega)) ?_
 refine Tb 1 rfl (V3 (.int .i64 _) rfl hn (T6 [(0, .int .i64 _), (1, .int .i64 _)] [_, _] rfl [.int .i64 0, .int .i64 0] [0, 1] rfl (fun _ => by kernel_rfl) (T7 (.agg _) (#[_, _]) hI rfl ?_)))
 clear hI; rintro b14 w - - hI
 refine Vx rfl Tryz.underlying87 rfl (Vk rfl (WL_nil ?_))
 refine W_ret ?_
 exact ret1 4 (.inr rfl) rfl ⟨⟨_, _, rfl⟩, hI.d0⟩
set_option maxHeartbeats 1000000 in
theorem ptake_any (T : List Tok) (sgs : List Sg) (c i p g : Nat) (S : Nat → Prop) (w0 w : World) (H : List Ent) (hP : Ptx T sgs c) (hi : i ≤ T.length) (hI : Inv S w0 w (parE p g sgs c i :: sgE g sgs :: H)) :
  Calls Tryz.prog 57 #[at0 p] w fun e w' => e = .returned (strV (headT (T.drop i))) ∧ ∃ i', i' ≤ T.length ∧ T.drop i' = (T.drop i).tail ∧ Inv S w0 w' (parE p g sgs c i' :: sgE g sgs :: H) := by
 obtain ⟨hc, n, hn⟩ := hP.cells hi hI
 have hl := hP.len
 have hnc := hP.nc
 unfold parE at hI
 refine Vm Tryz.f57.ntmps Tryz.func57 rfl ?_
 refine W_seq (W_region (U2 rfl (WL_nil (W_seq (W_region (V7 rfl (Vb rfl (V5 0 rfl (V3 (.slice _ _ _) rfl (hI.c0 rfl) ?_)))))))))
 refine WL_val rfl rfl rfl (rIdx (sz := 2) (i := 0) rfl Tryz.underlying107 (by kernel_rfl) rfl rfl (by omega)) ?_
 refine Te rfl (V3 (.string _) rfl hc (U2 rfl (WL_nil ?_)))
 rcases Nat.lt_or_ge i T.length with hlt | hge
 ·have hne : headT (T.drop i) ≠ [] := by
   rw [List.drop_eq_getElem_cons hlt]
   exact hP.ne _ (List.getElem_mem hlt)
  refine W_seq (W_seq (W_region (Vq rfl ?_)))
  refine WL_val rfl rfl rfl (by exact rStrNeT rfl rfl rfl (by assumption)) ?_
  refine WL_nil (W_cond true rfl (W_region (V7 rfl (V7 rfl (Vb rfl (V5 0 rfl (V3 (.slice _ _ _) rfl (hI.c0 rfl) ?_)))))))
  refine WL_val rfl rfl rfl (by exact rSliceFrom (sz := 2) (i := 1) rfl Tryz.underlying107 (by kernel_rfl) rfl rfl (by omega) (by omega)) ?_
  refine Vb rfl (V5 0 rfl (T1 1 #[_] (.slice _ _ _) hI rfl ?_))
  clear hI; intro w hI
  refine WL_nil (W_seq (W_region (Vq rfl (U2 rfl (WL_nil ?_)))))
  refine W_ret ?_
  refine ret1 2 (.inr rfl) rfl ⟨rfl, i + 1, by omega, ?_, ?_⟩
  ·rw [List.drop_eq_getElem_cons hlt]; rfl
  ·unfold parE
   rw [show (i + 1) * 2 = i * 2 + 1 * 2 by omega, Nat.sub_add_eq sgs.length, Nat.sub_add_eq c]
   exact hI
 ·have he : headT (T.drop i) = [] := by rw [List.drop_of_length_le hge]; rfl
  refine W_seq (W_seq (W_region (Vq rfl ?_)))
  refine WL_val rfl rfl rfl (by exact rStrNeF rfl rfl rfl (by assumption)) ?_
  refine WL_nil (W_cond false rfl (W_skip (W_seq (W_region (Vq rfl (U2 rfl (WL_nil ?_)))))))
  refine W_ret ?_
  refine ret1 2 (.inr rfl) rfl ⟨rfl, i, hi, ?_, hI⟩
  rw [List.drop_of_length_le hge]; rfl
set_option maxHeartbeats 1000000 in
theorem expect_any (T : List Tok) (sgs : List Sg) (c i p g : Nat) (S : Nat → Prop) (w0 w : World) (H : List Ent) (t : Tok) (hP : Ptx T sgs c) (hi : i ≤ T.length) (hI : Inv S w0 w (parE p g sgs c i :: sgE g sgs :: H)) :
  Calls Tryz.prog 34 #[at0 p, strV t] w fun e w' => (headT (T.drop i) = t ∧ e = .returned .nilIface ∧ ∃ i', i' ≤ T.length ∧ T.drop i' = (T.drop i).tail ∧ Inv S w0 w' (parE p g sgs c i' :: sgE g sgs :: H)) ∨
   (headT (T.drop i) ≠ t ∧ (∃ U u, e = .returned (.iface U u)) ∧ Inv S w0 w' (parE p g sgs c i :: sgE g sgs :: H)) := by
 obtain ⟨hc, n, hn⟩ := hP.cells hi hI
 have hl := hP.len
 have hnc := hP.nc
 have hI' := hI
 unfold parE at hI
 refine Vm Tryz.f34.ntmps Tryz.func34 rfl ?_
 refine W_seq (W_region (Vf rfl (WL_nil ?_)))
 by_cases ht : headT (T.drop i) = t
 ·refine W_seq (W_seq (W_region (V7 rfl (Vb rfl (V5 0 rfl (V3 (.slice _ _ _) rfl (hI.c0 rfl) ?_))))))
  refine WL_val rfl rfl rfl (rIdx (sz := 2) (i := 0) rfl Tryz.underlying107 (by kernel_rfl) rfl rfl (by omega)) ?_
  refine Te rfl (V3 (.string _) rfl hc (Vq rfl ?_))
  refine WL_val rfl rfl rfl (by exact rStrNeF rfl rfl rfl (by assumption)) ?_
  refine WL_nil (W_cond false rfl (W_skip (W_seq (W_region (V7 rfl (V6 [.pointer _] rfl Tryz.func57 rfl ?_))))))
  refine (ptake_any T sgs c i p g S w0 _ H hP hi hI).mono ?_
  rintro e w1 ⟨rfl, i', hi', hd, hI1⟩
  refine ⟨_, rfl, ?_⟩
  refine WL_nil (W_seq (W_region (Vf rfl (WL_nil ?_))))
  refine W_ret ?_
  exact ret1 4 (.inr rfl) rfl (.inl ⟨ht, rfl, i', hi', hd, hI1⟩)
 ·refine W_seq (W_seq (W_region (V7 rfl (Vb rfl (V5 0 rfl (V3 (.slice _ _ _) rfl (hI.c0 rfl) ?_))))))
  refine WL_val rfl rfl rfl (rIdx (sz := 2) (i := 0) rfl Tryz.underlying107 (by kernel_rfl) rfl rfl (by omega)) ?_
  refine Te rfl (V3 (.string _) rfl hc (Vq rfl ?_))
  refine WL_val rfl rfl rfl (by exact rStrNeT rfl rfl rfl (by assumption)) ?_
  refine WL_nil (W_cond true rfl (W_seq (W_region (V7 rfl (V6 [.pointer _, .int .i64 _] rfl Tryz.func56 rfl ?_)))))
  refine (wrong_any T sgs c i p g S w0 _ H 3 hP hi hI).mono ?_
  rintro e w1 ⟨⟨U, u, rfl⟩, hI1⟩
  refine ⟨_, rfl, ?_⟩
  refine Vk rfl (WL_nil ?_)
  refine W_ret ?_
  exact ret1 4 (.inr rfl) rfl (.inr ⟨ht, ⟨U, u, rfl⟩, hI1⟩)
set_option maxHeartbeats 2000000 in
theorem number_any (T : List Tok) (sgs : List Sg) (c i p g : Nat) (S : Nat → Prop) (w0 w : World) (H : List Ent) (a b : Int) (hP : Ptx T sgs c) (hi : i ≤ T.length) (hI : Inv S w0 w (parE p g sgs c i :: sgE g sgs :: H)) (hG : NumG w0) (hS : NoG S) :
  Calls Tryz.prog 58 #[at0 p, .int .i64 a, .int .i64 b] w fun e w' => (∃ n i', numT a b (T.drop i) = some (n, T.drop i') ∧ e = .returned (.tuple #[.int .i64 n, .nilIface]) ∧ i' ≤ T.length ∧ Inv S w0 w' (parE p g sgs c i' :: sgE g sgs :: H)) ∨
   (numT a b (T.drop i) = none ∧ (∃ U u, e = .returned (.tuple #[.int .i64 0, .iface U u])) ∧ Inv S w0 w' (parE p g sgs c i :: sgE g sgs :: H)) := by
 obtain ⟨hc, n, hn⟩ := hP.cells hi hI
 have hl := hP.len
 have hnc := hP.nc
 have hG1 : NumG w := hG.chg hI.chg hS
 have htok := hP.tok i
 rw [numT_head]
 obtain ⟨t, ht⟩ : ∃ t, headT (T.drop i) = t := ⟨_, rfl⟩
 rw [ht] at hc htok ⊢
 unfold parE at hI
 refine Vm Tryz.f58.ntmps Tryz.func58 rfl ?_
 refine W_seq (W_region (Va rfl (Vf rfl (WL_nil (W_seq (W_region (V7 rfl (Vb rfl (V5 0 rfl (V3 (.slice _ _ _) rfl (hI.c0 rfl) ?_))))))))))
 refine WL_val rfl rfl rfl (rIdx (sz := 2) (i := 0) rfl Tryz.underlying107 (by kernel_rfl) rfl rfl (by omega)) ?_
 refine Te rfl (V3 (.string _) rfl hc (U2 rfl (WL_nil ?_)))
 have hat := atoi_any t htok w hG1
 unfold atoiPost at hat
 cases hx : Lib.atoiAll t with
 | ok m =>
  rw [hx] at hat
  refine W_seq (W_region (Vq rfl (V6 [.string _] rfl Tryz.func87 rfl ?_)))
  refine hat.mono ?_
  rintro e w1 ⟨⟨rfl, hm1, hm2⟩, hp⟩
  refine ⟨_, rfl, ?_⟩
  replace hI := hI.pure hp
  refine Vv rfl (Vg rfl (Vg rfl (Va rfl (Vf rfl (WL_nil (W_seq (W_block ?_)))))))
  by_cases hit : Lib.itoa m = t
  ·refine W_seq (W_region (T3 rfl (Tc rfl Tryz.underlying29 rfl (V2 rfl (V0 rfl (V6 [.int .i64 _] rfl Tryz.func88 rfl ?_))))))
   refine (itoa_any m hm1 hm2 _ (hG.chg hI.chg hS)).mono ?_
   rintro e w1 ⟨rfl, hp1⟩
   refine ⟨_, rfl, ?_⟩
   replace hI := hI.pure hp1
   refine Vq rfl ?_
   refine WL_val rfl rfl rfl (by exact rStrNeF rfl rfl rfl (by assumption)) ?_
   refine V8 rfl (V4 rfl (WL_nil (W_cond false rfl ?_)))
   by_cases ha : m < a
   ·refine W_seq (W_region (V0 rfl (V0 rfl (Vp rfl (V2 rfl (V1 rfl (V1 rfl (V1 rfl (Vd rfl (V4 rfl (WL_nil (W_cond true rfl (W_seq ?_)))))))))))))
    refine W_region (V7 rfl (V6 [.pointer _, .int .i64 _] rfl Tryz.func56 rfl ?_))
    refine (wrong_any T sgs c i p g S w0 _ H 2 hP hi hI).mono ?_
    rintro e w2 ⟨⟨U, u, rfl⟩, hI2⟩
    refine ⟨_, rfl, ?_⟩
    refine Va rfl (Vk rfl (WL_nil ?_))
    refine W_ret ?_
    exact ret2 6 7 (.inr rfl) rfl (.inr ⟨(by rw [Option.map_eq_none_iff]; exact Option.eq_none_iff_forall_ne_some.2 fun v hv => by obtain ⟨q1, q2, q3, q4⟩ := numF_ok.1 hv; rw [hx] at q1; cases q1; omega), ⟨U, u, rfl⟩, hI2⟩)
   ·by_cases hb : b < m
    ·refine W_seq (W_region (V0 rfl (V0 rfl (Vn rfl (V2 rfl (V0 rfl (V0 rfl (Ts rfl (V8 rfl (V4 rfl (WL_nil (W_cond true rfl (W_seq ?_)))))))))))))
     refine W_region (V7 rfl (V6 [.pointer _, .int .i64 _] rfl Tryz.func56 rfl ?_))
     refine (wrong_any T sgs c i p g S w0 _ H 2 hP hi hI).mono ?_
     rintro e w2 ⟨⟨U, u, rfl⟩, hI2⟩
     refine ⟨_, rfl, ?_⟩
     refine Va rfl (Vk rfl (WL_nil ?_))
     refine W_ret ?_
     exact ret2 6 7 (.inr rfl) rfl (.inr ⟨(by rw [Option.map_eq_none_iff]; exact Option.eq_none_iff_forall_ne_some.2 fun v hv => by obtain ⟨q1, q2, q3, q4⟩ := numF_ok.1 hv; rw [hx] at q1; cases q1; omega), ⟨U, u, rfl⟩, hI2⟩)
    ·refine W_seq (W_region (V0 rfl (V0 rfl (Vn rfl (V2 rfl (V0 rfl (V0 rfl (Td rfl (V8 rfl (V4 rfl (WL_nil (W_cond false rfl (W_skip ?_)))))))))))))
     refine W_seq (W_region (V7 rfl (V6 [.pointer _] rfl Tryz.func57 rfl ?_)))
     refine (ptake_any T sgs c i p g S w0 _ H hP hi hI).mono ?_
     rintro e w2 ⟨rfl, i', hi', hd, hI2⟩
     refine ⟨_, rfl, ?_⟩
     refine WL_nil (W_seq (W_region (V0 rfl (Va rfl (Vf rfl (WL_nil ?_))))))
     refine W_ret ?_
     refine ret2 6 7 (.inr rfl) rfl (.inl ⟨m, i', ?_, rfl, hi', hI2⟩)
     rw [numF_ok.2 ⟨hx, hit, by omega, by omega⟩, hd]
     rfl
  ·refine W_seq (W_region (T3 rfl (Tc rfl Tryz.underlying29 rfl (V2 rfl (V0 rfl (V6 [.int .i64 _] rfl Tryz.func88 rfl ?_))))))
   refine (itoa_any m hm1 hm2 _ (hG.chg hI.chg hS)).mono ?_
   rintro e w1 ⟨rfl, hp1⟩
   refine ⟨_, rfl, ?_⟩
   replace hI := hI.pure hp1
   refine Vq rfl ?_
   refine WL_val rfl rfl rfl (by exact rStrNeT rfl rfl rfl (by assumption)) ?_
   refine V8 rfl (V4 rfl (WL_nil (W_cond true rfl (W_seq (W_region (V7 rfl (V6 [.pointer _, .int .i64 _] rfl Tryz.func56 rfl ?_)))))))
   refine (wrong_any T sgs c i p g S w0 _ H 3 hP hi hI).mono ?_
   rintro e w2 ⟨⟨U, u, rfl⟩, hI2⟩
   refine ⟨_, rfl, ?_⟩
   refine Va rfl (Vk rfl (WL_nil ?_))
   refine W_ret ?_
   exact ret2 6 7 (.inr rfl) rfl (.inr ⟨(by rw [Option.map_eq_none_iff]; exact Option.eq_none_iff_forall_ne_some.2 fun v hv => by obtain ⟨q1, q2, q3, q4⟩ := numF_ok.1 hv; rw [hx] at q1; cases q1; exact hit q2), ⟨U, u, rfl⟩, hI2⟩)
 | range =>
  rw [hx] at hat
  refine W_seq (W_region (Vq rfl (V6 [.string _] rfl Tryz.func87 rfl ?_)))
  refine hat.mono ?_
  rintro e w1 ⟨⟨m, U0, u0, rfl⟩, hp⟩
  refine ⟨_, rfl, ?_⟩
  replace hI := hI.pure hp
  refine Vv rfl (Vg rfl (Vg rfl (Va rfl (Vk rfl (WL_nil (W_seq (W_block (W_seq (W_region (Vo rfl (Tf rfl Tryz.underlying29 rfl (V2 rfl (V1 rfl ?_)))))))))))))
  refine V1 rfl (V1 rfl (V1 rfl (Vd rfl (V4 rfl (WL_nil (W_cond true rfl (W_seq (W_region (V7 rfl (V6 [.pointer _, .int .i64 _] rfl Tryz.func56 rfl ?_))))))))))
  refine (wrong_any T sgs c i p g S w0 _ H 3 hP hi hI).mono ?_
  rintro e w2 ⟨⟨U, u, rfl⟩, hI2⟩
  refine ⟨_, rfl, ?_⟩
  refine Va rfl (Vk rfl (WL_nil ?_))
  refine W_ret ?_
  exact ret2 6 7 (.inr rfl) rfl (.inr ⟨(by rw [Option.map_eq_none_iff]; exact Option.eq_none_iff_forall_ne_some.2 fun v hv => by obtain ⟨q1, q2, q3, q4⟩ := numF_ok.1 hv; rw [hx] at q1; cases q1), ⟨U, u, rfl⟩, hI2⟩)
 | _ =>
  rw [hx] at hat
  refine W_seq (W_region (Vq rfl (V6 [.string _] rfl Tryz.func87 rfl ?_)))
  refine hat.mono ?_
  rintro e w1 ⟨⟨m, U0, u0, rfl⟩, hp⟩
  refine ⟨_, rfl, ?_⟩
  replace hI := hI.pure hp
  refine Vv rfl (Vg rfl (Vg rfl (Va rfl (Vk rfl (WL_nil (W_seq (W_block (W_seq (W_region (Vo rfl (Tf rfl Tryz.underlying29 rfl (V2 rfl (V1 rfl ?_)))))))))))))
  refine V1 rfl (V1 rfl (V1 rfl (Vd rfl (V4 rfl (WL_nil (W_cond true rfl (W_seq (W_region (V7 rfl (V6 [.pointer _, .int .i64 _] rfl Tryz.func56 rfl ?_))))))))))
  refine (wrong_any T sgs c i p g S w0 _ H 3 hP hi hI).mono ?_
  rintro e w2 ⟨⟨U, u, rfl⟩, hI2⟩
  refine ⟨_, rfl, ?_⟩
  refine Va rfl (Vk rfl (WL_nil ?_))
  refine W_ret ?_
  exact ret2 6 7 (.inr rfl) rfl (.inr ⟨(by rw [Option.map_eq_none_iff]; exact Option.eq_none_iff_forall_ne_some.2 fun v hv => by obtain ⟨q1, q2, q3, q4⟩ := numF_ok.1 hv; rw [hx] at q1; cases q1), ⟨U, u, rfl⟩, hI2⟩)
/-- What reading a generator tells. -/
def ReadPost (T : List Tok) (sgs : List Sg) (c p g : Nat) (S : Nat → Prop) (w0 : World) (H : List Ent) (r : Option (Ge × List Tok)) (e : Ending) (w' : World) : Prop :=
 (∃ ge v L i', r = some (ge, T.drop i') ∧ e = .returned (.tuple #[v, .nilIface]) ∧ Rep ge v L ∧ i' ≤ T.length ∧ Inv S w0 w' (parE p g sgs c i' :: sgE g sgs :: (L ++ H))) ∨
 (r = none ∧ ∃ U u i', e = .returned (.tuple #[.nilIface, .iface U u]) ∧ i' ≤ T.length ∧ Inv S w0 w' (parE p g sgs c i' :: sgE g sgs :: H))
set_option maxHeartbeats 2000000 in
theorem pwrite_any (T : List Tok) (sgs : List Sg) (c i p g : Nat) (S : Nat → Prop) (w0 w : World) (H : List Ent) (hP : Ptx T sgs c) (hi : i ≤ T.length) (hI : Inv S w0 w (parE p g sgs c i :: sgE g sgs :: H)) (hG : NumG w0) (hS : NoG S) :
  Calls Tryz.prog 59 #[at0 p] w (ReadPost T sgs c p g S w0 H (pW (T.drop i))) := by
 unfold ReadPost
 refine Vm Tryz.f59.ntmps Tryz.func59 rfl ?_
 refine W_seq (W_region (Vf rfl (Vf rfl (WL_nil ?_))))
 cases h1 : numT 0 7 (T.drop i) with
 | none =>
  refine W_seq (W_region (V7 rfl (V6 [.pointer _, .int .i64 _, .int .i64 _] rfl Tryz.func58 rfl ?_)))
  refine (number_any T sgs c i p g S w0 _ H 0 7 hP hi hI hG hS).mono ?_
  rintro e w1 (⟨n, i1, hk, -, -, -⟩ | ⟨hk, ⟨U, u, rfl⟩, hIe⟩)
  ·rw [h1] at hk; cases hk
  refine ⟨_, rfl, ?_⟩
  refine Vv rfl (Vg rfl (Vg rfl (Va rfl (Vk rfl (WL_nil (W_seq (W_seq (W_region (Vo rfl (Tf rfl Tryz.underlying29 rfl (WL_nil (W_cond true rfl (W_seq ?_)))))))))))))
  refine W_region (Vo rfl (Vf rfl (Vk rfl (WL_nil ?_))))
  refine W_ret ?_
  exact ret2 2 3 (.inr rfl) rfl (.inr ⟨(by unfold pW; rw [h1]), U, u, i, rfl, hi, hIe⟩)
 | some q1 =>
  obtain ⟨k, r1⟩ := q1
  refine W_seq (W_region (V7 rfl (V6 [.pointer _, .int .i64 _, .int .i64 _] rfl Tryz.func58 rfl ?_)))
  refine (number_any T sgs c i p g S w0 _ H 0 7 hP hi hI hG hS).mono ?_
  rintro e w1 (⟨k', i1, hk, rfl, hi1, hI1⟩ | ⟨hk, -⟩)
  rotate_left
  ·rw [h1] at hk; cases hk
  rw [h1] at hk
  cases hk
  refine ⟨_, rfl, ?_⟩
  refine Vv rfl (Vg rfl (Vg rfl (Va rfl (Vf rfl (WL_nil (W_seq (W_seq (W_region (T3 rfl (Tc rfl Tryz.underlying29 rfl (WL_nil (W_cond false rfl (W_skip ?_)))))))))))))
  cases h2 : numT (-1000000) 1000000 (T.drop i1) with
  | none =>
   refine W_seq (W_region (V7 rfl (V6 [.pointer _, .int .i64 _, .int .i64 _] rfl Tryz.func58 rfl ?_)))
   refine (number_any T sgs c i1 p g S w0 _ H (-1000000) 1000000 hP hi1 hI1 hG hS).mono ?_
   rintro e w1 (⟨n, i1, hk, -, -, -⟩ | ⟨hk, ⟨U, u, rfl⟩, hIe⟩)
   ·rw [h2] at hk; cases hk
   refine ⟨_, rfl, ?_⟩
   refine Vv rfl (Vg rfl (Vg rfl (Va rfl (Vk rfl (WL_nil (W_seq (W_seq (W_region (Vo rfl (Tf rfl Tryz.underlying29 rfl (WL_nil (W_cond true rfl (W_seq ?_)))))))))))))
   refine W_region (Vo rfl (Vf rfl (Vk rfl (WL_nil ?_))))
   refine W_ret ?_
   exact ret2 2 3 (.inr rfl) rfl (.inr ⟨(by unfold pW; rw [h1]; simp only; rw [h2]), U, u, i1, rfl, hi1, hIe⟩)
  | some q2 =>
   obtain ⟨l, r2⟩ := q2
   refine W_seq (W_region (V7 rfl (V6 [.pointer _, .int .i64 _, .int .i64 _] rfl Tryz.func58 rfl ?_)))
   refine (number_any T sgs c i1 p g S w0 _ H (-1000000) 1000000 hP hi1 hI1 hG hS).mono ?_
   rintro e w1 (⟨l', i2, hk, rfl, hi2, hI2⟩ | ⟨hk, -⟩)
   rotate_left
   ·rw [h2] at hk; cases hk
   rw [h2] at hk
   cases hk
   refine ⟨_, rfl, ?_⟩
   refine Vv rfl (Vg rfl (Vg rfl (Va rfl (Vf rfl (WL_nil (W_seq (W_seq (W_region (T3 rfl (Tc rfl Tryz.underlying29 rfl (WL_nil (W_cond false rfl (W_skip ?_)))))))))))))
   cases h3 : numT l 1000000 (T.drop i2) with
   | none =>
    refine W_seq (W_region (V7 rfl (V0 rfl (V6 [.pointer _, .int .i64 _, .int .i64 _] rfl Tryz.func58 rfl ?_))))
    refine (number_any T sgs c i2 p g S w0 _ H l 1000000 hP hi2 hI2 hG hS).mono ?_
    rintro e w1 (⟨n, i1, hk, -, -, -⟩ | ⟨hk, ⟨U, u, rfl⟩, hIe⟩)
    ·rw [h3] at hk; cases hk
    refine ⟨_, rfl, ?_⟩
    refine Vv rfl (Vg rfl (Vg rfl (Va rfl (Vk rfl (WL_nil (W_seq (W_seq (W_region (Vo rfl (Tf rfl Tryz.underlying29 rfl (WL_nil (W_cond true rfl (W_seq ?_)))))))))))))
    refine W_region (Vo rfl (Vf rfl (Vk rfl (WL_nil ?_))))
    refine W_ret ?_
    exact ret2 2 3 (.inr rfl) rfl (.inr ⟨(by unfold pW; rw [h1]; simp only; rw [h2]; simp only; rw [h3]), U, u, i2, rfl, hi2, hIe⟩)
   | some q3 =>
    obtain ⟨t, r3⟩ := q3
    refine W_seq (W_region (V7 rfl (V0 rfl (V6 [.pointer _, .int .i64 _, .int .i64 _] rfl Tryz.func58 rfl ?_))))
    refine (number_any T sgs c i2 p g S w0 _ H l 1000000 hP hi2 hI2 hG hS).mono ?_
    rintro e w1 (⟨t', i3, hk, rfl, hi3, hI3⟩ | ⟨hk, -⟩)
    rotate_left
    ·rw [h3] at hk; cases hk
    rw [h3] at hk
    cases hk
    refine ⟨_, rfl, ?_⟩
    refine Vv rfl (Vg rfl (Vg rfl (Va rfl (Vf rfl (WL_nil (W_seq (W_seq (W_region (T3 rfl (Tc rfl Tryz.underlying29 rfl (WL_nil (W_cond false rfl (W_skip ?_)))))))))))))
    have hI := hI3
    refine W_seq (W_region (V0 rfl (V0 rfl (V0 rfl (T6 [(0, .int .i64 _), (1, .int .i64 _), (2, .int .i64 _)] [_, _, _] rfl [.int .i64 0, .int .i64 0, .int .i64 0] [0, 1, 2] rfl (fun _ => by kernel_rfl) (T7 (.agg _) (#[_, _, _]) hI rfl ?_))))))
    clear hI; rintro b37 w - - hI
    refine Vx rfl Tryz.underlying205 rfl (Vk rfl (Vf rfl (WL_nil ?_)))
    refine W_ret ?_
    have hb1 := numT_pre h2
    have hb2 := numT_pre h3
    refine ret2 2 3 (.inr rfl) rfl (.inl ⟨.wr k l t, _, _, i3, ?_, rfl, .wr (b := b37) hb1.1 hb2.1 hb2.2.1, hi3, ?_⟩)
    ·unfold pW; rw [h1]; simp only; rw [h2]; simp only; rw [h3]
    ·exact hI.sw0.sw1
end Go.Proofs.YthndpiopbdecfaaGreatDoor
