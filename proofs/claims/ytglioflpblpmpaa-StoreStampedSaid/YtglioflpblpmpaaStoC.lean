/- store: Less, has, see, send. -/
import Derived.Test.YtglioflpblpmpaaStoB
namespace Go.Proofs.Ytglioflpblpmpaa
open Go.RowKit
set_option linter.unusedVariables false
set_option linter.unusedSimpArgs false
theorem rAddNN {P : Program} {ρ : Env} {w : World} {o : Oper} {x y : Operand} {t t' : TypeId} {a b : Nat} (ho : o.op = .binOp .add t x y t') (hx : ev ρ x = .int .i64 (a : Int)) (hy : ev ρ y = .int .i64 (b : Int)) (h : a + b ≤ 9223372036854775807) : Runs P ρ o w (.int .i64 ((a + b : Nat) : Int)) := by
  have := rAdd (P := P) (w := w) ho hx hy (by omega)
  rw [show ((a + b : Nat) : Int) = (a : Int) + (b : Int) from Int.natCast_add a b]
  exact this
/-! ### One client's cells -/
def clX (k : Nat) (L : StL) (s : SSt) (c : Nat) (x : SCl) (cv : Value) : Array Value := flatB k fun i => if i = c then clL x cv else clF L s i
structure ClAt (w : World) (b o : Nat) (x : SCl) (cv : Value) : Prop where
  c0 : w.cell? ⟨b, o, none⟩ = some (.bool x.busy)
  c1 : w.cell? ⟨b, o + 1, none⟩ = some (.bool x.gone)
  c2 : w.cell? ⟨b, o + 2, none⟩ = some (.int .i64 x.began.proc)
  c3 : w.cell? ⟨b, o + 3, none⟩ = some (.int .i64 x.began.ty)
  c4 : w.cell? ⟨b, o + 4, none⟩ = some (.int .i64 x.began.key)
  c5 : w.cell? ⟨b, o + 5, none⟩ = some (.int .i64 x.began.kind)
  c6 : w.cell? ⟨b, o + 6, none⟩ = some (.int .i64 x.began.a)
  c7 : w.cell? ⟨b, o + 7, none⟩ = some (.int .i64 x.began.b)
  c8 : w.cell? ⟨b, o + 8, none⟩ = some (.int .i64 x.began.res)
  c9 : w.cell? ⟨b, o + 9, none⟩ = some (.bool x.telling)
  c10 : w.cell? ⟨b, o + 10, none⟩ = some (.int .i64 (x.round : Int))
  c11 : w.cell? ⟨b, o + 11, none⟩ = some cv
  c12 : w.cell? ⟨b, o + 12, none⟩ = some (.int .i64 (x.best.t : Int))
  c13 : w.cell? ⟨b, o + 13, none⟩ = some (.int .i64 x.best.c)
  c14 : w.cell? ⟨b, o + 14, none⟩ = some (.int .i64 x.best.v)
theorem clAt_of {w : World} {b k i o : Nat} {t : TypeId} {f : Nat → List Value} {x : SCl} {cv : Value} (h : Blk w b t (flatB k f)) (hm : ∀ i, (f i).length = 15) (hi : i < k) (hf : f i = clL x cv) (ho : o = i * 15) : ClAt w b o x cv := by
  subst ho
  have g : ∀ (j : Nat) (v : Value), (clL x cv)[j]? = some v → w.cell? ⟨b, i * 15 + j, none⟩ = some v := fun j v hv => by
    rw [h.cell]; exact flatB_get hm hi (by rw [hf]; exact hv)
  exact ⟨g 0 _ rfl, g 1 _ rfl, g 2 _ rfl, g 3 _ rfl, g 4 _ rfl, g 5 _ rfl, g 6 _ rfl, g 7 _ rfl, g 8 _ rfl, g 9 _ rfl, g 10 _ rfl, g 11 _ rfl, g 12 _ rfl, g 13 _ rfl, g 14 _ rfl⟩
theorem ClAt.pure {w w' : World} {b o : Nat} {x : SCl} {cv : Value} (h : ClAt w b o x cv) (hp : Pure w w') : ClAt w' b o x cv := by
  have hI := (Inv.start (fun _ => False) w).pure hp
  exact ⟨hI.oldp h.c0, hI.oldp h.c1, hI.oldp h.c2, hI.oldp h.c3, hI.oldp h.c4, hI.oldp h.c5, hI.oldp h.c6, hI.oldp h.c7, hI.oldp h.c8, hI.oldp h.c9, hI.oldp h.c10, hI.oldp h.c11, hI.oldp h.c12, hI.oldp h.c13, hI.oldp h.c14⟩
section
variable {k c : Nat} {L : StL} {s : SSt} {x x' : SCl} {cv cv' : Value}
theorem clX_fun (i : Nat) : (if i = c then clL x cv else clF L s i).length = 15 := by split <;> rfl
theorem clX_start : clX k L s c (s.cl c) (cntV L s c) = flatB k (clF L s) := flatB_congr fun i _ => by
  by_cases h : i = c
  · subst h; rw [if_pos rfl]; rfl
  · rw [if_neg h]
theorem clX_end {L' : StL} {s' : SSt} (h : clL x cv = clF L' s' c) (h' : ∀ i, i < k → i ≠ c → clF L s i = clF L' s' i) : clX k L s c x cv = flatB k (clF L' s') := flatB_congr fun i hi => by
  by_cases hic : i = c
  · subst hic; rw [if_pos rfl]; exact h
  · rw [if_neg hic]; exact h' i hi hic
theorem clX_size : (clX k L s c x cv).size = k * 15 := flatB_size fun i => clX_fun i
theorem clX_lt (hc : c < k) {j : Nat} (hj : j < 15) : 0 + c * 15 + j < (clX k L s c x cv).size := by
  rw [clX_size]
  have := Nat.mul_le_mul_right 15 (Nat.succ_le_of_lt hc)
  rw [Nat.succ_mul] at this
  omega
theorem clX_blt (hc : c < k) {j : Nat} (hj : j < 15) : Nat.blt (0 + c * 15 + j) (clX k L s c x cv).size = true := by rw [Nat.blt_eq]; exact clX_lt hc hj
theorem clX_blt0 (hc : c < k) : Nat.blt (0 + c * 15) (clX k L s c x cv).size = true := clX_blt (j := 0) hc (by omega)
theorem clX_set (hc : c < k) (j : Nat) (hj : j < 15) {v : Value} (h : clL x' cv' = (clL x cv).take j ++ [v] ++ (clL x cv).drop (j + 1)) : (clX k L s c x cv).setIfInBounds (0 + c * 15 + j) v = clX k L s c x' cv' := by
  rw [Nat.zero_add]
  exact flatB_set (fun i => clX_fun i) (fun i => clX_fun i) hc hj (fun i hi => by rw [if_neg hi, if_neg hi]) (by rw [if_pos rfl, if_pos rfl]; exact h)
theorem clX_set0 (hc : c < k) {v : Value} (h : clL x' cv' = (clL x cv).take 0 ++ [v] ++ (clL x cv).drop 1) : (clX k L s c x cv).setIfInBounds (0 + c * 15) v = clX k L s c x' cv' := clX_set hc 0 (by omega) h
theorem clX_sp (hc : c < k) (j : Nat) {vs : List Value} (hj : j + vs.length ≤ 15) (h : clL x' cv' = (clL x cv).take j ++ vs ++ (clL x cv).drop (j + vs.length)) : splice (clX k L s c x cv) (0 + c * 15 + j) vs = clX k L s c x' cv' := by
  rw [Nat.zero_add]
  exact flatB_splice (fun i => clX_fun i) (fun i => clX_fun i) hc hj (fun i hi => by rw [if_neg hi, if_neg hi]) (by rw [if_pos rfl, if_pos rfl]; exact h)
theorem clX_at {S : Nat → Prop} {w0 w : World} {H : List Ent} {b : Nat} {t : TypeId} (i : Nat) (hi : H[i]? = some (B b t (clX k L s c x cv))) (hI : Inv S w0 w H) (hc : c < k) : ClAt w b (0 + c * 15) x cv :=
  clAt_of (hI.ok _ (List.mem_of_getElem? hi)).1 (fun i => clX_fun i) hc (if_pos rfl) (Nat.zero_add _)
theorem clF_at {S : Nat → Prop} {w0 w : World} {H : List Ent} {b : Nat} {t : TypeId} (i : Nat) (hi : H[i]? = some (B b t (flatB k (clF L s)))) (hI : Inv S w0 w H) (hc : c < k) : ClAt w b (0 + c * 15) (s.cl c) (cntV L s c) :=
  clAt_of (hI.ok _ (List.mem_of_getElem? hi)).1 (fun i => clF_len L s i) hc rfl (Nat.zero_add _)
end
set_option maxHeartbeats 1000000 in
theorem less_raw (t1 c1 t2 c2 : Int) (w0 : World) : Calls Try.prog 11 #[.agg #[.int .i64 t1, .int .i64 c1], .agg #[.int .i64 t2, .int .i64 c2]] w0 fun en w' => en = .returned (.bool (decide (t1 < t2 ∨ (t1 = t2 ∧ c1 < c2)))) ∧ Pure w0 w' := by
  have hI := Inv.start (fun _ => False) w0
  refine calls_of_W (N := Try.f11.ntmps) Try.func11 rfl rfl rfl ?_
  refine W_seq ?_
  refine W_region ?_
  refine WL_box (u := .agg _) (vs := #[_, _]) hI rfl rfl rfl rfl rfl rfl ?_
  clear hI; rintro b2 w - - hI
  refine WL_box (u := .agg _) (vs := #[_, _]) hI rfl rfl rfl rfl rfl rfl ?_
  clear hI; rintro b3 w - - hI
  refine WL_val rfl rfl rfl (by first | exact rAsgnB rfl rfl | exact rAsgn rfl) ?_
  refine WL_nil ?_
  by_cases h1 : t1 < t2
  · refine W_seq ?_
    refine W_region ?_
    refine WL_val rfl rfl rfl (by first | exact rFldN (off := 0) rfl (by kernel_rfl) rfl | exact rFld0 rfl (by kernel_rfl) rfl) ?_
    refine WL_val rfl rfl rfl (by first | exact rLd (v := .int .i64 _) rfl (by kernel_rfl) rfl (by first | exact hI.c0 rfl | exact hI.c1 rfl) | exact rLd rfl (by kernel_rfl) rfl (by first | exact hI.c0 rfl | exact hI.c1 rfl)) ?_
    refine WL_val rfl rfl rfl (by first | exact rFldN (off := 0) rfl (by kernel_rfl) rfl | exact rFld0 rfl (by kernel_rfl) rfl) ?_
    refine WL_val rfl rfl rfl (by first | exact rLd (v := .int .i64 _) rfl (by kernel_rfl) rfl (by first | exact hI.c0 rfl | exact hI.c1 rfl) | exact rLd rfl (by kernel_rfl) rfl (by first | exact hI.c0 rfl | exact hI.c1 rfl)) ?_
    refine WL_val rfl rfl rfl (by first | exact rLssT rfl rfl rfl (by omega) | exact rLssF rfl rfl rfl (by omega) | exact rLss rfl rfl rfl) ?_
    refine WL_val rfl rfl rfl (by first | exact rMoveB rfl rfl | exact rMove rfl) ?_
    refine WL_skip rfl rfl rfl ?_
    refine WL_skip rfl rfl rfl ?_
    refine WL_skip rfl rfl rfl ?_
    refine WL_skip rfl rfl rfl ?_
    refine WL_skip rfl rfl rfl ?_
    refine WL_skip rfl rfl rfl ?_
    refine WL_skip rfl rfl rfl ?_
    refine WL_skip rfl rfl rfl ?_
    refine WL_skip rfl rfl rfl ?_
    refine WL_skip rfl rfl rfl ?_
    refine WL_skip rfl rfl rfl ?_
    refine WL_skip rfl rfl rfl ?_
    refine WL_val rfl rfl rfl (by first | exact rPickTB rfl rfl rfl | exact rPickFB rfl rfl rfl | exact rPickB rfl rfl rfl rfl) ?_
    refine WL_val rfl rfl rfl (by first | exact rAsgnB rfl rfl | exact rAsgn rfl) ?_
    refine WL_nil ?_
    refine W_ret ?_
    refine ret1 4 (.inr rfl) rfl ⟨?_, hI.pu⟩
    rw [decide_eq_true (by omega)]; rfl
  · by_cases h2 : t1 = t2
    · by_cases h3 : c1 < c2
      · refine W_seq ?_
        refine W_region ?_
        refine WL_val rfl rfl rfl (by first | exact rFldN (off := 0) rfl (by kernel_rfl) rfl | exact rFld0 rfl (by kernel_rfl) rfl) ?_
        refine WL_val rfl rfl rfl (by first | exact rLd (v := .int .i64 _) rfl (by kernel_rfl) rfl (by first | exact hI.c0 rfl | exact hI.c1 rfl) | exact rLd rfl (by kernel_rfl) rfl (by first | exact hI.c0 rfl | exact hI.c1 rfl)) ?_
        refine WL_val rfl rfl rfl (by first | exact rFldN (off := 0) rfl (by kernel_rfl) rfl | exact rFld0 rfl (by kernel_rfl) rfl) ?_
        refine WL_val rfl rfl rfl (by first | exact rLd (v := .int .i64 _) rfl (by kernel_rfl) rfl (by first | exact hI.c0 rfl | exact hI.c1 rfl) | exact rLd rfl (by kernel_rfl) rfl (by first | exact hI.c0 rfl | exact hI.c1 rfl)) ?_
        refine WL_val rfl rfl rfl (by first | exact rLssT rfl rfl rfl (by omega) | exact rLssF rfl rfl rfl (by omega) | exact rLss rfl rfl rfl) ?_
        refine WL_val rfl rfl rfl (by first | exact rMoveB rfl rfl | exact rMove rfl) ?_
        first | refine WL_val rfl rfl rfl (by first | exact rFldN (off := 0) rfl (by kernel_rfl) rfl | exact rFld0 rfl (by kernel_rfl) rfl) ?_ | refine WL_skip rfl rfl rfl ?_
        first | refine WL_val rfl rfl rfl (by first | exact rLd (v := .int .i64 _) rfl (by kernel_rfl) rfl (by first | exact hI.c0 rfl | exact hI.c1 rfl) | exact rLd rfl (by kernel_rfl) rfl (by first | exact hI.c0 rfl | exact hI.c1 rfl)) ?_ | refine WL_skip rfl rfl rfl ?_
        first | refine WL_val rfl rfl rfl (by first | exact rFldN (off := 0) rfl (by kernel_rfl) rfl | exact rFld0 rfl (by kernel_rfl) rfl) ?_ | refine WL_skip rfl rfl rfl ?_
        first | refine WL_val rfl rfl rfl (by first | exact rLd (v := .int .i64 _) rfl (by kernel_rfl) rfl (by first | exact hI.c0 rfl | exact hI.c1 rfl) | exact rLd rfl (by kernel_rfl) rfl (by first | exact hI.c0 rfl | exact hI.c1 rfl)) ?_ | refine WL_skip rfl rfl rfl ?_
        first | refine WL_val rfl rfl rfl (by first | exact rEqlT rfl rfl rfl (by omega) | exact rEqlF rfl rfl rfl (by omega) | exact rEql rfl rfl rfl) ?_ | refine WL_skip rfl rfl rfl ?_
        first | refine WL_val rfl rfl rfl (by first | exact rMoveB rfl rfl | exact rMove rfl) ?_ | refine WL_skip rfl rfl rfl ?_
        first | refine WL_val rfl rfl rfl (by first | exact rFldN (off := 1) rfl (by kernel_rfl) rfl | exact rFld (off := 1) rfl (by kernel_rfl) rfl) ?_ | refine WL_skip rfl rfl rfl ?_
        first | refine WL_val rfl rfl rfl (by first | exact rLd (v := .int .i64 _) rfl (by kernel_rfl) rfl (by first | exact hI.c0 rfl | exact hI.c1 rfl) | exact rLd rfl (by kernel_rfl) rfl (by first | exact hI.c0 rfl | exact hI.c1 rfl)) ?_ | refine WL_skip rfl rfl rfl ?_
        first | refine WL_val rfl rfl rfl (by first | exact rFldN (off := 1) rfl (by kernel_rfl) rfl | exact rFld (off := 1) rfl (by kernel_rfl) rfl) ?_ | refine WL_skip rfl rfl rfl ?_
        first | refine WL_val rfl rfl rfl (by first | exact rLd (v := .int .i64 _) rfl (by kernel_rfl) rfl (by first | exact hI.c0 rfl | exact hI.c1 rfl) | exact rLd rfl (by kernel_rfl) rfl (by first | exact hI.c0 rfl | exact hI.c1 rfl)) ?_ | refine WL_skip rfl rfl rfl ?_
        first | refine WL_val rfl rfl rfl (by first | exact rLssT rfl rfl rfl (by omega) | exact rLssF rfl rfl rfl (by omega) | exact rLss rfl rfl rfl) ?_ | refine WL_skip rfl rfl rfl ?_
        first | refine WL_val rfl rfl rfl (by first | exact rPickTB rfl rfl rfl | exact rPickFB rfl rfl rfl | exact rPickB rfl rfl rfl rfl) ?_ | refine WL_skip rfl rfl rfl ?_
        refine WL_val rfl rfl rfl (by first | exact rPickTB rfl rfl rfl | exact rPickFB rfl rfl rfl | exact rPickB rfl rfl rfl rfl) ?_
        refine WL_val rfl rfl rfl (by first | exact rAsgnB rfl rfl | exact rAsgn rfl) ?_
        refine WL_nil ?_
        refine W_ret ?_
        refine ret1 4 (.inr rfl) rfl ⟨?_, hI.pu⟩
        rw [decide_eq_true (by omega)]; rfl
      · refine W_seq ?_
        refine W_region ?_
        refine WL_val rfl rfl rfl (by first | exact rFldN (off := 0) rfl (by kernel_rfl) rfl | exact rFld0 rfl (by kernel_rfl) rfl) ?_
        refine WL_val rfl rfl rfl (by first | exact rLd (v := .int .i64 _) rfl (by kernel_rfl) rfl (by first | exact hI.c0 rfl | exact hI.c1 rfl) | exact rLd rfl (by kernel_rfl) rfl (by first | exact hI.c0 rfl | exact hI.c1 rfl)) ?_
        refine WL_val rfl rfl rfl (by first | exact rFldN (off := 0) rfl (by kernel_rfl) rfl | exact rFld0 rfl (by kernel_rfl) rfl) ?_
        refine WL_val rfl rfl rfl (by first | exact rLd (v := .int .i64 _) rfl (by kernel_rfl) rfl (by first | exact hI.c0 rfl | exact hI.c1 rfl) | exact rLd rfl (by kernel_rfl) rfl (by first | exact hI.c0 rfl | exact hI.c1 rfl)) ?_
        refine WL_val rfl rfl rfl (by first | exact rLssT rfl rfl rfl (by omega) | exact rLssF rfl rfl rfl (by omega) | exact rLss rfl rfl rfl) ?_
        refine WL_val rfl rfl rfl (by first | exact rMoveB rfl rfl | exact rMove rfl) ?_
        first | refine WL_val rfl rfl rfl (by first | exact rFldN (off := 0) rfl (by kernel_rfl) rfl | exact rFld0 rfl (by kernel_rfl) rfl) ?_ | refine WL_skip rfl rfl rfl ?_
        first | refine WL_val rfl rfl rfl (by first | exact rLd (v := .int .i64 _) rfl (by kernel_rfl) rfl (by first | exact hI.c0 rfl | exact hI.c1 rfl) | exact rLd rfl (by kernel_rfl) rfl (by first | exact hI.c0 rfl | exact hI.c1 rfl)) ?_ | refine WL_skip rfl rfl rfl ?_
        first | refine WL_val rfl rfl rfl (by first | exact rFldN (off := 0) rfl (by kernel_rfl) rfl | exact rFld0 rfl (by kernel_rfl) rfl) ?_ | refine WL_skip rfl rfl rfl ?_
        first | refine WL_val rfl rfl rfl (by first | exact rLd (v := .int .i64 _) rfl (by kernel_rfl) rfl (by first | exact hI.c0 rfl | exact hI.c1 rfl) | exact rLd rfl (by kernel_rfl) rfl (by first | exact hI.c0 rfl | exact hI.c1 rfl)) ?_ | refine WL_skip rfl rfl rfl ?_
        first | refine WL_val rfl rfl rfl (by first | exact rEqlT rfl rfl rfl (by omega) | exact rEqlF rfl rfl rfl (by omega) | exact rEql rfl rfl rfl) ?_ | refine WL_skip rfl rfl rfl ?_
        first | refine WL_val rfl rfl rfl (by first | exact rMoveB rfl rfl | exact rMove rfl) ?_ | refine WL_skip rfl rfl rfl ?_
        first | refine WL_val rfl rfl rfl (by first | exact rFldN (off := 1) rfl (by kernel_rfl) rfl | exact rFld (off := 1) rfl (by kernel_rfl) rfl) ?_ | refine WL_skip rfl rfl rfl ?_
        first | refine WL_val rfl rfl rfl (by first | exact rLd (v := .int .i64 _) rfl (by kernel_rfl) rfl (by first | exact hI.c0 rfl | exact hI.c1 rfl) | exact rLd rfl (by kernel_rfl) rfl (by first | exact hI.c0 rfl | exact hI.c1 rfl)) ?_ | refine WL_skip rfl rfl rfl ?_
        first | refine WL_val rfl rfl rfl (by first | exact rFldN (off := 1) rfl (by kernel_rfl) rfl | exact rFld (off := 1) rfl (by kernel_rfl) rfl) ?_ | refine WL_skip rfl rfl rfl ?_
        first | refine WL_val rfl rfl rfl (by first | exact rLd (v := .int .i64 _) rfl (by kernel_rfl) rfl (by first | exact hI.c0 rfl | exact hI.c1 rfl) | exact rLd rfl (by kernel_rfl) rfl (by first | exact hI.c0 rfl | exact hI.c1 rfl)) ?_ | refine WL_skip rfl rfl rfl ?_
        first | refine WL_val rfl rfl rfl (by first | exact rLssT rfl rfl rfl (by omega) | exact rLssF rfl rfl rfl (by omega) | exact rLss rfl rfl rfl) ?_ | refine WL_skip rfl rfl rfl ?_
        first | refine WL_val rfl rfl rfl (by first | exact rPickTB rfl rfl rfl | exact rPickFB rfl rfl rfl | exact rPickB rfl rfl rfl rfl) ?_ | refine WL_skip rfl rfl rfl ?_
        refine WL_val rfl rfl rfl (by first | exact rPickTB rfl rfl rfl | exact rPickFB rfl rfl rfl | exact rPickB rfl rfl rfl rfl) ?_
        refine WL_val rfl rfl rfl (by first | exact rAsgnB rfl rfl | exact rAsgn rfl) ?_
        refine WL_nil ?_
        refine W_ret ?_
        refine ret1 4 (.inr rfl) rfl ⟨?_, hI.pu⟩
        rw [decide_eq_false (by omega)]; rfl
    · refine W_seq ?_
      refine W_region ?_
      refine WL_val rfl rfl rfl (by first | exact rFldN (off := 0) rfl (by kernel_rfl) rfl | exact rFld0 rfl (by kernel_rfl) rfl) ?_
      refine WL_val rfl rfl rfl (by first | exact rLd (v := .int .i64 _) rfl (by kernel_rfl) rfl (by first | exact hI.c0 rfl | exact hI.c1 rfl) | exact rLd rfl (by kernel_rfl) rfl (by first | exact hI.c0 rfl | exact hI.c1 rfl)) ?_
      refine WL_val rfl rfl rfl (by first | exact rFldN (off := 0) rfl (by kernel_rfl) rfl | exact rFld0 rfl (by kernel_rfl) rfl) ?_
      refine WL_val rfl rfl rfl (by first | exact rLd (v := .int .i64 _) rfl (by kernel_rfl) rfl (by first | exact hI.c0 rfl | exact hI.c1 rfl) | exact rLd rfl (by kernel_rfl) rfl (by first | exact hI.c0 rfl | exact hI.c1 rfl)) ?_
      refine WL_val rfl rfl rfl (by first | exact rLssT rfl rfl rfl (by omega) | exact rLssF rfl rfl rfl (by omega) | exact rLss rfl rfl rfl) ?_
      refine WL_val rfl rfl rfl (by first | exact rMoveB rfl rfl | exact rMove rfl) ?_
      first | refine WL_val rfl rfl rfl (by first | exact rFldN (off := 0) rfl (by kernel_rfl) rfl | exact rFld0 rfl (by kernel_rfl) rfl) ?_ | refine WL_skip rfl rfl rfl ?_
      first | refine WL_val rfl rfl rfl (by first | exact rLd (v := .int .i64 _) rfl (by kernel_rfl) rfl (by first | exact hI.c0 rfl | exact hI.c1 rfl) | exact rLd rfl (by kernel_rfl) rfl (by first | exact hI.c0 rfl | exact hI.c1 rfl)) ?_ | refine WL_skip rfl rfl rfl ?_
      first | refine WL_val rfl rfl rfl (by first | exact rFldN (off := 0) rfl (by kernel_rfl) rfl | exact rFld0 rfl (by kernel_rfl) rfl) ?_ | refine WL_skip rfl rfl rfl ?_
      first | refine WL_val rfl rfl rfl (by first | exact rLd (v := .int .i64 _) rfl (by kernel_rfl) rfl (by first | exact hI.c0 rfl | exact hI.c1 rfl) | exact rLd rfl (by kernel_rfl) rfl (by first | exact hI.c0 rfl | exact hI.c1 rfl)) ?_ | refine WL_skip rfl rfl rfl ?_
      first | refine WL_val rfl rfl rfl (by first | exact rEqlT rfl rfl rfl (by omega) | exact rEqlF rfl rfl rfl (by omega) | exact rEql rfl rfl rfl) ?_ | refine WL_skip rfl rfl rfl ?_
      first | refine WL_val rfl rfl rfl (by first | exact rMoveB rfl rfl | exact rMove rfl) ?_ | refine WL_skip rfl rfl rfl ?_
      refine WL_skip rfl rfl rfl ?_
      refine WL_skip rfl rfl rfl ?_
      refine WL_skip rfl rfl rfl ?_
      refine WL_skip rfl rfl rfl ?_
      refine WL_skip rfl rfl rfl ?_
      first | refine WL_val rfl rfl rfl (by first | exact rPickTB rfl rfl rfl | exact rPickFB rfl rfl rfl | exact rPickB rfl rfl rfl rfl) ?_ | refine WL_skip rfl rfl rfl ?_
      refine WL_val rfl rfl rfl (by first | exact rPickTB rfl rfl rfl | exact rPickFB rfl rfl rfl | exact rPickB rfl rfl rfl rfl) ?_
      refine WL_val rfl rfl rfl (by first | exact rAsgnB rfl rfl | exact rAsgn rfl) ?_
      refine WL_nil ?_
      refine W_ret ?_
      refine ret1 4 (.inr rfl) rfl ⟨?_, hI.pu⟩
      rw [decide_eq_false (by omega)]; rfl
theorem less_any (a b : SEnt) (w0 : World) : Calls Try.prog 11 #[.agg (stL a).toArray, .agg (stL b).toArray] w0 fun en w' => en = .returned (.bool (decide (a.less b))) ∧ Pure w0 w' := by
  refine (less_raw (a.t : Int) a.c (b.t : Int) b.c w0).mono ?_
  rintro e w' ⟨rfl, hp⟩
  refine ⟨?_, hp⟩
  congr 2
  refine decide_eq_decide.2 ?_
  unfold SEnt.less
  omega
set_option maxHeartbeats 1000000 in
theorem shas_any (b : Nat) (c : Int) (A : Option Addr) (n cc : Nat) (w0 : World) (hc : w0.cell? ⟨b, 6, none⟩ = some (.slice A n cc)) :
    Calls Try.prog 29 #[.pointer (some ⟨b, 0, none⟩), .int .i64 c] w0 fun en w' => en = .returned (.bool (decide (0 ≤ c ∧ c < (n : Int)))) ∧ Pure w0 w' := by
  have hI := Inv.start (fun _ => False) w0
  refine calls_of_W (N := Try.f29.ntmps) Try.func29 rfl rfl rfl ?_
  refine W_seq ?_
  refine W_region ?_
  refine WL_val rfl rfl rfl (by first | exact rAsgnB rfl rfl | exact rAsgn rfl) ?_
  refine WL_nil ?_
  by_cases h0 : c < 0
  · refine W_seq ?_
    refine W_region ?_
    refine WL_val rfl rfl rfl (by first | exact rMoveP rfl rfl | exact rMove rfl) ?_
    refine WL_val rfl rfl rfl (rPtrNe rfl Try.underlying30 rfl rfl) ?_
    refine WL_val rfl rfl rfl (by first | exact rMoveB rfl rfl | exact rMove rfl) ?_
    first | refine WL_val rfl rfl rfl (by first | exact rMoveI rfl rfl | exact rMove rfl) ?_ | refine WL_skip rfl rfl rfl ?_
    first | refine WL_val rfl rfl rfl (by first | exact rGeqT rfl rfl rfl (by omega) | exact rGeqF rfl rfl rfl (by omega) | exact rGeq rfl rfl rfl) ?_ | refine WL_skip rfl rfl rfl ?_
    refine WL_val rfl rfl rfl (by first | exact rPickTB rfl rfl rfl | exact rPickFB rfl rfl rfl | exact rPickB rfl rfl rfl rfl) ?_
    refine WL_val rfl rfl rfl (by first | exact rMoveB rfl rfl | exact rMove rfl) ?_
    refine WL_skip rfl rfl rfl ?_
    refine WL_skip rfl rfl rfl ?_
    refine WL_skip rfl rfl rfl ?_
    refine WL_skip rfl rfl rfl ?_
    refine WL_skip rfl rfl rfl ?_
    refine WL_skip rfl rfl rfl ?_
    refine WL_skip rfl rfl rfl ?_
    refine WL_val rfl rfl rfl (by first | exact rPickTB rfl rfl rfl | exact rPickFB rfl rfl rfl | exact rPickB rfl rfl rfl rfl) ?_
    refine WL_val rfl rfl rfl (by first | exact rAsgnB rfl rfl | exact rAsgn rfl) ?_
    refine WL_nil ?_
    refine W_ret ?_
    refine ret1 4 (.inr rfl) rfl ⟨?_, hI.pu⟩
    rw [decide_eq_false (by omega)]; rfl
  · by_cases h1 : c < (n : Int)
    · refine W_seq ?_
      refine W_region ?_
      refine WL_val rfl rfl rfl (by first | exact rMoveP rfl rfl | exact rMove rfl) ?_
      refine WL_val rfl rfl rfl (rPtrNe rfl Try.underlying30 rfl rfl) ?_
      refine WL_val rfl rfl rfl (by first | exact rMoveB rfl rfl | exact rMove rfl) ?_
      first | refine WL_val rfl rfl rfl (by first | exact rMoveI rfl rfl | exact rMove rfl) ?_ | refine WL_skip rfl rfl rfl ?_
      first | refine WL_val rfl rfl rfl (by first | exact rGeqT rfl rfl rfl (by omega) | exact rGeqF rfl rfl rfl (by omega) | exact rGeq rfl rfl rfl) ?_ | refine WL_skip rfl rfl rfl ?_
      refine WL_val rfl rfl rfl (by first | exact rPickTB rfl rfl rfl | exact rPickFB rfl rfl rfl | exact rPickB rfl rfl rfl rfl) ?_
      refine WL_val rfl rfl rfl (by first | exact rMoveB rfl rfl | exact rMove rfl) ?_
      first | refine WL_val rfl rfl rfl (by first | exact rMoveI rfl rfl | exact rMove rfl) ?_ | refine WL_skip rfl rfl rfl ?_
      first | refine WL_val rfl rfl rfl (by first | exact rMoveP rfl rfl | exact rMove rfl) ?_ | refine WL_skip rfl rfl rfl ?_
      first | refine WL_val rfl rfl rfl (rNilChk rfl rfl) ?_ | refine WL_skip rfl rfl rfl ?_
      first | refine WL_val rfl rfl rfl (by first | exact rFldN (off := 6) rfl (by kernel_rfl) rfl | exact rFld (off := 6) rfl (by kernel_rfl) rfl) ?_ | refine WL_skip rfl rfl rfl ?_
      first | refine WL_val rfl rfl rfl (by first | exact rLd (v := .slice _ _ _) rfl (by kernel_rfl) rfl (by first | exact hI.c0 rfl | exact hI.c1 rfl | exact hI.c2 rfl | exact hI.c3 rfl | exact hI.c4 rfl | exact hI.c5 rfl | exact hI.oldp hc | exact hc) | exact rLd rfl (by kernel_rfl) rfl (by first | exact hI.c0 rfl | exact hI.c1 rfl | exact hI.c2 rfl | exact hI.c3 rfl | exact hI.c4 rfl | exact hI.c5 rfl | exact hI.oldp hc | exact hc)) ?_ | refine WL_skip rfl rfl rfl ?_
      first | refine WL_val rfl rfl rfl (rLen rfl Try.underlying52 rfl) ?_ | refine WL_skip rfl rfl rfl ?_
      first | refine WL_val rfl rfl rfl (by first | exact rLssT rfl rfl rfl (by omega) | exact rLssF rfl rfl rfl (by omega) | exact rLss rfl rfl rfl) ?_ | refine WL_skip rfl rfl rfl ?_
      refine WL_val rfl rfl rfl (by first | exact rPickTB rfl rfl rfl | exact rPickFB rfl rfl rfl | exact rPickB rfl rfl rfl rfl) ?_
      refine WL_val rfl rfl rfl (by first | exact rAsgnB rfl rfl | exact rAsgn rfl) ?_
      refine WL_nil ?_
      refine W_ret ?_
      refine ret1 4 (.inr rfl) rfl ⟨?_, hI.pu⟩
      rw [decide_eq_true (by omega)]; rfl
    · refine W_seq ?_
      refine W_region ?_
      refine WL_val rfl rfl rfl (by first | exact rMoveP rfl rfl | exact rMove rfl) ?_
      refine WL_val rfl rfl rfl (rPtrNe rfl Try.underlying30 rfl rfl) ?_
      refine WL_val rfl rfl rfl (by first | exact rMoveB rfl rfl | exact rMove rfl) ?_
      first | refine WL_val rfl rfl rfl (by first | exact rMoveI rfl rfl | exact rMove rfl) ?_ | refine WL_skip rfl rfl rfl ?_
      first | refine WL_val rfl rfl rfl (by first | exact rGeqT rfl rfl rfl (by omega) | exact rGeqF rfl rfl rfl (by omega) | exact rGeq rfl rfl rfl) ?_ | refine WL_skip rfl rfl rfl ?_
      refine WL_val rfl rfl rfl (by first | exact rPickTB rfl rfl rfl | exact rPickFB rfl rfl rfl | exact rPickB rfl rfl rfl rfl) ?_
      refine WL_val rfl rfl rfl (by first | exact rMoveB rfl rfl | exact rMove rfl) ?_
      first | refine WL_val rfl rfl rfl (by first | exact rMoveI rfl rfl | exact rMove rfl) ?_ | refine WL_skip rfl rfl rfl ?_
      first | refine WL_val rfl rfl rfl (by first | exact rMoveP rfl rfl | exact rMove rfl) ?_ | refine WL_skip rfl rfl rfl ?_
      first | refine WL_val rfl rfl rfl (rNilChk rfl rfl) ?_ | refine WL_skip rfl rfl rfl ?_
      first | refine WL_val rfl rfl rfl (by first | exact rFldN (off := 6) rfl (by kernel_rfl) rfl | exact rFld (off := 6) rfl (by kernel_rfl) rfl) ?_ | refine WL_skip rfl rfl rfl ?_
      first | refine WL_val rfl rfl rfl (by first | exact rLd (v := .slice _ _ _) rfl (by kernel_rfl) rfl (by first | exact hI.c0 rfl | exact hI.c1 rfl | exact hI.c2 rfl | exact hI.c3 rfl | exact hI.c4 rfl | exact hI.c5 rfl | exact hI.oldp hc | exact hc) | exact rLd rfl (by kernel_rfl) rfl (by first | exact hI.c0 rfl | exact hI.c1 rfl | exact hI.c2 rfl | exact hI.c3 rfl | exact hI.c4 rfl | exact hI.c5 rfl | exact hI.oldp hc | exact hc)) ?_ | refine WL_skip rfl rfl rfl ?_
      first | refine WL_val rfl rfl rfl (rLen rfl Try.underlying52 rfl) ?_ | refine WL_skip rfl rfl rfl ?_
      first | refine WL_val rfl rfl rfl (by first | exact rLssT rfl rfl rfl (by omega) | exact rLssF rfl rfl rfl (by omega) | exact rLss rfl rfl rfl) ?_ | refine WL_skip rfl rfl rfl ?_
      refine WL_val rfl rfl rfl (by first | exact rPickTB rfl rfl rfl | exact rPickFB rfl rfl rfl | exact rPickB rfl rfl rfl rfl) ?_
      refine WL_val rfl rfl rfl (by first | exact rAsgnB rfl rfl | exact rAsgn rfl) ?_
      refine WL_nil ?_
      refine W_ret ?_
      refine ret1 4 (.inr rfl) rfl ⟨?_, hI.pu⟩
      rw [decide_eq_false (by omega)]; rfl
theorem evs_push (l : List Ev) (e : Ev) : (l ++ [e]).flatMap evL = l.flatMap evL ++ evL e := by simp
theorem sts_push (l : List SEnt) (e : SEnt) : (l ++ [e]).flatMap stL = l.flatMap stL ++ stL e := by simp
set_option maxHeartbeats 1000000 in
theorem see_any (L : StL) (s : SSt) (e : Ev) (st : SEnt) (S : Nat → Prop) (w0 : World) (hI : Inv S w0 w0 (spt L s)) (hl : s.evs.length ≤ 1000 ∧ s.sts.length ≤ 1000) :
    Calls Try.prog 19 #[.pointer (some ⟨L.sb, 0, none⟩), .agg (evL e).toArray, .agg (stL st).toArray] w0 fun en w' => en = .returned (.tuple #[]) ∧ ∃ EA ec SA sc, Inv S w0 w' (spt { L with EA := EA, ec := ec, SA := SA, sc := sc } (obsF s e st)) := by
  unfold spt at hI
  refine calls_of_W (N := Try.f19.ntmps) Try.func19 rfl rfl rfl ?_
  refine W_seq ?_
  refine W_region ?_
  refine WL_box (u := .agg (evL e).toArray) (vs := (evL e).toArray) hI rfl rfl rfl rfl rfl rfl ?_
  clear hI; rintro b4 w - - hI
  refine WL_box (u := .agg (stL st).toArray) (vs := (stL st).toArray) hI rfl rfl rfl rfl rfl rfl ?_
  clear hI; rintro b5 w - - hI
  refine WL_nil ?_
  replace hI := (hI.pull 9 rfl).pull 10 rfl
  replace hI : Inv S w0 w [Row 0 39 2 L.SA s.sts.length L.sc (s.sts.flatMap stL), Row 0 37 7 L.EA s.evs.length L.ec (s.evs.flatMap evL), B b5 39 (stL st).toArray, B b4 37 (evL e).toArray, B L.sb 59 (stoC L s), B L.nb 63 (flatB (s.n * 8) (ndF s)), B L.cb 68 (flatB s.k (clF L s)), Many s.k (cntE L s), Row 0 73 9 L.MA s.mails.length L.mc (s.mails.flatMap mailL), Row 0 66 1 L.LA L.ln L.lc L.lv, RowsE L.lv L.LD] := hI
  refine W_draw (by kernel_rfl) ?_
  refine WA_T (fun _ => True) [] ?_
  refine WT_take 1 rfl rfl (by kernel_rfl) trivial rfl (fun W _ => (by first | exact rMoveP rfl rfl | exact rMove rfl)) ?_
  refine WT_true ?_
  refine WA_inv (T := [18]) hI.d0.d0.drew ?_
  intro Sx hSx hXS
  replace hI := hI.drew
  refine WT_take 0 rfl rfl (by kernel_rfl) (hXS _ hI.d0.d0) rfl (fun W hW => have hI := hSx W hW; (by first | exact rMoveP rfl rfl | exact rMove rfl)) ?_
  refine WT_take 2 rfl rfl (by kernel_rfl) (hXS _ hI.d0.d0) rfl (fun W hW => have hI := hSx W hW; (by first | exact rMoveP rfl rfl | exact rMove rfl)) ?_
  refine WT_take 3 rfl rfl (by kernel_rfl) (hXS _ hI.d0.d0) rfl (fun W hW => have hI := hSx W hW; (rNilChk rfl rfl)) ?_
  refine WT_take 4 rfl rfl (by kernel_rfl) (hXS _ hI.d0.d0) rfl (fun W hW => have hI := hSx W hW; (by first | exact rFldN (off := 10) rfl (by kernel_rfl) rfl | exact rFld (off := 10) rfl (by kernel_rfl) rfl)) ?_
  refine WT_take 5 rfl rfl (by kernel_rfl) (hXS _ hI.d0.d0) rfl (fun W hW => have hI := hSx W hW; (by first | exact rLd (v := .slice _ _ _) rfl (by kernel_rfl) rfl (by first | exact hI.c0 rfl | exact hI.c1 rfl | exact hI.c2 rfl) | exact rLd rfl (by kernel_rfl) rfl (by first | exact hI.c0 rfl | exact hI.c1 rfl | exact hI.c2 rfl))) ?_
  refine WT_take 6 rfl rfl (by kernel_rfl) (hXS _ hI.d0.d0) rfl (fun W hW => have hI := hSx W hW; (rLdA (n := 7) (l := evL e) rfl (by kernel_rfl) (by kernel_rfl) rfl rfl (fun k u hk => hI.cell 1 rfl (by rw [Nat.zero_add, List.getElem?_toArray]; exact hk)))) ?_
  refine WT_take 9 rfl rfl (by kernel_rfl) (hXS _ hI.d0.d0) rfl (fun W hW => have hI := hSx W hW; (by first | exact rMoveP rfl rfl | exact rMove rfl)) ?_
  refine WT_take 10 rfl rfl (by kernel_rfl) (hXS _ hI.d0.d0) rfl (fun W hW => have hI := hSx W hW; (rNilChk rfl rfl)) ?_
  refine WT_take 11 rfl rfl (by kernel_rfl) (hXS _ hI.d0.d0) rfl (fun W hW => have hI := hSx W hW; (by first | exact rFldN (off := 11) rfl (by kernel_rfl) rfl | exact rFld (off := 11) rfl (by kernel_rfl) rfl)) ?_
  refine WT_take 12 rfl rfl (by kernel_rfl) (hXS _ hI.d0.d0) rfl (fun W hW => have hI := hSx W hW; (by first | exact rLd (v := .slice _ _ _) rfl (by kernel_rfl) rfl (by first | exact hI.c0 rfl | exact hI.c1 rfl | exact hI.c2 rfl) | exact rLd rfl (by kernel_rfl) rfl (by first | exact hI.c0 rfl | exact hI.c1 rfl | exact hI.c2 rfl))) ?_
  refine WT_take 13 rfl rfl (by kernel_rfl) (hXS _ hI.d0.d0) rfl (fun W hW => have hI := hSx W hW; (rLdA (n := 2) (l := stL st) rfl (by kernel_rfl) (by kernel_rfl) rfl rfl (fun k u hk => hI.cell 0 rfl (by rw [Nat.zero_add, List.getElem?_toArray]; exact hk)))) ?_
  refine WT_two 7 14 rfl rfl (by kernel_rfl) rfl rfl ?_ ?_
  · refine WL_lit (vs := evL e) (qs := [(0, .agg (evL e).toArray)]) [.int .i64 0, .int .i64 0, .int .i64 0, .int .i64 0, .int .i64 0, .int .i64 0, .int .i64 0] [0] hI rfl rfl rfl rfl rfl rfl Try.underlying32 (fun _ => by kernel_rfl) ?_
    clear hI; rintro b13 w - - hI
    refine WL_nil ⟨hXS _ hI.d0.d0.d0, ?_⟩
    refine WT_two 8 14 rfl rfl (by kernel_rfl) rfl rfl ?_ ?_
    · first | refine WL_app2 (z := .agg #[.int .i64 0, .int .i64 0, .int .i64 0, .int .i64 0, .int .i64 0, .int .i64 0, .int .i64 0]) (by_ := 56) (news := evL e) hI rfl rfl rfl rfl rfl rfl Try.underlying32 (by kernel_rfl) rfl (by omega) (by rfl) (by first | exact hI.lit0 | exact hI.d0.lit0) rfl (by omega) (by omega) (Nat.zero_le _) ?_ | refine WL_app3 (z := .agg #[.int .i64 0, .int .i64 0, .int .i64 0, .int .i64 0, .int .i64 0, .int .i64 0, .int .i64 0]) (by_ := 56) (news := evL e) hI rfl rfl rfl rfl rfl rfl Try.underlying32 (by kernel_rfl) rfl (by omega) (by rfl) (by first | exact hI.lit0 | exact hI.d0.lit0) rfl (by omega) (by omega) (Nat.zero_le _) ?_
      clear hI; rintro A14 c14 w _ hc14 hI
      refine WL_nil ⟨hXS _ hI.d0.d0.d0, ?_⟩
      refine WT_one 14 rfl (by kernel_rfl) rfl ?_
      refine WL_lit (vs := stL st) (qs := [(0, .agg (stL st).toArray)]) [.int .i64 0, .int .i64 0] [0] hI rfl rfl rfl rfl rfl rfl Try.underlying34 (fun _ => by kernel_rfl) ?_
      clear hI; rintro b20 w - - hI
      refine WL_nil ⟨hXS _ hI.d0.d0.d0.d0, ?_⟩
      refine WT_one 15 rfl (by kernel_rfl) rfl ?_
      refine WL_app2 (z := .agg #[.int .i64 0, .int .i64 0]) (by_ := 16) (news := stL st) hI rfl rfl rfl rfl rfl rfl Try.underlying34 (by kernel_rfl) rfl (by omega) (by rfl) (by first | exact hI.lit0 | exact hI.d0.lit0) rfl (by omega) (by omega) (Nat.zero_le _) ?_
      clear hI; rintro A21 c21 w _ hc21 hI
      refine WL_nil ⟨hXS _ hI.d0.d0.d0.d0, ?_⟩
      refine WT_take 16 rfl rfl (by kernel_rfl) (hXS _ hI.d0.d0.d0.d0) rfl (fun W hW => have hI := hSx W hW; (rNilChk rfl rfl)) ?_
      refine WT_take 17 rfl rfl (by kernel_rfl) (hXS _ hI.d0.d0.d0.d0) rfl (fun W hW => have hI := hSx W hW; (by first | exact rFldN (off := 10) rfl (by kernel_rfl) rfl | exact rFld (off := 10) rfl (by kernel_rfl) rfl)) ?_
      refine WT_A (by kernel_rfl) ?_
      clear hXS hSx
      refine WA_one 18 rfl (by kernel_rfl) ?_
      refine WL_st 6 rfl (u := .slice A14 (s.evs.length + 1) c14) (j := 10) hI rfl rfl rfl rfl rfl rfl (by kernel_rfl) rfl rfl rfl ?_
      clear hI; intro w hI
      refine WL_nil ?_
      refine WA_one 19 rfl (by kernel_rfl) ?_
      refine WL_val rfl rfl rfl (rNilChk rfl rfl) ?_
      refine WL_nil ?_
      refine WA_one 20 rfl (by kernel_rfl) ?_
      refine WL_val rfl rfl rfl (by first | exact rFldN (off := 11) rfl (by kernel_rfl) rfl | exact rFld (off := 11) rfl (by kernel_rfl) rfl) ?_
      refine WL_nil ?_
      refine WA_one 21 rfl (by kernel_rfl) ?_
      refine WL_st 6 rfl (u := .slice A21 (s.sts.length + 1) c21) (j := 11) hI rfl rfl rfl rfl rfl rfl (by kernel_rfl) rfl rfl rfl ?_
      clear hI; intro w hI
      refine WL_nil ?_
      refine WA_end (by kernel_rfl) ?_
      refine ret0 (.inl rfl) rfl ⟨rfl, A14, c14, A21, c21, ?_⟩
      have e1 : (s.evs ++ [e]).length = s.evs.length + 1 := by simp
      have e2 : (s.sts ++ [st]).length = s.sts.length + 1 := by simp
      rw [← evs_push, ← sts_push, ← e1, ← e2] at hI
      exact (((hI.d0.d0.erase 2).erase 2).back 8).back 7
    · refine WL_lit (vs := stL st) (qs := [(0, .agg (stL st).toArray)]) [.int .i64 0, .int .i64 0] [0] hI rfl rfl rfl rfl rfl rfl Try.underlying34 (fun _ => by kernel_rfl) ?_
      clear hI; rintro b20 w - - hI
      refine WL_nil ⟨hXS _ hI.d0.d0.d0.d0, ?_⟩
      refine WT_one 8 rfl (by kernel_rfl) rfl ?_
      first | refine WL_app2 (z := .agg #[.int .i64 0, .int .i64 0, .int .i64 0, .int .i64 0, .int .i64 0, .int .i64 0, .int .i64 0]) (by_ := 56) (news := evL e) hI rfl rfl rfl rfl rfl rfl Try.underlying32 (by kernel_rfl) rfl (by omega) (by rfl) (by first | exact hI.lit0 | exact hI.d0.lit0) rfl (by omega) (by omega) (Nat.zero_le _) ?_ | refine WL_app3 (z := .agg #[.int .i64 0, .int .i64 0, .int .i64 0, .int .i64 0, .int .i64 0, .int .i64 0, .int .i64 0]) (by_ := 56) (news := evL e) hI rfl rfl rfl rfl rfl rfl Try.underlying32 (by kernel_rfl) rfl (by omega) (by rfl) (by first | exact hI.lit0 | exact hI.d0.lit0) rfl (by omega) (by omega) (Nat.zero_le _) ?_
      clear hI; rintro A14 c14 w _ hc14 hI
      refine WL_nil ⟨hXS _ hI.d0.d0.d0.d0, ?_⟩
      refine WT_one 15 rfl (by kernel_rfl) rfl ?_
      refine WL_app2 (z := .agg #[.int .i64 0, .int .i64 0]) (by_ := 16) (news := stL st) hI rfl rfl rfl rfl rfl rfl Try.underlying34 (by kernel_rfl) rfl (by omega) (by rfl) (by first | exact hI.lit0 | exact hI.d0.lit0) rfl (by omega) (by omega) (Nat.zero_le _) ?_
      clear hI; rintro A21 c21 w _ hc21 hI
      refine WL_nil ⟨hXS _ hI.d0.d0.d0.d0, ?_⟩
      refine WT_take 16 rfl rfl (by kernel_rfl) (hXS _ hI.d0.d0.d0.d0) rfl (fun W hW => have hI := hSx W hW; (rNilChk rfl rfl)) ?_
      refine WT_take 17 rfl rfl (by kernel_rfl) (hXS _ hI.d0.d0.d0.d0) rfl (fun W hW => have hI := hSx W hW; (by first | exact rFldN (off := 10) rfl (by kernel_rfl) rfl | exact rFld (off := 10) rfl (by kernel_rfl) rfl)) ?_
      refine WT_A (by kernel_rfl) ?_
      clear hXS hSx
      refine WA_one 18 rfl (by kernel_rfl) ?_
      refine WL_st 6 rfl (u := .slice A14 (s.evs.length + 1) c14) (j := 10) hI rfl rfl rfl rfl rfl rfl (by kernel_rfl) rfl rfl rfl ?_
      clear hI; intro w hI
      refine WL_nil ?_
      refine WA_one 19 rfl (by kernel_rfl) ?_
      refine WL_val rfl rfl rfl (rNilChk rfl rfl) ?_
      refine WL_nil ?_
      refine WA_one 20 rfl (by kernel_rfl) ?_
      refine WL_val rfl rfl rfl (by first | exact rFldN (off := 11) rfl (by kernel_rfl) rfl | exact rFld (off := 11) rfl (by kernel_rfl) rfl) ?_
      refine WL_nil ?_
      refine WA_one 21 rfl (by kernel_rfl) ?_
      refine WL_st 6 rfl (u := .slice A21 (s.sts.length + 1) c21) (j := 11) hI rfl rfl rfl rfl rfl rfl (by kernel_rfl) rfl rfl rfl ?_
      clear hI; intro w hI
      refine WL_nil ?_
      refine WA_end (by kernel_rfl) ?_
      refine ret0 (.inl rfl) rfl ⟨rfl, A14, c14, A21, c21, ?_⟩
      have e1 : (s.evs ++ [e]).length = s.evs.length + 1 := by simp
      have e2 : (s.sts ++ [st]).length = s.sts.length + 1 := by simp
      rw [← evs_push, ← sts_push, ← e1, ← e2] at hI
      exact (((hI.d0.d0.erase 2).erase 2).back 8).back 7
  · refine WL_lit (vs := stL st) (qs := [(0, .agg (stL st).toArray)]) [.int .i64 0, .int .i64 0] [0] hI rfl rfl rfl rfl rfl rfl Try.underlying34 (fun _ => by kernel_rfl) ?_
    clear hI; rintro b20 w - - hI
    refine WL_nil ⟨hXS _ hI.d0.d0.d0, ?_⟩
    refine WT_one 7 rfl (by kernel_rfl) rfl ?_
    refine WL_lit (vs := evL e) (qs := [(0, .agg (evL e).toArray)]) [.int .i64 0, .int .i64 0, .int .i64 0, .int .i64 0, .int .i64 0, .int .i64 0, .int .i64 0] [0] hI rfl rfl rfl rfl rfl rfl Try.underlying32 (fun _ => by kernel_rfl) ?_
    clear hI; rintro b13 w - - hI
    refine WL_nil ⟨hXS _ hI.d0.d0.d0.d0, ?_⟩
    refine WT_one 8 rfl (by kernel_rfl) rfl ?_
    first | refine WL_app2 (z := .agg #[.int .i64 0, .int .i64 0, .int .i64 0, .int .i64 0, .int .i64 0, .int .i64 0, .int .i64 0]) (by_ := 56) (news := evL e) hI rfl rfl rfl rfl rfl rfl Try.underlying32 (by kernel_rfl) rfl (by omega) (by rfl) (by first | exact hI.lit0 | exact hI.d0.lit0) rfl (by omega) (by omega) (Nat.zero_le _) ?_ | refine WL_app3 (z := .agg #[.int .i64 0, .int .i64 0, .int .i64 0, .int .i64 0, .int .i64 0, .int .i64 0, .int .i64 0]) (by_ := 56) (news := evL e) hI rfl rfl rfl rfl rfl rfl Try.underlying32 (by kernel_rfl) rfl (by omega) (by rfl) (by first | exact hI.lit0 | exact hI.d0.lit0) rfl (by omega) (by omega) (Nat.zero_le _) ?_
    clear hI; rintro A14 c14 w _ hc14 hI
    refine WL_nil ⟨hXS _ hI.d0.d0.d0.d0, ?_⟩
    refine WT_one 15 rfl (by kernel_rfl) rfl ?_
    refine WL_app2 (z := .agg #[.int .i64 0, .int .i64 0]) (by_ := 16) (news := stL st) hI rfl rfl rfl rfl rfl rfl Try.underlying34 (by kernel_rfl) rfl (by omega) (by rfl) (by first | exact hI.lit0 | exact hI.d0.lit0) rfl (by omega) (by omega) (Nat.zero_le _) ?_
    clear hI; rintro A21 c21 w _ hc21 hI
    refine WL_nil ⟨hXS _ hI.d0.d0.d0.d0, ?_⟩
    refine WT_take 16 rfl rfl (by kernel_rfl) (hXS _ hI.d0.d0.d0.d0) rfl (fun W hW => have hI := hSx W hW; (rNilChk rfl rfl)) ?_
    refine WT_take 17 rfl rfl (by kernel_rfl) (hXS _ hI.d0.d0.d0.d0) rfl (fun W hW => have hI := hSx W hW; (by first | exact rFldN (off := 10) rfl (by kernel_rfl) rfl | exact rFld (off := 10) rfl (by kernel_rfl) rfl)) ?_
    refine WT_A (by kernel_rfl) ?_
    clear hXS hSx
    refine WA_one 18 rfl (by kernel_rfl) ?_
    refine WL_st 6 rfl (u := .slice A14 (s.evs.length + 1) c14) (j := 10) hI rfl rfl rfl rfl rfl rfl (by kernel_rfl) rfl rfl rfl ?_
    clear hI; intro w hI
    refine WL_nil ?_
    refine WA_one 19 rfl (by kernel_rfl) ?_
    refine WL_val rfl rfl rfl (rNilChk rfl rfl) ?_
    refine WL_nil ?_
    refine WA_one 20 rfl (by kernel_rfl) ?_
    refine WL_val rfl rfl rfl (by first | exact rFldN (off := 11) rfl (by kernel_rfl) rfl | exact rFld (off := 11) rfl (by kernel_rfl) rfl) ?_
    refine WL_nil ?_
    refine WA_one 21 rfl (by kernel_rfl) ?_
    refine WL_st 6 rfl (u := .slice A21 (s.sts.length + 1) c21) (j := 11) hI rfl rfl rfl rfl rfl rfl (by kernel_rfl) rfl rfl rfl ?_
    clear hI; intro w hI
    refine WL_nil ?_
    refine WA_end (by kernel_rfl) ?_
    refine ret0 (.inl rfl) rfl ⟨rfl, A14, c14, A21, c21, ?_⟩
    have e1 : (s.evs ++ [e]).length = s.evs.length + 1 := by simp
    have e2 : (s.sts ++ [st]).length = s.sts.length + 1 := by simp
    rw [← evs_push, ← sts_push, ← e1, ← e2] at hI
    exact (((hI.d0.d0.erase 2).erase 2).back 8).back 7
end Go.Proofs.Ytglioflpblpmpaa
