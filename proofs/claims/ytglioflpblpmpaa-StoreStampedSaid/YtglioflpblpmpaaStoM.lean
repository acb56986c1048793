/- net: links; Cut. -/
import Derived.Test.YtglioflpblpmpaaStoL
namespace Go.Proofs.Ytglioflpblpmpaa
open Go.RowKit
set_option linter.unusedVariables false
set_option linter.unusedSimpArgs false
theorem mid_get {l r : List Value} {v : Value} {a : Nat} (h : l.length = a) : (l ++ v :: r).toArray[a]? = some v := by
  subst h; simp
theorem mid_set {l r : List Value} {v u : Value} {a : Nat} (h : l.length = a) : (l ++ v :: r).toArray.setIfInBounds a u = (l ++ u :: r).toArray := by
  subst h; simp
theorem mid_blt {l r : List Value} {v : Value} {a : Nat} (h : l.length = a) : Nat.blt a (l ++ v :: r).toArray.size = true := by
  subst h; rw [Nat.blt_eq]; simp
theorem rep_nil_succ {n a : Nat} (h : a < n) : List.replicate (n - a) (Value.slice none 0 0) = .slice none 0 0 :: List.replicate (n - (a + 1)) (.slice none 0 0) := by
  rw [show n - a = (n - (a + 1)) + 1 by omega, List.replicate_succ]
theorem flat_rep (n : Nat) (v : Value) : flatB n (fun _ => [v]) = (([] : List Value) ++ List.replicate (n - 0) v).toArray := by
  unfold flatB
  congr 1
  rw [List.nil_append, Nat.sub_zero]
  induction n with
  | zero => rfl
  | succ n ih => rw [List.range_succ, List.flatMap_append, ih, List.replicate_succ']; rfl
set_option maxHeartbeats 4000000 in
theorem links_ok (F n : Nat) (fn : Func) (cap : List Value) (w0 : World) (hf : Try.prog.funcs[F]? = some fn) (hfn : (fn.name == "runtime.NumGoroutine") = false) (hfb : fn.body.isNone = false) (hn : 1 ≤ n ∧ n ≤ 7) (hC : CanF F cap w0) :
    Calls Try.prog 46 #[.int .i64 (n : Int), .func (.func F) #[] cap.toArray] w0 fun en w' => ∃ g vals D, en = .returned (.tuple #[.slice (some ⟨g, 0, none⟩) n n, .nilIface]) ∧ vals.length = n ∧ Inv (fun _ => False) w0 w' [Row 0 66 1 (some ⟨g, 0, none⟩) n n vals, RowsE vals D] := by
  have hI := Inv.start (fun _ => False) w0
  refine calls_of_W (N := Try.f46.ntmps) Try.func46 rfl rfl rfl ?_
  refine W_seq ?_
  refine W_region ?_
  refine WL_val rfl rfl rfl (by first | exact rAsgnS rfl rfl | exact rAsgn rfl) ?_
  refine WL_val rfl rfl rfl (by first | exact rAsgnN rfl rfl | exact rAsgnE rfl rfl | exact rAsgn rfl) ?_
  refine WL_nil ?_
  refine W_seq ?_
  refine W_seq ?_
  refine W_region ?_
  refine WL_val rfl rfl rfl (by first | exact rMoveI rfl rfl | exact rMove rfl) ?_
  refine WL_val rfl rfl rfl (by first | exact rLssT rfl rfl rfl (by omega) | exact rLssF rfl rfl rfl (by omega) | exact rLss rfl rfl rfl) ?_
  refine WL_val rfl rfl rfl (by first | exact rMoveB rfl rfl | exact rMove rfl) ?_
  first | refine WL_val rfl rfl rfl (by first | exact rMoveI rfl rfl | exact rMove rfl) ?_ | refine WL_skip rfl rfl rfl ?_
  first | refine WL_val rfl rfl rfl (by first | exact rGtrT rfl rfl rfl (by omega) | exact rGtrF rfl rfl rfl (by omega) | exact rGtr rfl rfl rfl) ?_ | refine WL_skip rfl rfl rfl ?_
  refine WL_val rfl rfl rfl (by first | exact rPickTB rfl rfl rfl | exact rPickFB rfl rfl rfl | exact rPickB rfl rfl rfl rfl) ?_
  refine WL_nil ?_
  refine W_cond false rfl ?_
  refine W_skip ?_
  refine W_seq ?_
  refine W_region ?_
  refine WL_val rfl rfl rfl (by first | exact rMoveI rfl rfl | exact rMove rfl) ?_
  refine WL_mkZ (n := n) (m := 1) (by_ := 24) (z := .slice none 0 0) [.slice none 0 0] hI rfl rfl rfl rfl rfl rfl Try.underlying55 (by kernel_rfl) rfl rfl (by omega) (by omega) (by omega) ?_
  clear hI; rintro g w - - hI
  refine WL_val rfl rfl rfl (by first | exact rAsgnS rfl rfl | exact rAsgn rfl) ?_
  refine WL_nil ?_
  have hst : flatB n (fun _ => [Value.slice none 0 0]) = (([] : List Value) ++ List.replicate (n - 0) (Value.slice none 0 0)).toArray := flat_rep n _
  rw [hst] at hI
  replace hI := (hI.fresh (Pure.refl _) (RowsE.ok (w := w) (vals := []) (D := fun _ => False) (fun _ h => h.elim) (fun v hv => by simp at hv)) (fun k hk => hk.elim)).sw0
  refine W_seq_cut (fun ρ w => ∃ (vals : List Value) (D : Nat → Prop), vals.length = n ∧ Has ρ [(6, .slice (some ⟨g, 0, none⟩) n n)] ∧ Inv (fun _ => False) w0 w [B g 66 (vals ++ List.replicate (n - n) (Value.slice none 0 0)).toArray, RowsE vals D]) ?_ ?_
  · refine W_seq ?_
    refine W_region ?_
    refine WL_val rfl rfl rfl (by first | exact rMoveS rfl rfl | exact rMove rfl) ?_
    refine WL_val rfl rfl rfl (rLen rfl Try.underlying55 rfl) ?_
    refine WL_val rfl rfl rfl (by first | exact rMoveI rfl rfl | exact rMove rfl) ?_
    refine WL_nil ?_
    refine W_block ?_
    refine W_loop (fun ρ w => ∃ (a : Nat) (vals : List Value) (D : Nat → Prop), a ≤ n ∧ vals.length = a ∧ Has ρ [(20, .int .i64 (a : Int)), (19, .int .i64 (n : Int)), (0, .int .i64 (n : Int)), (1, .func (.func F) #[] cap.toArray), (6, .slice (some ⟨g, 0, none⟩) n n)] ∧ Inv (fun _ => False) w0 w [B g 66 (vals ++ List.replicate (n - a) (Value.slice none 0 0)).toArray, RowsE vals D]) (fun ρ _ => n - cnt (ρ 20))
      ⟨0, [], fun _ => False, by omega, rfl, ⟨rfl, rfl, rfl, rfl, rfl, trivial⟩, hI⟩ ?_
    clear hI
    rintro ρ w ⟨a, vals, D, ha, hvl, hH, hI⟩
    obtain ⟨σ, rfl⟩ := hH.open
    by_cases han : a < n
    rotate_left
    · obtain rfl : a = n := by omega
      refine W_seq ?_
      refine W_region ?_
      refine WL_val rfl rfl rfl (by first | exact rLssT rfl rfl rfl (by omega) | exact rLssF rfl rfl rfl (by omega) | exact rLss rfl rfl rfl) ?_
      refine WL_nil ?_
      refine W_seq ?_
      refine W_cond false rfl ?_
      refine W_exit ?_
      exact ⟨vals, D, hvl, ⟨rfl, trivial⟩, hI⟩
    refine W_seq ?_
    refine W_region ?_
    refine WL_val rfl rfl rfl (by first | exact rLssT rfl rfl rfl (by omega) | exact rLssF rfl rfl rfl (by omega) | exact rLss rfl rfl rfl) ?_
    refine WL_nil ?_
    refine W_seq ?_
    refine W_cond true rfl ?_
    refine W_skip ?_
    refine W_seq ?_
    refine W_block ?_
    refine W_seq ?_
    refine W_region ?_
    refine WL_val rfl rfl rfl (by first | exact rMoveI rfl rfl | exact rMove rfl) ?_
    refine WL_val rfl rfl rfl (by first | exact rAsgnI rfl rfl | exact rAsgn rfl) ?_
    refine WL_nil ?_
    refine W_seq ?_
    refine W_region ?_
    refine WL_val rfl rfl rfl (by first | exact rMoveI rfl rfl | exact rMove rfl) ?_
    refine WL_val rfl rfl rfl (by first | exact rMoveI rfl rfl | exact rMove rfl) ?_
    refine WL_nil ?_
    rw [rep_nil_succ han] at hI
    replace hI := hI.fresh (Pure.refl _) (Row.nil _ 0 4 1) (fun k hk => by simp [Row] at hk)
    refine W_block ?_
    refine W_loop (fun ρ w => ∃ (b : Nat) (l : List Bool) (A : Option Addr) (c : Nat), b ≤ n ∧ l.length = b ∧ Has ρ [(24, .int .i64 (b : Int)), (23, .int .i64 (n : Int)), (7, .int .i64 (a : Int)), (20, .int .i64 (a : Int)), (19, .int .i64 (n : Int)), (0, .int .i64 (n : Int)), (1, .func (.func F) #[] cap.toArray), (6, .slice (some ⟨g, 0, none⟩) n n)] ∧
      Inv (fun _ => False) w0 w [Row 0 4 1 A b c (boolsV l), B g 66 (vals ++ Value.slice A b c :: List.replicate (n - (a + 1)) (Value.slice none 0 0)).toArray, RowsE vals D]) (fun ρ _ => n - cnt (ρ 24))
      ⟨0, [], none, 0, by omega, rfl, ⟨rfl, rfl, rfl, rfl, rfl, rfl, rfl, rfl, trivial⟩, hI⟩ ?_
    clear hI
    rintro ρ w ⟨b, l, A, c, hb, hll, hH, hI⟩
    obtain ⟨σ, rfl⟩ := hH.open
    by_cases hbn : b < n
    rotate_left
    · obtain rfl : b = n := by omega
      refine W_seq ?_
      refine W_region ?_
      refine WL_val rfl rfl rfl (by first | exact rLssT rfl rfl rfl (by omega) | exact rLssF rfl rfl rfl (by omega) | exact rLss rfl rfl rfl) ?_
      refine WL_nil ?_
      refine W_seq ?_
      refine W_cond false rfl ?_
      refine W_exit ?_
      refine W_region ?_
      refine WL_val rfl rfl rfl (by first | exact rInc rfl rfl rfl (by omega) | exact rAdd rfl rfl rfl (by omega) | exact rAddW rfl rfl rfl) ?_
      refine WL_val rfl rfl rfl (by first | exact rMoveI rfl rfl | exact rMove rfl) ?_
      refine WL_nil ?_
      have h2 := (hI.sw1.rowsIn hll.symm (by omega)).sw0
      have e1 : (vals ++ Value.slice A b c :: List.replicate (b - (a + 1)) (.slice none 0 0)) = (vals ++ [.slice A b c]) ++ List.replicate (b - (a + 1)) (.slice none 0 0) := by simp
      rw [e1] at h2
      refine ⟨⟨a + 1, vals ++ [.slice A b c], _, by omega, by simp [hvl], ⟨rfl, rfl, rfl, rfl, rfl, trivial⟩, h2⟩, by show b - ((a + 1 : Nat) : Int).toNat < b - (a : Int).toNat; omega⟩
    have hga : ∀ w, Inv (fun _ => False) w0 w [B g 66 (vals ++ Value.slice A b c :: List.replicate (n - (a + 1)) (Value.slice none 0 0)).toArray, RowsE vals D] → w.cell? ⟨g, a, none⟩ = some (.slice A b c) := fun w hI => hI.cell 0 rfl (mid_get hvl)
    refine W_seq ?_
    refine W_region ?_
    refine WL_val rfl rfl rfl (by first | exact rLssT rfl rfl rfl (by omega) | exact rLssF rfl rfl rfl (by omega) | exact rLss rfl rfl rfl) ?_
    refine WL_nil ?_
    refine W_seq ?_
    refine W_cond true rfl ?_
    refine W_skip ?_
    refine W_seq_cut (fun ρ w => ∃ (r : Bool) (A' : Option Addr) (c' : Nat), Has ρ [(24, .int .i64 (b : Int)), (23, .int .i64 (n : Int)), (7, .int .i64 (a : Int)), (20, .int .i64 (a : Int)), (19, .int .i64 (n : Int)), (0, .int .i64 (n : Int)), (1, .func (.func F) #[] cap.toArray), (6, .slice (some ⟨g, 0, none⟩) n n)] ∧
      Inv (fun _ => False) w0 w [Row 0 4 1 A' (b + 1) c' (boolsV (l ++ [r])), B g 66 (vals ++ Value.slice A' (b + 1) c' :: List.replicate (n - (a + 1)) (Value.slice none 0 0)).toArray, RowsE vals D]) ?_ ?_
    · refine W_block ?_
      refine W_seq ?_
      refine W_region ?_
      refine WL_val rfl rfl rfl (by first | exact rMoveI rfl rfl | exact rMove rfl) ?_
      refine WL_val rfl rfl rfl (by first | exact rAsgnI rfl rfl | exact rAsgn rfl) ?_
      refine WL_nil ?_
      have hbools : ∀ r : Bool, boolsV l ++ [.bool r] = boolsV (l ++ [r]) := fun r => by simp [boolsV]
      by_cases hab : a = b
      · refine W_draw (by kernel_rfl) ?_
        refine WA_inv (T := [18]) hI.d0.drew ?_
        intro Sx hSx hXS
        replace hI := hI.drew
        refine WT_take 0 rfl rfl (by kernel_rfl) (hXS _ hI.d0) rfl (fun W hW => have hI := hSx W hW; (by first | exact rMoveS rfl rfl | exact rMove rfl)) ?_
        refine WT_take 1 rfl rfl (by kernel_rfl) (hXS _ hI.d0) rfl (fun W hW => have hI := hSx W hW; (by first | exact rMoveI rfl rfl | exact rMove rfl)) ?_
        refine WT_take 2 rfl rfl (by kernel_rfl) (hXS _ hI.d0) rfl (fun W hW => have hI := hSx W hW; (by first | exact rMoveS rfl rfl | exact rMove rfl)) ?_
        refine WT_take 3 rfl rfl (by kernel_rfl) (hXS _ hI.d0) rfl (fun W hW => have hI := hSx W hW; (by first | exact rMoveI rfl rfl | exact rMove rfl)) ?_
        refine WT_take 4 rfl rfl (by kernel_rfl) (hXS _ hI.d0) rfl (fun W hW => have hI := hSx W hW; (by first | exact rIdx0 rfl Try.underlying55 (by kernel_rfl) rfl rfl rfl (by omega) | exact rIdx1 rfl Try.underlying55 (by kernel_rfl) rfl rfl (by omega))) ?_
        refine WT_take 5 rfl rfl (by kernel_rfl) (hXS _ hI.d0) rfl (fun W hW => have hI := hSx W hW; (by first | exact rLd (v := .slice _ _ _) rfl (by kernel_rfl) rfl (by first | exact (hga _ hI)) | exact rLd rfl (by kernel_rfl) rfl (by first | exact (hga _ hI)))) ?_
        refine WT_take 6 rfl rfl (by kernel_rfl) (hXS _ hI.d0) rfl (fun W hW => have hI := hSx W hW; (by first | exact rMoveI rfl rfl | exact rMove rfl)) ?_
        refine WT_take 7 rfl rfl (by kernel_rfl) (hXS _ hI.d0) rfl (fun W hW => have hI := hSx W hW; (by first | exact rMoveI rfl rfl | exact rMove rfl)) ?_
        refine WT_take 8 rfl rfl (by kernel_rfl) (hXS _ hI.d0) rfl (fun W hW => have hI := hSx W hW; (by first | exact rEqlT rfl rfl rfl (by omega) | exact rEqlF rfl rfl rfl (by omega) | exact rEql rfl rfl rfl)) ?_
        refine WT_take 9 rfl rfl (by kernel_rfl) (hXS _ hI.d0) rfl (fun W hW => have hI := hSx W hW; (by first | exact rMoveB rfl rfl | exact rMove rfl)) ?_
        refine WT_skip 10 rfl rfl (by kernel_rfl) (hXS _ hI.d0) rfl ?_
        refine WT_skip 11 rfl rfl (by kernel_rfl) (hXS _ hI.d0) rfl ?_
        refine WT_skip 12 rfl rfl (by kernel_rfl) (hXS _ hI.d0) rfl ?_
        refine WT_skip 13 rfl rfl (by kernel_rfl) (hXS _ hI.d0) rfl ?_
        refine WT_take 14 rfl rfl (by kernel_rfl) (hXS _ hI.d0) rfl (fun W hW => have hI := hSx W hW; (by first | exact rPickTB rfl rfl rfl | exact rPickFB rfl rfl rfl | exact rPickB rfl rfl rfl rfl)) ?_
        refine WT_one 15 rfl (by kernel_rfl) rfl ?_
        refine WL_lit (vs := [_]) (qs := [(0, .bool _)]) [.bool false] [0] hI rfl rfl rfl rfl rfl rfl Try.underlying66 (fun _ => by kernel_rfl) ?_
        clear hI; rintro b42 w - - hI
        refine WL_nil ⟨hXS _ hI.d0.d0, ?_⟩
        refine WT_one 16 rfl (by kernel_rfl) rfl ?_
        first | refine WL_app1 (z := .bool false) (by_ := 1) hI rfl rfl rfl rfl rfl rfl Try.underlying66 (by kernel_rfl) rfl (by omega) (by rfl) hI.lit0 (by first | rfl | simp [i64s, Value.oneCell']) (by omega) (by omega) (by first | exact Nat.zero_le _ | (have := hI.chg.size; omega)) ?_ | refine WL_app2 (z := .bool false) (by_ := 1) hI rfl rfl rfl rfl rfl rfl Try.underlying66 (by kernel_rfl) rfl (by omega) (by rfl) hI.lit0 (by first | rfl | simp [i64s, Value.oneCell']) (by omega) (by omega) (by first | exact Nat.zero_le _ | (have := hI.chg.size; omega)) ?_ | refine WL_app3 (z := .bool false) (by_ := 1) hI rfl rfl rfl rfl rfl rfl Try.underlying66 (by kernel_rfl) rfl (by omega) (by rfl) hI.lit0 (by first | rfl | simp [i64s, Value.oneCell']) (by omega) (by omega) (by first | exact Nat.zero_le _ | (have := hI.chg.size; omega)) ?_ | refine WL_app4 (z := .bool false) (by_ := 1) hI rfl rfl rfl rfl rfl rfl Try.underlying66 (by kernel_rfl) rfl (by omega) (by rfl) hI.lit0 (by first | rfl | simp [i64s, Value.oneCell']) (by omega) (by omega) (by first | exact Nat.zero_le _ | (have := hI.chg.size; omega)) ?_ | refine WL_app5 (z := .bool false) (by_ := 1) hI rfl rfl rfl rfl rfl rfl Try.underlying66 (by kernel_rfl) rfl (by omega) (by rfl) hI.lit0 (by first | rfl | simp [i64s, Value.oneCell']) (by omega) (by omega) (by first | exact Nat.zero_le _ | (have := hI.chg.size; omega)) ?_
        clear hI; rintro A43 c43 w hA43 hc43 hI
        replace hI := hI.d0
        refine WL_nil ⟨hXS _ hI.d0, ?_⟩
        refine WT_take 17 rfl rfl (by kernel_rfl) (hXS _ hI.d0) rfl (fun W hW => have hI := hSx W hW; (by first | exact rIdx0 rfl Try.underlying55 (by kernel_rfl) rfl rfl rfl (by omega) | exact rIdx1 rfl Try.underlying55 (by kernel_rfl) rfl rfl (by omega))) ?_
        refine WT_A (by kernel_rfl) ?_
        clear hXS hSx
        refine WA_one 18 rfl (by kernel_rfl) ?_
        refine WL_st1 (u := .slice A43 (b + 1) c43) (j := a) hI rfl rfl rfl rfl rfl rfl (by kernel_rfl) rfl (mid_blt hvl) (mid_set hvl) ?_
        clear hI; intro w hI
        refine WL_nil ?_
        refine WA_end (by kernel_rfl) ?_
        have e := hbools true
        exact ⟨true, A43, c43, ⟨rfl, rfl, rfl, rfl, rfl, rfl, rfl, rfl, trivial⟩, by rw [← e]; exact hI⟩
      · refine W_draw (by kernel_rfl) ?_
        refine WA_inv (T := [18]) hI.d0.drew ?_
        intro Sx hSx hXS
        replace hI := hI.drew
        refine WT_take 0 rfl rfl (by kernel_rfl) (hXS _ hI.d0) rfl (fun W hW => have hI := hSx W hW; (by first | exact rMoveS rfl rfl | exact rMove rfl)) ?_
        refine WT_take 1 rfl rfl (by kernel_rfl) (hXS _ hI.d0) rfl (fun W hW => have hI := hSx W hW; (by first | exact rMoveI rfl rfl | exact rMove rfl)) ?_
        refine WT_take 2 rfl rfl (by kernel_rfl) (hXS _ hI.d0) rfl (fun W hW => have hI := hSx W hW; (by first | exact rMoveS rfl rfl | exact rMove rfl)) ?_
        refine WT_take 3 rfl rfl (by kernel_rfl) (hXS _ hI.d0) rfl (fun W hW => have hI := hSx W hW; (by first | exact rMoveI rfl rfl | exact rMove rfl)) ?_
        refine WT_take 4 rfl rfl (by kernel_rfl) (hXS _ hI.d0) rfl (fun W hW => have hI := hSx W hW; (by first | exact rIdx0 rfl Try.underlying55 (by kernel_rfl) rfl rfl rfl (by omega) | exact rIdx1 rfl Try.underlying55 (by kernel_rfl) rfl rfl (by omega))) ?_
        refine WT_take 5 rfl rfl (by kernel_rfl) (hXS _ hI.d0) rfl (fun W hW => have hI := hSx W hW; (by first | exact rLd (v := .slice _ _ _) rfl (by kernel_rfl) rfl (by first | exact (hga _ hI)) | exact rLd rfl (by kernel_rfl) rfl (by first | exact (hga _ hI)))) ?_
        refine WT_take 6 rfl rfl (by kernel_rfl) (hXS _ hI.d0) rfl (fun W hW => have hI := hSx W hW; (by first | exact rMoveI rfl rfl | exact rMove rfl)) ?_
        refine WT_take 7 rfl rfl (by kernel_rfl) (hXS _ hI.d0) rfl (fun W hW => have hI := hSx W hW; (by first | exact rMoveI rfl rfl | exact rMove rfl)) ?_
        refine WT_take 8 rfl rfl (by kernel_rfl) (hXS _ hI.d0) rfl (fun W hW => have hI := hSx W hW; (by first | exact rEqlT rfl rfl rfl (by omega) | exact rEqlF rfl rfl rfl (by omega) | exact rEql rfl rfl rfl)) ?_
        refine WT_take 9 rfl rfl (by kernel_rfl) (hXS _ hI.d0) rfl (fun W hW => have hI := hSx W hW; (by first | exact rMoveB rfl rfl | exact rMove rfl)) ?_
        first | refine WT_take 10 rfl rfl (by kernel_rfl) (hXS _ hI.d0) rfl (fun W hW => have hI := hSx W hW; (by first | exact rMoveF rfl rfl | exact rMove rfl)) ?_ | refine WT_skip 10 rfl rfl (by kernel_rfl) (hXS _ hI.d0) rfl ?_
        first | refine WT_take 11 rfl rfl (by kernel_rfl) (hXS _ hI.d0) rfl (fun W hW => have hI := hSx W hW; (by first | exact rMoveI rfl rfl | exact rMove rfl)) ?_ | refine WT_skip 11 rfl rfl (by kernel_rfl) (hXS _ hI.d0) rfl ?_
        first | refine WT_take 12 rfl rfl (by kernel_rfl) (hXS _ hI.d0) rfl (fun W hW => have hI := hSx W hW; (by first | exact rMoveI rfl rfl | exact rMove rfl)) ?_ | refine WT_skip 12 rfl rfl (by kernel_rfl) (hXS _ hI.d0) rfl ?_
        refine WT_one 13 rfl (by kernel_rfl) rfl ?_
        refine WL_call rfl rfl rfl (rCallF (first := []) (cap := cap) (vs := [.int .i64 (a : Int), .int .i64 (b : Int)] ++ cap) rfl rfl hf hfn hfb rfl) ?_
        refine (hC _ a b hI.pu (by omega) (by omega)).mono ?_
        rintro en w1 ⟨⟨r, rfl⟩, hp⟩
        refine ⟨_, rfl, ?_⟩
        replace hI := hI.pure hp
        refine WL_nil ⟨hXS _ hI.d0, ?_⟩
        refine WT_take 14 rfl rfl (by kernel_rfl) (hXS _ hI.d0) rfl (fun W hW => have hI := hSx W hW; (by first | exact rPickTB rfl rfl rfl | exact rPickFB rfl rfl rfl | exact rPickB rfl rfl rfl rfl)) ?_
        refine WT_one 15 rfl (by kernel_rfl) rfl ?_
        refine WL_lit (vs := [_]) (qs := [(0, .bool _)]) [.bool false] [0] hI rfl rfl rfl rfl rfl rfl Try.underlying66 (fun _ => by kernel_rfl) ?_
        clear hI; rintro b42 w - - hI
        refine WL_nil ⟨hXS _ hI.d0.d0, ?_⟩
        refine WT_one 16 rfl (by kernel_rfl) rfl ?_
        first | refine WL_app1 (z := .bool false) (by_ := 1) hI rfl rfl rfl rfl rfl rfl Try.underlying66 (by kernel_rfl) rfl (by omega) (by rfl) hI.lit0 (by first | rfl | simp [i64s, Value.oneCell']) (by omega) (by omega) (by first | exact Nat.zero_le _ | (have := hI.chg.size; omega)) ?_ | refine WL_app2 (z := .bool false) (by_ := 1) hI rfl rfl rfl rfl rfl rfl Try.underlying66 (by kernel_rfl) rfl (by omega) (by rfl) hI.lit0 (by first | rfl | simp [i64s, Value.oneCell']) (by omega) (by omega) (by first | exact Nat.zero_le _ | (have := hI.chg.size; omega)) ?_ | refine WL_app3 (z := .bool false) (by_ := 1) hI rfl rfl rfl rfl rfl rfl Try.underlying66 (by kernel_rfl) rfl (by omega) (by rfl) hI.lit0 (by first | rfl | simp [i64s, Value.oneCell']) (by omega) (by omega) (by first | exact Nat.zero_le _ | (have := hI.chg.size; omega)) ?_ | refine WL_app4 (z := .bool false) (by_ := 1) hI rfl rfl rfl rfl rfl rfl Try.underlying66 (by kernel_rfl) rfl (by omega) (by rfl) hI.lit0 (by first | rfl | simp [i64s, Value.oneCell']) (by omega) (by omega) (by first | exact Nat.zero_le _ | (have := hI.chg.size; omega)) ?_ | refine WL_app5 (z := .bool false) (by_ := 1) hI rfl rfl rfl rfl rfl rfl Try.underlying66 (by kernel_rfl) rfl (by omega) (by rfl) hI.lit0 (by first | rfl | simp [i64s, Value.oneCell']) (by omega) (by omega) (by first | exact Nat.zero_le _ | (have := hI.chg.size; omega)) ?_
        clear hI; rintro A43 c43 w hA43 hc43 hI
        replace hI := hI.d0
        refine WL_nil ⟨hXS _ hI.d0, ?_⟩
        refine WT_take 17 rfl rfl (by kernel_rfl) (hXS _ hI.d0) rfl (fun W hW => have hI := hSx W hW; (by first | exact rIdx0 rfl Try.underlying55 (by kernel_rfl) rfl rfl rfl (by omega) | exact rIdx1 rfl Try.underlying55 (by kernel_rfl) rfl rfl (by omega))) ?_
        refine WT_A (by kernel_rfl) ?_
        clear hXS hSx
        refine WA_one 18 rfl (by kernel_rfl) ?_
        refine WL_st1 (u := .slice A43 (b + 1) c43) (j := a) hI rfl rfl rfl rfl rfl rfl (by kernel_rfl) rfl (mid_blt hvl) (mid_set hvl) ?_
        clear hI; intro w hI
        refine WL_nil ?_
        refine WA_end (by kernel_rfl) ?_
        have e := hbools r
        exact ⟨r, A43, c43, ⟨rfl, rfl, rfl, rfl, rfl, rfl, rfl, rfl, trivial⟩, by rw [← e]; exact hI⟩
    · clear hI
      rintro ρ w ⟨r, A', c', hH, hI⟩
      obtain ⟨σ, rfl⟩ := hH.open
      refine W_region ?_
      refine WL_val rfl rfl rfl (by first | exact rInc rfl rfl rfl (by omega) | exact rAdd rfl rfl rfl (by omega) | exact rAddW rfl rfl rfl) ?_
      refine WL_val rfl rfl rfl (by first | exact rMoveI rfl rfl | exact rMove rfl) ?_
      refine WL_nil ?_
      exact ⟨⟨b + 1, l ++ [r], A', c', by omega, by simp [hll], ⟨rfl, rfl, rfl, rfl, rfl, rfl, rfl, rfl, trivial⟩, hI⟩, by show n - ((b + 1 : Nat) : Int).toNat < n - (b : Int).toNat; omega⟩
  clear hI
  rintro ρ w ⟨vals, D, hvl, hH, hI⟩
  obtain ⟨σ, rfl⟩ := hH.open
  rw [Nat.sub_self, List.replicate_zero, List.append_nil] at hI
  refine W_seq ?_
  refine W_region ?_
  refine WL_val rfl rfl rfl (by first | exact rMoveS rfl rfl | exact rMove rfl) ?_
  refine WL_val rfl rfl rfl (by first | exact rAsgnS rfl rfl | exact rAsgn rfl) ?_
  refine WL_val rfl rfl rfl (by first | exact rAsgnN rfl rfl | exact rAsgnE rfl rfl | exact rAsgn rfl) ?_
  refine WL_nil ?_
  refine W_ret ?_
  refine ret2 4 5 (.inr rfl) rfl ⟨g, vals, D, rfl, hvl, ?_⟩
  have h2 := hI.u0 (e' := Row 0 66 1 (some ⟨g, 0, none⟩) n n vals.toArray.toList) (Chg.refl _ _) (Row.of_blk hI.g0 (Nat.zero_le _) (by simp [hvl]) (by omega)) (fun k hk => .inl (by have : some g = some k := hk; injection this with this; exact this.symm))
  exact h2
set_option maxHeartbeats 1000000 in
theorem links_bad (n : Int) (fv : Value) (w0 : World) (hn : n < 1 ∨ 7 < n) (hfv : ∃ F cap, fv = .func (.func F) #[] cap) :
    Calls Try.prog 46 #[.int .i64 n, fv] w0 fun en w' => (∃ z, en = .returned (.tuple #[.slice none 0 0, .iface 46 (.int .i64 z)])) ∧ Pure w0 w' := by
  have hI := Inv.start (fun _ => False) w0
  obtain ⟨F, cap, rfl⟩ := hfv
  refine calls_of_W (N := Try.f46.ntmps) Try.func46 rfl rfl rfl ?_
  refine W_seq ?_
  refine W_region ?_
  refine WL_val rfl rfl rfl (by first | exact rAsgnS rfl rfl | exact rAsgn rfl) ?_
  refine WL_val rfl rfl rfl (by first | exact rAsgnN rfl rfl | exact rAsgnE rfl rfl | exact rAsgn rfl) ?_
  refine WL_nil ?_
  refine W_seq ?_
  refine W_seq_cut (fun ρ w => ρ 14 = .bool true ∧ Pure w0 w) ?_ ?_
  · by_cases h1 : n < 1
    · refine W_region ?_
      refine WL_val rfl rfl rfl (by first | exact rMoveI rfl rfl | exact rMove rfl) ?_
      refine WL_val rfl rfl rfl (by first | exact rLssT rfl rfl rfl (by omega) | exact rLssF rfl rfl rfl (by omega) | exact rLss rfl rfl rfl) ?_
      refine WL_val rfl rfl rfl (by first | exact rMoveB rfl rfl | exact rMove rfl) ?_
      first | refine WL_val rfl rfl rfl (by first | exact rMoveI rfl rfl | exact rMove rfl) ?_ | refine WL_skip rfl rfl rfl ?_
      first | refine WL_val rfl rfl rfl (by first | exact rGtrT rfl rfl rfl (by omega) | exact rGtrF rfl rfl rfl (by omega) | exact rGtr rfl rfl rfl) ?_ | refine WL_skip rfl rfl rfl ?_
      refine WL_val rfl rfl rfl (by first | exact rPickTB rfl rfl rfl | exact rPickFB rfl rfl rfl | exact rPickB rfl rfl rfl rfl) ?_
      refine WL_nil ?_
      exact ⟨rfl, hI.pu⟩
    · have h2 : 7 < n := by omega
      refine W_region ?_
      refine WL_val rfl rfl rfl (by first | exact rMoveI rfl rfl | exact rMove rfl) ?_
      refine WL_val rfl rfl rfl (by first | exact rLssT rfl rfl rfl (by omega) | exact rLssF rfl rfl rfl (by omega) | exact rLss rfl rfl rfl) ?_
      refine WL_val rfl rfl rfl (by first | exact rMoveB rfl rfl | exact rMove rfl) ?_
      first | refine WL_val rfl rfl rfl (by first | exact rMoveI rfl rfl | exact rMove rfl) ?_ | refine WL_skip rfl rfl rfl ?_
      first | refine WL_val rfl rfl rfl (by first | exact rGtrT rfl rfl rfl (by omega) | exact rGtrF rfl rfl rfl (by omega) | exact rGtr rfl rfl rfl) ?_ | refine WL_skip rfl rfl rfl ?_
      refine WL_val rfl rfl rfl (by first | exact rPickTB rfl rfl rfl | exact rPickFB rfl rfl rfl | exact rPickB rfl rfl rfl rfl) ?_
      refine WL_nil ?_
      exact ⟨rfl, hI.pu⟩
  clear hI
  rintro ρ w ⟨h14, hp⟩
  refine W_cond true h14 ?_
  refine W_seq ?_
  refine W_region ?_
  refine WL_val rfl rfl rfl (rIface rfl Try.underlying46 rfl rfl) ?_
  refine WL_val rfl rfl rfl (by first | exact rAsgnS rfl rfl | exact rAsgn rfl) ?_
  refine WL_val rfl rfl rfl (by first | exact rAsgnN rfl rfl | exact rAsgnE rfl rfl | exact rAsgn rfl) ?_
  refine WL_nil ?_
  refine W_ret ?_
  exact ret2 4 5 (.inr rfl) rfl ⟨⟨_, rfl⟩, hp⟩
section
variable {P : Program} {ρ : Env} {w : World} {o : Oper} {x : Operand} {t t' e : TypeId}
theorem rSliceNeT {n c : Nat} {p : Addr} (ho : o.op = .binOp .neq t x (.const (.slice none 0 0)) t') (ht : P.underlying t = some (.slice e)) (hx : ev ρ x = .slice (some p) n c) : Runs P ρ o w (.bool true) := by
  have h := run_equal (P := P) (w := w) (t := t) (x := .slice (some p) n c) (y := .slice none 0 0) (r := false) (fun d => by simp [Op.equalIn, run_underlying ht])
  simp [Runs, execOp, ho, hx, show ev ρ (.const (.slice none 0 0)) = .slice none 0 0 from rfl, eqGuard, binOp, h]
theorem rSliceNeF {n c : Nat} (ho : o.op = .binOp .neq t x (.const (.slice none 0 0)) t') (ht : P.underlying t = some (.slice e)) (hx : ev ρ x = .slice none n c) : Runs P ρ o w (.bool false) := by
  have h := run_equal (P := P) (w := w) (t := t) (x := .slice none n c) (y := .slice none 0 0) (r := true) (fun d => by simp [Op.equalIn, run_underlying ht])
  simp [Runs, execOp, ho, hx, show ev ρ (.const (.slice none 0 0)) = .slice none 0 0 from rfl, eqGuard, binOp, h]
theorem rSliceNe {A : Option Addr} {n c : Nat} (ho : o.op = .binOp .neq t x (.const (.slice none 0 0)) t') (ht : P.underlying t = some (.slice e)) (hx : ev ρ x = .slice A n c) : Runs P ρ o w (.bool A.isSome) := by
  cases A with
  | none => exact rSliceNeF ho ht hx
  | some p => exact rSliceNeT ho ht hx
end
set_option maxHeartbeats 4000000 in
theorem ncut_any (L : StL) (s : SSt) (A : Option Addr) (n c : Nat) (vals : List Value) (D : Nat → Prop) (hn : n ≤ 1000) (hvl : vals.length = n) (S : Nat → Prop) (w0 : World) (hI : Inv S w0 w0 ([Row 0 66 1 A n c vals, RowsE vals D] ++ spt L s)) :
    Calls Try.prog 37 #[.pointer (some ⟨L.sb, 7, none⟩), .slice A n c] w0 fun en w' => en = .returned (.tuple #[]) ∧ ∃ LA ln lc cut lv LD, Inv S w0 w' ([Row 0 66 1 A n c vals, RowsE vals D] ++ spt { L with LA := LA, ln := ln, lc := lc, cut := cut, lv := lv, LD := LD } s) := by
  unfold spt at hI
  replace hI : Inv S w0 w0 [Row 0 66 1 A n c vals, RowsE vals D, B L.sb 59 (stoC L s), B L.nb 63 (flatB (s.n * 8) (ndF s)), B L.cb 68 (flatB s.k (clF L s)), Many s.k (cntE L s), Row 0 73 9 L.MA s.mails.length L.mc (s.mails.flatMap mailL), Row 0 66 1 L.LA L.ln L.lc L.lv, RowsE L.lv L.LD, Row 0 37 7 L.EA s.evs.length L.ec (s.evs.flatMap evL), Row 0 39 2 L.SA s.sts.length L.sc (s.sts.flatMap stL)] := hI
  refine calls_of_W (N := Try.f37.ntmps) Try.func37 rfl rfl rfl ?_
  refine W_seq ?_
  refine W_region ?_
  refine WL_val rfl rfl rfl (by first | exact rMoveP rfl rfl | exact rMove rfl) ?_
  refine WL_val rfl rfl rfl (by first | exact rMoveP rfl rfl | exact rMove rfl) ?_
  refine WL_val rfl rfl rfl (by first | exact rMoveS rfl rfl | exact rMove rfl) ?_
  refine WL_val rfl rfl rfl (rSliceNe rfl Try.underlying55 rfl) ?_
  refine WL_val rfl rfl rfl (rNilChk rfl rfl) ?_
  refine WL_val rfl rfl rfl (by first | exact rFldN (off := 1) rfl (by kernel_rfl) rfl | exact rFld (off := 1) rfl (by kernel_rfl) rfl) ?_
  refine WL_st 2 rfl (u := .slice none 0 0) (j := 8) hI rfl rfl rfl rfl rfl rfl (by kernel_rfl) rfl rfl rfl ?_
  clear hI; intro w hI
  refine WL_val rfl rfl rfl (rNilChk rfl rfl) ?_
  refine WL_val rfl rfl rfl (by first | exact rFldN (off := 2) rfl (by kernel_rfl) rfl | exact rFld (off := 2) rfl (by kernel_rfl) rfl) ?_
  refine WL_st 2 rfl (u := .bool A.isSome) (j := 9) hI rfl rfl rfl rfl rfl rfl (by kernel_rfl) rfl rfl rfl ?_
  clear hI; intro w hI
  refine WL_nil ?_
  replace hI := (((hI.erase 7).erase 7).fresh (Pure.refl _) (Row.nil _ 0 66 1) (fun k hk => by simp [Row] at hk)).back 7
  replace hI := (hI.fresh (Pure.refl _) (RowsE.ok (w := w) (vals := []) (D := fun _ => False) (fun _ h => h.elim) (fun v hv => by simp at hv)) (fun k hk => hk.elim)).back 8
  replace hI : Inv S w0 w ([Row 0 66 1 A n c vals, RowsE vals D] ++ spt { L with LA := none, ln := 0, lc := 0, cut := A.isSome, lv := [], LD := fun _ => False } s) := hI
  refine W_seq ?_
  refine W_region ?_
  refine WL_val rfl rfl rfl (by first | exact rMoveS rfl rfl | exact rMove rfl) ?_
  refine WL_val rfl rfl rfl (rLen rfl Try.underlying55 rfl) ?_
  refine WL_val rfl rfl rfl (by first | exact rMoveI rfl rfl | exact rMove rfl) ?_
  refine WL_nil ?_
  refine W_block ?_
  refine W_loop (fun ρ w => ∃ (i : Nat) (LA : Option Addr) (lc : Nat) (lv : List Value) (LD : Nat → Prop), i ≤ n ∧ lv.length = i ∧ Has ρ [(16, .int .i64 (i : Int)), (15, .int .i64 (n : Int)), (14, .slice A n c), (0, .pointer (some ⟨L.sb, 7, none⟩))] ∧ Inv S w0 w ([Row 0 66 1 A n c vals, RowsE vals D] ++ spt { L with LA := LA, ln := i, lc := lc, cut := A.isSome, lv := lv, LD := LD } s)) (fun ρ _ => n - cnt (ρ 16))
    ⟨0, none, 0, [], fun _ => False, by omega, rfl, ⟨rfl, rfl, rfl, rfl, trivial⟩, hI⟩ ?_
  clear hI
  rintro ρ w ⟨i, LA, lc, lv, LD, hi, hlv, hH, hI⟩
  obtain ⟨σ, rfl⟩ := hH.open
  by_cases hin : i < n
  rotate_left
  · refine W_seq ?_
    refine W_region ?_
    refine WL_val rfl rfl rfl (by first | exact rLssT rfl rfl rfl (by omega) | exact rLssF rfl rfl rfl (by omega) | exact rLss rfl rfl rfl) ?_
    refine WL_nil ?_
    refine W_seq ?_
    refine W_cond false rfl ?_
    refine W_exit ?_
    exact ret0 (.inl rfl) rfl ⟨rfl, LA, i, lc, A.isSome, lv, LD, hI⟩
  obtain ⟨v, hv⟩ : ∃ v, vals[i]? = some v := ⟨_, List.getElem?_eq_getElem (by omega)⟩
  have hvm := List.mem_of_getElem? hv
  have hrow : Rd w (fun _ => True) 1 (.slice A n c) n vals := Rd.of_own (hI.ok _ (List.mem_of_getElem? (i := 0) rfl)).1 (fun _ _ _ => trivial)
  obtain ⟨A', c', hve, q1, q2, q3, q4⟩ := hrow
  injection hve with e1 _ _
  subst e1
  obtain ⟨g, o, rfl, _, hc⟩ := q4 (by omega)
  have hcv := hc i v hv
  have hrs := (hI.ok _ (List.mem_of_getElem? (i := 1) rfl)).1
  obtain ⟨lb, hlb, hlbb⟩ := hrs.2 _ hvm
  obtain ⟨RA, rc, hve2, _, _⟩ := Rd.form hlb
  obtain ⟨m, hm⟩ : ∃ m, lb.length = m := ⟨_, rfl⟩
  rw [hm] at hve2
  subst hve2
  refine W_seq ?_
  refine W_region ?_
  refine WL_val rfl rfl rfl (by first | exact rLssT rfl rfl rfl (by omega) | exact rLssF rfl rfl rfl (by omega) | exact rLss rfl rfl rfl) ?_
  refine WL_nil ?_
  refine W_seq ?_
  refine W_cond true rfl ?_
  refine W_skip ?_
  refine W_seq ?_
  refine W_block ?_
  refine W_seq ?_
  refine W_region ?_
  refine WL_val rfl rfl rfl (by first | exact rIdx0 rfl Try.underlying55 (by kernel_rfl) rfl rfl rfl (by omega) | exact rIdx1 rfl Try.underlying55 (by kernel_rfl) rfl rfl (by omega)) ?_
  refine WL_val rfl rfl rfl (by first | exact rLd (v := .slice _ _ _) rfl (by kernel_rfl) rfl (by first | exact hI.oldp hcv | exact hcv) | exact rLd rfl (by kernel_rfl) rfl (by first | exact hI.oldp hcv | exact hcv)) ?_
  refine WL_val rfl rfl rfl (by first | exact rAsgnS rfl rfl | exact rAsgn rfl) ?_
  refine WL_nil ?_
  clear hlb hrs hm hlbb
  unfold spt at hI
  replace hI := hI.pull 7 rfl
  replace hI : Inv S w0 w [Row 0 66 1 LA i lc lv, Row 0 66 1 (some ⟨g, o, none⟩) n c vals, RowsE vals D, B L.sb 59 (stoC { L with LA := LA, ln := i, lc := lc, cut := true, lv := lv, LD := LD } s), B L.nb 63 (flatB (s.n * 8) (ndF s)), B L.cb 68 (flatB s.k (clF L s)), Many s.k (cntE L s), Row 0 73 9 L.MA s.mails.length L.mc (s.mails.flatMap mailL), RowsE lv LD, Row 0 37 7 L.EA s.evs.length L.ec (s.evs.flatMap evL), Row 0 39 2 L.SA s.sts.length L.sc (s.sts.flatMap stL)] := hI
  have h8 : ∀ w H, Inv S w0 w (RowsE vals D :: B L.sb 59 (stoC { L with LA := LA, ln := i, lc := lc, cut := true, lv := lv, LD := LD } s) :: H) → w.cell? ⟨L.sb, 8, none⟩ = some (.slice LA i lc) := fun w H hI => hI.cell 1 rfl rfl
  refine W_draw (by kernel_rfl) ?_
  refine WA_inv (T := [11]) hI.d0.d0.drew ?_
  intro Sx hSx hXS
  replace hI := hI.drew
  refine WT_take 0 rfl rfl (by kernel_rfl) (hXS _ hI.d0.d0) rfl (fun W hW => have hI := hSx W hW; (by first | exact rMoveP rfl rfl | exact rMove rfl)) ?_
  refine WT_take 1 rfl rfl (by kernel_rfl) (hXS _ hI.d0.d0) rfl (fun W hW => have hI := hSx W hW; (by first | exact rMoveP rfl rfl | exact rMove rfl)) ?_
  refine WT_take 2 rfl rfl (by kernel_rfl) (hXS _ hI.d0.d0) rfl (fun W hW => have hI := hSx W hW; (rNilChk rfl rfl)) ?_
  refine WT_take 3 rfl rfl (by kernel_rfl) (hXS _ hI.d0.d0) rfl (fun W hW => have hI := hSx W hW; (by first | exact rFldN (off := 1) rfl (by kernel_rfl) rfl | exact rFld (off := 1) rfl (by kernel_rfl) rfl)) ?_
  refine WT_take 4 rfl rfl (by kernel_rfl) (hXS _ hI.d0.d0) rfl (fun W hW => have hI := hSx W hW; (by first | exact rLd (v := .slice _ _ _) rfl (by kernel_rfl) rfl (by first | exact (h8 _ _ hI)) | exact rLd rfl (by kernel_rfl) rfl (by first | exact (h8 _ _ hI)))) ?_
  refine WT_take 5 rfl rfl (by kernel_rfl) (hXS _ hI.d0.d0) rfl (fun W hW => have hI := hSx W hW; (by first | exact rMoveS rfl rfl | exact rMove rfl)) ?_
  refine WT_one 6 rfl (by kernel_rfl) rfl ?_
  refine WL_call rfl rfl rfl (rCall (vs := [.slice _ _ _]) rfl Try.func45 rfl rfl rfl) ?_
  have hrs' := (hI.ok _ (List.mem_of_getElem? (i := 2) rfl)).1
  obtain ⟨lb', hlb', hb'⟩ := hrs'.2 _ hvm
  have hm' : m = lb'.length := by
    obtain ⟨_, _, he, _⟩ := Rd.form hlb'
    injection he
  refine (cloneB_any RA m rc lb' (fun _ => True) _ (by rw [hm'] at hlb' ⊢; exact Rd.mono hlb' fun _ _ => trivial) (by omega)).mono ?_
  rintro en w1 ⟨A2, c2, rfl, _, hJ⟩
  refine ⟨_, rfl, ?_⟩
  replace hI := hI.app1 hJ
  refine WL_nil ⟨hXS _ hI.d0.d0.d0, ?_⟩
  refine WT_one 7 rfl (by kernel_rfl) rfl ?_
  refine WL_lit (vs := [_]) (qs := [(0, .slice _ _ _)]) [.slice none 0 0] [0] hI rfl rfl rfl rfl rfl rfl Try.underlying55 (fun _ => by kernel_rfl) ?_
  clear hI; rintro b27 w - - hI
  refine WL_nil ⟨hXS _ hI.d0.d0.d0.d0, ?_⟩
  refine WT_one 8 rfl (by kernel_rfl) rfl ?_
  refine WL_app2 (z := .slice none 0 0) (by_ := 24) (news := [.slice A2 m c2]) hI rfl rfl rfl rfl rfl rfl Try.underlying55 (by kernel_rfl) rfl (by omega) (by rfl) hI.lit0 rfl (by omega) (by omega) (Nat.zero_le _) ?_
  clear hI; rintro A28 c28 w _ hc28 hI
  refine WL_nil ⟨hXS _ hI.d0.d0.d0.d0, ?_⟩
  refine WT_take 9 rfl rfl (by kernel_rfl) (hXS _ hI.d0.d0.d0.d0) rfl (fun W hW => have hI := hSx W hW; (rNilChk rfl rfl)) ?_
  refine WT_take 10 rfl rfl (by kernel_rfl) (hXS _ hI.d0.d0.d0.d0) rfl (fun W hW => have hI := hSx W hW; (by first | exact rFldN (off := 1) rfl (by kernel_rfl) rfl | exact rFld (off := 1) rfl (by kernel_rfl) rfl)) ?_
  refine WT_A (by kernel_rfl) ?_
  clear hXS hSx
  refine WA_one 11 rfl (by kernel_rfl) ?_
  refine WL_st 5 rfl (u := .slice A28 (i + 1) c28) (j := 8) hI rfl rfl rfl rfl rfl rfl (by kernel_rfl) rfl rfl rfl ?_
  clear hI; intro w hI
  refine WL_nil ?_
  refine WA_end (by kernel_rfl) ?_
  refine W_region ?_
  refine WL_val rfl rfl rfl (by first | exact rInc rfl rfl rfl (by omega) | exact rAdd rfl rfl rfl (by omega) | exact rAddW rfl rfl rfl) ?_
  refine WL_val rfl rfl rfl (by first | exact rMoveI rfl rfl | exact rMove rfl) ?_
  refine WL_nil ?_
  replace hI := hI.d0
  have hA := (hI.pull 9 rfl).sw0
  have hB := ((hA.rowsIn hm' (by omega)).back 8).back 7
  refine ⟨⟨i + 1, A28, c28, lv ++ [Value.slice A2 m c2], (fun k => A2.map (·.block) = some k ∨ LD k), by omega, by simp [hlv], ⟨rfl, rfl, rfl, rfl, trivial⟩, hB⟩, by show n - ((i + 1 : Nat) : Int).toNat < n - (i : Int).toNat; omega⟩
end Go.Proofs.Ytglioflpblpmpaa
