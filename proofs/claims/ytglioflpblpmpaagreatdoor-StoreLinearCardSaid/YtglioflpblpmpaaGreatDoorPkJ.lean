/- PkJ: StoM, StoN, StoO, StoP, StoQ, merged. -/
import Derived.Test.YtglioflpblpmpaaGreatDoorPkI
namespace Go.Proofs.YtglioflpblpmpaaGreatDoor
open Go.RowKit
set_option linter.unusedVariables false
set_option linter.unusedSimpArgs false
theorem mid_get {l r : List Value} {v : Value} {a : Nat} (h : l.length = a) : (l ++ v :: r).toArray[a]? = some v := by
  subst h; simp
theorem mid_set {l r : List Value} {v u : Value} {a : Nat} (h : l.length = a) : (l ++ v :: r).toArray.setIfInBounds a u = (l ++ u :: r).toArray := by
  subst h; simp
theorem mid_blt {l r : List Value} {v : Value} {a : Nat} (h : l.length = a) : Nat.blt a (l ++ v :: r).toArray.size = true := by
  subst h; rw [Nat.blt_eq]; simp
theorem rep_nil_succ {n a : Nat} (h : a < n) : List.replicate (n - a) (Value.slice none 0 0) = .slice none 0 0 :: List.replicate (n - (a + 1)) (.slice none 0 0) := by
  rw [show n - a = (n - (a + 1)) + 1 by omega, List.replicate_succ]
theorem flat_rep (n : Nat) (v : Value) : flatB n (fun _ => [v]) = (([] : List Value) ++ List.replicate (n - 0) v).toArray := by
  unfold flatB
  congr 1
  rw [List.nil_append, Nat.sub_zero]
  induction n with
  | zero => rfl
  | succ n ih => rw [List.range_succ, List.flatMap_append, ih, List.replicate_succ']; rfl
set_option maxRecDepth 4000 in
set_option maxHeartbeats 4000000 in
theorem links_ok (F n : Nat) (fn : Func) (cap : List Value) (w0 : World) (hf : Tryz.prog.funcs[F]? = some fn) (hfn : (fn.name == "runtime.NumGoroutine") = false) (hfb : fn.body.isNone = false) (hn : 1 ≤ n ∧ n ≤ 7) (hC : CanF F cap w0) :
    Calls Tryz.prog 65 #[.int .i64 (n : Int), .func (.func F) #[] cap.toArray] w0 fun en w' => ∃ g vals D, en = .returned (.tuple #[.slice (some ⟨g, 0, none⟩) n n, .nilIface]) ∧ vals.length = n ∧ Inv (fun _ => False) w0 w' [Row 0 55 1 (some ⟨g, 0, none⟩) n n vals, RowsE vals D] := by
  have hI := Inv.start (fun _ => False) w0
  refine calls_of_W (N := Tryz.f65.ntmps) Tryz.func65 rfl rfl rfl ?_
  refine W_seq ?_
  refine W_region ?_
  refine WL_val rfl rfl rfl (by exact rAsgnS rfl rfl) ?_
  refine WL_val rfl rfl rfl (by exact rAsgnN rfl rfl) ?_
  refine WL_nil ?_
  refine W_seq ?_
  refine W_seq ?_
  refine W_region ?_
  refine WL_val rfl rfl rfl (by exact rMoveI rfl rfl) ?_
  refine WL_val rfl rfl rfl (by exact rLssF rfl rfl rfl (by omega)) ?_
  refine WL_val rfl rfl rfl (by exact rMoveB rfl rfl) ?_
  refine WL_val rfl rfl rfl (by exact rMoveI rfl rfl) ?_
  refine WL_val rfl rfl rfl (by exact rGtrF rfl rfl rfl (by omega)) ?_
  refine WL_val rfl rfl rfl (by exact rPickFB rfl rfl rfl) ?_
  refine WL_nil ?_
  refine W_cond false rfl ?_
  refine W_skip ?_
  refine W_seq ?_
  refine W_region ?_
  refine WL_val rfl rfl rfl (by exact rMoveI rfl rfl) ?_
  refine WL_mkZ (n := n) (m := 1) (by_ := 24) (z := .slice none 0 0) [.slice none 0 0] hI rfl rfl rfl rfl rfl rfl Tryz.underlying68 (by kernel_rfl) rfl rfl (by omega) (by omega) (by omega) ?_
  clear hI; rintro g w - - hI
  refine WL_val rfl rfl rfl (by exact rAsgnS rfl rfl) ?_
  refine WL_nil ?_
  have hst : flatB n (fun _ => [Value.slice none 0 0]) = (([] : List Value) ++ List.replicate (n - 0) (Value.slice none 0 0)).toArray := flat_rep n _
  rw [hst] at hI
  replace hI := (hI.fresh (Pure.refl _) (RowsE.ok (w := w) (vals := []) (D := fun _ => False) (fun _ h => h.elim) (fun v hv => by simp at hv)) (fun k hk => hk.elim)).sw0
  refine W_seq_cut (fun ρ w => ∃ (vals : List Value) (D : Nat → Prop), vals.length = n ∧ Has ρ [(6, .slice (some ⟨g, 0, none⟩) n n)] ∧ Inv (fun _ => False) w0 w [B g 55 (vals ++ List.replicate (n - n) (Value.slice none 0 0)).toArray, RowsE vals D]) ?_ ?_
  · refine W_seq ?_
    refine W_region ?_
    refine WL_val rfl rfl rfl (by exact rMoveS rfl rfl) ?_
    refine WL_val rfl rfl rfl (rLen rfl Tryz.underlying68 rfl) ?_
    refine WL_val rfl rfl rfl (by exact rMoveI rfl rfl) ?_
    refine WL_nil ?_
    refine W_block ?_
    refine W_loop (fun ρ w => ∃ (a : Nat) (vals : List Value) (D : Nat → Prop), a ≤ n ∧ vals.length = a ∧ Has ρ [(20, .int .i64 (a : Int)), (19, .int .i64 (n : Int)), (0, .int .i64 (n : Int)), (1, .func (.func F) #[] cap.toArray), (6, .slice (some ⟨g, 0, none⟩) n n)] ∧ Inv (fun _ => False) w0 w [B g 55 (vals ++ List.replicate (n - a) (Value.slice none 0 0)).toArray, RowsE vals D]) (fun ρ _ => n - cnt (ρ 20))
      ⟨0, [], fun _ => False, by omega, rfl, ⟨rfl, rfl, rfl, rfl, rfl, trivial⟩, hI⟩ ?_
    clear hI
    rintro ρ w ⟨a, vals, D, ha, hvl, hH, hI⟩
    obtain ⟨σ, rfl⟩ := hH.open
    by_cases han : a < n
    rotate_left
    · obtain rfl : a = n := by omega
      refine W_seq ?_
      refine W_region ?_
      refine WL_val rfl rfl rfl (by exact rLssF rfl rfl rfl (by omega)) ?_
      refine WL_nil ?_
      refine W_seq ?_
      refine W_cond false rfl ?_
      refine W_exit ?_
      exact ⟨vals, D, hvl, ⟨rfl, trivial⟩, hI⟩
    refine W_seq ?_
    refine W_region ?_
    refine WL_val rfl rfl rfl (by exact rLssT rfl rfl rfl (by omega)) ?_
    refine WL_nil ?_
    refine W_seq ?_
    refine W_cond true rfl ?_
    refine W_skip ?_
    refine W_seq ?_
    refine W_block ?_
    refine W_seq ?_
    refine W_region ?_
    refine WL_val rfl rfl rfl (by exact rMoveI rfl rfl) ?_
    refine WL_val rfl rfl rfl (by exact rAsgnI rfl rfl) ?_
    refine WL_nil ?_
    refine W_seq ?_
    refine W_region ?_
    refine WL_val rfl rfl rfl (by exact rMoveI rfl rfl) ?_
    refine WL_val rfl rfl rfl (by exact rMoveI rfl rfl) ?_
    refine WL_nil ?_
    rw [rep_nil_succ han] at hI
    replace hI := hI.fresh (Pure.refl _) (Row.nil _ 0 4 1) (fun k hk => by simp [Row] at hk)
    refine W_block ?_
    refine W_loop (fun ρ w => ∃ (b : Nat) (l : List Bool) (A : Option Addr) (c : Nat), b ≤ n ∧ l.length = b ∧ Has ρ [(24, .int .i64 (b : Int)), (23, .int .i64 (n : Int)), (7, .int .i64 (a : Int)), (20, .int .i64 (a : Int)), (19, .int .i64 (n : Int)), (0, .int .i64 (n : Int)), (1, .func (.func F) #[] cap.toArray), (6, .slice (some ⟨g, 0, none⟩) n n)] ∧
      Inv (fun _ => False) w0 w [Row 0 4 1 A b c (boolsV l), B g 55 (vals ++ Value.slice A b c :: List.replicate (n - (a + 1)) (Value.slice none 0 0)).toArray, RowsE vals D]) (fun ρ _ => n - cnt (ρ 24))
      ⟨0, [], none, 0, by omega, rfl, ⟨rfl, rfl, rfl, rfl, rfl, rfl, rfl, rfl, trivial⟩, hI⟩ ?_
    clear hI
    rintro ρ w ⟨b, l, A, c, hb, hll, hH, hI⟩
    obtain ⟨σ, rfl⟩ := hH.open
    by_cases hbn : b < n
    rotate_left
    · obtain rfl : b = n := by omega
      refine W_seq ?_
      refine W_region ?_
      refine WL_val rfl rfl rfl (by exact rLssF rfl rfl rfl (by omega)) ?_
      refine WL_nil ?_
      refine W_seq ?_
      refine W_cond false rfl ?_
      refine W_exit ?_
      refine W_region ?_
      refine WL_val rfl rfl rfl (by exact rInc rfl rfl rfl (by omega)) ?_
      refine WL_val rfl rfl rfl (by exact rMoveI rfl rfl) ?_
      refine WL_nil ?_
      have h2 := (hI.sw1.rowsIn hll.symm (by omega)).sw0
      have e1 : (vals ++ Value.slice A b c :: List.replicate (b - (a + 1)) (.slice none 0 0)) = (vals ++ [.slice A b c]) ++ List.replicate (b - (a + 1)) (.slice none 0 0) := by simp
      rw [e1] at h2
      refine ⟨⟨a + 1, vals ++ [.slice A b c], _, by omega, by simp [hvl], ⟨rfl, rfl, rfl, rfl, rfl, trivial⟩, h2⟩, by show b - ((a + 1 : Nat) : Int).toNat < b - (a : Int).toNat; omega⟩
    have hga : ∀ w, Inv (fun _ => False) w0 w [B g 55 (vals ++ Value.slice A b c :: List.replicate (n - (a + 1)) (Value.slice none 0 0)).toArray, RowsE vals D] → w.cell? ⟨g, a, none⟩ = some (.slice A b c) := fun w hI => hI.cell 0 rfl (mid_get hvl)
    refine W_seq ?_
    refine W_region ?_
    refine WL_val rfl rfl rfl (by exact rLssT rfl rfl rfl (by omega)) ?_
    refine WL_nil ?_
    refine W_seq ?_
    refine W_cond true rfl ?_
    refine W_skip ?_
    refine W_seq_cut (fun ρ w => ∃ (r : Bool) (A' : Option Addr) (c' : Nat), Has ρ [(24, .int .i64 (b : Int)), (23, .int .i64 (n : Int)), (7, .int .i64 (a : Int)), (20, .int .i64 (a : Int)), (19, .int .i64 (n : Int)), (0, .int .i64 (n : Int)), (1, .func (.func F) #[] cap.toArray), (6, .slice (some ⟨g, 0, none⟩) n n)] ∧
      Inv (fun _ => False) w0 w [Row 0 4 1 A' (b + 1) c' (boolsV (l ++ [r])), B g 55 (vals ++ Value.slice A' (b + 1) c' :: List.replicate (n - (a + 1)) (Value.slice none 0 0)).toArray, RowsE vals D]) ?_ ?_
    · refine W_block ?_
      refine W_seq ?_
      refine W_region ?_
      refine WL_val rfl rfl rfl (by exact rMoveI rfl rfl) ?_
      refine WL_val rfl rfl rfl (by exact rAsgnI rfl rfl) ?_
      refine WL_nil ?_
      have hbools : ∀ r : Bool, boolsV l ++ [.bool r] = boolsV (l ++ [r]) := fun r => by simp [boolsV]
      by_cases hab : a = b
      · refine W_draw (by kernel_rfl) ?_
        refine WA_inv (T := [18]) hI.d0.drew ?_
        intro Sx hSx hXS
        replace hI := hI.drew
        refine WT_take 0 rfl rfl (by kernel_rfl) (hXS _ hI.d0) rfl (fun W hW => have hI := hSx W hW; (by exact rMoveS rfl rfl)) ?_
        refine WT_take 1 rfl rfl (by kernel_rfl) (hXS _ hI.d0) rfl (fun W hW => have hI := hSx W hW; (by exact rMoveI rfl rfl)) ?_
        refine WT_take 2 rfl rfl (by kernel_rfl) (hXS _ hI.d0) rfl (fun W hW => have hI := hSx W hW; (by exact rMoveS rfl rfl)) ?_
        refine WT_take 3 rfl rfl (by kernel_rfl) (hXS _ hI.d0) rfl (fun W hW => have hI := hSx W hW; (by exact rMoveI rfl rfl)) ?_
        refine WT_take 4 rfl rfl (by kernel_rfl) (hXS _ hI.d0) rfl (fun W hW => have hI := hSx W hW; (by exact rIdx0 rfl Tryz.underlying68 (by kernel_rfl) rfl rfl rfl (by omega))) ?_
        refine WT_take 5 rfl rfl (by kernel_rfl) (hXS _ hI.d0) rfl (fun W hW => have hI := hSx W hW; (by exact rLd (v := .slice _ _ _) rfl (by kernel_rfl) rfl (by exact (hga _ hI)))) ?_
        refine WT_take 6 rfl rfl (by kernel_rfl) (hXS _ hI.d0) rfl (fun W hW => have hI := hSx W hW; (by exact rMoveI rfl rfl)) ?_
        refine WT_take 7 rfl rfl (by kernel_rfl) (hXS _ hI.d0) rfl (fun W hW => have hI := hSx W hW; (by exact rMoveI rfl rfl)) ?_
        refine WT_take 8 rfl rfl (by kernel_rfl) (hXS _ hI.d0) rfl (fun W hW => have hI := hSx W hW; (by exact rEqlT rfl rfl rfl (by omega))) ?_
        refine WT_take 9 rfl rfl (by kernel_rfl) (hXS _ hI.d0) rfl (fun W hW => have hI := hSx W hW; (by exact rMoveB rfl rfl)) ?_
        refine WT_skip 10 rfl rfl (by kernel_rfl) (hXS _ hI.d0) rfl ?_
        refine WT_skip 11 rfl rfl (by kernel_rfl) (hXS _ hI.d0) rfl ?_
        refine WT_skip 12 rfl rfl (by kernel_rfl) (hXS _ hI.d0) rfl ?_
        refine WT_skip 13 rfl rfl (by kernel_rfl) (hXS _ hI.d0) rfl ?_
        refine WT_take 14 rfl rfl (by kernel_rfl) (hXS _ hI.d0) rfl (fun W hW => have hI := hSx W hW; (by exact rPickTB rfl rfl rfl)) ?_
        refine WT_one 15 rfl (by kernel_rfl) rfl ?_
        refine WL_lit (vs := [_]) (qs := [(0, .bool _)]) [.bool false] [0] hI rfl rfl rfl rfl rfl rfl Tryz.underlying55 (fun _ => by kernel_rfl) ?_
        clear hI; rintro b42 w - - hI
        refine WL_nil ⟨hXS _ hI.d0.d0, ?_⟩
        refine WT_one 16 rfl (by kernel_rfl) rfl ?_
        refine WL_app1 (z := .bool false) (by_ := 1) hI rfl rfl rfl rfl rfl rfl Tryz.underlying55 (by kernel_rfl) rfl (by omega) (by rfl) hI.lit0 (by rfl) (by omega) (by omega) (by exact Nat.zero_le _) ?_
        clear hI; rintro A43 c43 w hA43 hc43 hI
        replace hI := hI.d0
        refine WL_nil ⟨hXS _ hI.d0, ?_⟩
        refine WT_take 17 rfl rfl (by kernel_rfl) (hXS _ hI.d0) rfl (fun W hW => have hI := hSx W hW; (by exact rIdx0 rfl Tryz.underlying68 (by kernel_rfl) rfl rfl rfl (by omega))) ?_
        refine WT_A (by kernel_rfl) ?_
        clear hXS hSx
        refine WA_one 18 rfl (by kernel_rfl) ?_
        refine WL_st1 (u := .slice A43 (b + 1) c43) (j := a) hI rfl rfl rfl rfl rfl rfl (by kernel_rfl) rfl (mid_blt hvl) (mid_set hvl) ?_
        clear hI; intro w hI
        refine WL_nil ?_
        refine WA_end (by kernel_rfl) ?_
        have e := hbools true
        exact ⟨true, A43, c43, ⟨rfl, rfl, rfl, rfl, rfl, rfl, rfl, rfl, trivial⟩, by rw [← e]; exact hI⟩
      · refine W_draw (by kernel_rfl) ?_
        refine WA_inv (T := [18]) hI.d0.drew ?_
        intro Sx hSx hXS
        replace hI := hI.drew
        refine WT_take 0 rfl rfl (by kernel_rfl) (hXS _ hI.d0) rfl (fun W hW => have hI := hSx W hW; (by exact rMoveS rfl rfl)) ?_
        refine WT_take 1 rfl rfl (by kernel_rfl) (hXS _ hI.d0) rfl (fun W hW => have hI := hSx W hW; (by exact rMoveI rfl rfl)) ?_
        refine WT_take 2 rfl rfl (by kernel_rfl) (hXS _ hI.d0) rfl (fun W hW => have hI := hSx W hW; (by exact rMoveS rfl rfl)) ?_
        refine WT_take 3 rfl rfl (by kernel_rfl) (hXS _ hI.d0) rfl (fun W hW => have hI := hSx W hW; (by exact rMoveI rfl rfl)) ?_
        refine WT_take 4 rfl rfl (by kernel_rfl) (hXS _ hI.d0) rfl (fun W hW => have hI := hSx W hW; (by exact rIdx0 rfl Tryz.underlying68 (by kernel_rfl) rfl rfl rfl (by omega))) ?_
        refine WT_take 5 rfl rfl (by kernel_rfl) (hXS _ hI.d0) rfl (fun W hW => have hI := hSx W hW; (by exact rLd (v := .slice _ _ _) rfl (by kernel_rfl) rfl (by exact (hga _ hI)))) ?_
        refine WT_take 6 rfl rfl (by kernel_rfl) (hXS _ hI.d0) rfl (fun W hW => have hI := hSx W hW; (by exact rMoveI rfl rfl)) ?_
        refine WT_take 7 rfl rfl (by kernel_rfl) (hXS _ hI.d0) rfl (fun W hW => have hI := hSx W hW; (by exact rMoveI rfl rfl)) ?_
        refine WT_take 8 rfl rfl (by kernel_rfl) (hXS _ hI.d0) rfl (fun W hW => have hI := hSx W hW; (by exact rEqlF rfl rfl rfl (by omega))) ?_
        refine WT_take 9 rfl rfl (by kernel_rfl) (hXS _ hI.d0) rfl (fun W hW => have hI := hSx W hW; (by exact rMoveB rfl rfl)) ?_
        refine WT_take 10 rfl rfl (by kernel_rfl) (hXS _ hI.d0) rfl (fun W hW => have hI := hSx W hW; (by exact rMoveF rfl rfl)) ?_
        refine WT_take 11 rfl rfl (by kernel_rfl) (hXS _ hI.d0) rfl (fun W hW => have hI := hSx W hW; (by exact rMoveI rfl rfl)) ?_
        refine WT_take 12 rfl rfl (by kernel_rfl) (hXS _ hI.d0) rfl (fun W hW => have hI := hSx W hW; (by exact rMoveI rfl rfl)) ?_
        refine WT_one 13 rfl (by kernel_rfl) rfl ?_
        refine WL_call rfl rfl rfl (rCallF (first := []) (cap := cap) (vs := [.int .i64 (a : Int), .int .i64 (b : Int)] ++ cap) rfl rfl hf hfn hfb rfl) ?_
        refine (hC _ a b hI.pu (by omega) (by omega)).mono ?_
        rintro en w1 ⟨⟨r, rfl⟩, hp⟩
        refine ⟨_, rfl, ?_⟩
        replace hI := hI.pure hp
        refine WL_nil ⟨hXS _ hI.d0, ?_⟩
        refine WT_take 14 rfl rfl (by kernel_rfl) (hXS _ hI.d0) rfl (fun W hW => have hI := hSx W hW; (by exact rPickFB rfl rfl rfl)) ?_
        refine WT_one 15 rfl (by kernel_rfl) rfl ?_
        refine WL_lit (vs := [_]) (qs := [(0, .bool _)]) [.bool false] [0] hI rfl rfl rfl rfl rfl rfl Tryz.underlying55 (fun _ => by kernel_rfl) ?_
        clear hI; rintro b42 w - - hI
        refine WL_nil ⟨hXS _ hI.d0.d0, ?_⟩
        refine WT_one 16 rfl (by kernel_rfl) rfl ?_
        refine WL_app1 (z := .bool false) (by_ := 1) hI rfl rfl rfl rfl rfl rfl Tryz.underlying55 (by kernel_rfl) rfl (by omega) (by rfl) hI.lit0 (by rfl) (by omega) (by omega) (by exact Nat.zero_le _) ?_
        clear hI; rintro A43 c43 w hA43 hc43 hI
        replace hI := hI.d0
        refine WL_nil ⟨hXS _ hI.d0, ?_⟩
        refine WT_take 17 rfl rfl (by kernel_rfl) (hXS _ hI.d0) rfl (fun W hW => have hI := hSx W hW; (by exact rIdx0 rfl Tryz.underlying68 (by kernel_rfl) rfl rfl rfl (by omega))) ?_
        refine WT_A (by kernel_rfl) ?_
        clear hXS hSx
        refine WA_one 18 rfl (by kernel_rfl) ?_
        refine WL_st1 (u := .slice A43 (b + 1) c43) (j := a) hI rfl rfl rfl rfl rfl rfl (by kernel_rfl) rfl (mid_blt hvl) (mid_set hvl) ?_
        clear hI; intro w hI
        refine WL_nil ?_
        refine WA_end (by kernel_rfl) ?_
        have e := hbools r
        exact ⟨r, A43, c43, ⟨rfl, rfl, rfl, rfl, rfl, rfl, rfl, rfl, trivial⟩, by rw [← e]; exact hI⟩
    · clear hI
      rintro ρ w ⟨r, A', c', hH, hI⟩
      obtain ⟨σ, rfl⟩ := hH.open
      refine W_region ?_
      refine WL_val rfl rfl rfl (by exact rInc rfl rfl rfl (by omega)) ?_
      refine WL_val rfl rfl rfl (by exact rMoveI rfl rfl) ?_
      refine WL_nil ?_
      exact ⟨⟨b + 1, l ++ [r], A', c', by omega, by simp [hll], ⟨rfl, rfl, rfl, rfl, rfl, rfl, rfl, rfl, trivial⟩, hI⟩, by show n - ((b + 1 : Nat) : Int).toNat < n - (b : Int).toNat; omega⟩
  clear hI
  rintro ρ w ⟨vals, D, hvl, hH, hI⟩
  obtain ⟨σ, rfl⟩ := hH.open
  rw [Nat.sub_self, List.replicate_zero, List.append_nil] at hI
  refine W_seq ?_
  refine W_region ?_
  refine WL_val rfl rfl rfl (by exact rMoveS rfl rfl) ?_
  refine WL_val rfl rfl rfl (by exact rAsgnS rfl rfl) ?_
  refine WL_val rfl rfl rfl (by exact rAsgnN rfl rfl) ?_
  refine WL_nil ?_
  refine W_ret ?_
  refine ret2 4 5 (.inr rfl) rfl ⟨g, vals, D, rfl, hvl, ?_⟩
  have h2 := hI.u0 (e' := Row 0 55 1 (some ⟨g, 0, none⟩) n n vals.toArray.toList) (Chg.refl _ _) (Row.of_blk hI.g0 (Nat.zero_le _) (by simp [hvl]) (by omega)) (fun k hk => .inl (by have : some g = some k := hk; injection this with this; exact this.symm))
  exact h2
set_option maxHeartbeats 1000000 in
theorem links_bad (n : Int) (fv : Value) (w0 : World) (hn : n < 1 ∨ 7 < n) (hfv : ∃ F cap, fv = .func (.func F) #[] cap) :
    Calls Tryz.prog 65 #[.int .i64 n, fv] w0 fun en w' => (∃ z, en = .returned (.tuple #[.slice none 0 0, .iface 49 (.int .i64 z)])) ∧ Pure w0 w' := by
  have hI := Inv.start (fun _ => False) w0
  obtain ⟨F, cap, rfl⟩ := hfv
  refine calls_of_W (N := Tryz.f65.ntmps) Tryz.func65 rfl rfl rfl ?_
  refine W_seq ?_
  refine W_region ?_
  refine WL_val rfl rfl rfl (by exact rAsgnS rfl rfl) ?_
  refine WL_val rfl rfl rfl (by exact rAsgnN rfl rfl) ?_
  refine WL_nil ?_
  refine W_seq ?_
  refine W_seq_cut (fun ρ w => ρ 14 = .bool true ∧ Pure w0 w) ?_ ?_
  · by_cases h1 : n < 1
    · refine W_region ?_
      refine WL_val rfl rfl rfl (by exact rMoveI rfl rfl) ?_
      refine WL_val rfl rfl rfl (by exact rLssT rfl rfl rfl (by omega)) ?_
      refine WL_val rfl rfl rfl (by exact rMoveB rfl rfl) ?_
      refine WL_skip rfl rfl rfl ?_
      refine WL_skip rfl rfl rfl ?_
      refine WL_val rfl rfl rfl (by exact rPickTB rfl rfl rfl) ?_
      refine WL_nil ?_
      exact ⟨rfl, hI.pu⟩
    · have h2 : 7 < n := by omega
      refine W_region ?_
      refine WL_val rfl rfl rfl (by exact rMoveI rfl rfl) ?_
      refine WL_val rfl rfl rfl (by exact rLssF rfl rfl rfl (by omega)) ?_
      refine WL_val rfl rfl rfl (by exact rMoveB rfl rfl) ?_
      refine WL_val rfl rfl rfl (by exact rMoveI rfl rfl) ?_
      refine WL_val rfl rfl rfl (by exact rGtrT rfl rfl rfl (by omega)) ?_
      refine WL_val rfl rfl rfl (by exact rPickFB rfl rfl rfl) ?_
      refine WL_nil ?_
      exact ⟨rfl, hI.pu⟩
  clear hI
  rintro ρ w ⟨h14, hp⟩
  refine W_cond true h14 ?_
  refine W_seq ?_
  refine W_region ?_
  refine WL_val rfl rfl rfl (rIface rfl Tryz.underlying49 rfl rfl) ?_
  refine WL_val rfl rfl rfl (by exact rAsgnS rfl rfl) ?_
  refine WL_val rfl rfl rfl (by exact rAsgnE rfl rfl) ?_
  refine WL_nil ?_
  refine W_ret ?_
  exact ret2 4 5 (.inr rfl) rfl ⟨⟨_, rfl⟩, hp⟩
section
variable {P : Program} {ρ : Env} {w : World} {o : Oper} {x : Operand} {t t' e : TypeId}
theorem rSliceNeT {n c : Nat} {p : Addr} (ho : o.op = .binOp .neq t x (.const (.slice none 0 0)) t') (ht : P.underlying t = some (.slice e)) (hx : ev ρ x = .slice (some p) n c) : Runs P ρ o w (.bool true) := by
  have h := run_equal (P := P) (w := w) (t := t) (x := .slice (some p) n c) (y := .slice none 0 0) (r := false) (fun d => by simp [Op.equalIn, run_underlying ht])
  simp [Runs, execOp, ho, hx, show ev ρ (.const (.slice none 0 0)) = .slice none 0 0 from rfl, eqGuard, binOp, h]
theorem rSliceNeF {n c : Nat} (ho : o.op = .binOp .neq t x (.const (.slice none 0 0)) t') (ht : P.underlying t = some (.slice e)) (hx : ev ρ x = .slice none n c) : Runs P ρ o w (.bool false) := by
  have h := run_equal (P := P) (w := w) (t := t) (x := .slice none n c) (y := .slice none 0 0) (r := true) (fun d => by simp [Op.equalIn, run_underlying ht])
  simp [Runs, execOp, ho, hx, show ev ρ (.const (.slice none 0 0)) = .slice none 0 0 from rfl, eqGuard, binOp, h]
theorem rSliceNe {A : Option Addr} {n c : Nat} (ho : o.op = .binOp .neq t x (.const (.slice none 0 0)) t') (ht : P.underlying t = some (.slice e)) (hx : ev ρ x = .slice A n c) : Runs P ρ o w (.bool A.isSome) := by
  cases A with
  | none => exact rSliceNeF ho ht hx
  | some p => exact rSliceNeT ho ht hx
end
set_option maxRecDepth 4000 in
set_option maxHeartbeats 4000000 in
theorem ncut_any (L : StL) (s : StS) (A : Option Addr) (n c : Nat) (vals : List Value) (D : Nat → Prop) (hn : n ≤ 1000) (hvl : vals.length = n) (S : Nat → Prop) (w0 : World) (hI : Inv S w0 w0 ([Row 0 55 1 A n c vals, RowsE vals D] ++ spt L s)) :
    Calls Tryz.prog 48 #[.pointer (some ⟨L.sb, 7, none⟩), .slice A n c] w0 fun en w' => en = .returned (.tuple #[]) ∧ ∃ LA ln lc cut lv LD, Inv S w0 w' ([Row 0 55 1 A n c vals, RowsE vals D] ++ spt { L with LA := LA, ln := ln, lc := lc, cut := cut, lv := lv, LD := LD } s) := by
  unfold spt at hI
  replace hI : Inv S w0 w0 [Row 0 55 1 A n c vals, RowsE vals D, B L.sb 73 (stoC L s), B L.nb 80 (flatB (s.n * 8) (ndF s)), B L.cb 84 (flatB s.k (clF L s)), Many s.k (cntE L s), Row 0 89 9 L.MA s.mails.length L.mc (s.mails.flatMap mailL), Row 0 55 1 L.LA L.ln L.lc L.lv, RowsE L.lv L.LD, Row 0 48 7 L.EA s.evs.length L.ec (s.evs.flatMap evL), Row 0 77 2 L.SA s.sts.length L.sc (s.sts.flatMap stmL)] := hI
  refine calls_of_W (N := Tryz.f48.ntmps) Tryz.func48 rfl rfl rfl ?_
  refine W_seq ?_
  refine W_region ?_
  refine WL_val rfl rfl rfl (by exact rMoveP rfl rfl) ?_
  refine WL_val rfl rfl rfl (by exact rMoveP rfl rfl) ?_
  refine WL_val rfl rfl rfl (by exact rMoveS rfl rfl) ?_
  refine WL_val rfl rfl rfl (rSliceNe rfl Tryz.underlying68 rfl) ?_
  refine WL_val rfl rfl rfl (rNilChk rfl rfl) ?_
  refine WL_val rfl rfl rfl (by exact rFld (off := 1) rfl (by kernel_rfl) rfl) ?_
  refine WL_st 2 rfl (u := .slice none 0 0) (j := 8) hI rfl rfl rfl rfl rfl rfl (by kernel_rfl) rfl rfl rfl ?_
  clear hI; intro w hI
  refine WL_val rfl rfl rfl (rNilChk rfl rfl) ?_
  refine WL_val rfl rfl rfl (by exact rFld (off := 2) rfl (by kernel_rfl) rfl) ?_
  refine WL_st 2 rfl (u := .bool A.isSome) (j := 9) hI rfl rfl rfl rfl rfl rfl (by kernel_rfl) rfl rfl rfl ?_
  clear hI; intro w hI
  refine WL_nil ?_
  replace hI := (((hI.erase 7).erase 7).fresh (Pure.refl _) (Row.nil _ 0 55 1) (fun k hk => by simp [Row] at hk)).back 7
  replace hI := (hI.fresh (Pure.refl _) (RowsE.ok (w := w) (vals := []) (D := fun _ => False) (fun _ h => h.elim) (fun v hv => by simp at hv)) (fun k hk => hk.elim)).back 8
  replace hI : Inv S w0 w ([Row 0 55 1 A n c vals, RowsE vals D] ++ spt { L with LA := none, ln := 0, lc := 0, cut := A.isSome, lv := [], LD := fun _ => False } s) := hI
  refine W_seq ?_
  refine W_region ?_
  refine WL_val rfl rfl rfl (by exact rMoveS rfl rfl) ?_
  refine WL_val rfl rfl rfl (rLen rfl Tryz.underlying68 rfl) ?_
  refine WL_val rfl rfl rfl (by exact rMoveI rfl rfl) ?_
  refine WL_nil ?_
  refine W_block ?_
  refine W_loop (fun ρ w => ∃ (i : Nat) (LA : Option Addr) (lc : Nat) (lv : List Value) (LD : Nat → Prop), i ≤ n ∧ lv.length = i ∧ Has ρ [(16, .int .i64 (i : Int)), (15, .int .i64 (n : Int)), (14, .slice A n c), (0, .pointer (some ⟨L.sb, 7, none⟩))] ∧ Inv S w0 w ([Row 0 55 1 A n c vals, RowsE vals D] ++ spt { L with LA := LA, ln := i, lc := lc, cut := A.isSome, lv := lv, LD := LD } s)) (fun ρ _ => n - cnt (ρ 16))
    ⟨0, none, 0, [], fun _ => False, by omega, rfl, ⟨rfl, rfl, rfl, rfl, trivial⟩, hI⟩ ?_
  clear hI
  rintro ρ w ⟨i, LA, lc, lv, LD, hi, hlv, hH, hI⟩
  obtain ⟨σ, rfl⟩ := hH.open
  by_cases hin : i < n
  rotate_left
  · refine W_seq ?_
    refine W_region ?_
    refine WL_val rfl rfl rfl (by exact rLssF rfl rfl rfl (by omega)) ?_
    refine WL_nil ?_
    refine W_seq ?_
    refine W_cond false rfl ?_
    refine W_exit ?_
    exact ret0 (.inl rfl) rfl ⟨rfl, LA, i, lc, A.isSome, lv, LD, hI⟩
  obtain ⟨v, hv⟩ : ∃ v, vals[i]? = some v := ⟨_, List.getElem?_eq_getElem (by omega)⟩
  have hvm := List.mem_of_getElem? hv
  have hrow : Rd w (fun _ => True) 1 (.slice A n c) n vals := Rd.of_own (hI.ok _ (List.mem_of_getElem? (i := 0) rfl)).1 (fun _ _ _ => trivial)
  obtain ⟨A', c', hve, q1, q2, q3, q4⟩ := hrow
  injection hve with e1 _ _
  subst e1
  obtain ⟨g, o, rfl, _, hc⟩ := q4 (by omega)
  have hcv := hc i v hv
  have hrs := (hI.ok _ (List.mem_of_getElem? (i := 1) rfl)).1
  obtain ⟨lb, hlb, hlbb⟩ := hrs.2 _ hvm
  obtain ⟨RA, rc, hve2, _, _⟩ := Rd.form hlb
  obtain ⟨m, hm⟩ : ∃ m, lb.length = m := ⟨_, rfl⟩
  rw [hm] at hve2
  subst hve2
  refine W_seq ?_
  refine W_region ?_
  refine WL_val rfl rfl rfl (by exact rLssT rfl rfl rfl (by omega)) ?_
  refine WL_nil ?_
  refine W_seq ?_
  refine W_cond true rfl ?_
  refine W_skip ?_
  refine W_seq ?_
  refine W_block ?_
  refine W_seq ?_
  refine W_region ?_
  refine WL_val rfl rfl rfl (by exact rIdx1 rfl Tryz.underlying68 (by kernel_rfl) rfl rfl (by omega)) ?_
  refine WL_val rfl rfl rfl (by exact rLd (v := .slice _ _ _) rfl (by kernel_rfl) rfl (by exact hcv)) ?_
  refine WL_val rfl rfl rfl (by exact rAsgnS rfl rfl) ?_
  refine WL_nil ?_
  clear hlb hrs hm hlbb
  unfold spt at hI
  replace hI := hI.pull 7 rfl
  replace hI : Inv S w0 w [Row 0 55 1 LA i lc lv, Row 0 55 1 (some ⟨g, o, none⟩) n c vals, RowsE vals D, B L.sb 73 (stoC { L with LA := LA, ln := i, lc := lc, cut := true, lv := lv, LD := LD } s), B L.nb 80 (flatB (s.n * 8) (ndF s)), B L.cb 84 (flatB s.k (clF L s)), Many s.k (cntE L s), Row 0 89 9 L.MA s.mails.length L.mc (s.mails.flatMap mailL), RowsE lv LD, Row 0 48 7 L.EA s.evs.length L.ec (s.evs.flatMap evL), Row 0 77 2 L.SA s.sts.length L.sc (s.sts.flatMap stmL)] := hI
  have h8 : ∀ w H, Inv S w0 w (RowsE vals D :: B L.sb 73 (stoC { L with LA := LA, ln := i, lc := lc, cut := true, lv := lv, LD := LD } s) :: H) → w.cell? ⟨L.sb, 8, none⟩ = some (.slice LA i lc) := fun w H hI => hI.cell 1 rfl rfl
  refine W_draw (by kernel_rfl) ?_
  refine WA_inv (T := [11]) hI.d0.d0.drew ?_
  intro Sx hSx hXS
  replace hI := hI.drew
  refine WT_take 0 rfl rfl (by kernel_rfl) (hXS _ hI.d0.d0) rfl (fun W hW => have hI := hSx W hW; (by exact rMoveP rfl rfl)) ?_
  refine WT_take 1 rfl rfl (by kernel_rfl) (hXS _ hI.d0.d0) rfl (fun W hW => have hI := hSx W hW; (by exact rMoveP rfl rfl)) ?_
  refine WT_take 2 rfl rfl (by kernel_rfl) (hXS _ hI.d0.d0) rfl (fun W hW => have hI := hSx W hW; (rNilChk rfl rfl)) ?_
  refine WT_take 3 rfl rfl (by kernel_rfl) (hXS _ hI.d0.d0) rfl (fun W hW => have hI := hSx W hW; (by exact rFld (off := 1) rfl (by kernel_rfl) rfl)) ?_
  refine WT_take 4 rfl rfl (by kernel_rfl) (hXS _ hI.d0.d0) rfl (fun W hW => have hI := hSx W hW; (by exact rLd (v := .slice _ _ _) rfl (by kernel_rfl) rfl (by exact (h8 _ _ hI)))) ?_
  refine WT_take 5 rfl rfl (by kernel_rfl) (hXS _ hI.d0.d0) rfl (fun W hW => have hI := hSx W hW; (by exact rMoveS rfl rfl)) ?_
  refine WT_one 6 rfl (by kernel_rfl) rfl ?_
  refine WL_call rfl rfl rfl (rCall (vs := [.slice _ _ _]) rfl Tryz.func64 rfl rfl rfl) ?_
  have hrs' := (hI.ok _ (List.mem_of_getElem? (i := 2) rfl)).1
  obtain ⟨lb', hlb', hb'⟩ := hrs'.2 _ hvm
  have hm' : m = lb'.length := by
    obtain ⟨_, _, he, _⟩ := Rd.form hlb'
    injection he
  refine (cloneB_any RA m rc lb' (fun _ => True) _ (by rw [hm'] at hlb' ⊢; exact Rd.mono hlb' fun _ _ => trivial) (by omega)).mono ?_
  rintro en w1 ⟨A2, c2, rfl, _, hJ⟩
  refine ⟨_, rfl, ?_⟩
  replace hI := hI.app1 hJ
  refine WL_nil ⟨hXS _ hI.d0.d0.d0, ?_⟩
  refine WT_one 7 rfl (by kernel_rfl) rfl ?_
  refine WL_lit (vs := [_]) (qs := [(0, .slice _ _ _)]) [.slice none 0 0] [0] hI rfl rfl rfl rfl rfl rfl Tryz.underlying68 (fun _ => by kernel_rfl) ?_
  clear hI; rintro b27 w - - hI
  refine WL_nil ⟨hXS _ hI.d0.d0.d0.d0, ?_⟩
  refine WT_one 8 rfl (by kernel_rfl) rfl ?_
  refine WL_app2 (z := .slice none 0 0) (by_ := 24) (news := [.slice A2 m c2]) hI rfl rfl rfl rfl rfl rfl Tryz.underlying68 (by kernel_rfl) rfl (by omega) (by rfl) hI.lit0 rfl (by omega) (by omega) (Nat.zero_le _) ?_
  clear hI; rintro A28 c28 w _ hc28 hI
  refine WL_nil ⟨hXS _ hI.d0.d0.d0.d0, ?_⟩
  refine WT_take 9 rfl rfl (by kernel_rfl) (hXS _ hI.d0.d0.d0.d0) rfl (fun W hW => have hI := hSx W hW; (rNilChk rfl rfl)) ?_
  refine WT_take 10 rfl rfl (by kernel_rfl) (hXS _ hI.d0.d0.d0.d0) rfl (fun W hW => have hI := hSx W hW; (by exact rFld (off := 1) rfl (by kernel_rfl) rfl)) ?_
  refine WT_A (by kernel_rfl) ?_
  clear hXS hSx
  refine WA_one 11 rfl (by kernel_rfl) ?_
  refine WL_st 5 rfl (u := .slice A28 (i + 1) c28) (j := 8) hI rfl rfl rfl rfl rfl rfl (by kernel_rfl) rfl rfl rfl ?_
  clear hI; intro w hI
  refine WL_nil ?_
  refine WA_end (by kernel_rfl) ?_
  refine W_region ?_
  refine WL_val rfl rfl rfl (by exact rInc rfl rfl rfl (by omega)) ?_
  refine WL_val rfl rfl rfl (by exact rMoveI rfl rfl) ?_
  refine WL_nil ?_
  replace hI := hI.d0
  have hA := (hI.pull 9 rfl).sw0
  have hB := ((hA.rowsIn hm' (by omega)).back 8).back 7
  refine ⟨⟨i + 1, A28, c28, lv ++ [Value.slice A2 m c2], (fun k => A2.map (·.block) = some k ∨ LD k), by omega, by simp [hlv], ⟨rfl, rfl, rfl, rfl, trivial⟩, hB⟩, by show n - ((i + 1 : Nat) : Int).toNat < n - (i : Int).toNat; omega⟩
end Go.Proofs.YtglioflpblpmpaaGreatDoor
namespace Go.Proofs.YtglioflpblpmpaaGreatDoor
open Go.RowKit
set_option linter.unusedVariables false
set_option linter.unusedSimpArgs false
/-- What those give that make links: a grid, or an error. -/
def LinkR (w0 : World) (v0 v1 : Value) (w' : World) : Prop :=
  (v1 = .nilIface ∧ ∃ (g n : Nat) (vals : List Value) (D : Nat → Prop), v0 = .slice (some ⟨g, 0, none⟩) n n ∧ vals.length = n ∧ (1 ≤ n ∧ n ≤ 7) ∧ Inv (fun _ => False) w0 w' [Row 0 55 1 (some ⟨g, 0, none⟩) n n vals, RowsE vals D]) ∨
  (v0 = .slice none 0 0 ∧ (∃ z, v1 = .iface 49 (.int .i64 z)) ∧ Pure w0 w')
theorem links_any (F : Nat) (n : Int) (fn : Func) (cap : List Value) (w0 : World) (hf : Tryz.prog.funcs[F]? = some fn) (hfn : (fn.name == "runtime.NumGoroutine") = false) (hfb : fn.body.isNone = false) (hC : ∀ m : Nat, n = (m : Int) → m ≤ 7 → CanF F cap w0) :
    Calls Tryz.prog 65 #[.int .i64 n, .func (.func F) #[] cap.toArray] w0 fun en w' => ∃ v0 v1, en = .returned (.tuple #[v0, v1]) ∧ LinkR w0 v0 v1 w' := by
  by_cases hn : 1 ≤ n ∧ n ≤ 7
  · obtain ⟨m, rfl⟩ : ∃ m : Nat, n = (m : Int) := ⟨n.toNat, by omega⟩
    refine (links_ok F m fn cap w0 hf hfn hfb (by omega) (hC m rfl (by omega))).mono ?_
    rintro en w' ⟨g, vals, D, rfl, hl, hI⟩
    exact ⟨_, _, rfl, .inl ⟨rfl, g, m, vals, D, rfl, hl, by omega, hI⟩⟩
  · refine (links_bad n _ w0 (by omega) ⟨F, cap.toArray, rfl⟩).mono ?_
    rintro en w' ⟨⟨z, rfl⟩, hp⟩
    exact ⟨_, _, rfl, .inr ⟨rfl, ⟨z, rfl⟩, hp⟩⟩
theorem LinkR.box {w0 w w' : World} {v0 v1 : Value} {H : List Ent} (hI : Inv (fun _ => False) w0 w H) (h : LinkR w v0 v1 w') : LinkR w0 v0 v1 w' := by
  rcases h with ⟨h1, g, n, vals, D, h2, h3, h4, h5⟩ | ⟨h1, h2, h3⟩
  · refine .inl ⟨h1, g, n, vals, D, h2, h3, h4, ?_⟩
    have h6 := hI.app2 h5
    exact ⟨h6.chg, fun e he => h6.ok e (by rcases List.mem_cons.1 he with rfl | he; simp; rw [List.mem_singleton.1 he]; simp), fun e he => h6.own e (by rcases List.mem_cons.1 he with rfl | he; simp; rw [List.mem_singleton.1 he]; simp), h5.apart⟩
  · exact .inr ⟨h1, h2, hI.pu.trans h3⟩
set_option maxHeartbeats 1000000 in
theorem whole_any (n : Int) (w0 : World) : Calls Tryz.prog 50 #[.int .i64 n] w0 fun en w' => ∃ v0 v1, en = .returned (.tuple #[v0, v1]) ∧ LinkR w0 v0 v1 w' := by
  have hI := Inv.start (fun _ => False) w0
  refine calls_of_W (N := Tryz.f50.ntmps) Tryz.func50 rfl rfl rfl ?_
  refine W_seq ?_
  refine W_region ?_
  refine WL_val rfl rfl rfl (by exact rAsgnS rfl rfl) ?_
  refine WL_val rfl rfl rfl (by exact rAsgnN rfl rfl) ?_
  refine WL_nil ?_
  refine W_seq ?_
  refine W_region ?_
  refine WL_val rfl rfl rfl (by exact rMoveI rfl rfl) ?_
  refine WL_call rfl rfl rfl (rCall (vs := [.int .i64 _, .func _ _ _]) rfl Tryz.func65 rfl rfl rfl) ?_
  refine (links_any 66 n _ [] _ Tryz.func66 rfl rfl (fun m _ _ => whole1_any _)).mono ?_
  rintro en w1 ⟨v0, v1, rfl, hL⟩
  refine ⟨_, rfl, ?_⟩
  refine WL_val rfl rfl rfl (rExtr rfl rfl rfl) ?_
  refine WL_val rfl rfl rfl (rExtr rfl rfl rfl) ?_
  refine WL_val rfl rfl rfl (by exact rAsgn rfl) ?_
  refine WL_val rfl rfl rfl (by exact rAsgn rfl) ?_
  refine WL_nil ?_
  refine W_ret ?_
  exact ret2 2 3 (.inr rfl) rfl ⟨v0, v1, rfl, hL⟩
set_option maxHeartbeats 1000000 in
theorem halves_any (n : Int) (w0 : World) : Calls Tryz.prog 51 #[.int .i64 n] w0 fun en w' => ∃ v0 v1, en = .returned (.tuple #[v0, v1]) ∧ LinkR w0 v0 v1 w' := by
  have hI := Inv.start (fun _ => False) w0
  refine calls_of_W (N := Tryz.f51.ntmps) Tryz.func51 rfl rfl rfl ?_
  refine W_seq ?_
  refine W_region ?_
  refine WL_box (u := .int .i64 _) (vs := #[_]) hI rfl rfl rfl rfl rfl rfl ?_
  clear hI; rintro b1 w - - hI
  refine WL_val rfl rfl rfl (by exact rAsgnS rfl rfl) ?_
  refine WL_val rfl rfl rfl (by exact rAsgnN rfl rfl) ?_
  refine WL_nil ?_
  refine W_seq ?_
  refine W_region ?_
  refine WL_val rfl rfl rfl (by exact rLd (v := .int .i64 _) rfl (by kernel_rfl) rfl (by exact hI.c0 rfl)) ?_
  refine WL_val rfl rfl rfl (rFunc (l := []) (m := [_]) rfl rfl rfl) ?_
  refine WL_call rfl rfl rfl (rCall (vs := [.int .i64 _, .func _ _ _]) rfl Tryz.func65 rfl rfl rfl) ?_
  refine (links_any 67 n _ [.pointer (some ⟨b1, 0, none⟩)] _ Tryz.func67 rfl rfl (fun m hm h7 => halves1_any b1 m _ h7 (by subst hm; exact hI.c0 rfl))).mono ?_
  rintro en w1 ⟨v0, v1, rfl, hL⟩
  refine ⟨_, rfl, ?_⟩
  replace hL := hL.box hI
  refine WL_val rfl rfl rfl (rExtr rfl rfl rfl) ?_
  refine WL_val rfl rfl rfl (rExtr rfl rfl rfl) ?_
  refine WL_val rfl rfl rfl (by exact rAsgn rfl) ?_
  refine WL_val rfl rfl rfl (by exact rAsgn rfl) ?_
  refine WL_nil ?_
  refine W_ret ?_
  exact ret2 2 3 (.inr rfl) rfl ⟨v0, v1, rfl, hL⟩
set_option maxHeartbeats 1000000 in
theorem bridge_any (n : Int) (w0 : World) : Calls Tryz.prog 52 #[.int .i64 n] w0 fun en w' => ∃ v0 v1, en = .returned (.tuple #[v0, v1]) ∧ LinkR w0 v0 v1 w' := by
  have hI := Inv.start (fun _ => False) w0
  refine calls_of_W (N := Tryz.f52.ntmps) Tryz.func52 rfl rfl rfl ?_
  refine W_seq ?_
  refine W_region ?_
  refine WL_box (u := .int .i64 _) (vs := #[_]) hI rfl rfl rfl rfl rfl rfl ?_
  clear hI; rintro b1 w - - hI
  refine WL_val rfl rfl rfl (by exact rAsgnS rfl rfl) ?_
  refine WL_val rfl rfl rfl (by exact rAsgnN rfl rfl) ?_
  refine WL_nil ?_
  refine W_seq ?_
  refine W_region ?_
  refine WL_val rfl rfl rfl (by exact rLd (v := .int .i64 _) rfl (by kernel_rfl) rfl (by exact hI.c0 rfl)) ?_
  refine WL_val rfl rfl rfl (rFunc (l := []) (m := [_]) rfl rfl rfl) ?_
  refine WL_call rfl rfl rfl (rCall (vs := [.int .i64 _, .func _ _ _]) rfl Tryz.func65 rfl rfl rfl) ?_
  refine (links_any 68 n _ [.pointer (some ⟨b1, 0, none⟩)] _ Tryz.func68 rfl rfl (fun m hm h7 => bridge1_any b1 m _ h7 (by subst hm; exact hI.c0 rfl))).mono ?_
  rintro en w1 ⟨v0, v1, rfl, hL⟩
  refine ⟨_, rfl, ?_⟩
  replace hL := hL.box hI
  refine WL_val rfl rfl rfl (rExtr rfl rfl rfl) ?_
  refine WL_val rfl rfl rfl (rExtr rfl rfl rfl) ?_
  refine WL_val rfl rfl rfl (by exact rAsgn rfl) ?_
  refine WL_val rfl rfl rfl (by exact rAsgn rfl) ?_
  refine WL_nil ?_
  refine W_ret ?_
  exact ret2 2 3 (.inr rfl) rfl ⟨v0, v1, rfl, hL⟩
set_option maxHeartbeats 1000000 in
theorem ring_any (n : Int) (w0 : World) : Calls Tryz.prog 53 #[.int .i64 n] w0 fun en w' => ∃ v0 v1, en = .returned (.tuple #[v0, v1]) ∧ LinkR w0 v0 v1 w' := by
  have hI := Inv.start (fun _ => False) w0
  refine calls_of_W (N := Tryz.f53.ntmps) Tryz.func53 rfl rfl rfl ?_
  refine W_seq ?_
  refine W_region ?_
  refine WL_box (u := .int .i64 _) (vs := #[_]) hI rfl rfl rfl rfl rfl rfl ?_
  clear hI; rintro b1 w - - hI
  refine WL_val rfl rfl rfl (by exact rAsgnS rfl rfl) ?_
  refine WL_val rfl rfl rfl (by exact rAsgnN rfl rfl) ?_
  refine WL_nil ?_
  refine W_seq ?_
  refine W_region ?_
  refine WL_val rfl rfl rfl (by exact rLd (v := .int .i64 _) rfl (by kernel_rfl) rfl (by exact hI.c0 rfl)) ?_
  refine WL_val rfl rfl rfl (rFunc (l := []) (m := [_]) rfl rfl rfl) ?_
  refine WL_call rfl rfl rfl (rCall (vs := [.int .i64 _, .func _ _ _]) rfl Tryz.func65 rfl rfl rfl) ?_
  refine (links_any 69 n _ [.pointer (some ⟨b1, 0, none⟩)] _ Tryz.func69 rfl rfl (fun m hm h7 => ring1_any b1 m _ h7 (by subst hm; exact hI.c0 rfl))).mono ?_
  rintro en w1 ⟨v0, v1, rfl, hL⟩
  refine ⟨_, rfl, ?_⟩
  replace hL := hL.box hI
  refine WL_val rfl rfl rfl (rExtr rfl rfl rfl) ?_
  refine WL_val rfl rfl rfl (rExtr rfl rfl rfl) ?_
  refine WL_val rfl rfl rfl (by exact rAsgn rfl) ?_
  refine WL_val rfl rfl rfl (by exact rAsgn rfl) ?_
  refine WL_nil ?_
  refine W_ret ?_
  exact ret2 2 3 (.inr rfl) rfl ⟨v0, v1, rfl, hL⟩
theorem LinkR.pure {w0 w' : World} {v0 v1 : Value} (h : LinkR w0 v0 v1 w') : Pure w0 w' := by
  rcases h with ⟨_, g, n, vals, D, _, _, _, h5⟩ | ⟨_, _, h3⟩
  · exact h5.pu
  · exact h3
set_option maxHeartbeats 1000000 in
theorem alone_any (n who : Int) (w0 : World) : Calls Tryz.prog 54 #[.int .i64 n, .int .i64 who] w0 fun en w' => ∃ v0 v1, en = .returned (.tuple #[v0, v1]) ∧ LinkR w0 v0 v1 w' := by
  have hI := Inv.start (fun _ => False) w0
  refine calls_of_W (N := Tryz.f54.ntmps) Tryz.func54 rfl rfl rfl ?_
  refine W_seq ?_
  refine W_region ?_
  refine WL_box (u := .int .i64 _) (vs := #[_]) hI rfl rfl rfl rfl rfl rfl ?_
  clear hI; rintro b3 w - - hI
  refine WL_val rfl rfl rfl (by exact rAsgnS rfl rfl) ?_
  refine WL_val rfl rfl rfl (by exact rAsgnN rfl rfl) ?_
  refine WL_nil ?_
  refine W_seq ?_
  refine W_region ?_
  refine WL_val rfl rfl rfl (by exact rMoveI rfl rfl) ?_
  refine WL_val rfl rfl rfl (rFunc (l := []) (m := [_]) rfl rfl rfl) ?_
  refine WL_call rfl rfl rfl (rCall (vs := [.int .i64 _, .func _ _ _]) rfl Tryz.func65 rfl rfl rfl) ?_
  refine (links_any 70 n _ [.pointer (some ⟨b3, 0, none⟩)] _ Tryz.func70 rfl rfl (fun m hm h7 => alone1_any b3 who _ (hI.c0 rfl))).mono ?_
  rintro en w1 ⟨v0, v1, rfl, hL⟩
  refine ⟨_, rfl, ?_⟩
  have hLb := hL.box hI
  replace hI := hI.pure hL.pure
  have hcs : (v1 = .nilIface ∧ ∃ (g m : Nat), v0 = .slice (some ⟨g, 0, none⟩) m m) ∨ ∃ z, v1 = .iface 49 (.int .i64 z) := by
    rcases hL with ⟨h1, g, m, vals, D, h2, _⟩ | ⟨_, ⟨z, h2⟩, _⟩
    · exact .inl ⟨h1, g, m, h2⟩
    · exact .inr ⟨z, h2⟩
  refine WL_val rfl rfl rfl (by exact rMoveT rfl rfl) ?_
  refine WL_val rfl rfl rfl (rExtr rfl rfl rfl) ?_
  refine WL_val rfl rfl rfl (rExtr rfl rfl rfl) ?_
  refine WL_val rfl rfl rfl (by exact rAsgn rfl) ?_
  refine WL_val rfl rfl rfl (by exact rAsgn rfl) ?_
  refine WL_nil ?_
  rcases hcs with ⟨rfl, g, m, rfl⟩ | ⟨z, rfl⟩
  rotate_left
  · refine W_seq ?_
    refine W_seq ?_
    refine W_region ?_
    refine WL_val rfl rfl rfl (by exact rMoveE rfl rfl) ?_
    refine WL_val rfl rfl rfl (by exact rIfaceEq rfl Tryz.underlying27 rfl rfl) ?_
    refine WL_val rfl rfl rfl (by exact rMoveB rfl rfl) ?_
    refine WL_skip rfl rfl rfl ?_
    refine WL_skip rfl rfl rfl ?_
    refine WL_skip rfl rfl rfl ?_
    refine WL_skip rfl rfl rfl ?_
    refine WL_skip rfl rfl rfl ?_
    refine WL_skip rfl rfl rfl ?_
    refine WL_skip rfl rfl rfl ?_
    refine WL_val rfl rfl rfl (by exact rPickFB rfl rfl rfl) ?_
    refine WL_nil ?_
    refine W_cond false rfl ?_
    refine W_skip ?_
    refine W_seq ?_
    refine W_region ?_
    refine WL_val rfl rfl rfl (by exact rMove rfl) ?_
    refine WL_val rfl rfl rfl (by exact rMoveE rfl rfl) ?_
    refine WL_val rfl rfl rfl (by exact rAsgn rfl) ?_
    refine WL_val rfl rfl rfl (by exact rAsgnE rfl rfl) ?_
    refine WL_nil ?_
    refine W_ret ?_
    exact ret2 4 5 (.inr rfl) rfl ⟨_, _, rfl, hLb⟩
  by_cases hw : who < 0 ∨ n ≤ who
  · refine W_seq ?_
    refine W_seq_cut (fun ρ w => ρ 24 = .bool true ∧ Pure w0 w) ?_ ?_
    · by_cases h1 : who < 0
      · refine W_region ?_
        refine WL_val rfl rfl rfl (by exact rMoveN rfl rfl) ?_
        refine WL_val rfl rfl rfl (by exact rNilEq rfl Tryz.underlying27 rfl) ?_
        refine WL_val rfl rfl rfl (by exact rMoveB rfl rfl) ?_
        refine WL_val rfl rfl rfl (by exact rLd (v := .int .i64 _) rfl (by kernel_rfl) rfl (by exact hI.c0 rfl)) ?_
        refine WL_val rfl rfl rfl (by exact rLssT rfl rfl rfl (by omega)) ?_
        refine WL_val rfl rfl rfl (by exact rMoveB rfl rfl) ?_
        refine WL_skip rfl rfl rfl ?_
        refine WL_skip rfl rfl rfl ?_
        refine WL_skip rfl rfl rfl ?_
        refine WL_val rfl rfl rfl (by exact rPickTB rfl rfl rfl) ?_
        refine WL_val rfl rfl rfl (by exact rPickTB rfl rfl rfl) ?_
        refine WL_nil ?_
        exact ⟨rfl, hI.pu⟩
      · have h2 : n ≤ who := by omega
        refine W_region ?_
        refine WL_val rfl rfl rfl (by exact rMoveN rfl rfl) ?_
        refine WL_val rfl rfl rfl (by exact rNilEq rfl Tryz.underlying27 rfl) ?_
        refine WL_val rfl rfl rfl (by exact rMoveB rfl rfl) ?_
        refine WL_val rfl rfl rfl (by exact rLd (v := .int .i64 _) rfl (by kernel_rfl) rfl (by exact hI.c0 rfl)) ?_
        refine WL_val rfl rfl rfl (by exact rLssF rfl rfl rfl (by omega)) ?_
        refine WL_val rfl rfl rfl (by exact rMoveB rfl rfl) ?_
        refine WL_val rfl rfl rfl (by exact rLd (v := .int .i64 _) rfl (by kernel_rfl) rfl (by exact hI.c0 rfl)) ?_
        refine WL_val rfl rfl rfl (by exact rMoveI rfl rfl) ?_
        refine WL_val rfl rfl rfl (by exact rGeqT rfl rfl rfl (by omega)) ?_
        refine WL_val rfl rfl rfl (by exact rPickFB rfl rfl rfl) ?_
        refine WL_val rfl rfl rfl (by exact rPickTB rfl rfl rfl) ?_
        refine WL_nil ?_
        exact ⟨rfl, hI.pu⟩
    clear hI
    rintro ρ w ⟨h24, hp⟩
    refine W_cond true h24 ?_
    refine W_seq ?_
    refine W_region ?_
    refine WL_val rfl rfl rfl (rIface rfl Tryz.underlying49 rfl rfl) ?_
    refine WL_val rfl rfl rfl (by exact rAsgnS rfl rfl) ?_
    refine WL_val rfl rfl rfl (by exact rAsgnE rfl rfl) ?_
    refine WL_nil ?_
    refine W_ret ?_
    exact ret2 4 5 (.inr rfl) rfl ⟨_, _, rfl, .inr ⟨rfl, ⟨_, rfl⟩, hp⟩⟩
  · refine W_seq ?_
    refine W_seq ?_
    refine W_region ?_
    refine WL_val rfl rfl rfl (by exact rMoveN rfl rfl) ?_
    refine WL_val rfl rfl rfl (by exact rNilEq rfl Tryz.underlying27 rfl) ?_
    refine WL_val rfl rfl rfl (by exact rMoveB rfl rfl) ?_
    refine WL_val rfl rfl rfl (by exact rLd (v := .int .i64 _) rfl (by kernel_rfl) rfl (by exact hI.c0 rfl)) ?_
    refine WL_val rfl rfl rfl (by exact rLssF rfl rfl rfl (by omega)) ?_
    refine WL_val rfl rfl rfl (by exact rMoveB rfl rfl) ?_
    refine WL_val rfl rfl rfl (by exact rLd (v := .int .i64 _) rfl (by kernel_rfl) rfl (by exact hI.c0 rfl)) ?_
    refine WL_val rfl rfl rfl (by exact rMoveI rfl rfl) ?_
    refine WL_val rfl rfl rfl (by exact rGeqF rfl rfl rfl (by omega)) ?_
    refine WL_val rfl rfl rfl (by exact rPickFB rfl rfl rfl) ?_
    refine WL_val rfl rfl rfl (by exact rPickTB rfl rfl rfl) ?_
    refine WL_nil ?_
    refine W_cond false rfl ?_
    refine W_skip ?_
    refine W_seq ?_
    refine W_region ?_
    refine WL_val rfl rfl rfl (by exact rMoveS rfl rfl) ?_
    refine WL_val rfl rfl rfl (by exact rMoveN rfl rfl) ?_
    refine WL_val rfl rfl rfl (by exact rAsgnS rfl rfl) ?_
    refine WL_val rfl rfl rfl (by exact rAsgnN rfl rfl) ?_
    refine WL_nil ?_
    refine W_ret ?_
    exact ret2 4 5 (.inr rfl) rfl ⟨_, _, rfl, hLb⟩
set_option maxHeartbeats 1000000 in
theorem plinks_any (what n who : Int) (w0 : World) : Calls Tryz.prog 32 #[.int .i64 what, .int .i64 n, .int .i64 who] w0 fun en w' => ∃ v0 v1, en = .returned (.tuple #[v0, v1]) ∧ LinkR w0 v0 v1 w' := by
  have hI := Inv.start (fun _ => False) w0
  refine calls_of_W (N := Tryz.f32.ntmps) Tryz.func32 rfl rfl rfl ?_
  refine W_seq ?_
  refine W_region ?_
  refine WL_val rfl rfl rfl (by exact rAsgnS rfl rfl) ?_
  refine WL_val rfl rfl rfl (by exact rAsgnN rfl rfl) ?_
  refine WL_nil ?_
  refine W_seq ?_
  refine W_seq ?_
  refine W_region ?_
  refine WL_val rfl rfl rfl (by exact rMoveI rfl rfl) ?_
  refine WL_nil ?_
  refine W_block ?_
  by_cases h7 : what = 7
  · refine W_seq ?_
    refine W_region ?_
    refine WL_val rfl rfl rfl (by exact rEqlT rfl rfl rfl (by omega)) ?_
    refine WL_val rfl rfl rfl (by exact rAsgnB rfl rfl) ?_
    refine WL_nil ?_
    refine W_cond true rfl ?_
    refine W_seq ?_
    refine W_region ?_
    refine WL_val rfl rfl rfl (by exact rMoveI rfl rfl) ?_
    refine WL_call rfl rfl rfl (rCall (vs := [.int .i64 _]) rfl Tryz.func50 rfl rfl rfl) ?_
    refine (whole_any n _).mono ?_
    rintro en w1 ⟨v0, v1, rfl, hL⟩
    refine ⟨_, rfl, ?_⟩
    refine WL_val rfl rfl rfl (rExtr rfl rfl rfl) ?_
    refine WL_val rfl rfl rfl (rExtr rfl rfl rfl) ?_
    refine WL_val rfl rfl rfl (by exact rAsgn rfl) ?_
    refine WL_val rfl rfl rfl (by exact rAsgn rfl) ?_
    refine WL_nil ?_
    refine W_ret ?_
    exact ret2 6 7 (.inr rfl) rfl ⟨v0, v1, rfl, hL⟩
  refine W_seq ?_
  refine W_region ?_
  refine WL_val rfl rfl rfl (by exact rEqlF rfl rfl rfl (by omega)) ?_
  refine WL_val rfl rfl rfl (by exact rAsgnB rfl rfl) ?_
  refine WL_nil ?_
  refine W_cond false rfl ?_
  by_cases h8 : what = 8
  · refine W_seq ?_
    refine W_region ?_
    refine WL_val rfl rfl rfl (by exact rEqlT rfl rfl rfl (by omega)) ?_
    refine WL_val rfl rfl rfl (by exact rAsgnB rfl rfl) ?_
    refine WL_nil ?_
    refine W_cond true rfl ?_
    refine W_seq ?_
    refine W_region ?_
    refine WL_val rfl rfl rfl (by exact rMoveI rfl rfl) ?_
    refine WL_call rfl rfl rfl (rCall (vs := [.int .i64 _]) rfl Tryz.func51 rfl rfl rfl) ?_
    refine (halves_any n _).mono ?_
    rintro en w1 ⟨v0, v1, rfl, hL⟩
    refine ⟨_, rfl, ?_⟩
    refine WL_val rfl rfl rfl (rExtr rfl rfl rfl) ?_
    refine WL_val rfl rfl rfl (rExtr rfl rfl rfl) ?_
    refine WL_val rfl rfl rfl (by exact rAsgn rfl) ?_
    refine WL_val rfl rfl rfl (by exact rAsgn rfl) ?_
    refine WL_nil ?_
    refine W_ret ?_
    exact ret2 6 7 (.inr rfl) rfl ⟨v0, v1, rfl, hL⟩
  refine W_seq ?_
  refine W_region ?_
  refine WL_val rfl rfl rfl (by exact rEqlF rfl rfl rfl (by omega)) ?_
  refine WL_val rfl rfl rfl (by exact rAsgnB rfl rfl) ?_
  refine WL_nil ?_
  refine W_cond false rfl ?_
  by_cases h9 : what = 9
  · refine W_seq ?_
    refine W_region ?_
    refine WL_val rfl rfl rfl (by exact rEqlT rfl rfl rfl (by omega)) ?_
    refine WL_val rfl rfl rfl (by exact rAsgnB rfl rfl) ?_
    refine WL_nil ?_
    refine W_cond true rfl ?_
    refine W_seq ?_
    refine W_region ?_
    refine WL_val rfl rfl rfl (by exact rMoveI rfl rfl) ?_
    refine WL_call rfl rfl rfl (rCall (vs := [.int .i64 _]) rfl Tryz.func52 rfl rfl rfl) ?_
    refine (bridge_any n _).mono ?_
    rintro en w1 ⟨v0, v1, rfl, hL⟩
    refine ⟨_, rfl, ?_⟩
    refine WL_val rfl rfl rfl (rExtr rfl rfl rfl) ?_
    refine WL_val rfl rfl rfl (rExtr rfl rfl rfl) ?_
    refine WL_val rfl rfl rfl (by exact rAsgn rfl) ?_
    refine WL_val rfl rfl rfl (by exact rAsgn rfl) ?_
    refine WL_nil ?_
    refine W_ret ?_
    exact ret2 6 7 (.inr rfl) rfl ⟨v0, v1, rfl, hL⟩
  refine W_seq ?_
  refine W_region ?_
  refine WL_val rfl rfl rfl (by exact rEqlF rfl rfl rfl (by omega)) ?_
  refine WL_val rfl rfl rfl (by exact rAsgnB rfl rfl) ?_
  refine WL_nil ?_
  refine W_cond false rfl ?_
  by_cases h10 : what = 10
  · refine W_seq ?_
    refine W_region ?_
    refine WL_val rfl rfl rfl (by exact rEqlT rfl rfl rfl (by omega)) ?_
    refine WL_val rfl rfl rfl (by exact rAsgnB rfl rfl) ?_
    refine WL_nil ?_
    refine W_cond true rfl ?_
    refine W_seq ?_
    refine W_region ?_
    refine WL_val rfl rfl rfl (by exact rMoveI rfl rfl) ?_
    refine WL_call rfl rfl rfl (rCall (vs := [.int .i64 _]) rfl Tryz.func53 rfl rfl rfl) ?_
    refine (ring_any n _).mono ?_
    rintro en w1 ⟨v0, v1, rfl, hL⟩
    refine ⟨_, rfl, ?_⟩
    refine WL_val rfl rfl rfl (rExtr rfl rfl rfl) ?_
    refine WL_val rfl rfl rfl (rExtr rfl rfl rfl) ?_
    refine WL_val rfl rfl rfl (by exact rAsgn rfl) ?_
    refine WL_val rfl rfl rfl (by exact rAsgn rfl) ?_
    refine WL_nil ?_
    refine W_ret ?_
    exact ret2 6 7 (.inr rfl) rfl ⟨v0, v1, rfl, hL⟩
  refine W_seq ?_
  refine W_region ?_
  refine WL_val rfl rfl rfl (by exact rEqlF rfl rfl rfl (by omega)) ?_
  refine WL_val rfl rfl rfl (by exact rAsgnB rfl rfl) ?_
  refine WL_nil ?_
  refine W_cond false rfl ?_
  refine W_skip ?_
  refine W_seq ?_
  refine W_region ?_
  refine WL_val rfl rfl rfl (by exact rMoveI rfl rfl) ?_
  refine WL_val rfl rfl rfl (by exact rMoveI rfl rfl) ?_
  refine WL_call rfl rfl rfl (rCall (vs := [.int .i64 _, .int .i64 _]) rfl Tryz.func54 rfl rfl rfl) ?_
  refine (alone_any n who _).mono ?_
  rintro en w1 ⟨v0, v1, rfl, hL⟩
  refine ⟨_, rfl, ?_⟩
  refine WL_val rfl rfl rfl (rExtr rfl rfl rfl) ?_
  refine WL_val rfl rfl rfl (rExtr rfl rfl rfl) ?_
  refine WL_val rfl rfl rfl (by exact rAsgn rfl) ?_
  refine WL_val rfl rfl rfl (by exact rAsgn rfl) ?_
  refine WL_nil ?_
  refine W_ret ?_
  exact ret2 6 7 (.inr rfl) rfl ⟨v0, v1, rfl, hL⟩
end Go.Proofs.YtglioflpblpmpaaGreatDoor
namespace Go.Proofs.YtglioflpblpmpaaGreatDoor
open Go.RowKit
set_option linter.unusedVariables false
set_option linter.unusedSimpArgs false
/-- The rows, of which one is known. -/
def RowsV (vals : List Value) (D : Nat → Prop) (v : Value) (lb : List Bool) : Ent := ⟨D, fun w => (RowsE vals D).Φ w ∧ Bools w D v lb⟩
theorem RowsV.ok {w : World} {vals : List Value} {D : Nat → Prop} {v : Value} {lb : List Bool} (h : (RowsE vals D).ok w) (hb : Bools w D v lb) : (RowsV vals D v lb).ok w :=
  Ent.mk_ok ⟨h.1, hb⟩ (fun k hk => h.2.1 k hk) (fun S w1 w2 hc hS h1 => ⟨h.2.2 S w1 w2 hc hS h1.1, Rd.chg h1.2 hc (fun k hk => hS k hk)⟩)
theorem RowsV.to {S : Nat → Prop} {w0 w : World} {H : List Ent} {vals : List Value} {D : Nat → Prop} {v : Value} (h : Inv S w0 w (RowsE vals D :: H)) (hv : v ∈ vals) : ∃ lb : List Bool, lb.length ≤ 1000 ∧ Inv S w0 w (RowsV vals D v lb :: H) := by
  have hk := h.ok _ (List.mem_of_getElem? (i := 0) rfl)
  obtain ⟨lb, hb, hl⟩ := hk.1.2 v hv
  exact ⟨lb, hl, h.u0 (Chg.refl _ _) (RowsV.ok hk hb) (fun k hk => .inl hk)⟩
theorem RowsV.from {S : Nat → Prop} {w0 w : World} {H : List Ent} {vals : List Value} {D : Nat → Prop} {v : Value} {lb : List Bool} (h : Inv S w0 w (RowsV vals D v lb :: H)) : Inv S w0 w (RowsE vals D :: H) := by
  have hk := (h.ok _ (List.mem_of_getElem? (i := 0) rfl)).1.1
  exact h.u0 (Chg.refl _ _) (RowsE.ok hk.1 hk.2) (fun k hk => .inl hk)
set_option maxHeartbeats 1000000 in
theorem num_any (i n b sb : Nat) (w0 : World) (hb : w0.cell? ⟨b, 0, none⟩ = some (.pointer (some ⟨sb, 0, none⟩))) (hn : w0.cell? ⟨sb, 0, none⟩ = some (.int .i64 (n : Int))) (hi : i < 1000) (hn1 : 1 ≤ n ∧ n ≤ 7) :
    Calls Tryz.prog 49 #[.int .i64 (i : Int), .pointer (some ⟨b, 0, none⟩)] w0 fun en w' => ∃ j : Nat, en = .returned (.int .i64 (j : Int)) ∧ j < n ∧ Pure w0 w' := by
  have hI := Inv.start (fun _ => False) w0
  refine calls_of_W (N := Tryz.f49.ntmps) Tryz.func49 rfl rfl rfl ?_
  refine W_seq ?_
  refine W_region ?_
  refine WL_val rfl rfl rfl (by exact rAsgnI rfl rfl) ?_
  refine WL_nil ?_
  by_cases h : i < n
  · refine W_seq ?_
    refine W_seq ?_
    refine W_region ?_
    refine WL_val rfl rfl rfl (by exact rMoveI rfl rfl) ?_
    refine WL_val rfl rfl rfl (by exact rLd (v := .pointer _) rfl (by kernel_rfl) rfl (by exact hI.oldp hb)) ?_
    refine WL_val rfl rfl rfl (rNilChk rfl rfl) ?_
    refine WL_val rfl rfl rfl (by exact rFldN (off := 0) rfl (by kernel_rfl) rfl) ?_
    refine WL_val rfl rfl rfl (by exact rFldN (off := 0) rfl (by kernel_rfl) rfl) ?_
    refine WL_val rfl rfl rfl (by exact rLd (v := .int .i64 _) rfl (by kernel_rfl) rfl (by exact hI.oldp hn)) ?_
    refine WL_val rfl rfl rfl (by exact rLssT rfl rfl rfl (by omega)) ?_
    refine WL_nil ?_
    refine W_cond true rfl ?_
    refine W_seq ?_
    refine W_region ?_
    refine WL_val rfl rfl rfl (by exact rMoveI rfl rfl) ?_
    refine WL_val rfl rfl rfl (by exact rAsgnI rfl rfl) ?_
    refine WL_nil ?_
    refine W_ret ?_
    exact ret1 3 (.inr rfl) rfl ⟨i, rfl, h, hI.pu⟩
  · refine W_seq ?_
    refine W_seq ?_
    refine W_region ?_
    refine WL_val rfl rfl rfl (by exact rMoveI rfl rfl) ?_
    refine WL_val rfl rfl rfl (by exact rLd (v := .pointer _) rfl (by kernel_rfl) rfl (by exact hI.oldp hb)) ?_
    refine WL_val rfl rfl rfl (rNilChk rfl rfl) ?_
    refine WL_val rfl rfl rfl (by exact rFldN (off := 0) rfl (by kernel_rfl) rfl) ?_
    refine WL_val rfl rfl rfl (by exact rFldN (off := 0) rfl (by kernel_rfl) rfl) ?_
    refine WL_val rfl rfl rfl (by exact rLd (v := .int .i64 _) rfl (by kernel_rfl) rfl (by exact hI.oldp hn)) ?_
    refine WL_val rfl rfl rfl (by exact rLssF rfl rfl rfl (by omega)) ?_
    refine WL_nil ?_
    refine W_cond false rfl ?_
    refine W_skip ?_
    refine W_seq ?_
    refine W_draw (by kernel_rfl) ?_
    refine WA_inv (T := []) hI.drew ?_
    intro Sx hSx hXS
    replace hI := hI.drew
    refine WT_take 0 rfl rfl (by kernel_rfl) (hXS _ hI) rfl (fun W hW => have hI := hSx W hW; (by exact rMoveI rfl rfl)) ?_
    refine WT_take 1 rfl rfl (by kernel_rfl) (hXS _ hI) rfl (fun W hW => have hI := hSx W hW; (by exact rLd (v := .pointer _) rfl (by kernel_rfl) rfl (by exact hI.oldp hb))) ?_
    refine WT_take 2 rfl rfl (by kernel_rfl) (hXS _ hI) rfl (fun W hW => have hI := hSx W hW; (rNilChk rfl rfl)) ?_
    refine WT_take 3 rfl rfl (by kernel_rfl) (hXS _ hI) rfl (fun W hW => have hI := hSx W hW; (by exact rFldN (off := 0) rfl (by kernel_rfl) rfl)) ?_
    refine WT_take 4 rfl rfl (by kernel_rfl) (hXS _ hI) rfl (fun W hW => have hI := hSx W hW; (by exact rFldN (off := 0) rfl (by kernel_rfl) rfl)) ?_
    refine WT_take 5 rfl rfl (by kernel_rfl) (hXS _ hI) rfl (fun W hW => have hI := hSx W hW; (by exact rLd (v := .int .i64 _) rfl (by kernel_rfl) rfl (by exact hI.oldp hn))) ?_
    refine WT_take 6 rfl rfl (by kernel_rfl) (hXS _ hI) rfl (fun W hW => have hI := hSx W hW; (rSubNN rfl rfl rfl (by omega) (by omega))) ?_
    refine WT_take 7 rfl rfl (by kernel_rfl) (hXS _ hI) rfl (fun W hW => have hI := hSx W hW; (by exact rLd (v := .pointer _) rfl (by kernel_rfl) rfl (by exact hI.oldp hb))) ?_
    refine WT_take 8 rfl rfl (by kernel_rfl) (hXS _ hI) rfl (fun W hW => have hI := hSx W hW; (rNilChk rfl rfl)) ?_
    refine WT_take 9 rfl rfl (by kernel_rfl) (hXS _ hI) rfl (fun W hW => have hI := hSx W hW; (by exact rFldN (off := 0) rfl (by kernel_rfl) rfl)) ?_
    refine WT_take 10 rfl rfl (by kernel_rfl) (hXS _ hI) rfl (fun W hW => have hI := hSx W hW; (by exact rFldN (off := 0) rfl (by kernel_rfl) rfl)) ?_
    refine WT_take 11 rfl rfl (by kernel_rfl) (hXS _ hI) rfl (fun W hW => have hI := hSx W hW; (by exact rLd (v := .int .i64 _) rfl (by kernel_rfl) rfl (by exact hI.oldp hn))) ?_
    refine WT_take 12 rfl rfl (by kernel_rfl) (hXS _ hI) rfl (fun W hW => have hI := hSx W hW; (rRemNN rfl rfl rfl (by omega) (by omega))) ?_
    refine WT_take 13 rfl rfl (by kernel_rfl) (hXS _ hI) rfl (fun W hW => have hI := hSx W hW; (by exact rAsgnI rfl rfl)) ?_
    refine WT_end (by kernel_rfl) ?_
    refine W_ret ?_
    exact ret1 3 (.inr rfl) rfl ⟨(i - n) % n, rfl, Nat.mod_lt _ (by omega), hI.pu⟩
theorem Inv.rowsNil {S : Nat → Prop} {w0 w : World} {H : List Ent} (h : Inv S w0 w H) : Inv S w0 w (Row 0 55 1 none 0 0 [] :: RowsE [] (fun _ => False) :: H) :=
  (h.fresh (Pure.refl w) (RowsE.ok (w := w) (vals := []) (D := fun _ => False) (fun _ h => h.elim) (fun v hv => by simp at hv)) (fun k hk => hk.elim)).fresh (Pure.refl w) (Row.nil w 0 55 1) (fun k hk => by simp [Row] at hk)
def CutPost (L : StL) (s : StS) (X : List Ent) (S : Nat → Prop) (w0 : World) (en : Ending) (w' : World) : Prop :=
  (∃ v, en = .returned v) ∧ ∃ L', L'.sb = L.sb ∧ L'.cw = L.cw ∧ Inv S w0 w' (spt L' s)
set_option maxHeartbeats 1000000 in
theorem cutNil (L : StL) (s : StS) (S : Nat → Prop) (w0 : World) (hI : Inv S w0 w0 (spt L s)) :
    Calls Tryz.prog 31 #[.pointer (some ⟨L.sb, 0, none⟩), .slice none 0 0] w0 (CutPost L s [] S w0) := by
  refine calls_of_W (N := Tryz.f31.ntmps) Tryz.func31 rfl rfl rfl ?_
  refine W_seq ?_
  refine W_region ?_
  refine WL_box (u := .pointer _) (vs := #[_]) hI rfl rfl rfl rfl rfl rfl ?_
  clear hI; rintro b2 w - - hI
  refine WL_val rfl rfl rfl (by exact rAsgnN rfl rfl) ?_
  refine WL_nil ?_
  refine W_seq ?_
  refine W_seq ?_
  refine W_region ?_
  refine WL_val rfl rfl rfl (by exact rLd (v := .pointer _) rfl (by kernel_rfl) rfl (by exact hI.c0 rfl)) ?_
  refine WL_val rfl rfl rfl (rPtrEq rfl Tryz.underlying30 rfl rfl) ?_
  refine WL_val rfl rfl rfl (by exact rMoveB rfl rfl) ?_
  refine WL_val rfl rfl rfl (by exact rMoveS rfl rfl) ?_
  refine WL_val rfl rfl rfl (rSliceNeF rfl Tryz.underlying68 rfl) ?_
  refine WL_val rfl rfl rfl (by exact rMoveB rfl rfl) ?_
  refine WL_skip rfl rfl rfl ?_
  refine WL_skip rfl rfl rfl ?_
  refine WL_skip rfl rfl rfl ?_
  refine WL_skip rfl rfl rfl ?_
  refine WL_skip rfl rfl rfl ?_
  refine WL_skip rfl rfl rfl ?_
  refine WL_skip rfl rfl rfl ?_
  refine WL_skip rfl rfl rfl ?_
  refine WL_val rfl rfl rfl (by exact rPickFB rfl rfl rfl) ?_
  refine WL_val rfl rfl rfl (by exact rPickFB rfl rfl rfl) ?_
  refine WL_nil ?_
  refine W_cond false rfl ?_
  refine W_skip ?_
  refine W_seq ?_
  refine W_seq ?_
  refine W_region ?_
  refine WL_val rfl rfl rfl (by exact rMoveS rfl rfl) ?_
  refine WL_val rfl rfl rfl (rSliceNilT rfl Tryz.underlying68 rfl) ?_
  refine WL_nil ?_
  refine W_cond true rfl ?_
  replace hI := hI.rowsNil.pull 2 rfl
  refine W_seq ?_
  refine W_region ?_
  refine WL_val rfl rfl rfl (by exact rLd (v := .pointer _) rfl (by kernel_rfl) rfl (by exact hI.c0 rfl)) ?_
  refine WL_val rfl rfl rfl (rNilChk rfl rfl) ?_
  refine WL_val rfl rfl rfl (by exact rFldN (off := 7) rfl (by kernel_rfl) rfl) ?_
  refine WL_call rfl rfl rfl (rCall (vs := [.pointer _, .slice _ _ _]) rfl Tryz.func48 rfl rfl rfl) ?_
  refine (ncut_any L s none 0 0 [] (fun _ => False) (by omega) rfl (DLs _) _ (hI.fromB (X := [_]))).mono ?_
  rintro en w1 ⟨rfl, LA, ln, lc, cut, lv, LD, hJ⟩
  refine ⟨_, rfl, ?_⟩
  replace hI := hI.callB (X := [_]) hJ
  refine WL_nil ?_
  refine W_seq ?_
  refine W_region ?_
  refine WL_val rfl rfl rfl (by exact rAsgnN rfl rfl) ?_
  refine WL_nil ?_
  refine W_ret ?_
  exact ret1 4 (.inr rfl) rfl ⟨⟨_, rfl⟩, { L with LA := LA, ln := ln, lc := lc, cut := cut, lv := lv, LD := LD }, rfl, rfl, hI.d0.d0.d0⟩
set_option maxHeartbeats 4000000 in
theorem cutSome (L : StL) (s : StS) (M g m : Nat) (vals : List Value) (D : Nat → Prop) (h : SOk L s M) (hvl : vals.length = m) (S : Nat → Prop) (w0 : World) (hI : Inv S w0 w0 ([Row 0 55 1 (some ⟨g, 0, none⟩) m m vals, RowsE vals D] ++ spt L s)) :
    Calls Tryz.prog 31 #[.pointer (some ⟨L.sb, 0, none⟩), .slice (some ⟨g, 0, none⟩) m m] w0 (CutPost L s [] S w0) := by
  have hn := h.n1
  have hk := h.k1
  refine calls_of_W (N := Tryz.f31.ntmps) Tryz.func31 rfl rfl rfl ?_
  refine W_seq ?_
  refine W_region ?_
  refine WL_box (u := .pointer _) (vs := #[_]) hI rfl rfl rfl rfl rfl rfl ?_
  clear hI; rintro b2 w - - hI
  refine WL_val rfl rfl rfl (by exact rAsgnN rfl rfl) ?_
  refine WL_nil ?_
  by_cases hm : m = s.n
  rotate_left
  · have hc0 : ∀ w b2, Inv S w0 w ([B b2 30 #[.pointer (some ⟨L.sb, 0, none⟩)], Row 0 55 1 (some ⟨g, 0, none⟩) m m vals, RowsE vals D] ++ spt L s) → w.cell? ⟨L.sb, 0, none⟩ = some (.int .i64 (s.n : Int)) := fun w b2 hI => sp_c0 hI
    refine W_seq ?_
    refine W_seq ?_
    refine W_region ?_
    refine WL_val rfl rfl rfl (by exact rLd (v := .pointer _) rfl (by kernel_rfl) rfl (by exact hI.c0 rfl)) ?_
    refine WL_val rfl rfl rfl (rPtrEq rfl Tryz.underlying30 rfl rfl) ?_
    refine WL_val rfl rfl rfl (by exact rMoveB rfl rfl) ?_
    refine WL_val rfl rfl rfl (by exact rMoveS rfl rfl) ?_
    refine WL_val rfl rfl rfl (rSliceNeT rfl Tryz.underlying68 rfl) ?_
    refine WL_val rfl rfl rfl (by exact rMoveB rfl rfl) ?_
    refine WL_val rfl rfl rfl (by exact rMoveS rfl rfl) ?_
    refine WL_val rfl rfl rfl (rLen rfl Tryz.underlying68 rfl) ?_
    refine WL_val rfl rfl rfl (by exact rLd (v := .pointer _) rfl (by kernel_rfl) rfl (by exact hI.c0 rfl)) ?_
    refine WL_val rfl rfl rfl (rNilChk rfl rfl) ?_
    refine WL_val rfl rfl rfl (by exact rFldN (off := 0) rfl (by kernel_rfl) rfl) ?_
    refine WL_val rfl rfl rfl (by exact rFldN (off := 0) rfl (by kernel_rfl) rfl) ?_
    refine WL_val rfl rfl rfl (by exact rLd (v := .int .i64 _) rfl (by kernel_rfl) rfl (by exact (hc0 _ _ hI))) ?_
    refine WL_val rfl rfl rfl (by exact rNeqT rfl rfl rfl (by omega)) ?_
    refine WL_val rfl rfl rfl (by exact rPickTB rfl rfl rfl) ?_
    refine WL_val rfl rfl rfl (by exact rPickFB rfl rfl rfl) ?_
    refine WL_nil ?_
    refine W_cond true rfl ?_
    refine W_seq ?_
    refine W_region ?_
    refine WL_val rfl rfl rfl (rIface rfl Tryz.underlying49 rfl rfl) ?_
    refine WL_val rfl rfl rfl (by exact rAsgnE rfl rfl) ?_
    refine WL_nil ?_
    refine W_ret ?_
    exact ret1 4 (.inr rfl) rfl ⟨⟨_, rfl⟩, L, rfl, rfl, hI.d0.d0.d0⟩
  subst hm
  replace hI : Inv S w0 w ([B b2 30 #[.pointer (some ⟨L.sb, 0, none⟩)], Row 0 55 1 (some ⟨g, 0, none⟩) s.n s.n vals, RowsE vals D] ++ spt L s) := hI
  have hc0 : ∀ w X, Inv S w0 w (X ++ spt L s) → w.cell? ⟨L.sb, 0, none⟩ = some (.int .i64 (s.n : Int)) := fun w X hI => sp_c0 hI
  have hc1 : ∀ w X, Inv S w0 w (X ++ spt L s) → w.cell? ⟨L.sb, 1, none⟩ = some (.int .i64 (s.k : Int)) := fun w X hI => hI.fromB.cell 0 rfl rfl
  have hd0 : ∀ w, Inv S w0 w ([B b2 30 #[.pointer (some ⟨L.sb, 0, none⟩)], Row 0 55 1 (some ⟨g, 0, none⟩) s.n s.n vals, RowsE vals D] ++ spt L s) → w.cell? ⟨L.sb, 0, none⟩ = some (.int .i64 (s.n : Int)) ∧ w.cell? ⟨L.sb, 1, none⟩ = some (.int .i64 (s.k : Int)) := fun w hI => ⟨hc0 w _ hI, hc1 w _ hI⟩
  refine W_seq ?_
  refine W_seq ?_
  refine W_region ?_
  refine WL_val rfl rfl rfl (by exact rLd (v := .pointer _) rfl (by kernel_rfl) rfl (by exact hI.c0 rfl)) ?_
  refine WL_val rfl rfl rfl (rPtrEq rfl Tryz.underlying30 rfl rfl) ?_
  refine WL_val rfl rfl rfl (by exact rMoveB rfl rfl) ?_
  refine WL_val rfl rfl rfl (by exact rMoveS rfl rfl) ?_
  refine WL_val rfl rfl rfl (rSliceNeT rfl Tryz.underlying68 rfl) ?_
  refine WL_val rfl rfl rfl (by exact rMoveB rfl rfl) ?_
  refine WL_val rfl rfl rfl (by exact rMoveS rfl rfl) ?_
  refine WL_val rfl rfl rfl (rLen rfl Tryz.underlying68 rfl) ?_
  refine WL_val rfl rfl rfl (by exact rLd (v := .pointer _) rfl (by kernel_rfl) rfl (by exact hI.c0 rfl)) ?_
  refine WL_val rfl rfl rfl (rNilChk rfl rfl) ?_
  refine WL_val rfl rfl rfl (by exact rFldN (off := 0) rfl (by kernel_rfl) rfl) ?_
  refine WL_val rfl rfl rfl (by exact rFldN (off := 0) rfl (by kernel_rfl) rfl) ?_
  refine WL_val rfl rfl rfl (by exact rLd (v := .int .i64 _) rfl (by kernel_rfl) rfl (by exact ((hd0 _ hI).1))) ?_
  refine WL_val rfl rfl rfl (by exact rNeqF rfl rfl rfl (by omega)) ?_
  refine WL_val rfl rfl rfl (by exact rPickTB rfl rfl rfl) ?_
  refine WL_val rfl rfl rfl (by exact rPickFB rfl rfl rfl) ?_
  refine WL_nil ?_
  refine W_cond false rfl ?_
  refine W_skip ?_
  refine W_seq ?_
  refine W_seq ?_
  refine W_region ?_
  refine WL_val rfl rfl rfl (by exact rMoveS rfl rfl) ?_
  refine WL_val rfl rfl rfl (rSliceNilF rfl Tryz.underlying68 rfl) ?_
  refine WL_nil ?_
  refine W_cond false rfl ?_
  refine W_skip ?_
  refine W_seq ?_
  refine W_region ?_
  refine WL_val rfl rfl rfl (rFunc (l := []) (m := [_]) rfl rfl rfl) ?_
  refine WL_val rfl rfl rfl (by exact rAsgnF rfl rfl) ?_
  refine WL_nil ?_
  obtain ⟨N, hN⟩ : ∃ N, s.n + s.k = N := ⟨_, rfl⟩
  refine W_seq ?_
  refine W_draw (by kernel_rfl) ?_
  refine WA_inv (T := []) hI.drew ?_
  intro Sx hSx hXS
  replace hI := hI.drew
  refine WT_take 0 rfl rfl (by kernel_rfl) (hXS _ hI) rfl (fun W hW => have hI := hSx W hW; (by exact rLd (v := .pointer _) rfl (by kernel_rfl) rfl (by exact hI.c0 rfl))) ?_
  refine WT_take 1 rfl rfl (by kernel_rfl) (hXS _ hI) rfl (fun W hW => have hI := hSx W hW; (rNilChk rfl rfl)) ?_
  refine WT_take 2 rfl rfl (by kernel_rfl) (hXS _ hI) rfl (fun W hW => have hI := hSx W hW; (by exact rFldN (off := 0) rfl (by kernel_rfl) rfl)) ?_
  refine WT_take 3 rfl rfl (by kernel_rfl) (hXS _ hI) rfl (fun W hW => have hI := hSx W hW; (by exact rFldN (off := 0) rfl (by kernel_rfl) rfl)) ?_
  refine WT_take 4 rfl rfl (by kernel_rfl) (hXS _ hI) rfl (fun W hW => have hI := hSx W hW; (rLd (v := .int .i64 (s.n : Int)) rfl (by kernel_rfl) rfl (hd0 _ hI).1)) ?_
  refine WT_take 5 rfl rfl (by kernel_rfl) (hXS _ hI) rfl (fun W hW => have hI := hSx W hW; (by exact rLd (v := .pointer _) rfl (by kernel_rfl) rfl (by exact hI.c0 rfl))) ?_
  refine WT_take 6 rfl rfl (by kernel_rfl) (hXS _ hI) rfl (fun W hW => have hI := hSx W hW; (rNilChk rfl rfl)) ?_
  refine WT_take 7 rfl rfl (by kernel_rfl) (hXS _ hI) rfl (fun W hW => have hI := hSx W hW; (by exact rFldN (off := 0) rfl (by kernel_rfl) rfl)) ?_
  refine WT_take 8 rfl rfl (by kernel_rfl) (hXS _ hI) rfl (fun W hW => have hI := hSx W hW; (by exact rFldN (off := 1) rfl (by kernel_rfl) rfl)) ?_
  refine WT_take 9 rfl rfl (by kernel_rfl) (hXS _ hI) rfl (fun W hW => have hI := hSx W hW; (rLd (v := .int .i64 (s.k : Int)) rfl (by kernel_rfl) rfl (hd0 _ hI).2)) ?_
  refine WT_take 10 rfl rfl (by kernel_rfl) (hXS _ hI) rfl (fun W hW => have hI := hSx W hW; ((hN ▸ rAddNN rfl rfl rfl (by omega) : Runs _ _ _ _ (.int .i64 (N : Int))))) ?_
  refine WT_one 11 rfl (by kernel_rfl) rfl ?_
  refine WL_mkZ (n := N) (m := 1) (by_ := 24) (z := .slice none 0 0) [.slice none 0 0] hI rfl rfl rfl rfl rfl rfl Tryz.underlying68 (by kernel_rfl) rfl rfl (by omega) (by omega) (by omega) ?_
  clear hI; rintro b46 w - - hI
  refine WL_nil ⟨hXS _ hI.d0, ?_⟩
  refine WT_take 12 rfl rfl (by kernel_rfl) (hXS _ hI.d0) rfl (fun W hW => have hI := hSx W hW; (by exact rAsgnS rfl rfl)) ?_
  refine WT_end (by kernel_rfl) ?_
  have hst : flatB N (fun _ => [Value.slice none 0 0]) = (([] : List Value) ++ List.replicate (N - 0) (Value.slice none 0 0)).toArray := flat_rep N _
  rw [hst] at hI
  replace hI := (hI.fresh (Pure.refl _) (RowsE.ok (w := w) (vals := []) (D := fun _ => False) (fun _ h => h.elim) (fun v hv => by simp at hv)) (fun k hk => hk.elim)).sw0
  have hb2 : ∀ w X Y, Inv S w0 w (X ++ (B b2 30 #[.pointer (some ⟨L.sb, 0, none⟩)] :: Y)) → w.cell? ⟨b2, 0, none⟩ = some (.pointer (some ⟨L.sb, 0, none⟩)) := fun w X Y hI => hI.fromB.cell 0 rfl rfl
  refine W_seq_cut (fun ρ w => ∃ (done : List Value) (E : Nat → Prop), done.length = N ∧ Has ρ [(6, .slice (some ⟨b46, 0, none⟩) N N), (2, .pointer (some ⟨b2, 0, none⟩))] ∧ Inv S w0 w ([B b46 55 (done ++ List.replicate (N - N) (Value.slice none 0 0)).toArray, RowsE done E, B b2 30 #[.pointer (some ⟨L.sb, 0, none⟩)], Row 0 55 1 (some ⟨g, 0, none⟩) s.n s.n vals, RowsE vals D] ++ spt L s)) ?_ ?_
  · refine W_seq ?_
    refine W_region ?_
    refine WL_val rfl rfl rfl (by exact rMoveS rfl rfl) ?_
    refine WL_val rfl rfl rfl (rLen rfl Tryz.underlying68 rfl) ?_
    refine WL_val rfl rfl rfl (by exact rMoveI rfl rfl) ?_
    refine WL_nil ?_
    refine W_block ?_
    refine W_loop (fun ρ w => ∃ (a : Nat) (done : List Value) (E : Nat → Prop), a ≤ N ∧ done.length = a ∧ Has ρ [(49, .int .i64 (a : Int)), (48, .int .i64 (N : Int)), (1, .slice (some ⟨g, 0, none⟩) s.n s.n), (5, .func (.func 49) #[] #[.pointer (some ⟨b2, 0, none⟩)]), (6, .slice (some ⟨b46, 0, none⟩) N N), (2, .pointer (some ⟨b2, 0, none⟩))] ∧
      Inv S w0 w ([B b46 55 (done ++ List.replicate (N - a) (Value.slice none 0 0)).toArray, RowsE done E, B b2 30 #[.pointer (some ⟨L.sb, 0, none⟩)], Row 0 55 1 (some ⟨g, 0, none⟩) s.n s.n vals, RowsE vals D] ++ spt L s)) (fun ρ _ => N - cnt (ρ 49))
      ⟨0, [], fun _ => False, by omega, rfl, ⟨rfl, rfl, rfl, rfl, rfl, rfl, trivial⟩, hI⟩ ?_
    clear hI
    rintro ρ w ⟨a, done, E, ha, hdl, hH, hI⟩
    obtain ⟨σ, rfl⟩ := hH.open
    by_cases haN : a < N
    rotate_left
    · obtain rfl : a = N := by omega
      refine W_seq ?_
      refine W_region ?_
      refine WL_val rfl rfl rfl (by exact rLssF rfl rfl rfl (by omega)) ?_
      refine WL_nil ?_
      refine W_seq ?_
      refine W_cond false rfl ?_
      refine W_exit ?_
      exact ⟨done, E, hdl, ⟨rfl, rfl, trivial⟩, hI⟩
    refine W_seq ?_
    refine W_region ?_
    refine WL_val rfl rfl rfl (by exact rLssT rfl rfl rfl (by omega)) ?_
    refine WL_nil ?_
    refine W_seq ?_
    refine W_cond true rfl ?_
    refine W_skip ?_
    refine W_seq ?_
    refine W_block ?_
    refine W_seq ?_
    refine W_region ?_
    refine WL_val rfl rfl rfl (by exact rMoveI rfl rfl) ?_
    refine WL_val rfl rfl rfl (by exact rAsgnI rfl rfl) ?_
    refine WL_nil ?_
    refine W_seq ?_
    refine W_region ?_
    refine WL_val rfl rfl rfl (by exact rMoveS rfl rfl) ?_
    refine WL_val rfl rfl rfl (by exact rMoveF rfl rfl) ?_
    refine WL_val rfl rfl rfl (by exact rMoveI rfl rfl) ?_
    refine WL_call rfl rfl rfl (rCallF (first := []) (cap := [_]) (vs := [_, _]) rfl rfl Tryz.func49 rfl rfl rfl) ?_
    refine (num_any a s.n b2 L.sb _ (hb2 _ [_, _] _ hI) (hc0 _ [_, _, _, _, _] hI) (by omega) hn).mono ?_
    rintro en w1 ⟨j, rfl, hj, hp⟩
    refine ⟨_, rfl, ?_⟩
    replace hI := hI.pure hp
    obtain ⟨v, hv⟩ : ∃ v, vals[j]? = some v := ⟨_, List.getElem?_eq_getElem (by omega)⟩
    have hvm := List.mem_of_getElem? hv
    obtain ⟨RA, mm, rc, rfl⟩ : ∃ RA mm rc, v = .slice RA mm rc := by
      obtain ⟨lb, hlb, _⟩ := (hI.ok _ (List.mem_of_getElem? (i := 4) rfl)).1.2 v hvm
      obtain ⟨RA, rc, he, _⟩ := Rd.form hlb
      exact ⟨RA, _, rc, he⟩
    have hz : w1.cell? ⟨g, j, none⟩ = some (.slice RA mm rc) := by
      obtain ⟨A', c', he, _, _, _, q⟩ := Rd.of_own (D := fun _ => True) (hI.ok _ (List.mem_of_getElem? (i := 3) rfl)).1 (fun _ _ _ => trivial)
      injection he with he _ _
      subst he
      obtain ⟨g', o', he2, _, hc⟩ := q (by omega)
      injection he2 with he2
      injection he2 with e1 e2
      subst e1 e2
      have := hc j _ hv
      rwa [Nat.zero_add] at this
    refine WL_val rfl rfl rfl (by exact rIdx0 rfl Tryz.underlying68 (by kernel_rfl) rfl rfl rfl (by omega)) ?_
    refine WL_val rfl rfl rfl (rLd (v := .slice _ _ _) rfl (by kernel_rfl) rfl hz) ?_
    refine WL_val rfl rfl rfl (by exact rAsgnS rfl rfl) ?_
    refine WL_nil ?_
    obtain ⟨lb, hlb, hI⟩ := RowsV.to (hI.pull 4 rfl) hvm
    have hmm : mm = lb.length := by
      obtain ⟨_, _, he, _⟩ := Rd.form (hI.ok _ (List.mem_of_getElem? (i := 0) rfl)).1.2
      injection he
    replace hI := hI.back 4
    rw [rep_nil_succ haN] at hI
    replace hI := hI.fresh (Pure.refl _) (Row.nil _ 0 4 1) (fun k hk => by simp [Row] at hk)
    refine W_seq ?_
    refine W_region ?_
    refine WL_val rfl rfl rfl (by exact rMoveS rfl rfl) ?_
    refine WL_val rfl rfl rfl (rLen rfl Tryz.underlying68 rfl) ?_
    refine WL_val rfl rfl rfl (by exact rMoveI rfl rfl) ?_
    refine WL_nil ?_
    refine W_block ?_
    refine W_loop (fun ρ w => ∃ (b : Nat) (l : List Bool) (A : Option Addr) (c : Nat), b ≤ N ∧ l.length = b ∧ Has ρ [(60, .int .i64 (b : Int)), (59, .int .i64 (N : Int)), (8, .slice RA mm rc), (7, .int .i64 (a : Int)), (49, .int .i64 (a : Int)), (48, .int .i64 (N : Int)), (1, .slice (some ⟨g, 0, none⟩) s.n s.n), (5, .func (.func 49) #[] #[.pointer (some ⟨b2, 0, none⟩)]), (6, .slice (some ⟨b46, 0, none⟩) N N), (2, .pointer (some ⟨b2, 0, none⟩))] ∧
      Inv S w0 w ([Row 0 4 1 A b c (boolsV l), B b46 55 (done ++ Value.slice A b c :: List.replicate (N - (a + 1)) (Value.slice none 0 0)).toArray, RowsE done E, B b2 30 #[.pointer (some ⟨L.sb, 0, none⟩)], Row 0 55 1 (some ⟨g, 0, none⟩) s.n s.n vals, RowsV vals D (.slice RA mm rc) lb] ++ spt L s)) (fun ρ _ => N - cnt (ρ 60))
      ⟨0, [], none, 0, by omega, rfl, ⟨rfl, rfl, rfl, rfl, rfl, rfl, rfl, rfl, rfl, rfl, trivial⟩, hI⟩ ?_
    clear hI
    rintro ρ w ⟨b, l, A, c, hb, hll, hH, hI⟩
    obtain ⟨σ, rfl⟩ := hH.open
    by_cases hbn : b < N
    rotate_left
    · obtain rfl : b = N := by omega
      refine W_seq ?_
      refine W_region ?_
      refine WL_val rfl rfl rfl (by exact rLssF rfl rfl rfl (by omega)) ?_
      refine WL_nil ?_
      refine W_seq ?_
      refine W_cond false rfl ?_
      refine W_exit ?_
      refine W_region ?_
      refine WL_val rfl rfl rfl (by exact rInc rfl rfl rfl (by omega)) ?_
      refine WL_val rfl rfl rfl (by exact rMoveI rfl rfl) ?_
      refine WL_nil ?_
      have h1 := (RowsV.from (hI.pull 5 rfl)).back 5
      have h2 := (Inv.sw1 h1).rowsIn hll.symm (by omega)
      have h3 := h2.sw0
      have e1 : (done ++ Value.slice A b c :: List.replicate (b - (a + 1)) (.slice none 0 0)) = (done ++ [.slice A b c]) ++ List.replicate (b - (a + 1)) (.slice none 0 0) := by simp
      rw [e1] at h3
      refine ⟨⟨a + 1, done ++ [Value.slice A b c], (fun k => A.map (·.block) = some k ∨ E k), by omega, by simp [hdl], ⟨rfl, rfl, rfl, rfl, rfl, rfl, trivial⟩, h3⟩, by show b - ((a + 1 : Nat) : Int).toNat < b - (a : Int).toNat; omega⟩
    refine W_seq ?_
    refine W_region ?_
    refine WL_val rfl rfl rfl (by exact rLssT rfl rfl rfl (by omega)) ?_
    refine WL_nil ?_
    refine W_seq ?_
    refine W_cond true rfl ?_
    refine W_skip ?_
    refine W_seq_cut (fun ρ w => ∃ (r : Bool) (A' : Option Addr) (c' : Nat), Has ρ [(60, .int .i64 (b : Int)), (59, .int .i64 (N : Int)), (8, .slice RA mm rc), (7, .int .i64 (a : Int)), (49, .int .i64 (a : Int)), (48, .int .i64 (N : Int)), (1, .slice (some ⟨g, 0, none⟩) s.n s.n), (5, .func (.func 49) #[] #[.pointer (some ⟨b2, 0, none⟩)]), (6, .slice (some ⟨b46, 0, none⟩) N N), (2, .pointer (some ⟨b2, 0, none⟩))] ∧
      Inv S w0 w ([Row 0 4 1 A' (b + 1) c' (boolsV (l ++ [r])), B b46 55 (done ++ Value.slice A' (b + 1) c' :: List.replicate (N - (a + 1)) (Value.slice none 0 0)).toArray, RowsE done E, B b2 30 #[.pointer (some ⟨L.sb, 0, none⟩)], Row 0 55 1 (some ⟨g, 0, none⟩) s.n s.n vals, RowsV vals D (.slice RA mm rc) lb] ++ spt L s)) ?_ ?_
    · refine W_block ?_
      refine W_seq ?_
      refine W_region ?_
      refine WL_val rfl rfl rfl (by exact rMoveI rfl rfl) ?_
      refine WL_val rfl rfl rfl (by exact rAsgnI rfl rfl) ?_
      refine WL_nil ?_
      refine W_seq ?_
      refine W_region ?_
      refine WL_val rfl rfl rfl (by exact rMoveF rfl rfl) ?_
      refine WL_val rfl rfl rfl (by exact rMoveI rfl rfl) ?_
      refine WL_call rfl rfl rfl (rCallF (first := []) (cap := [_]) (vs := [_, _]) rfl rfl Tryz.func49 rfl rfl rfl) ?_
      refine (num_any b s.n b2 L.sb _ (hb2 _ [_, _, _] _ hI) (hc0 _ [_, _, _, _, _, _] hI) (by omega) hn).mono ?_
      rintro en w1 ⟨q, rfl, hq, hp⟩
      refine ⟨_, rfl, ?_⟩
      replace hI := hI.pure hp
      refine WL_val rfl rfl rfl (by exact rAsgnI rfl rfl) ?_
      refine WL_nil ?_
      have hga : ∀ w Y, Inv S w0 w (B b46 55 (done ++ Value.slice A b c :: List.replicate (N - (a + 1)) (Value.slice none 0 0)).toArray :: Y) → w.cell? ⟨b46, a, none⟩ = some (.slice A b c) := fun w Y hI => hI.cell 0 rfl (mid_get hdl)
      have hbools : ∀ r : Bool, boolsV l ++ [.bool r] = boolsV (l ++ [r]) := fun r => by simp [boolsV]
      by_cases hql : q < mm
      · have hrv := (hI.ok _ (List.mem_of_getElem? (i := 5) rfl)).1.2
        obtain ⟨A2, c2, he, _, _, _, q4⟩ := hrv
        injection he with he _ _
        subst he
        obtain ⟨rb, ro, rfl, _, _⟩ := q4 (by omega)
        have hgr : ∀ w, Inv S w0 w ([B b46 55 (done ++ Value.slice A b c :: List.replicate (N - (a + 1)) (Value.slice none 0 0)).toArray, RowsE done E, B b2 30 #[.pointer (some ⟨L.sb, 0, none⟩)], Row 0 55 1 (some ⟨g, 0, none⟩) s.n s.n vals, RowsV vals D (.slice (some ⟨rb, ro, none⟩) mm rc) lb] ++ spt L s) → w.cell? ⟨rb, ro + q, none⟩ = some (.bool (lb.getD q false)) := fun w hI => by
          obtain ⟨A3, c3, he, _, _, _, q5⟩ := (hI.ok _ (List.mem_of_getElem? (i := 4) rfl)).1.2
          injection he with he _ _
          subst he
          obtain ⟨rb', ro', he2, _, hc⟩ := q5 (by omega)
          injection he2 with he2
          injection he2 with e1 e2
          subst e1 e2
          refine hc q _ ?_
          rw [List.getElem?_map, List.getElem?_eq_getElem (by omega)]
          simp [List.getD, show q < lb.length by omega]
        refine W_draw (by kernel_rfl) ?_
        refine WA_inv (T := [19]) hI.d0.drew ?_
        intro Sx hSx hXS
        replace hI := hI.drew
        refine WT_take 0 rfl rfl (by kernel_rfl) (hXS _ hI.d0) rfl (fun W hW => have hI := hSx W hW; (by exact rMoveS rfl rfl)) ?_
        refine WT_take 1 rfl rfl (by kernel_rfl) (hXS _ hI.d0) rfl (fun W hW => have hI := hSx W hW; (by exact rMoveI rfl rfl)) ?_
        refine WT_take 2 rfl rfl (by kernel_rfl) (hXS _ hI.d0) rfl (fun W hW => have hI := hSx W hW; (by exact rMoveS rfl rfl)) ?_
        refine WT_take 3 rfl rfl (by kernel_rfl) (hXS _ hI.d0) rfl (fun W hW => have hI := hSx W hW; (by exact rMoveI rfl rfl)) ?_
        refine WT_take 4 rfl rfl (by kernel_rfl) (hXS _ hI.d0) rfl (fun W hW => have hI := hSx W hW; (by exact rIdx0 rfl Tryz.underlying68 (by kernel_rfl) rfl rfl rfl (by omega))) ?_
        refine WT_take 5 rfl rfl (by kernel_rfl) (hXS _ hI.d0) rfl (fun W hW => have hI := hSx W hW; (by exact rLd (v := .slice _ _ _) rfl (by kernel_rfl) rfl (by exact (hga _ _ hI)))) ?_
        refine WT_take 6 rfl rfl (by kernel_rfl) (hXS _ hI.d0) rfl (fun W hW => have hI := hSx W hW; (by exact rMoveI rfl rfl)) ?_
        refine WT_take 7 rfl rfl (by kernel_rfl) (hXS _ hI.d0) rfl (fun W hW => have hI := hSx W hW; (by exact rMoveS rfl rfl)) ?_
        refine WT_take 8 rfl rfl (by kernel_rfl) (hXS _ hI.d0) rfl (fun W hW => have hI := hSx W hW; (rLen rfl Tryz.underlying55 rfl)) ?_
        refine WT_take 9 rfl rfl (by kernel_rfl) (hXS _ hI.d0) rfl (fun W hW => have hI := hSx W hW; (by exact rLssT rfl rfl rfl (by omega))) ?_
        refine WT_take 10 rfl rfl (by kernel_rfl) (hXS _ hI.d0) rfl (fun W hW => have hI := hSx W hW; (by exact rMoveB rfl rfl)) ?_
        refine WT_take 11 rfl rfl (by kernel_rfl) (hXS _ hI.d0) rfl (fun W hW => have hI := hSx W hW; (by exact rMoveS rfl rfl)) ?_
        refine WT_take 12 rfl rfl (by kernel_rfl) (hXS _ hI.d0) rfl (fun W hW => have hI := hSx W hW; (by exact rMoveI rfl rfl)) ?_
        refine WT_take 13 rfl rfl (by kernel_rfl) (hXS _ hI.d0) rfl (fun W hW => have hI := hSx W hW; (by exact rIdx1 rfl Tryz.underlying55 (by kernel_rfl) rfl rfl (by omega))) ?_
        refine WT_take 14 rfl rfl (by kernel_rfl) (hXS _ hI.d0) rfl (fun W hW => have hI := hSx W hW; (by exact rLd (v := .bool _) rfl (by kernel_rfl) rfl (by exact (hgr _ hI)))) ?_
        refine WT_take 15 rfl rfl (by kernel_rfl) (hXS _ hI.d0) rfl (fun W hW => have hI := hSx W hW; (by exact rPickTB rfl rfl rfl)) ?_
        refine WT_one 16 rfl (by kernel_rfl) rfl ?_
        refine WL_lit (vs := [_]) (qs := [(0, .bool _)]) [.bool false] [0] hI rfl rfl rfl rfl rfl rfl Tryz.underlying55 (fun _ => by kernel_rfl) ?_
        clear hI; rintro b82 w - - hI
        refine WL_nil ⟨hXS _ hI.d0.d0, ?_⟩
        refine WT_one 17 rfl (by kernel_rfl) rfl ?_
        refine WL_app1 (z := .bool false) (by_ := 1) hI rfl rfl rfl rfl rfl rfl Tryz.underlying55 (by kernel_rfl) rfl (by omega) (by rfl) hI.lit0 (by rfl) (by omega) (by omega) (by exact Nat.zero_le _) ?_
        clear hI; rintro A83 c83 w hA83 hc83 hI
        replace hI := hI.d0
        refine WL_nil ⟨hXS _ hI.d0, ?_⟩
        refine WT_take 18 rfl rfl (by kernel_rfl) (hXS _ hI.d0) rfl (fun W hW => have hI := hSx W hW; (by exact rIdx0 rfl Tryz.underlying68 (by kernel_rfl) rfl rfl rfl (by omega))) ?_
        refine WT_A (by kernel_rfl) ?_
        clear hXS hSx
        refine WA_one 19 rfl (by kernel_rfl) ?_
        refine WL_st1 (u := .slice A83 (b + 1) c83) (j := a) hI rfl rfl rfl rfl rfl rfl (by kernel_rfl) rfl (mid_blt hdl) (mid_set hdl) ?_
        clear hI; intro w hI
        refine WL_nil ?_
        refine WA_end (by kernel_rfl) ?_
        have e := hbools (lb.getD q false)
        exact ⟨lb.getD q false, A83, c83, ⟨rfl, rfl, rfl, rfl, rfl, rfl, rfl, rfl, rfl, rfl, trivial⟩, by rw [← e]; exact hI⟩
      · refine W_draw (by kernel_rfl) ?_
        refine WA_inv (T := [19]) hI.d0.drew ?_
        intro Sx hSx hXS
        replace hI := hI.drew
        refine WT_take 0 rfl rfl (by kernel_rfl) (hXS _ hI.d0) rfl (fun W hW => have hI := hSx W hW; (by exact rMoveS rfl rfl)) ?_
        refine WT_take 1 rfl rfl (by kernel_rfl) (hXS _ hI.d0) rfl (fun W hW => have hI := hSx W hW; (by exact rMoveI rfl rfl)) ?_
        refine WT_take 2 rfl rfl (by kernel_rfl) (hXS _ hI.d0) rfl (fun W hW => have hI := hSx W hW; (by exact rMoveS rfl rfl)) ?_
        refine WT_take 3 rfl rfl (by kernel_rfl) (hXS _ hI.d0) rfl (fun W hW => have hI := hSx W hW; (by exact rMoveI rfl rfl)) ?_
        refine WT_take 4 rfl rfl (by kernel_rfl) (hXS _ hI.d0) rfl (fun W hW => have hI := hSx W hW; (by exact rIdx0 rfl Tryz.underlying68 (by kernel_rfl) rfl rfl rfl (by omega))) ?_
        refine WT_take 5 rfl rfl (by kernel_rfl) (hXS _ hI.d0) rfl (fun W hW => have hI := hSx W hW; (by exact rLd (v := .slice _ _ _) rfl (by kernel_rfl) rfl (by exact (hga _ _ hI)))) ?_
        refine WT_take 6 rfl rfl (by kernel_rfl) (hXS _ hI.d0) rfl (fun W hW => have hI := hSx W hW; (by exact rMoveI rfl rfl)) ?_
        refine WT_take 7 rfl rfl (by kernel_rfl) (hXS _ hI.d0) rfl (fun W hW => have hI := hSx W hW; (by exact rMoveS rfl rfl)) ?_
        refine WT_take 8 rfl rfl (by kernel_rfl) (hXS _ hI.d0) rfl (fun W hW => have hI := hSx W hW; (rLen rfl Tryz.underlying55 rfl)) ?_
        refine WT_take 9 rfl rfl (by kernel_rfl) (hXS _ hI.d0) rfl (fun W hW => have hI := hSx W hW; (by exact rLssF rfl rfl rfl (by omega))) ?_
        refine WT_take 10 rfl rfl (by kernel_rfl) (hXS _ hI.d0) rfl (fun W hW => have hI := hSx W hW; (by exact rMoveB rfl rfl)) ?_
        refine WT_skip 11 rfl rfl (by kernel_rfl) (hXS _ hI.d0) rfl ?_
        refine WT_skip 12 rfl rfl (by kernel_rfl) (hXS _ hI.d0) rfl ?_
        refine WT_skip 13 rfl rfl (by kernel_rfl) (hXS _ hI.d0) rfl ?_
        refine WT_skip 14 rfl rfl (by kernel_rfl) (hXS _ hI.d0) rfl ?_
        refine WT_take 15 rfl rfl (by kernel_rfl) (hXS _ hI.d0) rfl (fun W hW => have hI := hSx W hW; (by exact rPickFB rfl rfl rfl)) ?_
        refine WT_one 16 rfl (by kernel_rfl) rfl ?_
        refine WL_lit (vs := [_]) (qs := [(0, .bool _)]) [.bool false] [0] hI rfl rfl rfl rfl rfl rfl Tryz.underlying55 (fun _ => by kernel_rfl) ?_
        clear hI; rintro b82 w - - hI
        refine WL_nil ⟨hXS _ hI.d0.d0, ?_⟩
        refine WT_one 17 rfl (by kernel_rfl) rfl ?_
        refine WL_app1 (z := .bool false) (by_ := 1) hI rfl rfl rfl rfl rfl rfl Tryz.underlying55 (by kernel_rfl) rfl (by omega) (by rfl) hI.lit0 (by rfl) (by omega) (by omega) (by exact Nat.zero_le _) ?_
        clear hI; rintro A83 c83 w hA83 hc83 hI
        replace hI := hI.d0
        refine WL_nil ⟨hXS _ hI.d0, ?_⟩
        refine WT_take 18 rfl rfl (by kernel_rfl) (hXS _ hI.d0) rfl (fun W hW => have hI := hSx W hW; (by exact rIdx0 rfl Tryz.underlying68 (by kernel_rfl) rfl rfl rfl (by omega))) ?_
        refine WT_A (by kernel_rfl) ?_
        clear hXS hSx
        refine WA_one 19 rfl (by kernel_rfl) ?_
        refine WL_st1 (u := .slice A83 (b + 1) c83) (j := a) hI rfl rfl rfl rfl rfl rfl (by kernel_rfl) rfl (mid_blt hdl) (mid_set hdl) ?_
        clear hI; intro w hI
        refine WL_nil ?_
        refine WA_end (by kernel_rfl) ?_
        have e := hbools false
        exact ⟨false, A83, c83, ⟨rfl, rfl, rfl, rfl, rfl, rfl, rfl, rfl, rfl, rfl, trivial⟩, by rw [← e]; exact hI⟩
    · clear hI
      rintro ρ w ⟨r, A', c', hH, hI⟩
      obtain ⟨σ, rfl⟩ := hH.open
      refine W_region ?_
      refine WL_val rfl rfl rfl (by exact rInc rfl rfl rfl (by omega)) ?_
      refine WL_val rfl rfl rfl (by exact rMoveI rfl rfl) ?_
      refine WL_nil ?_
      exact ⟨⟨b + 1, l ++ [r], A', c', by omega, by simp [hll], ⟨rfl, rfl, rfl, rfl, rfl, rfl, rfl, rfl, rfl, rfl, trivial⟩, hI⟩, by show N - ((b + 1 : Nat) : Int).toNat < N - (b : Int).toNat; omega⟩
  clear hI
  rintro ρ w ⟨done, E, hdl, hH, hI⟩
  obtain ⟨σ, rfl⟩ := hH.open
  rw [Nat.sub_self, List.replicate_zero, List.append_nil] at hI
  replace hI := hI.u0 (e' := Row 0 55 1 (some ⟨b46, 0, none⟩) N N done.toArray.toList) (Chg.refl _ _) (Row.of_blk hI.g0 (Nat.zero_le _) (by simp [hdl]) (by omega)) (fun k hk => .inl (by have : some b46 = some k := hk; injection this with this; exact this.symm))
  replace hI := ((hI.pull 4 rfl).pull 4 rfl).pull 4 rfl
  replace hI : Inv S w0 w ([B b2 30 #[.pointer (some ⟨L.sb, 0, none⟩)], Row 0 55 1 (some ⟨g, 0, none⟩) s.n s.n vals, RowsE vals D] ++ ([Row 0 55 1 (some ⟨b46, 0, none⟩) N N done, RowsE done E] ++ spt L s)) := hI
  refine W_seq ?_
  refine W_region ?_
  refine WL_val rfl rfl rfl (by exact rLd (v := .pointer _) rfl (by kernel_rfl) rfl (by exact hI.c0 rfl)) ?_
  refine WL_val rfl rfl rfl (rNilChk rfl rfl) ?_
  refine WL_val rfl rfl rfl (by exact rFldN (off := 7) rfl (by kernel_rfl) rfl) ?_
  refine WL_val rfl rfl rfl (by exact rMoveS rfl rfl) ?_
  refine WL_call rfl rfl rfl (rCall (vs := [.pointer _, .slice _ _ _]) rfl Tryz.func48 rfl rfl rfl) ?_
  refine (ncut_any L s (some ⟨b46, 0, none⟩) N N done E (by omega) hdl (DLs _) _ (hI.fromB (X := [_, _, _]))).mono ?_
  rintro en w1 ⟨rfl, LA, ln, lc, cut, lv, LD, hJ⟩
  refine ⟨_, rfl, ?_⟩
  replace hI := hI.callB (X := [_, _, _]) hJ
  refine WL_nil ?_
  refine W_seq ?_
  refine W_region ?_
  refine WL_val rfl rfl rfl (by exact rAsgnN rfl rfl) ?_
  refine WL_nil ?_
  refine W_ret ?_
  exact ret1 4 (.inr rfl) rfl ⟨⟨_, rfl⟩, { L with LA := LA, ln := ln, lc := lc, cut := cut, lv := lv, LD := LD }, rfl, rfl, hI.d0.d0.d0.d0.d0⟩
end Go.Proofs.YtglioflpblpmpaaGreatDoor
namespace Go.Proofs.YtglioflpblpmpaaGreatDoor
open Go.RowKit
set_option linter.unusedVariables false
set_option linter.unusedSimpArgs false
structure PMove where
  what : Int
  a : Int
  b : Int
  c : Int
def pmL (m : PMove) : List Value := [.int .i64 m.what, .int .i64 m.a, .int .i64 m.b, .int .i64 m.c]
set_option maxHeartbeats 4000000 in
theorem playM (L : StL) (s : StS) (M : Nat) (h : SOk L s M) (hM : M ≤ 100000) (S : Nat → Prop) (w0 : World) (hI : Inv S w0 w0 (spt L s)) (what a b c : Int) :
    Calls Tryz.prog 14 #[.pointer (some ⟨L.sb, 0, none⟩), .agg #[.int .i64 what, .int .i64 a, .int .i64 b, .int .i64 c]] w0 (MvPost L s M S w0) := by
  refine calls_of_W (N := Tryz.f14.ntmps) Tryz.func14 rfl rfl rfl ?_
  refine W_seq ?_
  refine W_region ?_
  refine WL_box (u := .agg _) (vs := #[_, _, _, _]) hI rfl rfl rfl rfl rfl rfl ?_
  clear hI; rintro b3 w - - hI
  refine WL_val rfl rfl rfl (by exact rAsgnN rfl rfl) ?_
  refine WL_nil ?_
  replace hI : Inv S w0 w ([B b3 52 #[.int .i64 what, .int .i64 a, .int .i64 b, .int .i64 c]] ++ spt L s) := hI
  refine W_seq ?_
  refine W_seq ?_
  refine W_region ?_
  refine WL_val rfl rfl rfl (by exact rFldN (off := 0) rfl (by kernel_rfl) rfl) ?_
  refine WL_val rfl rfl rfl (by exact rLd (v := .int .i64 _) rfl (by kernel_rfl) rfl (by exact hI.c0 rfl)) ?_
  refine WL_nil ?_
  refine W_block ?_
  by_cases h0 : what = 0
  · refine W_seq ?_
    refine W_region ?_
    refine WL_val rfl rfl rfl (by exact rEqlT rfl rfl rfl (by omega)) ?_
    refine WL_val rfl rfl rfl (by exact rAsgnB rfl rfl) ?_
    refine WL_nil ?_
    refine W_cond true rfl ?_
    refine W_seq ?_
    refine W_region ?_
    refine WL_val rfl rfl rfl (by exact rMoveP rfl rfl) ?_
    refine WL_val rfl rfl rfl (by exact rFldN (off := 1) rfl (by kernel_rfl) rfl) ?_
    refine WL_val rfl rfl rfl (by exact rLd (v := .int .i64 _) rfl (by kernel_rfl) rfl (by exact hI.c0 rfl)) ?_
    refine WL_val rfl rfl rfl (by exact rFldN (off := 2) rfl (by kernel_rfl) rfl) ?_
    refine WL_val rfl rfl rfl (by exact rLd (v := .int .i64 _) rfl (by kernel_rfl) rfl (by exact hI.c0 rfl)) ?_
    refine WL_val rfl rfl rfl (by exact rFldN (off := 3) rfl (by kernel_rfl) rfl) ?_
    refine WL_val rfl rfl rfl (by exact rLd (v := .int .i64 _) rfl (by kernel_rfl) rfl (by exact hI.c0 rfl)) ?_
    refine WL_call rfl rfl rfl (rCall (vs := [.pointer _, .int .i64 _, .int .i64 _, .bool _, .int .i64 _]) rfl Tryz.func12 rfl rfl rfl) ?_
    refine (beginM L s M h hM (DLs _) _ (hI.fromB (X := [_])) a b false c).mono ?_
    rintro en w1 ⟨v, L', s', rfl, hmv, hok, hsb, -, hJ, -⟩
    refine ⟨_, rfl, ?_⟩
    replace hI := hI.callB (X := [_]) hJ
    refine WL_val rfl rfl rfl (by exact rAsgn rfl) ?_
    refine WL_nil ?_
    refine W_ret ?_
    exact ret1 4 (.inr rfl) rfl ⟨⟨_, rfl⟩, L', s', hmv, hok, hsb, hI.d0⟩
  refine W_seq ?_
  refine W_region ?_
  refine WL_val rfl rfl rfl (by exact rEqlF rfl rfl rfl (by omega)) ?_
  refine WL_val rfl rfl rfl (by exact rAsgnB rfl rfl) ?_
  refine WL_nil ?_
  refine W_cond false rfl ?_
  by_cases h1 : what = 1
  · refine W_seq ?_
    refine W_region ?_
    refine WL_val rfl rfl rfl (by exact rEqlT rfl rfl rfl (by omega)) ?_
    refine WL_val rfl rfl rfl (by exact rAsgnB rfl rfl) ?_
    refine WL_nil ?_
    refine W_cond true rfl ?_
    refine W_seq ?_
    refine W_region ?_
    refine WL_val rfl rfl rfl (by exact rMoveP rfl rfl) ?_
    refine WL_val rfl rfl rfl (by exact rFldN (off := 1) rfl (by kernel_rfl) rfl) ?_
    refine WL_val rfl rfl rfl (by exact rLd (v := .int .i64 _) rfl (by kernel_rfl) rfl (by exact hI.c0 rfl)) ?_
    refine WL_val rfl rfl rfl (by exact rFldN (off := 2) rfl (by kernel_rfl) rfl) ?_
    refine WL_val rfl rfl rfl (by exact rLd (v := .int .i64 _) rfl (by kernel_rfl) rfl (by exact hI.c0 rfl)) ?_
    refine WL_val rfl rfl rfl (by exact rFldN (off := 3) rfl (by kernel_rfl) rfl) ?_
    refine WL_val rfl rfl rfl (by exact rLd (v := .int .i64 _) rfl (by kernel_rfl) rfl (by exact hI.c0 rfl)) ?_
    refine WL_call rfl rfl rfl (rCall (vs := [.pointer _, .int .i64 _, .int .i64 _, .bool _, .int .i64 _]) rfl Tryz.func12 rfl rfl rfl) ?_
    refine (beginM L s M h hM (DLs _) _ (hI.fromB (X := [_])) a b true c).mono ?_
    rintro en w1 ⟨v, L', s', rfl, hmv, hok, hsb, -, hJ, -⟩
    refine ⟨_, rfl, ?_⟩
    replace hI := hI.callB (X := [_]) hJ
    refine WL_val rfl rfl rfl (by exact rAsgn rfl) ?_
    refine WL_nil ?_
    refine W_ret ?_
    exact ret1 4 (.inr rfl) rfl ⟨⟨_, rfl⟩, L', s', hmv, hok, hsb, hI.d0⟩
  refine W_seq ?_
  refine W_region ?_
  refine WL_val rfl rfl rfl (by exact rEqlF rfl rfl rfl (by omega)) ?_
  refine WL_val rfl rfl rfl (by exact rAsgnB rfl rfl) ?_
  refine WL_nil ?_
  refine W_cond false rfl ?_
  by_cases h2 : what = 2
  · refine W_seq ?_
    refine W_region ?_
    refine WL_val rfl rfl rfl (by exact rEqlT rfl rfl rfl (by omega)) ?_
    refine WL_val rfl rfl rfl (by exact rAsgnB rfl rfl) ?_
    refine WL_nil ?_
    refine W_cond true rfl ?_
    refine W_seq ?_
    refine W_region ?_
    refine WL_val rfl rfl rfl (by exact rMoveP rfl rfl) ?_
    refine WL_val rfl rfl rfl (by exact rFldN (off := 1) rfl (by kernel_rfl) rfl) ?_
    refine WL_val rfl rfl rfl (by exact rLd (v := .int .i64 _) rfl (by kernel_rfl) rfl (by exact hI.c0 rfl)) ?_
    refine WL_call rfl rfl rfl (rCall (vs := [.pointer _, .int .i64 _]) rfl Tryz.func13 rfl rfl rfl) ?_
    refine (deliverM L s M h hM (DLs _) _ (hI.fromB (X := [_])) a).mono ?_
    rintro en w1 ⟨v, L', s', rfl, hmv, hok, hsb, -, hJ, -⟩
    refine ⟨_, rfl, ?_⟩
    replace hI := hI.callB (X := [_]) hJ
    refine WL_val rfl rfl rfl (by exact rAsgn rfl) ?_
    refine WL_nil ?_
    refine W_ret ?_
    exact ret1 4 (.inr rfl) rfl ⟨⟨_, rfl⟩, L', s', hmv, hok, hsb, hI.d0⟩
  refine W_seq ?_
  refine W_region ?_
  refine WL_val rfl rfl rfl (by exact rEqlF rfl rfl rfl (by omega)) ?_
  refine WL_val rfl rfl rfl (by exact rAsgnB rfl rfl) ?_
  refine WL_nil ?_
  refine W_cond false rfl ?_
  by_cases h3 : what = 3
  · refine W_seq ?_
    refine W_region ?_
    refine WL_val rfl rfl rfl (by exact rEqlT rfl rfl rfl (by omega)) ?_
    refine WL_val rfl rfl rfl (by exact rAsgnB rfl rfl) ?_
    refine WL_nil ?_
    refine W_cond true rfl ?_
    refine W_seq ?_
    refine W_region ?_
    refine WL_val rfl rfl rfl (by exact rMoveP rfl rfl) ?_
    refine WL_val rfl rfl rfl (by exact rFldN (off := 1) rfl (by kernel_rfl) rfl) ?_
    refine WL_val rfl rfl rfl (by exact rLd (v := .int .i64 _) rfl (by kernel_rfl) rfl (by exact hI.c0 rfl)) ?_
    refine WL_call rfl rfl rfl (rCall (vs := [.pointer _, .int .i64 _]) rfl Tryz.func28 rfl rfl rfl) ?_
    refine (dropM L s M h (DLs _) _ (hI.fromB (X := [_])) a).mono ?_
    rintro en w1 ⟨⟨v, rfl⟩, L', s', hmv, hok, hsb, hJ⟩
    refine ⟨_, rfl, ?_⟩
    replace hI := hI.callB (X := [_]) hJ
    refine WL_val rfl rfl rfl (by exact rAsgn rfl) ?_
    refine WL_nil ?_
    refine W_ret ?_
    exact ret1 4 (.inr rfl) rfl ⟨⟨_, rfl⟩, L', s', hmv, hok, hsb, hI.d0⟩
  refine W_seq ?_
  refine W_region ?_
  refine WL_val rfl rfl rfl (by exact rEqlF rfl rfl rfl (by omega)) ?_
  refine WL_val rfl rfl rfl (by exact rAsgnB rfl rfl) ?_
  refine WL_nil ?_
  refine W_cond false rfl ?_
  by_cases h4 : what = 4
  · refine W_seq ?_
    refine W_region ?_
    refine WL_val rfl rfl rfl (by exact rEqlT rfl rfl rfl (by omega)) ?_
    refine WL_val rfl rfl rfl (by exact rAsgnB rfl rfl) ?_
    refine WL_nil ?_
    refine W_cond true rfl ?_
    refine W_seq ?_
    refine W_region ?_
    refine WL_val rfl rfl rfl (by exact rMoveP rfl rfl) ?_
    refine WL_val rfl rfl rfl (by exact rFldN (off := 1) rfl (by kernel_rfl) rfl) ?_
    refine WL_val rfl rfl rfl (by exact rLd (v := .int .i64 _) rfl (by kernel_rfl) rfl (by exact hI.c0 rfl)) ?_
    refine WL_call rfl rfl rfl (rCall (vs := [.pointer _, .int .i64 _]) rfl Tryz.func29 rfl rfl rfl) ?_
    refine (doubleM L s M h (DLs _) _ (hI.fromB (X := [_])) a).mono ?_
    rintro en w1 ⟨⟨v, rfl⟩, L', s', hmv, hok, hsb, hJ⟩
    refine ⟨_, rfl, ?_⟩
    replace hI := hI.callB (X := [_]) hJ
    refine WL_val rfl rfl rfl (by exact rAsgn rfl) ?_
    refine WL_nil ?_
    refine W_ret ?_
    exact ret1 4 (.inr rfl) rfl ⟨⟨_, rfl⟩, L', s', hmv, hok, hsb, hI.d0⟩
  refine W_seq ?_
  refine W_region ?_
  refine WL_val rfl rfl rfl (by exact rEqlF rfl rfl rfl (by omega)) ?_
  refine WL_val rfl rfl rfl (by exact rAsgnB rfl rfl) ?_
  refine WL_nil ?_
  refine W_cond false rfl ?_
  by_cases h5 : what = 5
  · refine W_seq ?_
    refine W_region ?_
    refine WL_val rfl rfl rfl (by exact rEqlT rfl rfl rfl (by omega)) ?_
    refine WL_val rfl rfl rfl (by exact rAsgnB rfl rfl) ?_
    refine WL_nil ?_
    refine W_cond true rfl ?_
    refine W_seq ?_
    refine W_region ?_
    refine WL_val rfl rfl rfl (by exact rMoveP rfl rfl) ?_
    refine WL_val rfl rfl rfl (by exact rFldN (off := 1) rfl (by kernel_rfl) rfl) ?_
    refine WL_val rfl rfl rfl (by exact rLd (v := .int .i64 _) rfl (by kernel_rfl) rfl (by exact hI.c0 rfl)) ?_
    refine WL_call rfl rfl rfl (rCall (vs := [.pointer _, .int .i64 _]) rfl Tryz.func30 rfl rfl rfl) ?_
    refine (giveupM L s M h (DLs _) _ (hI.fromB (X := [_])) a).mono ?_
    rintro en w1 ⟨⟨v, rfl⟩, L', s', hmv, hok, hsb, hJ⟩
    refine ⟨_, rfl, ?_⟩
    replace hI := hI.callB (X := [_]) hJ
    refine WL_val rfl rfl rfl (by exact rAsgn rfl) ?_
    refine WL_nil ?_
    refine W_ret ?_
    exact ret1 4 (.inr rfl) rfl ⟨⟨_, rfl⟩, L', s', hmv, hok, hsb, hI.d0⟩
  refine W_seq ?_
  refine W_region ?_
  refine WL_val rfl rfl rfl (by exact rEqlF rfl rfl rfl (by omega)) ?_
  refine WL_val rfl rfl rfl (by exact rAsgnB rfl rfl) ?_
  refine WL_nil ?_
  refine W_cond false rfl ?_
  by_cases h6 : what = 6
  · refine W_seq ?_
    refine W_region ?_
    refine WL_val rfl rfl rfl (by exact rEqlT rfl rfl rfl (by omega)) ?_
    refine WL_val rfl rfl rfl (by exact rAsgnB rfl rfl) ?_
    refine WL_nil ?_
    refine W_cond true rfl ?_
    refine W_seq ?_
    refine W_region ?_
    refine WL_val rfl rfl rfl (by exact rMoveP rfl rfl) ?_
    refine WL_call rfl rfl rfl (rCall (vs := [.pointer _, .slice _ _ _]) rfl Tryz.func31 rfl rfl rfl) ?_
    refine (cutNil L s (DLs _) _ (hI.fromB (X := [_]))).mono ?_
    rintro en w1 ⟨⟨v, rfl⟩, L', hsb, hcw, hJ⟩
    refine ⟨_, rfl, ?_⟩
    replace hI := hI.callB (X := [_]) hJ
    refine WL_val rfl rfl rfl (by exact rAsgn rfl) ?_
    refine WL_nil ?_
    refine W_ret ?_
    exact ret1 4 (.inr rfl) rfl ⟨⟨_, rfl⟩, L', s, Mv.refl _, (h.loc hcw).mono (by omega), hsb, hI.d0⟩
  refine W_seq ?_
  refine W_region ?_
  refine WL_val rfl rfl rfl (by exact rEqlF rfl rfl rfl (by omega)) ?_
  refine WL_val rfl rfl rfl (by exact rAsgnB rfl rfl) ?_
  refine WL_nil ?_
  refine W_cond false rfl ?_
  refine W_skip ?_
  refine W_seq ?_
  refine W_region ?_
  refine WL_val rfl rfl rfl (by exact rFldN (off := 0) rfl (by kernel_rfl) rfl) ?_
  refine WL_val rfl rfl rfl (by exact rLd (v := .int .i64 _) rfl (by kernel_rfl) rfl (by exact hI.c0 rfl)) ?_
  refine WL_val rfl rfl rfl (by exact rFldN (off := 1) rfl (by kernel_rfl) rfl) ?_
  refine WL_val rfl rfl rfl (by exact rLd (v := .int .i64 _) rfl (by kernel_rfl) rfl (by exact hI.c0 rfl)) ?_
  refine WL_val rfl rfl rfl (by exact rFldN (off := 2) rfl (by kernel_rfl) rfl) ?_
  refine WL_val rfl rfl rfl (by exact rLd (v := .int .i64 _) rfl (by kernel_rfl) rfl (by exact hI.c0 rfl)) ?_
  refine WL_call rfl rfl rfl (rCall (vs := [.int .i64 _, .int .i64 _, .int .i64 _]) rfl Tryz.func32 rfl rfl rfl) ?_
  refine (plinks_any what a b _).mono ?_
  rintro en w1 ⟨v0, v1, rfl, hL⟩
  refine ⟨_, rfl, ?_⟩
  have hp := hL.pure
  have hI0 := hI
  replace hI := hI.pure hp
  refine WL_val rfl rfl rfl (by exact rMoveT rfl rfl) ?_
  refine WL_val rfl rfl rfl (rExtr rfl rfl rfl) ?_
  refine WL_val rfl rfl rfl (rExtr rfl rfl rfl) ?_
  refine WL_val rfl rfl rfl (by exact rAsgn rfl) ?_
  refine WL_val rfl rfl rfl (by exact rAsgn rfl) ?_
  refine WL_nil ?_
  rcases hL with ⟨rfl, g, n, vals, D, rfl, hvl, hn, hJ⟩ | ⟨rfl, ⟨z, rfl⟩, _⟩
  rotate_left
  · refine W_seq ?_
    refine W_seq ?_
    refine W_region ?_
    refine WL_val rfl rfl rfl (by exact rMoveE rfl rfl) ?_
    refine WL_val rfl rfl rfl (by exact rIfaceNe rfl Tryz.underlying27 rfl rfl) ?_
    refine WL_nil ?_
    refine W_cond true rfl ?_
    refine W_seq ?_
    refine W_region ?_
    refine WL_val rfl rfl rfl (by exact rMoveE rfl rfl) ?_
    refine WL_val rfl rfl rfl (by exact rAsgnE rfl rfl) ?_
    refine WL_nil ?_
    refine W_ret ?_
    exact ret1 4 (.inr rfl) rfl ⟨⟨_, rfl⟩, L, s, Mv.refl _, h.mono (by omega), rfl, hI.d0⟩
  replace hI := hI0.app2 hJ
  clear hI0
  replace hI := hI.pull 2 rfl
  replace hI : Inv S w0 w1 ([B b3 52 #[.int .i64 what, .int .i64 a, .int .i64 b, .int .i64 c]] ++ ([Row 0 55 1 (some ⟨g, 0, none⟩) n n vals, RowsE vals D] ++ spt L s)) := hI
  refine W_seq ?_
  refine W_seq ?_
  refine W_region ?_
  refine WL_val rfl rfl rfl (by exact rMoveN rfl rfl) ?_
  refine WL_val rfl rfl rfl (by exact rNilNe rfl Tryz.underlying27 rfl) ?_
  refine WL_nil ?_
  refine W_cond false rfl ?_
  refine W_skip ?_
  refine W_seq ?_
  refine W_region ?_
  refine WL_val rfl rfl rfl (by exact rMoveP rfl rfl) ?_
  refine WL_val rfl rfl rfl (by exact rMoveS rfl rfl) ?_
  refine WL_call rfl rfl rfl (rCall (vs := [.pointer _, .slice _ _ _]) rfl Tryz.func31 rfl rfl rfl) ?_
  refine (cutSome L s M g n vals D h hvl (DLs _) _ (hI.fromB (X := [_]))).mono ?_
  rintro en w1 ⟨⟨v, rfl⟩, L', hsb, hcw, hJ⟩
  refine ⟨_, rfl, ?_⟩
  replace hI := hI.callB (X := [_]) hJ
  refine WL_val rfl rfl rfl (by exact rAsgn rfl) ?_
  refine WL_nil ?_
  refine W_ret ?_
  exact ret1 4 (.inr rfl) rfl ⟨⟨_, rfl⟩, L', s, Mv.refl _, (h.loc hcw).mono (by omega), hsb, hI.d0⟩
/-- Moves, one behind the other. -/
inductive MvS : StS → StS → Prop
  | refl (s : StS) : MvS s s
  | step {s t u : StS} : MvS s t → Mv t u → MvS s u
theorem pmL_len (m : PMove) : (pmL m).length = 4 := rfl
theorem Rd.four {w : World} {D : Nat → Prop} {A : Option Addr} {c i : Nat} {ms : List PMove} {m : PMove} (h : Rd w D 4 (.slice A ms.length c) ms.length (ms.flatMap pmL)) (hm : ms[i]? = some m) : ∃ b o, A = some ⟨b, o, none⟩ ∧ ∀ j u, (pmL m)[j]? = some u → w.cell? ⟨b, o + i * 4 + j, none⟩ = some u := by
  have hi := (List.getElem?_eq_some_iff.1 hm).1
  obtain ⟨A', c', hv, h1, h2, h3, h4⟩ := h
  injection hv with ha _ _
  subst ha
  obtain ⟨b, o, rfl, hb, hc⟩ := h4 (by omega)
  refine ⟨b, o, rfl, fun j u hj => ?_⟩
  have hj4 : j < 4 := by have := (List.getElem?_eq_some_iff.1 hj).1; rwa [pmL_len] at this
  rw [Nat.add_assoc]
  exact hc (i * 4 + j) u (by rw [flat_get pmL_len ms i j m hm hj4]; exact hj)
set_option maxHeartbeats 4000000 in
theorem moved_any (n k a t : Nat) (b : Bool) (hs : SetOk n k a t) (A : Option Addr) (c : Nat) (ms : List PMove) (D : Nat → Prop) (w0 : World) (hR : Rd w0 D 4 (.slice A ms.length c) ms.length (ms.flatMap pmL)) (hl : ms.length ≤ 250) :
    Calls Tryz.prog 7 #[.agg #[.int .i64 (n : Int), .int .i64 (k : Int), .int .i64 (a : Int), .int .i64 (t : Int), .bool b], .slice A ms.length c] w0 fun en w' => ∃ L s, en = .returned (.pointer (some ⟨L.sb, 0, none⟩)) ∧ MvS (s0 n k a t b) s ∧ SOk L s ms.length ∧ Inv (fun _ => False) w0 w' (spt L s) := by
  have hI := Inv.start (fun _ => False) w0
  refine calls_of_W (N := Tryz.f7.ntmps) Tryz.func7 rfl rfl rfl ?_
  refine W_seq ?_
  refine W_region ?_
  refine WL_box (u := .agg _) (vs := #[_, _, _, _, _]) hI rfl rfl rfl rfl rfl rfl ?_
  clear hI; rintro b2 w - - hI
  refine WL_val rfl rfl rfl (by exact rAsgnP rfl rfl) ?_
  refine WL_nil ?_
  refine W_seq ?_
  refine W_region ?_
  refine WL_val rfl rfl rfl (by exact rLdB (n := 5) rfl (by kernel_rfl) (by kernel_rfl) rfl rfl hI.g0) ?_
  refine WL_call rfl rfl rfl (rCall (vs := [.agg _]) rfl Tryz.func11 rfl rfl rfl) ?_
  refine (new_any n k a t b hs _).mono ?_
  rintro en w1 ⟨sb, nb, cb, rfl, hJ⟩
  refine ⟨_, rfl, ?_⟩
  replace hI := (Inv.callB (X := [_]) (l := []) (by rw [List.append_nil]; exact hI) (l' := spt (zL sb nb cb) (s0 n k a t b)) ⟨hJ.chg.mono (fun _ _ h => h.elim), hJ.ok, fun e he k hk => .inr ((hJ.own e he k hk).resolve_left id), hJ.apart⟩)
  refine WL_val rfl rfl rfl (by exact rMoveT rfl rfl) ?_
  refine WL_val rfl rfl rfl (rExtr rfl rfl rfl) ?_
  refine WL_val rfl rfl rfl (rExtr rfl rfl rfl) ?_
  refine WL_val rfl rfl rfl (by exact rAsgnP rfl rfl) ?_
  refine WL_val rfl rfl rfl (by exact rAsgnN rfl rfl) ?_
  refine WL_nil ?_
  obtain ⟨s, hs0⟩ : ∃ s, s0 n k a t b = s := ⟨_, rfl⟩
  rw [hs0] at hI
  have hok : SOk (zL sb nb cb) s 0 := by rw [← hs0]; exact s0_ok hs sb nb cb
  have hM0 : MvS (s0 n k a t b) s := by rw [← hs0]; exact MvS.refl _
  refine W_seq ?_
  refine W_seq ?_
  refine W_region ?_
  refine WL_val rfl rfl rfl (by exact rMoveN rfl rfl) ?_
  refine WL_val rfl rfl rfl (by exact rNilNe rfl Tryz.underlying27 rfl) ?_
  refine WL_val rfl rfl rfl (by exact rMoveB rfl rfl) ?_
  refine WL_val rfl rfl rfl (by exact rMoveP rfl rfl) ?_
  refine WL_val rfl rfl rfl (rPtrEq rfl Tryz.underlying30 rfl rfl) ?_
  refine WL_val rfl rfl rfl (by exact rPickFB rfl rfl rfl) ?_
  refine WL_nil ?_
  refine W_cond false rfl ?_
  refine W_skip ?_
  refine W_seq ?_
  refine W_seq ?_
  refine W_region ?_
  refine WL_val rfl rfl rfl (by exact rAsgnI rfl rfl) ?_
  refine WL_nil ?_
  refine W_block ?_
  refine W_loop (fun ρ w => ∃ (i : Nat) (L : StL) (s : StS), i ≤ ms.length ∧ Has ρ [(7, .int .i64 (i : Int)), (1, .slice A ms.length c), (5, .pointer (some ⟨sb, 0, none⟩))] ∧ L.sb = sb ∧ MvS (s0 n k a t b) s ∧ SOk L s i ∧ Inv (fun _ => False) w0 w ([B b2 23 #[.int .i64 (n : Int), .int .i64 (k : Int), .int .i64 (a : Int), .int .i64 (t : Int), .bool b]] ++ spt L s)) (fun ρ _ => ms.length - cnt (ρ 7))
    ⟨0, zL sb nb cb, s, by omega, ⟨rfl, rfl, rfl, trivial⟩, rfl, hM0, hok, hI⟩ ?_
  clear hI hok hM0
  rintro ρ w ⟨i, L, s, hi, hH, rfl, hM, hok, hI⟩
  obtain ⟨σ, rfl⟩ := hH.open
  by_cases hin : i < ms.length
  · have hm : ms[i]? = some ms[i] := List.getElem?_eq_getElem hin
    obtain ⟨ab, af, rfl, q⟩ := hR.four hm
    have q0 := q 0 _ rfl
    have q1 := q 1 _ rfl
    have q2 := q 2 _ rfl
    have q3 := q 3 _ rfl
    rw [Nat.add_zero] at q0
    refine W_seq ?_
    refine W_seq ?_
    refine W_region ?_
    refine WL_val rfl rfl rfl (by exact rMoveI rfl rfl) ?_
    refine WL_val rfl rfl rfl (by exact rMoveS rfl rfl) ?_
    refine WL_val rfl rfl rfl (rLen rfl Tryz.underlying24 rfl) ?_
    refine WL_val rfl rfl rfl (by exact rLssT rfl rfl rfl (by omega)) ?_
    refine WL_nil ?_
    refine W_cond true rfl ?_
    refine W_skip ?_
    refine W_seq ?_
    refine W_block ?_
    refine W_region ?_
    refine WL_val rfl rfl rfl (by exact rMoveP rfl rfl) ?_
    refine WL_val rfl rfl rfl (by exact rMoveS rfl rfl) ?_
    refine WL_val rfl rfl rfl (by exact rMoveI rfl rfl) ?_
    refine WL_val rfl rfl rfl (rIdx (sz := 4) rfl Tryz.underlying24 (by kernel_rfl) rfl rfl (by omega)) ?_
    refine WL_val rfl rfl rfl (by exact rLd4 rfl (by kernel_rfl) (by kernel_rfl) rfl (by exact hI.oldp q0) (by exact hI.oldp q1) (by exact hI.oldp q2) (by exact hI.oldp q3)) ?_
    refine WL_call rfl rfl rfl (rCall (vs := [.pointer _, .agg _]) rfl Tryz.func14 rfl rfl rfl) ?_
    refine (playM L s i hok (by omega) (DLs _) _ (hI.fromB (X := [_])) _ _ _ _).mono ?_
    rintro en w1 ⟨⟨v, rfl⟩, L', s', hmv, hok', hsb, hJ⟩
    refine ⟨_, rfl, ?_⟩
    replace hI := hI.callB (X := [_]) hJ
    refine WL_nil ?_
    refine W_region ?_
    refine WL_val rfl rfl rfl (by exact rMoveI rfl rfl) ?_
    refine WL_val rfl rfl rfl (by exact rInc rfl rfl rfl (by omega)) ?_
    refine WL_val rfl rfl rfl (by exact rAsgnI rfl rfl) ?_
    refine WL_nil ?_
    exact ⟨⟨i + 1, L', s', by omega, ⟨rfl, rfl, rfl, trivial⟩, hsb, hM.step hmv, hok', hI⟩, by show ms.length - ((i + 1 : Nat) : Int).toNat < ms.length - (i : Int).toNat; omega⟩
  · obtain rfl : i = ms.length := by omega
    refine W_seq ?_
    refine W_seq ?_
    refine W_region ?_
    refine WL_val rfl rfl rfl (by exact rMoveI rfl rfl) ?_
    refine WL_val rfl rfl rfl (by exact rMoveS rfl rfl) ?_
    refine WL_val rfl rfl rfl (rLen rfl Tryz.underlying24 rfl) ?_
    refine WL_val rfl rfl rfl (by exact rLssF rfl rfl rfl (by omega)) ?_
    refine WL_nil ?_
    refine W_cond false rfl ?_
    refine W_exit ?_
    refine W_seq ?_
    refine W_region ?_
    refine WL_val rfl rfl rfl (by exact rMoveP rfl rfl) ?_
    refine WL_val rfl rfl rfl (by exact rAsgnP rfl rfl) ?_
    refine WL_nil ?_
    refine W_ret ?_
    exact ret1 4 (.inr rfl) rfl ⟨L, s, rfl, hM, hok, hI.d0⟩
end Go.Proofs.YtglioflpblpmpaaGreatDoor
namespace Go.Proofs.YtglioflpblpmpaaGreatDoor
open Go.RowKit
set_option linter.unusedVariables false
set_option linter.unusedSimpArgs false
/-- The run of stores. -/
def q0S : StS := begS (s0 1 1 1 1 false) 0 0 true 7
def qS : Nat → StS
  | 0 => q0S
  | k + 1 => match (qS k).mails[0]? with
    | some m => deliverF (qS k) 0 m
    | none => qS k
theorem qS_mail {k : Nat} (hk : k < 4) : ∃ m, (qS k).mails[0]? = some m ∧ qS (k + 1) = deliverF (qS k) 0 m := by
  have : ((qS k).mails[0]?).isSome = true := by
    match k, hk with
    | 0, _ => decide
    | 1, _ => decide
    | 2, _ => decide
    | 3, _ => decide
  obtain ⟨m, hm⟩ := Option.isSome_iff_exists.1 this
  refine ⟨m, hm, ?_⟩
  show (match (qS k).mails[0]? with | some m => deliverF (qS k) 0 m | none => qS k) = _
  rw [hm]
theorem qS_len : (qS 4).evs.length = 2 := by decide
theorem qS_ev : ∃ e, (qS 4).evs[1]? = some e ∧ e.ty = 2 ∧ e.a = 7 := by
  refine ⟨(qS 4).evs[1]'(by decide), List.getElem?_eq_getElem _, by decide, by decide⟩
set_option maxHeartbeats 4000000 in
theorem stores_any (w0 : World) : Calls Tryz.prog 4 #[] w0 fun en w' => en = .returned (.bool true) ∧ Pure w0 w' := by
  have hI := Inv.start (fun _ => False) w0
  have hset : SetOk (1 : Nat) (1 : Nat) (1 : Nat) (1 : Nat) := by unfold SetOk; omega
  refine calls_of_W (N := Tryz.f4.ntmps) Tryz.func4 rfl rfl rfl ?_
  refine W_seq ?_
  refine W_region ?_
  refine WL_val rfl rfl rfl (by exact rAsgnB rfl rfl) ?_
  refine WL_nil ?_
  refine W_seq ?_
  refine W_region ?_
  refine WL_val rfl rfl rfl (rBuild (qs := [(0, .int .i64 _), (1, .int .i64 _), (2, .int .i64 _), (3, .int .i64 _)]) (vs := [_, _, _, _, _]) [.int .i64 0, .int .i64 0, .int .i64 0, .int .i64 0, .bool false] [0, 1, 2, 3] rfl rfl rfl (fun _ => by kernel_rfl)) ?_
  refine WL_call rfl rfl rfl (rCall (vs := [.agg _]) rfl Tryz.func11 rfl rfl rfl) ?_
  refine (new_any 1 1 1 1 false hset _).mono ?_
  rintro en w1 ⟨sb, nb, cb, rfl, hJ⟩
  refine ⟨_, rfl, ?_⟩
  replace hI := (Inv.callB (X := []) (l := []) hI (l' := spt (zL sb nb cb) (s0 1 1 1 1 false)) ⟨hJ.chg.mono (fun _ _ h => h.elim), hJ.ok, fun e he k hk => .inr ((hJ.own e he k hk).resolve_left id), hJ.apart⟩)
  refine WL_val rfl rfl rfl (by exact rMoveT rfl rfl) ?_
  refine WL_val rfl rfl rfl (rExtr rfl rfl rfl) ?_
  refine WL_val rfl rfl rfl (rExtr rfl rfl rfl) ?_
  refine WL_val rfl rfl rfl (by exact rAsgnP rfl rfl) ?_
  refine WL_val rfl rfl rfl (by exact rAsgnN rfl rfl) ?_
  refine WL_nil ?_
  have hok : SOk (zL sb nb cb) (s0 1 1 1 1 false) 0 := s0_ok hset sb nb cb
  obtain ⟨L, hL⟩ : ∃ L, zL sb nb cb = L := ⟨_, rfl⟩
  have hLs : L.sb = sb := by rw [← hL]; rfl
  have hLc : L.cut = false := by rw [← hL]; rfl
  rw [hL] at hI hok
  clear hL hJ
  subst hLs
  have hmb : MayB (s0 1 1 1 1 false) 0 0 := ⟨rfl, by decide, rfl, rfl, by decide⟩
  refine W_seq ?_
  refine W_seq ?_
  refine W_region ?_
  refine WL_val rfl rfl rfl (by exact rMoveN rfl rfl) ?_
  refine WL_val rfl rfl rfl (by exact rNilNe rfl Tryz.underlying27 rfl) ?_
  refine WL_val rfl rfl rfl (by exact rMoveB rfl rfl) ?_
  refine WL_val rfl rfl rfl (by exact rMoveP rfl rfl) ?_
  refine WL_val rfl rfl rfl (rPtrEq rfl Tryz.underlying30 rfl rfl) ?_
  refine WL_val rfl rfl rfl (by exact rPickFB rfl rfl rfl) ?_
  refine WL_val rfl rfl rfl (by exact rMoveB rfl rfl) ?_
  refine WL_val rfl rfl rfl (by exact rMoveP rfl rfl) ?_
  refine WL_call rfl rfl rfl (rCall (vs := [.pointer _, .int .i64 _, .int .i64 _, .bool _, .int .i64 _]) rfl Tryz.func12 rfl rfl rfl) ?_
  refine (beginM L (s0 1 1 1 1 false) 0 hok (by omega) (DLs _) _ (hI.fromB (X := [])) 0 0 true 7).mono ?_
  rintro en w1 ⟨v, L1, s1, rfl, hmv, hok1, hsb, hcut, hJ, hex⟩
  obtain ⟨rfl, rfl⟩ := hex 0 0 hmb rfl (by omega) (by omega) (by omega) (fun h => by cases h)
  refine ⟨_, rfl, ?_⟩
  replace hI := hI.callB (X := []) hJ
  refine WL_val rfl rfl rfl (by exact rNilNe rfl Tryz.underlying27 rfl) ?_
  refine WL_val rfl rfl rfl (by exact rPickFB rfl rfl rfl) ?_
  refine WL_nil ?_
  refine W_cond false rfl ?_
  refine W_skip ?_
  refine W_seq_cut (fun ρ w => ∃ L4 : StL, L4.sb = L.sb ∧ SOk L4 (qS 4) 5 ∧ Has ρ [(1, .pointer (some ⟨L.sb, 0, none⟩))] ∧ Inv (fun _ => False) w0 w (spt L4 (qS 4))) ?_ ?_
  · refine W_seq ?_
    refine W_region ?_
    refine WL_val rfl rfl rfl (by exact rAsgnI rfl rfl) ?_
    refine WL_nil ?_
    refine W_block ?_
    refine W_loop (fun ρ w => ∃ (i : Nat) (L' : StL), i ≤ 4 ∧ Has ρ [(3, .int .i64 (i : Int)), (1, .pointer (some ⟨L.sb, 0, none⟩))] ∧ L'.sb = L.sb ∧ L'.cut = false ∧ SOk L' (qS i) (i + 1) ∧ Inv (fun _ => False) w0 w (spt L' (qS i))) (fun ρ _ => 4 - cnt (ρ 3))
      ⟨0, L1, by omega, ⟨rfl, rfl, trivial⟩, hsb, hcut.trans hLc, hok1, hI⟩ ?_
    clear hI hok hok1 hJ
    rintro ρ w ⟨i, L', hi, hH, hs', hc', hok, hI⟩
    obtain ⟨σ, rfl⟩ := hH.open
    by_cases hin : i < 4
    · obtain ⟨m, hm, hq⟩ := qS_mail hin
      refine W_seq ?_
      refine W_seq ?_
      refine W_region ?_
      refine WL_val rfl rfl rfl (by exact rMoveI rfl rfl) ?_
      refine WL_val rfl rfl rfl (by exact rLssT rfl rfl rfl (by omega)) ?_
      refine WL_nil ?_
      refine W_cond true rfl ?_
      refine W_skip ?_
      refine W_seq ?_
      refine W_block ?_
      refine W_seq ?_
      refine W_region ?_
      refine WL_val rfl rfl rfl (by exact rMoveP rfl rfl) ?_
      refine WL_call rfl rfl rfl (rCall (vs := [.pointer _, .int .i64 _]) rfl Tryz.func13 rfl rfl rfl) ?_
      rw [← hs']
      refine (deliverM L' (qS i) (i + 1) hok (by omega) (DLs _) _ (hI.fromB (X := [])) 0).mono ?_
      rintro en w1 ⟨v, L2, s2, rfl, hmv2, hok2, hsb2, hcut2, hJ, hex2⟩
      obtain ⟨rfl, rfl⟩ := hex2 0 m hc' rfl hm
      refine ⟨_, rfl, ?_⟩
      replace hI := hI.callB (X := []) hJ
      refine WL_val rfl rfl rfl (by exact rNilNe rfl Tryz.underlying27 rfl) ?_
      refine WL_nil ?_
      refine W_cond false rfl ?_
      refine W_skip ?_
      refine W_region ?_
      refine WL_val rfl rfl rfl (by exact rMoveI rfl rfl) ?_
      refine WL_val rfl rfl rfl (by exact rInc rfl rfl rfl (by omega)) ?_
      refine WL_val rfl rfl rfl (by exact rAsgnI rfl rfl) ?_
      refine WL_nil ?_
      exact ⟨⟨i + 1, L2, by omega, ⟨rfl, rfl, trivial⟩, hsb2, hcut2.trans hc', by rw [hq]; exact hok2, by rw [hq]; exact hI⟩, by show 4 - ((i + 1 : Nat) : Int).toNat < 4 - (i : Int).toNat; omega⟩
    · obtain rfl : i = 4 := by omega
      refine W_seq ?_
      refine W_seq ?_
      refine W_region ?_
      refine WL_val rfl rfl rfl (by exact rMoveI rfl rfl) ?_
      refine WL_val rfl rfl rfl (by exact rLssF rfl rfl rfl (by omega)) ?_
      refine WL_nil ?_
      refine W_cond false rfl ?_
      refine W_exit ?_
      exact ⟨L', hs', hok, ⟨rfl, trivial⟩, hI⟩
  clear hI hok hok1 hJ
  rintro ρ w ⟨L4, hs4, hok, hH, hI⟩
  obtain ⟨σ, rfl⟩ := hH.open
  refine W_seq ?_
  refine W_region ?_
  refine WL_val rfl rfl rfl (by exact rMoveP rfl rfl) ?_
  refine WL_call rfl rfl rfl (rCall (vs := [.pointer _]) rfl Tryz.func9 rfl rfl rfl) ?_
  rw [← hs4]
  have hE := events_any L4 (qS 4) (DLs _) _ (hI.fromB (X := [])) (by rw [qS_len]; omega)
  rw [qS_len] at hE
  refine hE.mono ?_
  rintro en w1 ⟨EA, ec, rfl, hJ⟩
  refine ⟨_, rfl, ?_⟩
  replace hI := hI.callB (X := []) hJ
  refine WL_val rfl rfl rfl (by exact rAsgnS rfl rfl) ?_
  refine WL_nil ?_
  obtain ⟨e, he, hty, hea⟩ := qS_ev
  replace hI : Inv (fun _ => False) w0 w1 (Row 0 48 7 EA 2 ec ((qS 4).evs.flatMap evL) :: spt L4 (qS 4)) := hI
  obtain ⟨eb, eo, rfl⟩ := row_addrS hI.g0 (by omega) (by omega)
  have q := fun j hj => flat_get (f := evL) (size := 7) (fun _ => rfl) (qS 4).evs 1 j _ he hj
  have q1 : ∀ w1, Inv (fun _ => False) w0 w1 (Row 0 48 7 (some ⟨eb, eo, none⟩) 2 ec ((qS 4).evs.flatMap evL) :: spt L4 (qS 4)) → w1.cell? ⟨eb, eo + 1 * 7 + 1, none⟩ = some (.int .i64 2) := fun w1 hI => by
    have := row_cellS hI.g0 ((q 1 (by omega)).trans (by show some (Value.int .i64 e.ty) = _; rw [hty])) (by omega)
    rwa [← Nat.add_assoc] at this
  have q4 : ∀ w1, Inv (fun _ => False) w0 w1 (Row 0 48 7 (some ⟨eb, eo, none⟩) 2 ec ((qS 4).evs.flatMap evL) :: spt L4 (qS 4)) → w1.cell? ⟨eb, eo + 1 * 7 + 4, none⟩ = some (.int .i64 7) := fun w1 hI => by
    have := row_cellS hI.g0 ((q 4 (by omega)).trans (by show some (Value.int .i64 e.a) = _; rw [hea])) (by omega)
    rwa [← Nat.add_assoc] at this
  replace q1 := q1 _ hI
  replace q4 := q4 _ hI
  refine W_seq ?_
  refine W_region ?_
  refine WL_val rfl rfl rfl (by exact rMoveS rfl rfl) ?_
  refine WL_val rfl rfl rfl (rLen rfl Tryz.underlying35 rfl) ?_
  refine WL_val rfl rfl rfl (by exact rEqlT rfl rfl rfl (by omega)) ?_
  refine WL_val rfl rfl rfl (by exact rMoveB rfl rfl) ?_
  refine WL_val rfl rfl rfl (by exact rMoveS rfl rfl) ?_
  refine WL_val rfl rfl rfl (rIdx (sz := 7) (i := 1) rfl Tryz.underlying35 (by kernel_rfl) rfl rfl (by omega)) ?_
  refine WL_val rfl rfl rfl (by exact rFld (off := 1) rfl (by kernel_rfl) rfl) ?_
  refine WL_val rfl rfl rfl (by exact rLd (v := .int .i64 _) rfl (by kernel_rfl) rfl (by exact q1)) ?_
  refine WL_val rfl rfl rfl (by exact rEqlT rfl rfl rfl (by omega)) ?_
  refine WL_val rfl rfl rfl (by exact rPickTB rfl rfl rfl) ?_
  refine WL_val rfl rfl rfl (by exact rMoveB rfl rfl) ?_
  refine WL_val rfl rfl rfl (by exact rMoveS rfl rfl) ?_
  refine WL_val rfl rfl rfl (rIdx (sz := 7) (i := 1) rfl Tryz.underlying35 (by kernel_rfl) rfl rfl (by omega)) ?_
  refine WL_val rfl rfl rfl (by exact rFld (off := 4) rfl (by kernel_rfl) rfl) ?_
  refine WL_val rfl rfl rfl (by exact rLd (v := .int .i64 _) rfl (by kernel_rfl) rfl (by exact q4)) ?_
  refine WL_val rfl rfl rfl (by exact rEqlT rfl rfl rfl (by omega)) ?_
  refine WL_val rfl rfl rfl (by exact rPickTB rfl rfl rfl) ?_
  refine WL_val rfl rfl rfl (by exact rAsgnB rfl rfl) ?_
  refine WL_nil ?_
  refine W_ret ?_
  exact ret1 0 (.inr rfl) rfl ⟨rfl, hI.pu⟩
end Go.Proofs.YtglioflpblpmpaaGreatDoor
