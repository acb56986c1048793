/- store: New, Events, Stamps. -/
import Derived.Test.YtglioflpblpmpaaStoJ
namespace Go.Proofs.Ytglioflpblpmpaa
open Go.RowKit
set_option linter.unusedVariables false
set_option linter.unusedSimpArgs false
def zCl : List Value := clL x0C (.slice none 0 0)
def stZ (n k a t : Nat) (b : Bool) (nb cb : Nat) : Array Value := #[.int .i64 (n : Int), .int .i64 (k : Int), .int .i64 (a : Int), .int .i64 (t : Int), .bool b, .slice (some ⟨nb, 0, none⟩) n n, .slice (some ⟨cb, 0, none⟩) k k, .slice none 0 0, .slice none 0 0, .bool false, .slice none 0 0, .slice none 0 0]
def zL (sb nb cb : Nat) : StL := ⟨sb, nb, cb, fun _ => none, none, 0, none, 0, 0, false, [], fun _ => False, none, 0, none, 0⟩
theorem s0_parts {S : Nat → Prop} {w0 w : World} {n k a t sb nb cb : Nat} {b : Bool} (hI : Inv S w0 w [B sb 59 (stZ n k a t b nb cb), B nb 63 (flatB (n * 8) (ndTo n 0)), B cb 68 (flatB k fun _ => zCl)]) : Inv S w0 w (spt (zL sb nb cb) (s0 n k a t b)) := by
  rw [nd_end (n := n) (k := k) (a := a) (t := t) (b := b)] at hI
  have h1 := (hI.manyE k (es := cntE (zL sb nb cb) (s0 n k a t b)) (fun i => rfl)).back 3
  have h2 := (h1.fresh (Pure.refl _) (Row.nil _ 0 73 9) (fun k hk => by simp [Row] at hk)).back 4
  have h3 := (h2.fresh (Pure.refl _) (Row.nil _ 0 66 1) (fun k hk => by simp [Row] at hk)).back 5
  have h4 := (h3.fresh (Pure.refl _) (RowsE.ok (w := w) (vals := []) (D := fun _ => False) (fun _ h => h.elim) (fun v hv => by simp at hv)) (fun k hk => hk.elim)).back 6
  have h5 := (h4.fresh (Pure.refl _) (Row.nil _ 0 37 7) (fun k hk => by simp [Row] at hk)).back 7
  exact (h5.fresh (Pure.refl _) (Row.nil _ 0 39 2) (fun k hk => by simp [Row] at hk)).back 8
set_option maxHeartbeats 4000000 in
theorem new_any (n k a t : Nat) (b : Bool) (hs : SetOk n k a t) (w0 : World) :
    Calls Try.prog 12 #[.agg #[.int .i64 (n : Int), .int .i64 (k : Int), .int .i64 (a : Int), .int .i64 (t : Int), .bool b]] w0 fun en w' => ∃ sb nb cb, en = .returned (.tuple #[.pointer (some ⟨sb, 0, none⟩), .nilIface]) ∧ Inv (fun _ => False) w0 w' (spt (zL sb nb cb) (s0 n k a t b)) := by
  have hI := Inv.start (fun _ => False) w0
  have hs' := hs
  unfold SetOk at hs'
  refine calls_of_W (N := Try.f12.ntmps) Try.func12 rfl rfl rfl ?_
  refine W_seq ?_
  refine W_region ?_
  refine WL_box (u := .agg _) (vs := #[_, _, _, _, _]) hI rfl rfl rfl rfl rfl rfl ?_
  clear hI; rintro b1 w - - hI
  refine WL_val rfl rfl rfl (by first | exact rAsgnP rfl rfl | exact rAsgn rfl) ?_
  refine WL_val rfl rfl rfl (by first | exact rAsgnN rfl rfl | exact rAsgnE rfl rfl | exact rAsgn rfl) ?_
  refine WL_nil ?_
  refine W_seq ?_
  refine W_seq ?_
  refine W_region ?_
  refine WL_val rfl rfl rfl (by first | exact rLdB (n := 5) rfl (by kernel_rfl) (by kernel_rfl) rfl rfl hI.g0) ?_
  refine WL_call rfl rfl rfl (rCall (vs := [.agg _]) rfl Try.func6 rfl rfl rfl) ?_
  refine (scheck_any n k a t b _).mono ?_
  rintro e w1 ⟨⟨_, rfl⟩ | ⟨hb, _⟩, hp⟩
  rotate_left
  · exact absurd hs hb
  refine ⟨_, rfl, ?_⟩
  replace hI := hI.pure hp
  refine WL_val rfl rfl rfl (by first | exact rAsgnN rfl rfl | exact rAsgnE rfl rfl | exact rAsgn rfl) ?_
  refine WL_nil ?_
  refine W_seq ?_
  refine W_region ?_
  refine WL_val rfl rfl rfl (by first | exact rMoveN rfl rfl | exact rMoveE rfl rfl | exact rMove rfl) ?_
  refine WL_val rfl rfl rfl (by first | exact rIfaceNe rfl Try.underlying27 rfl rfl | exact rNilNe rfl Try.underlying27 rfl) ?_
  refine WL_nil ?_
  refine W_cond false rfl ?_
  refine W_skip ?_
  refine W_seq_cut (fun ρ w => ∃ sb nb cb, Has ρ [(5, .pointer (some ⟨sb, 0, none⟩))] ∧ Inv (fun _ => False) w0 w [B sb 59 (stZ n k a t b nb cb), B nb 63 (flatB n fun _ => zEnt), B cb 68 (flatB k fun _ => zCl)]) ?_ ?_
  · refine W_draw (by kernel_rfl) ?_
    refine WA_inv (T := []) hI.drew ?_
    intro Sx hSx hXS
    replace hI := hI.drew
    refine WT_take 0 rfl rfl (by kernel_rfl) (hXS _ hI) rfl (fun W hW => have hI := hSx W hW; (by first | exact rLdB (n := 5) rfl (by kernel_rfl) (by kernel_rfl) rfl rfl hI.g0)) ?_
    refine WT_take 1 rfl rfl (by kernel_rfl) (hXS _ hI) rfl (fun W hW => have hI := hSx W hW; (by first | exact rFldN (off := 0) rfl (by kernel_rfl) rfl | exact rFld0 rfl (by kernel_rfl) rfl)) ?_
    refine WT_take 2 rfl rfl (by kernel_rfl) (hXS _ hI) rfl (fun W hW => have hI := hSx W hW; (by first | exact rLd (v := .int .i64 _) rfl (by kernel_rfl) rfl (by first | exact hI.c0 rfl) | exact rLd rfl (by kernel_rfl) rfl (by first | exact hI.c0 rfl))) ?_
    refine WT_take 4 rfl rfl (by kernel_rfl) (hXS _ hI) rfl (fun W hW => have hI := hSx W hW; (by first | exact rFldN (off := 1) rfl (by kernel_rfl) rfl | exact rFld (off := 1) rfl (by kernel_rfl) rfl)) ?_
    refine WT_take 5 rfl rfl (by kernel_rfl) (hXS _ hI) rfl (fun W hW => have hI := hSx W hW; (by first | exact rLd (v := .int .i64 _) rfl (by kernel_rfl) rfl (by first | exact hI.c0 rfl) | exact rLd rfl (by kernel_rfl) rfl (by first | exact hI.c0 rfl))) ?_
    refine WT_two 3 6 rfl rfl (by kernel_rfl) rfl rfl ?_ ?_
    · refine WL_mkZ (m := 24) (by_ := 192) (z := .agg zEnt.toArray) zEnt hI rfl rfl rfl rfl rfl rfl Try.underlying51 (by kernel_rfl) rfl rfl (by omega) (by omega) (by omega) ?_
      clear hI; rintro b16 w - - hI
      refine WL_nil ⟨hXS _ hI.d0, ?_⟩
      refine WT_one 6 rfl (by kernel_rfl) rfl ?_
      refine WL_mkZ (m := 15) (by_ := 128) (z := .agg zCl.toArray) zCl hI rfl rfl rfl rfl rfl rfl Try.underlying52 (by kernel_rfl) rfl rfl (by omega) (by omega) (by omega) ?_
      clear hI; rintro b19 w - - hI
      refine WL_nil ⟨hXS _ hI.d0.d0, ?_⟩
      refine WT_take 7 rfl rfl (by kernel_rfl) (hXS _ hI.d0.d0) rfl (fun W hW => have hI := hSx W hW; (rBuild (qs := [(0, .agg #[_, _, _, _, _]), (1, .slice _ _ _), (2, .slice _ _ _)]) (vs := [_, _, _, _, _, _, _, _, _, _, _, _]) [.int .i64 0, .int .i64 0, .int .i64 0, .int .i64 0, .bool false, .slice none 0 0, .slice none 0 0, .slice none 0 0, .slice none 0 0, .bool false, .slice none 0 0, .slice none 0 0] [0, 5, 6] rfl rfl rfl (fun _ => by kernel_rfl))) ?_
      refine WT_one 8 rfl (by kernel_rfl) rfl ?_
      refine WL_box (u := .agg (stZ n k a t b b16 b19)) (vs := stZ n k a t b b16 b19) hI rfl rfl rfl rfl rfl rfl ?_
      clear hI; rintro b21 w - - hI
      refine WL_nil ⟨hXS _ hI.d0.d0.d0, ?_⟩
      refine WT_take 9 rfl rfl (by kernel_rfl) (hXS _ hI.d0.d0.d0) rfl (fun W hW => have hI := hSx W hW; (by first | exact rAsgnP rfl rfl | exact rAsgn rfl)) ?_
      refine WT_end (by kernel_rfl) ?_
      first | exact ⟨b21, b16, b19, ⟨rfl, trivial⟩, hI.erase 3⟩ | exact ⟨b21, b16, b19, ⟨rfl, trivial⟩, hI.sw1.erase 3⟩
    · refine WL_mkZ (m := 15) (by_ := 128) (z := .agg zCl.toArray) zCl hI rfl rfl rfl rfl rfl rfl Try.underlying52 (by kernel_rfl) rfl rfl (by omega) (by omega) (by omega) ?_
      clear hI; rintro b19 w - - hI
      refine WL_nil ⟨hXS _ hI.d0, ?_⟩
      refine WT_one 3 rfl (by kernel_rfl) rfl ?_
      refine WL_mkZ (m := 24) (by_ := 192) (z := .agg zEnt.toArray) zEnt hI rfl rfl rfl rfl rfl rfl Try.underlying51 (by kernel_rfl) rfl rfl (by omega) (by omega) (by omega) ?_
      clear hI; rintro b16 w - - hI
      refine WL_nil ⟨hXS _ hI.d0.d0, ?_⟩
      refine WT_take 7 rfl rfl (by kernel_rfl) (hXS _ hI.d0.d0) rfl (fun W hW => have hI := hSx W hW; (rBuild (qs := [(0, .agg #[_, _, _, _, _]), (1, .slice _ _ _), (2, .slice _ _ _)]) (vs := [_, _, _, _, _, _, _, _, _, _, _, _]) [.int .i64 0, .int .i64 0, .int .i64 0, .int .i64 0, .bool false, .slice none 0 0, .slice none 0 0, .slice none 0 0, .slice none 0 0, .bool false, .slice none 0 0, .slice none 0 0] [0, 5, 6] rfl rfl rfl (fun _ => by kernel_rfl))) ?_
      refine WT_one 8 rfl (by kernel_rfl) rfl ?_
      refine WL_box (u := .agg (stZ n k a t b b16 b19)) (vs := stZ n k a t b b16 b19) hI rfl rfl rfl rfl rfl rfl ?_
      clear hI; rintro b21 w - - hI
      refine WL_nil ⟨hXS _ hI.d0.d0.d0, ?_⟩
      refine WT_take 9 rfl rfl (by kernel_rfl) (hXS _ hI.d0.d0.d0) rfl (fun W hW => have hI := hSx W hW; (by first | exact rAsgnP rfl rfl | exact rAsgn rfl)) ?_
      refine WT_end (by kernel_rfl) ?_
      first | exact ⟨b21, b16, b19, ⟨rfl, trivial⟩, hI.erase 3⟩ | exact ⟨b21, b16, b19, ⟨rfl, trivial⟩, hI.sw1.erase 3⟩
  clear hI
  rintro ρ w ⟨sb, nb, cb, hH, hI⟩
  obtain ⟨σ, rfl⟩ := hH.open
  rw [nd_start] at hI
  refine W_seq_cut (fun ρ w => Has ρ [(5, .pointer (some ⟨sb, 0, none⟩))] ∧ Inv (fun _ => False) w0 w [B sb 59 (stZ n k a t b nb cb), B nb 63 (flatB (n * 8) (ndTo n 0)), B cb 68 (flatB k fun _ => zCl)]) ?_ ?_
  · refine W_seq ?_
    refine W_region ?_
    refine WL_val rfl rfl rfl (by first | exact rMoveP rfl rfl | exact rMove rfl) ?_
    refine WL_val rfl rfl rfl (rNilChk rfl rfl) ?_
    refine WL_val rfl rfl rfl (by first | exact rFldN (off := 5) rfl (by kernel_rfl) rfl | exact rFld (off := 5) rfl (by kernel_rfl) rfl) ?_
    refine WL_val rfl rfl rfl (by first | exact rLd (v := .slice _ _ _) rfl (by kernel_rfl) rfl (by first | exact hI.c0 rfl) | exact rLd rfl (by kernel_rfl) rfl (by first | exact hI.c0 rfl)) ?_
    refine WL_val rfl rfl rfl (rLen rfl Try.underlying51 rfl) ?_
    refine WL_val rfl rfl rfl (by first | exact rMoveI rfl rfl | exact rMove rfl) ?_
    refine WL_nil ?_
    refine W_block ?_
    refine W_loop (fun ρ w => ∃ j : Nat, j ≤ n ∧ Has ρ [(27, .int .i64 (j : Int)), (26, .int .i64 (n : Int)), (5, .pointer (some ⟨sb, 0, none⟩))] ∧ Inv (fun _ => False) w0 w [B sb 59 (stZ n k a t b nb cb), B nb 63 (flatB (n * 8) (ndTo j 0)), B cb 68 (flatB k fun _ => zCl)]) (fun ρ _ => n - cnt (ρ 27))
      ⟨0, by omega, ⟨rfl, rfl, rfl, trivial⟩, hI⟩ ?_
    clear hI
    rintro ρ w ⟨j, hj, hH, hI⟩
    obtain ⟨σ, rfl⟩ := hH.open
    by_cases hjn : j < n
    rotate_left
    · obtain rfl : j = n := by omega
      refine W_seq ?_
      refine W_region ?_
      refine WL_val rfl rfl rfl (by first | exact rLssT rfl rfl rfl (by omega) | exact rLssF rfl rfl rfl (by omega) | exact rLss rfl rfl rfl) ?_
      refine WL_nil ?_
      refine W_seq ?_
      refine W_cond false rfl ?_
      refine W_exit ?_
      exact ⟨⟨rfl, trivial⟩, hI⟩
    refine W_seq ?_
    refine W_region ?_
    refine WL_val rfl rfl rfl (by first | exact rLssT rfl rfl rfl (by omega) | exact rLssF rfl rfl rfl (by omega) | exact rLss rfl rfl rfl) ?_
    refine WL_nil ?_
    refine W_seq ?_
    refine W_cond true rfl ?_
    refine W_skip ?_
    refine W_seq ?_
    refine W_block ?_
    refine W_seq ?_
    refine W_region ?_
    refine WL_val rfl rfl rfl (by first | exact rMoveI rfl rfl | exact rMove rfl) ?_
    refine WL_val rfl rfl rfl (by first | exact rAsgnI rfl rfl | exact rAsgn rfl) ?_
    refine WL_nil ?_
    refine W_seq ?_
    refine W_region ?_
    refine WL_val rfl rfl rfl (by first | exact rMoveI rfl rfl | exact rMove rfl) ?_
    refine WL_nil ?_
    refine W_block ?_
    refine W_loop (fun ρ w => ∃ key : Nat, key ≤ 8 ∧ Has ρ [(30, .int .i64 (key : Int)), (6, .int .i64 (j : Int)), (27, .int .i64 (j : Int)), (26, .int .i64 (n : Int)), (5, .pointer (some ⟨sb, 0, none⟩))] ∧ Inv (fun _ => False) w0 w [B sb 59 (stZ n k a t b nb cb), B nb 63 (flatB (n * 8) (ndTo j key)), B cb 68 (flatB k fun _ => zCl)]) (fun ρ _ => 8 - cnt (ρ 30))
      ⟨0, by omega, ⟨rfl, rfl, rfl, rfl, rfl, trivial⟩, hI⟩ ?_
    clear hI
    rintro ρ w ⟨key, hk, hH, hI⟩
    obtain ⟨σ, rfl⟩ := hH.open
    by_cases hk8 : key < 8
    rotate_left
    · obtain rfl : key = 8 := by omega
      rw [ndTo_next] at hI
      refine W_seq ?_
      refine W_region ?_
      refine WL_val rfl rfl rfl (by first | exact rLssT rfl rfl rfl (by omega) | exact rLssF rfl rfl rfl (by omega) | exact rLss rfl rfl rfl) ?_
      refine WL_nil ?_
      refine W_seq ?_
      refine W_cond false rfl ?_
      refine W_exit ?_
      refine W_region ?_
      refine WL_val rfl rfl rfl (by first | exact rInc rfl rfl rfl (by omega) | exact rAdd rfl rfl rfl (by omega) | exact rAddW rfl rfl rfl) ?_
      refine WL_val rfl rfl rfl (by first | exact rMoveI rfl rfl | exact rMove rfl) ?_
      refine WL_nil ?_
      exact ⟨⟨j + 1, by omega, ⟨rfl, rfl, rfl, trivial⟩, hI⟩, by show n - ((j + 1 : Nat) : Int).toNat < n - (j : Int).toNat; omega⟩
    have hlt : ∀ i, (ndTo j key i).length = 3 := fun i => by unfold ndTo; split <;> rfl
    refine W_seq ?_
    refine W_region ?_
    refine WL_val rfl rfl rfl (by first | exact rLssT rfl rfl rfl (by omega) | exact rLssF rfl rfl rfl (by omega) | exact rLss rfl rfl rfl) ?_
    refine WL_nil ?_
    refine W_seq ?_
    refine W_cond true rfl ?_
    refine W_skip ?_
    refine W_seq ?_
    refine W_block ?_
    refine W_seq ?_
    refine W_region ?_
    refine WL_val rfl rfl rfl (by first | exact rMoveI rfl rfl | exact rMove rfl) ?_
    refine WL_val rfl rfl rfl (by first | exact rAsgnI rfl rfl | exact rAsgn rfl) ?_
    refine WL_nil ?_
    refine W_region ?_
    refine WL_val rfl rfl rfl (by first | exact rMoveP rfl rfl | exact rMove rfl) ?_
    refine WL_val rfl rfl rfl (rNilChk rfl rfl) ?_
    refine WL_val rfl rfl rfl (by first | exact rFldN (off := 5) rfl (by kernel_rfl) rfl | exact rFld (off := 5) rfl (by kernel_rfl) rfl) ?_
    refine WL_val rfl rfl rfl (by first | exact rLd (v := .slice _ _ _) rfl (by kernel_rfl) rfl (by first | exact hI.c0 rfl) | exact rLd rfl (by kernel_rfl) rfl (by first | exact hI.c0 rfl)) ?_
    refine WL_val rfl rfl rfl (by first | exact rMoveI rfl rfl | exact rMove rfl) ?_
    refine WL_val rfl rfl rfl (by first | exact rMoveI rfl rfl | exact rMove rfl) ?_
    refine WL_val rfl rfl rfl (rBuild (qs := [(1, .int .i64 _)]) (vs := [_, _]) [.int .i64 0, .int .i64 0] [1] rfl rfl rfl (fun _ => by kernel_rfl)) ?_
    refine WL_val rfl rfl rfl (rBuild (qs := [(0, .agg #[_, _])]) (vs := [_, _, _]) [.int .i64 0, .int .i64 0, .int .i64 0] [0] rfl rfl rfl (fun _ => by kernel_rfl)) ?_
    refine WL_val rfl rfl rfl (rIdx (sz := 24) rfl Try.underlying51 (by kernel_rfl) rfl rfl (by omega)) ?_
    refine WL_val rfl rfl rfl (rIdxArr (sz := 3) rfl Try.underlying63 (by kernel_rfl) rfl rfl rfl (by omega)) ?_
    refine WL_stA 1 rfl (u := .agg (entL ⟨0, -1, 0⟩).toArray) (vs := (entL ⟨0, -1, 0⟩).toArray) (n := 3) (j := 0 + j * 24 + key * 3) hI rfl rfl rfl rfl rfl rfl (by kernel_rfl) rfl (by rw [flatB_size hlt]; omega) rfl (ndTo_set hjn hk8) ?_
    clear hI; intro w hI
    refine WL_nil ?_
    refine W_region ?_
    refine WL_val rfl rfl rfl (by first | exact rInc rfl rfl rfl (by omega) | exact rAdd rfl rfl rfl (by omega) | exact rAddW rfl rfl rfl) ?_
    refine WL_val rfl rfl rfl (by first | exact rMoveI rfl rfl | exact rMove rfl) ?_
    refine WL_nil ?_
    exact ⟨⟨key + 1, by omega, ⟨rfl, rfl, rfl, rfl, rfl, trivial⟩, hI⟩, by show 8 - ((key + 1 : Nat) : Int).toNat < 8 - (key : Int).toNat; omega⟩
  clear hI
  rintro ρ w ⟨hH, hI⟩
  obtain ⟨σ, rfl⟩ := hH.open
  refine W_seq ?_
  refine W_region ?_
  refine WL_val rfl rfl rfl (by first | exact rMoveP rfl rfl | exact rMove rfl) ?_
  refine WL_val rfl rfl rfl (by first | exact rAsgnP rfl rfl | exact rAsgn rfl) ?_
  refine WL_val rfl rfl rfl (by first | exact rAsgnN rfl rfl | exact rAsgnE rfl rfl | exact rAsgn rfl) ?_
  refine WL_nil ?_
  refine W_ret ?_
  exact ret2 2 3 (.inr rfl) rfl ⟨sb, nb, cb, rfl, s0_parts hI⟩
theorem s0_ok {n k a t : Nat} {b : Bool} (hs : SetOk n k a t) (sb nb cb : Nat) : SOk (zL sb nb cb) (s0 n k a t b) 0 := by
  unfold SetOk at hs
  refine ⟨by show 1 ≤ n ∧ n ≤ 7; omega, by show 1 ≤ k ∧ k ≤ 8; omega, by show 1 ≤ a ∧ a ≤ n; omega, by show 1 ≤ t ∧ t ≤ n; omega, Nat.zero_le _, Nat.zero_le _, rfl, ?_, fun m hm => (by cases hm), fun c _ => ⟨Nat.le_refl _, Nat.le_refl _, fun h => (by cases h)⟩, fun c b _ h => (by cases h), fun _ _ _ _ => Nat.le_refl _⟩
  show 0 + busyN (s0 n k a t b) k ≤ 120
  have := busyN_le (s0 n k a t b) k
  omega
section
variable {P : Program} {ρ : Env} {w : World} {o : Oper} {x : Operand} {t t' e : TypeId}
theorem rSliceNilT {n c : Nat} (ho : o.op = .binOp .eql t x (.const (.slice none 0 0)) t') (ht : P.underlying t = some (.slice e)) (hx : ev ρ x = .slice none n c) : Runs P ρ o w (.bool true) := by
  have h := run_equal (P := P) (w := w) (t := t) (x := .slice none n c) (y := .slice none 0 0) (r := true) (fun d => by simp [Op.equalIn, run_underlying ht])
  simp [Runs, execOp, ho, hx, show ev ρ (.const (.slice none 0 0)) = .slice none 0 0 from rfl, eqGuard, binOp, h]
theorem rSliceNilF {n c : Nat} {p : Addr} (ho : o.op = .binOp .eql t x (.const (.slice none 0 0)) t') (ht : P.underlying t = some (.slice e)) (hx : ev ρ x = .slice (some p) n c) : Runs P ρ o w (.bool false) := by
  have h := run_equal (P := P) (w := w) (t := t) (x := .slice (some p) n c) (y := .slice none 0 0) (r := false) (fun d => by simp [Op.equalIn, run_underlying ht])
  simp [Runs, execOp, ho, hx, show ev ρ (.const (.slice none 0 0)) = .slice none 0 0 from rfl, eqGuard, binOp, h]
end
theorem evs_one (l : List Ev) : (l.flatMap evL).all (·.oneCell') = true := by
  rw [List.all_eq_true]
  intro u hu
  obtain ⟨m, _, h⟩ := List.mem_flatMap.1 hu
  simp only [evL, List.mem_cons, List.not_mem_nil, or_false] at h
  rcases h with h | h | h | h | h | h | h <;> rw [h] <;> rfl
theorem sts_one (l : List SEnt) : (l.flatMap stL).all (·.oneCell') = true := by
  rw [List.all_eq_true]
  intro u hu
  obtain ⟨m, _, h⟩ := List.mem_flatMap.1 hu
  simp only [stL, List.mem_cons, List.not_mem_nil, or_false] at h
  rcases h with h | h <;> rw [h] <;> rfl
set_option maxHeartbeats 1000000 in
theorem cloneE_any (A : Option Addr) (c : Nat) (l : List Ev) (D : Nat → Prop) (w0 : World) (h : Rd w0 D 7 (.slice A l.length c) l.length (l.flatMap evL)) (hb : l.length ≤ 1000000) :
    Calls Try.prog 16 #[.slice A l.length c] w0 fun en w' => ∃ A' c', en = .returned (.slice A' l.length c') ∧ Inv (fun _ => False) w0 w' [Row 0 37 7 A' l.length c' (l.flatMap evL)] := by
  obtain ⟨A1, c1, hv, hnc, hcm, hlen, hcell⟩ := h
  injection hv with e1 e2 e3
  subst e1 e3
  have hI := Inv.start (fun _ => False) w0
  refine calls_of_W (N := Try.f16.ntmps) Try.func16 rfl rfl rfl ?_
  refine W_seq ?_
  refine W_region ?_
  refine WL_val rfl rfl rfl (by first | exact rAsgnS rfl rfl | exact rAsgn rfl) ?_
  refine WL_nil ?_
  cases A with
  | none =>
    have hl : l = [] := by
      rcases Nat.eq_zero_or_pos l.length with h0 | h0
      · exact List.eq_nil_of_length_eq_zero h0
      · obtain ⟨b, o, hbo, _⟩ := hcell h0
        cases hbo
    subst hl
    refine W_seq ?_
    refine W_seq ?_
    refine W_region ?_
    refine WL_val rfl rfl rfl (by first | exact rMoveS rfl rfl | exact rMove rfl) ?_
    refine WL_val rfl rfl rfl (rSliceNilT rfl Try.underlying32 rfl) ?_
    refine WL_nil ?_
    refine W_cond true rfl ?_
    refine W_seq ?_
    refine W_region ?_
    refine WL_val rfl rfl rfl (by first | exact rAsgnS rfl rfl | exact rAsgn rfl) ?_
    refine WL_nil ?_
    refine W_ret ?_
    exact ret1 2 (.inr rfl) rfl ⟨none, 0, rfl, hI.fresh (Pure.refl _) (Row.nil _ 0 37 7) (fun k hk => by simp [Row] at hk)⟩
  | some p =>
    refine W_seq ?_
    refine W_seq ?_
    refine W_region ?_
    refine WL_val rfl rfl rfl (by first | exact rMoveS rfl rfl | exact rMove rfl) ?_
    refine WL_val rfl rfl rfl (rSliceNilF rfl Try.underlying32 rfl) ?_
    refine WL_nil ?_
    refine W_cond false rfl ?_
    refine W_skip ?_
    refine W_seq ?_
    refine W_region ?_
    refine WL_lit (vs := []) (qs := []) [] [] hI rfl rfl rfl rfl rfl rfl Try.underlying32 (fun _ => by kernel_rfl) ?_
    clear hI; rintro b5 w - - hI
    refine WL_val rfl rfl rfl (by first | exact rMoveS rfl rfl | exact rMove rfl) ?_
    replace hI := hI.u0 (e' := Row 0 37 7 (some ⟨b5, 0, none⟩) 0 0 []) (Chg.refl _ _) (Row.of_blk hI.g0 (Nat.zero_le _) (by simp) (by omega)) (fun k hk => .inl (by have : some b5 = some k := hk; injection this with this; exact this.symm))
    rcases Nat.eq_zero_or_pos l.length with h0 | h0
    · have hl : l = [] := List.eq_nil_of_length_eq_zero h0
      subst hl
      refine WL_val rfl rfl rfl (rApp0 rfl Try.underlying32 (sz := 7) (by kernel_rfl) rfl rfl (Nat.le_refl _)) ?_
      refine WL_val rfl rfl rfl (rAsgnS rfl rfl) ?_
      refine WL_nil ?_
      refine W_ret ?_
      exact ret1 2 (.inr rfl) rfl ⟨_, _, rfl, hI⟩
    · obtain ⟨b, o, hbo, _, hcl⟩ := hcell h0
      injection hbo with hbo
      subst hbo
      refine WL_app0 (z := .agg #[.int .i64 0, .int .i64 0, .int .i64 0, .int .i64 0, .int .i64 0, .int .i64 0, .int .i64 0]) (by_ := 56) (news := l.flatMap evL) hI rfl rfl rfl rfl rfl rfl Try.underlying32 (by kernel_rfl) rfl (by omega) hlen (fun k u hk => hI.oldp (hcl k u hk)) (evs_one l) (by simp; omega) (by simp; omega) (Nat.zero_le _) ?_
      clear hI; rintro A2 c2 w _ _ hI
      refine WL_val rfl rfl rfl (rAsgnS rfl rfl) ?_
      refine WL_nil ?_
      refine W_ret ?_
      refine ret1 2 (.inr rfl) rfl ⟨A2, c2, ?_, ?_⟩
      · show Ending.returned (.slice A2 (0 + l.length) c2) = _; rw [Nat.zero_add]
      · have h' : Inv (fun _ => False) w0 w [Row 0 37 7 A2 (0 + l.length) c2 ([] ++ l.flatMap evL)] := hI
        rw [Nat.zero_add, List.nil_append] at h'; exact h'
set_option maxHeartbeats 1000000 in
theorem cloneS_any (A : Option Addr) (c : Nat) (l : List SEnt) (D : Nat → Prop) (w0 : World) (h : Rd w0 D 2 (.slice A l.length c) l.length (l.flatMap stL)) (hb : l.length ≤ 1000000) :
    Calls Try.prog 17 #[.slice A l.length c] w0 fun en w' => ∃ A' c', en = .returned (.slice A' l.length c') ∧ Inv (fun _ => False) w0 w' [Row 0 39 2 A' l.length c' (l.flatMap stL)] := by
  obtain ⟨A1, c1, hv, hnc, hcm, hlen, hcell⟩ := h
  injection hv with e1 e2 e3
  subst e1 e3
  have hI := Inv.start (fun _ => False) w0
  refine calls_of_W (N := Try.f17.ntmps) Try.func17 rfl rfl rfl ?_
  refine W_seq ?_
  refine W_region ?_
  refine WL_val rfl rfl rfl (by first | exact rAsgnS rfl rfl | exact rAsgn rfl) ?_
  refine WL_nil ?_
  cases A with
  | none =>
    have hl : l = [] := by
      rcases Nat.eq_zero_or_pos l.length with h0 | h0
      · exact List.eq_nil_of_length_eq_zero h0
      · obtain ⟨b, o, hbo, _⟩ := hcell h0
        cases hbo
    subst hl
    refine W_seq ?_
    refine W_seq ?_
    refine W_region ?_
    refine WL_val rfl rfl rfl (by first | exact rMoveS rfl rfl | exact rMove rfl) ?_
    refine WL_val rfl rfl rfl (rSliceNilT rfl Try.underlying34 rfl) ?_
    refine WL_nil ?_
    refine W_cond true rfl ?_
    refine W_seq ?_
    refine W_region ?_
    refine WL_val rfl rfl rfl (by first | exact rAsgnS rfl rfl | exact rAsgn rfl) ?_
    refine WL_nil ?_
    refine W_ret ?_
    exact ret1 2 (.inr rfl) rfl ⟨none, 0, rfl, hI.fresh (Pure.refl _) (Row.nil _ 0 39 2) (fun k hk => by simp [Row] at hk)⟩
  | some p =>
    refine W_seq ?_
    refine W_seq ?_
    refine W_region ?_
    refine WL_val rfl rfl rfl (by first | exact rMoveS rfl rfl | exact rMove rfl) ?_
    refine WL_val rfl rfl rfl (rSliceNilF rfl Try.underlying34 rfl) ?_
    refine WL_nil ?_
    refine W_cond false rfl ?_
    refine W_skip ?_
    refine W_seq ?_
    refine W_region ?_
    refine WL_lit (vs := []) (qs := []) [] [] hI rfl rfl rfl rfl rfl rfl Try.underlying34 (fun _ => by kernel_rfl) ?_
    clear hI; rintro b5 w - - hI
    refine WL_val rfl rfl rfl (by first | exact rMoveS rfl rfl | exact rMove rfl) ?_
    replace hI := hI.u0 (e' := Row 0 39 2 (some ⟨b5, 0, none⟩) 0 0 []) (Chg.refl _ _) (Row.of_blk hI.g0 (Nat.zero_le _) (by simp) (by omega)) (fun k hk => .inl (by have : some b5 = some k := hk; injection this with this; exact this.symm))
    rcases Nat.eq_zero_or_pos l.length with h0 | h0
    · have hl : l = [] := List.eq_nil_of_length_eq_zero h0
      subst hl
      refine WL_val rfl rfl rfl (rApp0 rfl Try.underlying34 (sz := 2) (by kernel_rfl) rfl rfl (Nat.le_refl _)) ?_
      refine WL_val rfl rfl rfl (rAsgnS rfl rfl) ?_
      refine WL_nil ?_
      refine W_ret ?_
      exact ret1 2 (.inr rfl) rfl ⟨_, _, rfl, hI⟩
    · obtain ⟨b, o, hbo, _, hcl⟩ := hcell h0
      injection hbo with hbo
      subst hbo
      refine WL_app0 (z := .agg #[.int .i64 0, .int .i64 0]) (by_ := 16) (news := l.flatMap stL) hI rfl rfl rfl rfl rfl rfl Try.underlying34 (by kernel_rfl) rfl (by omega) hlen (fun k u hk => hI.oldp (hcl k u hk)) (sts_one l) (by simp; omega) (by simp; omega) (Nat.zero_le _) ?_
      clear hI; rintro A2 c2 w _ _ hI
      refine WL_val rfl rfl rfl (rAsgnS rfl rfl) ?_
      refine WL_nil ?_
      refine W_ret ?_
      refine ret1 2 (.inr rfl) rfl ⟨A2, c2, ?_, ?_⟩
      · show Ending.returned (.slice A2 (0 + l.length) c2) = _; rw [Nat.zero_add]
      · have h' : Inv (fun _ => False) w0 w [Row 0 39 2 A2 (0 + l.length) c2 ([] ++ l.flatMap stL)] := hI
        rw [Nat.zero_add, List.nil_append] at h'; exact h'
set_option maxHeartbeats 1000000 in
theorem events_any (L : StL) (s : SSt) (S : Nat → Prop) (w0 : World) (hI : Inv S w0 w0 (spt L s)) (hb : s.evs.length ≤ 1000000) :
    Calls Try.prog 9 #[.pointer (some ⟨L.sb, 0, none⟩)] w0 fun en w' => ∃ A c, en = .returned (.slice A s.evs.length c) ∧ Inv S w0 w' (Row 0 37 7 A s.evs.length c (s.evs.flatMap evL) :: spt L s) := by
  refine calls_of_W (N := Try.f9.ntmps) Try.func9 rfl rfl rfl ?_
  refine W_seq ?_
  refine W_region ?_
  refine WL_val rfl rfl rfl (by first | exact rAsgnS rfl rfl | exact rAsgn rfl) ?_
  refine WL_nil ?_
  refine W_seq ?_
  refine W_seq ?_
  refine W_region ?_
  refine WL_val rfl rfl rfl (by first | exact rMoveP rfl rfl | exact rMove rfl) ?_
  refine WL_val rfl rfl rfl (rPtrEq rfl Try.underlying30 rfl rfl) ?_
  refine WL_nil ?_
  refine W_cond false rfl ?_
  refine W_skip ?_
  have hz : w0.cell? ⟨L.sb, 10, none⟩ = some (.slice L.EA s.evs.length L.ec) := hI.cell 0 rfl rfl
  refine W_seq ?_
  refine W_region ?_
  refine WL_val rfl rfl rfl (by first | exact rMoveP rfl rfl | exact rMove rfl) ?_
  refine WL_val rfl rfl rfl (rNilChk rfl rfl) ?_
  refine WL_val rfl rfl rfl (by first | exact rFldN (off := 10) rfl (by kernel_rfl) rfl | exact rFld (off := 10) rfl (by kernel_rfl) rfl) ?_
  refine WL_val rfl rfl rfl (by first | exact rLd (v := .slice _ _ _) rfl (by kernel_rfl) rfl (by first | exact hI.oldp hz | exact hz) | exact rLd rfl (by kernel_rfl) rfl (by first | exact hI.oldp hz | exact hz)) ?_
  refine WL_call rfl rfl rfl (rCall (vs := [.slice _ _ _]) rfl Try.func16 rfl rfl rfl) ?_
  refine (cloneE_any L.EA L.ec s.evs (fun _ => True) _ (Rd.of_own (hI.ok _ (List.mem_of_getElem? (i := 7) rfl)).1 (fun _ _ _ => trivial)) hb).mono ?_
  rintro en w1 ⟨A, c, rfl, hJ⟩
  refine ⟨_, rfl, ?_⟩
  replace hI := hI.app1 hJ
  refine WL_val rfl rfl rfl (by first | exact rAsgnS rfl rfl | exact rAsgn rfl) ?_
  refine WL_nil ?_
  refine W_ret ?_
  exact ret1 2 (.inr rfl) rfl ⟨A, c, rfl, hI⟩
set_option maxHeartbeats 1000000 in
theorem stamps_any (L : StL) (s : SSt) (S : Nat → Prop) (w0 : World) (hI : Inv S w0 w0 (spt L s)) (hb : s.sts.length ≤ 1000000) :
    Calls Try.prog 10 #[.pointer (some ⟨L.sb, 0, none⟩)] w0 fun en w' => ∃ A c, en = .returned (.slice A s.sts.length c) ∧ Inv S w0 w' (Row 0 39 2 A s.sts.length c (s.sts.flatMap stL) :: spt L s) := by
  refine calls_of_W (N := Try.f10.ntmps) Try.func10 rfl rfl rfl ?_
  refine W_seq ?_
  refine W_region ?_
  refine WL_val rfl rfl rfl (by first | exact rAsgnS rfl rfl | exact rAsgn rfl) ?_
  refine WL_nil ?_
  refine W_seq ?_
  refine W_seq ?_
  refine W_region ?_
  refine WL_val rfl rfl rfl (by first | exact rMoveP rfl rfl | exact rMove rfl) ?_
  refine WL_val rfl rfl rfl (rPtrEq rfl Try.underlying30 rfl rfl) ?_
  refine WL_nil ?_
  refine W_cond false rfl ?_
  refine W_skip ?_
  have hz : w0.cell? ⟨L.sb, 11, none⟩ = some (.slice L.SA s.sts.length L.sc) := hI.cell 0 rfl rfl
  refine W_seq ?_
  refine W_region ?_
  refine WL_val rfl rfl rfl (by first | exact rMoveP rfl rfl | exact rMove rfl) ?_
  refine WL_val rfl rfl rfl (rNilChk rfl rfl) ?_
  refine WL_val rfl rfl rfl (by first | exact rFldN (off := 11) rfl (by kernel_rfl) rfl | exact rFld (off := 11) rfl (by kernel_rfl) rfl) ?_
  refine WL_val rfl rfl rfl (by first | exact rLd (v := .slice _ _ _) rfl (by kernel_rfl) rfl (by first | exact hI.oldp hz | exact hz) | exact rLd rfl (by kernel_rfl) rfl (by first | exact hI.oldp hz | exact hz)) ?_
  refine WL_call rfl rfl rfl (rCall (vs := [.slice _ _ _]) rfl Try.func17 rfl rfl rfl) ?_
  refine (cloneS_any L.SA L.sc s.sts (fun _ => True) _ (Rd.of_own (hI.ok _ (List.mem_of_getElem? (i := 8) rfl)).1 (fun _ _ _ => trivial)) hb).mono ?_
  rintro en w1 ⟨A, c, rfl, hJ⟩
  refine ⟨_, rfl, ?_⟩
  replace hI := hI.app1 hJ
  refine WL_val rfl rfl rfl (by first | exact rAsgnS rfl rfl | exact rAsgn rfl) ?_
  refine WL_nil ?_
  refine W_ret ?_
  exact ret1 2 (.inr rfl) rfl ⟨A, c, rfl, hI⟩
end Go.Proofs.Ytglioflpblpmpaa
