/- merge: Count.Add, Count.Value. -/
import Derived.Test.YtkfciehgjhgmeaaMrg2
namespace Go.Proofs.Ytkfciehgjhgmeaa
open Go.RowKit
set_option linter.unusedVariables false
set_option linter.unusedSimpArgs false

section
variable {P : Program} {ρ : Env} {o : Oper} {w : World} {x y z : Operand} {v : Value} {t t' : TypeId}
theorem rIdxV {n e i : Nat} {la : List Int} {k k' : IntKind} (ho : o.op = .index t x y) (ht : P.underlying t = some (.array n e)) (he : P.underlying e = some (.int k)) (hs : szB P e 1 = true) (hx : ev ρ x = .agg (i64s la).toArray) (hy : ev ρ y = .int k' (i : Int)) (hn : la.length = n) (hi : i < n) :
    Runs P ρ o w (.int .i64 (la.getD i 0)) := by
  have hi' : (i : Int) < (n : Int) := by omega
  have hp := run_part_i64 (P := P) (w := w) he (show i < la.length by omega)
  simp [Runs, execOp, ho, hx, hy, Instr.index, asIntOf, run_underlying ht, run_size hs, hi, hp]
end
def addC (l : List Int) (p : Nat) (n : Int) : List Int := if n < 0 then l.set (7 + p) (IntKind.i64.wrap (l.getD (7 + p) 0 - n)) else l.set p (IntKind.i64.wrap (l.getD p 0 + n))
theorem addC_len (l : List Int) (p : Nat) (n : Int) : (addC l p n).length = l.length := by unfold addC; split <;> simp
theorem st_one {l : List Int} {k : Nat} {v : Int} : (i64s l).toArray.setIfInBounds k (.int .i64 v) = (i64s (l.set k v)).toArray := by simp [i64s, List.map_set]
set_option maxHeartbeats 1000000 in
theorem add_any (l : List Int) (p : Nat) (n : Int) (w0 : World) (hl : l.length = 14) (h : p < 7 ∧ -1000000 ≤ n ∧ n ≤ 1000000) : Calls Try.prog 18 #[.agg (i64s l).toArray, .int .i64 (p : Int), .int .i64 n] w0 fun en w' => en = .returned (.tuple #[.agg (i64s (addC l p n)).toArray, .nilIface]) ∧ Pure w0 w' := by
  have hI := Inv.start (fun _ => False) w0
  obtain ⟨h1, h2, h3⟩ := h
  refine calls_of_W (N := Try.f18.ntmps) Try.func18 rfl rfl rfl ?_
  refine W_seq ?_
  refine W_region ?_
  refine WL_box (u := .agg _) (vs := _) hI rfl rfl rfl rfl rfl rfl ?_
  clear hI; rintro b3 w - - hI
  refine WL_alloc (u := .agg #[.int .i64 0, .int .i64 0, .int .i64 0, .int .i64 0, .int .i64 0, .int .i64 0, .int .i64 0, .int .i64 0, .int .i64 0, .int .i64 0, .int .i64 0, .int .i64 0, .int .i64 0, .int .i64 0]) (vs := #[.int .i64 0, .int .i64 0, .int .i64 0, .int .i64 0, .int .i64 0, .int .i64 0, .int .i64 0, .int .i64 0, .int .i64 0, .int .i64 0, .int .i64 0, .int .i64 0, .int .i64 0, .int .i64 0]) hI rfl rfl rfl rfl (by kernel_rfl) rfl ?_
  clear hI; rintro b6 w - - hI
  refine WL_val rfl rfl rfl (by first | exact rAsgnN rfl rfl | exact rAsgnE rfl rfl | exact rAsgn rfl) ?_
  refine WL_nil ?_
  refine W_seq ?_
  refine W_seq ?_
  refine W_region ?_
  refine WL_val rfl rfl rfl (by first | exact rMoveI rfl rfl | exact rMove rfl) ?_
  refine WL_val rfl rfl rfl (by first | exact rMoveI rfl rfl | exact rMove rfl) ?_
  refine WL_call rfl rfl rfl (rCall (vs := [.int .i64 _, .int .i64 _]) rfl Try.func25 rfl rfl rfl) ?_
  refine (may_any (p : Int) n _ ⟨by omega, by omega, by omega, by omega⟩).mono ?_
  rintro e w1 ⟨rfl, hp⟩
  refine ⟨_, rfl, ?_⟩
  replace hI := hI.pure hp
  refine WL_val rfl rfl rfl (by first | exact rNotT rfl rfl | exact rNotF rfl rfl | exact rNot rfl rfl) ?_
  refine WL_nil ?_
  refine W_cond false rfl ?_
  refine W_skip ?_
  by_cases hn : n < 0
  · refine W_seq ?_
    refine W_seq ?_
    refine W_region ?_
    refine WL_val rfl rfl rfl (by first | exact rMoveI rfl rfl | exact rMove rfl) ?_
    refine WL_val rfl rfl rfl (by first | exact rLssT rfl rfl rfl (by omega) | exact rLssF rfl rfl rfl (by omega) | exact rLss rfl rfl rfl) ?_
    refine WL_nil ?_
    refine W_cond true rfl ?_
    have u1 := i64s_get (l := l) (i := 7 + p) (by omega)
    refine W_region ?_
    refine WL_val rfl rfl rfl (by first | exact rMoveI rfl rfl | exact rMove rfl) ?_
    refine WL_val rfl rfl rfl (by first | exact rFldN (off := 7) rfl (by kernel_rfl) rfl | exact rFld (off := 7) rfl (by kernel_rfl) rfl) ?_
    refine WL_val rfl rfl rfl (rIdxArr (sz := 1) rfl Try.underlying27 (by kernel_rfl) rfl rfl rfl (by omega)) ?_
    refine WL_val rfl rfl rfl (by first | exact rLd (v := .int .i64 _) rfl (by kernel_rfl) rfl (by first | exact (c_at7 (hI.c1 u1))) | exact rLd rfl (by kernel_rfl) rfl (by first | exact (c_at7 (hI.c1 u1)))) ?_
    refine WL_val rfl rfl rfl (by first | exact rMoveI rfl rfl | exact rMove rfl) ?_
    refine WL_val rfl rfl rfl (by first | exact rSub rfl rfl rfl (by omega) | exact rSubW rfl rfl rfl) ?_
    refine WL_val rfl rfl rfl (by first | exact rFldN (off := 7) rfl (by kernel_rfl) rfl | exact rFld (off := 7) rfl (by kernel_rfl) rfl) ?_
    refine WL_val rfl rfl rfl (rIdxArr (sz := 1) rfl Try.underlying27 (by kernel_rfl) rfl rfl rfl (by omega)) ?_
    refine WL_st1 (u := .int .i64 _) (j := 7 + p * 1) hI rfl rfl rfl rfl rfl rfl (by kernel_rfl) rfl (by simp [Nat.blt, i64s, Value.cells]; omega) rfl ?_
    clear hI; intro w hI
    refine WL_nil ?_
    have hs : (i64s l).toArray.setIfInBounds (7 + p * 1) (.int .i64 (IntKind.i64.wrap (l.getD (7 + p) 0 - n))) = (i64s (addC l p n)).toArray := by unfold addC; rw [if_pos hn, Nat.mul_one, st_one]
    have hz : (i64s (addC l p n)).toArray.size = 14 := by simp [i64s, addC_len, hl]
    replace hI : Inv (fun _ => False) w0 w [_, B b3 29 _] := hs ▸ hI
    have hlen := addC_len l p n
    refine W_seq ?_
    refine W_region ?_
    refine WL_val rfl rfl rfl (by first | exact rLdB (n := 14) rfl (by kernel_rfl) (by kernel_rfl) rfl (by first | rfl | (simp only [i64s, Value.cells, List.size_toArray, List.length_map]; omega)) hI.g0 | exact rLdB (n := 14) rfl (by kernel_rfl) (by kernel_rfl) rfl (by first | rfl | (simp only [i64s, Value.cells, List.size_toArray, List.length_map]; omega)) hI.g1 | exact rLdB (n := 14) rfl (by kernel_rfl) (by kernel_rfl) rfl (by first | rfl | (simp only [i64s, Value.cells, List.size_toArray, List.length_map]; omega)) hI.g2 | exact rLdB (n := 14) rfl (by kernel_rfl) (by kernel_rfl) rfl (by first | rfl | (simp only [i64s, Value.cells, List.size_toArray, List.length_map]; omega)) hI.g3 | exact rLdB (n := 14) rfl (by kernel_rfl) (by kernel_rfl) rfl (by first | rfl | (simp only [i64s, Value.cells, List.size_toArray, List.length_map]; omega)) hI.g4 | exact rLdB (n := 14) rfl (by kernel_rfl) (by kernel_rfl) rfl (by first | rfl | (simp only [i64s, Value.cells, List.size_toArray, List.length_map]; omega)) hI.g5) ?_
    first | refine WL_stw0 (u := .agg _) (vs := _) (n := 14) hI rfl rfl rfl rfl rfl rfl (by kernel_rfl) (by first | rfl | (simp only [i64s, Value.cells, List.size_toArray, List.length_map]; omega)) (by first | rfl | (simp only [i64s, Value.cells, List.size_toArray, List.length_map]; omega)) (by first | rfl | simp [i64s, Value.cells, Value.oneCell']) ?_ | refine WL_stw1 (u := .agg _) (vs := _) (n := 14) hI rfl rfl rfl rfl rfl rfl (by kernel_rfl) (by first | rfl | (simp only [i64s, Value.cells, List.size_toArray, List.length_map]; omega)) (by first | rfl | (simp only [i64s, Value.cells, List.size_toArray, List.length_map]; omega)) (by first | rfl | simp [i64s, Value.cells, Value.oneCell']) ?_ | refine WL_stw2 (u := .agg _) (vs := _) (n := 14) hI rfl rfl rfl rfl rfl rfl (by kernel_rfl) (by first | rfl | (simp only [i64s, Value.cells, List.size_toArray, List.length_map]; omega)) (by first | rfl | (simp only [i64s, Value.cells, List.size_toArray, List.length_map]; omega)) (by first | rfl | simp [i64s, Value.cells, Value.oneCell']) ?_ | refine WL_stw3 (u := .agg _) (vs := _) (n := 14) hI rfl rfl rfl rfl rfl rfl (by kernel_rfl) (by first | rfl | (simp only [i64s, Value.cells, List.size_toArray, List.length_map]; omega)) (by first | rfl | (simp only [i64s, Value.cells, List.size_toArray, List.length_map]; omega)) (by first | rfl | simp [i64s, Value.cells, Value.oneCell']) ?_ | refine WL_stw4 (u := .agg _) (vs := _) (n := 14) hI rfl rfl rfl rfl rfl rfl (by kernel_rfl) (by first | rfl | (simp only [i64s, Value.cells, List.size_toArray, List.length_map]; omega)) (by first | rfl | (simp only [i64s, Value.cells, List.size_toArray, List.length_map]; omega)) (by first | rfl | simp [i64s, Value.cells, Value.oneCell']) ?_ | refine WL_stw5 (u := .agg _) (vs := _) (n := 14) hI rfl rfl rfl rfl rfl rfl (by kernel_rfl) (by first | rfl | (simp only [i64s, Value.cells, List.size_toArray, List.length_map]; omega)) (by first | rfl | (simp only [i64s, Value.cells, List.size_toArray, List.length_map]; omega)) (by first | rfl | simp [i64s, Value.cells, Value.oneCell']) ?_
    clear hI; intro w hI
    refine WL_val rfl rfl rfl (by first | exact rAsgnN rfl rfl | exact rAsgnE rfl rfl | exact rAsgn rfl) ?_
    refine WL_nil ?_
    refine W_ret ?_
    refine retC2 (n := 14) (t := 29) (.inr rfl) rfl rfl (by kernel_rfl) (by kernel_rfl) hz hI.g0 ?_
    exact ⟨rfl, hI.pu⟩
  · refine W_seq ?_
    refine W_seq ?_
    refine W_region ?_
    refine WL_val rfl rfl rfl (by first | exact rMoveI rfl rfl | exact rMove rfl) ?_
    refine WL_val rfl rfl rfl (by first | exact rLssT rfl rfl rfl (by omega) | exact rLssF rfl rfl rfl (by omega) | exact rLss rfl rfl rfl) ?_
    refine WL_nil ?_
    refine W_cond false rfl ?_
    have u1 := i64s_get (l := l) (i := p) (by omega)
    refine W_region ?_
    refine WL_val rfl rfl rfl (by first | exact rMoveI rfl rfl | exact rMove rfl) ?_
    refine WL_val rfl rfl rfl (by first | exact rFldN (off := 0) rfl (by kernel_rfl) rfl | exact rFld0 rfl (by kernel_rfl) rfl) ?_
    refine WL_val rfl rfl rfl (rIdxArr (sz := 1) rfl Try.underlying27 (by kernel_rfl) rfl rfl rfl (by omega)) ?_
    refine WL_val rfl rfl rfl (by first | exact rLd (v := .int .i64 _) rfl (by kernel_rfl) rfl (by first | exact (c_at (hI.c1 u1))) | exact rLd rfl (by kernel_rfl) rfl (by first | exact (c_at (hI.c1 u1)))) ?_
    refine WL_val rfl rfl rfl (by first | exact rMoveI rfl rfl | exact rMove rfl) ?_
    refine WL_val rfl rfl rfl (rAddW rfl rfl rfl) ?_
    refine WL_val rfl rfl rfl (by first | exact rFldN (off := 0) rfl (by kernel_rfl) rfl | exact rFld0 rfl (by kernel_rfl) rfl) ?_
    refine WL_val rfl rfl rfl (rIdxArr (sz := 1) rfl Try.underlying27 (by kernel_rfl) rfl rfl rfl (by omega)) ?_
    refine WL_st1 (u := .int .i64 _) (j := 0 + p * 1) hI rfl rfl rfl rfl rfl rfl (by kernel_rfl) rfl (by simp [Nat.blt, i64s, Value.cells]; omega) rfl ?_
    clear hI; intro w hI
    refine WL_nil ?_
    have hs : (i64s l).toArray.setIfInBounds (0 + p * 1) (.int .i64 (IntKind.i64.wrap (l.getD p 0 + n))) = (i64s (addC l p n)).toArray := by unfold addC; rw [if_neg hn, Nat.mul_one, Nat.zero_add, st_one]
    have hz : (i64s (addC l p n)).toArray.size = 14 := by simp [i64s, addC_len, hl]
    replace hI : Inv (fun _ => False) w0 w [_, B b3 29 _] := hs ▸ hI
    have hlen := addC_len l p n
    refine W_seq ?_
    refine W_region ?_
    refine WL_val rfl rfl rfl (by first | exact rLdB (n := 14) rfl (by kernel_rfl) (by kernel_rfl) rfl (by first | rfl | (simp only [i64s, Value.cells, List.size_toArray, List.length_map]; omega)) hI.g0 | exact rLdB (n := 14) rfl (by kernel_rfl) (by kernel_rfl) rfl (by first | rfl | (simp only [i64s, Value.cells, List.size_toArray, List.length_map]; omega)) hI.g1 | exact rLdB (n := 14) rfl (by kernel_rfl) (by kernel_rfl) rfl (by first | rfl | (simp only [i64s, Value.cells, List.size_toArray, List.length_map]; omega)) hI.g2 | exact rLdB (n := 14) rfl (by kernel_rfl) (by kernel_rfl) rfl (by first | rfl | (simp only [i64s, Value.cells, List.size_toArray, List.length_map]; omega)) hI.g3 | exact rLdB (n := 14) rfl (by kernel_rfl) (by kernel_rfl) rfl (by first | rfl | (simp only [i64s, Value.cells, List.size_toArray, List.length_map]; omega)) hI.g4 | exact rLdB (n := 14) rfl (by kernel_rfl) (by kernel_rfl) rfl (by first | rfl | (simp only [i64s, Value.cells, List.size_toArray, List.length_map]; omega)) hI.g5) ?_
    first | refine WL_stw0 (u := .agg _) (vs := _) (n := 14) hI rfl rfl rfl rfl rfl rfl (by kernel_rfl) (by first | rfl | (simp only [i64s, Value.cells, List.size_toArray, List.length_map]; omega)) (by first | rfl | (simp only [i64s, Value.cells, List.size_toArray, List.length_map]; omega)) (by first | rfl | simp [i64s, Value.cells, Value.oneCell']) ?_ | refine WL_stw1 (u := .agg _) (vs := _) (n := 14) hI rfl rfl rfl rfl rfl rfl (by kernel_rfl) (by first | rfl | (simp only [i64s, Value.cells, List.size_toArray, List.length_map]; omega)) (by first | rfl | (simp only [i64s, Value.cells, List.size_toArray, List.length_map]; omega)) (by first | rfl | simp [i64s, Value.cells, Value.oneCell']) ?_ | refine WL_stw2 (u := .agg _) (vs := _) (n := 14) hI rfl rfl rfl rfl rfl rfl (by kernel_rfl) (by first | rfl | (simp only [i64s, Value.cells, List.size_toArray, List.length_map]; omega)) (by first | rfl | (simp only [i64s, Value.cells, List.size_toArray, List.length_map]; omega)) (by first | rfl | simp [i64s, Value.cells, Value.oneCell']) ?_ | refine WL_stw3 (u := .agg _) (vs := _) (n := 14) hI rfl rfl rfl rfl rfl rfl (by kernel_rfl) (by first | rfl | (simp only [i64s, Value.cells, List.size_toArray, List.length_map]; omega)) (by first | rfl | (simp only [i64s, Value.cells, List.size_toArray, List.length_map]; omega)) (by first | rfl | simp [i64s, Value.cells, Value.oneCell']) ?_ | refine WL_stw4 (u := .agg _) (vs := _) (n := 14) hI rfl rfl rfl rfl rfl rfl (by kernel_rfl) (by first | rfl | (simp only [i64s, Value.cells, List.size_toArray, List.length_map]; omega)) (by first | rfl | (simp only [i64s, Value.cells, List.size_toArray, List.length_map]; omega)) (by first | rfl | simp [i64s, Value.cells, Value.oneCell']) ?_ | refine WL_stw5 (u := .agg _) (vs := _) (n := 14) hI rfl rfl rfl rfl rfl rfl (by kernel_rfl) (by first | rfl | (simp only [i64s, Value.cells, List.size_toArray, List.length_map]; omega)) (by first | rfl | (simp only [i64s, Value.cells, List.size_toArray, List.length_map]; omega)) (by first | rfl | simp [i64s, Value.cells, Value.oneCell']) ?_
    clear hI; intro w hI
    refine WL_val rfl rfl rfl (by first | exact rAsgnN rfl rfl | exact rAsgnE rfl rfl | exact rAsgn rfl) ?_
    refine WL_nil ?_
    refine W_ret ?_
    refine retC2 (n := 14) (t := 29) (.inr rfl) rfl rfl (by kernel_rfl) (by kernel_rfl) hz hI.g0 ?_
    exact ⟨rfl, hI.pu⟩
def valC (l : List Int) : Nat → Int
  | 0 => 0
  | k + 1 => IntKind.i64.wrap (valC l k + IntKind.i64.wrap (l.getD k 0 - l.getD (7 + k) 0))
set_option maxHeartbeats 1000000 in
theorem value_any (l : List Int) (w0 : World) (hl : l.length = 14) : Calls Try.prog 20 #[.agg (i64s l).toArray] w0 fun en w' => en = .returned (.int .i64 (valC l 7)) ∧ Pure w0 w' := by
  have hI := Inv.start (fun _ => False) w0
  refine calls_of_W (N := Try.f20.ntmps) Try.func20 rfl rfl rfl ?_
  refine W_seq ?_
  refine W_region ?_
  refine WL_box (u := .agg _) (vs := _) hI rfl rfl rfl rfl rfl rfl ?_
  clear hI; rintro b1 w - - hI
  refine WL_val rfl rfl rfl (by first | exact rAsgnI rfl rfl | exact rAsgn rfl) ?_
  refine WL_nil ?_
  refine W_seq ?_
  refine W_region ?_
  refine WL_val rfl rfl rfl (by first | exact rAsgnI rfl rfl | exact rAsgn rfl) ?_
  refine WL_nil ?_
  have hu : ∀ k u, (i64s (l.take 7))[k]? = some u → ∀ {W : World} {b : Nat} {S : Nat → Prop} {W0 : World} {T : Nat} {H : List Ent}, Inv S W0 W (B b T (i64s l).toArray :: H) → W.cell? ⟨b, 0 + k, none⟩ = some u := by
    intro k u hk W b S W0 T H hI
    rw [Nat.zero_add]
    refine hI.c0 ?_
    rw [i64s, List.map_take] at hk
    obtain ⟨h1, h2⟩ := List.getElem?_eq_some_iff.1 hk
    rw [List.getElem_take] at h2
    simp only [List.getElem?_toArray, i64s]
    rw [← h2]
    exact List.getElem?_eq_getElem _
  refine W_seq ?_
  refine W_seq ?_
  refine W_region ?_
  refine WL_val rfl rfl rfl (by first | exact rFldN (off := 0) rfl (by kernel_rfl) rfl | exact rFld0 rfl (by kernel_rfl) rfl) ?_
  refine WL_val rfl rfl rfl (rLdA (n := 7) (l := i64s (l.take 7)) rfl (by kernel_rfl) (by kernel_rfl) rfl (by simp [i64s, hl]) (fun k u hk => hu k u hk hI)) ?_
  refine WL_val rfl rfl rfl (by first | exact rMoveI rfl rfl | exact rMove rfl) ?_
  refine WL_nil ?_
  refine W_block ?_
  refine W_loop (fun ρ w => ∃ k : Nat, k ≤ 7 ∧ Has ρ [(8, .int .i64 k), (3, .int .i64 (valC l k)), (1, .pointer (some ⟨b1, 0, none⟩)), (7, .agg (i64s (l.take 7)).toArray)] ∧ Inv (fun _ => False) w0 w [B b1 29 (i64s l).toArray]) (fun ρ _ => 7 - cnt (ρ 8))
    ⟨0, by omega, ⟨rfl, rfl, rfl, rfl, trivial⟩, hI⟩ ?_
  clear hI
  rintro ρ w ⟨k, hk, hH, hI⟩
  obtain ⟨σ, rfl⟩ := hH.open
  by_cases hk7 : k < 7
  · have u1 := i64s_get (l := l) (i := 7 + k) (by omega)
    have e1 : (l.take 7).getD k 0 = l.getD k 0 := by simp [List.getD, List.getElem?_take, hk7]
    refine W_seq ?_
    refine W_region ?_
    refine WL_val rfl rfl rfl (by first | exact rLssT rfl rfl rfl (by omega) | exact rLssF rfl rfl rfl (by omega) | exact rLss rfl rfl rfl) ?_
    refine WL_nil ?_
    refine W_seq ?_
    refine W_cond true rfl ?_
    refine W_skip ?_
    refine W_seq ?_
    refine W_block ?_
    refine W_seq ?_
    refine W_region ?_
    refine WL_val rfl rfl rfl (by first | exact rMoveI rfl rfl | exact rMove rfl) ?_
    refine WL_val rfl rfl rfl (e1 ▸ rIdxV (la := l.take 7) rfl Try.underlying27 Try.underlying3 (by kernel_rfl) rfl rfl (by simp [hl]) hk7) ?_
    refine WL_val rfl rfl rfl (by first | exact rAsgnI rfl rfl | exact rAsgn rfl) ?_
    refine WL_val rfl rfl rfl (by first | exact rAsgnI rfl rfl | exact rAsgn rfl) ?_
    refine WL_nil ?_
    refine W_region ?_
    refine WL_val rfl rfl rfl (by first | exact rMoveI rfl rfl | exact rMove rfl) ?_
    refine WL_val rfl rfl rfl (by first | exact rMoveI rfl rfl | exact rMove rfl) ?_
    refine WL_val rfl rfl rfl (by first | exact rMoveI rfl rfl | exact rMove rfl) ?_
    refine WL_val rfl rfl rfl (by first | exact rFldN (off := 7) rfl (by kernel_rfl) rfl | exact rFld (off := 7) rfl (by kernel_rfl) rfl) ?_
    refine WL_val rfl rfl rfl (rIdxArr (sz := 1) rfl Try.underlying27 (by kernel_rfl) rfl rfl rfl (by omega)) ?_
    refine WL_val rfl rfl rfl (by first | exact rLd (v := .int .i64 _) rfl (by kernel_rfl) rfl (by first | exact (c_at7 (hI.c0 u1))) | exact rLd rfl (by kernel_rfl) rfl (by first | exact (c_at7 (hI.c0 u1)))) ?_
    refine WL_val rfl rfl rfl (rSubW rfl rfl rfl) ?_
    refine WL_val rfl rfl rfl (rAddW rfl rfl rfl) ?_
    refine WL_val rfl rfl rfl (by first | exact rAsgnI rfl rfl | exact rAsgn rfl) ?_
    refine WL_nil ?_
    refine W_region ?_
    refine WL_val rfl rfl rfl (by first | exact rInc rfl rfl rfl (by omega) | exact rAdd rfl rfl rfl (by omega) | exact rAddW rfl rfl rfl) ?_
    refine WL_val rfl rfl rfl (by first | exact rMoveI rfl rfl | exact rMove rfl) ?_
    refine WL_nil ?_
    exact ⟨⟨k + 1, by omega, ⟨rfl, rfl, rfl, rfl, trivial⟩, hI⟩, by show 7 - ((k + 1 : Nat) : Int).toNat < 7 - (k : Int).toNat; omega⟩
  · obtain rfl : k = 7 := by omega
    refine W_seq ?_
    refine W_region ?_
    refine WL_val rfl rfl rfl (by first | exact rLssT rfl rfl rfl (by omega) | exact rLssF rfl rfl rfl (by omega) | exact rLss rfl rfl rfl) ?_
    refine WL_nil ?_
    refine W_seq ?_
    refine W_cond false rfl ?_
    refine W_exit ?_
    refine W_seq ?_
    refine W_region ?_
    refine WL_val rfl rfl rfl (by first | exact rMoveI rfl rfl | exact rMove rfl) ?_
    refine WL_val rfl rfl rfl (by first | exact rAsgnI rfl rfl | exact rAsgn rfl) ?_
    refine WL_nil ?_
    refine W_ret ?_
    exact ret1 2 (.inr rfl) rfl ⟨rfl, hI.pu⟩
end Go.Proofs.Ytkfciehgjhgmeaa
