/- MergeLattice: counters and what was written last are lattices. For all arguments it returns true. -/
import Derived.Test.YtkfciehgjhgmeaaMrg7
import Derived.Test.YtkfciehgjhgmeaaOpenS
namespace Go.Proofs.Ytkfciehgjhgmeaa
open Go.RowKit
set_option linter.unusedVariables false
set_option linter.unusedSimpArgs false
set_option maxHeartbeats 2000000 in
theorem mergeLattice_any (A0 A1 A2 : Option Addr) (n0 c0 n1 c1 n2 c2 : Nat) (l0 l1 l2 x y z : List Int) (D : Nat → Prop) (w0 : World) (h0 : Ints w0 D (.slice A0 n0 c0) l0) (hl0 : l0.length = n0) (h1 : Ints w0 D (.slice A1 n1 c1) l1) (hl1 : l1.length = n1) (h2 : Ints w0 D (.slice A2 n2 c2) l2) (hl2 : l2.length = n2) (hx : x.length = 3) (hy : y.length = 3) (hz : z.length = 3) :
    Calls Try.prog 3 #[.slice A0 n0 c0, .slice A1 n1 c1, .slice A2 n2 c2, .agg (i64s x).toArray, .agg (i64s y).toArray, .agg (i64s z).toArray] w0 fun en w' => en = .returned (.bool true) ∧ Pure w0 w' := by
  have hI := Inv.start (fun _ => False) w0
  refine calls_of_W (N := Try.f3.ntmps) Try.func3 rfl rfl rfl ?_
  refine W_seq ?_
  refine W_region ?_
  refine WL_box (u := .agg _) (vs := _) hI rfl rfl rfl rfl rfl rfl ?_
  clear hI; rintro b9 w - - hI
  refine WL_box (u := .agg _) (vs := _) hI rfl rfl rfl rfl rfl rfl ?_
  clear hI; rintro b10 w - - hI
  refine WL_box (u := .agg _) (vs := _) hI rfl rfl rfl rfl rfl rfl ?_
  clear hI; rintro b11 w - - hI
  refine WL_val rfl rfl rfl (by first | exact rAsgnB rfl rfl | exact rAsgn rfl) ?_
  refine WL_nil ?_
  refine W_seq ?_
  refine W_region ?_
  refine WL_call rfl rfl rfl (rCall (vs := []) rfl Try.func6 rfl rfl rfl) ?_
  refine (counted_any _).mono ?_
  rintro e w1 ⟨rfl, hp⟩
  refine ⟨_, rfl, ?_⟩
  replace hI := hI.pure hp
  refine WL_val rfl rfl rfl (by first | exact rMoveB rfl rfl | exact rMove rfl) ?_
  first | refine WL_val rfl rfl rfl (by first | exact rMoveS rfl rfl | exact rMove rfl) ?_ | refine WL_skip rfl rfl rfl ?_
  refine WL_call rfl rfl rfl (rCall (vs := [.slice _ _ _]) rfl Try.func8 rfl rfl rfl) ?_
  refine (counts_any A0 n0 c0 l0 D _ (h0.pure hI.pu) hl0).mono ?_
  rintro e w1 ⟨⟨p, hp0, rfl⟩, hp⟩
  refine ⟨_, rfl, ?_⟩
  replace hI := hI.pure hp
  first | refine WL_val rfl rfl rfl (by first | exact rMoveS rfl rfl | exact rMove rfl) ?_ | refine WL_skip rfl rfl rfl ?_
  refine WL_call rfl rfl rfl (rCall (vs := [.slice _ _ _]) rfl Try.func8 rfl rfl rfl) ?_
  refine (counts_any A1 n1 c1 l1 D _ (h1.pure hI.pu) hl1).mono ?_
  rintro e w1 ⟨⟨q, hq0, rfl⟩, hp⟩
  refine ⟨_, rfl, ?_⟩
  replace hI := hI.pure hp
  first | refine WL_val rfl rfl rfl (by first | exact rMoveS rfl rfl | exact rMove rfl) ?_ | refine WL_skip rfl rfl rfl ?_
  refine WL_call rfl rfl rfl (rCall (vs := [.slice _ _ _]) rfl Try.func8 rfl rfl rfl) ?_
  refine (counts_any A2 n2 c2 l2 D _ (h2.pure hI.pu) hl2).mono ?_
  rintro e w1 ⟨⟨r, hr0, rfl⟩, hp⟩
  refine ⟨_, rfl, ?_⟩
  replace hI := hI.pure hp
  refine WL_call rfl rfl rfl (rCall (vs := [.agg _, .agg _, .agg _]) rfl Try.func7 rfl rfl rfl) ?_
  refine (latticeC_any p q r _ hp0 hq0 hr0).mono ?_
  rintro e w1 ⟨rfl, hp⟩
  refine ⟨_, rfl, ?_⟩
  replace hI := hI.pure hp
  refine WL_val rfl rfl rfl (by first | exact rPickTB rfl rfl rfl | exact rPickFB rfl rfl rfl | exact rPickB rfl rfl rfl rfl) ?_
  refine WL_val rfl rfl rfl (by first | exact rMoveB rfl rfl | exact rMove rfl) ?_
  first | refine WL_val rfl rfl rfl (by first | exact rLdB (n := 3) rfl (by kernel_rfl) (by kernel_rfl) rfl (by first | rfl | (simp only [i64s, Value.cells, List.size_toArray, List.length_map]; omega)) hI.g0 | exact rLdB (n := 3) rfl (by kernel_rfl) (by kernel_rfl) rfl (by first | rfl | (simp only [i64s, Value.cells, List.size_toArray, List.length_map]; omega)) hI.g1 | exact rLdB (n := 3) rfl (by kernel_rfl) (by kernel_rfl) rfl (by first | rfl | (simp only [i64s, Value.cells, List.size_toArray, List.length_map]; omega)) hI.g2 | exact rLd3 rfl (by kernel_rfl) (by kernel_rfl) rfl (by first | exact hI.c0 rfl | exact hI.c1 rfl | exact hI.c2 rfl) (by first | exact hI.c0 rfl | exact hI.c1 rfl | exact hI.c2 rfl) (by first | exact hI.c0 rfl | exact hI.c1 rfl | exact hI.c2 rfl)) ?_ | refine WL_skip rfl rfl rfl ?_
  first | refine WL_val rfl rfl rfl (by first | exact rLdB (n := 3) rfl (by kernel_rfl) (by kernel_rfl) rfl (by first | rfl | (simp only [i64s, Value.cells, List.size_toArray, List.length_map]; omega)) hI.g0 | exact rLdB (n := 3) rfl (by kernel_rfl) (by kernel_rfl) rfl (by first | rfl | (simp only [i64s, Value.cells, List.size_toArray, List.length_map]; omega)) hI.g1 | exact rLdB (n := 3) rfl (by kernel_rfl) (by kernel_rfl) rfl (by first | rfl | (simp only [i64s, Value.cells, List.size_toArray, List.length_map]; omega)) hI.g2 | exact rLd3 rfl (by kernel_rfl) (by kernel_rfl) rfl (by first | exact hI.c0 rfl | exact hI.c1 rfl | exact hI.c2 rfl) (by first | exact hI.c0 rfl | exact hI.c1 rfl | exact hI.c2 rfl) (by first | exact hI.c0 rfl | exact hI.c1 rfl | exact hI.c2 rfl)) ?_ | refine WL_skip rfl rfl rfl ?_
  first | refine WL_val rfl rfl rfl (by first | exact rLdB (n := 3) rfl (by kernel_rfl) (by kernel_rfl) rfl (by first | rfl | (simp only [i64s, Value.cells, List.size_toArray, List.length_map]; omega)) hI.g0 | exact rLdB (n := 3) rfl (by kernel_rfl) (by kernel_rfl) rfl (by first | rfl | (simp only [i64s, Value.cells, List.size_toArray, List.length_map]; omega)) hI.g1 | exact rLdB (n := 3) rfl (by kernel_rfl) (by kernel_rfl) rfl (by first | rfl | (simp only [i64s, Value.cells, List.size_toArray, List.length_map]; omega)) hI.g2 | exact rLd3 rfl (by kernel_rfl) (by kernel_rfl) rfl (by first | exact hI.c0 rfl | exact hI.c1 rfl | exact hI.c2 rfl) (by first | exact hI.c0 rfl | exact hI.c1 rfl | exact hI.c2 rfl) (by first | exact hI.c0 rfl | exact hI.c1 rfl | exact hI.c2 rfl)) ?_ | refine WL_skip rfl rfl rfl ?_
  refine WL_call rfl rfl rfl (rCall (vs := [.agg _, .agg _, .agg _]) rfl Try.func9 rfl rfl rfl) ?_
  refine (latticeL_any x y z _ hx hy hz).mono ?_
  rintro e w1 ⟨rfl, hp⟩
  refine ⟨_, rfl, ?_⟩
  replace hI := hI.pure hp
  refine WL_val rfl rfl rfl (by first | exact rPickTB rfl rfl rfl | exact rPickFB rfl rfl rfl | exact rPickB rfl rfl rfl rfl) ?_
  refine WL_val rfl rfl rfl (by first | exact rAsgnB rfl rfl | exact rAsgn rfl) ?_
  refine WL_nil ?_
  refine W_ret ?_
  exact ret1 12 (.inr rfl) rfl ⟨rfl, hI.pu⟩
section
open Go.ChangeShapes Go.WideShapes Go.Deep
variable {H : Type} {enc : TypeId × Value → H} {w : World} {base : Nat} {spare : Nat → Bool} {held : Bool}
theorem opn_lastE {fuel : Nat} {y : List Value} {x : DataW H × List MemPlace} (hd : DataW.trod enc Try.prog w base spare held fuel 24 y = some x) : ∃ l : List Int, l.length = 3 ∧ y = i64s l := by
  have h := opn_i64s Try.underlying24 (by kernel_rfl) (by kernel_rfl) (by kernel_rfl) hd
  obtain ⟨l, hl, he, hb⟩ := h
  exact ⟨l, hl, he⟩
set_option maxRecDepth 4000 in
theorem opn_last {r : Reach} {b0 : Nat} {v : Value} {d : DataW H} {p : List MemPlace} (hv : Value.okWide Try.prog w r b0 24 v) (h : DataW.Trod enc Try.prog w base spare held 24 v d p) : ∃ l : List Int, l.length = 3 ∧ v = .agg (i64s l).toArray := by
  have hs := okWide_struct (P := Try.prog) (t := 24) Try.underlying24 hv
  obtain ⟨cs, rfl, hsz⟩ := hs
  obtain ⟨fuel, hf⟩ := h
  obtain ⟨l, hl, he⟩ := opn_lastE hf
  refine ⟨l, hl, ?_⟩
  rw [← he]
  simp [Value.cells]
end
end Go.Proofs.Ytkfciehgjhgmeaa
