/- Texts of the proof, merged: Open, PlanOpen, LaidF, Shp. -/
import Derived.Test.YthndpiopbdecfaaGreatDoorPReg
import Derived.Deep.Slices
import Derived.Deep.Fields
import Derived.ChangeSame
import Derived.Test.YthndpiopbdecfaaGreatDoorProg
import Derived.Test.YthndpiopbdecfaaGreatDoorPStoA
import Derived.Test.YthndpiopbdecfaaGreatDoorRows
import Derived.Test.YthndpiopbdecfaaGreatDoorPEvt3
import Derived.Test.YthndpiopbdecfaaGreatDoorPTell
import Derived.ChangeVars
import Derived.JoinedOf
import Derived.RowKit
import Derived.RowKitTokens
import Derived.LaidLaws
import Derived.LaidHandle
import Derived.Lib.LaidTab
import Derived.Stop.Joined
import Derived.Stop.LaidErr
import Derived.Handed
import Derived.SevenTiedAt
namespace Go.Proofs.YthndpiopbdecfaaGreatDoor
open Go Go.ChangeShapes Go.WideShapes Go.Deep
section
variable {H : Type} {enc : TypeId × Value → H} {P : Program} {w : World} {base : Nat} {spare : Nat → Bool} {held : Bool}
theorem opn_fields {e : TypeId} {fs : Array Field} {fuel : Nat} {y : List Value} {x : DataW H × List MemPlace} (he : P.underlying e = some (.struct fs)) (hone : oneCellFields P fs = true) (hC : P.cellsOf e = fs.size) (h : DataW.trod enc P w base spare held fuel e y = some x) :
  y.length = fs.size ∧ ∀ (j : Nat) (f : Field), fs[j]? = some f → ∃ (v : Value) (n' : Nat) (d : DataW H × List MemPlace), y[j]? = some v ∧ DataW.trod enc P w base spare held n' f.type [v] = some d := by
 obtain ⟨ys, n', hn', hy, hlen, hyl, hf⟩ := DataW.trod_struct he h
 rw [hC] at hlen
 refine ⟨hlen, fun j f hj => ?_⟩
 obtain ⟨ho, hk⟩ := hone_of hone j f hj
 have hjl : j < fs.size := (Array.getElem?_eq_some_iff.1 hj).1
 have hv : y[j]? = some (y[j]'(by omega)) := List.getElem?_eq_getElem (by omega)
 have h1 := hf j f hj
 rw [ho, hk] at h1
 have hone' : (y.drop j).take 1 = [y[j]'(by omega)] := by
  rw [List.drop_eq_getElem_cons (by omega)]
  rfl
 rw [hone'] at h1
 have hys : ys[j]? = some (ys[j]'(by omega)) := List.getElem?_eq_getElem (by omega)
 exact ⟨_, n', _, hv, h1.trans hys⟩
end
end Go.Proofs.YthndpiopbdecfaaGreatDoor
namespace Go.Proofs.YthndpiopbdecfaaGreatDoor
open Go Go.ChangeShapes Go.WideShapes Go.Deep
set_option linter.unusedVariables false
set_option linter.unusedSimpArgs false
section
variable {H : Type} {enc : TypeId × Value → H} {w : World} {base : Nat} {spare : Nat → Bool} {held : Bool}
set_option maxRecDepth 8000 in
theorem opn_setupL {fuel : Nat} {y : List Value} {x : DataW H × List MemPlace} (h : DataW.trod enc Tryz.prog w base spare held fuel 23 y = some x) : ∃ (n k a t : Int) (b : Bool), y = [.int .i64 n, .int .i64 k, .int .i64 a, .int .i64 t, .bool b] := by
 obtain ⟨hlen, hfl⟩ := opn_fields Tryz.underlying23 (by kernel_rfl) (by kernel_rfl) h
 obtain ⟨v0, n0, d0, e0, h0⟩ := hfl 0 _ rfl
 obtain ⟨v1, n1, d1, e1, h1⟩ := hfl 1 _ rfl
 obtain ⟨v2, n2, d2, e2, h2⟩ := hfl 2 _ rfl
 obtain ⟨v3, n3, d3, e3, h3⟩ := hfl 3 _ rfl
 obtain ⟨v4, n4, d4, e4, h4⟩ := hfl 4 _ rfl
 obtain ⟨z0, hz0, _⟩ := DataW.trod_int Tryz.underlying3 h0
 obtain ⟨z1, hz1, _⟩ := DataW.trod_int Tryz.underlying3 h1
 obtain ⟨z2, hz2, _⟩ := DataW.trod_int Tryz.underlying3 h2
 obtain ⟨z3, hz3, _⟩ := DataW.trod_int Tryz.underlying3 h3
 obtain ⟨z4, hz4, _⟩ := DataW.trod_bool Tryz.underlying4 h4
 injection hz0 with hz0 _
 injection hz1 with hz1 _
 injection hz2 with hz2 _
 injection hz3 with hz3 _
 injection hz4 with hz4 _
 subst hz0 hz1 hz2 hz3 hz4
 refine ⟨z0, z1, z2, z3, z4, ?_⟩
 match y, hlen, e0, e1, e2, e3, e4 with
 | [y0, y1, y2, y3, y4], _, e0, e1, e2, e3, e4 =>
  simp only [List.getElem?_cons_zero, List.getElem?_cons_succ, Option.some.injEq] at e0 e1 e2 e3 e4
  rw [e0, e1, e2, e3, e4]
set_option maxRecDepth 8000 in
theorem opn_plan {r : Reach} {b0 : Nat} {v : Value} {d : DataW H} {p : List MemPlace} (hv : Value.okWide Tryz.prog w r b0 25 v) (h : DataW.Trod enc Tryz.prog w base spare held 25 v d p) :
  ∃ (n k a t : Int) (b : Bool) (title gen : List UInt8) (bud : Int), v = .agg #[.int .i64 n, .int .i64 k, .int .i64 a, .int .i64 t, .bool b, strV title, strV gen, .int .i64 bud] := by
 obtain ⟨cs, rfl, hsz⟩ := okWide_struct Tryz.underlying25 hv
 obtain ⟨fuel, hf⟩ := h
 obtain ⟨ys, n', _, _, hlen, hyl, hfl⟩ := DataW.trod_struct Tryz.underlying25 hf
 have hC : Tryz.prog.cellsOf 25 = 8 := by kernel_rfl
 have hC0 : Tryz.prog.cellsOf 23 = 5 := by kernel_rfl
 have hC1 : Tryz.prog.cellsOf 9 = 1 := by kernel_rfl
 have hC3 : Tryz.prog.cellsOf 3 = 1 := by kernel_rfl
 rw [hC] at hlen
 have hg : ∀ (i : Nat), i < 4 → ∃ y, ys[i]? = some y := fun i hi => ⟨_, List.getElem?_eq_getElem (by rw [hyl]; exact hi)⟩
 obtain ⟨l⟩ := cs
 have hlen8 : l.length = 8 := hlen
 match l, hlen8 with
 | [c0, c1, c2, c3, c4, c5, c6, c7], _ =>
  have f0 := hfl 0 _ rfl
  have f1 := hfl 1 _ rfl
  have f2 := hfl 2 _ rfl
  have f3 := hfl 3 _ rfl
  obtain ⟨y0, g0⟩ := hg 0 (by omega)
  obtain ⟨y1, g1⟩ := hg 1 (by omega)
  obtain ⟨y2, g2⟩ := hg 2 (by omega)
  obtain ⟨y3, g3⟩ := hg 3 (by omega)
  rw [g0] at f0
  rw [g1] at f1
  rw [g2] at f2
  rw [g3] at f3
  replace f0 : DataW.trod enc Tryz.prog w base spare held n' 23 (List.take (Tryz.prog.cellsOf 23) (List.drop 0 [c0, c1, c2, c3, c4, c5, c6, c7])) = some y0 := f0
  rw [hC0] at f0
  replace f1 : DataW.trod enc Tryz.prog w base spare held n' 9 (List.take (Tryz.prog.cellsOf 9) (List.drop 5 [c0, c1, c2, c3, c4, c5, c6, c7])) = some y1 := f1
  rw [hC1] at f1
  replace f2 : DataW.trod enc Tryz.prog w base spare held n' 9 (List.take (Tryz.prog.cellsOf 9) (List.drop 6 [c0, c1, c2, c3, c4, c5, c6, c7])) = some y2 := f2
  rw [hC1] at f2
  replace f3 : DataW.trod enc Tryz.prog w base spare held n' 3 (List.take (Tryz.prog.cellsOf 3) (List.drop 7 [c0, c1, c2, c3, c4, c5, c6, c7])) = some y3 := f3
  rw [hC3] at f3
  obtain ⟨n, k, a, t, b, e0⟩ := opn_setupL f0
  obtain ⟨s1, e1, _⟩ := DataW.trod_string Tryz.underlying9 f1
  obtain ⟨s2, e2, _⟩ := DataW.trod_string Tryz.underlying9 f2
  obtain ⟨z3, e3, _⟩ := DataW.trod_int Tryz.underlying3 f3
  simp only [Value.cells, List.drop_zero, List.drop_succ_cons, List.take_succ_cons, List.take_zero, List.cons.injEq, and_true] at e0 e1 e2 e3
  obtain ⟨rfl, rfl, rfl, rfl, rfl⟩ := e0
  subst e1 e2 e3
  exact ⟨n, k, a, t, b, s1.data.toList, s2.data.toList, z3, rfl⟩
end
end Go.Proofs.YthndpiopbdecfaaGreatDoor
namespace Go.Proofs.YthndpiopbdecfaaGreatDoor
open Go Go.ChangeShapes Go.WideShapes Go.RowKit
set_option maxRecDepth 20000
abbrev laidL : List (String × DataW Unit) := [("math/bits.deBruijn32tab", Rows.laid_math_bits_deBruijn32tab), ("math/bits.deBruijn64tab", Rows.laid_math_bits_deBruijn64tab), ("internal/strconv.uint64pow10", Rows.laid_internal_strconv_uint64pow10), ("unicode/utf8.acceptRanges", Rows.laid_unicode_utf8_acceptRanges), ("errors.errorType", Rows.laid_errors_errorType), ("strconv.ErrRange", Rows.laid_strconv_ErrRange), ("strconv.ErrSyntax", Rows.laid_strconv_ErrSyntax), ("testimony/model.knows", Rows.laid_testimony_model_knows), ("unicode/utf8.first", Rows.laid_unicode_utf8_first)]
theorem et_ : Tryz.prog.globalNamed "errors.errorType" = some 1 := by kernel_rfl
theorem rt_ : (Tryz.prog.cutTypes.find? (·.1 == "internal/reflectlite.rtype")).map (·.2) = some 235 := by kernel_rfl
theorem oneRow_ : ((List.range Tryz.prog.types.size).filter fun t => Tryz.prog.rowNamed t [101, 114, 114, 111, 114]) = [29] := by kernel_rfl
theorem handle_of_laid {W : World} (h : laidMetH Tryz.prog laidL W) : W.cell? ⟨1, 0, none⟩ = some (.iface 235 (.agg #[hdl 29])) := by
 have h' : laidMet Tryz.prog [("math/bits.deBruijn32tab", Rows.laid_math_bits_deBruijn32tab), ("math/bits.deBruijn64tab", Rows.laid_math_bits_deBruijn64tab), ("internal/strconv.uint64pow10", Rows.laid_internal_strconv_uint64pow10), ("unicode/utf8.acceptRanges", Rows.laid_unicode_utf8_acceptRanges), ("strconv.ErrRange", Rows.laid_strconv_ErrRange), ("strconv.ErrSyntax", Rows.laid_strconv_ErrSyntax), ("testimony/model.knows", Rows.laid_testimony_model_knows), ("unicode/utf8.first", Rows.laid_unicode_utf8_first)] W ∧ handlesMet Tryz.prog [("errors.errorType", Rows.laid_errors_errorType)] W := h
 obtain ⟨name, u, ty, e1, e2, e3, e4, e5⟩ := h'.2 _ (List.mem_singleton.2 rfl)
 have en : name = [101, 114, 114, 111, 114] := (Option.some.inj e1).symm
 subst en
 obtain rfl := Option.some.inj (rt_.symm.trans e2)
 have hm : ty ∈ (List.range Tryz.prog.types.size).filter fun t => Tryz.prog.rowNamed t [101, 114, 114, 111, 114] := List.mem_filter.2 ⟨List.mem_range.2 e3, e4⟩
 rw [oneRow_] at hm
 obtain rfl := List.mem_singleton.1 hm
 have hh : typeHandle Tryz.prog 29 = hdl 29 := by kernel_rfl
 rw [hh] at e5
 simpa using World.var?_cell et_ e5 0
theorem knG_ : Tryz.prog.globalNamed "testimony/model.knows" = some 0 := by kernel_rfl
theorem knows_of_laid {W : World} (h : laidMetH Tryz.prog laidL W) : KnOk W := by
 have h0 : laidMet Tryz.prog [("math/bits.deBruijn32tab", Rows.laid_math_bits_deBruijn32tab), ("math/bits.deBruijn64tab", Rows.laid_math_bits_deBruijn64tab), ("internal/strconv.uint64pow10", Rows.laid_internal_strconv_uint64pow10), ("unicode/utf8.acceptRanges", Rows.laid_unicode_utf8_acceptRanges), ("strconv.ErrRange", Rows.laid_strconv_ErrRange), ("strconv.ErrSyntax", Rows.laid_strconv_ErrSyntax), ("testimony/model.knows", Rows.laid_testimony_model_knows), ("unicode/utf8.first", Rows.laid_unicode_utf8_first)] W := h.1
 have h' : laidMet Tryz.prog (("testimony/model.knows", Lib.tabData .i64 knT) :: [("unicode/utf8.first", Rows.laid_unicode_utf8_first)]) W := h0.tail.tail.tail.tail.tail.tail
 have ht := Lib.tabIs_of_head (k := .i64) (zs := knT) knG_ (t := 181) (by kernel_rfl) Tryz.underlying181 Tryz.underlying3 (by kernel_rfl) (by kernel_rfl) h'
 exact fun i hi => ht.cell knG_ i (by simpa [knT] using hi)
theorem errRow_ (u : TypeId) (h : Tryz.prog.typeName? 3 u = some "*errors.errorString") : u = 281 :=
 typeName_ptr_named (nm := "errors.errorString") (by rw [show "*" ++ "errors.errorString" = "*errors.errorString" by decide]; kernel_rfl) (by kernel_rfl) (by decide) u (by rw [show "*" ++ "errors.errorString" = "*errors.errorString" by decide]; exact h)
theorem num_of_laid {W : World} (h : laidMetH Tryz.prog laidL W) : NumG W := by
 have h0 : laidMet Tryz.prog [("math/bits.deBruijn32tab", Rows.laid_math_bits_deBruijn32tab), ("math/bits.deBruijn64tab", Rows.laid_math_bits_deBruijn64tab), ("internal/strconv.uint64pow10", Rows.laid_internal_strconv_uint64pow10), ("unicode/utf8.acceptRanges", Rows.laid_unicode_utf8_acceptRanges), ("strconv.ErrRange", Rows.laid_strconv_ErrRange), ("strconv.ErrSyntax", Rows.laid_strconv_ErrSyntax), ("testimony/model.knows", Rows.laid_testimony_model_knows), ("unicode/utf8.first", Rows.laid_unicode_utf8_first)] W := h.1
 refine ⟨?_, ?_, ?_⟩
 ·obtain ⟨a, s, hv, -⟩ := laid_sentinel (tp := 281) (te := 283) (ti := 29) (h0.tail.tail.tail.tail.tail) gsynN (by kernel_rfl) Tryz.underlying29 errRow_ Tryz.underlying281 Tryz.underlying283 rfl rfl Tryz.underlying9 (by kernel_rfl) (by kernel_rfl)
  exact ⟨_, _, hv⟩
 ·obtain ⟨a, s, hv, -⟩ := laid_sentinel (tp := 281) (te := 283) (ti := 29) (h0.tail.tail.tail.tail) grngN (by kernel_rfl) Tryz.underlying29 errRow_ Tryz.underlying281 Tryz.underlying283 rfl rfl Tryz.underlying9 (by kernel_rfl) (by kernel_rfl)
  exact ⟨_, _, hv⟩
 ·have h' : laidMet Tryz.prog (("internal/strconv.uint64pow10", Lib.tabData .u64 Lib.pow10Tab) :: [("unicode/utf8.acceptRanges", Rows.laid_unicode_utf8_acceptRanges), ("strconv.ErrRange", Rows.laid_strconv_ErrRange), ("strconv.ErrSyntax", Rows.laid_strconv_ErrSyntax), ("testimony/model.knows", Rows.laid_testimony_model_knows), ("unicode/utf8.first", Rows.laid_unicode_utf8_first)]) W := h0.tail.tail
  exact Lib.tabIs_of_head (k := .u64) (zs := Lib.pow10Tab) gpowN (t := 284) (by kernel_rfl) Tryz.underlying284 Tryz.underlying158 (by kernel_rfl) (by kernel_rfl) h'
noncomputable def low_ : Nat := (World.holding Tryz.prog default ⟨#[], #[], []⟩).heap.size
def layC (cs : Array Value) : Obj → Obj
 | .cells _ t f => .cells cs t f
 | o => o
/-- A world that meets the condition: the settled one, the variables' cells laid. -/
noncomputable def laidWorld (os : Os) : World :=
 { World.holding Tryz.prog os ⟨#[.cells #[.string { data := #[118, 97, 108, 117, 101, 32, 111, 117, 116, 32, 111, 102, 32, 114, 97, 110, 103, 101] }] 283, .cells #[.string { data := #[105, 110, 118, 97, 108, 105, 100, 32, 115, 121, 110, 116, 97, 120] }] 283], #[], []⟩ with heap := (((((((((((((((((((World.holding Tryz.prog os ⟨#[.cells #[.string { data := #[118, 97, 108, 117, 101, 32, 111, 117, 116, 32, 111, 102, 32, 114, 97, 110, 103, 101] }] 283, .cells #[.string { data := #[105, 110, 118, 97, 108, 105, 100, 32, 115, 121, 110, 116, 97, 120] }] 283], #[], []⟩).heap).modify 8 (layC #[.int .u8 0, .int .u8 1, .int .u8 28, .int .u8 2, .int .u8 29, .int .u8 14, .int .u8 24, .int .u8 3, .int .u8 30, .int .u8 22, .int .u8 20, .int .u8 15, .int .u8 25, .int .u8 17, .int .u8 4, .int .u8 8, .int .u8 31, .int .u8 27, .int .u8 13, .int .u8 23, .int .u8 21, .int .u8 19, .int .u8 16, .int .u8 7, .int .u8 26, .int .u8 12, .int .u8 18, .int .u8 6, .int .u8 11, .int .u8 5, .int .u8 10, .int .u8 9]))).modify 9 (layC #[.int .u8 0, .int .u8 1, .int .u8 56, .int .u8 2, .int .u8 57, .int .u8 49, .int .u8 28, .int .u8 3, .int .u8 61, .int .u8 58, .int .u8 42, .int .u8 50, .int .u8 38, .int .u8 29, .int .u8 17, .int .u8 4, .int .u8 62, .int .u8 47, .int .u8 59, .int .u8 36, .int .u8 45, .int .u8 43, .int .u8 51, .int .u8 22, .int .u8 53, .int .u8 39, .int .u8 33, .int .u8 30, .int .u8 24, .int .u8 18, .int .u8 12, .int .u8 5, .int .u8 63, .int .u8 55, .int .u8 48, .int .u8 27, .int .u8 60, .int .u8 41, .int .u8 37, .int .u8 16, .int .u8 46, .int .u8 35, .int .u8 44, .int .u8 21, .int .u8 52, .int .u8 32, .int .u8 23, .int .u8 11, .int .u8 54, .int .u8 26, .int .u8 40, .int .u8 15, .int .u8 34, .int .u8 20, .int .u8 31, .int .u8 10, .int .u8 25, .int .u8 14, .int .u8 19, .int .u8 9, .int .u8 13, .int .u8 8, .int .u8 7, .int .u8 6]))).modify 7 (layC #[.int .u64 1, .int .u64 10, .int .u64 100, .int .u64 1000, .int .u64 10000, .int .u64 100000, .int .u64 1000000, .int .u64 10000000, .int .u64 100000000, .int .u64 1000000000, .int .u64 10000000000, .int .u64 100000000000, .int .u64 1000000000000, .int .u64 10000000000000, .int .u64 100000000000000, .int .u64 1000000000000000, .int .u64 10000000000000000, .int .u64 100000000000000000, .int .u64 1000000000000000000, .int .u64 10000000000000000000]))).modify 4 (layC #[.int .u8 128, .int .u8 191, .int .u8 160, .int .u8 191, .int .u8 128, .int .u8 159, .int .u8 144, .int .u8 191, .int .u8 128, .int .u8 143, .int .u8 0, .int .u8 0, .int .u8 0, .int .u8 0, .int .u8 0, .int .u8 0, .int .u8 0, .int .u8 0, .int .u8 0, .int .u8 0, .int .u8 0, .int .u8 0, .int .u8 0, .int .u8 0, .int .u8 0, .int .u8 0, .int .u8 0, .int .u8 0, .int .u8 0, .int .u8 0, .int .u8 0, .int .u8 0]))).modify 1 (layC #[.iface 235 (.agg #[hdl 29])]))).modify 6 (layC #[.iface 281 (.pointer (some ⟨low_, 0, none⟩))]))).modify 5 (layC #[.iface 281 (.pointer (some ⟨low_ + 1, 0, none⟩))]))).modify 0 (layC #[.int .i64 0, .int .i64 14, .int .i64 48, .int .i64 448, .int .i64 1536, .int .i64 1536, .int .i64 6144]))).modify 3 (layC #[.int .u8 240, .int .u8 240, .int .u8 240, .int .u8 240, .int .u8 240, .int .u8 240, .int .u8 240, .int .u8 240, .int .u8 240, .int .u8 240, .int .u8 240, .int .u8 240, .int .u8 240, .int .u8 240, .int .u8 240, .int .u8 240, .int .u8 240, .int .u8 240, .int .u8 240, .int .u8 240, .int .u8 240, .int .u8 240, .int .u8 240, .int .u8 240, .int .u8 240, .int .u8 240, .int .u8 240, .int .u8 240, .int .u8 240, .int .u8 240, .int .u8 240, .int .u8 240, .int .u8 240, .int .u8 240, .int .u8 240, .int .u8 240, .int .u8 240, .int .u8 240, .int .u8 240, .int .u8 240, .int .u8 240, .int .u8 240, .int .u8 240, .int .u8 240, .int .u8 240, .int .u8 240, .int .u8 240, .int .u8 240, .int .u8 240, .int .u8 240, .int .u8 240, .int .u8 240, .int .u8 240, .int .u8 240, .int .u8 240, .int .u8 240, .int .u8 240, .int .u8 240, .int .u8 240, .int .u8 240, .int .u8 240, .int .u8 240, .int .u8 240, .int .u8 240, .int .u8 240, .int .u8 240, .int .u8 240, .int .u8 240, .int .u8 240, .int .u8 240, .int .u8 240, .int .u8 240, .int .u8 240, .int .u8 240, .int .u8 240, .int .u8 240, .int .u8 240, .int .u8 240, .int .u8 240, .int .u8 240, .int .u8 240, .int .u8 240, .int .u8 240, .int .u8 240, .int .u8 240, .int .u8 240, .int .u8 240, .int .u8 240, .int .u8 240, .int .u8 240, .int .u8 240, .int .u8 240, .int .u8 240, .int .u8 240, .int .u8 240, .int .u8 240, .int .u8 240, .int .u8 240, .int .u8 240, .int .u8 240, .int .u8 240, .int .u8 240, .int .u8 240, .int .u8 240, .int .u8 240, .int .u8 240, .int .u8 240, .int .u8 240, .int .u8 240, .int .u8 240, .int .u8 240, .int .u8 240, .int .u8 240, .int .u8 240, .int .u8 240, .int .u8 240, .int .u8 240, .int .u8 240, .int .u8 240, .int .u8 240, .int .u8 240, .int .u8 240, .int .u8 240, .int .u8 240, .int .u8 240, .int .u8 240, .int .u8 240, .int .u8 240, .int .u8 241, .int .u8 241, .int .u8 241, .int .u8 241, .int .u8 241, .int .u8 241, .int .u8 241, .int .u8 241, .int .u8 241, .int .u8 241, .int .u8 241, .int .u8 241, .int .u8 241, .int .u8 241, .int .u8 241, .int .u8 241, .int .u8 241, .int .u8 241, .int .u8 241, .int .u8 241, .int .u8 241, .int .u8 241, .int .u8 241, .int .u8 241, .int .u8 241, .int .u8 241, .int .u8 241, .int .u8 241, .int .u8 241, .int .u8 241, .int .u8 241, .int .u8 241, .int .u8 241, .int .u8 241, .int .u8 241, .int .u8 241, .int .u8 241, .int .u8 241, .int .u8 241, .int .u8 241, .int .u8 241, .int .u8 241, .int .u8 241, .int .u8 241, .int .u8 241, .int .u8 241, .int .u8 241, .int .u8 241, .int .u8 241, .int .u8 241, .int .u8 241, .int .u8 241, .int .u8 241, .int .u8 241, .int .u8 241, .int .u8 241, .int .u8 241, .int .u8 241, .int .u8 241, .int .u8 241, .int .u8 241, .int .u8 241, .int .u8 241, .int .u8 241, .int .u8 241, .int .u8 241, .int .u8 2, .int .u8 2, .int .u8 2, .int .u8 2, .int .u8 2, .int .u8 2, .int .u8 2, .int .u8 2, .int .u8 2, .int .u8 2, .int .u8 2, .int .u8 2, .int .u8 2, .int .u8 2, .int .u8 2, .int .u8 2, .int .u8 2, .int .u8 2, .int .u8 2, .int .u8 2, .int .u8 2, .int .u8 2, .int .u8 2, .int .u8 2, .int .u8 2, .int .u8 2, .int .u8 2, .int .u8 2, .int .u8 2, .int .u8 2, .int .u8 19, .int .u8 3, .int .u8 3, .int .u8 3, .int .u8 3, .int .u8 3, .int .u8 3, .int .u8 3, .int .u8 3, .int .u8 3, .int .u8 3, .int .u8 3, .int .u8 3, .int .u8 35, .int .u8 3, .int .u8 3, .int .u8 52, .int .u8 4, .int .u8 4, .int .u8 4, .int .u8 68, .int .u8 241, .int .u8 241, .int .u8 241, .int .u8 241, .int .u8 241, .int .u8 241, .int .u8 241, .int .u8 241, .int .u8 241, .int .u8 241, .int .u8 241])) }
theorem laidWorld_met (os : Os) (args : Array Value) : laidMetH Tryz.prog laidL ((laidWorld os).forCall (fun _ _ => 0) ⟨#[], args, []⟩).memory := by
 have h : laidMet Tryz.prog [("math/bits.deBruijn32tab", Rows.laid_math_bits_deBruijn32tab), ("math/bits.deBruijn64tab", Rows.laid_math_bits_deBruijn64tab), ("internal/strconv.uint64pow10", Rows.laid_internal_strconv_uint64pow10), ("unicode/utf8.acceptRanges", Rows.laid_unicode_utf8_acceptRanges), ("strconv.ErrRange", Rows.laid_strconv_ErrRange), ("strconv.ErrSyntax", Rows.laid_strconv_ErrSyntax), ("testimony/model.knows", Rows.laid_testimony_model_knows), ("unicode/utf8.first", Rows.laid_unicode_utf8_first)] ((laidWorld os).forCall (fun _ _ => 0) ⟨#[], args, []⟩).memory :=
  laidMet_of_run (ps := [.cell 8 0, .cell 8 1, .cell 8 2, .cell 8 3, .cell 8 4, .cell 8 5, .cell 8 6, .cell 8 7, .cell 8 8, .cell 8 9, .cell 8 10, .cell 8 11, .cell 8 12, .cell 8 13, .cell 8 14, .cell 8 15, .cell 8 16, .cell 8 17, .cell 8 18, .cell 8 19, .cell 8 20, .cell 8 21, .cell 8 22, .cell 8 23, .cell 8 24, .cell 8 25, .cell 8 26, .cell 8 27, .cell 8 28, .cell 8 29, .cell 8 30, .cell 8 31, .cell 9 0, .cell 9 1, .cell 9 2, .cell 9 3, .cell 9 4, .cell 9 5, .cell 9 6, .cell 9 7, .cell 9 8, .cell 9 9, .cell 9 10, .cell 9 11, .cell 9 12, .cell 9 13, .cell 9 14, .cell 9 15, .cell 9 16, .cell 9 17, .cell 9 18, .cell 9 19, .cell 9 20, .cell 9 21, .cell 9 22, .cell 9 23, .cell 9 24, .cell 9 25, .cell 9 26, .cell 9 27, .cell 9 28, .cell 9 29, .cell 9 30, .cell 9 31, .cell 9 32, .cell 9 33, .cell 9 34, .cell 9 35, .cell 9 36, .cell 9 37, .cell 9 38, .cell 9 39, .cell 9 40, .cell 9 41, .cell 9 42, .cell 9 43, .cell 9 44, .cell 9 45, .cell 9 46, .cell 9 47, .cell 9 48, .cell 9 49, .cell 9 50, .cell 9 51, .cell 9 52, .cell 9 53, .cell 9 54, .cell 9 55, .cell 9 56, .cell 9 57, .cell 9 58, .cell 9 59, .cell 9 60, .cell 9 61, .cell 9 62, .cell 9 63, .cell 7 0, .cell 7 1, .cell 7 2, .cell 7 3, .cell 7 4, .cell 7 5, .cell 7 6, .cell 7 7, .cell 7 8, .cell 7 9, .cell 7 10, .cell 7 11, .cell 7 12, .cell 7 13, .cell 7 14, .cell 7 15, .cell 7 16, .cell 7 17, .cell 7 18, .cell 7 19, .cell 4 0, .cell 4 1, .cell 4 2, .cell 4 3, .cell 4 4, .cell 4 5, .cell 4 6, .cell 4 7, .cell 4 8, .cell 4 9, .cell 4 10, .cell 4 11, .cell 4 12, .cell 4 13, .cell 4 14, .cell 4 15, .cell 4 16, .cell 4 17, .cell 4 18, .cell 4 19, .cell 4 20, .cell 4 21, .cell 4 22, .cell 4 23, .cell 4 24, .cell 4 25, .cell 4 26, .cell 4 27, .cell 4 28, .cell 4 29, .cell 4 30, .cell 4 31, .cell 6 0, .cell low_ 0, .cell 5 0, .cell (low_ + 1) 0, .cell 0 0, .cell 0 1, .cell 0 2, .cell 0 3, .cell 0 4, .cell 0 5, .cell 0 6, .cell 3 0, .cell 3 1, .cell 3 2, .cell 3 3, .cell 3 4, .cell 3 5, .cell 3 6, .cell 3 7, .cell 3 8, .cell 3 9, .cell 3 10, .cell 3 11, .cell 3 12, .cell 3 13, .cell 3 14, .cell 3 15, .cell 3 16, .cell 3 17, .cell 3 18, .cell 3 19, .cell 3 20, .cell 3 21, .cell 3 22, .cell 3 23, .cell 3 24, .cell 3 25, .cell 3 26, .cell 3 27, .cell 3 28, .cell 3 29, .cell 3 30, .cell 3 31, .cell 3 32, .cell 3 33, .cell 3 34, .cell 3 35, .cell 3 36, .cell 3 37, .cell 3 38, .cell 3 39, .cell 3 40, .cell 3 41, .cell 3 42, .cell 3 43, .cell 3 44, .cell 3 45, .cell 3 46, .cell 3 47, .cell 3 48, .cell 3 49, .cell 3 50, .cell 3 51, .cell 3 52, .cell 3 53, .cell 3 54, .cell 3 55, .cell 3 56, .cell 3 57, .cell 3 58, .cell 3 59, .cell 3 60, .cell 3 61, .cell 3 62, .cell 3 63, .cell 3 64, .cell 3 65, .cell 3 66, .cell 3 67, .cell 3 68, .cell 3 69, .cell 3 70, .cell 3 71, .cell 3 72, .cell 3 73, .cell 3 74, .cell 3 75, .cell 3 76, .cell 3 77, .cell 3 78, .cell 3 79, .cell 3 80, .cell 3 81, .cell 3 82, .cell 3 83, .cell 3 84, .cell 3 85, .cell 3 86, .cell 3 87, .cell 3 88, .cell 3 89, .cell 3 90, .cell 3 91, .cell 3 92, .cell 3 93, .cell 3 94, .cell 3 95, .cell 3 96, .cell 3 97, .cell 3 98, .cell 3 99, .cell 3 100, .cell 3 101, .cell 3 102, .cell 3 103, .cell 3 104, .cell 3 105, .cell 3 106, .cell 3 107, .cell 3 108, .cell 3 109, .cell 3 110, .cell 3 111, .cell 3 112, .cell 3 113, .cell 3 114, .cell 3 115, .cell 3 116, .cell 3 117, .cell 3 118, .cell 3 119, .cell 3 120, .cell 3 121, .cell 3 122, .cell 3 123, .cell 3 124, .cell 3 125, .cell 3 126, .cell 3 127, .cell 3 128, .cell 3 129, .cell 3 130, .cell 3 131, .cell 3 132, .cell 3 133, .cell 3 134, .cell 3 135, .cell 3 136, .cell 3 137, .cell 3 138, .cell 3 139, .cell 3 140, .cell 3 141, .cell 3 142, .cell 3 143, .cell 3 144, .cell 3 145, .cell 3 146, .cell 3 147, .cell 3 148, .cell 3 149, .cell 3 150, .cell 3 151, .cell 3 152, .cell 3 153, .cell 3 154, .cell 3 155, .cell 3 156, .cell 3 157, .cell 3 158, .cell 3 159, .cell 3 160, .cell 3 161, .cell 3 162, .cell 3 163, .cell 3 164, .cell 3 165, .cell 3 166, .cell 3 167, .cell 3 168, .cell 3 169, .cell 3 170, .cell 3 171, .cell 3 172, .cell 3 173, .cell 3 174, .cell 3 175, .cell 3 176, .cell 3 177, .cell 3 178, .cell 3 179, .cell 3 180, .cell 3 181, .cell 3 182, .cell 3 183, .cell 3 184, .cell 3 185, .cell 3 186, .cell 3 187, .cell 3 188, .cell 3 189, .cell 3 190, .cell 3 191, .cell 3 192, .cell 3 193, .cell 3 194, .cell 3 195, .cell 3 196, .cell 3 197, .cell 3 198, .cell 3 199, .cell 3 200, .cell 3 201, .cell 3 202, .cell 3 203, .cell 3 204, .cell 3 205, .cell 3 206, .cell 3 207, .cell 3 208, .cell 3 209, .cell 3 210, .cell 3 211, .cell 3 212, .cell 3 213, .cell 3 214, .cell 3 215, .cell 3 216, .cell 3 217, .cell 3 218, .cell 3 219, .cell 3 220, .cell 3 221, .cell 3 222, .cell 3 223, .cell 3 224, .cell 3 225, .cell 3 226, .cell 3 227, .cell 3 228, .cell 3 229, .cell 3 230, .cell 3 231, .cell 3 232, .cell 3 233, .cell 3 234, .cell 3 235, .cell 3 236, .cell 3 237, .cell 3 238, .cell 3 239, .cell 3 240, .cell 3 241, .cell 3 242, .cell 3 243, .cell 3 244, .cell 3 245, .cell 3 246, .cell 3 247, .cell 3 248, .cell 3 249, .cell 3 250, .cell 3 251, .cell 3 252, .cell 3 253, .cell 3 254, .cell 3 255]) 80 (by kernel_rfl) (by kernel_rfl) (by kernel_rfl)
 exact laidMetH_of_parts h (by kernel_rfl)
end Go.Proofs.YthndpiopbdecfaaGreatDoor
namespace Go.Proofs.YthndpiopbdecfaaGreatDoor
open Go
set_option linter.unusedVariables false
theorem returnsInHanded_shp {H : Type} {enc : TypeId × Value → H} {a : Assume} {C : Checked} {os : Os} {f : FuncId} {fn : Func} {s : ChangeSpec} {conds : List PathCond} {apart fresh handsOn again : Bool} {X : World → Array Value → Prop}
  (hX : ∀ (w w' : World) (args : Array Value), w.heap = w'.heap → X w args → X w' args)
  (own : ownKnob C.prog.godebug = none) (started : os.Started) (noInit : C.prog.inits.idxOf? f = none) (hfn : C.prog.funcs[f]? = some fn)
  (witness : ∃ (w : World) (tape : Tape) (i : Input), w.os = os ∧ (w.forCall tape i).Shaped C.prog ∧ i.vars = [] ∧ Input.okWide C.prog (w.forCall tape i) .any w.heap.size f i ∧
   ((s.pre enc C.prog fn conds apart (w.forCall tape i).memory i.args ∧ X (w.forCall tape i).memory i.args) ∧ sizedMet enc C.prog fn (OpenSpec.ofChange s) apart (w.forCall tape i).memory i.args) ∧ a.holds C.prog (lone (Frame.enter C.prog f i.args .normal) [] (w.forCall tape i)))
  (contract : ∀ (W : World) (base : Nat) (args : Array Value) (ds gs : List (DataW H)) (before : List MemPlace), W.ShapedOpen C.prog →
   (∀ (j : Nat) t v, fn.params[j]? = some t → args[j]? = some v → Value.okWide C.prog W .any base t v) →
   DataW.Whole enc C.prog fn.params.toList s.vars apart W args.toList ds gs before →
   conds.all (PathCond.test C.prog ⟨fn.params.toList, ds, s.plain.varTypes C.prog, gs⟩) = true →
   (DataW.weightsEach C.prog (fn.params.toList ++ s.plain.varTypes C.prog) (ds ++ gs)).all (· ≤ reachBytes) = true → X W args →
   a.holds C.prog (lone (Frame.enter C.prog f args .normal) [] W) →
   Calls C.prog f args W fun e W' => ∃ v, e = .returned v ∧ s.post enc C.prog fn apart fresh handsOn again W args v W') :
  ReturnsInHanded a C os f .any (fun w args => (s.pre enc C.prog fn conds apart w args ∧ X w args) ∧ sizedMet enc C.prog fn (OpenSpec.ofChange s) apart w args) (s.post enc C.prog fn apart fresh handsOn again) := by
 refine returnsInHanded_of_calls own started noInit witness ?_
 intro w tape i _ hsh _ hok hpre hholds
 obtain ⟨_, _, _, fn', hfn', _, _, _, _, hval⟩ := hok
 have e : fn' = fn := Option.some.inj (hfn'.symm.trans hfn)
 subst e
 obtain ⟨⟨⟨ds, gs, before, hw, hc⟩, hx⟩, hz⟩ := hpre
 have hw' := DataW.Whole.of_heap (w' := w.forCall tape i) (by rfl) hw
 refine (contract (w.forCall tape i) w.heap.size i.args ds gs before hsh hval hw' hc (hz.weights hw) (hX _ _ _ (by rfl) hx) hholds).mono fun e W' ⟨v, he, hp⟩ => ?_
 subst he
 exact ChangeSpec.post_blind hp
/-- A witness in a world whose variables may point into it. -/
theorem witness_ref {H : Type} {enc : TypeId × Value → H} {C : Checked} {os : Os} {f : FuncId} {fn : Func} {s : ChangeSpec} {conds : List PathCond} {apart : Bool} {X : World → Array Value → Prop} (modest : Bool) (w0 : World) (args : Array Value) (fuel : Nat) (hos : w0.os = os)
  (hv : (w0.forCall (fun _ _ => 0) ⟨#[], args, []⟩).variablesRefB C.prog = true)
  (hr : ((w0.forCall (fun _ _ => 0) ⟨#[], args, []⟩).heap.toList.drop C.prog.globals.size).take ((begin C.prog (fun _ _ => 0) default).world.heap.size - C.prog.globals.size) =
   (begin C.prog (fun _ _ => 0) default).world.heap.toList.drop C.prog.globals.size)
  (hok : Input.okWideB C.prog (w0.forCall (fun _ _ => 0) ⟨#[], args, []⟩) f ⟨#[], args, []⟩ = true)
  (hpre : s.preB enc C.prog fn conds apart (w0.forCall (fun _ _ => 0) ⟨#[], args, []⟩).memory args fuel = true)
  (hsz : s.sizedB enc C.prog fn apart (w0.forCall (fun _ _ => 0) ⟨#[], args, []⟩).memory args fuel = true)
  (hx : X (w0.forCall (fun _ _ => 0) ⟨#[], args, []⟩).memory args) :
  ∃ (w : World) (tape : Tape) (i : Input), w.os = os ∧ (w.forCall tape i).Shaped C.prog ∧ i.vars = [] ∧ Input.okWide C.prog (w.forCall tape i) .any w.heap.size f i ∧
   ((s.pre enc C.prog fn conds apart (w.forCall tape i).memory i.args ∧ X (w.forCall tape i).memory i.args) ∧ sizedMet enc C.prog fn (OpenSpec.ofChange s) apart (w.forCall tape i).memory i.args) ∧ ({ modest := modest } : Assume).holds C.prog (lone (Frame.enter C.prog f i.args .normal) [] (w.forCall tape i)) :=
 ⟨w0, fun _ _ => 0, ⟨#[], args, []⟩, hos, World.shaped_of_RefB hv hr, (Input.okWide_of_okWideB (base := 0) hok).1, (Input.okWide_of_okWideB hok).2, ⟨⟨ChangeSpec.pre_of_preB hpre, hx⟩, sizedMet_of_sizedB hsz⟩, by
  simp only [Assume.holds]
  exact ⟨by simp, by simp, fun _ => Modest.zero, by simp, by simp⟩⟩
end Go.Proofs.YthndpiopbdecfaaGreatDoor
