/- isolate: All. -/
import Derived.Test.YtlnjmkldpicpdaaDoorRead
namespace Go.Proofs.YtlnjmkldpicpdaaDoor
open Go.RowKit
set_option linter.unusedVariables false
set_option linter.unusedSimpArgs false

/-! ### What the edges are -/
def pairsOf (l : List Int) : List (Int × Int) := l.zip l.tail
def pairsTo (g : List (List Int)) (q : Nat) (l : List Int) (i : Nat) : List (Int × Int) := (g.take q).flatMap pairsOf ++ (pairsOf l).take i
def overB (ps : List (Int × Int)) (x y : Nat) : Bool := ps.any fun p => decide (p.1 = (x : Int)) && decide (p.2 = (y : Int))
def overF (g : List (List Int)) : Nat → Nat → Bool := overB (g.flatMap pairsOf)
def activeB (t : List ITx) (k : Nat) (o : IOp) : Bool := comAt t k && !o.write && (decide (o.src = -1) || comAt t o.src)
/-- The reads ahead of op number j of transaction k. -/
def evsOf (t : List ITx) (k : Nat) : List (Nat × IOp) := (opsAt t k).map fun o => (k, o)
def evsTo (t : List ITx) (k j : Nat) : List (Nat × IOp) := (List.range k).flatMap (evsOf t) ++ (evsOf t k).take j
def seenB (t : List ITx) (es : List (Nat × IOp)) (x y : Nat) : Bool := es.any fun e => activeB t e.1 e.2 && seenC t e.1 e.2 x y
def anewB (t : List ITx) (g : List (List Int)) (es : List (Nat × IOp)) (x y : Nat) : Bool := es.any fun e => activeB t e.1 e.2 && anewC g e.1 e.2 x y
def seenF (t : List ITx) : Nat → Nat → Bool := seenB t (evsTo t t.length 0)
def anewF (t : List ITx) (g : List (List Int)) : Nat → Nat → Bool := anewB t g (evsTo t t.length 0)

theorem pairsOf_len (l : List Int) : (pairsOf l).length = l.length - 1 := by simp [pairsOf]
theorem pairsOf_get {l : List Int} {i : Nat} {a b : Int} (h1 : l[i]? = some a) (h2 : l[i + 1]? = some b) : (pairsOf l)[i]? = some (a, b) := by
  unfold pairsOf
  rw [List.getElem?_zip_eq_some]
  exact ⟨h1, by rw [List.getElem?_tail]; exact h2⟩
theorem over_step {g : List (List Int)} {q : Nat} {l : List Int} {i : Nat} {a b : Nat} (h1 : l[i]? = some (a : Int)) (h2 : l[i + 1]? = some (b : Int)) (x y : Nat) :
    (if x = a ∧ y = b then true else overB (pairsTo g q l i) x y) = overB (pairsTo g q l (i + 1)) x y := by
  have hg := pairsOf_get h1 h2
  have hl := List.getElem?_eq_some_iff.1 hg
  unfold pairsTo overB
  rw [List.take_succ_eq_append_getElem hl.1, hl.2, ← List.append_assoc, List.any_append (ys := [((a : Int), (b : Int))])]
  have e : (decide ((a : Int) = (x : Int)) && decide ((b : Int) = (y : Int))) = decide (x = a ∧ y = b) := by
    rw [← Bool.decide_and]
    congr 1
    simp only [eq_iff_iff]
    omega
  simp only [List.any_cons, List.any_nil, Bool.or_false, e]
  by_cases h : x = a ∧ y = b <;> simp [h]
theorem over_next {g : List (List Int)} {q : Nat} {l : List Int} (hq : g[q]? = some l) : overB (pairsTo g q l (l.length - 1)) = overB (pairsTo g (q + 1) [] 0) := by
  have hl := List.getElem?_eq_some_iff.1 hq
  unfold pairsTo
  have e : (pairsOf l).take (l.length - 1) = pairsOf l := List.take_of_length_le (by rw [pairsOf_len]; omega)
  rw [List.take_succ_eq_append_getElem hl.1, hl.2, List.flatMap_append, e]
  simp
theorem over_all (g : List (List Int)) : overB (pairsTo g g.length [] 0) = overF g := by
  unfold overF pairsTo
  simp
theorem evs_step {t : List ITx} {k j : Nat} {o : IOp} (h : (opsAt t k)[j]? = some o) : evsTo t k (j + 1) = evsTo t k j ++ [(k, o)] := by
  have hg : (evsOf t k)[j]? = some (k, o) := by unfold evsOf; rw [List.getElem?_map, h]; rfl
  have hl := List.getElem?_eq_some_iff.1 hg
  unfold evsTo
  rw [List.take_succ_eq_append_getElem hl.1, hl.2, List.append_assoc]
theorem evs_next (t : List ITx) (k : Nat) : evsTo t k (opsAt t k).length = evsTo t (k + 1) 0 := by
  unfold evsTo
  rw [List.range_succ, List.flatMap_append, List.take_of_length_le (by simp [evsOf])]
  simp
theorem seen_step {t : List ITx} {k j : Nat} {o : IOp} (h : (opsAt t k)[j]? = some o) (x y : Nat) : seenB t (evsTo t k (j + 1)) x y = (seenB t (evsTo t k j) x y || (activeB t k o && seenC t k o x y)) := by
  unfold seenB
  rw [evs_step h, List.any_append]
  simp
theorem anew_step {t : List ITx} {g : List (List Int)} {k j : Nat} {o : IOp} (h : (opsAt t k)[j]? = some o) (x y : Nat) : anewB t g (evsTo t k (j + 1)) x y = (anewB t g (evsTo t k j) x y || (activeB t k o && anewC g k o x y)) := by
  unfold anewB
  rw [evs_step h, List.any_append]
  simp

/-! ### Three grids -/
structure Tri (w wr : World) (o1 : Nat) (r1 : List Nat) (o2 : Nat) (r2 : List Nat) (o3 : Nat) (r3 : List Nat) (n : Nat) (f1 f2 f3 : Nat → Nat → Bool) : Prop where
  m1 : MG wr 47 4 o1 r1 n f1
  m2 : MG wr 47 4 o2 r2 n f2
  m3 : MG wr 47 4 o3 r3 n f3
  pu : Pure w wr
structure Apart3 (w : World) (eb : Nat) (r1 r2 r3 : List Nat) : Prop where
  a12 : ∀ i j r : Nat, r1[i]? = some r → r2[j]? = some r → False
  a13 : ∀ i j r : Nat, r1[i]? = some r → r3[j]? = some r → False
  a23 : ∀ i j r : Nat, r2[i]? = some r → r3[j]? = some r → False
  lo1 : ∀ i r : Nat, r1[i]? = some r → w.heap.size + 2 ≤ r ∧ r < eb
  lo2 : ∀ i r : Nat, r2[i]? = some r → w.heap.size + 2 ≤ r ∧ r < eb
  lo3 : ∀ i r : Nat, r3[i]? = some r → w.heap.size + 2 ≤ r ∧ r < eb
theorem Tri.pure {w wr w' : World} {o1 o2 o3 n : Nat} {r1 r2 r3 : List Nat} {f1 f2 f3 : Nat → Nat → Bool} (h : Tri w wr o1 r1 o2 r2 o3 r3 n f1 f2 f3) (hp : Pure wr w') : Tri w w' o1 r1 o2 r2 o3 r3 n f1 f2 f3 :=
  ⟨h.m1.pure hp, h.m2.pure hp, h.m3.pure hp, h.pu.trans hp⟩
theorem Tri.congr {w wr : World} {o1 o2 o3 n : Nat} {r1 r2 r3 : List Nat} {f1 f2 f3 g1 g2 g3 : Nat → Nat → Bool} (h : Tri w wr o1 r1 o2 r2 o3 r3 n f1 f2 f3) (h1 : ∀ x y, f1 x y = g1 x y) (h2 : ∀ x y, f2 x y = g2 x y) (h3 : ∀ x y, f3 x y = g3 x y) : Tri w wr o1 r1 o2 r2 o3 r3 n g1 g2 g3 :=
  ⟨h.m1.congr fun i j _ _ => h1 i j, h.m2.congr fun i j _ _ => h2 i j, h.m3.congr fun i j _ _ => h3 i j, h.pu⟩
theorem Tri.set1 {w wr : World} {eb o1 o2 o3 n i j r : Nat} {r1 r2 r3 : List Nat} {f1 f2 f3 : Nat → Nat → Bool} (h : Tri w wr o1 r1 o2 r2 o3 r3 n f1 f2 f3) (ha : Apart3 w eb r1 r2 r3) (hr : r1[i]? = some r) (hj : j < n) (b : Bool) :
    Tri w (wr.setCell ⟨r, j, none⟩ (.bool b)) o1 r1 o2 r2 o3 r3 n (fun x y => if x = i ∧ y = j then b else f1 x y) f2 f3 := by
  have hc : Chg (fun k => k = r) wr (wr.setCell ⟨r, j, none⟩ (.bool b)) := (Chg.refl (fun k => k = r) wr).setCell (p := ⟨r, j, none⟩) (.inl rfl) _
  refine ⟨h.m1.set_ (by decide) hr hj b, h.m2.chg hc (h.m2.out.ne_ (h.m1.row i r hr) (by decide)) ?_, h.m3.chg hc (h.m3.out.ne_ (h.m1.row i r hr) (by decide)) ?_, ?_⟩
  · rintro i' r' hr' rfl; exact ha.a12 i i' _ hr hr'
  · rintro i' r' hr' rfl; exact ha.a13 i i' _ hr hr'
  · exact h.pu.setCell (by have := (ha.lo1 i r hr).1; show w.heap.size ≤ r; omega) _
theorem Tri.read {w wr w' : World} {eb o1 o2 o3 n : Nat} {r1 r2 r3 : List Nat} {f1 f2 f3 g2 g3 : Nat → Nat → Bool} (h : Tri w wr o1 r1 o2 r2 o3 r3 n f1 f2 f3) (ha : Apart3 w eb r1 r2 r3) (hr : ReadRel wr w' o2 r2 o3 r3 n g2 g3) :
    Tri w w' o1 r1 o2 r2 o3 r3 n f1 g2 g3 := by
  refine ⟨h.m1.chg hr.chg ?_ ?_, hr.m2, hr.m3, ?_⟩
  · rintro (⟨j, hj⟩ | ⟨j, hj⟩)
    · exact h.m1.out.ne_ (h.m2.row j o1 hj) (by decide) rfl
    · exact h.m1.out.ne_ (h.m3.row j o1 hj) (by decide) rfl
  · rintro i r hi (⟨j, hj⟩ | ⟨j, hj⟩)
    · exact ha.a12 i j r hi hj
    · exact ha.a13 i j r hi hj
  · refine ((h.pu.chg (fun i => w.heap.size ≤ i)).trans' hr.chg fun i hi hS => ?_).below (Nat.le_refl _)
    rcases hS with ⟨j, hj⟩ | ⟨j, hj⟩
    · have := (ha.lo2 j i hj).1; omega
    · have := (ha.lo3 j i hj).1; omega
theorem Apart3.not_rows {w : World} {eb i : Nat} {r1 r2 r3 : List Nat} (ha : Apart3 w eb r1 r2 r3) (hi : i < w.heap.size + 2 ∨ eb ≤ i) : ¬ rowsOf r2 r3 i := by
  rintro (⟨j, hj⟩ | ⟨j, hj⟩)
  · have := ha.lo2 j i hj; omega
  · have := ha.lo3 j i hj; omega
end Go.Proofs.YtlnjmkldpicpdaaDoor
