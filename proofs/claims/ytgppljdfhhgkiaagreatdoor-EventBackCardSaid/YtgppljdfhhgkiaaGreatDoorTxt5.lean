/- text: event.lines' iterator calls yield for each line that Text wrote. -/
import Derived.Test.YtgppljdfhhgkiaaGreatDoorTxt4
namespace Go.Proofs.YtgppljdfhhgkiaaGreatDoor
open Go.RowKit
set_option linter.unusedVariables false
set_option linter.unusedSimpArgs false
/-- The words of the k-th line, as yield is given them. -/
def LinA (l : List Ev) (k : Nat) (args : Array Value) (w : World) : Prop := ∃ (z : Int) (A : Option Addr) (c : Nat), args = #[.int .i64 z, .slice A 7 c] ∧ Rd w (fun _ => True) 1 (.slice A 7 c) 7 ((wordsE (evAt l k)).map strV)
theorem Rd.cells {w w' : World} {D : Nat → Prop} {size n : Nat} {v : Value} {xs : List Value} (h : Rd w D size v n xs) (hc : ∀ p u, w.cell? p = some u → w'.cell? p = some u) : Rd w' D size v n xs := by
  obtain ⟨A, c, h1, h2, h3, h4, h5⟩ := h
  refine ⟨A, c, h1, h2, h3, h4, fun hn => ?_⟩
  obtain ⟨b, o, q1, q2, q3⟩ := h5 hn
  exact ⟨b, o, q1, q2, fun j u hj => hc _ _ (q3 j u hj)⟩
theorem LinA.keep {l : List Ev} : ∀ k args V V', LinA l k args V → (∀ p v, V.cell? p = some v → V'.cell? p = some v) → LinA l k args V' := by
  rintro k args V V' ⟨z, A, c, h1, h2⟩ h
  exact ⟨z, A, c, h1, h2.cells h⟩
theorem Chg.cellN {S : Nat → Prop} {w w' : World} {p : Addr} {v : Value} (h : Chg S w w') (hv : w.cell? p = some v) (hS : ¬ S p.block) : w'.cell? p = some v := by
  have hb := h.block p.block (World.block_lt_of_cell? w p hv) hS
  unfold World.cell? at *
  rw [hb]; exact hv
namespace Rd
set_option maxHeartbeats 2000000 in
theorem lines_seq (l : List Ev) (hl : l.length ≤ 120) (h : ∀ e ∈ l, EvOk e) (g : Nat) (w : World) (hg : w.cell? ⟨g, 0, none⟩ = some (strV (textE l))) (hM : MaxOk w) :
    SeqRel Tryz.prog 27 #[.pointer (some ⟨g, 0, none⟩)] l.length (LinA l) w (fun k => k = g) := by
  intro y X0 J W hp hX0 hJ hy h0
  replace hg := ((Inv.start (fun _ => False) w).pure hp).oldp hg
  replace hM := hM.pure hp
  have hgl : g < W.heap.size := World.block_lt_of_cell? W _ hg
  have hI := Inv.start (fun _ => False) W
  refine calls_of_W (N := Tryz.f27.ntmps) Tryz.func27 rfl rfl rfl ?_
  refine W_seq ?_
  refine W_region ?_
  refine WL_val rfl rfl rfl (by first | exact rAsgnI rfl rfl | exact rAsgn rfl) ?_
  refine WL_nil ?_
  refine W_seq ?_
  refine W_region ?_
  refine WL_val rfl rfl rfl (by first | exact rLd (v := .string _) rfl (by kernel_rfl) rfl (by first | exact hI.c0 rfl | exact hI.c1 rfl | exact hI.c2 rfl | exact hI.c3 rfl | exact hI.c4 rfl | exact hI.c5 rfl | exact hI.oldp hg | exact hg) | exact rLd rfl (by kernel_rfl) rfl (by first | exact hI.c0 rfl | exact hI.c1 rfl | exact hI.c2 rfl | exact hI.c3 rfl | exact hI.c4 rfl | exact hI.c5 rfl | exact hI.oldp hg | exact hg)) ?_
  refine WL_call rfl rfl rfl (rCall (vs := [.string _, .string _]) rfl Tryz.func28 rfl rfl rfl) ?_
  refine (split_any l hl h _ (hM.pure hI.pu)).mono ?_
  rintro e w1 ⟨g1, rfl, hT⟩
  refine ⟨_, rfl, ?_⟩
  replace hI := hI.app1 hT
  refine WL_val rfl rfl rfl (rLen rfl Tryz.underlying41 rfl) ?_
  refine WL_val rfl rfl rfl (by first | exact rMoveI rfl rfl | exact rMove rfl) ?_
  refine WL_nil ?_
  have hg1 : W.heap.size ≤ g1 := (hI.own _ (List.mem_cons_self ..) g1 rfl).resolve_left id
  have hB := hI.g0
  have hJ1 := hJ _ _ _ _ h0 (hI.pu.chg (notX W.heap.size X0))
  have hgw := hI.oldp hg
  have hsz := hI.pu.size
  have hX0' : ∀ b, X0 b → b ≠ g ∧ b ≠ g1 := fun b hb => ⟨(hX0 b hb).1, by have := (hX0 b hb).2; omega⟩
  refine W_block ?_
  refine W_loopN (fun mu ρ V => ∃ (k : Nat) (z : Int) (X : Nat → Prop), mu = l.length + 1 - k ∧ k ≤ l.length + 1 ∧ 0 ≤ z ∧ z ≤ 1000 * k ∧ Has ρ [(10, .int .i64 (k : Int)), (9, .int .i64 ((l.length + 1 : Nat) : Int)), (8, .slice (some ⟨g1, 0, none⟩) (l.length + 1) (l.length + 1)), (3, .int .i64 z), (0, .func (.yield y) #[] #[]), (1, .pointer (some ⟨g, 0, none⟩))] ∧ J (min k l.length) X V ∧ (∀ b, X b → b ≠ g ∧ b ≠ g1) ∧ Blk V g1 9 (piecesV l) ∧ W.heap.size ≤ V.heap.size) (l.length + 1)
    ⟨0, 0, X0, rfl, by omega, by omega, by omega, ⟨rfl, rfl, rfl, rfl, rfl, rfl, trivial⟩, by rw [Nat.zero_min]; exact hJ1, hX0', hB, hsz⟩ ?_
  clear hI
  rintro mu ρ V ⟨k, z, X, rfl, hk, hz0, hz1, hH, hJk, hX, hBV, hsV⟩
  obtain ⟨σ, rfl⟩ := hH.open
  have hI := Inv.start (fun _ => False) V
  by_cases hkn : k < l.length + 1
  rotate_left
  · obtain rfl : k = l.length + 1 := by omega
    rw [Nat.min_eq_right (by omega)] at hJk
    refine W_seq ?_
    refine W_region ?_
    refine WL_val rfl rfl rfl (by first | exact rLssT rfl rfl rfl (by omega) | exact rLssF rfl rfl rfl (by omega) | exact rLss rfl rfl rfl) ?_
    refine WL_nil ?_
    refine W_seq ?_
    refine W_cond false rfl ?_
    refine W_exit ?_
    exact ret0 (.inl rfl) rfl ⟨⟨_, rfl⟩, X, hJk⟩
  obtain ⟨s, hs, hsl⟩ : ∃ s : List UInt8, (piecesV l)[k]? = some (strV s) ∧ ((k < l.length ∧ s = lineE (evAt l k) ∧ EvOk (evAt l k)) ∨ (k = l.length ∧ s = [])) := by
    unfold piecesV
    rw [List.getElem?_toArray, List.getElem?_map]
    by_cases hkl : k < l.length
    · refine ⟨lineE (evAt l k), ?_, .inl ⟨hkl, rfl, h _ (List.mem_of_getElem? (evAt_get hkl))⟩⟩
      rw [List.getElem?_append_left (by simpa using hkl), List.getElem?_map, evAt_get hkl]; rfl
    · obtain rfl : k = l.length := by omega
      refine ⟨[], ?_, .inr ⟨rfl, rfl⟩⟩
      rw [List.getElem?_append_right (by simp)]; simp
  have hcs : V.cell? ⟨g1, k, none⟩ = some (strV s) := by rw [hBV.cell]; exact hs
  have hlt1 := hBV.lt
  refine W_seq ?_
  refine W_region ?_
  refine WL_val rfl rfl rfl (by first | exact rLssT rfl rfl rfl (by omega) | exact rLssF rfl rfl rfl (by omega) | exact rLss rfl rfl rfl) ?_
  refine WL_nil ?_
  refine W_seq ?_
  refine W_cond true rfl ?_
  refine W_skip ?_
  refine W_seq ?_
  refine W_block ?_
  refine W_seq ?_
  refine W_region ?_
  refine WL_val rfl rfl rfl (by first | exact rIdx0 rfl Tryz.underlying41 (by kernel_rfl) rfl rfl rfl (by omega) | exact rIdx1 rfl Tryz.underlying41 (by kernel_rfl) rfl rfl (by omega)) ?_
  refine WL_val rfl rfl rfl (by first | exact rLd (v := .string _) rfl (by kernel_rfl) rfl (by first | exact hI.oldp hcs | exact hcs) | exact rLd rfl (by kernel_rfl) rfl (by first | exact hI.oldp hcs | exact hcs)) ?_
  refine WL_val rfl rfl rfl (by first | exact rAsgnStr rfl rfl | exact rAsgn rfl) ?_
  refine WL_nil ?_
  rcases hsl with ⟨hkl, rfl, hek⟩ | ⟨rfl, rfl⟩
  · have hll := lineE_len hek
    refine W_seq ?_
    refine W_region ?_
    refine WL_val rfl rfl rfl (by first | exact rMoveStr rfl rfl | exact rMove rfl) ?_
    refine WL_call rfl rfl rfl (rCall (vs := [.string _, .func _ _ _]) rfl Tryz.func21 rfl rfl rfl) ?_
    refine (ffunc_any _ (wordsE (evAt l k)) (by omega) (line_fields hek) _).mono ?_
    rintro e w1 ⟨g2, rfl, hT⟩
    refine ⟨_, rfl, ?_⟩
    replace hI := hI.app1 hT
    refine WL_val rfl rfl rfl (by first | exact rAsgnS rfl rfl | exact rAsgn rfl) ?_
    refine WL_nil ?_
    have hJ2 := hJ _ _ _ _ hJk (hI.pu.chg (notX W.heap.size X))
    rw [Nat.min_eq_left (by omega)] at hJ2
    have hA : LinA l k #[.int .i64 z, .slice (some ⟨g2, 0, none⟩) 7 7] w1 := ⟨z, _, _, rfl, Rd.of_own hI.g0 (fun _ _ _ => trivial)⟩
    have hs1 := hI.pu.size
    have hB1 := Blk.chg hBV (hI.pu.chg (fun _ => False)) id
    refine W_seq ?_
    refine W_seq ?_
    refine W_regionI 7 ?_
    refine WL_val rfl rfl rfl (by first | exact rMoveS rfl rfl | exact rMove rfl) ?_
    refine WL_val rfl rfl rfl (rLen rfl Tryz.underlying41 rfl) ?_
    refine WL_val rfl rfl rfl (by first | exact rGtrT rfl rfl rfl (by omega) | exact rGtrF rfl rfl rfl (by omega) | exact rGtr rfl rfl rfl) ?_
    refine WL_val rfl rfl rfl (by first | exact rMoveB rfl rfl | exact rMove rfl) ?_
    first | refine WL_val rfl rfl rfl (by first | exact rMoveF rfl rfl | exact rMove rfl) ?_ | refine WL_skip rfl rfl rfl ?_
    first | refine WL_val rfl rfl rfl (by first | exact rMoveI rfl rfl | exact rMove rfl) ?_ | refine WL_skip rfl rfl rfl ?_
    first | refine WL_val rfl rfl rfl (by first | exact rMoveS rfl rfl | exact rMove rfl) ?_ | refine WL_skip rfl rfl rfl ?_
    refine WL_nil ?_
    refine WI_yield rfl rfl rfl rfl (rYield rfl rfl rfl) ?_
    refine (hy k X _ _ hkl hA hJ2 (by omega)).mono ?_
    clear hI
    rintro e w2 ⟨rfl, hJ3, hc3⟩
    have hI := Inv.start (fun _ => False) w2
    have hs2 := hc3.size
    refine ⟨_, rfl, WI_of ?_⟩
    first | refine WL_val rfl rfl rfl (by first | exact rNotT rfl rfl | exact rNotF rfl rfl | exact rNot rfl rfl) ?_ | refine WL_skip rfl rfl rfl ?_
    refine WL_val rfl rfl rfl (by first | exact rPickTB rfl rfl rfl | exact rPickFB rfl rfl rfl | exact rPickB rfl rfl rfl rfl) ?_
    refine WL_nil ?_
    refine W_cond false rfl ?_
    refine W_skip ?_
    refine W_region ?_
    refine WL_val rfl rfl rfl (by first | exact rMoveI rfl rfl | exact rMove rfl) ?_
    refine WL_val rfl rfl rfl (by first | exact rMoveStr rfl rfl | exact rMove rfl) ?_
    refine WL_val rfl rfl rfl (rStrLen rfl Tryz.underlying9 rfl) ?_
    refine WL_val rfl rfl rfl (by first | exact rInc rfl rfl rfl (by omega) | exact rAdd rfl rfl rfl (by omega) | exact rAddW rfl rfl rfl) ?_
    refine WL_val rfl rfl rfl (by first | exact rInc rfl rfl rfl (by omega) | exact rAdd rfl rfl rfl (by omega) | exact rAddW rfl rfl rfl) ?_
    refine WL_val rfl rfl rfl (by first | exact rAsgnI rfl rfl | exact rAsgn rfl) ?_
    refine WL_nil ?_
    refine W_region ?_
    refine WL_val rfl rfl rfl (by first | exact rInc rfl rfl rfl (by omega) | exact rAdd rfl rfl rfl (by omega) | exact rAddW rfl rfl rfl) ?_
    refine WL_val rfl rfl rfl (by first | exact rMoveI rfl rfl | exact rMove rfl) ?_
    refine WL_nil ?_
    refine ⟨l.length + 1 - (k + 1), by omega, k + 1, z + (((lineE (evAt l k)).length : Int) + 1), ownX X w1 w2, rfl, by omega, by omega, by omega, ⟨rfl, rfl, rfl, rfl, rfl, rfl, trivial⟩, ?_, fun b hb => ?_, Blk.chg hB1 hc3 (fun hx => (hX _ hx).2 rfl), by omega⟩
    · rw [Nat.min_eq_left (by omega)]; exact hJ3
    · rcases hb with hb | hb
      · exact hX b hb
      · omega
  · refine W_seq ?_
    refine W_region ?_
    refine WL_val rfl rfl rfl (by first | exact rMoveStr rfl rfl | exact rMove rfl) ?_
    refine WL_call rfl rfl rfl (rCall (vs := [.string _, .func _ _ _]) rfl Tryz.func21 rfl rfl rfl) ?_
    refine (ffunc_any [] [] (by decide) empty_fields _).mono ?_
    rintro e w1 ⟨g2, rfl, hT⟩
    refine ⟨_, rfl, ?_⟩
    replace hI := hI.app1 hT
    refine WL_val rfl rfl rfl (by first | exact rAsgnS rfl rfl | exact rAsgn rfl) ?_
    refine WL_nil ?_
    have hJ2 := hJ _ _ _ _ hJk (hI.pu.chg (notX W.heap.size X))
    have hs1 := hI.pu.size
    have hB1 := Blk.chg hBV (hI.pu.chg (fun _ => False)) id
    rw [Nat.min_self] at hJ2
    refine W_seq ?_
    refine W_seq ?_
    refine W_region ?_
    refine WL_val rfl rfl rfl (by first | exact rMoveS rfl rfl | exact rMove rfl) ?_
    refine WL_val rfl rfl rfl (rLen rfl Tryz.underlying41 rfl) ?_
    refine WL_val rfl rfl rfl (by first | exact rGtrT rfl rfl rfl (by omega) | exact rGtrF rfl rfl rfl (by omega) | exact rGtr rfl rfl rfl) ?_
    refine WL_val rfl rfl rfl (by first | exact rMoveB rfl rfl | exact rMove rfl) ?_
    refine WL_skip rfl rfl rfl ?_
    refine WL_skip rfl rfl rfl ?_
    refine WL_skip rfl rfl rfl ?_
    refine WL_skip rfl rfl rfl ?_
    refine WL_skip rfl rfl rfl ?_
    refine WL_val rfl rfl rfl (by first | exact rPickTB rfl rfl rfl | exact rPickFB rfl rfl rfl | exact rPickB rfl rfl rfl rfl) ?_
    refine WL_nil ?_
    refine W_cond false rfl ?_
    refine W_skip ?_
    refine W_region ?_
    refine WL_val rfl rfl rfl (by first | exact rMoveI rfl rfl | exact rMove rfl) ?_
    refine WL_val rfl rfl rfl (by first | exact rMoveStr rfl rfl | exact rMove rfl) ?_
    refine WL_val rfl rfl rfl (rStrLen rfl Tryz.underlying9 rfl) ?_
    refine WL_val rfl rfl rfl (by first | exact rInc rfl rfl rfl (by omega) | exact rAdd rfl rfl rfl (by omega) | exact rAddW rfl rfl rfl) ?_
    refine WL_val rfl rfl rfl (by first | exact rInc rfl rfl rfl (by omega) | exact rAdd rfl rfl rfl (by omega) | exact rAddW rfl rfl rfl) ?_
    refine WL_val rfl rfl rfl (by first | exact rAsgnI rfl rfl | exact rAsgn rfl) ?_
    refine WL_nil ?_
    refine W_region ?_
    refine WL_val rfl rfl rfl (by first | exact rInc rfl rfl rfl (by omega) | exact rAdd rfl rfl rfl (by omega) | exact rAddW rfl rfl rfl) ?_
    refine WL_val rfl rfl rfl (by first | exact rMoveI rfl rfl | exact rMove rfl) ?_
    refine WL_nil ?_
    have hw1 : IntKind.i64.wrap (((0 : Nat) : Int) + 1) = 1 := wrap64_in (by omega) (by omega)
    have hw2 : IntKind.i64.wrap (z + 1) = z + 1 := wrap64_in (by omega) (by omega)
    refine ⟨l.length + 1 - (l.length + 1), by omega, l.length + 1, _, X, rfl, by omega, ?_, ?_, ⟨rfl, rfl, rfl, rfl, rfl, rfl, trivial⟩, by rw [Nat.min_eq_right (by omega)]; exact hJ2, hX, hB1, by omega⟩
    · show 0 ≤ IntKind.i64.wrap (z + IntKind.i64.wrap (((0 : Nat) : Int) + 1))
      rw [hw1, hw2]; omega
    · show IntKind.i64.wrap (z + IntKind.i64.wrap (((0 : Nat) : Int) + 1)) ≤ _
      rw [hw1, hw2]; omega
end Rd
end Go.Proofs.YtgppljdfhhgkiaaGreatDoor
