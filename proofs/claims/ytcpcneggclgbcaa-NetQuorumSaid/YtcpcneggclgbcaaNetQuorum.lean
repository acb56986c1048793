/- NetQuorum: the walk. -/
import Derived.Test.YtcpcneggclgbcaaCan
import Derived.Test.YtcpcneggclgbcaaMost
import Derived.Test.YtcpcneggclgbcaaPick
namespace Go.Proofs.Ytcpcneggclgbcaa
open Go.RowKit
set_option linter.unusedVariables false
set_option linter.unusedSimpArgs false

def gb (g : List (List Bool)) (i j : Nat) : Bool := (g.getD i []).getD j false
def bothTo (g : List (List Bool)) (a b c : Nat) : Bool := (List.range c).any fun k => gb g a k && gb g b k
def good (g : List (List Bool)) (n : Nat) : Bool := (List.range n).all fun a => ((g.getD a []).length == n) && gb g a a &&
  (List.range n).all fun b => (gb g a b == gb g b a) && (!(mostB g a) || !(mostB g b) || bothTo g a b n)
theorem all_good : (List.range 7).all (fun m => (List.range 5).all fun k => (List.range 7).all fun who => good (gridOf (canOf (7 + k) (1 + m) who) (1 + m)) (1 + m)) = true := by decide +kernel
theorem good_links (k n who : Nat) (hk : 7 ≤ k) (hk' : k ≤ 11) (h1 : 1 ≤ n) (h7 : n ≤ 7) (hw : who < n) : good (gridOf (canOf k n who) n) n = true := by
  have h := all_good
  simp only [List.all_eq_true, List.mem_range] at h
  have := h (n - 1) (by omega) (k - 7) (by omega) who (by omega)
  rwa [show 7 + (k - 7) = k by omega, show 1 + (n - 1) = n by omega] at this
theorem bothTo_succ (g : List (List Bool)) (a b c : Nat) : bothTo g a b (c + 1) = (bothTo g a b c || (gb g a c && gb g b c)) := by
  simp [bothTo, List.range_succ]
theorem good_len {g : List (List Bool)} {n : Nat} (h : good g n = true) {a : Nat} (ha : a < n) : (g.getD a []).length = n := by
  simp only [good, List.all_eq_true, List.mem_range, Bool.and_eq_true] at h
  simpa using (h a ha).1.1
theorem good_diag {g : List (List Bool)} {n : Nat} (h : good g n = true) {a : Nat} (ha : a < n) : gb g a a = true := by
  simp only [good, List.all_eq_true, List.mem_range, Bool.and_eq_true] at h
  simpa using (h a ha).1.2
theorem good_sym {g : List (List Bool)} {n : Nat} (h : good g n = true) {a b : Nat} (ha : a < n) (hb : b < n) : gb g a b = gb g b a := by
  simp only [good, List.all_eq_true, List.mem_range, Bool.and_eq_true] at h
  simpa using ((h a ha).2 b hb).1
theorem good_both {g : List (List Bool)} {n : Nat} (h : good g n = true) {a b : Nat} (ha : a < n) (hb : b < n) (h1 : mostB g a = true) (h2 : mostB g b = true) : bothTo g a b n = true := by
  simp only [good, List.all_eq_true, List.mem_range, Bool.and_eq_true] at h
  simpa [h1, h2] using ((h a ha).2 b hb).2

/-- A cell of a grid all of whose rows are of length n. -/
theorem grid_cell {w : World} {D : Nat → Prop} {A : Option Addr} {n c : Nat} {g : List (List Bool)} (h : Grid w D (.slice A n c) g) (hn : g.length = n) (hg : good g n = true) {i : Nat} (hi : i < n) :
    ∃ b o A' c', A = some ⟨b, o, none⟩ ∧ w.cell? ⟨b, o + i, none⟩ = some (.slice A' n c') ∧ c' ≤ 9223372036854775807 ∧ Bools w D (.slice A' n c') (g.getD i []) := by
  obtain ⟨b, o, A', c', h1, h2, h3, _, h4, h5⟩ := h.get (i := i) (by omega)
  have e : g.getD i [] = g[i]'(by omega) := by rw [List.getD_eq_getElem?_getD, List.getElem?_eq_getElem (by omega)]; rfl
  have hl := good_len hg hi
  rw [e] at hl
  rw [hl] at h3 h5
  exact ⟨b, o, A', c', h1, h3, h4, by rw [e]; exact h5⟩
theorem row_cell {w : World} {D : Nat → Prop} {A : Option Addr} {n c : Nat} {g : List (List Bool)} {i : Nat} (h : Bools w D (.slice A n c) (g.getD i [])) (hl : (g.getD i []).length = n) {j : Nat} (hj : j < n) :
    ∃ b o, A = some ⟨b, o, none⟩ ∧ w.cell? ⟨b, o + j, none⟩ = some (.bool (gb g i j)) := by
  obtain ⟨b, o, h1, _, _, h2⟩ := h.get (k := j) (by omega)
  refine ⟨b, o, h1, ?_⟩
  rw [h2]
  unfold gb
  rw [List.getD_eq_getElem?_getD (l := g.getD i []), List.getElem?_eq_getElem (by omega)]
  rfl

theorem Pure.cell_some {w w' : World} (h : Pure w w') {p : Addr} {u : Value} (hc : w.cell? p = some u) : w'.cell? p = some u :=
  (h.cell (World.block_lt_of_cell? w p hc)).trans hc
/-- A row of a grid. -/
theorem grid_row {w : World} {D : Nat → Prop} {b0 o0 n c : Nat} {g : List (List Bool)} (h : Grid w D (.slice (some ⟨b0, o0, none⟩) n c) g) (hn : g.length = n) (hg : good g n = true) {i : Nat} (hi : i < n) :
    ∃ rb ro c', w.cell? ⟨b0, o0 + i, none⟩ = some (.slice (some ⟨rb, ro, none⟩) n c') ∧ c' ≤ 9223372036854775807 ∧ ∀ j, j < n → w.cell? ⟨rb, ro + j, none⟩ = some (.bool (gb g i j)) := by
  obtain ⟨b, o, A', c', h1, h2, h3, h4⟩ := grid_cell h hn hg hi
  injection h1 with h1
  injection h1 with e1 e2
  subst e1 e2
  obtain ⟨rb, ro, rfl, _⟩ := row_cell h4 (good_len hg hi) hi
  refine ⟨rb, ro, c', h2, h3, fun j hj => ?_⟩
  obtain ⟨b, o, h1, h5⟩ := row_cell h4 (good_len hg hi) hj
  injection h1 with h1
  injection h1 with e1 e2
  subst e1 e2
  exact h5
theorem good_rows {g : List (List Bool)} {n : Nat} (h : good g n = true) (hn : g.length = n) : ∀ row ∈ g, row.length = n := by
  intro row hr
  obtain ⟨i, hi, rfl⟩ := List.mem_iff_getElem.1 hr
  have := good_len h (a := i) (by omega)
  rwa [List.getD_eq_getElem?_getD, List.getElem?_eq_getElem hi] at this

set_option maxHeartbeats 2000000 in
set_option maxRecDepth 100000 in
theorem netquorum_any (what n who : Int) (w : World) :
    Calls Try.prog 4 #[.int .i64 what, .int .i64 n, .int .i64 who] w fun e w' => e = .returned (.bool true) ∧ Pure w w' := by
  go_enter Try.func4, Try.ntmps4
  go_wp2_with fail
  refine (pick_any n 7 _ (by omega) (by omega)).mono ?_
  rintro e _ ⟨rfl, rfl⟩
  have hm := pickN_lt n (show 0 < 7 by omega)
  generalize pickN n 7 = m at *
  go_wp2_with fail
  refine (pick_any what 5 _ (by omega) (by omega)).mono ?_
  rintro e _ ⟨rfl, rfl⟩
  have hk := pickN_lt what (show 0 < 5 by omega)
  generalize pickN what 5 = k at *
  go_wp2_with fail
  rw [show (1 + (m : Int)) = ((1 + m : Nat) : Int) from by omega]
  generalize hN : 1 + m = N at *
  have hN1 : 1 ≤ N := by omega
  have hN7 : N ≤ 7 := by omega
  clear hN hm
  refine (pick_any who N _ (by omega) (by omega)).mono ?_
  rintro e _ ⟨rfl, rfl⟩
  have hw := pickN_lt who (show 0 < N by omega)
  generalize pickN who N = u at *
  go_wp2_with fail
  rw [show (7 + (k : Int)) = ((7 + k : Nat) : Int) from by omega]
  have hgood := good_links (7 + k) N u (by omega) (by omega) hN1 hN7 hw
  refine (plinks_any (7 + k) N u _ (by omega) (by omega) hN1 hN7 hw).mono ?_
  rintro e w1 ⟨v, rfl, hg, p1⟩
  have hgl : (gridOf (canOf (7 + k) N u) N).length = N := by simp [gridOf]
  generalize gridOf (canOf (7 + k) N u) N = g at *
  clear hk hw
  obtain ⟨A, c, rfl, hnc, hcm⟩ := hg.form
  rw [hgl] at hg hnc
  have HG := Lib.hid hg
  have HGL := Lib.hid hgl
  have HGO := Lib.hid hgood
  have HP := Lib.hid p1
  clear hg hgood p1
  rw [hgl]
  clear hgl
  go_wp2
  obtain ⟨b0, o0, _, _, rfl, _⟩ := grid_cell HG.out HGL.out HGO.out (show 0 < N by omega)
  clear hN1
  go_loopw [9] (fun i wr => ∃ a : Nat, a ≤ N ∧ i = .int .i64 a ∧ Pure w1 wr) (fun i _ => N - (intOf i).toNat)
  case atStart => exact ⟨0, by omega, rfl, Pure.refl _⟩
  case round =>
    obtain ⟨a, ha, rfl, hP⟩ := hrel
    by_cases hlt : a < N
    · have hlt' : (a : Int) < (N : Int) := by omega
      obtain ⟨ra, oa, ca, hra, hcam, hrow⟩ := grid_row HG.out HGL.out HGO.out hlt
      have d1 := hP.cell_some hra
      have d2 := hP.cell_some (hrow a hlt)
      rw [good_diag HGO.out hlt] at d2
      have HRA := Lib.hid hra
      have HROW := Lib.hid hrow
      have HPA := Lib.hid hP
      clear hra hrow hP
      go_wp2
      clear d1 d2
      obtain ⟨wo, rfl⟩ : ∃ wo : World, wo = wr := ⟨_, rfl⟩
      go_loopw [10, 11, 12] (fun j _ _ wr => ∃ b : Nat, b ≤ N ∧ j = .int .i64 b ∧ Pure w1 wr) (fun j _ _ _ => N - (intOf j).toNat)
      case atStart => exact ⟨0, by omega, rfl, HPA.out⟩
      case round =>
        obtain ⟨b, hb, rfl, hP⟩ := hrel
        by_cases hbn : b < N
        · have hbn' : (b : Int) < (N : Int) := by omega
          obtain ⟨rb, ob, cb, hrb, hcbm, hrowb⟩ := grid_row HG.out HGL.out HGO.out hbn
          have e1 := hP.cell_some HRA.out
          have e2 := hP.cell_some (HROW.out b hbn)
          have e3 := hP.cell_some hrb
          have e4 := hP.cell_some (hrowb a hlt)
          rw [good_sym HGO.out hlt hbn] at e2
          generalize gb g b a = x at e2 e4
          have HRB := Lib.hid hrb
          have HROWB := Lib.hid hrowb
          have HPB := Lib.hid hP
          clear hrb hrowb hP
          go_wp2_with fail
          go_quiet (fail)
          have HPC := Lib.hid (HPB.out.drewN nq)
          clear e1 e2 e3 e4
          generalize wr.drewN nq = wq at *
          go_wp2_with fail
          have e1 := HPC.out.cell_some HRA.out
          have e3 := HPC.out.cell_some HRB.out
          go_loop [11, 12] (fun bo i => ∃ k : Nat, k ≤ N ∧ i = .int .i64 k ∧ bo = .bool (bothTo g a b k)) (fun _ i => N - (intOf i).toNat)
          case atStart => exact ⟨0, by omega, rfl, rfl⟩
          case round =>
            obtain ⟨k, hk, rfl, rfl⟩ := hrel
            by_cases hkn : k < N
            · have hkn' : (k : Int) < (N : Int) := by omega
              have f1 := HPC.out.cell_some (HROW.out k hkn)
              have f2 := HPC.out.cell_some (HROWB.out k hkn)
              have HS := Lib.hid (bothTo_succ g a b k)
              generalize gb g a k = x1 at *
              generalize gb g b k = x2 at *
              generalize bothTo g a b k = z at *
              cases z <;> cases x1 <;> cases x2
              all_goals
                go_wp2
                go_round
                case rel => first | exact ⟨k + 1, by omega, by go_num, by rw [HS.out]; rfl⟩ | ((repeat apply Exists.intro); exact ⟨⟨k + 1, by omega, by go_num, by rw [HS.out]; rfl⟩, rfl⟩)
                case measure => simp [intOf]; omega
            · obtain rfl : k = N := by omega
              have HB := Lib.hid (fun h1 h2 => good_both HGO.out hlt hbn h1 h2)
              have hma : mostB g a = true ∨ mostB g a = false := by cases mostB g a <;> simp
              have hmb : mostB g b = true ∨ mostB g b = false := by cases mostB g b <;> simp
              rcases hma with hma | hma <;> rcases hmb with hmb | hmb
              · have hbo := HB.out hma hmb
                go_wp2_with (go_at_call 15; refine (most_any _ k c g _ _ _ (HG.out.pure HPC.out) HGL.out (by omega) (good_rows HGO.out HGL.out) (by omega)).mono ?_; rintro e _ ⟨rfl, rfl⟩)
                go_roundw
                case rel => first | exact ⟨b + 1, by omega, by go_num, HPC.out⟩ | ((repeat apply Exists.intro); exact ⟨⟨b + 1, by omega, by go_num, HPC.out⟩, rfl⟩)
                case measure => simp [intOf]; omega
              all_goals
                go_wp2_with (go_at_call 15; refine (most_any _ k c g _ _ _ (HG.out.pure HPC.out) HGL.out (by omega) (good_rows HGO.out HGL.out) (by omega)).mono ?_; rintro e _ ⟨rfl, rfl⟩)
                go_roundw
                case rel => first | exact ⟨b + 1, by omega, by go_num, HPC.out⟩ | ((repeat apply Exists.intro); exact ⟨⟨b + 1, by omega, by go_num, HPC.out⟩, rfl⟩)
                case measure => simp [intOf]; omega
        · obtain rfl : b = N := by omega
          have HPB := Lib.hid hP
          clear hP
          go_wp2
          go_roundw
          case rel => first | exact ⟨a + 1, by omega, by go_num, HPB.out⟩ | ((repeat apply Exists.intro); exact ⟨⟨a + 1, by omega, by go_num, HPB.out⟩, rfl⟩)
          case measure => simp [intOf]; omega
    · obtain rfl : a = N := by omega
      have HPA := Lib.hid hP
      clear hP
      go_wp2
      go_ret
      exact ⟨rfl, HP.out.trans HPA.out⟩
end Go.Proofs.Ytcpcneggclgbcaa
