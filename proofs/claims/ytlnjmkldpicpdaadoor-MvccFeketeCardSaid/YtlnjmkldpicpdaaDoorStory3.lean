/- isolate: checkOrder, Check. -/
import Derived.Test.YtlnjmkldpicpdaaDoorStory2
namespace Go.Proofs.YtlnjmkldpicpdaaDoor
open Go.RowKit
set_option linter.unusedVariables false
set_option linter.unusedSimpArgs false

def cntW (t : List ITx) (key : Int) (k : Nat) : Nat := ((List.range k).filter fun i => writesF t key (i : Nat)).length
theorem cntW_succ (t : List ITx) (key : Int) (k : Nat) : cntW t key (k + 1) = cntW t key k + (if writesF t key k = true then 1 else 0) := by
  unfold cntW
  rw [List.range_succ, List.filter_append, List.length_append]
  congr 1
  cases h : writesF t key k <;> simp [h]
theorem cntW_le (t : List ITx) (key : Int) (k : Nat) : cntW t key k ≤ k := by
  unfold cntW
  exact Nat.le_trans (List.length_filter_le _ _) (by simp)
def GoodO (t : List ITx) (key : Int) (l : List Int) : Prop := (∀ x ∈ l, 0 ≤ x ∧ x < t.length ∧ writesF t key x = true) ∧ l.Nodup
def OrdOk (t : List ITx) (key : Int) (l : List Int) : Prop := GoodO t key l ∧ l.length = cntW t key t.length
theorem goodO_next {t : List ITx} {key : Int} {l : List Int} {k : Nat} {x : Int} (h : GoodO t key (l.take k)) (hx : l[k]? = some x) (h0 : 0 ≤ x) (h1 : x < t.length) (h2 : writesF t key x = true) (h3 : x ∉ l.take k) : GoodO t key (l.take (k + 1)) := by
  have hl := List.getElem?_eq_some_iff.1 hx
  rw [List.take_succ_eq_append_getElem hl.1, hl.2]
  refine ⟨fun y hy => ?_, ?_⟩
  · rcases List.mem_append.1 hy with hy | hy
    · exact h.1 y hy
    · rw [List.mem_singleton] at hy; subst hy; exact ⟨h0, h1, h2⟩
  · rw [List.nodup_append]
    exact ⟨h.2, by simp, fun a ha b hb => by rw [List.mem_singleton] at hb; rw [hb]; exact fun e => h3 (e ▸ ha)⟩
theorem goodO_bad {t : List ITx} {key : Int} {l : List Int} {k : Nat} {x : Int} (hx : l[k]? = some x) (h : ¬ 0 ≤ x ∨ ¬ x < t.length ∨ writesF t key x = false ∨ x ∈ l.take k) : ¬ OrdOk t key l := by
  intro hg
  have h1 := hg.1.1 x (List.mem_of_getElem? hx)
  rcases h with h | h | h | h
  · exact h h1.1
  · exact h h1.2.1
  · rw [h1.2.2] at h; cases h
  · have hl := List.getElem?_eq_some_iff.1 hx
    have hn := hg.1.2
    rw [← List.take_append_drop k l, List.nodup_append] at hn
    refine hn.2.2 x h x ?_ rfl
    rw [List.drop_eq_getElem_cons hl.1, hl.2]
    exact List.mem_cons_self ..

set_option maxHeartbeats 2000000 in
set_option maxRecDepth 100000 in
theorem icheckorder_any (A : Option Addr) (n c : Nat) (A2 : Option Addr) (n2 c2 key : Nat) (t : List ITx) (g : List (List Int)) (l : List Int) (D : Nat → Prop) (w : World) (h : Txs w D (.slice A n c) t) (hl : t.length = n) (hn : n ≤ 1000) (h2 : IGrid w D (.slice A2 n2 c2) g) (hn2 : g.length = n2) (hk : g[key]? = some l) (hl2 : n2 ≤ 9223372036854775807) :
    Calls Tryd.prog 42 #[.agg #[.slice A n c, .slice A2 n2 c2], .int .i64 key] w fun e w' => ∃ v, e = .returned v ∧ ErrOr (OrdOk t key l) v ∧ Pure w w' := by
  obtain ⟨b, o, A3, c3, rfl, q0, q1, q2, q3, q4⟩ := h2.get hk
  have hkn : (key : Int) < n2 := by have := (List.getElem?_eq_some_iff.1 hk).1; omega
  have HS := Lib.hid h
  have HI := Lib.hid q4
  have HL := Lib.hid hl
  clear h hl h2 hn2 hk q4
  generalize hm : l.length = m at *
  have HM := Lib.hid hm
  clear hm
  have HB : Hid (∀ k W, ¬ OrdOk t key l → Pure w W → ∃ v, Ending.returned (.iface 59 (.int .i64 k)) = .returned v ∧ ErrOr (OrdOk t key l) v ∧ Pure w W) := Lib.hid (fun k W hP hW => ⟨_, rfl, .inr ⟨hP, k, rfl⟩, hW⟩)
  have HG : Hid (∀ W, OrdOk t key l → Pure w W → ∃ v, Ending.returned .nilIface = .returned v ∧ ErrOr (OrdOk t key l) v ∧ Pure w W) := Lib.hid (fun W hP hW => ⟨_, rfl, .inl ⟨hP, rfl⟩, hW⟩)
  have hP0 : Pure w ((w.alloc (.cells #[.slice A n c, .slice (some ⟨b, o, none⟩) n2 c2] 29)).alloc (.cells #[.int .i64 key] 3)) := ((Pure.refl w).alloc _).alloc _
  have hr0 := pure_cell hP0 q1
  have HP0 := Lib.hid hP0
  clear hP0
  go_enter Tryd.func42, Tryd.ntmps42
  go_wp2
  go_loopw [7, 8, 19] (fun _ _ i wr => ∃ k : Nat, k ≤ m ∧ i = .int .i64 k ∧ GoodO t key (l.take k) ∧ Pure w wr ∧ wr.cell? ⟨w.heap.size, 0, none⟩ = some (.slice A n c) ∧ wr.cell? ⟨w.heap.size + 1, 0, none⟩ = some (.int .i64 key)) (fun _ _ i _ => m - (intOf i).toNat)
  case atStart => exact ⟨0, by omega, rfl, ⟨by simp, by simp⟩, HP0.out, by simp [go_sem], by simp [go_sem]⟩
  case round =>
    obtain ⟨k, hk, rfl, hgo, hp, s0, s1⟩ := hrel
    have HGO := Lib.hid hgo
    have HP := Lib.hid hp
    clear hgo hp
    by_cases hkm : k < m
    · have hkm' : (k : Int) < (m : Int) := by omega
      have hkl : k < l.length := by rw [HM.out]; exact hkm
      obtain ⟨b3, o3, rfl, _, p1, p2⟩ := (HI.out.pure HP.out).get hkl
      have HX := Lib.hid (List.getElem?_eq_getElem hkl)
      generalize l[k] = x at *
      clear hkl
      by_cases h0 : x < 0
      · have HN := Lib.hid (goodO_bad (t := t) (key := key) HX.out (.inl (by omega)))
        go_wp2
        go_ret
        exact HB.out _ _ HN.out HP.out
      by_cases h1 : (n : Int) ≤ x
      · have HN := Lib.hid (goodO_bad (t := t) (key := key) HX.out (.inr (.inl (by rw [HL.out]; omega))))
        go_wp2
        go_ret
        exact HB.out _ _ HN.out HP.out
      obtain ⟨i, rfl⟩ : ∃ i : Nat, x = i := ⟨x.toNat, by omega⟩
      have hin : i < n := by omega
      have hwr := iwrites_any w.heap.size (w.heap.size + 1) key A n c i t D wr s0 s1 (HS.out.pure HP.out) HL.out hin hn
      have HIT : Hid (Ints wr D (.slice (some ⟨b3, o3, none⟩) k c3) (l.take k)) := Lib.hid (by
        have := Rd.take (k := k) (c' := c3) (show Rd wr D 1 (.slice (some ⟨b3, o3, none⟩) m c3) m (l.map (Value.int .i64)) from by have h := HI.out.pure HP.out; unfold Ints at h; rw [HM.out] at h; exact h) (by omega) (by omega) (Nat.le_refl _)
        unfold Ints
        rw [List.map_take, List.length_take, HM.out, Nat.min_eq_left (by omega)]
        simpa using this)
      have HTL : Hid ((l.take k).length = k) := Lib.hid (by rw [List.length_take, HM.out]; omega)
      cases hwf : writesF t key i
      · rw [hwf] at hwr
        have HN := Lib.hid (goodO_bad (t := t) (key := key) HX.out (.inr (.inr (.inl hwf))))
        have HWR := Lib.hid hwr
        clear hwr hwf
        go_wp2_with (refine HWR.out.mono ?_; rintro e w1 ⟨rfl, hp1⟩; have HP1 := Lib.hid hp1; clear hp1)
        go_ret
        exact HB.out _ _ HN.out (HP.out.trans HP1.out)
      · rw [hwf] at hwr
        have HWF := Lib.hid hwf
        have HWR := Lib.hid hwr
        clear hwr hwf
        by_cases hmem : (i : Int) ∈ l.take k
        · have HN := Lib.hid (goodO_bad (t := t) (key := key) HX.out (.inr (.inr (.inr hmem))))
          have HMEM : Hid (∀ W, Pure wr W → Calls Tryd.prog 55 #[.slice (some ⟨b3, o3, none⟩) k c3, .int .i64 i] W fun e w' => e = .returned (.bool true) ∧ w' = W) := Lib.hid (fun W hW => by
            have := contains_any (some ⟨b3, o3, none⟩) c3 (i : Int) (l.take k) D W (by rw [HTL.out]; exact HIT.out.pure hW) (by rw [HTL.out]; omega)
            rw [HTL.out] at this
            simpa [hmem] using this)
          clear hmem
          go_wp2_with (first | (refine HWR.out.mono ?_; rintro e w1 ⟨rfl, hp1⟩; have HP1 := Lib.hid hp1; clear hp1) | (refine (HMEM.out _ HP1.out).mono ?_; rintro e w2 ⟨rfl, rfl⟩))
          go_ret
          exact HB.out _ _ HN.out (HP.out.trans HP1.out)
        · have HNX := Lib.hid (goodO_next HGO.out HX.out (by omega) (by rw [HL.out]; omega) HWF.out hmem)
          have HMEM : Hid (∀ W, Pure wr W → Calls Tryd.prog 55 #[.slice (some ⟨b3, o3, none⟩) k c3, .int .i64 i] W fun e w' => e = .returned (.bool false) ∧ w' = W) := Lib.hid (fun W hW => by
            have := contains_any (some ⟨b3, o3, none⟩) c3 (i : Int) (l.take k) D W (by rw [HTL.out]; exact HIT.out.pure hW) (by rw [HTL.out]; omega)
            rw [HTL.out] at this
            simpa [hmem] using this)
          clear hmem
          go_wp2_with (first | (refine HWR.out.mono ?_; rintro e w1 ⟨rfl, hp1⟩; have HP1 := Lib.hid hp1; clear hp1) | (refine (HMEM.out _ HP1.out).mono ?_; rintro e w2 ⟨rfl, rfl⟩))
          have z0 := pure_cell HP1.out s0
          have z1 := pure_cell HP1.out s1
          go_roundw
          case rel => first | exact ⟨k + 1, by omega, by go_num, HNX.out, HP.out.trans HP1.out, z0, z1⟩ | ((repeat apply Exists.intro); exact ⟨⟨k + 1, by omega, by go_num, HNX.out, HP.out.trans HP1.out, z0, z1⟩, rfl⟩)
          case measure => simp [intOf]; omega
    · obtain rfl : k = m := by omega
      have HGO2 : Hid (GoodO t key l) := Lib.hid (by have := HGO.out; rw [List.take_of_length_le (by rw [HM.out]; omega)] at this; exact this)
      clear HGO
      go_wp2
      obtain ⟨wo, rfl⟩ : ∃ wo : World, wo = wr := ⟨_, rfl⟩
      go_loopw [9, 10, 52] (fun cnt _ i wr => ∃ j : Nat, j ≤ n ∧ i = .int .i64 j ∧ cnt = .int .i64 (cntW t key j) ∧ Pure w wr ∧ wr.cell? ⟨w.heap.size, 0, none⟩ = some (.slice A n c) ∧ wr.cell? ⟨w.heap.size + 1, 0, none⟩ = some (.int .i64 key)) (fun _ _ i _ => n - (intOf i).toNat)
      case atStart => exact ⟨0, by omega, rfl, rfl, HP.out, s0, s1⟩
      case round =>
        clear s0 s1 HP
        obtain ⟨j, hj, rfl, rfl, hp, s0, s1⟩ := hrel
        have HP := Lib.hid hp
        clear hp
        have hcl := cntW_le t key j
        by_cases hjn : j < n
        · have hjn' : (j : Int) < (n : Int) := by omega
          have hwr := iwrites_any w.heap.size (w.heap.size + 1) key A n c j t D wr s0 s1 (HS.out.pure HP.out) HL.out hjn hn
          have hsc := cntW_succ t key j
          cases hwf : writesF t key j
          · rw [hwf] at hwr hsc
            have HWR := Lib.hid hwr
            have HSC : Hid (cntW t key (j + 1) = cntW t key j) := Lib.hid (by simpa using hsc)
            clear hwr hwf hsc
            generalize cntW t key j = cj at *
            go_wp2_with (refine HWR.out.mono ?_; rintro e w1 ⟨rfl, hp1⟩; have HP1 := Lib.hid hp1; clear hp1)
            have z0 := pure_cell HP1.out s0
            have z1 := pure_cell HP1.out s1
            go_roundw
            case rel => first | exact ⟨j + 1, by omega, by go_num, by rw [HSC.out], HP.out.trans HP1.out, z0, z1⟩ | ((repeat apply Exists.intro); exact ⟨⟨j + 1, by omega, by go_num, by rw [HSC.out], HP.out.trans HP1.out, z0, z1⟩, rfl⟩)
            case measure => simp [intOf]; omega
          · rw [hwf] at hwr hsc
            have HWR := Lib.hid hwr
            have HSC : Hid (cntW t key (j + 1) = cntW t key j + 1) := Lib.hid (by simpa using hsc)
            clear hwr hwf hsc
            generalize cntW t key j = cj at *
            go_wp2_with (refine HWR.out.mono ?_; rintro e w1 ⟨rfl, hp1⟩; have HP1 := Lib.hid hp1; clear hp1)
            have z0 := pure_cell HP1.out s0
            have z1 := pure_cell HP1.out s1
            go_roundw
            case rel => first | exact ⟨j + 1, by omega, by go_num, by rw [HSC.out]; go_num, HP.out.trans HP1.out, z0, z1⟩ | ((repeat apply Exists.intro); exact ⟨⟨j + 1, by omega, by go_num, by rw [HSC.out]; go_num, HP.out.trans HP1.out, z0, z1⟩, rfl⟩)
            case measure => simp [intOf]; omega
        · obtain rfl : j = n := by omega
          have HQ : Hid (OrdOk t key l ↔ k = cntW t key j) := Lib.hid (by unfold OrdOk; rw [HM.out, HL.out]; exact ⟨fun h => h.2, fun h => ⟨HGO2.out, h⟩⟩)
          by_cases he : k = cntW t key j
          · have HY := Lib.hid (HQ.out.2 he)
            have he' : (k : Int) = (cntW t key j : Nat) := by omega
            clear he
            go_wp2
            go_ret
            exact HG.out _ HY.out HP.out
          · have HN := Lib.hid (fun h => he (HQ.out.1 h))
            have he' : ¬ (k : Int) = (cntW t key j : Nat) := by omega
            clear he
            go_wp2
            go_ret
            exact HB.out _ _ HN.out HP.out
end Go.Proofs.YtlnjmkldpicpdaaDoor
