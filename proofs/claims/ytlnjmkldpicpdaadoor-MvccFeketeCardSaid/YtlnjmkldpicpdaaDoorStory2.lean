/- slices.Index, slices.Contains; isolate: checkOp, checkOrder, Check. -/
import Derived.Test.YtlnjmkldpicpdaaDoorStory
import Derived.Test.YtlnjmkldpicpdaaDoorReg2
namespace Go.Proofs.YtlnjmkldpicpdaaDoor
open Go.RowKit
set_option linter.unusedVariables false
set_option linter.unusedSimpArgs false

def idxI (l : List Int) (x : Int) : Int := match l.findIdx? (fun y => decide (y = x)) with
  | some i => (i : Int)
  | none => -1
theorem idxI_some {l : List Int} {x : Int} {k : Nat} (hk : l[k]? = some x) (hno : ∀ j y, j < k → l[j]? = some y → y ≠ x) : idxI l x = k := by
  obtain ⟨hl, hx⟩ := List.getElem?_eq_some_iff.1 hk
  have : l.findIdx? (fun y => decide (y = x)) = some k := by
    rw [List.findIdx?_eq_some_iff_getElem]
    exact ⟨hl, by simp [hx], fun j hj => by simpa using hno j _ hj (List.getElem?_eq_getElem (by omega))⟩
  unfold idxI
  rw [this]
theorem idxI_none {l : List Int} {x : Int} (hno : ∀ (j : Nat) y, l[j]? = some y → y ≠ x) : idxI l x = -1 := by
  have : l.findIdx? (fun y => decide (y = x)) = none := by
    rw [List.findIdx?_eq_none_iff]
    intro y hy
    obtain ⟨j, hj⟩ := List.getElem?_of_mem hy
    simpa using hno j y hj
  unfold idxI
  rw [this]
theorem idxI_nonneg (l : List Int) (x : Int) : 0 ≤ idxI l x ↔ x ∈ l := by
  by_cases h : x ∈ l
  · simp only [h, iff_true]
    cases hf : l.findIdx? (fun y => decide (y = x)) with
    | none => rw [List.findIdx?_eq_none_iff] at hf; have := hf x h; simp at this
    | some i => unfold idxI; rw [hf]; simp
  · simp only [h, iff_false]
    rw [idxI_none (x := x) (fun j y hy e => h (by rw [← e]; exact List.mem_of_getElem? hy))]
    omega

set_option maxHeartbeats 400000 in
theorem index_any (A : Option Addr) (c : Nat) (x : Int) (l : List Int) (D : Nat → Prop) (w : World) (h : Ints w D (.slice A l.length c) l) (hl : l.length ≤ 9223372036854775807) :
    Calls Tryd.prog 43 #[.slice A l.length c, .int .i64 x] w fun e w' => e = .returned (.int .i64 (idxI l x)) ∧ w' = w := by
  have HS := Lib.hid h
  clear h
  generalize hn : l.length = n at *
  have HN := Lib.hid hn
  clear hn
  go_enter Tryd.func43, Tryd.ntmps43
  go_wp2
  go_loop [5, 8] (fun _ i => ∃ k : Nat, k ≤ n ∧ i = .int .i64 k ∧ ∀ j y, j < k → l[j]? = some y → y ≠ x) (fun _ i => n - (intOf i).toNat)
  case atStart => exact ⟨0, by omega, rfl, fun j y hj => by omega⟩
  case round =>
    obtain ⟨k, hk, rfl, hno⟩ := hrel
    have HNO := Lib.hid hno
    clear hno
    by_cases hkn : k < n
    · have hkn' : (k : Int) < (n : Int) := by omega
      have hkl : k < l.length := by rw [HN.out]; exact hkn
      obtain ⟨b, o, rfl, _, q1, q2⟩ := HS.out.get hkl
      have HY := Lib.hid (List.getElem?_eq_getElem hkl)
      generalize l[k] = y at *
      clear hkl
      by_cases hxy : x = y
      · subst hxy
        have HI := Lib.hid (idxI_some HY.out HNO.out)
        go_wp2
        go_ret
        exact ⟨ret_int (by rw [HI.out]), rfl⟩
      · have HM : Hid (∀ j z, j < k + 1 → l[j]? = some z → z ≠ x) := Lib.hid (fun j z hj hz e => by
          rcases Nat.lt_or_ge j k with h | h
          · exact HNO.out j z h hz e
          · obtain rfl : j = k := by omega
            rw [HY.out] at hz
            injection hz with hz
            exact hxy (by rw [hz, e]))
        go_wp2
        go_round
        case rel => first | exact ⟨k + 1, by omega, by go_num, HM.out⟩ | ((repeat apply Exists.intro); exact ⟨⟨k + 1, by omega, by go_num, HM.out⟩, rfl⟩)
        case measure => simp [intOf]; omega
    · obtain rfl : k = n := by omega
      have HI : Hid (idxI l x = -1) := Lib.hid (idxI_none (fun j y hj => HNO.out j y (by rw [← HN.out]; exact (List.getElem?_eq_some_iff.1 hj).1) hj))
      go_wp2
      go_ret
      exact ⟨ret_int (by rw [HI.out]), rfl⟩

theorem contains_any (A : Option Addr) (c : Nat) (x : Int) (l : List Int) (D : Nat → Prop) (w : World) (h : Ints w D (.slice A l.length c) l) (hl : l.length ≤ 9223372036854775807) :
    Calls Tryd.prog 55 #[.slice A l.length c, .int .i64 x] w fun e w' => e = .returned (.bool (decide (x ∈ l))) ∧ w' = w := by
  have HS := Lib.hid h
  clear h
  go_enter Tryd.func55, Tryd.ntmps55
  go_wp2_with fail
  refine (index_any _ _ _ _ _ _ HS.out hl).mono ?_
  rintro e w1 ⟨rfl, rfl⟩
  have HI := Lib.hid (idxI_nonneg l x)
  generalize idxI l x = i at *
  go_wp2
  go_ret
  exact ⟨ret_bool (by simpa using HI.out), rfl⟩

def ErrOr (p : Prop) (v : Value) : Prop := (p ∧ v = .nilIface) ∨ (¬ p ∧ IsErr v)
def opsAt (l : List ITx) (i : Int) : List IOp := ((l[i.toNat]?).map (·.ops)).getD []
def comAt (l : List ITx) (i : Int) : Bool := ((l[i.toNat]?).map (·.com)).getD false
def writesF (l : List ITx) (key i : Int) : Bool := comAt l i && decide (0 < versF (opsAt l i) key)

set_option maxHeartbeats 1000000 in
set_option maxRecDepth 100000 in
/-- writes: sb is the block of the story's box, kb that of the key's. -/
theorem iwrites_any (sb kb : Nat) (key : Int) (A : Option Addr) (n c i : Nat) (l : List ITx) (D : Nat → Prop) (w : World) (hs : w.cell? ⟨sb, 0, none⟩ = some (.slice A n c)) (hk : w.cell? ⟨kb, 0, none⟩ = some (.int .i64 key)) (h : Txs w D (.slice A n c) l) (hl : l.length = n) (hi : i < n) (hn : n ≤ 1000) :
    Calls Tryd.prog 54 #[.int .i64 i, .pointer (some ⟨sb, 0, none⟩), .pointer (some ⟨kb, 0, none⟩)] w fun e w' => e = .returned (.bool (writesF l key i)) ∧ Pure w w' := by
  obtain ⟨t, ht⟩ : ∃ t, l[i]? = some t := ⟨_, List.getElem?_eq_getElem (by omega)⟩
  obtain ⟨b, f, A', c', rfl, _, q1, q2, q3, q4, q5⟩ := h.get ht
  have HW : Hid (writesF l key i = (t.com && decide (0 < versF t.ops key))) := Lib.hid (by simp [writesF, comAt, opsAt, ht])
  generalize writesF l key i = r at *
  have HO := Lib.hid q5
  clear h q5 ht hl
  have hi1 : (i : Int) < n := by omega
  obtain ⟨ops, com⟩ := t
  dsimp only at q1 q2 q3 q4 HO HW
  go_enter Tryd.func54, Tryd.ntmps54
  cases com
  · go_wp2_with fail
    go_quiet (fail)
    go_wp2
    go_ret
    exact ⟨ret_bool (by rw [HW.out]; rfl), (Pure.refl w).drewN _⟩
  · go_wp2_with fail
    refine wp_region_g (S := fun W => Pure w W) (by kernel_rfl) ?_
    refine wpAnyG_take [0,1,2,3,4,5,6,7,8,9,10,11,12] _ _ 16 (by kernel_rfl) (by kernel_rfl) (by kernel_rfl) (fun _ _ _ _ _ h => h) (aF := ?_) (w := w.drew) ((Pure.refl w).drew) 4 (by kernel_rfl) (by kernel_rfl) (by simp only [subOps, List.filterMap_cons, List.filterMap_nil, List.getElem?_toArray, List.getElem?_cons_zero, List.getElem?_cons_succ]; rfl) (by simp only [List.map_cons, List.map_nil]; rfl) ?_ ?_
    rotate_left
    · intro W hW
      have s1 := pure_cell hW hs
      have s2 := pure_cell hW hk
      have s3 := pure_cell hW q1
      have s4 := pure_cell hW q2
      repeat (refine wpStillD_step (fun K hK => ?_); go_simp; refine hK _ ?_; clear hK K)
      refine wpStillD_nil ?_
      rfl
    refine wpAnyG_one (k := 13) rfl (by kernel_rfl) ?_
    go_wp2_with (refine (iversions_any A' c' true key ops D _ (HO.out.pure ((Pure.refl w).drew)) q3 q4).mono ?_; rintro e w1 ⟨rfl, hp⟩)
    have HP := Lib.hid hp
    clear hp
    refine ⟨.inl (HP.out.undrew), ?_⟩
    refine wpAnyG_take [14,15] _ _ 16 (by kernel_rfl) (by kernel_rfl) (by kernel_rfl) (fun _ _ _ _ _ h => h) (aF := ?_) (w := w1) HP.out.undrew 1 (by kernel_rfl) (by kernel_rfl) (by simp only [subOps, List.filterMap_cons, List.filterMap_nil, List.getElem?_toArray, List.getElem?_cons_zero, List.getElem?_cons_succ]; rfl) (by simp only [List.map_cons, List.map_nil]; rfl) ?_ ?_
    rotate_left
    · intro W hW
      repeat (refine wpStillD_step (fun K hK => ?_); go_simp; refine hK _ ?_; clear hK K)
      refine wpStillD_nil ?_
      rfl
    refine wpAnyG_last (k := 16) rfl (by kernel_rfl) (by kernel_rfl) ?_
    go_wp2
    go_ret
    exact ⟨ret_bool (by rw [HW.out]; simp), HP.out.undrew⟩

def OpOk (l : List ITx) (o : IOp) : Prop :=
  (0 ≤ o.key ∧ o.key < 8 ∧ -1 ≤ o.src ∧ o.src < l.length ∧ 0 ≤ o.num) ∧ ¬ (o.write = true ∧ (o.src ≠ 0 ∨ o.num ≠ 0)) ∧ ¬ (o.src = -1 ∧ o.num ≠ 0) ∧ (o.write = false → o.src ≠ -1 → o.num < versF (opsAt l o.src) o.key)

set_option maxHeartbeats 2000000 in
set_option maxRecDepth 100000 in
theorem icheckop_any (A : Option Addr) (n c : Nat) (A2 : Option Addr) (n2 c2 : Nat) (l : List ITx) (o : IOp) (D : Nat → Prop) (w : World) (h : Txs w D (.slice A n c) l) (hl : l.length = n) (hn : n ≤ 1000) :
    Calls Tryd.prog 41 #[.agg #[.slice A n c, .slice A2 n2 c2], opAgg o] w fun e w' => ∃ v, e = .returned v ∧ ErrOr (OpOk l o) v ∧ Pure w w' := by
  obtain ⟨ow, ok, os, on⟩ := o
  unfold opAgg
  dsimp only
  have HS := Lib.hid h
  have HE : Hid (OpOk l ⟨ow, ok, os, on⟩ ↔ ((0 ≤ ok ∧ ok < 8 ∧ -1 ≤ os ∧ os < n ∧ 0 ≤ on) ∧ ¬ (ow = true ∧ (os ≠ 0 ∨ on ≠ 0)) ∧ ¬ (os = -1 ∧ on ≠ 0) ∧ (ow = false → os ≠ -1 → on < versF (opsAt l os) ok))) := Lib.hid (by unfold OpOk; rw [hl])
  have HL := Lib.hid hl
  generalize OpOk l ⟨ow, ok, os, on⟩ = P at *
  clear h hl
  have HB : Hid (∀ k W, ¬ P → Pure w W → ∃ v, Ending.returned (.iface 59 (.int .i64 k)) = .returned v ∧ ErrOr P v ∧ Pure w W) := Lib.hid (fun k W hP hW => ⟨_, rfl, .inr ⟨hP, k, rfl⟩, hW⟩)
  have HG : Hid (∀ W, P → Pure w W → ∃ v, Ending.returned .nilIface = .returned v ∧ ErrOr P v ∧ Pure w W) := Lib.hid (fun W hP hW => ⟨_, rfl, .inl ⟨hP, rfl⟩, hW⟩)
  have HP0 := Lib.hid (((Pure.refl w).alloc (.cells #[.slice A n c, .slice A2 n2 c2] 29)).alloc (.cells #[.bool ow, .int .i64 ok, .int .i64 os, .int .i64 on] 70))
  have HC : Hid (ok < 0 ∨ 8 ≤ ok ∨ os < -1 ∨ n ≤ os ∨ on < 0 → ¬ P) := Lib.hid (fun h hP => by have := (HE.out.1 hP).1; omega)
  go_enter Tryd.func41, Tryd.ntmps41
  by_cases h1 : ok < 0
  · have HN := Lib.hid (HC.out (.inl h1))
    go_wp2
    go_ret
    exact HB.out _ _ HN.out HP0.out
  by_cases h2 : 8 ≤ ok
  · have HN := Lib.hid (HC.out (.inr (.inl h2)))
    go_wp2
    go_ret
    exact HB.out _ _ HN.out HP0.out
  by_cases h3 : os < -1
  · have HN := Lib.hid (HC.out (.inr (.inr (.inl h3))))
    go_wp2
    go_ret
    exact HB.out _ _ HN.out HP0.out
  by_cases h4 : n ≤ os
  · have HN := Lib.hid (HC.out (.inr (.inr (.inr (.inl h4)))))
    go_wp2
    go_ret
    exact HB.out _ _ HN.out HP0.out
  by_cases h5 : on < 0
  · have HN := Lib.hid (HC.out (.inr (.inr (.inr (.inr h5)))))
    go_wp2
    go_ret
    exact HB.out _ _ HN.out HP0.out
  have HR : Hid (0 ≤ ok ∧ ok < 8 ∧ -1 ≤ os ∧ os < n ∧ 0 ≤ on) := Lib.hid (by omega)
  cases ow
  · by_cases h6 : os = -1
    · subst h6
      by_cases h7 : on = 0
      · subst h7
        have HY : Hid P := Lib.hid (HE.out.2 ⟨HR.out, by simp, by simp, by simp⟩)
        go_wp2_with fail
        go_quiet (fail)
        go_wp2
        go_ret
        exact HG.out _ HY.out (HP0.out.drewN _)
      · have HN : Hid (¬ P) := Lib.hid (fun hP => (HE.out.1 hP).2.2.1 ⟨rfl, h7⟩)
        go_wp2
        go_ret
        exact HB.out _ _ HN.out HP0.out
    · obtain ⟨k, rfl⟩ : ∃ k : Nat, os = k := ⟨os.toNat, by omega⟩
      have hkn : k < n := by omega
      obtain ⟨t, ht⟩ : ∃ t, l[k]? = some t := ⟨_, List.getElem?_eq_getElem (by rw [HL.out]; exact hkn)⟩
      obtain ⟨b, f, A', c', rfl, q0, q1, q2, q3, q4, q5⟩ := HS.out.get ht
      have HV : Hid (versF (opsAt l (k : Int)) ok = versF t.ops ok) := Lib.hid (by simp [opsAt, ht])
      have HO := Lib.hid q5
      clear q5 ht
      obtain ⟨ops, com⟩ := t
      dsimp only at q1 q2 q3 q4 HO HV
      have hkn' : (k : Int) < n := by omega
      have HPD := Lib.hid HP0.out.drew
      go_wp2_with fail
      refine wp_region_h (S := fun W => Pure ((w.alloc (.cells #[.slice (some ⟨b, f, none⟩) n c, .slice A2 n2 c2] 29)).alloc (.cells #[.bool false, .int .i64 ok, .int .i64 (k : Int), .int .i64 on] 70)) W) (by kernel_rfl) ?_
      have r1 := pure_cell HP0.out q1
      have r2 := pure_cell HP0.out q2
      have e0 : ((w.alloc (.cells #[.slice (some ⟨b, f, none⟩) n c, .slice A2 n2 c2] 29)).alloc (.cells #[.bool false, .int .i64 ok, .int .i64 (k : Int), .int .i64 on] 70)).cell? ⟨w.heap.size, 0, none⟩ = some (.slice (some ⟨b, f, none⟩) n c) := by
        simp [go_sem]
      have e1 : ((w.alloc (.cells #[.slice (some ⟨b, f, none⟩) n c, .slice A2 n2 c2] 29)).alloc (.cells #[.bool false, .int .i64 ok, .int .i64 (k : Int), .int .i64 on] 70)).cell? ⟨w.heap.size + 1, 0, none⟩ = some (.bool false) := by
        simp [go_sem]
      have e2 : ((w.alloc (.cells #[.slice (some ⟨b, f, none⟩) n c, .slice A2 n2 c2] 29)).alloc (.cells #[.bool false, .int .i64 ok, .int .i64 (k : Int), .int .i64 on] 70)).cell? ⟨w.heap.size + 1, 1, none⟩ = some (.int .i64 ok) := by
        simp [go_sem]
      have e3 : ((w.alloc (.cells #[.slice (some ⟨b, f, none⟩) n c, .slice A2 n2 c2] 29)).alloc (.cells #[.bool false, .int .i64 ok, .int .i64 (k : Int), .int .i64 on] 70)).cell? ⟨w.heap.size + 1, 2, none⟩ = some (.int .i64 (k : Int)) := by
        simp [go_sem]
      have e4 : ((w.alloc (.cells #[.slice (some ⟨b, f, none⟩) n c, .slice A2 n2 c2] 29)).alloc (.cells #[.bool false, .int .i64 ok, .int .i64 (k : Int), .int .i64 on] 70)).cell? ⟨w.heap.size + 1, 3, none⟩ = some (.int .i64 on) := by
        simp [go_sem]
      refine wpAnyH_take [0,1,2,3,4,5,6,7,8,9,10,11,12,13,14,15,16,18,19] _ _ (by kernel_rfl) (fun _ _ _ _ _ h => h) (aF := ?_) (w := ((w.alloc (.cells #[.slice (some ⟨b, f, none⟩) n c, .slice A2 n2 c2] 29)).alloc (.cells #[.bool false, .int .i64 ok, .int .i64 (k : Int), .int .i64 on] 70)).drew) ((Pure.refl _).drew) 4 (by kernel_rfl) (by kernel_rfl) (by simp only [subOps, List.filterMap_cons, List.filterMap_nil, List.getElem?_toArray, List.getElem?_cons_zero, List.getElem?_cons_succ]; rfl) (by simp only [List.map_cons, List.map_nil]; rfl) ?_ ?_
      rotate_left
      · intro W hW
        have s1 := pure_cell hW e0
        have s2 := pure_cell hW e1
        have s3 := pure_cell hW e2
        have s4 := pure_cell hW e3
        have s5 := pure_cell hW e4
        have s6 := pure_cell hW r1
        have s7 := pure_cell hW r2
        repeat (refine wpStillD_step (fun K hK => ?_); go_simp; refine hK _ ?_; clear hK K)
        refine wpStillD_nil ?_
        rfl
      refine wpAnyH_one (k := 17) rfl (by kernel_rfl) ?_
      go_wp2_with (refine (iversions_any A' c' com ok ops D _ (HO.out.pure HPD.out) q3 q4).mono ?_; rintro e w1 ⟨rfl, hp⟩)
      have HP := Lib.hid hp
      clear hp
      refine ⟨HP.out.undrew, ?_⟩
      have HPF := Lib.hid (HPD.out.trans HP.out)
      by_cases hv : (versF ops ok : Int) ≤ on
      · have HN : Hid (¬ P) := Lib.hid (fun hP => by have := (HE.out.1 hP).2.2.2 (by simp) h6; rw [HV.out] at this; omega)
        generalize versF ops ok = vv at *
        refine wpAnyH_take [20,21,22] _ _ (by kernel_rfl) (fun _ _ _ _ _ h => h) (aF := ?_) (w := w1) HP.out.undrew 0 (by kernel_rfl) (by kernel_rfl) (by simp only [subOps, List.filterMap_cons, List.filterMap_nil, List.getElem?_toArray, List.getElem?_cons_zero, List.getElem?_cons_succ]; rfl) (by simp only [List.map_cons, List.map_nil]; rfl) ?_ ?_
        rotate_left
        · intro W hW
          repeat (refine wpStillD_step (fun K hK => ?_); go_simp; refine hK _ ?_; clear hK K)
          refine wpStillD_nil ?_
          rfl
        refine wpAnyH_end (by kernel_rfl) ?_
        go_wp2
        go_ret
        exact HB.out _ _ HN.out HPF.out
      · have HY : Hid P := Lib.hid (HE.out.2 ⟨HR.out, by simp, by omega, fun _ _ => by rw [HV.out]; omega⟩)
        generalize versF ops ok = vv at *
        refine wpAnyH_take [20,21,22] _ _ (by kernel_rfl) (fun _ _ _ _ _ h => h) (aF := ?_) (w := w1) HP.out.undrew 0 (by kernel_rfl) (by kernel_rfl) (by simp only [subOps, List.filterMap_cons, List.filterMap_nil, List.getElem?_toArray, List.getElem?_cons_zero, List.getElem?_cons_succ]; rfl) (by simp only [List.map_cons, List.map_nil]; rfl) ?_ ?_
        rotate_left
        · intro W hW
          repeat (refine wpStillD_step (fun K hK => ?_); go_simp; refine hK _ ?_; clear hK K)
          refine wpStillD_nil ?_
          rfl
        refine wpAnyH_end (by kernel_rfl) ?_
        go_wp2
        go_ret
        exact HG.out _ HY.out HPF.out
  · by_cases h6 : os = 0
    · subst h6
      by_cases h7 : on = 0
      · subst h7
        have HY : Hid P := Lib.hid (HE.out.2 ⟨HR.out, by simp, by simp, by simp⟩)
        go_wp2_with fail
        go_quiet (fail)
        go_wp2
        go_ret
        exact HG.out _ HY.out (HP0.out.drewN _)
      · have HN : Hid (¬ P) := Lib.hid (fun hP => (HE.out.1 hP).2.1 ⟨rfl, .inr h7⟩)
        go_wp2
        go_ret
        exact HB.out _ _ HN.out HP0.out
    · have HN : Hid (¬ P) := Lib.hid (fun hP => (HE.out.1 hP).2.1 ⟨rfl, .inl h6⟩)
      go_wp2
      go_ret
      exact HB.out _ _ HN.out HP0.out
end Go.Proofs.YtlnjmkldpicpdaaDoor
