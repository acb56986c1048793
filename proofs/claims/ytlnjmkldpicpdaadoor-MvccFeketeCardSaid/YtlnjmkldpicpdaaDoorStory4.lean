/- isolate: Check. -/
import Derived.Test.YtlnjmkldpicpdaaDoorStory3
namespace Go.Proofs.YtlnjmkldpicpdaaDoor
open Go.RowKit
set_option linter.unusedVariables false
set_option linter.unusedSimpArgs false

def TxOk (t : List ITx) (x : ITx) : Prop := x.ops.length ≤ 60 ∧ ∀ o ∈ x.ops, OpOk t o
def StoryOk (t : List ITx) (g : List (List Int)) : Prop :=
  t.length ≤ 8 ∧ g.length = 8 ∧ (∀ x ∈ t, TxOk t x) ∧ ∀ (k : Nat) l, g[k]? = some l → OrdOk t k l
theorem take_all {α : Type} {P : α → Prop} {l : List α} {k : Nat} {x : α} (h : ∀ y ∈ l.take k, P y) (hx : l[k]? = some x) (hp : P x) : ∀ y ∈ l.take (k + 1), P y := by
  have hl := List.getElem?_eq_some_iff.1 hx
  rw [List.take_succ_eq_append_getElem hl.1, hl.2]
  intro y hy
  rcases List.mem_append.1 hy with hy | hy
  · exact h y hy
  · rw [List.mem_singleton] at hy; subst hy; exact hp

set_option maxHeartbeats 2000000 in
set_option maxRecDepth 100000 in
theorem icheck_any (A : Option Addr) (n c : Nat) (A2 : Option Addr) (n2 c2 : Nat) (t : List ITx) (g : List (List Int)) (D : Nat → Prop) (w : World) (h : Txs w D (.slice A n c) t) (hl : t.length = n) (h2 : IGrid w D (.slice A2 n2 c2) g) (hn2 : g.length = n2) :
    Calls Tryd.prog 26 #[.agg #[.slice A n c, .slice A2 n2 c2]] w fun e w' => ∃ v, e = .returned v ∧ ErrOr (StoryOk t g) v ∧ Pure w w' := by
  have HS := Lib.hid h
  have HO := Lib.hid h2
  have HL := Lib.hid hl
  have HL2 := Lib.hid hn2
  clear h hl h2 hn2
  have HE : Hid (StoryOk t g ↔ (n ≤ 8 ∧ n2 = 8 ∧ (∀ x ∈ t, TxOk t x) ∧ ∀ (k : Nat) l, g[k]? = some l → OrdOk t k l)) := Lib.hid (by unfold StoryOk; rw [HL.out, HL2.out])
  have HB : Hid (∀ v W, IsErr v → ¬ StoryOk t g → Pure w W → ∃ v', Ending.returned v = .returned v' ∧ ErrOr (StoryOk t g) v' ∧ Pure w W) := Lib.hid (fun k W he hP hW => ⟨_, rfl, .inr ⟨hP, he⟩, hW⟩)
  have HG : Hid (∀ W, StoryOk t g → Pure w W → ∃ v, Ending.returned .nilIface = .returned v ∧ ErrOr (StoryOk t g) v ∧ Pure w W) := Lib.hid (fun W hP hW => ⟨_, rfl, .inl ⟨hP, rfl⟩, hW⟩)
  have HP0 := Lib.hid ((Pure.refl w).alloc (.cells #[.slice A n c, .slice A2 n2 c2] 29))
  go_enter Tryd.func26, Tryd.ntmps26
  by_cases h8 : (8 : Int) < n
  · have HN : Hid (¬ StoryOk t g) := Lib.hid (fun h => by have := (HE.out.1 h).1; omega)
    go_wp2
    go_ret
    exact HB.out _ _ ⟨_, rfl⟩ HN.out HP0.out
  by_cases h9 : ¬ (n2 : Int) = 8
  · have HN : Hid (¬ StoryOk t g) := Lib.hid (fun h => by have := (HE.out.1 h).2.1; omega)
    go_wp2
    go_ret
    exact HB.out _ _ ⟨_, rfl⟩ HN.out HP0.out
  have h9' : n2 = 8 := by omega
  subst h9'
  clear h9
  have hn8 : n ≤ 8 := by omega
  go_wp2
  go_loopw [25] (fun i wr => ∃ k : Nat, k ≤ n ∧ i = .int .i64 k ∧ (∀ x ∈ t.take k, TxOk t x) ∧ Pure w wr ∧ wr.cell? ⟨w.heap.size, 0, none⟩ = some (.slice A n c) ∧ wr.cell? ⟨w.heap.size, 1, none⟩ = some (.slice A2 (8 : Nat) c2)) (fun i _ => n - (intOf i).toNat)
  case atStart => exact ⟨0, by omega, rfl, by simp, HP0.out, by simp [go_sem], by simp [go_sem]⟩
  case round =>
    obtain ⟨k, hk, rfl, hgo, hp, s0, s1⟩ := hrel
    have HGO := Lib.hid hgo
    have HP := Lib.hid hp
    clear hgo hp
    by_cases hkn : k < n
    · have hkn' : (k : Int) < (n : Int) := by omega
      obtain ⟨x, hx⟩ : ∃ x, t[k]? = some x := ⟨_, List.getElem?_eq_getElem (by rw [HL.out]; exact hkn)⟩
      obtain ⟨b, f, A3, c3, rfl, p0, p1, p2, p3, p4, p5⟩ := (HS.out.pure HP.out).get hx
      have HX := Lib.hid hx
      have HOP := Lib.hid p5
      clear hx p5
      obtain ⟨ops, com⟩ := x
      dsimp only at p1 p2 p3 p4 HOP
      generalize hm : ops.length = m at *
      have HM := Lib.hid hm
      clear hm
      by_cases h60 : (60 : Int) < m
      · have HN : Hid (¬ StoryOk t g) := Lib.hid (fun h => by have := ((HE.out.1 h).2.2.1 _ (List.mem_of_getElem? HX.out)).1; simp only [HM.out] at this; omega)
        go_wp2
        go_ret
        exact HB.out _ _ ⟨_, rfl⟩ HN.out (HP.out.alloc _)
      · have hm60 : m ≤ 60 := by omega
        go_wp2
        obtain ⟨wo, rfl⟩ : ∃ wo : World, wo = wr := ⟨_, rfl⟩
        have HPA := Lib.hid (HP.out.alloc (.cells #[.slice A3 m c3, .bool com] 72))
        have HQA := Lib.hid ((Pure.refl wo).alloc (.cells #[.slice A3 m c3, .bool com] 72))
        have t0 := pure_cell HQA.out s0
        have t1 := pure_cell HQA.out s1
        go_loopw [7, 37] (fun _ i wr => ∃ j : Nat, j ≤ m ∧ i = .int .i64 j ∧ (∀ x ∈ ops.take j, OpOk t x) ∧ Pure w wr ∧ wr.cell? ⟨w.heap.size, 0, none⟩ = some (.slice (some ⟨b, f, none⟩) n c) ∧ wr.cell? ⟨w.heap.size, 1, none⟩ = some (.slice A2 (8 : Nat) c2) ∧ Ops wr D (.slice A3 m c3) ops) (fun _ i _ => m - (intOf i).toNat)
        case atStart => exact ⟨0, by omega, rfl, by simp, HPA.out, t0, t1, HOP.out.pure HQA.out⟩
        case round =>
          clear t0 t1
          obtain ⟨j, hj, rfl, hgo, hp, t0, t1, hop⟩ := hrel
          have HGJ := Lib.hid hgo
          have HPJ := Lib.hid hp
          have HOJ := Lib.hid hop
          clear hgo hp hop
          by_cases hjm : j < m
          · have hjm' : (j : Int) < (m : Int) := by omega
            obtain ⟨y, hy⟩ : ∃ y, ops[j]? = some y := ⟨_, List.getElem?_eq_getElem (by rw [HM.out]; exact hjm)⟩
            obtain ⟨b4, f4, rfl, r0, r1, r2, r3, r4⟩ := HOJ.out.get hy
            have HY := Lib.hid hy
            clear hy
            obtain ⟨ow, ok, os, on⟩ := y
            dsimp only at r1 r2 r3 r4
            have HQA2 := Lib.hid ((Pure.refl wr).alloc (.cells #[.bool ow, .int .i64 ok, .int .i64 os, .int .i64 on] 70))
            have HPA2 := Lib.hid (HPJ.out.alloc (.cells #[.bool ow, .int .i64 ok, .int .i64 os, .int .i64 on] 70))
            have hlt : w.heap.size < wr.heap.size := World.block_lt_of_cell? wr _ t0
            go_wp2_with fail
            refine (icheckop_any (some ⟨b, f, none⟩) n c A2 8 c2 t ⟨ow, ok, os, on⟩ D _ (HS.out.pure HPA2.out) HL.out (by omega)).mono ?_
            rintro e w1 ⟨v, rfl, hv, hp1⟩
            have HP1 := Lib.hid hp1
            have z0 := pure_cell (HQA2.out.trans HP1.out) t0
            have z1 := pure_cell (HQA2.out.trans HP1.out) t1
            have HZ := Lib.hid (HOJ.out.pure (HQA2.out.trans HP1.out))
            clear hp1
            rcases hv with ⟨hv, rfl⟩ | ⟨hv, u, rfl⟩
            · have HV := Lib.hid (take_all HGJ.out HY.out hv)
              clear hv
              go_wp2
              go_roundw
              case rel => first | exact ⟨j + 1, by omega, by go_num, HV.out, HPA2.out.trans HP1.out, z0, z1, HZ.out⟩ | ((repeat apply Exists.intro); exact ⟨⟨j + 1, by omega, by go_num, HV.out, HPA2.out.trans HP1.out, z0, z1, HZ.out⟩, rfl⟩)
              case measure => simp [intOf]; omega
            · have HN : Hid (¬ StoryOk t g) := Lib.hid (fun h => hv (((HE.out.1 h).2.2.1 _ (List.mem_of_getElem? HX.out)).2 _ (List.mem_of_getElem? HY.out)))
              clear hv
              go_wp2
              go_ret
              exact HB.out _ _ ⟨_, rfl⟩ HN.out (HPA2.out.trans HP1.out)
          · obtain rfl : j = m := by omega
            have HT : Hid (∀ x ∈ t.take (k + 1), TxOk t x) := Lib.hid (take_all HGO.out HX.out ⟨by simp only [HM.out]; omega, by have := HGJ.out; rw [List.take_of_length_le (by rw [HM.out]; omega)] at this; exact this⟩)
            go_wp2
            go_roundw
            case rel => first | exact ⟨k + 1, by omega, by go_num, HT.out, HPJ.out, t0, t1⟩ | ((repeat apply Exists.intro); exact ⟨⟨k + 1, by omega, by go_num, HT.out, HPJ.out, t0, t1⟩, rfl⟩)
            case measure => simp [intOf]; omega
    · obtain rfl : k = n := by omega
      have HGT : Hid (∀ x ∈ t, TxOk t x) := Lib.hid (by have := HGO.out; rw [List.take_of_length_le (by rw [HL.out]; omega)] at this; exact this)
      clear HGO
      go_wp2
      obtain ⟨wo, rfl⟩ : ∃ wo : World, wo = wr := ⟨_, rfl⟩
      go_loopw [8, 9, 52] (fun _ _ i wr => ∃ j : Nat, j ≤ 8 ∧ i = .int .i64 j ∧ (∀ (q : Nat) l, q < j → g[q]? = some l → OrdOk t q l) ∧ Pure w wr ∧ wr.cell? ⟨w.heap.size, 0, none⟩ = some (.slice A k c) ∧ wr.cell? ⟨w.heap.size, 1, none⟩ = some (.slice A2 (8 : Nat) c2)) (fun _ _ i _ => 8 - (intOf i).toNat)
      case atStart => exact ⟨0, by omega, rfl, fun q l hq => by omega, HP.out, s0, s1⟩
      case round =>
        clear s0 s1
        obtain ⟨j, hj, rfl, hgo, hp, s0, s1⟩ := hrel
        have HGJ := Lib.hid hgo
        have HPJ := Lib.hid hp
        clear hgo hp
        by_cases hj8 : j < 8
        · have hj8' : (j : Int) < 8 := by omega
          obtain ⟨l, hl⟩ : ∃ l, g[j]? = some l := ⟨_, List.getElem?_eq_getElem (by rw [HL2.out]; exact hj8)⟩
          have HJ := Lib.hid hl
          clear hl
          go_wp2_with fail
          refine (icheckorder_any A k c A2 8 c2 j t g l D _ (HS.out.pure HPJ.out) HL.out (by omega) (HO.out.pure HPJ.out) HL2.out HJ.out (by omega)).mono ?_
          rintro e w1 ⟨v, rfl, hv, hp1⟩
          have HP1 := Lib.hid hp1
          have z0 := pure_cell HP1.out s0
          have z1 := pure_cell HP1.out s1
          clear hp1
          rcases hv with ⟨hv, rfl⟩ | ⟨hv, u, rfl⟩
          · have HV : Hid (∀ (q : Nat) l, q < j + 1 → g[q]? = some l → OrdOk t q l) := Lib.hid (fun q l' hq hl' => by
              rcases Nat.lt_or_ge q j with h | h
              · exact HGJ.out q l' h hl'
              · obtain rfl : q = j := by omega
                rw [HJ.out] at hl'
                injection hl' with e
                rw [← e]
                exact hv)
            clear hv
            go_wp2
            go_roundw
            case rel => first | exact ⟨j + 1, by omega, by go_num, HV.out, HPJ.out.trans HP1.out, z0, z1⟩ | ((repeat apply Exists.intro); exact ⟨⟨j + 1, by omega, by go_num, HV.out, HPJ.out.trans HP1.out, z0, z1⟩, rfl⟩)
            case measure => simp [intOf]; omega
          · have HN : Hid (¬ StoryOk t g) := Lib.hid (fun h => hv ((HE.out.1 h).2.2.2 _ _ HJ.out))
            clear hv
            go_wp2
            go_ret
            exact HB.out _ _ ⟨_, rfl⟩ HN.out (HPJ.out.trans HP1.out)
        · have HY : Hid (StoryOk t g) := Lib.hid (HE.out.2 ⟨hn8, by simp, HGT.out, fun q l hl => HGJ.out q l (by have := (List.getElem?_eq_some_iff.1 hl).1; rw [HL2.out] at this; omega) hl⟩)
          obtain rfl : j = 8 := by omega
          go_wp2
          go_ret
          exact HG.out _ HY.out HPJ.out
end Go.Proofs.YtlnjmkldpicpdaaDoor
