/- graph.Order once more: its error is ErrCycle. -/
import Derived.Test.YtgkmlnbnjbpodaaDoorGraph
namespace Go.Proofs.YtgkmlnbnjbpodaaDoor
open Go.RowKit
set_option linter.unusedVariables false
set_option linter.unusedSimpArgs false
def OrderPost2 (w : World) (n : Nat) (f : Nat → Nat → Bool) (e : Ending) (w' : World) : Prop :=
  (∃ l v, orderF n f = some l ∧ e = .returned (.tuple #[v, .nilIface]) ∧ w'.ownsRow w.heap.size 3 1 v l.length (natV l) ∧ Pure w w') ∨
  (orderF n f = none ∧ (∃ x, x = .iface 29 (.int .i64 11) ∧ e = .returned (.tuple #[.slice none 0 0, x])) ∧ Pure w w')
set_option maxRecDepth 100000 in
theorem gorder2_any (A : Option Addr) (c n : Nat) (f : Nat → Nat → Bool) (D : Nat → Prop) (w : World) (h : SqG w D (.slice A n c) n f) (hn : n ≤ 40) :
    Calls Tryd.prog 13 #[.slice A n c] w (OrderPost2 w n f) := by
  obtain ⟨i0, hi0, hz0, hz1, hz2⟩ := info_parts ginfoInt
  obtain ⟨i1, hi1, hy0, hy1, hy2⟩ := info_parts ginfoBool
  have hmk := fun W => run_make_rep (P := Tryd.prog) 37 4 i1 (.bool false) Tryd.underlying37 hi1 hy0 rfl hy1 n (by rw [hy2]; omega) (by omega) W
  have HS := Lib.hid h
  clear h
  go_enter Tryd.func13, Tryd.ntmps13
  go_wp2_with (go_at_call 29; refine (gcheck_any _ _ _ _ _ _ HS.out hn).mono ?_; rintro e _ ⟨rfl, rfl⟩)
  clear hmk
  go_loopw [6, 7, 20] (fun ov _ i wr => ∃ (k : Nat) (out : List Nat), k ≤ n ∧ i = .int .i64 k ∧ RelO w n f k out ov wr) (fun _ _ i _ => n - (intOf i).toNat)
  case atStart => exact ⟨0, [], by omega, rfl, rfl, by rw [← doneC_nil]; exact Blk.new w _ _, World.ownsRow_nil _ _ _ _, (Pure.refl w).alloc _⟩
  case round =>
    obtain ⟨k, out, hk, rfl, ho, hB, hown, hP⟩ := hrel
    have HO := Lib.hid ho
    have HB := Lib.hid hB
    have HW := Lib.hid hown
    have HP := Lib.hid hP
    clear ho hB hown hP
    by_cases hkn : k < n
    · have hkn' : (k : Int) < (n : Int) := by omega
      obtain ⟨b, o, rfl, _, hr⟩ := (HS.out.pure HP.out).get (show 0 < n by omega)
      have HR := Lib.hid hr
      clear hr
      go_wp2
      go_step3
      go_wp2
      go_step3
      go_wp2
      go_loop [7, 24] (fun nx i => ∃ v : Nat, v ≤ n ∧ i = .int .i64 v ∧ nx = .int .i64 (-1) ∧ NoneTo n f out v) (fun _ i => n - (intOf i).toNat)
      case atStart => exact ⟨0, by omega, rfl, rfl, fun x hx => absurd hx (by omega)⟩
      case round =>
        obtain ⟨v, hv, rfl, rfl, hno⟩ := hrel
        have HNO := Lib.hid hno
        clear hno
        by_cases hvn : v < n
        · have hvn' : (v : Int) < (n : Int) := by omega
          have d1 : wr.cell? ⟨w.heap.size, v, none⟩ = some (.bool (out.contains v)) := by rw [HB.out.cell]; exact doneC_get out hvn
          have f1 : wr.frozen? ⟨w.heap.size, v, none⟩ = false := HB.out.frozen v
          have HC : Hid (out.contains v = out.contains v) := rfl
          rcases hcv : out.contains v with _ | _
          · rw [hcv] at d1
            have HCV := Lib.hid hcv
            clear hcv HC
            go_wp2
            go_loop [9, 33] (fun _ i => ∃ u : Nat, u ≤ n ∧ i = .int .i64 u ∧ AllTo f out v u) (fun _ i => n - (intOf i).toNat)
            case atStart => exact ⟨0, by omega, rfl, fun x hx => absurd hx (by omega)⟩
            case round =>
              obtain ⟨u, hu, rfl, hall⟩ := hrel
              have HALL := Lib.hid hall
              clear hall
              by_cases hun : u < n
              · have hun' : (u : Int) < (n : Int) := by omega
                obtain ⟨rb, ro, cr, q1, _, _, _, q5⟩ := HR.out u hun
                have q6 := q5 v hvn
                clear q5
                have d2 : wr.cell? ⟨w.heap.size, u, none⟩ = some (.bool (out.contains u)) := by rw [HB.out.cell]; exact doneC_get out hun
                rcases hcu : out.contains u with _ | _ <;> rcases hfu : f u v with _ | _ <;> rw [hcu] at d2 <;> rw [hfu] at q6 <;> have HCU := Lib.hid hcu <;> have HFU := Lib.hid hfu <;> clear hcu hfu
                · go_wp2
                  go_round
                  case rel => first | exact ⟨u + 1, by omega, by go_num, HALL.out.next (by rw [HCU.out, HFU.out]; rfl)⟩ | ((repeat apply Exists.intro); exact ⟨⟨u + 1, by omega, by go_num, HALL.out.next (by rw [HCU.out, HFU.out]; rfl)⟩, rfl⟩)
                  case measure => simp [intOf]; omega
                · go_wp2
                  go_round
                  case rel => first | exact ⟨v + 1, by omega, by go_num, rfl, HNO.out.led hun HCU.out HFU.out⟩ | ((repeat apply Exists.intro); exact ⟨⟨v + 1, by omega, by go_num, rfl, HNO.out.led hun HCU.out HFU.out⟩, rfl⟩)
                  case measure => simp [intOf]; omega
                · go_wp2
                  go_round
                  case rel => first | exact ⟨u + 1, by omega, by go_num, HALL.out.next (by rw [HCU.out, HFU.out]; rfl)⟩ | ((repeat apply Exists.intro); exact ⟨⟨u + 1, by omega, by go_num, HALL.out.next (by rw [HCU.out, HFU.out]; rfl)⟩, rfl⟩)
                  case measure => simp [intOf]; omega
                · go_wp2
                  go_round
                  case rel => first | exact ⟨u + 1, by omega, by go_num, HALL.out.next (by rw [HCU.out, HFU.out]; rfl)⟩ | ((repeat apply Exists.intro); exact ⟨⟨u + 1, by omega, by go_num, HALL.out.next (by rw [HCU.out, HFU.out]; rfl)⟩, rfl⟩)
                  case measure => simp [intOf]; omega
              · obtain rfl : u = n := by omega
                have HNX := Lib.hid (nextO_some hvn (HALL.out.qual HCV.out) HNO.out)
                obtain ⟨A2, c2, rfl⟩ := own_slice HW.out
                have hsz := HB.out.lt
                have hsz2 := HP.out.size
                go_wp2_with (at_builtin; refine wpList_append_lies _ rfl (.tmp 59) (.tmp 61) 23 rfl (w.heap.size + 1) 3 i0 _ 1 8 Tryd.underlying23 hi0 hz0 hz1 hz2 rfl (by omega) _ k (natV out) rfl (by exact (ownsRow_setCell_below HW.out (by simp) _).alloc _) ⟨wr.heap.size, 0, none⟩ 1 1 [.int .i64 v] rfl rfl (by exact (Blk.new' (g := wr.heap.size) _ 3 #[.int .i64 v] (by simp [World.setCell])).news) (by simp [Value.oneCell']) (by omega) (by simp only [maxLen]; omega) (by omega) (by simp [World.setCell]; omega) (wr.heap.size + 1) (by simp [World.setCell]) ?_; intro g cap w1 o1 g1 at1 lt1)
                have HR2 := Lib.hid (relO_next hvn HO.out HB.out HW.out HP.out HNX.out o1 g1)
                clear o1 g1
                go_roundw
                case rel => first | exact ⟨k + 1, _, by omega, by go_num, HR2.out⟩ | ((repeat apply Exists.intro); exact ⟨⟨k + 1, _, by omega, by go_num, HR2.out⟩, rfl⟩)
                case measure => simp [intOf]; omega
          · rw [hcv] at d1
            have HCV := Lib.hid hcv
            clear hcv HC
            go_wp2
            go_round
            case rel => first | exact ⟨v + 1, by omega, by go_num, rfl, HNO.out.done HCV.out⟩ | ((repeat apply Exists.intro); exact ⟨⟨v + 1, by omega, by go_num, rfl, HNO.out.done HCV.out⟩, rfl⟩)
            case measure => simp [intOf]; omega
        · obtain rfl : v = n := by omega
          have HNX := Lib.hid (nextO_nothing HNO.out)
          go_wp2
          go_ret2
          exact .inr ⟨orderTo_none (k := k + 1) (by simp only [orderTo, HO.out, HNX.out]) v (by omega), ⟨_, rfl, rfl⟩, HP.out⟩
    · obtain rfl : k = n := by omega
      go_wp2
      go_ret2
      refine .inl ⟨out, _, HO.out, rfl, ?_, HP.out⟩
      have hl := (orderTo_spec k out HO.out).1
      rw [hl]
      exact own_base HW.out (by omega)
end Go.Proofs.YtgkmlnbnjbpodaaDoor
