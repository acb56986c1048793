/- graph.Check, graph.Order, graph.Closed over square grids. -/
import Derived.Test.YtgkmlnbnjbpodaaDoorNatV
import Derived.Test.YtgkmlnbnjbpodaaDoorProg
import Derived.Test.YtgkmlnbnjbpodaaDoorReg
import Derived.Test.YtgkmlnbnjbpodaaDoorSq
import Derived.Test.YtgkmlnbnjbpodaaDoorGraphLaw
namespace Go.Proofs.YtgkmlnbnjbpodaaDoor
open Go.RowKit
set_option linter.unusedVariables false
set_option linter.unusedSimpArgs false

theorem ginfoBool : (Tryd.prog.info? 4).map (fun i => (i.zero, i.size, i.bytes)) = some (some (.bool false), 1, 1) := by kernel_rfl
theorem ginfoBools : (Tryd.prog.info? 37).map (fun i => (i.zero, i.size, i.bytes)) = some (some (.slice none 0 0), 1, 24) := by kernel_rfl
theorem ginfoInt : (Tryd.prog.info? 3).map (fun i => (i.zero, i.size, i.bytes)) = some (some (.int .i64 0), 1, 8) := by kernel_rfl

set_option maxHeartbeats 400000 in
theorem gcheck_any (A : Option Addr) (c n : Nat) (f : Nat → Nat → Bool) (D : Nat → Prop) (w : World) (h : SqG w D (.slice A n c) n f) (hn : n ≤ 40) :
    Calls Tryd.prog 29 #[.slice A n c] w fun e w' => e = .returned .nilIface ∧ w = w' := by
  have HS := Lib.hid h
  clear h
  have h1 : ¬ (40 : Int) < (n : Int) := by omega
  go_enter Tryd.func29, Tryd.ntmps29
  go_wp2
  go_loop [4, 11] (fun _ i => ∃ k : Nat, k ≤ n ∧ i = .int .i64 k) (fun _ i => n - (intOf i).toNat)
  case atStart => exact ⟨0, by omega, rfl⟩
  case round =>
    obtain ⟨k, hk, rfl⟩ := hrel
    by_cases hlt : k < n
    · have hlt' : (k : Int) < (n : Int) := by omega
      obtain ⟨b, o, rfl, hb, hr⟩ := HS.out.get (by omega)
      obtain ⟨rb, ro, c', q1, _, _, _, _⟩ := hr k hlt
      clear hr
      go_wp2
      go_round
      case rel => first | exact ⟨k + 1, by omega, by go_num⟩ | ((repeat apply Exists.intro); exact ⟨⟨k + 1, by omega, by go_num⟩, rfl⟩)
      case measure => simp [intOf]; omega
    · have : ¬ (k : Int) < (n : Int) := by omega
      go_wp2
      go_ret
      exact ⟨rfl, rfl⟩

/-! ### Order -/
def qualB (n : Nat) (f : Nat → Nat → Bool) (out : List Nat) (v : Nat) : Bool := !out.contains v && (List.range n).all fun u => out.contains u || !f u v
theorem nextO_some {n : Nat} {f : Nat → Nat → Bool} {out : List Nat} {v : Nat} (hv : v < n) (hq : qualB n f out v = true) (hl : ∀ x, x < v → qualB n f out x = false) : nextO n f out = some v := by
  unfold nextO
  rw [List.find?_eq_some_iff_getElem]
  refine ⟨hq, v, by simpa using hv, by simp, fun j hj => ?_⟩
  have := hl j hj
  simp only [List.getElem_range]
  show (!qualB n f out j) = true
  rw [this]
  rfl
theorem nextO_nothing {n : Nat} {f : Nat → Nat → Bool} {out : List Nat} (hl : ∀ x, x < n → qualB n f out x = false) : nextO n f out = none := by
  unfold nextO
  rw [List.find?_eq_none]
  intro x hx
  have := hl x (List.mem_range.1 hx)
  show ¬ qualB n f out x = true
  rw [this]
  exact Bool.false_ne_true
def doneC (n : Nat) (out : List Nat) : Array Value := ((List.range n).map fun v => Value.bool (out.contains v)).toArray
theorem doneC_get {n : Nat} (out : List Nat) {v : Nat} (hv : v < n) : (doneC n out)[v]? = some (.bool (out.contains v)) := by simp [doneC, hv]
theorem doneC_set {n : Nat} (out : List Nat) {v : Nat} (hv : v < n) : (doneC n out).setIfInBounds v (.bool true) = doneC n (out ++ [v]) := by
  apply Array.ext
  · simp [doneC]
  · intro k h1 h2
    simp only [doneC, Array.getElem_setIfInBounds, List.getElem_toArray, List.getElem_map, List.getElem_range]
    by_cases hk : v = k
    · subst hk; simp
    · have : ¬ k = v := fun e => hk e.symm
      simp [hk, this]
theorem doneC_nil (n : Nat) : rep (.bool false) n = doneC n [] := by
  apply Array.ext
  · simp [rep, doneC]
  · intro k h1 h2
    simp [rep, doneC]
theorem own_slice {w : World} {base : Nat} {e : TypeId} {size n : Nat} {v : Value} {xs : List Value} (h : w.ownsRow base e size v n xs) : ∃ A c, v = .slice A n c := by
  rcases h.2 with ⟨rfl, rfl⟩ | ⟨g, cap, cur, rfl, _⟩
  · exact ⟨_, _, rfl⟩
  · exact ⟨_, _, rfl⟩
theorem own_base {w : World} {base base' : Nat} {e : TypeId} {size n : Nat} {v : Value} {xs : List Value} (h : w.ownsRow base e size v n xs) (hb : base' ≤ base) : w.ownsRow base' e size v n xs := by
  refine ⟨h.1, ?_⟩
  rcases h.2 with h | ⟨g, cap, cur, h1, h2, h3⟩
  · exact .inl h
  · exact .inr ⟨g, cap, cur, h1, by omega, h3⟩
/-- At the head of Order's outer loop. -/
def RelO (w : World) (n : Nat) (f : Nat → Nat → Bool) (k : Nat) (out : List Nat) (ov : Value) (wr : World) : Prop :=
  orderTo n f k = some out ∧ Blk wr w.heap.size 4 (doneC n out) ∧ wr.ownsRow (w.heap.size + 1) 3 1 ov k (natV out) ∧ Pure w wr
/-- An error. -/
def IsErr (v : Value) : Prop := ∃ u, v = .iface 29 (.int .i64 u)
def OrderPost (w : World) (n : Nat) (f : Nat → Nat → Bool) (e : Ending) (w' : World) : Prop :=
  (∃ l v, orderF n f = some l ∧ e = .returned (.tuple #[v, .nilIface]) ∧ w'.ownsRow w.heap.size 3 1 v l.length (natV l) ∧ Pure w w') ∨
  (orderF n f = none ∧ (∃ x, IsErr x ∧ e = .returned (.tuple #[.slice none 0 0, x])) ∧ Pure w w')

def NoneTo (n : Nat) (f : Nat → Nat → Bool) (out : List Nat) (v : Nat) : Prop := ∀ x, x < v → qualB n f out x = false
def AllTo (f : Nat → Nat → Bool) (out : List Nat) (v u : Nat) : Prop := ∀ x, x < u → (out.contains x || !f x v) = true
theorem NoneTo.done {n v : Nat} {f : Nat → Nat → Bool} {out : List Nat} (h : NoneTo n f out v) (hc : out.contains v = true) : NoneTo n f out (v + 1) := fun x hx => by
  by_cases hxv : x = v
  · subst hxv; unfold qualB; rw [hc]; rfl
  · exact h x (by omega)
theorem NoneTo.led {n v u : Nat} {f : Nat → Nat → Bool} {out : List Nat} (h : NoneTo n f out v) (hu : u < n) (hc : out.contains u = false) (hf : f u v = true) : NoneTo n f out (v + 1) := fun x hx => by
  by_cases hxv : x = v
  · subst hxv
    have : ((List.range n).all fun u => out.contains u || !f u x) = false := by
      rw [List.all_eq_false]
      exact ⟨u, List.mem_range.2 hu, by rw [hc, hf]; simp⟩
    unfold qualB
    rw [this, Bool.and_false]
  · exact h x (by omega)
theorem AllTo.next {f : Nat → Nat → Bool} {out : List Nat} {v u : Nat} (h : AllTo f out v u) (hu : (out.contains u || !f u v) = true) : AllTo f out v (u + 1) := fun x hx => by
  by_cases hxu : x = u
  · subst hxu; exact hu
  · exact h x (by omega)
theorem AllTo.qual {n : Nat} {f : Nat → Nat → Bool} {out : List Nat} {v : Nat} (h : AllTo f out v n) (hc : out.contains v = false) : qualB n f out v = true := by
  unfold qualB
  rw [hc]
  simp only [Bool.not_false, Bool.true_and, List.all_eq_true, List.mem_range]
  exact h
theorem orderTo_none {n : Nat} {f : Nat → Nat → Bool} {k : Nat} (h : orderTo n f k = none) : ∀ m, k ≤ m → orderTo n f m = none := by
  intro m
  induction m with
  | zero => intro hk; have : k = 0 := by omega
            subst this; exact h
  | succ m ih =>
    intro hk
    by_cases hkm : k = m + 1
    · subst hkm; exact h
    · simp only [orderTo, ih (by omega)]
theorem relO_next {w wr w1 : World} {n k v g cap : Nat} {f : Nat → Nat → Bool} {out : List Nat} {ov : Value} (hv : v < n) (ho : orderTo n f k = some out) (hB : Blk wr w.heap.size 4 (doneC n out))
    (hW : wr.ownsRow (w.heap.size + 1) 3 1 ov k (natV out)) (hP : Pure w wr) (hnx : nextO n f out = some v)
    (o1 : w1.ownsRow (w.heap.size + 1) 3 1 (.slice (some ⟨g, 0, none⟩) (k + 1) cap) (k + 1) (natV out ++ [.int .i64 (v : Nat)]))
    (g1 : ((wr.setCell ⟨w.heap.size, v, none⟩ (.bool true)).alloc (.cells #[.int .i64 (v : Nat)] 3)).grownBy w1 ov.ownBlock) :
    RelO w n f (k + 1) (out ++ [v]) (.slice (some ⟨g, 0, none⟩) (k + 1) cap) w1 := by
  have hk0 : some w.heap.size ≠ ov.ownBlock := fun e => by have := (hW.lt _ e.symm).1; omega
  refine ⟨by simp only [orderTo, ho, hnx], ?_, by simpa [natV] using o1, ?_⟩
  · rw [← doneC_set out hv]
    exact ((hB.set_ v _).alloc _).grown g1 hk0
  · have := (((hP.chg (fun i => w.heap.size ≤ i)).setCell (p := ⟨w.heap.size, v, none⟩) (.inl (Nat.le_refl _)) (.bool true)).alloc (.cells #[.int .i64 (v : Nat)] 3)).grown g1 (fun i hi => by have := (hW.lt i hi).1; right; omega)
    exact this.below (Nat.le_refl _)

set_option maxHeartbeats 1000000 in
set_option maxRecDepth 100000 in
theorem gorder_any (A : Option Addr) (c n : Nat) (f : Nat → Nat → Bool) (D : Nat → Prop) (w : World) (h : SqG w D (.slice A n c) n f) (hn : n ≤ 40) :
    Calls Tryd.prog 13 #[.slice A n c] w (OrderPost w n f) := by
  obtain ⟨i0, hi0, hz0, hz1, hz2⟩ := info_parts ginfoInt
  obtain ⟨i1, hi1, hy0, hy1, hy2⟩ := info_parts ginfoBool
  have hmk := fun W => run_make_rep (P := Tryd.prog) 37 4 i1 (.bool false) Tryd.underlying37 hi1 hy0 rfl hy1 n (by rw [hy2]; omega) (by omega) W
  have HS := Lib.hid h
  clear h
  go_enter Tryd.func13, Tryd.ntmps13
  go_wp2_with (go_at_call 29; refine (gcheck_any _ _ _ _ _ _ HS.out hn).mono ?_; rintro e _ ⟨rfl, rfl⟩)
  clear hmk
  go_loopw [6, 7, 20] (fun ov _ i wr => ∃ (k : Nat) (out : List Nat), k ≤ n ∧ i = .int .i64 k ∧ RelO w n f k out ov wr) (fun _ _ i _ => n - (intOf i).toNat)
  case atStart => exact ⟨0, [], by omega, rfl, rfl, by rw [← doneC_nil]; exact Blk.new w _ _, World.ownsRow_nil _ _ _ _, (Pure.refl w).alloc _⟩
  case round =>
    obtain ⟨k, out, hk, rfl, ho, hB, hown, hP⟩ := hrel
    have HO := Lib.hid ho
    have HB := Lib.hid hB
    have HW := Lib.hid hown
    have HP := Lib.hid hP
    clear ho hB hown hP
    by_cases hkn : k < n
    · have hkn' : (k : Int) < (n : Int) := by omega
      obtain ⟨b, o, rfl, _, hr⟩ := (HS.out.pure HP.out).get (show 0 < n by omega)
      have HR := Lib.hid hr
      clear hr
      go_wp2
      go_step3
      go_wp2
      go_step3
      go_wp2
      go_loop [7, 24] (fun nx i => ∃ v : Nat, v ≤ n ∧ i = .int .i64 v ∧ nx = .int .i64 (-1) ∧ NoneTo n f out v) (fun _ i => n - (intOf i).toNat)
      case atStart => exact ⟨0, by omega, rfl, rfl, fun x hx => absurd hx (by omega)⟩
      case round =>
        obtain ⟨v, hv, rfl, rfl, hno⟩ := hrel
        have HNO := Lib.hid hno
        clear hno
        by_cases hvn : v < n
        · have hvn' : (v : Int) < (n : Int) := by omega
          have d1 : wr.cell? ⟨w.heap.size, v, none⟩ = some (.bool (out.contains v)) := by rw [HB.out.cell]; exact doneC_get out hvn
          have f1 : wr.frozen? ⟨w.heap.size, v, none⟩ = false := HB.out.frozen v
          have HC : Hid (out.contains v = out.contains v) := rfl
          rcases hcv : out.contains v with _ | _
          · rw [hcv] at d1
            have HCV := Lib.hid hcv
            clear hcv HC
            go_wp2
            go_loop [9, 33] (fun _ i => ∃ u : Nat, u ≤ n ∧ i = .int .i64 u ∧ AllTo f out v u) (fun _ i => n - (intOf i).toNat)
            case atStart => exact ⟨0, by omega, rfl, fun x hx => absurd hx (by omega)⟩
            case round =>
              obtain ⟨u, hu, rfl, hall⟩ := hrel
              have HALL := Lib.hid hall
              clear hall
              by_cases hun : u < n
              · have hun' : (u : Int) < (n : Int) := by omega
                obtain ⟨rb, ro, cr, q1, _, _, _, q5⟩ := HR.out u hun
                have q6 := q5 v hvn
                clear q5
                have d2 : wr.cell? ⟨w.heap.size, u, none⟩ = some (.bool (out.contains u)) := by rw [HB.out.cell]; exact doneC_get out hun
                rcases hcu : out.contains u with _ | _ <;> rcases hfu : f u v with _ | _ <;> rw [hcu] at d2 <;> rw [hfu] at q6 <;> have HCU := Lib.hid hcu <;> have HFU := Lib.hid hfu <;> clear hcu hfu
                · go_wp2
                  go_round
                  case rel => first | exact ⟨u + 1, by omega, by go_num, HALL.out.next (by rw [HCU.out, HFU.out]; rfl)⟩ | ((repeat apply Exists.intro); exact ⟨⟨u + 1, by omega, by go_num, HALL.out.next (by rw [HCU.out, HFU.out]; rfl)⟩, rfl⟩)
                  case measure => simp [intOf]; omega
                · go_wp2
                  go_round
                  case rel => first | exact ⟨v + 1, by omega, by go_num, rfl, HNO.out.led hun HCU.out HFU.out⟩ | ((repeat apply Exists.intro); exact ⟨⟨v + 1, by omega, by go_num, rfl, HNO.out.led hun HCU.out HFU.out⟩, rfl⟩)
                  case measure => simp [intOf]; omega
                · go_wp2
                  go_round
                  case rel => first | exact ⟨u + 1, by omega, by go_num, HALL.out.next (by rw [HCU.out, HFU.out]; rfl)⟩ | ((repeat apply Exists.intro); exact ⟨⟨u + 1, by omega, by go_num, HALL.out.next (by rw [HCU.out, HFU.out]; rfl)⟩, rfl⟩)
                  case measure => simp [intOf]; omega
                · go_wp2
                  go_round
                  case rel => first | exact ⟨u + 1, by omega, by go_num, HALL.out.next (by rw [HCU.out, HFU.out]; rfl)⟩ | ((repeat apply Exists.intro); exact ⟨⟨u + 1, by omega, by go_num, HALL.out.next (by rw [HCU.out, HFU.out]; rfl)⟩, rfl⟩)
                  case measure => simp [intOf]; omega
              · obtain rfl : u = n := by omega
                have HNX := Lib.hid (nextO_some hvn (HALL.out.qual HCV.out) HNO.out)
                obtain ⟨A2, c2, rfl⟩ := own_slice HW.out
                have hsz := HB.out.lt
                have hsz2 := HP.out.size
                go_wp2_with (at_builtin; refine wpList_append_lies _ rfl (.tmp 59) (.tmp 61) 23 rfl (w.heap.size + 1) 3 i0 _ 1 8 Tryd.underlying23 hi0 hz0 hz1 hz2 rfl (by omega) _ k (natV out) rfl (by exact (ownsRow_setCell_below HW.out (by simp) _).alloc _) ⟨wr.heap.size, 0, none⟩ 1 1 [.int .i64 v] rfl rfl (by exact (Blk.new' (g := wr.heap.size) _ 3 #[.int .i64 v] (by simp [World.setCell])).news) (by simp [Value.oneCell']) (by omega) (by simp only [maxLen]; omega) (by omega) (by simp [World.setCell]; omega) (wr.heap.size + 1) (by simp [World.setCell]) ?_; intro g cap w1 o1 g1 at1 lt1)
                have HR2 := Lib.hid (relO_next hvn HO.out HB.out HW.out HP.out HNX.out o1 g1)
                clear o1 g1
                go_roundw
                case rel => first | exact ⟨k + 1, _, by omega, by go_num, HR2.out⟩ | ((repeat apply Exists.intro); exact ⟨⟨k + 1, _, by omega, by go_num, HR2.out⟩, rfl⟩)
                case measure => simp [intOf]; omega
          · rw [hcv] at d1
            have HCV := Lib.hid hcv
            clear hcv HC
            go_wp2
            go_round
            case rel => first | exact ⟨v + 1, by omega, by go_num, rfl, HNO.out.done HCV.out⟩ | ((repeat apply Exists.intro); exact ⟨⟨v + 1, by omega, by go_num, rfl, HNO.out.done HCV.out⟩, rfl⟩)
            case measure => simp [intOf]; omega
        · obtain rfl : v = n := by omega
          have HNX := Lib.hid (nextO_nothing HNO.out)
          go_wp2
          go_ret2
          exact .inr ⟨orderTo_none (k := k + 1) (by simp only [orderTo, HO.out, HNX.out]) v (by omega), ⟨_, ⟨_, rfl⟩, rfl⟩, HP.out⟩
    · obtain rfl : k = n := by omega
      go_wp2
      go_ret2
      refine .inl ⟨out, _, HO.out, rfl, ?_, HP.out⟩
      have hl := (orderTo_spec k out HO.out).1
      rw [hl]
      exact own_base HW.out (by omega)
end Go.Proofs.YtgkmlnbnjbpodaaDoor
