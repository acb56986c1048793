/- links: who can talk to whom, as a grid of bools. -/
import Derived.Test.YtcpcneggclgbcaaProg
import Derived.Test.YtcpcneggclgbcaaBase
import Derived.Test.YtcpcneggclgbcaaReg
namespace Go.Proofs.Ytcpcneggclgbcaa
open Go.RowKit
set_option linter.unusedVariables false
set_option linter.unusedSimpArgs false

theorem infoBool : (Try.prog.info? 4).map (fun i => (i.zero, i.size, i.bytes)) = some (some (.bool false), 1, 1) := by kernel_rfl
theorem infoBools : (Try.prog.info? 41).map (fun i => (i.zero, i.size, i.bytes)) = some (some (.slice none 0 0), 1, 24) := by kernel_rfl

def rowTo (can : Nat → Nat → Bool) (a b : Nat) : List Bool := (List.range b).map fun k => (a == k || can a k)
def gridOf (can : Nat → Nat → Bool) (n : Nat) : List (List Bool) := (List.range n).map fun a => rowTo can a n

/-- At the head of the outer loop: a rows are done, the others are nil; the rows lie in block w.heap.size. -/
def RelA (w : World) (can : Nat → Nat → Bool) (n a : Nat) (wr : World) : Prop :=
  ∃ cs : Array Value, Blk wr w.heap.size 41 cs ∧ cs.size = n ∧ (∀ i, i < a → ∃ r, cs[i]? = some r ∧ Bools wr (fun k => w.heap.size < k) r (rowTo can i n)) ∧
    (∀ i, a ≤ i → i < n → cs[i]? = some (.slice none 0 0)) ∧ Pure w wr

theorem relA_start (w : World) (can : Nat → Nat → Bool) (n : Nat) : RelA w can n 0 (w.alloc (.cells (rep (.slice none 0 0) n) 41)) :=
  ⟨_, Blk.new w _ _, rep_size _ _, fun i hi => absurd hi (by omega), fun i _ hi => rep_get _ hi, (Pure.refl w).alloc _⟩

/-- At the head of the inner loop. -/
def RelB (w : World) (can : Nat → Nat → Bool) (n a H b : Nat) (v : Value) (wr : World) : Prop :=
  ∃ cs : Array Value, Blk wr w.heap.size 41 cs ∧ cs.size = n ∧ (∀ i, i < a → ∃ r, cs[i]? = some r ∧ Bools wr (fun k => w.heap.size < k ∧ k < H) r (rowTo can i n)) ∧ cs[a]? = some v ∧
    (∀ i, a + 1 ≤ i → i < n → cs[i]? = some (.slice none 0 0)) ∧ wr.ownsRow H 4 1 v b ((rowTo can a b).map Value.bool) ∧ w.heap.size < H ∧ H ≤ wr.heap.size ∧ Pure w wr

theorem relB_start {w wr : World} {can : Nat → Nat → Bool} {n a : Nat} (h : RelA w can n a wr) (ha : a < n) : RelB w can n a wr.heap.size 0 (.slice none 0 0) wr := by
  obtain ⟨cs, h1, h2, h3, h4, h5⟩ := h
  refine ⟨cs, h1, h2, fun i hi => ?_, h4 a (Nat.le_refl _) ha, fun i hi hn => h4 i (by omega) hn, World.ownsRow_nil _ _ _ _, h1.lt, Nat.le_refl _, h5⟩
  obtain ⟨r, hr, hb⟩ := h3 i hi
  refine ⟨r, hr, ?_⟩
  obtain ⟨A, c, rfl, q1, q2, q3, q4⟩ := hb
  refine ⟨A, c, rfl, q1, q2, q3, fun hn => ?_⟩
  obtain ⟨b, o, e, hD, hc⟩ := q4 hn
  have hl : 0 < ((rowTo can i n).map Value.bool).length := by simpa using hn
  exact ⟨b, o, e, ⟨hD, World.block_lt_of_cell? wr _ (hc 0 _ (List.getElem?_eq_getElem hl))⟩, hc⟩

theorem relA_end {w wr : World} {can : Nat → Nat → Bool} {n : Nat} (h : RelA w can n n wr) (hn : n ≤ 7) : Grid wr (fun k => w.heap.size ≤ k) (.slice (some ⟨w.heap.size, 0, none⟩) n n) (gridOf can n) ∧ Pure w wr := by
  obtain ⟨cs, h1, h2, h3, h4, h5⟩ := h
  have hl : (gridOf can n).length = n := by simp [gridOf]
  refine ⟨⟨cs.toList, ?_, fun i l hi => ?_⟩, h5⟩
  · rw [hl]
    refine ⟨_, _, rfl, Nat.le_refl _, by omega, by simp [h2], fun hn => ⟨w.heap.size, 0, rfl, Nat.le_refl _, fun j u hj => ?_⟩⟩
    rw [Nat.zero_add, h1.cell]
    simpa using hj
  · have hin : i < n := by have := (List.getElem?_eq_some_iff.1 hi).1; omega
    obtain ⟨r, hr, hb⟩ := h3 i hin
    refine ⟨r, by simpa using hr, ?_⟩
    have e : l = rowTo can i n := by
      simp only [gridOf, List.getElem?_map, List.getElem?_range hin, Option.map_some, Option.some.injEq] at hi
      exact hi.symm
    rw [e]
    exact Rd.mono hb fun k hk => Nat.le_of_lt hk

/-- Behind a round of the inner loop. -/
theorem relB_next {w wr w1 : World} {can : Nat → Nat → Bool} {n a H b g cap : Nat} {v : Value} {x : Bool} {cs : Array Value} (ha : a < n)
    (h1 : Blk wr w.heap.size 41 cs) (h2 : cs.size = n) (h3 : ∀ i, i < a → ∃ r, cs[i]? = some r ∧ Bools wr (fun k => w.heap.size < k ∧ k < H) r (rowTo can i n))
    (h5 : ∀ i, a + 1 ≤ i → i < n → cs[i]? = some (.slice none 0 0)) (h6 : wr.ownsRow H 4 1 v b ((rowTo can a b).map Value.bool)) (h7 : w.heap.size < H) (h8 : H ≤ wr.heap.size) (h9 : Pure w wr)
    (hx : x = (a == b || can a b)) (o1 : w1.ownsRow H 4 1 (.slice (some ⟨g, 0, none⟩) (b + 1) cap) (b + 1) ((rowTo can a b).map Value.bool ++ [.bool x]))
    (g1 : ((wr.alloc (.cells #[.bool x] 4)).drew).grownBy w1 v.ownBlock) (hk : some w.heap.size ≠ v.ownBlock) :
    RelB w can n a H (b + 1) (.slice (some ⟨g, 0, none⟩) (b + 1) cap) (w1.setCell ⟨w.heap.size, a, none⟩ (.slice (some ⟨g, 0, none⟩) (b + 1) cap)) := by
  have hs := g1.size
  simp at hs
  have hB1 := ((h1.alloc (.cells #[.bool x] 4)).drew).grown g1 hk
  have hch : Chg (fun k => H ≤ k ∨ k = w.heap.size) wr (w1.setCell ⟨w.heap.size, a, none⟩ (.slice (some ⟨g, 0, none⟩) (b + 1) cap)) :=
    ((((Chg.refl _ wr).alloc (.cells #[.bool x] 4)).drew).grown g1 (fun k hk => .inl (.inl (h6.lt k hk).1))).setCell (.inl (.inr rfl)) _
  refine ⟨cs.setIfInBounds a (.slice (some ⟨g, 0, none⟩) (b + 1) cap), hB1.set_ a _, by simpa using h2, fun i hi => ?_, ?_, fun i hi hn => ?_, ?_, h7, ?_, ?_⟩
  · obtain ⟨r, hr, hb⟩ := h3 i hi
    refine ⟨r, ?_, hb.chg hch (fun k hk hS => by rcases hS with h | h <;> omega)⟩
    rw [Array.getElem?_setIfInBounds, if_neg (by omega)]
    exact hr
  · rw [Array.getElem?_setIfInBounds, if_pos rfl, if_pos (by omega)]
  · rw [Array.getElem?_setIfInBounds, if_neg (by omega)]
    exact h5 i hi hn
  · have e : (rowTo can a (b + 1)).map Value.bool = (rowTo can a b).map Value.bool ++ [.bool x] := by
      rw [hx]; simp [rowTo, List.range_succ]
    rw [e]
    exact ownsRow_setCell_below o1 h7 _
  · simp [World.setCell]; omega
  · have := (h9.chg (fun k => w.heap.size ≤ k)).trans' hch (fun i hi hS => by rcases hS with h | h <;> omega)
    exact this.below (Nat.le_refl _)

theorem relA_next {w wr : World} {can : Nat → Nat → Bool} {n a H : Nat} {v : Value} (h : RelB w can n a H n v wr) (ha : a < n) : RelA w can n (a + 1) wr := by
  obtain ⟨cs, h1, h2, h3, h4, h5, h6, h7, h8, h9⟩ := h
  refine ⟨cs, h1, h2, fun i hi => ?_, fun i hi hn => h5 i hi hn, h9⟩
  by_cases hia : i = a
  · subst hia
    have hl : (rowTo can i n).length = n := by simp [rowTo]
    refine ⟨v, h4, ?_⟩
    have := Rd.of_own (D := fun k => w.heap.size < k) h6 (fun k _ hk => by omega)
    unfold Bools
    rw [hl]
    exact this
  · obtain ⟨r, hr, hb⟩ := h3 i (by omega)
    exact ⟨r, hr, Rd.mono hb fun k hk => hk.1⟩

set_option maxHeartbeats 1000000 in
set_option maxRecDepth 100000 in
theorem links1 (F n : Nat) (can : Nat → Nat → Bool) (w : World) (hF : ∀ args W, Sem.run Try.prog (callFunc F args) W = .ok (.enter F args) W) (h1 : 1 ≤ n) (h7 : n ≤ 7) (cv : Value) (hcan : ∀ (W : World) (a b : Nat), Pure w W → a < n → b < n → Calls Try.prog F #[.int .i64 a, .int .i64 b, cv] W fun e W' => e = .returned (.bool (can a b)) ∧ W = W') :
    Calls Try.prog 55 #[.int .i64 n, .func (.func F) #[] #[cv]] w fun e w' => ∃ v, e = .returned (.tuple #[v, .nilIface]) ∧ Grid w' (fun k => w.heap.size ≤ k) v (gridOf can n) ∧ Pure w w' := by
  obtain ⟨i1, hi1, hy0, hy1, hy2⟩ := info_parts infoBools
  obtain ⟨i0, hi0, hz0, hz1, hz2⟩ := info_parts infoBool
  have hmk := fun W => run_make_rep (P := Try.prog) 25 41 i1 (.slice none 0 0) Try.underlying25 hi1 hy0 rfl hy1 n (by rw [hy2]; omega) (by omega) W
  have g1 : ¬ (n : Int) < 1 := by omega
  have g2 : ¬ (7 : Int) < (n : Int) := by omega
  have HC := Lib.hid hcan
  clear hcan
  go_enter Try.func55, Try.ntmps55
  go_wp2
  clear hmk
  go_loopw [7, 20] (fun _ i wr => ∃ a : Nat, a ≤ n ∧ i = .int .i64 a ∧ RelA w can n a wr) (fun _ i _ => n - (intOf i).toNat)
  case atStart => exact ⟨0, by omega, rfl, relA_start w can n⟩
  case round =>
    obtain ⟨a, ha, rfl, hrel⟩ := hrel
    have HA := Lib.hid hrel
    clear hrel
    by_cases hlt : a < n
    · have hlt' : (a : Int) < (n : Int) := by omega
      go_wp2
      obtain ⟨wo, rfl⟩ : ∃ wo : World, wo = wr := ⟨_, rfl⟩
      go_loopw [8, 24] (fun _ j wr => ∃ (b : Nat) (v : Value), b ≤ n ∧ j = .int .i64 b ∧ RelB w can n a wo.heap.size b v wr) (fun _ j _ => n - (intOf j).toNat)
      case atStart => exact ⟨0, _, by omega, rfl, relB_start HA.out hlt⟩
      case round =>
        obtain ⟨b, v, hb, rfl, cs, q1, q2, q3, q4, q5, q6, q7, q8, q9⟩ := hrel
        by_cases hbn : b < n
        · have hbn' : (b : Int) < (n : Int) := by omega
          obtain ⟨A2, c2, rfl, _, _⟩ : ∃ A c, v = .slice A b c ∧ b ≤ c ∧ c ≤ 9223372036854775807 := by
            rcases q6.2 with ⟨rfl, rfl⟩ | ⟨g, cap, cur, rfl, _, _, h1, h2, _⟩
            · exact ⟨_, _, rfl, Nat.le_refl _, by omega⟩
            · exact ⟨_, _, rfl, h1, h2⟩
          have c0 : wr.cell? ⟨w.heap.size, a, none⟩ = some (.slice A2 b c2) := by rw [q1.cell]; exact q4
          have f0 : wr.frozen? ⟨w.heap.size, a, none⟩ = false := q1.frozen a
          have hsz := q1.lt
          have hk : some w.heap.size ≠ (Value.slice A2 b c2).ownBlock := own_ne q6 q1 (by decide)
          have HQ := Lib.hid (And.intro q1 (And.intro q2 (And.intro q3 (And.intro q5 (And.intro q6 q9)))))
          clear q1 q2 q3 q4 q5 q6 q9
          by_cases hab : a = b
          · have hab' : ((a : Int) == (b : Int)) = true := by simp; omega
            have HAB := Lib.hid hab
            clear hab
            go_wp2_with fail
            refine wp_region_g (S := fun W => W.cell? ⟨w.heap.size, a, none⟩ = some (.slice A2 b c2)) (by kernel_rfl) ?_
            refine wpAnyG_take [0,1,2,3,4,5,6,7,8,9,10,11,12,13,14] _ _ 18 (by kernel_rfl) (by kernel_rfl) (by kernel_rfl) (fun _ _ _ _ _ h => h) (aF := ?_) (w := wr.drew) c0 4 (by kernel_rfl) (by kernel_rfl) (by simp only [subOps, List.filterMap_cons, List.filterMap_nil, List.getElem?_toArray, List.getElem?_cons_zero, List.getElem?_cons_succ]; rfl) (by simp only [List.map_cons, List.map_nil]; rfl) ?_ ?_
            rotate_left
            · intro W hW
              repeat (refine wpStillD_step (fun K hK => ?_); go_simp; refine hK _ ?_; clear hK K)
              refine wpStillD_nil ?_
              rfl
            refine wpAnyG_one (k := 15) rfl (by kernel_rfl) ?_
            go_wp2
            refine ⟨.inl ?_, ?_⟩
            · exact (World.cell?_alloc_lt _ _ _ hsz).trans c0
            refine wpAnyG_one (k := 16) rfl (by kernel_rfl) ?_
            refine wpList_append_lies _ rfl (.tmp 32) (.tmp 42) 41 rfl wo.heap.size 4 i0 _ 1 1 Try.underlying41 hi0 hz0 hz1 hz2 rfl (by omega) (.slice A2 b c2) b _ (by simp [Act.eval]) (by exact (HQ.out.2.2.2.2.1.alloc _).drew) ⟨wr.heap.size, 0, none⟩ 1 1 [.bool true] (by simp [Act.eval]) rfl (by exact ((Blk.new wr 4 #[.bool true]).drew).news) (by simp [Value.oneCell']) (by omega) (by simp only [maxLen]; omega) (by omega) (by simp; omega) (wr.heap.size + 1) (by simp) ?_
            intro g cap w1 o1 g1 at1 lt1
            have c1 : w1.cell? ⟨w.heap.size, a, none⟩ = some (.slice A2 b c2) := (g1.cell_far ⟨w.heap.size, a, none⟩ (by simp; omega) hk).trans ((World.cell?_alloc_lt _ _ _ hsz).trans c0)
            have f1 : w1.frozen? ⟨w.heap.size, a, none⟩ = false := (((HQ.out.1.alloc _).drew).grown g1 hk).frozen a
            have HR := Lib.hid (relB_next hlt HQ.out.1 HQ.out.2.1 HQ.out.2.2.1 HQ.out.2.2.2.1 HQ.out.2.2.2.2.1 q7 q8 HQ.out.2.2.2.2.2 (x := true) (by simp [HAB.out]) o1 g1 hk)
            clear o1 g1
            go_wp2
            refine ⟨.inl c1, ?_⟩
            refine wpAnyG_take [17] _ _ 18 (by kernel_rfl) (by kernel_rfl) (by kernel_rfl) (fun _ _ _ _ _ h => h) (aF := ?_) (w := w1) c1 1 (by kernel_rfl) (by kernel_rfl) (by simp only [subOps, List.filterMap_cons, List.filterMap_nil, List.getElem?_toArray, List.getElem?_cons_zero, List.getElem?_cons_succ]; rfl) (by simp only [List.map_cons, List.map_nil]; rfl) ?_ ?_
            rotate_left
            · intro W hW
              repeat (refine wpStillD_step (fun K hK => ?_); go_simp; refine hK _ ?_; clear hK K)
              refine wpStillD_nil ?_
              rfl
            refine wpAnyG_last (k := 18) rfl (by kernel_rfl) (by kernel_rfl) ?_
            go_wp2
            go_roundw
            case rel => first | exact ⟨b + 1, _, by omega, by go_num, HR.out⟩ | ((repeat apply Exists.intro); exact ⟨⟨b + 1, _, by omega, by go_num, HR.out⟩, rfl⟩)
            case measure => simp [intOf]; omega
          · have hab' : ((a : Int) == (b : Int)) = false := by simp; omega
            have HAB := Lib.hid hab
            clear hab
            go_wp2_with fail
            refine wp_region_g (S := fun W => W.cell? ⟨w.heap.size, a, none⟩ = some (.slice A2 b c2)) (by kernel_rfl) ?_
            refine wpAnyG_take [0,1,2,3,4,5,6,7,8,9,10,11,12] _ _ 18 (by kernel_rfl) (by kernel_rfl) (by kernel_rfl) (fun _ _ _ _ _ h => h) (aF := ?_) (w := wr.drew) c0 6 (by kernel_rfl) (by kernel_rfl) (by simp only [subOps, List.filterMap_cons, List.filterMap_nil, List.getElem?_toArray, List.getElem?_cons_zero, List.getElem?_cons_succ]; rfl) (by simp only [List.map_cons, List.map_nil]; rfl) ?_ ?_
            rotate_left
            · intro W hW
              repeat (refine wpStillD_step (fun K hK => ?_); go_simp; refine hK _ ?_; clear hK K)
              refine wpStillD_nil ?_
              rfl
            refine wpAnyG_one (k := 13) rfl (by kernel_rfl) ?_
            go_wp2_with (refine (HC.out _ a b (HQ.out.2.2.2.2.2).drew hlt hbn).mono ?_; rintro e _ ⟨rfl, rfl⟩)
            refine ⟨.inl c0, ?_⟩
            refine wpAnyG_take [14] _ _ 18 (by kernel_rfl) (by kernel_rfl) (by kernel_rfl) (fun _ _ _ _ _ h => h) (aF := ?_) (w := wr.drew) c0 4 (by kernel_rfl) (by kernel_rfl) (by simp only [subOps, List.filterMap_cons, List.filterMap_nil, List.getElem?_toArray, List.getElem?_cons_zero, List.getElem?_cons_succ]; rfl) (by simp only [List.map_cons, List.map_nil]; rfl) ?_ ?_
            rotate_left
            · intro W hW
              repeat (refine wpStillD_step (fun K hK => ?_); go_simp; refine hK _ ?_; clear hK K)
              refine wpStillD_nil ?_
              rfl
            refine wpAnyG_one (k := 15) rfl (by kernel_rfl) ?_
            go_wp2
            refine ⟨.inl ?_, ?_⟩
            · exact (World.cell?_alloc_lt _ _ _ hsz).trans c0
            refine wpAnyG_one (k := 16) rfl (by kernel_rfl) ?_
            refine wpList_append_lies _ rfl (.tmp 32) (.tmp 42) 41 rfl wo.heap.size 4 i0 _ 1 1 Try.underlying41 hi0 hz0 hz1 hz2 rfl (by omega) (.slice A2 b c2) b _ (by simp [Act.eval]) (by exact (HQ.out.2.2.2.2.1.alloc _).drew) ⟨wr.heap.size, 0, none⟩ 1 1 [.bool (can a b)] (by simp [Act.eval]) rfl (by exact ((Blk.new wr 4 #[.bool (can a b)]).drew).news) (by simp [Value.oneCell']) (by omega) (by simp only [maxLen]; omega) (by omega) (by simp; omega) (wr.heap.size + 1) (by simp) ?_
            intro g cap w1 o1 g1 at1 lt1
            have c1 : w1.cell? ⟨w.heap.size, a, none⟩ = some (.slice A2 b c2) := (g1.cell_far ⟨w.heap.size, a, none⟩ (by simp; omega) hk).trans ((World.cell?_alloc_lt _ _ _ hsz).trans c0)
            have f1 : w1.frozen? ⟨w.heap.size, a, none⟩ = false := (((HQ.out.1.alloc _).drew).grown g1 hk).frozen a
            have HR := Lib.hid (relB_next hlt HQ.out.1 HQ.out.2.1 HQ.out.2.2.1 HQ.out.2.2.2.1 HQ.out.2.2.2.2.1 q7 q8 HQ.out.2.2.2.2.2 (x := (can a b)) (by simp [HAB.out]) o1 g1 hk)
            clear o1 g1
            go_wp2
            refine ⟨.inl c1, ?_⟩
            refine wpAnyG_take [17] _ _ 18 (by kernel_rfl) (by kernel_rfl) (by kernel_rfl) (fun _ _ _ _ _ h => h) (aF := ?_) (w := w1) c1 1 (by kernel_rfl) (by kernel_rfl) (by simp only [subOps, List.filterMap_cons, List.filterMap_nil, List.getElem?_toArray, List.getElem?_cons_zero, List.getElem?_cons_succ]; rfl) (by simp only [List.map_cons, List.map_nil]; rfl) ?_ ?_
            rotate_left
            · intro W hW
              repeat (refine wpStillD_step (fun K hK => ?_); go_simp; refine hK _ ?_; clear hK K)
              refine wpStillD_nil ?_
              rfl
            refine wpAnyG_last (k := 18) rfl (by kernel_rfl) (by kernel_rfl) ?_
            go_wp2
            go_roundw
            case rel => first | exact ⟨b + 1, _, by omega, by go_num, HR.out⟩ | ((repeat apply Exists.intro); exact ⟨⟨b + 1, _, by omega, by go_num, HR.out⟩, rfl⟩)
            case measure => simp [intOf]; omega
        · obtain rfl : b = n := by omega
          have HR := Lib.hid (relA_next ⟨cs, q1, q2, q3, q4, q5, q6, q7, q8, q9⟩ hlt)
          clear q1 q2 q3 q4 q5 q6 q9
          go_wp2
          go_roundw
          case rel => first | exact ⟨a + 1, by omega, by go_num, HR.out⟩ | ((repeat apply Exists.intro); exact ⟨⟨a + 1, by omega, by go_num, HR.out⟩, rfl⟩)
          case measure => simp [intOf]; omega
    · obtain rfl : a = n := by omega
      go_wp2
      go_ret2
      exact ⟨_, rfl, relA_end HA.out (by omega)⟩

set_option maxHeartbeats 1000000 in
set_option maxRecDepth 100000 in
theorem links0 (F n : Nat) (can : Nat → Nat → Bool) (w : World) (hF : ∀ args W, Sem.run Try.prog (callFunc F args) W = .ok (.enter F args) W) (h1 : 1 ≤ n) (h7 : n ≤ 7) (hcan : ∀ (W : World) (a b : Nat), Pure w W → a < n → b < n → Calls Try.prog F #[.int .i64 a, .int .i64 b] W fun e W' => e = .returned (.bool (can a b)) ∧ W = W') :
    Calls Try.prog 55 #[.int .i64 n, .func (.func F) #[] #[]] w fun e w' => ∃ v, e = .returned (.tuple #[v, .nilIface]) ∧ Grid w' (fun k => w.heap.size ≤ k) v (gridOf can n) ∧ Pure w w' := by
  obtain ⟨i1, hi1, hy0, hy1, hy2⟩ := info_parts infoBools
  obtain ⟨i0, hi0, hz0, hz1, hz2⟩ := info_parts infoBool
  have hmk := fun W => run_make_rep (P := Try.prog) 25 41 i1 (.slice none 0 0) Try.underlying25 hi1 hy0 rfl hy1 n (by rw [hy2]; omega) (by omega) W
  have g1 : ¬ (n : Int) < 1 := by omega
  have g2 : ¬ (7 : Int) < (n : Int) := by omega
  have HC := Lib.hid hcan
  clear hcan
  go_enter Try.func55, Try.ntmps55
  go_wp2
  clear hmk
  go_loopw [7, 20] (fun _ i wr => ∃ a : Nat, a ≤ n ∧ i = .int .i64 a ∧ RelA w can n a wr) (fun _ i _ => n - (intOf i).toNat)
  case atStart => exact ⟨0, by omega, rfl, relA_start w can n⟩
  case round =>
    obtain ⟨a, ha, rfl, hrel⟩ := hrel
    have HA := Lib.hid hrel
    clear hrel
    by_cases hlt : a < n
    · have hlt' : (a : Int) < (n : Int) := by omega
      go_wp2
      obtain ⟨wo, rfl⟩ : ∃ wo : World, wo = wr := ⟨_, rfl⟩
      go_loopw [8, 24] (fun _ j wr => ∃ (b : Nat) (v : Value), b ≤ n ∧ j = .int .i64 b ∧ RelB w can n a wo.heap.size b v wr) (fun _ j _ => n - (intOf j).toNat)
      case atStart => exact ⟨0, _, by omega, rfl, relB_start HA.out hlt⟩
      case round =>
        obtain ⟨b, v, hb, rfl, cs, q1, q2, q3, q4, q5, q6, q7, q8, q9⟩ := hrel
        by_cases hbn : b < n
        · have hbn' : (b : Int) < (n : Int) := by omega
          obtain ⟨A2, c2, rfl, _, _⟩ : ∃ A c, v = .slice A b c ∧ b ≤ c ∧ c ≤ 9223372036854775807 := by
            rcases q6.2 with ⟨rfl, rfl⟩ | ⟨g, cap, cur, rfl, _, _, h1, h2, _⟩
            · exact ⟨_, _, rfl, Nat.le_refl _, by omega⟩
            · exact ⟨_, _, rfl, h1, h2⟩
          have c0 : wr.cell? ⟨w.heap.size, a, none⟩ = some (.slice A2 b c2) := by rw [q1.cell]; exact q4
          have f0 : wr.frozen? ⟨w.heap.size, a, none⟩ = false := q1.frozen a
          have hsz := q1.lt
          have hk : some w.heap.size ≠ (Value.slice A2 b c2).ownBlock := own_ne q6 q1 (by decide)
          have HQ := Lib.hid (And.intro q1 (And.intro q2 (And.intro q3 (And.intro q5 (And.intro q6 q9)))))
          clear q1 q2 q3 q4 q5 q6 q9
          by_cases hab : a = b
          · have hab' : ((a : Int) == (b : Int)) = true := by simp; omega
            have HAB := Lib.hid hab
            clear hab
            go_wp2_with fail
            refine wp_region_g (S := fun W => W.cell? ⟨w.heap.size, a, none⟩ = some (.slice A2 b c2)) (by kernel_rfl) ?_
            refine wpAnyG_take [0,1,2,3,4,5,6,7,8,9,10,11,12,13,14] _ _ 18 (by kernel_rfl) (by kernel_rfl) (by kernel_rfl) (fun _ _ _ _ _ h => h) (aF := ?_) (w := wr.drew) c0 4 (by kernel_rfl) (by kernel_rfl) (by simp only [subOps, List.filterMap_cons, List.filterMap_nil, List.getElem?_toArray, List.getElem?_cons_zero, List.getElem?_cons_succ]; rfl) (by simp only [List.map_cons, List.map_nil]; rfl) ?_ ?_
            rotate_left
            · intro W hW
              repeat (refine wpStillD_step (fun K hK => ?_); go_simp; refine hK _ ?_; clear hK K)
              refine wpStillD_nil ?_
              rfl
            refine wpAnyG_one (k := 15) rfl (by kernel_rfl) ?_
            go_wp2
            refine ⟨.inl ?_, ?_⟩
            · exact (World.cell?_alloc_lt _ _ _ hsz).trans c0
            refine wpAnyG_one (k := 16) rfl (by kernel_rfl) ?_
            refine wpList_append_lies _ rfl (.tmp 32) (.tmp 42) 41 rfl wo.heap.size 4 i0 _ 1 1 Try.underlying41 hi0 hz0 hz1 hz2 rfl (by omega) (.slice A2 b c2) b _ (by simp [Act.eval]) (by exact (HQ.out.2.2.2.2.1.alloc _).drew) ⟨wr.heap.size, 0, none⟩ 1 1 [.bool true] (by simp [Act.eval]) rfl (by exact ((Blk.new wr 4 #[.bool true]).drew).news) (by simp [Value.oneCell']) (by omega) (by simp only [maxLen]; omega) (by omega) (by simp; omega) (wr.heap.size + 1) (by simp) ?_
            intro g cap w1 o1 g1 at1 lt1
            have c1 : w1.cell? ⟨w.heap.size, a, none⟩ = some (.slice A2 b c2) := (g1.cell_far ⟨w.heap.size, a, none⟩ (by simp; omega) hk).trans ((World.cell?_alloc_lt _ _ _ hsz).trans c0)
            have f1 : w1.frozen? ⟨w.heap.size, a, none⟩ = false := (((HQ.out.1.alloc _).drew).grown g1 hk).frozen a
            have HR := Lib.hid (relB_next hlt HQ.out.1 HQ.out.2.1 HQ.out.2.2.1 HQ.out.2.2.2.1 HQ.out.2.2.2.2.1 q7 q8 HQ.out.2.2.2.2.2 (x := true) (by simp [HAB.out]) o1 g1 hk)
            clear o1 g1
            go_wp2
            refine ⟨.inl c1, ?_⟩
            refine wpAnyG_take [17] _ _ 18 (by kernel_rfl) (by kernel_rfl) (by kernel_rfl) (fun _ _ _ _ _ h => h) (aF := ?_) (w := w1) c1 1 (by kernel_rfl) (by kernel_rfl) (by simp only [subOps, List.filterMap_cons, List.filterMap_nil, List.getElem?_toArray, List.getElem?_cons_zero, List.getElem?_cons_succ]; rfl) (by simp only [List.map_cons, List.map_nil]; rfl) ?_ ?_
            rotate_left
            · intro W hW
              repeat (refine wpStillD_step (fun K hK => ?_); go_simp; refine hK _ ?_; clear hK K)
              refine wpStillD_nil ?_
              rfl
            refine wpAnyG_last (k := 18) rfl (by kernel_rfl) (by kernel_rfl) ?_
            go_wp2
            go_roundw
            case rel => first | exact ⟨b + 1, _, by omega, by go_num, HR.out⟩ | ((repeat apply Exists.intro); exact ⟨⟨b + 1, _, by omega, by go_num, HR.out⟩, rfl⟩)
            case measure => simp [intOf]; omega
          · have hab' : ((a : Int) == (b : Int)) = false := by simp; omega
            have HAB := Lib.hid hab
            clear hab
            go_wp2_with fail
            refine wp_region_g (S := fun W => W.cell? ⟨w.heap.size, a, none⟩ = some (.slice A2 b c2)) (by kernel_rfl) ?_
            refine wpAnyG_take [0,1,2,3,4,5,6,7,8,9,10,11,12] _ _ 18 (by kernel_rfl) (by kernel_rfl) (by kernel_rfl) (fun _ _ _ _ _ h => h) (aF := ?_) (w := wr.drew) c0 6 (by kernel_rfl) (by kernel_rfl) (by simp only [subOps, List.filterMap_cons, List.filterMap_nil, List.getElem?_toArray, List.getElem?_cons_zero, List.getElem?_cons_succ]; rfl) (by simp only [List.map_cons, List.map_nil]; rfl) ?_ ?_
            rotate_left
            · intro W hW
              repeat (refine wpStillD_step (fun K hK => ?_); go_simp; refine hK _ ?_; clear hK K)
              refine wpStillD_nil ?_
              rfl
            refine wpAnyG_one (k := 13) rfl (by kernel_rfl) ?_
            go_wp2_with (refine (HC.out _ a b (HQ.out.2.2.2.2.2).drew hlt hbn).mono ?_; rintro e _ ⟨rfl, rfl⟩)
            refine ⟨.inl c0, ?_⟩
            refine wpAnyG_take [14] _ _ 18 (by kernel_rfl) (by kernel_rfl) (by kernel_rfl) (fun _ _ _ _ _ h => h) (aF := ?_) (w := wr.drew) c0 4 (by kernel_rfl) (by kernel_rfl) (by simp only [subOps, List.filterMap_cons, List.filterMap_nil, List.getElem?_toArray, List.getElem?_cons_zero, List.getElem?_cons_succ]; rfl) (by simp only [List.map_cons, List.map_nil]; rfl) ?_ ?_
            rotate_left
            · intro W hW
              repeat (refine wpStillD_step (fun K hK => ?_); go_simp; refine hK _ ?_; clear hK K)
              refine wpStillD_nil ?_
              rfl
            refine wpAnyG_one (k := 15) rfl (by kernel_rfl) ?_
            go_wp2
            refine ⟨.inl ?_, ?_⟩
            · exact (World.cell?_alloc_lt _ _ _ hsz).trans c0
            refine wpAnyG_one (k := 16) rfl (by kernel_rfl) ?_
            refine wpList_append_lies _ rfl (.tmp 32) (.tmp 42) 41 rfl wo.heap.size 4 i0 _ 1 1 Try.underlying41 hi0 hz0 hz1 hz2 rfl (by omega) (.slice A2 b c2) b _ (by simp [Act.eval]) (by exact (HQ.out.2.2.2.2.1.alloc _).drew) ⟨wr.heap.size, 0, none⟩ 1 1 [.bool (can a b)] (by simp [Act.eval]) rfl (by exact ((Blk.new wr 4 #[.bool (can a b)]).drew).news) (by simp [Value.oneCell']) (by omega) (by simp only [maxLen]; omega) (by omega) (by simp; omega) (wr.heap.size + 1) (by simp) ?_
            intro g cap w1 o1 g1 at1 lt1
            have c1 : w1.cell? ⟨w.heap.size, a, none⟩ = some (.slice A2 b c2) := (g1.cell_far ⟨w.heap.size, a, none⟩ (by simp; omega) hk).trans ((World.cell?_alloc_lt _ _ _ hsz).trans c0)
            have f1 : w1.frozen? ⟨w.heap.size, a, none⟩ = false := (((HQ.out.1.alloc _).drew).grown g1 hk).frozen a
            have HR := Lib.hid (relB_next hlt HQ.out.1 HQ.out.2.1 HQ.out.2.2.1 HQ.out.2.2.2.1 HQ.out.2.2.2.2.1 q7 q8 HQ.out.2.2.2.2.2 (x := (can a b)) (by simp [HAB.out]) o1 g1 hk)
            clear o1 g1
            go_wp2
            refine ⟨.inl c1, ?_⟩
            refine wpAnyG_take [17] _ _ 18 (by kernel_rfl) (by kernel_rfl) (by kernel_rfl) (fun _ _ _ _ _ h => h) (aF := ?_) (w := w1) c1 1 (by kernel_rfl) (by kernel_rfl) (by simp only [subOps, List.filterMap_cons, List.filterMap_nil, List.getElem?_toArray, List.getElem?_cons_zero, List.getElem?_cons_succ]; rfl) (by simp only [List.map_cons, List.map_nil]; rfl) ?_ ?_
            rotate_left
            · intro W hW
              repeat (refine wpStillD_step (fun K hK => ?_); go_simp; refine hK _ ?_; clear hK K)
              refine wpStillD_nil ?_
              rfl
            refine wpAnyG_last (k := 18) rfl (by kernel_rfl) (by kernel_rfl) ?_
            go_wp2
            go_roundw
            case rel => first | exact ⟨b + 1, _, by omega, by go_num, HR.out⟩ | ((repeat apply Exists.intro); exact ⟨⟨b + 1, _, by omega, by go_num, HR.out⟩, rfl⟩)
            case measure => simp [intOf]; omega
        · obtain rfl : b = n := by omega
          have HR := Lib.hid (relA_next ⟨cs, q1, q2, q3, q4, q5, q6, q7, q8, q9⟩ hlt)
          clear q1 q2 q3 q4 q5 q6 q9
          go_wp2
          go_roundw
          case rel => first | exact ⟨a + 1, by omega, by go_num, HR.out⟩ | ((repeat apply Exists.intro); exact ⟨⟨a + 1, by omega, by go_num, HR.out⟩, rfl⟩)
          case measure => simp [intOf]; omega
    · obtain rfl : a = n := by omega
      go_wp2
      go_ret2
      exact ⟨_, rfl, relA_end HA.out (by omega)⟩

end Go.Proofs.Ytcpcneggclgbcaa
