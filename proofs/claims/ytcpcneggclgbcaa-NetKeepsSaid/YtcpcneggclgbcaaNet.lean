/- The functions of a net of ints: each does to the list of mails what its name says. -/
import Derived.Test.YtcpcneggclgbcaaProg
import Derived.Test.YtcpcneggclgbcaaBase
namespace Go.Proofs.Ytcpcneggclgbcaa
open Go.RowKit
set_option linter.unusedVariables false

theorem infoMail : (Try.prog.info? 32).map (fun i => (i.zero, i.size, i.bytes)) = some (some (.agg #[.int .i64 0, .int .i64 0, .int .i64 0]), 3, 24) := by kernel_rfl
theorem zeroMail (w : World) : (zeroValue 32).run Try.prog w = .ok (.agg #[.int .i64 0, .int .i64 0, .int .i64 0]) w := by kernel_rfl

/-- Block b is a net without cuts whose mails are the cells xs, n mails. -/
structure NetIs (w : World) (b base : Nat) (v : Value) (n : Nat) (xs : List Value) : Prop where
  blk : Blk w b 27 #[v, .slice none 0 0, .bool false]
  own : w.ownsRow base 32 3 v n xs
  lt : b < base
  le : base ≤ w.heap.size

theorem own_form {w : World} {base : Nat} {e : TypeId} {size n : Nat} {v : Value} {xs : List Value} (h : w.ownsRow base e size v n xs) : ∃ A c, v = .slice A n c ∧ n ≤ c ∧ c ≤ 9223372036854775807 := by
  rcases h.2 with ⟨rfl, rfl⟩ | ⟨g, cap, cur, rfl, _, _, h1, h2, _⟩
  · exact ⟨_, _, rfl, Nat.le_refl _, by omega⟩
  · exact ⟨_, _, rfl, h1, h2⟩

set_option maxHeartbeats 400000 in
theorem has_yes (b : Nat) (i : Int) (A : Option Addr) (n c : Nat) (w : World)
   (hc : w.cell? ⟨b, 0, none⟩ = some (.slice A n c)) (h0 : 0 ≤ i) (h1 : i < n) :
    Calls Try.prog 30 #[.pointer (some ⟨b, 0, none⟩), .int .i64 i] w fun e w' => e = .returned (.bool true) ∧ w = w' := by
  go_enter Try.func30, Try.ntmps30
  go_wp2
  go_ret
  exact ⟨rfl, rfl⟩

set_option maxHeartbeats 400000 in
theorem waiting_any (b : Nat) (A : Option Addr) (n c : Nat) (w : World) (hc : w.cell? ⟨b, 0, none⟩ = some (.slice A n c)) :
    Calls Try.prog 13 #[.pointer (some ⟨b, 0, none⟩)] w fun e w' => e = .returned (.int .i64 n) ∧ w = w' := by
  go_enter Try.func13, Try.ntmps13
  go_wp2
  go_ret
  exact ⟨rfl, rfl⟩

set_option maxHeartbeats 400000 in
theorem can_any (b : Nat) (f t : Int) (w : World) (hc : w.cell? ⟨b, 2, none⟩ = some (.bool false)) :
    Calls Try.prog 33 #[.pointer (some ⟨b, 0, none⟩), .int .i64 f, .int .i64 t] w fun e w' => e = .returned (.bool true) ∧ w = w' := by
  go_enter Try.func33, Try.ntmps33
  go_wp2
  go_ret
  exact ⟨rfl, rfl⟩

set_option maxHeartbeats 400000 in
theorem at_any (b : Nat) (i : Nat) (g o n c : Nat) (x y z : Int) (w : World)
   (hc : w.cell? ⟨b, 0, none⟩ = some (.slice (some ⟨g, o, none⟩) n c)) (h1 : i < n) (hn : n ≤ 9223372036854775807)
   (c0 : w.cell? ⟨g, o + i * 3, none⟩ = some (.int .i64 x)) (c1 : w.cell? ⟨g, o + i * 3 + 1, none⟩ = some (.int .i64 y)) (c2 : w.cell? ⟨g, o + i * 3 + 2, none⟩ = some (.int .i64 z)) (hb : b < w.heap.size) (hg : g < w.heap.size) :
    Calls Try.prog 32 #[.pointer (some ⟨b, 0, none⟩), .int .i64 i] w fun e w' => e = .returned (.tuple #[.agg #[.int .i64 x, .int .i64 y, .int .i64 z], .bool true]) ∧ Pure w w' := by
  go_enter Try.func32, Try.ntmps32
  go_wp2_with (go_at_call 30; refine (has_yes b i (some ⟨g, o, none⟩) n c _ (by exact (World.cell?_alloc_lt _ _ _ hb).trans hc) (by omega) (by omega)).mono ?_; rintro e w' ⟨rfl, rfl⟩)
  refine bodyPost_ret (v := .tuple #[.agg #[.int .i64 x, .int .i64 y, .int .i64 z], .bool true]) (by simp [results, Try.results32, go_sem]) rfl ⟨rfl, ?_⟩
  repeat (first | exact Pure.refl _ | apply Pure.alloc | apply Pure.drew | (apply Pure.setCell; simp; done))

set_option maxHeartbeats 400000 in
set_option maxRecDepth 100000 in
theorem send_any (b base n : Nat) (v : Value) (xs : List Value) (x y z : Int) (w : World) (h : NetIs w b base v n xs) (hn : n < 500) :
    Calls Try.prog 9 #[.pointer (some ⟨b, 0, none⟩), .agg #[.int .i64 x, .int .i64 y, .int .i64 z]] w fun e w' => e = .returned .nilIface ∧
      ∃ v', NetIs w' b base v' (n + 1) (xs ++ [.int .i64 x, .int .i64 y, .int .i64 z]) ∧ Chg (fun k => k = b ∨ some k = v.ownBlock) w w' := by
  obtain ⟨hblk, hown, hlt, hle⟩ := h
  obtain ⟨i0, hi0, hz0, hz1, hz2⟩ := info_parts infoMail
  obtain ⟨A, c, rfl, _, _⟩ := own_form hown
  have c0 : w.cell? ⟨b, 0, none⟩ = some (.slice A n c) := by rw [hblk.cell]; rfl
  have f0 : w.frozen? ⟨b, 0, none⟩ = false := hblk.frozen 0
  have hb := hblk.lt
  have hn' : ¬ (500 : Int) ≤ (n : Int) := by omega
  have HO := Lib.hid hown
  have HB := Lib.hid hblk
  clear hown hblk
  go_enter Try.func9, Try.ntmps9
  go_wp2
  go_region_law (refine step_append_lies _ rfl (.tmp 16) (.tmp 18) 23 rfl base 32 i0 _ 3 24 Try.underlying23 hi0 hz0 hz1 hz2 rfl (by omega) (.slice A n c) n xs (by simp [Act.eval]) (by exact ((HO.out.alloc _).alloc _).drew) ⟨w.heap.size + 1, 0, none⟩ 1 1 [.int .i64 x, .int .i64 y, .int .i64 z] (by simp [Act.eval]) rfl (by exact ((Blk.new' (g := w.heap.size + 1) _ 32 #[.int .i64 x, .int .i64 y, .int .i64 z] (by simp)).drew).news) (by simp [Value.oneCell']) (by omega) (by simp only [maxLen]; omega) (by omega) (by simp; omega) (w.heap.size + 2) (by simp) ?_; intro g cap w1 o1 g1 at1 lt1; have hk : some b ≠ (Value.slice A n c).ownBlock := own_ne HO.out HB.out (by decide); have c1 := (g1.cell_far ⟨b, 0, none⟩ (by simp; omega) hk); have f1 := (g1.frozen_far ⟨b, 0, none⟩ (by simp; omega) hk); simp only [World.cell?_drew, World.frozen?_drew] at c1 f1)
  all_goals
    go_wp2
    go_ret
    have hg2 := g1.size
    simp at hg2
    refine ⟨rfl, .slice (some ⟨g, 0, none⟩) (n + 1) cap, ⟨?_, ?_, hlt, ?_⟩, ?_⟩
    · exact ((((HB.out.alloc _).alloc _).drew).grown g1 hk).set_ 0 _
    · exact ownsRow_setCell_below o1 hlt _
    · simp [World.setCell]; omega
    · exact ((((((Chg.refl _ w).alloc _).alloc _).drew).grown g1 (fun k hk => .inl (.inr hk.symm)))).setCell (.inl (.inl rfl)) _

theorem delete_cells (cur : Array Value) (xs news zs : List Value) (n k size : Nat) (htake : cur.toList.take (n * size) = xs) (hlen : xs.length = n * size) (hk : k < n) (hnews : news = xs.drop ((k + 1) * size)) (hz : zs.length = size) (hcs : n * size ≤ cur.size) :
    (splice (splice cur (0 + k * size) news) ((k + (n - (k + 1))) * size) zs).toList.take ((n - 1) * size) = xs.take (k * size) ++ xs.drop ((k + 1) * size) := by
  have e1 : (k + (n - (k + 1))) = n - 1 := by omega
  have hnl : news.length = (n - (k + 1)) * size := by rw [hnews, List.length_drop, hlen, Nat.sub_mul]
  have e2 : k * size + (n - (k + 1)) * size = (n - 1) * size := by rw [← Nat.add_mul]; congr 1
  have e3 : (n - 1) * size + size = n * size := by
    have : n = (n - 1) + 1 := by omega
    conv => rhs; rw [this, Nat.add_mul, Nat.one_mul]
  have e4 : k * size ≤ n * size := Nat.mul_le_mul_right _ (by omega)
  rw [e1, splice_list _ _ _ (by rw [splice_size, hz]; omega), List.append_assoc, List.take_append_of_le_length (by rw [List.length_take, Array.length_toList, splice_size]; omega), List.take_take, Nat.min_self,
    splice_list _ _ _ (by rw [hnl]; omega), Nat.zero_add, List.take_append_of_le_length (by rw [List.length_append, List.length_take, Array.length_toList, hnl]; omega), List.take_of_length_le (by rw [List.length_append, List.length_take, Array.length_toList, hnl]; omega), hnews, ← htake, List.take_take, Nat.min_eq_left e4]


set_option maxHeartbeats 400000 in
set_option maxRecDepth 100000 in
theorem delete_any (base n k : Nat) (v : Value) (xs : List Value) (w : World) (h : w.ownsRow base 32 3 v n xs) (h1 : ∀ u ∈ xs, u.oneCell' = true) (hk : k < n) (hn : n ≤ 1000) :
    Calls Try.prog 31 #[v, .int .i64 k, .int .i64 ((k : Int) + 1)] w fun e w' => ∃ v', e = .returned v' ∧
      w'.ownsRow base 32 3 v' (n - 1) (cutAt 3 k xs) ∧ Chg (fun k => some k = v.ownBlock) w w' ∧ v'.ownBlock = v.ownBlock := by
  obtain ⟨i0, hi0, hz0, hz1, hz2⟩ := info_parts infoMail
  rcases h.2 with ⟨rfl, rfl⟩ | ⟨g, cap, cur, rfl, hbg, hg, hnc, hcm, hcs, htake⟩
  · omega
  have hlen := h.1
  simp only [maxLen] at hcm
  have hB : Blk w g 32 cur := hg
  obtain ⟨news, hnews⟩ : ∃ news, news = xs.drop ((k + 1) * 3) := ⟨_, rfl⟩
  have hnl : news.length = (n - (k + 1)) * 3 := by rw [hnews, List.length_drop, hlen]; omega
  have hget : ∀ j u, xs[j]? = some u → w.cell? ⟨g, j, none⟩ = some u := fun j u hj => by
    rw [hB.cell, ← Array.getElem?_toList]
    rw [← htake, List.getElem?_take] at hj
    split at hj
    · exact hj
    · cases hj
  obtain ⟨A, hA, hsrc⟩ : ∃ A : Addr, (if cap = k + 1 then some (⟨g, 0, none⟩ : Addr) else some ⟨g, (k + 1) * 3, none⟩) = some A ∧ Hid (∀ t u, news[t]? = some u → w.drew.cell? (A.add t) = some u) := by
    by_cases hc : cap = k + 1
    · refine ⟨_, by rw [if_pos hc], fun t u hu => ?_⟩
      have h0 : news.length = 0 := by rw [hnl]; omega
      rw [List.length_eq_zero_iff.1 h0] at hu
      simp at hu
    · refine ⟨_, by rw [if_neg hc], fun t u hu => ?_⟩
      rw [Addr.add_lit]
      rw [hnews, List.getElem?_drop] at hu
      exact hget _ u hu
  have s1 : Hid (news.length = (n - (k + 1)) * 3) := hnl
  have s2 : Hid (∀ u ∈ news, u.oneCell' = true) := fun u hu => h1 u (List.mem_of_mem_drop (hnews ▸ hu))
  have s3 : Hid (∀ t, t < news.length → (w.drew.cell? ⟨g, 0 + k * 3 + t, none⟩).isSome = true ∧ w.drew.frozen? ⟨g, 0 + k * 3 + t, none⟩ = false) := by
    intro t ht
    refine ⟨?_, hB.frozen _⟩
    show (w.cell? _).isSome = true
    rw [hB.cell, Array.getElem?_eq_getElem (by rw [hcs]; omega)]
    rfl
  obtain ⟨W1, hW1⟩ : ∃ W1, W1 = w.drew.setCells g (0 + k * 3) news := ⟨_, rfl⟩
  have hB1 : Blk W1 g 32 (splice cur (0 + k * 3) news) := by rw [hW1]; exact hB.drew.setCells _ _
  have hcl : ∀ ty, (Builtin.clear_ #[23] ty #[.slice (some ⟨g, (k + (n - (k + 1))) * 3, none⟩) (n - (k + (n - (k + 1)))) (cap - (k + (n - (k + 1))))]).run Try.prog W1 = .ok (.tuple #[]) (W1.setCells g ((k + (n - (k + 1))) * 3) (Builtin.zeroCells #[.int .i64 0, .int .i64 0, .int .i64 0] (n - (k + (n - (k + 1))))).toList) :=
    fun ty => run_clear_row W1 _ _ ty _ Try.underlying23 zeroMail (by simp [Value.cells, Value.oneCell']) g _ _ _ (by omega) (fun j hj => by
      rw [hB1.cell, Array.getElem?_eq_getElem (by rw [splice_size, hcs]; simp [Value.cells] at hj; omega)]; rfl) (fun j _ => hB1.frozen _)
  have HW := Lib.hid hW1
  have HB1 := Lib.hid hB1
  have hkc : k ≤ cap := by omega
  have hkc1 : k + 1 ≤ cap := by omega
  have e1 : IntKind.i64.wrap ((k : Int) + 1) = (k : Int) + 1 := by rw [IntKind.wrap_i64]; omega
  have hne : ((k : Int) == (k : Int) + 1) = false := by rw [beq_eq_false_iff_ne]; omega
  have HX := Lib.hid htake
  have HN := Lib.hid hnews
  have HL := Lib.hid hlen
  have HCS := Lib.hid hcs
  clear hget hB hB1 hW1 hnl hnews h h1 hg htake hlen hcs
  go_enter Try.func31, Try.ntmps31
  have hp0 : (0 : Int) ≤ (k : Int) + 1 := by omega
  have hp1 : (k : Int) + 1 ≤ (n : Int) := by omega
  have hp2 : ((k : Int) + 1).toNat = k + 1 := by omega
  have hp3 : (k : Int) ≤ (cap : Int) := by omega
  go_wp2_with fail
  go_region_law (refine step_append_room rfl (.tmp 22) (.tmp 25) 23 rfl 32 i0 3 Try.underlying23 hi0 hz1 g 0 k cap (by simp [Act.eval, Act.put]) A (n - (k + 1)) (cap - (k + 1)) news (by simp [Act.eval, Act.put]) s1.out hsrc.out s2.out (by omega) s3.out ?_; rw [← HW.out])
  go_wp2
  go_ret
  refine ⟨.slice (some ⟨g, 0, none⟩) (k + (n - (k + 1))) cap, rfl, ⟨?_, .inr ⟨g, cap, splice (splice cur (0 + k * 3) news) ((k + (n - (k + 1))) * 3) (Builtin.zeroCells #[.int .i64 0, .int .i64 0, .int .i64 0] (n - (k + (n - (k + 1))))).toList, by rw [show k + (n - (k + 1)) = n - 1 by omega], hbg, HB1.out.setCells _ _, by omega, by simp only [maxLen]; omega, ?_, ?_⟩⟩, ?_, rfl⟩
  · simp only [cutAt, List.length_append, List.length_take, List.length_drop, HL.out]; omega
  · rw [splice_size, splice_size]; exact HCS.out
  · exact delete_cells cur xs news _ n k 3 HX.out HL.out (by omega) HN.out (by simp [Builtin.zeroCells]; omega) (by rw [HCS.out]; omega)
  · have hS : (fun k => some k = (Value.slice (some ⟨g, 0, none⟩) n cap).ownBlock) g ∨ w.heap.size ≤ g := .inl rfl
    refine Chg.setCells hS _ _ ?_
    rw [HW.out]
    exact Chg.setCells hS _ _ (Chg.refl _ w).drew

set_option maxHeartbeats 400000 in
theorem drop_any (b base n k : Nat) (v : Value) (xs : List Value) (w : World) (h : NetIs w b base v n xs) (h1 : ∀ u ∈ xs, u.oneCell' = true) (hk : k < n) (hn : n ≤ 1000) :
    Calls Try.prog 11 #[.pointer (some ⟨b, 0, none⟩), .int .i64 k] w fun e w' => e = .returned .nilIface ∧
      ∃ v', NetIs w' b base v' (n - 1) (cutAt 3 k xs) ∧ Chg (fun k => k = b ∨ some k = v.ownBlock) w w' ∧ v'.ownBlock = v.ownBlock := by
  obtain ⟨hblk, hown, hlt, hle⟩ := h
  obtain ⟨A, c, rfl, _, _⟩ := own_form hown
  have c0 : w.cell? ⟨b, 0, none⟩ = some (.slice A n c) := by rw [hblk.cell]; rfl
  have f0 : w.frozen? ⟨b, 0, none⟩ = false := hblk.frozen 0
  have hk0 : some b ≠ (Value.slice A n c).ownBlock := own_ne hown hblk (by decide)
  have HO := Lib.hid hown
  have HB := Lib.hid hblk
  have H1 := Lib.hid h1
  clear hown hblk h1
  go_enter Try.func11, Try.ntmps11
  go_wp2_with (go_at_call 30; refine (has_yes b k A n c _ c0 (by omega) (by omega)).mono ?_; rintro e w' ⟨rfl, rfl⟩)
  refine (delete_any base n k _ xs _ HO.out H1.out hk hn).mono ?_
  rintro e w1 ⟨v', rfl, o1, g1, e1⟩
  have hB1 := HB.out.chg g1 hk0
  have c1 : w1.cell? ⟨b, 0, none⟩ = some (.slice A n c) := by rw [hB1.cell]; rfl
  have f1 : w1.frozen? ⟨b, 0, none⟩ = false := hB1.frozen 0
  obtain ⟨A', c', rfl, _, _⟩ := own_form o1
  have HB1 := Lib.hid hB1
  have HE := Lib.hid e1
  clear hB1 e1
  go_wp2
  go_ret
  have hg2 := g1.size
  refine ⟨rfl, .slice A' (n - 1) c', ⟨HB1.out.set_ 0 _, ownsRow_setCell_below o1 hlt _, hlt, ?_⟩, ?_, HE.out⟩
  · simp [World.setCell]; omega
  · exact (g1.mono (fun i _ h => .inr h)).setCell (.inl (.inl rfl)) _

set_option maxHeartbeats 400000 in
theorem take_any (b base n k : Nat) (v : Value) (xs : List Value) (x y z : Int) (w : World) (h : NetIs w b base v n xs) (h1 : ∀ u ∈ xs, u.oneCell' = true) (hk : k < n) (hn : n ≤ 1000)
    (hx : xs[k * 3]? = some (.int .i64 x)) (hy : xs[k * 3 + 1]? = some (.int .i64 y)) (hz : xs[k * 3 + 2]? = some (.int .i64 z)) :
    Calls Try.prog 12 #[.pointer (some ⟨b, 0, none⟩), .int .i64 k] w fun e w' => e = .returned (.tuple #[.agg #[.int .i64 x, .int .i64 y, .int .i64 z], .nilIface]) ∧
      ∃ v', NetIs w' b base v' (n - 1) (cutAt 3 k xs) ∧ Chg (fun k => k = b ∨ some k = v.ownBlock) w w' ∧ v'.ownBlock = v.ownBlock := by
  obtain ⟨hblk, hown, hlt, hle⟩ := h
  obtain ⟨g, c, rfl, hbg, hgs⟩ := hown.form (by omega)
  have hk0 : some b ≠ (Value.slice (some ⟨g, 0, none⟩) n c).ownBlock := own_ne hown hblk (by decide)
  have q0 : w.cell? ⟨g, 0 + k * 3, none⟩ = some (.int .i64 x) := by rw [Nat.zero_add, hown.cellAt _ (by omega)]; exact hx
  have q1 : w.cell? ⟨g, 0 + k * 3 + 1, none⟩ = some (.int .i64 y) := by rw [Nat.zero_add, hown.cellAt _ (by omega)]; exact hy
  have q2 : w.cell? ⟨g, 0 + k * 3 + 2, none⟩ = some (.int .i64 z) := by rw [Nat.zero_add, hown.cellAt _ (by omega)]; exact hz
  have HO := Lib.hid hown
  have HB := Lib.hid hblk
  have H1 := Lib.hid h1
  have hbs := hblk.lt
  have HQ := Lib.hid (And.intro q0 (And.intro q1 q2))
  clear hown hblk h1 q0 q1 q2 hx hy hz
  go_enter Try.func12, Try.ntmps12
  go_wp2_with fail
  refine (at_any b k g 0 n c x y z _ (by rw [(HB.out.alloc _).cell]; rfl) hk (by omega) ?_ ?_ ?_ (by simp; omega) (by simp; omega)).mono ?_
  · exact (World.cell?_alloc_lt _ _ _ hgs).trans HQ.out.1
  · exact (World.cell?_alloc_lt _ _ _ hgs).trans HQ.out.2.1
  · exact (World.cell?_alloc_lt _ _ _ hgs).trans HQ.out.2.2
  rintro e w1 ⟨rfl, p1⟩
  have hs1 := p1.size
  simp at hs1
  have HB1 := Lib.hid ((HB.out.alloc _).pure p1)
  have HR1 := Lib.hid ((Blk.new w 32 #[.int .i64 0, .int .i64 0, .int .i64 0]).pure p1)
  have HO1 : Hid (w1.ownsRow base 32 3 (Value.slice (some ⟨g, 0, none⟩) n c) n xs) := (HO.out.alloc _).kept (row := none) ⟨p1.os, p1.tape, p1.output, p1.size, fun k hk _ => p1.block k hk⟩ (.inr (by simp [Value.ownBlock]))
  have P1 := Lib.hid (((Pure.refl w).alloc _).trans p1)
  clear p1
  go_wp2_with fail
  have HM2 := Lib.hid (Blk.new w1 32 #[.int .i64 x, .int .i64 y, .int .i64 z])
  have HB2 := Lib.hid (HB1.out.alloc (.cells #[.int .i64 x, .int .i64 y, .int .i64 z] 32))
  have HR2 := Lib.hid (HR1.out.alloc (.cells #[.int .i64 x, .int .i64 y, .int .i64 z] 32))
  have HO2 := Lib.hid (HO1.out.alloc (.cells #[.int .i64 x, .int .i64 y, .int .i64 z] 32))
  have P2 := Lib.hid (P1.out.alloc (.cells #[.int .i64 x, .int .i64 y, .int .i64 z] 32))
  generalize w1.alloc (.cells #[.int .i64 x, .int .i64 y, .int .i64 z] 32) = w2 at *
  refine (can_any b x y _ (by rw [HB2.out.cell]; rfl)).mono ?_
  rintro e w2 ⟨rfl, rfl⟩
  have c2 : w2.cell? ⟨b, 0, none⟩ = some (.slice (some ⟨g, 0, none⟩) n c) := by rw [HB2.out.cell]; rfl
  go_wp2_with fail
  refine (delete_any base n k _ xs _ HO2.out H1.out hk hn).mono ?_
  rintro e w3 ⟨v', rfl, o3, g3, e3⟩
  clear c2
  have hB3 := HB2.out.chg g3 hk0
  have hng : ∀ r, base ≤ r → r ≠ g → ¬ some r = (Value.slice (some ⟨g, 0, none⟩) n c).ownBlock := fun r _ h e => h (by simpa [Value.ownBlock] using e)
  have hM3 := HM2.out.chg g3 (hng _ (by omega) (by omega))
  have hR3 := HR2.out.chg g3 (hng _ (by omega) (by omega))
  have c3 : w3.cell? ⟨b, 0, none⟩ = some (.slice (some ⟨g, 0, none⟩) n c) := by rw [hB3.cell]; rfl
  have f3 : w3.frozen? ⟨b, 0, none⟩ = false := hB3.frozen 0
  have m0 : w3.cell? ⟨w1.heap.size, 0, none⟩ = some (.int .i64 x) := by rw [hM3.cell]; rfl
  have m1 : w3.cell? ⟨w1.heap.size, 1, none⟩ = some (.int .i64 y) := by rw [hM3.cell]; rfl
  have m2 : w3.cell? ⟨w1.heap.size, 2, none⟩ = some (.int .i64 z) := by rw [hM3.cell]; rfl
  have r0 : w3.cell? ⟨w.heap.size, 0, none⟩ = some (.int .i64 0) := by rw [hR3.cell]; rfl
  have r1 : w3.cell? ⟨w.heap.size, 1, none⟩ = some (.int .i64 0) := by rw [hR3.cell]; rfl
  have r2 : w3.cell? ⟨w.heap.size, 2, none⟩ = some (.int .i64 0) := by rw [hR3.cell]; rfl
  have t0 : w3.frozen? ⟨w.heap.size, 0, none⟩ = false := hR3.frozen 0
  have t1 : w3.frozen? ⟨w.heap.size, 1, none⟩ = false := hR3.frozen 1
  have t2 : w3.frozen? ⟨w.heap.size, 2, none⟩ = false := hR3.frozen 2
  have n1 : b ≠ w.heap.size := by omega
  have n2 : b ≠ w1.heap.size := by omega
  have n3 : w.heap.size ≠ w1.heap.size := by omega
  obtain ⟨A', c', rfl, _, _⟩ := own_form o3
  have HB3 := Lib.hid hB3
  have HE := Lib.hid e3
  have HO3 := Lib.hid o3
  have HG3 := Lib.hid g3
  clear hB3 hM3 hR3 e3 o3 g3
  go_wp2
  have hs3 := HG3.out.size
  have hP2 := P2.out.size
  refine bodyPost_ret (v := .tuple #[.agg #[.int .i64 x, .int .i64 y, .int .i64 z], .nilIface]) (by simp [results, Try.results12, go_sem, *]) rfl ⟨rfl, .slice A' (n - 1) c', ⟨?_, ?_, hlt, ?_⟩, ?_, HE.out⟩
  · exact (((HB3.out.set_ 0 _).far (p := ⟨w.heap.size, 0, none⟩) n1 _).far (p := ⟨w.heap.size, 1, none⟩) n1 _).far (p := ⟨w.heap.size, 2, none⟩) n1 _
  · have hne : (Value.slice A' (n - 1) c').ownBlock ≠ some w.heap.size := by rw [HE.out]; simp [Value.ownBlock]; omega
    exact ownsRow_setCell_other (ownsRow_setCell_other (ownsRow_setCell_other (ownsRow_setCell_below HO3.out hlt _) hne _) hne _) hne _
  · simp [World.setCell]; omega
  · refine (((?_ : Chg _ w _).setCell (.inr (by simp)) _).setCell (.inr (by simp)) _).setCell (.inr (by simp)) _
    refine Chg.setCell ?_ (.inl (.inl rfl)) _
    exact ((P2.out.chg _).trans' HG3.out (fun i _ h => .inr h))
end Go.Proofs.Ytcpcneggclgbcaa
