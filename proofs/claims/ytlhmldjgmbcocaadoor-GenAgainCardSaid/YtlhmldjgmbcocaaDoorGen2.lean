/- gen: slices.Delete at generators. -/
import Derived.Test.YtlhmldjgmbcocaaDoorProg
import Derived.Test.YtlhmldjgmbcocaaDoorBase
import Derived.Test.YtlhmldjgmbcocaaDoorSxX
namespace Go.Proofs.YtlhmldjgmbcocaaDoor
open Go.RowKit
set_option linter.unusedVariables false
set_option linter.unusedSimpArgs false
theorem infoGen : (Tryd.prog.info? 33).map (fun i => (i.zero, i.size, i.bytes)) = some (some .nilIface, 1, 16) := by kernel_rfl
theorem zeroGen (w : World) : (zeroValue 33).run Tryd.prog w = .ok .nilIface w := by kernel_rfl
theorem gdel_cells (cur : Array Value) (xs news zs : List Value) (n k size : Nat) (htake : cur.toList.take (n * size) = xs) (hlen : xs.length = n * size) (hk : k < n) (hnews : news = xs.drop ((k + 1) * size)) (hz : zs.length = size) (hcs : n * size ≤ cur.size) :
    (splice (splice cur (0 + k * size) news) ((k + (n - (k + 1))) * size) zs).toList.take ((n - 1) * size) = xs.take (k * size) ++ xs.drop ((k + 1) * size) := by
  have e1 : (k + (n - (k + 1))) = n - 1 := by omega
  have hnl : news.length = (n - (k + 1)) * size := by rw [hnews, List.length_drop, hlen, Nat.sub_mul]
  have e2 : k * size + (n - (k + 1)) * size = (n - 1) * size := by rw [← Nat.add_mul]; congr 1
  have e3 : (n - 1) * size + size = n * size := by
    have : n = (n - 1) + 1 := by omega
    conv => rhs; rw [this, Nat.add_mul, Nat.one_mul]
  have e4 : k * size ≤ n * size := Nat.mul_le_mul_right _ (by omega)
  rw [e1, splice_list _ _ _ (by rw [splice_size, hz]; omega), List.append_assoc, List.take_append_of_le_length (by rw [List.length_take, Array.length_toList, splice_size]; omega), List.take_take, Nat.min_self,
    splice_list _ _ _ (by rw [hnl]; omega), Nat.zero_add, List.take_append_of_le_length (by rw [List.length_append, List.length_take, Array.length_toList, hnl]; omega), List.take_of_length_le (by rw [List.length_append, List.length_take, Array.length_toList, hnl]; omega), hnews, ← htake, List.take_take, Nat.min_eq_left e4]
set_option maxHeartbeats 400000 in
set_option maxRecDepth 100000 in
theorem gdelete_any (base n k : Nat) (v : Value) (xs : List Value) (w : World) (h : w.ownsRow base 33 1 v n xs) (h1 : ∀ u ∈ xs, u.oneCell' = true) (hk : k < n) (hn : n ≤ 1000000) :
    Calls Tryd.prog 68 #[v, .int .i64 k, .int .i64 ((k : Int) + 1)] w fun e w' => ∃ v', e = .returned v' ∧
      w'.ownsRow base 33 1 v' (n - 1) (xs.eraseIdx k) ∧ Chg (fun k => some k = v.ownBlock) w w' ∧ v'.ownBlock = v.ownBlock := by
  obtain ⟨i0, hi0, hz0, hz1, hz2⟩ := info_parts infoGen
  rcases h.2 with ⟨rfl, rfl⟩ | ⟨g, cap, cur, rfl, hbg, hg, hnc, hcm, hcs, htake⟩
  · omega
  have hlen := h.1
  simp only [maxLen] at hcm
  have hB : Blk w g 33 cur := hg
  obtain ⟨news, hnews⟩ : ∃ news, news = xs.drop ((k + 1)) := ⟨_, rfl⟩
  have hnl : news.length = (n - (k + 1)) := by rw [hnews, List.length_drop, hlen]; omega
  have hget : ∀ j u, xs[j]? = some u → w.cell? ⟨g, j, none⟩ = some u := fun j u hj => by
    rw [hB.cell, ← Array.getElem?_toList]
    rw [← htake, List.getElem?_take] at hj
    split at hj
    · exact hj
    · cases hj
  obtain ⟨A, hA, hsrc⟩ : ∃ A : Addr, (if cap = k + 1 then some (⟨g, 0, none⟩ : Addr) else some ⟨g, (k + 1), none⟩) = some A ∧ Hid (∀ t u, news[t]? = some u → w.drew.cell? (A.add t) = some u) := by
    by_cases hc : cap = k + 1
    · refine ⟨_, by rw [if_pos hc], fun t u hu => ?_⟩
      have h0 : news.length = 0 := by rw [hnl]; omega
      rw [List.length_eq_zero_iff.1 h0] at hu
      simp at hu
    · refine ⟨_, by rw [if_neg hc], fun t u hu => ?_⟩
      rw [Addr.add_lit]
      rw [hnews, List.getElem?_drop] at hu
      exact hget _ u hu
  have s1 : Hid (news.length = (n - (k + 1))) := hnl
  have s2 : Hid (∀ u ∈ news, u.oneCell' = true) := fun u hu => h1 u (List.mem_of_mem_drop (hnews ▸ hu))
  have s3 : Hid (∀ t, t < news.length → (w.drew.cell? ⟨g, 0 + k + t, none⟩).isSome = true ∧ w.drew.frozen? ⟨g, 0 + k + t, none⟩ = false) := by
    intro t ht
    refine ⟨?_, hB.frozen _⟩
    show (w.cell? _).isSome = true
    rw [hB.cell, Array.getElem?_eq_getElem (by rw [hcs]; omega)]
    rfl
  obtain ⟨W1, hW1⟩ : ∃ W1, W1 = w.drew.setCells g (0 + k) news := ⟨_, rfl⟩
  have hB1 : Blk W1 g 33 (splice cur (0 + k) news) := by rw [hW1]; exact hB.drew.setCells _ _
  have hcl : ∀ ty, (Builtin.clear_ #[69] ty #[.slice (some ⟨g, (k + (n - (k + 1))), none⟩) (n - (k + (n - (k + 1)))) (cap - (k + (n - (k + 1))))]).run Tryd.prog W1 = .ok (.tuple #[]) (W1.setCells g ((k + (n - (k + 1)))) (Builtin.zeroCells #[.nilIface] (n - (k + (n - (k + 1))))).toList) :=
    fun ty => run_clear_row W1 _ _ ty _ Tryd.underlying69 zeroGen (by simp [Value.cells, Value.oneCell']) g _ _ _ (by omega) (fun j hj => by
      rw [hB1.cell, Array.getElem?_eq_getElem (by rw [splice_size, hcs]; simp [Value.cells] at hj; omega)]; rfl) (fun j _ => hB1.frozen _)
  have HW := Lib.hid hW1
  have HB1 := Lib.hid hB1
  have hkc : k ≤ cap := by omega
  have hkc1 : k + 1 ≤ cap := by omega
  have e1 : IntKind.i64.wrap ((k : Int) + 1) = (k : Int) + 1 := by rw [IntKind.wrap_i64]; omega
  have hne : ((k : Int) == (k : Int) + 1) = false := by rw [beq_eq_false_iff_ne]; omega
  have HX := Lib.hid htake
  have HN := Lib.hid hnews
  have HL := Lib.hid hlen
  have HCS := Lib.hid hcs
  clear hget hB hB1 hW1 hnl hnews h h1 hg htake hlen hcs
  go_enter Tryd.func68, Tryd.ntmps68
  have hp0 : (0 : Int) ≤ (k : Int) + 1 := by omega
  have hp1 : (k : Int) + 1 ≤ (n : Int) := by omega
  have hp2 : ((k : Int) + 1).toNat = k + 1 := by omega
  have hp3 : (k : Int) ≤ (cap : Int) := by omega
  go_wp2_with fail
  go_region_law (refine step_append_room rfl (.tmp 22) (.tmp 25) 69 rfl 33 i0 1 Tryd.underlying69 hi0 hz1 g 0 k cap (by simp [Act.eval, Act.put]) A (n - (k + 1)) (cap - (k + 1)) news (by simp [Act.eval, Act.put]) (by rw [Nat.mul_one]; exact s1.out) hsrc.out s2.out (by omega) (by simp only [Nat.mul_one]; exact s3.out) ?_; rw [Nat.mul_one, ← HW.out])
  go_wp2
  go_ret
  refine ⟨.slice (some ⟨g, 0, none⟩) (k + (n - (k + 1))) cap, rfl, ⟨?_, .inr ⟨g, cap, splice (splice cur (0 + k) news) ((k + (n - (k + 1)))) (Builtin.zeroCells #[.nilIface] (n - (k + (n - (k + 1))))).toList, by rw [show k + (n - (k + 1)) = n - 1 by omega], hbg, HB1.out.setCells _ _, by omega, by simp only [maxLen]; omega, ?_, ?_⟩⟩, ?_, rfl⟩
  · have := HL.out; rw [List.length_eraseIdx_of_lt (by omega)]; omega
  · rw [splice_size, splice_size]; exact HCS.out
  · have := gdel_cells cur xs news (Builtin.zeroCells #[.nilIface] (n - (k + (n - (k + 1))))).toList n k 1 HX.out HL.out (by omega) (by rw [Nat.mul_one]; exact HN.out) (by simp [Builtin.zeroCells]; omega) (by rw [HCS.out]; omega)
    simp only [Nat.mul_one] at this ⊢
    rw [this, List.eraseIdx_eq_take_drop_succ]
  · have hS : (fun k => some k = (Value.slice (some ⟨g, 0, none⟩) n cap).ownBlock) g ∨ w.heap.size ≤ g := .inl rfl
    refine Chg.setCells hS _ _ ?_
    rw [HW.out]
    exact Chg.setCells hS _ _ (Chg.refl _ w).drew
end Go.Proofs.YtlhmldjgmbcocaaDoor
