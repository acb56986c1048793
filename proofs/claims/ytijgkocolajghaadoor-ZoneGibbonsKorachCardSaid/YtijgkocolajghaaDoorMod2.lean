/- Rows of ints: slices.Insert, Delete, BinarySearch (by the kit's contracts), Clone. -/
import Derived.Test.YtijgkocolajghaaDoorMod1
import Derived.Test.YtijgkocolajghaaDoorShelf
namespace Go.Proofs.YtijgkocolajghaaDoor
open Go.RowKit
set_option linter.unusedVariables false
set_option linter.unusedSimpArgs false
section
variable {S : Nat → Prop} {w0 w w' : World} {H H' : List Ent} {e e' : Ent}
theorem Inv.ownE (h : e.ok w) : Inv e.D w w [e] :=
  ⟨Chg.refl _ w, fun x hx => by rcases List.mem_singleton.1 hx with rfl; exact h, fun x hx k hk => by rcases List.mem_singleton.1 hx with rfl; exact .inl hk, List.pairwise_singleton ..⟩
theorem Inv.one (hc : Chg e.D w w') (ho : e'.ok w') (hD : ∀ k, e'.D k → e.D k ∨ w.heap.size ≤ k) : Inv e.D w w' [e'] :=
  ⟨hc, fun x hx => by rcases List.mem_singleton.1 hx with rfl; exact ho, fun x hx k hk => by rcases List.mem_singleton.1 hx with rfl; exact hD k hk, List.pairwise_singleton ..⟩
/-- Behind a call that was handed a part. -/
theorem Inv.turn (h : Inv S w0 w (e :: H)) (h' : Inv e.D w w' H') : Inv S w0 w' (H' ++ H) := by
  have he := h.ok e (by simp)
  have hp := List.pairwise_cons.1 h.apart
  refine ⟨h.chg.trans' h'.chg fun k hk1 hk2 => ?_, fun x hx => ?_, fun x hx k hk => ?_, List.pairwise_append.2 ⟨h'.apart, hp.2, fun a ha b hb k h1 h2 => ?_⟩⟩
  · rcases h.own e (by simp) k hk2 with h1 | h1
    · exact h1
    · omega
  · rcases List.mem_append.1 hx with hx | hx
    · exact h'.ok x hx
    · exact (h.ok x (by simp [hx])).chg h'.chg (fun k hk hk2 => hp.1 x hx k hk2 hk)
  · rcases List.mem_append.1 hx with hx | hx
    · rcases h'.own x hx k hk with h1 | h1
      · exact h.own e (by simp) k h1
      · exact .inr (Nat.le_trans h.chg.size h1)
    · exact h.own x (by simp [hx]) k hk
  · rcases h'.own a ha k h1 with h3 | h3
    · exact hp.1 b hb k h3 h2
    · have := (h.ok b (by simp [hb])).2.1 k h2
      omega
theorem Inv.turn1 {a : Ent} (h : Inv S w0 w (e :: H)) (h' : Inv e.D w w' [a]) : Inv S w0 w' (a :: H) := h.turn h'
end
theorem row_open {w : World} {e n c : Nat} {A : Option Addr} {xs : List Value} (h : w.ownsRow 0 e 1 (.slice A n c) n xs) : (A = none ∧ n = 0 ∧ c = 0 ∧ xs = []) ∨ ∃ g cur, A = some ⟨g, 0, none⟩ ∧ Blk w g e cur ∧ n ≤ c ∧ c ≤ 9223372036854775807 ∧ cur.size = c ∧ cur.toList.take n = xs := by
  obtain ⟨hl, ⟨hv, hn⟩ | ⟨g, cap, cur, hv, _, hb, h1, h2, h3, h4⟩⟩ := h
  · injection hv with e1 e2 e3
    subst e1 e3 hn
    exact .inl ⟨rfl, rfl, rfl, List.eq_nil_of_length_eq_zero (by simpa using hl)⟩
  · injection hv with e1 e2 e3
    subst e1 e3
    exact .inr ⟨g, cur, rfl, hb, h1, by simpa [maxLen] using h2, by omega, by simpa using h4⟩
theorem row_close {w : World} {e g n c : Nat} {cur : Array Value} {xs : List Value} (hb : Blk w g e cur) (h1 : n ≤ c) (h2 : c ≤ 9223372036854775807) (h3 : cur.size = c) (h4 : cur.toList.take n = xs) : (Row 0 e 1 (some ⟨g, 0, none⟩) n c xs).ok w :=
  Row.ok ⟨by rw [← h4]; simp; omega, .inr ⟨g, c, cur, rfl, Nat.zero_le _, hb, h1, by simpa [maxLen] using h2, by omega, by simpa using h4⟩⟩
theorem ins_get {α : Type} (xs : List α) (i : Nat) (v : α) (hi : i ≤ xs.length) (j : Nat) : (xs.take i ++ v :: xs.drop i)[j]? = if j < i then xs[j]? else if j = i then some v else xs[j - 1]? := by
  have hl : (xs.take i).length = i := by simp; omega
  by_cases h1 : j < i
  · rw [if_pos h1, List.getElem?_append_left (by omega), List.getElem?_take_of_lt h1]
  · rw [if_neg h1, List.getElem?_append_right (by omega), hl]
    by_cases h2 : j = i
    · rw [if_pos h2, h2, Nat.sub_self, List.getElem?_cons_zero]
    · rw [if_neg h2, show j - i = (j - i - 1) + 1 by omega, List.getElem?_cons_succ, List.getElem?_drop, show i + (j - i - 1) = j - 1 by omega]
theorem take_of_get {cur : Array Value} {n : Nat} {ys : List Value} (hy : ys.length = n) (h : ∀ j, j < n → cur[j]? = ys[j]?) : cur.toList.take n = ys := by
  refine List.ext_getElem? fun j => ?_
  by_cases hj : j < n
  · rw [List.getElem?_take_of_lt hj, Array.getElem?_toList, h j hj]
  · rw [List.getElem?_eq_none (by simp; omega), List.getElem?_eq_none (by omega)]
theorem get_of_take {cur : Array Value} {n : Nat} {xs : List Value} (h : cur.toList.take n = xs) {j : Nat} (hj : j < n) : cur[j]? = xs[j]? := by
  rw [← h, List.getElem?_take_of_lt hj, Array.getElem?_toList]
theorem one_i64s (l : List Int) : ∀ v ∈ i64s l, v.oneCell' = true := by
  intro v hv
  obtain ⟨z, _, rfl⟩ := List.mem_map.1 hv
  rfl
theorem i64s_ins (l : List Int) (i : Nat) (a : Int) : i64s (l.take i ++ a :: l.drop i) = (i64s l).take i ++ .int .i64 a :: (i64s l).drop i := by simp [i64s, List.map_take, List.map_drop]
theorem zc_size (n : Nat) : (Builtin.zeroCells (Value.int .i64 0).cells n).size = n := by simp [Builtin.zeroCells, Value.cells]
theorem blk_shape {w : World} {g t : Nat} {cs : Array Value} (h : Blk w g t cs) : w.shape? g = some (t, cs.size) := by unfold World.shape?; rw [show w.heap[g]? = _ from h]
theorem insert_any (A : Option Addr) (c : Nat) (l : List Int) (i : Nat) (a : Int) (vb : Nat) (w : World) (hR : (StE A c l).ok w) (hi : i ≤ l.length) (hv : Blk w vb 3 #[.int .i64 a]) (hne : A.map (·.block) ≠ some vb) (hbig : l.length + 1 ≤ 1000000) :
    Calls Tryd.prog 65 #[.slice A l.length c, .int .i64 (i : Int), .slice (some ⟨vb, 0, none⟩) 1 1] w fun en w' => ∃ A' c', en = .returned (.slice A' (l.length + 1) c') ∧ Inv (StE A c l).D w w' [StE A' c' (l.take i ++ a :: l.drop i)] := by
  have hlen : (l.take i ++ a :: l.drop i).length = l.length + 1 := by simp; omega
  have hxl : (i64s l).length = l.length := by simp [i64s]
  have hvs : ∀ (j : Nat) (v : Value), [Value.int .i64 a][j]? = some v → w.cell? ⟨vb, 0 + j, none⟩ = some v := fun j v hj => by rw [Nat.zero_add, hv.cell]; simpa using hj
  have h1v : ∀ v ∈ [Value.int .i64 a], v.oneCell' = true := by intro v hv; simp at hv; subst hv; rfl
  rcases row_open hR.1 with ⟨rfl, hn, rfl, hx⟩ | ⟨g, cur, rfl, hb, h1, h2, h3, h4⟩
  · have hl : l = [] := List.eq_nil_of_length_eq_zero hn
    subst hl
    obtain rfl : i = 0 := by simpa using hi
    refine (Any2.slices_Insert_int_end_grow Tryd.lays2_21 none 0 0 vb 0 1 1 [] [.int .i64 a] w (by omega) (by omega) (by omega) (by omega) rfl rfl (fun _ => rfl) (fun a h => by cases h) hvs h1v).mono ?_
    rintro e w' ⟨rfl, rfl⟩
    have hge := grownCap_ge w (0 + 1) 0 (Tryd.lays2_21_ren.t 3)
    have hle := grownCap_le_maxLen w (0 + 1) 0 (Tryd.lays2_21_ren.t 3) (by decide)
    generalize grownCap w (0 + 1) 0 (Tryd.lays2_21_ren.t 3) = gc at hge hle ⊢
    refine ⟨_, _, rfl, Inv.one ((Chg.pure (Chg.refl _ w) (Pure.refl w).drew).pure ((Pure.refl _).alloc _)) (row_close (Blk.new _ _ _) hge (by simpa [maxLen] using hle) ?_ ?_) (fun k hk => .inr ?_)⟩
    · rw [Array.size_append, zc_size]; simp; omega
    · simp [i64s]
    · have : some w.heap.size = some k := hk
      injection this with this; omega
  · have hcs : ∀ (j : Nat) (v : Value), (i64s l)[j]? = some v → w.cell? ⟨g, 0 + j, none⟩ = some v := fun j v hj => by
      have hjl := (List.getElem?_eq_some_iff.1 hj).1
      rw [Nat.zero_add, hb.cell, get_of_take h4 (by omega), hj]
    have hne' : vb ≠ g := fun e => hne (by subst e; rfl)
    rcases Nat.lt_or_ge i l.length with hil | hil
    · rcases Nat.lt_or_ge c (l.length + 1) with hroom | hroom
      · refine (Any2.slices_Insert_int_grow Tryd.lays2_21 g 0 l.length c i vb 0 1 1 (i64s l) [.int .i64 a] w hil (by omega) h1 hroom (by omega) hxl rfl hcs hvs (one_i64s l) h1v).mono ?_
        rintro e w' ⟨rfl, rfl⟩
        have hge := grownCap_ge w (l.length + 1) c (Tryd.lays2_21_ren.t 3)
        have hle := grownCap_le_maxLen w (l.length + 1) c (Tryd.lays2_21_ren.t 3) (by simp [maxLen]; omega)
        generalize grownCap w (l.length + 1) c (Tryd.lays2_21_ren.t 3) = gc at hge hle ⊢
        refine ⟨_, _, rfl, Inv.one (Chg.setCells (.inr (Nat.le_refl _)) _ _ ((Chg.setCells (.inr (Nat.le_refl _)) _ _ ((Chg.pure (Chg.refl _ w) ((Pure.refl w).alloc _)).pure (Pure.refl _).drew)).pure (Pure.refl _).drew)) (row_close ((((Blk.new w 3 _).drew).setCells _ _).drew.setCells _ _) (by rw [hlen]; exact hge) (by simpa [maxLen] using hle) ?_ ?_) (fun k hk => .inr ?_)⟩
        · rw [splice_size, splice_size]
          simp only [Array.size_append, zc_size, List.size_toArray, List.length_take, hxl]; omega
        · rw [i64s_ins]
          refine take_of_get (by rw [← i64s_ins]; simp only [i64s, List.length_map]) fun j hj => ?_
          rw [hlen] at hj
          rw [ins_get _ _ _ (by omega), splice_get _ _ _ _ (by rw [splice_size]; simp only [Array.size_append, zc_size, List.size_toArray, List.length_take, List.length_drop, hxl]; omega), splice_get _ _ _ _ (by simp only [Array.size_append, zc_size, List.size_toArray, List.length_take, hxl, List.length_cons, List.length_nil]; omega)]
          simp only [List.length_drop, hxl, List.length_cons, List.length_nil]
          by_cases e1 : j < i
          · rw [if_neg (by omega), if_neg (by omega), if_pos e1, Array.append_assoc, Array.getElem?_append_left (by simp [i64s]; omega)]
            simp [e1]
          · by_cases e2 : j = i
            · subst e2
              rw [if_neg (by omega), if_pos (by omega), if_neg (by omega), if_pos rfl, Nat.sub_self]; rfl
            · rw [if_pos (by omega), if_neg e1, if_neg e2, List.getElem?_drop, show i + (j - (i + 1)) = j - 1 by omega]
        · have : some w.heap.size = some k := hk
          injection this with this; omega
      · refine (Any2.slices_Insert_int_shift Tryd.lays2_21 g 0 l.length c i vb 0 1 1 (i64s l) [.int .i64 a] w hil (by omega) (by omega) h2 hne' hxl rfl hcs (fun j hj => by rw [Nat.zero_add, hb.cell]; simp; omega) (fun j _ => hb.frozen _) hvs (one_i64s l) h1v 3 3 1 c (blk_shape hv) (by rw [blk_shape hb, h3]) (by omega) (hv.frozen _) (hv.frozen _)).mono ?_
        rintro e w' ⟨rfl, rfl⟩
        refine ⟨_, _, rfl, Inv.one (Chg.setCells (S := (StE (some ⟨g, 0, none⟩) c l).D) (.inl rfl) _ _ (Chg.setCells (S := (StE (some ⟨g, 0, none⟩) c l).D) (.inl rfl) _ _ (Chg.pure (Chg.refl _ w) (Pure.refl w).drew))) (row_close ((hb.drew.setCells _ _).setCells _ _) (by rw [hlen]; exact hroom) h2 (by rw [splice_size, splice_size, h3]) ?_) (fun k hk => .inl hk)⟩
        rw [i64s_ins]
        refine take_of_get (by rw [← i64s_ins]; simp only [i64s, List.length_map]) fun j hj => ?_
        rw [ins_get _ _ _ (by omega), splice_get _ _ _ _ (by rw [splice_size]; simp; omega), splice_get _ _ _ _ (by simp [i64s]; omega)]
        simp only [List.length_drop, hxl, List.length_cons, List.length_nil, Nat.zero_add]
        rw [hlen] at hj
        by_cases e1 : j < i
        · rw [if_neg (by omega), if_neg (by omega), if_pos e1, get_of_take h4 (by omega)]
        · by_cases e2 : j = i
          · subst e2
            rw [if_pos (by omega), if_neg (by omega), if_pos rfl, Nat.sub_self]; rfl
          · rw [if_neg (by omega), if_pos (by omega), if_neg e1, if_neg e2, List.getElem?_drop, show i + (j - (i + 1)) = j - 1 by omega]
    · obtain rfl : i = l.length := by omega
      rcases Nat.lt_or_ge c (l.length + 1) with hroom | hroom
      · refine (Any2.slices_Insert_int_end_grow Tryd.lays2_21 (some ⟨g, 0, none⟩) l.length c vb 0 1 1 (i64s l) [.int .i64 a] w (by omega) h1 hroom (by omega) hxl rfl (fun h => by cases h) (fun a h => by injection h with h; subst h; intro j v hj; rw [Addr.add_lit]; exact hcs j v hj) hvs h1v).mono ?_
        rintro e w' ⟨rfl, rfl⟩
        have hge := grownCap_ge w (l.length + 1) c (Tryd.lays2_21_ren.t 3)
        have hle := grownCap_le_maxLen w (l.length + 1) c (Tryd.lays2_21_ren.t 3) (by simp [maxLen]; omega)
        generalize grownCap w (l.length + 1) c (Tryd.lays2_21_ren.t 3) = gc at hge hle ⊢
        refine ⟨_, _, rfl, Inv.one ((Chg.pure (Chg.refl _ w) (Pure.refl w).drew).pure ((Pure.refl _).alloc _)) (row_close (Blk.new _ _ _) (by rw [hlen]; exact hge) (by simpa [maxLen] using hle) ?_ ?_) (fun k hk => .inr ?_)⟩
        · simp only [Array.size_append, zc_size, List.size_toArray, List.length_append, hxl, List.length_cons, List.length_nil]; omega
        · rw [hlen, i64s_ins]
          have e1 : (i64s l).take l.length = i64s l := List.take_of_length_le (by omega)
          have e2 : (i64s l).drop l.length = [] := List.drop_eq_nil_of_le (by omega)
          rw [e1, e2, Array.toList_append, List.take_append_of_le_length (by simp [hxl])]
          exact List.take_of_length_le (by simp [hxl])
        · have : some w.heap.size = some k := hk
          injection this with this; omega
      · refine (Any2.slices_Insert_int_end_room Tryd.lays2_21 g 0 l.length c vb 0 1 1 [.int .i64 a] w (by omega) hroom h2 rfl (fun j hj => by rw [hb.cell]; simp; omega) (fun j _ => hb.frozen _) hvs h1v).mono ?_
        rintro e w' ⟨rfl, rfl⟩
        refine ⟨_, _, rfl, Inv.one (Chg.setCells (S := (StE (some ⟨g, 0, none⟩) c l).D) (.inl rfl) _ _ (Chg.refl _ w)) (row_close (hb.setCells _ _) (by rw [hlen]; exact hroom) h2 (by rw [splice_size, h3]) ?_) (fun k hk => .inl hk)⟩
        rw [i64s_ins]
        refine take_of_get (by rw [← i64s_ins]; simp only [i64s, List.length_map]) fun j hj => ?_
        rw [ins_get _ _ _ (by omega), splice_get _ _ _ _ (by simp; omega)]
        simp only [List.length_cons, List.length_nil, Nat.zero_add]
        rw [hlen] at hj
        by_cases e1 : j < l.length
        · rw [if_neg (by omega), if_pos e1, get_of_take h4 e1]
        · obtain rfl : j = l.length := by omega
          rw [if_pos (by omega), if_neg (by omega), if_pos rfl, Nat.sub_self]; rfl
end Go.Proofs.YtijgkocolajghaaDoor
