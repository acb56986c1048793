/- store: where a store lies in memory; slices.Delete at mails. -/
import Derived.Test.YtglioflpblpmpaaProg
import Derived.Test.YtglioflpblpmpaaBase
import Derived.Test.YtglioflpblpmpaaStoLaw
import Derived.Test.YtglioflpblpmpaaSxX
namespace Go.Proofs.Ytglioflpblpmpaa
open Go.RowKit
set_option linter.unusedVariables false
set_option linter.unusedSimpArgs false
/-! ### Blocks of things of one size -/
def flatB (n : Nat) (f : Nat → List Value) : Array Value := ((List.range n).flatMap f).toArray
section
variable {n m : Nat} {f g : Nat → List Value}
theorem flatR_len (hm : ∀ i, (f i).length = m) : ((List.range n).flatMap f).length = n * m := by
  induction n with
  | zero => simp
  | succ n ih => rw [List.range_succ, List.flatMap_append, List.length_append, ih, Nat.succ_mul]; simp [hm]
theorem flatB_size (hm : ∀ i, (f i).length = m) : (flatB n f).size = n * m := by
  unfold flatB
  rw [List.size_toArray, flatR_len hm]
theorem flatB_at (hm : ∀ i, (f i).length = m) {i j : Nat} (hi : i < n) (hj : j < m) : (flatB n f)[i * m + j]? = (f i)[j]? := by
  unfold flatB
  rw [List.getElem?_toArray]
  exact flat_get hm (List.range n) i j i (by rw [List.getElem?_range hi]) hj
theorem flatB_get (hm : ∀ i, (f i).length = m) {i j : Nat} {v : Value} (hi : i < n) (hj : (f i)[j]? = some v) : (flatB n f)[i * m + j]? = some v := by
  have := (List.getElem?_eq_some_iff.1 hj).1
  rw [hm] at this
  rw [flatB_at hm hi this, hj]
theorem flatB_get0 (hm : ∀ i, (f i).length = m) {i : Nat} {v : Value} (hi : i < n) (hj : (f i)[0]? = some v) : (flatB n f)[i * m]? = some v := by
  have := flatB_get hm hi hj
  rwa [Nat.add_zero] at this
theorem flatB_congr (h : ∀ i, i < n → f i = g i) : flatB n f = flatB n g := by
  unfold flatB
  congr 1
  have : ∀ l : List Nat, (∀ i ∈ l, i < n) → l.flatMap f = l.flatMap g := fun l => by
    induction l with
    | nil => intro _; rfl
    | cons a l ih => intro hl; rw [List.flatMap_cons, List.flatMap_cons, h a (hl a (by simp)), ih (fun i hi => hl i (by simp [hi]))]
  exact this _ (fun i hi => List.mem_range.1 hi)
theorem splice_at (vs : List Value) : ∀ (cs : Array Value) (o x : Nat), o + vs.length ≤ cs.size → (splice cs o vs)[x]? = if o ≤ x ∧ x < o + vs.length then vs[x - o]? else cs[x]? := by
  induction vs with
  | nil => intro cs o x _; rw [if_neg (fun h => by have h1 := h.1; have h2 := h.2; rw [List.length_nil] at h2; omega)]; rfl
  | cons v vs ih =>
    intro cs o x h
    rw [List.length_cons] at h
    rw [splice, ih _ _ _ (by rw [Array.size_setIfInBounds]; omega), List.length_cons]
    by_cases hx : x = o
    · subst hx
      rw [if_neg (by omega), if_pos (by omega), Array.getElem?_setIfInBounds]
      rw [if_pos rfl, if_pos (by omega), Nat.sub_self]
      rfl
    · by_cases h1 : o + 1 ≤ x ∧ x < o + 1 + vs.length
      · rw [if_pos h1, if_pos (by omega), show x - o = (x - (o + 1)) + 1 by omega, List.getElem?_cons_succ]
      · rw [if_neg h1, if_neg (by omega), Array.getElem?_setIfInBounds, if_neg (fun e => hx e.symm)]
/-- Some cells of the i-th thing are written. -/
theorem flatB_splice (hm : ∀ i, (f i).length = m) (hg : ∀ i, (g i).length = m) {i j : Nat} {vs : List Value} (hi : i < n) (hj : j + vs.length ≤ m) (hne : ∀ k, k ≠ i → g k = f k)
    (h : g i = (f i).take j ++ vs ++ (f i).drop (j + vs.length)) : splice (flatB n f) (i * m + j) vs = flatB n g := by
  have hin : i * m + m ≤ n * m := by
    rw [← Nat.succ_mul]; exact Nat.mul_le_mul_right _ hi
  apply Array.ext_getElem?
  intro x
  rw [splice_at _ _ _ _ (by rw [flatB_size hm]; omega)]
  by_cases hx : x < n * m
  · have hm0 : 0 < m := by
      rcases Nat.eq_zero_or_pos m with h0 | h0
      · subst h0; omega
      · exact h0
    obtain ⟨a, b, hab, hb⟩ : ∃ a b, x = a * m + b ∧ b < m := ⟨x / m, x % m, by rw [Nat.mul_comm]; exact (Nat.div_add_mod x m).symm, Nat.mod_lt _ hm0⟩
    subst hab
    have ha : a < n := by
      refine Nat.lt_of_not_le fun hn => ?_
      have : n * m ≤ a * m := Nat.mul_le_mul_right _ hn
      omega
    rw [flatB_at hg ha hb]
    by_cases hai : a = i
    · subst hai
      rw [h]
      by_cases hbj : j ≤ b ∧ b < j + vs.length
      · rw [if_pos (by omega), List.getElem?_append_left (by simp [hm]; omega), List.getElem?_append_right (by simp [hm]; omega)]
        simp only [List.length_take, hm]
        congr 1
        omega
      · rw [if_neg (by omega), flatB_at hm ha hb]
        by_cases hlt : b < j
        · rw [List.getElem?_append_left (by simp [hm]; omega), List.getElem?_append_left (by simp [hm]; omega), List.getElem?_take, if_pos hlt]
        · rw [List.getElem?_append_right (by simp [hm]; omega), List.getElem?_drop]
          simp only [List.length_append, List.length_take, hm]
          congr 1
          omega
    · rw [if_neg, flatB_at hm ha hb, hne a hai]
      intro hc
      rcases Nat.lt_or_gt_of_ne hai with h1 | h1
      · have : (a + 1) * m ≤ i * m := Nat.mul_le_mul_right _ h1
        rw [Nat.succ_mul] at this
        omega
      · have : (i + 1) * m ≤ a * m := Nat.mul_le_mul_right _ h1
        rw [Nat.succ_mul] at this
        omega
  · rw [if_neg (by omega), Array.getElem?_eq_none (by rw [flatB_size hm]; omega), Array.getElem?_eq_none (by rw [flatB_size hg]; omega)]
theorem flatB_set (hm : ∀ i, (f i).length = m) (hg : ∀ i, (g i).length = m) {i j : Nat} {v : Value} (hi : i < n) (hj : j < m) (hne : ∀ k, k ≠ i → g k = f k) (h : g i = (f i).take j ++ [v] ++ (f i).drop (j + 1)) :
    (flatB n f).setIfInBounds (i * m + j) v = flatB n g := flatB_splice hm hg (vs := [v]) hi hj hne h
theorem flatB_set0 (hm : ∀ i, (f i).length = m) (hg : ∀ i, (g i).length = m) {i : Nat} {v : Value} (hi : i < n) (hj : 0 < m) (hne : ∀ k, k ≠ i → g k = f k) (h : g i = [v] ++ (f i).drop 1) :
    (flatB n f).setIfInBounds (i * m) v = flatB n g := flatB_set (j := 0) hm hg hi hj hne (by rw [List.take_zero, List.nil_append]; exact h)
end
/-! ### Values -/
def entL (e : SEnt) : List Value := [.int .i64 (e.t : Int), .int .i64 e.c, .int .i64 e.v]
def msgL (m : SMsg) : List Value := [.int .i64 (m.what : Int), .int .i64 (m.client : Int), .int .i64 (m.round : Int), .int .i64 (m.key : Int), .int .i64 (m.e.t : Int), .int .i64 m.e.c, .int .i64 m.e.v]
def mailL (m : SMail) : List Value := .int .i64 (m.src : Int) :: .int .i64 (m.dst : Int) :: msgL m.m
def stL (e : SEnt) : List Value := [.int .i64 (e.t : Int), .int .i64 e.c]
def clL (x : SCl) (cv : Value) : List Value := [.bool x.busy, .bool x.gone, .int .i64 x.began.proc, .int .i64 x.began.ty, .int .i64 x.began.key, .int .i64 x.began.kind, .int .i64 x.began.a, .int .i64 x.began.b, .int .i64 x.began.res, .bool x.telling, .int .i64 (x.round : Int), cv, .int .i64 (x.best.t : Int), .int .i64 x.best.c, .int .i64 x.best.v]
def boolsV (l : List Bool) : List Value := l.map Value.bool
/-- Where a store lies. -/
structure StL where
  sb : Nat
  nb : Nat
  cb : Nat
  cw : Nat → Option Nat
  MA : Option Addr
  mc : Nat
  LA : Option Addr
  ln : Nat
  lc : Nat
  cut : Bool
  lv : List Value
  LD : Nat → Prop
  EA : Option Addr
  ec : Nat
  SA : Option Addr
  sc : Nat
def cntV (L : StL) (s : SSt) (c : Nat) : Value := match L.cw c with
  | none => .slice none 0 0
  | some b => .slice (some ⟨b, 0, none⟩) s.n s.n
def cntE (L : StL) (s : SSt) (c : Nat) : Ent := match L.cw c with
  | none => Ent.nil
  | some b => B b 4 (boolsV (s.cl c).counted).toArray
def clF (L : StL) (s : SSt) (c : Nat) : List Value := clL (s.cl c) (cntV L s c)
theorem clF_len (L : StL) (s : SSt) (c : Nat) : (clF L s c).length = 15 := rfl
def ndF (s : SSt) (i : Nat) : List Value := entL (s.ent (i / 8) (i % 8))
theorem ndF_len (s : SSt) (i : Nat) : (ndF s i).length = 3 := rfl
def stoC (L : StL) (s : SSt) : Array Value := #[.int .i64 (s.n : Int), .int .i64 (s.k : Int), .int .i64 (s.ask : Int), .int .i64 (s.tell : Int), .bool s.back, .slice (some ⟨L.nb, 0, none⟩) s.n s.n, .slice (some ⟨L.cb, 0, none⟩) s.k s.k,
  .slice L.MA s.mails.length L.mc, .slice L.LA L.ln L.lc, .bool L.cut, .slice L.EA s.evs.length L.ec, .slice L.SA s.sts.length L.sc]
/-- The rows of the links: each of the values is a slice of bools in blocks of D. -/
def RowsE (vals : List Value) (D : Nat → Prop) : Ent := ⟨D, fun w => (∀ k, D k → k < w.heap.size) ∧ ∀ v ∈ vals, ∃ l, Bools w D v l ∧ l.length ≤ 1000⟩
theorem RowsE.ok {w : World} {vals : List Value} {D : Nat → Prop} (hD : ∀ k, D k → k < w.heap.size) (h : ∀ v ∈ vals, ∃ l, Bools w D v l ∧ l.length ≤ 1000) : (RowsE vals D).ok w :=
  Ent.mk_ok ⟨hD, h⟩ (fun k hk => hD k hk) (fun S w1 w2 hc hS h1 => ⟨fun k hk => Nat.lt_of_lt_of_le (h1.1 k hk) hc.size, fun v hv => by
    obtain ⟨l, hl, hb⟩ := h1.2 v hv
    exact ⟨l, Rd.chg hl hc (fun k hk => hS k hk), hb⟩⟩)
def spt (L : StL) (s : SSt) : List Ent :=
  [B L.sb 59 (stoC L s), B L.nb 63 (flatB (s.n * 8) (ndF s)), B L.cb 68 (flatB s.k (clF L s)), Many s.k (cntE L s), Row 0 73 9 L.MA s.mails.length L.mc (s.mails.flatMap mailL),
    Row 0 66 1 L.LA L.ln L.lc L.lv, RowsE L.lv L.LD, Row 0 37 7 L.EA s.evs.length L.ec (s.evs.flatMap evL), Row 0 39 2 L.SA s.sts.length L.sc (s.sts.flatMap stL)]
/-- What the walk leans on. M bounds times and rounds. -/
structure SOk (L : StL) (s : SSt) (M : Nat) : Prop where
  n1 : 1 ≤ s.n ∧ s.n ≤ 7
  k1 : 1 ≤ s.k ∧ s.k ≤ 8
  ask : 1 ≤ s.ask ∧ s.ask ≤ s.n
  tell : 1 ≤ s.tell ∧ s.tell ≤ s.n
  mlen : s.mails.length ≤ 500
  elen : s.evs.length ≤ 120
  slen : s.sts.length = s.evs.length
  free : s.evs.length + busyN s s.k ≤ 120
  mok : ∀ m ∈ s.mails, m.m.client < s.k ∧ m.m.key < 8 ∧ m.m.round ≤ M ∧ m.m.e.t ≤ M ∧ m.m.what ≤ 3 ∧ ((m.dst < s.n ∧ m.src = s.n + m.m.client) ∨ (m.src < s.n ∧ m.dst = s.n + m.m.client))
  cok : ∀ c, c < s.k → (s.cl c).round ≤ M ∧ (s.cl c).best.t ≤ M ∧ ((s.cl c).busy = true → L.cw c ≠ none ∧ (s.cl c).counted.length = s.n ∧ 0 ≤ (s.cl c).began.key ∧ (s.cl c).began.key < 8)
  clen : ∀ c b, c < s.k → L.cw c = some b → (s.cl c).counted.length = s.n
  eok : ∀ j key, j < s.n → key < 8 → (s.ent j key).t ≤ M
/-! ### slices.Delete at mails -/
theorem infoMail : (Try.prog.info? 73).map (fun i => (i.zero, i.size, i.bytes)) = some (some (.agg #[.int .i64 0, .int .i64 0, .int .i64 0, .int .i64 0, .int .i64 0, .int .i64 0, .int .i64 0, .int .i64 0, .int .i64 0]), 9, 72) := by kernel_rfl
theorem zeroMail (w : World) : (zeroValue 73).run Try.prog w = .ok (.agg #[.int .i64 0, .int .i64 0, .int .i64 0, .int .i64 0, .int .i64 0, .int .i64 0, .int .i64 0, .int .i64 0, .int .i64 0]) w := by kernel_rfl
theorem delete_cells (cur : Array Value) (xs news zs : List Value) (n k size : Nat) (htake : cur.toList.take (n * size) = xs) (hlen : xs.length = n * size) (hk : k < n) (hnews : news = xs.drop ((k + 1) * size)) (hz : zs.length = size) (hcs : n * size ≤ cur.size) :
    (splice (splice cur (0 + k * size) news) ((k + (n - (k + 1))) * size) zs).toList.take ((n - 1) * size) = xs.take (k * size) ++ xs.drop ((k + 1) * size) := by
  have e1 : (k + (n - (k + 1))) = n - 1 := by omega
  have hnl : news.length = (n - (k + 1)) * size := by rw [hnews, List.length_drop, hlen, Nat.sub_mul]
  have e2 : k * size + (n - (k + 1)) * size = (n - 1) * size := by rw [← Nat.add_mul]; congr 1
  have e3 : (n - 1) * size + size = n * size := by
    have : n = (n - 1) + 1 := by omega
    conv => rhs; rw [this, Nat.add_mul, Nat.one_mul]
  have e4 : k * size ≤ n * size := Nat.mul_le_mul_right _ (by omega)
  rw [e1, splice_list _ _ _ (by rw [splice_size, hz]; omega), List.append_assoc, List.take_append_of_le_length (by rw [List.length_take, Array.length_toList, splice_size]; omega), List.take_take, Nat.min_self,
    splice_list _ _ _ (by rw [hnl]; omega), Nat.zero_add, List.take_append_of_le_length (by rw [List.length_append, List.length_take, Array.length_toList, hnl]; omega), List.take_of_length_le (by rw [List.length_append, List.length_take, Array.length_toList, hnl]; omega), hnews, ← htake, List.take_take, Nat.min_eq_left e4]
set_option maxHeartbeats 400000 in
set_option maxRecDepth 100000 in
theorem delete_any (base n k : Nat) (v : Value) (xs : List Value) (w : World) (h : w.ownsRow base 73 9 v n xs) (h1 : ∀ u ∈ xs, u.oneCell' = true) (hk : k < n) (hn : n ≤ 1000) :
    Calls Try.prog 33 #[v, .int .i64 k, .int .i64 ((k : Int) + 1)] w fun e w' => ∃ v', e = .returned v' ∧
      w'.ownsRow base 73 9 v' (n - 1) (cutAt 9 k xs) ∧ Chg (fun k => some k = v.ownBlock) w w' ∧ v'.ownBlock = v.ownBlock := by
  obtain ⟨i0, hi0, hz0, hz1, hz2⟩ := info_parts infoMail
  rcases h.2 with ⟨rfl, rfl⟩ | ⟨g, cap, cur, rfl, hbg, hg, hnc, hcm, hcs, htake⟩
  · omega
  have hlen := h.1
  simp only [maxLen] at hcm
  have hB : Blk w g 73 cur := hg
  obtain ⟨news, hnews⟩ : ∃ news, news = xs.drop ((k + 1) * 9) := ⟨_, rfl⟩
  have hnl : news.length = (n - (k + 1)) * 9 := by rw [hnews, List.length_drop, hlen]; omega
  have hget : ∀ j u, xs[j]? = some u → w.cell? ⟨g, j, none⟩ = some u := fun j u hj => by
    rw [hB.cell, ← Array.getElem?_toList]
    rw [← htake, List.getElem?_take] at hj
    split at hj
    · exact hj
    · cases hj
  obtain ⟨A, hA, hsrc⟩ : ∃ A : Addr, (if cap = k + 1 then some (⟨g, 0, none⟩ : Addr) else some ⟨g, (k + 1) * 9, none⟩) = some A ∧ Hid (∀ t u, news[t]? = some u → w.drew.cell? (A.add t) = some u) := by
    by_cases hc : cap = k + 1
    · refine ⟨_, by rw [if_pos hc], fun t u hu => ?_⟩
      have h0 : news.length = 0 := by rw [hnl]; omega
      rw [List.length_eq_zero_iff.1 h0] at hu
      simp at hu
    · refine ⟨_, by rw [if_neg hc], fun t u hu => ?_⟩
      rw [Addr.add_lit]
      rw [hnews, List.getElem?_drop] at hu
      exact hget _ u hu
  have s1 : Hid (news.length = (n - (k + 1)) * 9) := hnl
  have s2 : Hid (∀ u ∈ news, u.oneCell' = true) := fun u hu => h1 u (List.mem_of_mem_drop (hnews ▸ hu))
  have s3 : Hid (∀ t, t < news.length → (w.drew.cell? ⟨g, 0 + k * 9 + t, none⟩).isSome = true ∧ w.drew.frozen? ⟨g, 0 + k * 9 + t, none⟩ = false) := by
    intro t ht
    refine ⟨?_, hB.frozen _⟩
    show (w.cell? _).isSome = true
    rw [hB.cell, Array.getElem?_eq_getElem (by rw [hcs]; omega)]
    rfl
  obtain ⟨W1, hW1⟩ : ∃ W1, W1 = w.drew.setCells g (0 + k * 9) news := ⟨_, rfl⟩
  have hB1 : Blk W1 g 73 (splice cur (0 + k * 9) news) := by rw [hW1]; exact hB.drew.setCells _ _
  have hcl : ∀ ty, (Builtin.clear_ #[53] ty #[.slice (some ⟨g, (k + (n - (k + 1))) * 9, none⟩) (n - (k + (n - (k + 1)))) (cap - (k + (n - (k + 1))))]).run Try.prog W1 = .ok (.tuple #[]) (W1.setCells g ((k + (n - (k + 1))) * 9) (Builtin.zeroCells #[.int .i64 0, .int .i64 0, .int .i64 0, .int .i64 0, .int .i64 0, .int .i64 0, .int .i64 0, .int .i64 0, .int .i64 0] (n - (k + (n - (k + 1))))).toList) :=
    fun ty => run_clear_row W1 _ _ ty _ Try.underlying53 zeroMail (by simp [Value.cells, Value.oneCell']) g _ _ _ (by omega) (fun j hj => by
      rw [hB1.cell, Array.getElem?_eq_getElem (by rw [splice_size, hcs]; simp [Value.cells] at hj; omega)]; rfl) (fun j _ => hB1.frozen _)
  have HW := Lib.hid hW1
  have HB1 := Lib.hid hB1
  have hkc : k ≤ cap := by omega
  have hkc1 : k + 1 ≤ cap := by omega
  have e1 : IntKind.i64.wrap ((k : Int) + 1) = (k : Int) + 1 := by rw [IntKind.wrap_i64]; omega
  have hne : ((k : Int) == (k : Int) + 1) = false := by rw [beq_eq_false_iff_ne]; omega
  have HX := Lib.hid htake
  have HN := Lib.hid hnews
  have HL := Lib.hid hlen
  have HCS := Lib.hid hcs
  clear hget hB hB1 hW1 hnl hnews h h1 hg htake hlen hcs
  go_enter Try.func33, Try.ntmps33
  have hp0 : (0 : Int) ≤ (k : Int) + 1 := by omega
  have hp1 : (k : Int) + 1 ≤ (n : Int) := by omega
  have hp2 : ((k : Int) + 1).toNat = k + 1 := by omega
  have hp3 : (k : Int) ≤ (cap : Int) := by omega
  go_wp2_with fail
  go_region_law (refine step_append_room rfl (.tmp 22) (.tmp 25) 53 rfl 73 i0 9 Try.underlying53 hi0 hz1 g 0 k cap (by simp [Act.eval, Act.put]) A (n - (k + 1)) (cap - (k + 1)) news (by simp [Act.eval, Act.put]) s1.out hsrc.out s2.out (by omega) s3.out ?_; rw [← HW.out])
  go_wp2
  go_ret
  refine ⟨.slice (some ⟨g, 0, none⟩) (k + (n - (k + 1))) cap, rfl, ⟨?_, .inr ⟨g, cap, splice (splice cur (0 + k * 9) news) ((k + (n - (k + 1))) * 9) (Builtin.zeroCells #[.int .i64 0, .int .i64 0, .int .i64 0, .int .i64 0, .int .i64 0, .int .i64 0, .int .i64 0, .int .i64 0, .int .i64 0] (n - (k + (n - (k + 1))))).toList, by rw [show k + (n - (k + 1)) = n - 1 by omega], hbg, HB1.out.setCells _ _, by omega, by simp only [maxLen]; omega, ?_, ?_⟩⟩, ?_, rfl⟩
  · simp only [cutAt, List.length_append, List.length_take, List.length_drop, HL.out]; omega
  · rw [splice_size, splice_size]; exact HCS.out
  · exact delete_cells cur xs news _ n k 9 HX.out HL.out (by omega) HN.out (by simp [Builtin.zeroCells]; omega) (by rw [HCS.out]; omega)
  · have hS : (fun k => some k = (Value.slice (some ⟨g, 0, none⟩) n cap).ownBlock) g ∨ w.heap.size ≤ g := .inl rfl
    refine Chg.setCells hS _ _ ?_
    rw [HW.out]
    exact Chg.setCells hS _ _ (Chg.refl _ w).drew
end Go.Proofs.Ytglioflpblpmpaa
