/- TxtLaw: plain words on texts: numerals read back; lines split; words parted. Nothing of the program. -/
import Derived.Test.YtgppljdfhhgkiaaGreatDoorBase
import Derived.Lib.AtoiAll
import Derived.Lib.ItoaNum
import Derived.Lib.Split
import Derived.Lib.Join
import Derived.Lib.FieldsP
import Derived.Lib.IndexBytes
import Derived.Laws.RangeString
namespace Go.Proofs.YtgppljdfhhgkiaaGreatDoor
open Go
set_option linter.unusedVariables false
set_option linter.unusedSimpArgs false
/-! ### Numerals -/
theorem parse_snoc {c : UInt8} (hc : 48 ≤ c.toNat ∧ c.toNat ≤ 57) : ∀ (l : List UInt8) (a b : Nat), Lib.parseUint10 a l = .ok b → b < 1844674407370955161 → Lib.parseUint10 a (l ++ [c]) = .ok (b * 10 + (c.toNat - 48))
  | [], a, b, h, hb => by
    cases h
    simp only [List.nil_append, Lib.parseUint10]
    rw [if_pos hc, if_neg (by omega), if_neg (by omega)]
  | x :: l, a, b, h, hb => by
    simp only [List.cons_append, Lib.parseUint10] at h ⊢
    split at h
    · rename_i hx
      rw [if_pos hx]
      split at h
      · cases h
      · rename_i h1
        rw [if_neg h1]
        split at h
        · cases h
        · rename_i h2
          rw [if_neg h2]
          exact parse_snoc hc l _ _ h hb
    · cases h
theorem dig_toNat {d : Nat} (h : d < 10) : (UInt8.ofNat (48 + d)).toNat = 48 + d := by rw [UInt8.toNat_ofNat']; omega
theorem parse_dec : ∀ (k u : Nat), u < k → u < 10000000000000000000 → u < 1844674407370955161 → Lib.parseUint10 0 (Lib.decDigits u) = .ok u
  | 0, u, h, _, _ => by omega
  | k + 1, u, h, h1, h2 => by
    rw [Lib.decDigits]
    split
    · rename_i h10
      simp only [Lib.parseUint10, dig_toNat h10]
      rw [if_pos (by omega), if_neg (by omega), if_neg (by omega)]
      congr 1; omega
    · rename_i h10
      have hd := dig_toNat (show u % 10 < 10 by omega)
      rw [parse_snoc (by rw [hd]; omega) _ _ _ (parse_dec k (u / 10) (by omega) (by omega) (by omega)) (by omega), hd]
      congr 1; omega
theorem dec_ne (u : Nat) : Lib.decDigits u ≠ [] := by
  rw [Lib.decDigits]
  split <;> simp
theorem dec_digit : ∀ (k u : Nat), u < k → ∀ c ∈ Lib.decDigits u, 48 ≤ c.toNat ∧ c.toNat ≤ 57
  | 0, u, h => by omega
  | k + 1, u, h => by
    intro c hc
    rw [Lib.decDigits] at hc
    split at hc
    · rename_i h10
      rw [List.mem_singleton.1 hc, dig_toNat h10]; omega
    · rename_i h10
      rcases List.mem_append.1 hc with hc | hc
      · exact dec_digit k (u / 10) (by omega) c hc
      · rw [List.mem_singleton.1 hc, dig_toNat (by omega)]; omega
theorem atoi_itoa {n : Int} (h1 : -1000000000000000000 ≤ n) (h2 : n ≤ 1000000000000000000) : Lib.atoiAll (Lib.itoa n) = .ok n := by
  unfold Lib.itoa
  split
  · rename_i hn
    have hp := parse_dec (n.natAbs + 1) n.natAbs (by omega) (by omega) (by omega)
    have hne := dec_ne n.natAbs
    simp only [Lib.atoiAll]
    have e : (45 : UInt8).toNat = 45 := rfl
    rw [if_pos (Or.inr e)]
    unfold Lib.parseMag
    rw [if_neg hne, hp]
    simp only [e, not_true, false_and, if_false, true_and]
    rw [if_neg (by omega)]
    first | (rw [if_pos trivial]; congr 1; omega) | (simp only [if_true]; congr 1; omega) | (congr 1; omega)
  · rename_i hn
    have hp := parse_dec (n.toNat + 1) n.toNat (by omega) (by omega) (by omega)
    have hdg := dec_digit (n.toNat + 1) n.toNat (by omega)
    cases hd : Lib.decDigits n.toNat with
    | nil => exact absurd hd (dec_ne _)
    | cons c r =>
      rw [hd] at hp hdg
      have hc := hdg c (by simp)
      simp only [Lib.atoiAll]
      rw [if_neg (by omega)]
      unfold Lib.parseMag
      rw [if_neg (by simp), hp]
      have hneg : ¬ c.toNat = 45 := by omega
      simp only [hneg, not_false_eq_true, true_and, false_and, if_false]
      rw [if_neg (by omega)]
      first | (congr 1; omega) | skip
/-- A numeral is a word: bytes of ASCII that are no space. -/
def wordB (c : UInt8) : Bool := decide (32 < c.toNat) && decide (c.toNat < 128)
theorem itoa_word (n : Int) : Lib.itoa n ≠ [] ∧ ∀ c ∈ Lib.itoa n, wordB c = true := by
  unfold Lib.itoa
  split
  · refine ⟨by simp, fun c hc => ?_⟩
    rcases List.mem_cons.1 hc with rfl | hc
    · decide
    · have := dec_digit _ _ (Nat.lt_succ_self _) c hc
      simp only [wordB, Bool.and_eq_true, decide_eq_true_eq]; omega
  · refine ⟨dec_ne _, fun c hc => ?_⟩
    have := dec_digit _ _ (Nat.lt_succ_self _) c hc
    simp only [wordB, Bool.and_eq_true, decide_eq_true_eq]; omega
theorem dec_len : ∀ (k u : Nat), u < 10 ^ k → 0 < k → (Lib.decDigits u).length ≤ k
  | 0, u, h, h0 => by omega
  | k + 1, u, h, _ => by
    rw [Lib.decDigits]
    split
    · simp
    · rename_i h10
      have hk : 0 < k := by
        rcases Nat.eq_zero_or_pos k with h0 | h0
        · subst h0; simp at h; omega
        · exact h0
      have := dec_len k (u / 10) (by rw [Nat.pow_succ] at h; omega) hk
      simp only [List.length_append, List.length_singleton]; omega
theorem itoa_len {n : Int} (h1 : -1000000 ≤ n) (h2 : n ≤ 1000000) : (Lib.itoa n).length ≤ 8 := by
  unfold Lib.itoa
  split
  · have := dec_len 7 n.natAbs (by omega) (by omega)
    simp only [List.length_cons]; omega
  · have := dec_len 7 n.toNat (by omega) (by omega)
    omega
/-! ### Lines -/
theorem index_nl : ∀ (L R : List UInt8), 10 ∉ L → Lib.index (L ++ 10 :: R) [10] = (L.length : Int)
  | [], R, _ => by rw [Lib.index_one]; simp [Lib.indexByte]
  | c :: L, R, h => by
    have hc : c ≠ 10 := fun e => h (by rw [e]; simp)
    have ih := index_nl L R (fun hm => h (by simp [hm]))
    rw [Lib.index_one] at ih ⊢
    rw [List.cons_append, Lib.indexByte, if_neg (by simpa using hc), ih, if_neg (by simp)]
    simp
theorem index_no : ∀ (L : List UInt8), 10 ∉ L → Lib.index L [10] = -1
  | [], _ => rfl
  | c :: L, h => by
    have hc : c ≠ 10 := fun e => h (by rw [e]; simp)
    have ih := index_no L (fun hm => h (by simp [hm]))
    rw [Lib.index_one] at ih ⊢
    rw [Lib.indexByte, if_neg (by simpa using hc), ih]; rfl
def linesT (Ls : List (List UInt8)) : List UInt8 := Ls.flatMap (· ++ [10])
theorem linesT_cons (L : List UInt8) (Ls : List (List UInt8)) : linesT (L :: Ls) = L ++ 10 :: linesT Ls := by simp [linesT]
theorem count_lines : ∀ (Ls : List (List UInt8)) (f : Nat), (∀ L ∈ Ls, 10 ∉ L) → Ls.length < f → Lib.countFrom [10] f (linesT Ls) = Ls.length
  | [], f, _, h => by
    cases f with
    | zero => omega
    | succ f => rfl
  | L :: Ls, f, hL, h => by
    cases f with
    | zero => omega
    | succ f =>
      rw [linesT_cons, Lib.countFrom, index_nl L _ (hL L (by simp)), if_neg (by simp)]
      have e : (L ++ 10 :: linesT Ls).drop ((L.length : Int).toNat + ([10] : List UInt8).length) = linesT Ls := by
        rw [Int.toNat_natCast, ← List.drop_drop, List.drop_left]; rfl
      rw [e, count_lines Ls f (fun M hM => hL M (by simp [hM])) (by simp at h; omega)]
      simp only [List.length_cons]; omega
theorem linesT_len : ∀ (Ls : List (List UInt8)), Ls.length ≤ (linesT Ls).length
  | [] => Nat.le_refl _
  | L :: Ls => by have := linesT_len Ls; rw [linesT_cons]; simp; omega
theorem split_lines : ∀ (Ls : List (List UInt8)), (∀ L ∈ Ls, 10 ∉ L) → Lib.splitK [10] 0 Ls.length (linesT Ls) = Ls ++ [[]]
  | [], _ => rfl
  | L :: Ls, hL => by
    rw [linesT_cons, List.length_cons, Lib.splitK, index_nl L _ (hL L (by simp)), if_neg (by simp)]
    have e : (L ++ 10 :: linesT Ls).drop ((L.length : Int).toNat + ([10] : List UInt8).length) = linesT Ls := by
      rw [Int.toNat_natCast, ← List.drop_drop, List.drop_left]; rfl
    rw [e, split_lines Ls (fun M hM => hL M (by simp [hM]))]
    simp
theorem lines_count (Ls : List (List UInt8)) (h : ∀ L ∈ Ls, 10 ∉ L) : Lib.count (linesT Ls) [10] = Ls.length := count_lines Ls _ h (by have := linesT_len Ls; omega)
/-! ### Words -/
def spP : Nat → Bool := fun r => r == 32
theorem dec_word {l : List UInt8} {pos : Nat} {c : UInt8} (h : l[pos]? = some c) (hc : c.toNat < 128) : Utf8.decode ⟨l.toArray⟩ pos = (c.toNat, 1) := by
  obtain ⟨hp, he⟩ := List.getElem?_eq_some_iff.1 h
  have hs : pos < (⟨l.toArray⟩ : ByteArray).size := by simpa [ByteArray.size] using hp
  have e : (⟨l.toArray⟩ : ByteArray)[pos]'hs = c := by show l.toArray[pos]'_ = c; simpa using he
  have := decode_ascii ⟨l.toArray⟩ pos hs (by rw [e]; exact hc)
  rwa [e] at this
theorem spans_word (l : List UInt8) : ∀ (w : List UInt8) (f pos a : Nat) (acc : List (Nat × Nat)), (∀ c ∈ w, wordB c = true) → (∀ i c, w[i]? = some c → l[pos + i]? = some c) → Lib.spansFromP spP ⟨l.toArray⟩ (f + w.length) pos (some a) acc = Lib.spansFromP spP ⟨l.toArray⟩ f (pos + w.length) (some a) acc
  | [], f, pos, a, acc, _, _ => rfl
  | c :: w, f, pos, a, acc, hw, hl => by
    have hc := hw c (by simp)
    simp only [wordB, Bool.and_eq_true, decide_eq_true_eq] at hc
    have h0 : l[pos]? = some c := by have := hl 0 c rfl; simpa using this
    have hd := dec_word h0 hc.2
    have hp : pos < (⟨l.toArray⟩ : ByteArray).size := by
      have := (List.getElem?_eq_some_iff.1 h0).1
      simpa [ByteArray.size] using this
    rw [List.length_cons, ← Nat.add_assoc, Lib.spansFromP, if_pos hp, hd]
    have : spP c.toNat = false := by simp [spP]; omega
    rw [this]
    simp only [Bool.false_eq_true, if_false]
    rw [spans_word l w f (pos + 1) a acc (fun x hx => hw x (by simp [hx])) (fun i x hx => by have := hl (i + 1) x (by simpa using hx); rwa [show pos + 1 + i = pos + (i + 1) by omega])]
    congr 1; omega
/-- Where the words of a line lie. -/
def spansL : Nat → List (List UInt8) → List (Nat × Nat)
  | _, [] => []
  | p, w :: ws => (p, p + w.length) :: spansL (p + w.length + 1) ws
theorem spans_line (l : List UInt8) : ∀ (ws : List (List UInt8)) (f pos : Nat) (acc : List (Nat × Nat)), (∀ w ∈ ws, w ≠ [] ∧ ∀ c ∈ w, wordB c = true) → l.drop pos = Lib.join ws [32] → pos + (Lib.join ws [32]).length = l.length → l.length ≤ pos + f → ws ≠ [] →
    Lib.closeSpans ⟨l.toArray⟩ (Lib.spansFromP spP ⟨l.toArray⟩ f pos none acc) = acc ++ spansL pos ws
  | [], f, pos, acc, _, _, _, _, h => absurd rfl h
  | w :: ws, f, pos, acc, hw, hd, hlen, hf, _ => by
    obtain ⟨hne, hwc⟩ := hw w (by simp)
    obtain ⟨c, w', rfl⟩ : ∃ c w', w = c :: w' := by cases w with | nil => exact absurd rfl hne | cons c w' => exact ⟨c, w', rfl⟩
    have hsz : (⟨l.toArray⟩ : ByteArray).size = l.length := by simp [ByteArray.size]
    -- what stands from pos on
    obtain ⟨rest, hrest, hj⟩ : ∃ rest, Lib.join ((c :: w') :: ws) [32] = (c :: w') ++ rest ∧ (rest = if ws = [] then [] else 32 :: Lib.join ws [32]) := by
      cases ws with
      | nil => exact ⟨[], by simp [Lib.join_one], by simp⟩
      | cons x xs => exact ⟨32 :: Lib.join (x :: xs) [32], by simp [Lib.join, List.intercalate, List.intersperse], by simp⟩
    rw [hrest] at hd hlen
    have hat : ∀ i x, ((c :: w') ++ rest)[i]? = some x → l[pos + i]? = some x := fun i x hx => by
      rw [← hd, List.getElem?_drop] at hx; exact hx
    have hc := hwc c (by simp)
    simp only [wordB, Bool.and_eq_true, decide_eq_true_eq] at hc
    have h0 : l[pos]? = some c := by have := hat 0 c rfl; simpa using this
    have hp : pos < l.length := (List.getElem?_eq_some_iff.1 h0).1
    simp only [List.length_append, List.length_cons] at hlen
    obtain ⟨f1, rfl⟩ : ∃ f1, f = f1 + w'.length + 1 := ⟨f - w'.length - 1, by omega⟩
    rw [Lib.spansFromP, if_pos (by rw [hsz]; exact hp), dec_word h0 hc.2]
    have hsp : spP c.toNat = false := by simp [spP]; omega
    rw [hsp]
    simp only [Bool.false_eq_true, if_false]
    rw [spans_word l w' f1 (pos + 1) pos acc (fun x hx => hwc x (by simp [hx])) (fun i x hx => by
      have := hat (i + 1) x (by rw [List.cons_append, List.getElem?_cons_succ, List.getElem?_append_left (List.getElem?_eq_some_iff.1 hx).1]; exact hx)
      rwa [show pos + 1 + i = pos + (i + 1) by omega])]
    by_cases hws : ws = []
    · subst hws
      rw [if_pos rfl] at hj
      subst hj
      simp only [List.length_nil] at hlen
      rw [Lib.spansFromP_end _ _ _ _ _ _ (by rw [hsz]; omega)]
      simp only [Lib.closeSpans, hsz, spansL, List.length_cons]
      rw [show l.length = pos + (w'.length + 1) by omega]
    · rw [if_neg hws] at hj
      subst hj
      simp only [List.length_cons] at hlen
      have h32 : l[pos + (w'.length + 1)]? = some 32 := hat (w'.length + 1) 32 (by rw [List.getElem?_append_right (by simp)]; simp)
      obtain ⟨f2, rfl⟩ : ∃ f2, f1 = f2 + 1 := ⟨f1 - 1, by omega⟩
      rw [show pos + 1 + w'.length = pos + (w'.length + 1) by omega, Lib.spansFromP, if_pos (by rw [hsz]; omega), dec_word h32 (by decide)]
      have hs2 : spP (32 : UInt8).toNat = true := rfl
      rw [hs2]
      simp only [if_true]
      rw [spans_line l ws f2 (pos + (w'.length + 1) + 1) _ (fun x hx => hw x (by simp [hx])) (by
        have := congrArg (List.drop (w'.length + 1 + 1)) hd
        rw [List.drop_drop] at this
        rw [show pos + (w'.length + 1) + 1 = pos + (w'.length + 1 + 1) by omega, this]
        simp) (by omega) (by omega) hws]
      simp [spansL]
theorem extr_words (l : List UInt8) : ∀ (ws : List (List UInt8)) (pos : Nat), l.drop pos = Lib.join ws [32] → (spansL pos ws).map (fun x => (⟨l.toArray⟩ : ByteArray).extract x.1 x.2) = ws.map fun w => (⟨w.toArray⟩ : ByteArray)
  | [], pos, _ => rfl
  | w :: ws, pos, hd => by
    obtain ⟨rest, hrest, hj⟩ : ∃ rest, Lib.join (w :: ws) [32] = w ++ rest ∧ (rest = if ws = [] then [] else 32 :: Lib.join ws [32]) := by
      cases ws with
      | nil => exact ⟨[], by simp [Lib.join_one], by simp⟩
      | cons x xs => exact ⟨32 :: Lib.join (x :: xs) [32], by simp [Lib.join, List.intercalate, List.intersperse], by simp⟩
    rw [hrest] at hd
    simp only [spansL, List.map_cons]
    have e1 : (⟨l.toArray⟩ : ByteArray).extract pos (pos + w.length) = ⟨w.toArray⟩ := by
      apply ByteArray.ext
      rw [ByteArray.data_extract]
      simp [List.extract_eq_take_drop, hd]
    rw [e1]
    congr 1
    cases ws with
    | nil => rfl
    | cons x xs =>
      rw [if_neg (by simp)] at hj
      subst hj
      refine extr_words l (x :: xs) (pos + w.length + 1) ?_
      rw [Nat.add_assoc, ← List.drop_drop, hd, ← List.drop_drop, List.drop_left]
      rfl
/-- strings.FieldsFunc parts a line of words. -/
theorem fields_line (ws : List (List UInt8)) (h : ∀ w ∈ ws, w ≠ [] ∧ ∀ c ∈ w, wordB c = true) : Lib.goFieldsP spP ⟨(Lib.join ws [32]).toArray⟩ = ws.map fun w => (⟨w.toArray⟩ : ByteArray) := by
  unfold Lib.goFieldsP Lib.spansOfP
  have hsz : (⟨(Lib.join ws [32]).toArray⟩ : ByteArray).size = (Lib.join ws [32]).length := by simp [ByteArray.size]
  by_cases hws : ws = []
  · subst hws
    rfl
  · rw [spans_line (Lib.join ws [32]) ws _ 0 [] h (by simp) (by simp) (by rw [hsz]; omega) hws, List.nil_append]
    exact extr_words _ ws 0 (by simp)
end Go.Proofs.YtgppljdfhhgkiaaGreatDoor
