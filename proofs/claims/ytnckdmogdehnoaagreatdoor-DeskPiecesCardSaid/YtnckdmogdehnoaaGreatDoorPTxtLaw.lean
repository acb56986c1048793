/- Part of the proof that a desk answers in pieces. -/
import Derived.Test.YtnckdmogdehnoaaGreatDoorProg
import Derived.Shelf.Lays
import Derived.Test.YtnckdmogdehnoaaGreatDoorPReg
import Derived.Lib.AtoiAll
import Derived.Lib.ItoaNum
import Derived.Lib.Split
import Derived.Lib.Join
import Derived.Lib.FieldsP
import Derived.Lib.IndexBytes
import Derived.Laws.RangeString
namespace Go.Proofs
open Go.Shelf
def Tryz.lays166_ren : Go.Shelf.Ren := ⟨fun | 166 => 7 | 240 => 15 | 276 => 25 | n => n, fun | 0 => 0 | 3 => 3 | 4 => 4 | 5 => 5 | 9 => 9 | 20 => 20 | 37 => 31 | 70 => 30 | 72 => 33 | 75 => 37 | 80 => 40 | 164 => 61 | n => n, fun | n => n⟩
theorem Tryz.lays166 : Go.Proofs.Lays.n166 Tryz.prog Tryz.lays166_ren := {
 mixed := by kernel_rfl
 f166 := Tryz.func7.trans (congrArg some (by kernel_rfl))
 f240 := Tryz.func15.trans (congrArg some (by kernel_rfl))
 f276 := Tryz.func25.trans (congrArg some (by kernel_rfl))
 t0 := Tryz.underlying0
 a0 := Tryz.isAgg0
 z0 := Tryz.sizeOf0
 v0 := Tryz.zeroValue0
 t3 := Tryz.underlying3
 a3 := Tryz.isAgg3
 z3 := Tryz.sizeOf3
 v3 := Tryz.zeroValue3
 t4 := Tryz.underlying4
 a4 := Tryz.isAgg4
 z4 := Tryz.sizeOf4
 v4 := Tryz.zeroValue4
 t9 := Tryz.underlying9
 a9 := Tryz.isAgg9
 z9 := Tryz.sizeOf9
 v9 := Tryz.zeroValue9
 t20 := Tryz.underlying20
 a20 := Tryz.isAgg20
 z20 := Tryz.sizeOf20
 v20 := Tryz.zeroValue20
 t37 := Tryz.underlying31
 a37 := Tryz.isAgg31
 z37 := Tryz.sizeOf31
 v37 := Tryz.zeroValue31
 t70 := Tryz.underlying30
 a70 := Tryz.isAgg30
 z70 := Tryz.sizeOf30
 v70 := Tryz.zeroValue30
 t72 := Tryz.underlying33
 a72 := Tryz.isAgg33
 z72 := Tryz.sizeOf33
 v72 := Tryz.zeroValue33
 t75 := Tryz.underlying37
 a75 := Tryz.isAgg37
 z75 := Tryz.sizeOf37
 v75 := Tryz.zeroValue37
 t164 := Tryz.underlying61
 a164 := Tryz.isAgg61
 z164 := Tryz.sizeOf61
 v164 := Tryz.zeroValue61 }
end Go.Proofs
set_option linter.unusedVariables false
set_option linter.unusedSimpArgs false
namespace Go.Proofs.YtnckdmogdehnoaaGreatDoor
open Go
structure Ev where
 proc : Int
 ty : Int
 key : Int
 kind : Int
 a : Int
 b : Int
 res : Int
 deriving DecidableEq
def evL (e : Ev) : List Value := [.int .i64 e.proc, .int .i64 e.ty, .int .i64 e.key, .int .i64 e.kind, .int .i64 e.a, .int .i64 e.b, .int .i64 e.res]
def inB (n lo hi : Int) : Bool := decide (lo ≤ n) && decide (n ≤ hi)
def toldB (proc key : Int) (l : List Int) : Bool := (l.all fun n => inB n (-1000000) 1000000) && inB proc 0 7 && inB key 0 7
def evOkB (e : Ev) : Bool := toldB e.proc e.key [e.a, e.b, e.res] && inB e.ty 1 4 && inB e.kind 1 12 && !(!decide (e.res = 0) && !decide (e.ty = 2))
open Go
def wordB (c : UInt8) : Bool := decide (32 < c.toNat) && decide (c.toNat < 128)
theorem dec_len : ∀ (k u : Nat), u < 10 ^ k → 0 < k → (Lib.decDigits u).length ≤ k
 | 0, u, h, h0 => by omega
 | k + 1, u, h, _ => by
  rw [Lib.decDigits]
  split
  ·simp
  rename_i h10
  have hk : 0 < k := by
   rcases Nat.eq_zero_or_pos k with h0 | h0
   ·subst h0; simp at h; omega
   exact h0
  have := dec_len k (u / 10) (by rw [Nat.pow_succ] at h; omega) hk
  simp only [List.length_append, List.length_singleton]; omega
theorem itoaT_len {n : Int} (h1 : -1000000 ≤ n) (h2 : n ≤ 1000000) : (Lib.itoa n).length ≤ 8 := by
 unfold Lib.itoa
 split
 ·have := dec_len 7 n.natAbs (by omega) (by omega)
  simp only [List.length_cons]; omega
 have := dec_len 7 n.toNat (by omega) (by omega)
 omega
theorem index_nl : ∀ (L R : List UInt8), 10 ∉ L → Lib.index (L ++ 10 :: R) [10] = (L.length : Int)
 | [], R, _ => by rw [Lib.index_one]; simp [Lib.indexByte]
 | c :: L, R, h => by
  have hc : c ≠ 10 := fun e => h (by rw [e]; simp)
  have ih := index_nl L R (fun hm => h (by simp [hm]))
  rw [Lib.index_one] at ih ⊢
  rw [List.cons_append, Lib.indexByte, if_neg (by simpa using hc), ih, if_neg (by simp)]
  simp
theorem index_no : ∀ (L : List UInt8), 10 ∉ L → Lib.index L [10] = -1
 | [], _ => rfl
 | c :: L, h => by
  have hc : c ≠ 10 := fun e => h (by rw [e]; simp)
  have ih := index_no L (fun hm => h (by simp [hm]))
  rw [Lib.index_one] at ih ⊢
  rw [Lib.indexByte, if_neg (by simpa using hc), ih]; rfl
def linesT (Ls : List (List UInt8)) : List UInt8 := Ls.flatMap (· ++ [10])
theorem linesT_cons (L : List UInt8) (Ls : List (List UInt8)) : linesT (L :: Ls) = L ++ 10 :: linesT Ls := by simp [linesT]
theorem linesT_len : ∀ (Ls : List (List UInt8)), Ls.length ≤ (linesT Ls).length
 | [] => Nat.le_refl _
 | L :: Ls => by have := linesT_len Ls; rw [linesT_cons]; simp; omega
def spP : Nat → Bool := fun r => r == 32
theorem dec_word {l : List UInt8} {pos : Nat} {c : UInt8} (h : l[pos]? = some c) (hc : c.toNat < 128) : Utf8.decode ⟨l.toArray⟩ pos = (c.toNat, 1) := by
 obtain ⟨hp, he⟩ := gS_ h
 have hs : pos < (⟨l.toArray⟩ : ByteArray).size := by simpa [ByteArray.size] using hp
 have e : (⟨l.toArray⟩ : ByteArray)[pos]'hs = c := by show l.toArray[pos]'_ = c; simpa using he
 have := decode_ascii ⟨l.toArray⟩ pos hs (by rw [e]; exact hc)
 rwa [e] at this
theorem spans_word (l : List UInt8) : ∀ (w : List UInt8) (f pos a : Nat) (acc : List (Nat × Nat)), (∀ c ∈ w, wordB c = true) → (∀ i c, w[i]? = some c → l[pos + i]? = some c) → Lib.spansFromP spP ⟨l.toArray⟩ (f + w.length) pos (some a) acc = Lib.spansFromP spP ⟨l.toArray⟩ f (pos + w.length) (some a) acc
 | [], f, pos, a, acc, _, _ => rfl
 | c :: w, f, pos, a, acc, hw, hl => by
  have hc := hw c (by simp)
  simp only [wordB, Bool.and_eq_true, decide_eq_true_eq] at hc
  have h0 : l[pos]? = some c := by have := hl 0 c rfl; simpa using this
  have hd := dec_word h0 hc.2
  have hp : pos < (⟨l.toArray⟩ : ByteArray).size := by
   have := (gS_ h0).1
   simpa [ByteArray.size] using this
  rw [List.length_cons, ← Nat.add_assoc, Lib.spansFromP, if_pos hp, hd]
  have : spP c.toNat = false := by simp [spP]; omega
  rw [this]
  simp only [Bool.false_eq_true, if_false]
  rw [spans_word l w f (pos + 1) a acc (fun x hx => hw x (by simp [hx])) (fun i x hx => by have := hl (i + 1) x (by simpa using hx); rwa [show pos + 1 + i = pos + (i + 1) by omega])]
  congr 1; omega
def spansL : Nat → List (List UInt8) → List (Nat × Nat)
 | _, [] => []
 | p, w :: ws => (p, p + w.length) :: spansL (p + w.length + 1) ws
theorem spans_line (l : List UInt8) : ∀ (ws : List (List UInt8)) (f pos : Nat) (acc : List (Nat × Nat)), (∀ w ∈ ws, w ≠ [] ∧ ∀ c ∈ w, wordB c = true) → l.drop pos = Lib.join ws [32] → pos + (Lib.join ws [32]).length = l.length → l.length ≤ pos + f → ws ≠ [] →
  Lib.closeSpans ⟨l.toArray⟩ (Lib.spansFromP spP ⟨l.toArray⟩ f pos none acc) = acc ++ spansL pos ws
 | [], f, pos, acc, _, _, _, _, h => absurd rfl h
 | w :: ws, f, pos, acc, hw, hd, hlen, hf, _ => by
  obtain ⟨hne, hwc⟩ := hw w (by simp)
  obtain ⟨c, w', rfl⟩ : ∃ c w', w = c :: w' := by cases w with | nil => exact absurd rfl hne | cons c w' => exact ⟨c, w', rfl⟩
  have hsz : (⟨l.toArray⟩ : ByteArray).size = l.length := by simp [ByteArray.size]
  obtain ⟨rest, hrest, hj⟩ : ∃ rest, Lib.join ((c :: w') :: ws) [32] = (c :: w') ++ rest ∧ (rest = if ws = [] then [] else 32 :: Lib.join ws [32]) := by
   cases ws with
   | nil => exact ⟨[], by simp [Lib.join_one], by simp⟩
   | cons x xs => exact ⟨32 :: Lib.join (x :: xs) [32], by simp [Lib.join, List.intercalate, List.intersperse], by simp⟩
  rw [hrest] at hd hlen
  have hat : ∀ i x, ((c :: w') ++ rest)[i]? = some x → l[pos + i]? = some x := fun i x hx => by
   rw [← hd, List.getElem?_drop] at hx; exact hx
  have hc := hwc c (by simp)
  simp only [wordB, Bool.and_eq_true, decide_eq_true_eq] at hc
  have h0 : l[pos]? = some c := by have := hat 0 c rfl; simpa using this
  have hp : pos < l.length := (gS_ h0).1
  simp only [List.length_append, List.length_cons] at hlen
  obtain ⟨f1, rfl⟩ : ∃ f1, f = f1 + w'.length + 1 := ⟨f - w'.length - 1, by omega⟩
  rw [Lib.spansFromP, if_pos (by rw [hsz]; exact hp), dec_word h0 hc.2]
  have hsp : spP c.toNat = false := by simp [spP]; omega
  rw [hsp]
  simp only [Bool.false_eq_true, if_false]
  rw [spans_word l w' f1 (pos + 1) pos acc (fun x hx => hwc x (by simp [hx])) (fun i x hx => by
   have := hat (i + 1) x (by rw [List.cons_append, List.getElem?_cons_succ, List.getElem?_append_left (gS_ hx).1]; exact hx)
   rwa [show pos + 1 + i = pos + (i + 1) by omega])]
  by_cases hws : ws = []
  ·subst hws
   rw [if_pos rfl] at hj
   subst hj
   simp only [List.length_nil] at hlen
   rw [Lib.spansFromP_end _ _ _ _ _ _ (by rw [hsz]; omega)]
   simp only [Lib.closeSpans, hsz, spansL, List.length_cons]
   rw [show l.length = pos + (w'.length + 1) by omega]
  rw [if_neg hws] at hj
  subst hj
  simp only [List.length_cons] at hlen
  have h32 : l[pos + (w'.length + 1)]? = some 32 := hat (w'.length + 1) 32 (by rw [List.getElem?_append_right (by simp)]; simp)
  obtain ⟨f2, rfl⟩ : ∃ f2, f1 = f2 + 1 := ⟨f1 - 1, by omega⟩
  rw [show pos + 1 + w'.length = pos + (w'.length + 1) by omega, Lib.spansFromP, if_pos (by rw [hsz]; omega), dec_word h32 (by decide)]
  have hs2 : spP (32 : UInt8).toNat = true := rfl
  rw [hs2]
  simp only [if_true]
  rw [spans_line l ws f2 (pos + (w'.length + 1) + 1) _ (fun x hx => hw x (by simp [hx])) (by
   have := congrArg (List.drop (w'.length + 1 + 1)) hd
   rw [List.drop_drop] at this
   rw [show pos + (w'.length + 1) + 1 = pos + (w'.length + 1 + 1) by omega, this]
   simp) (by omega) (by omega) hws]
  simp [spansL]
theorem extr_words (l : List UInt8) : ∀ (ws : List (List UInt8)) (pos : Nat), l.drop pos = Lib.join ws [32] → (spansL pos ws).map (fun x => (⟨l.toArray⟩ : ByteArray).extract x.1 x.2) = ws.map fun w => (⟨w.toArray⟩ : ByteArray)
 | [], pos, _ => rfl
 | w :: ws, pos, hd => by
  obtain ⟨rest, hrest, hj⟩ : ∃ rest, Lib.join (w :: ws) [32] = w ++ rest ∧ (rest = if ws = [] then [] else 32 :: Lib.join ws [32]) := by
   cases ws with
   | nil => exact ⟨[], by simp [Lib.join_one], by simp⟩
   | cons x xs => exact ⟨32 :: Lib.join (x :: xs) [32], by simp [Lib.join, List.intercalate, List.intersperse], by simp⟩
  rw [hrest] at hd
  simp only [spansL, List.map_cons]
  have e1 : (⟨l.toArray⟩ : ByteArray).extract pos (pos + w.length) = ⟨w.toArray⟩ := by
   apply ByteArray.ext
   rw [ByteArray.data_extract]
   simp [List.extract_eq_take_drop, hd]
  rw [e1]
  congr 1
  cases ws with
  | nil => rfl
  | cons x xs =>
   rw [if_neg (by simp)] at hj
   subst hj
   refine extr_words l (x :: xs) (pos + w.length + 1) ?_
   rw [Nat.add_assoc, ← List.drop_drop, hd, ← List.drop_drop, List.drop_left]
   rfl
theorem fields_line (ws : List (List UInt8)) (h : ∀ w ∈ ws, w ≠ [] ∧ ∀ c ∈ w, wordB c = true) : Lib.goFieldsP spP ⟨(Lib.join ws [32]).toArray⟩ = ws.map fun w => (⟨w.toArray⟩ : ByteArray) := by
 unfold Lib.goFieldsP Lib.spansOfP
 have hsz : (⟨(Lib.join ws [32]).toArray⟩ : ByteArray).size = (Lib.join ws [32]).length := by simp [ByteArray.size]
 by_cases hws : ws = []
 ·subst hws
  rfl
 rw [spans_line (Lib.join ws [32]) ws _ 0 [] h (by simp) (by simp) (by rw [hsz]; omega) hws, List.nil_append]
 exact extr_words _ ws 0 (by simp)
end Go.Proofs.YtnckdmogdehnoaaGreatDoor
