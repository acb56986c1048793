/- record: one byte that turned is seen. Plain. -/
import Derived.Test.YtdpeadmfalhbfaaRecLaw2
namespace Go.Proofs.Ytdpeadmfalhbfaa
set_option linter.unusedVariables false
set_option linter.unusedSimpArgs false

theorem xor_cancel {a b c : Nat} (h : a ^^^ c = b ^^^ c) : a = b := by
  have := congrArg (· ^^^ c) h
  simpa [Nat.xor_assoc] using this
theorem bit31 {a : Nat} (h : a < 2147483648) : a.testBit 31 = false := Nat.testBit_lt_two_pow (by simpa using h)
theorem crc1_inj {c d : Nat} (hc : c < 4294967296) (hd : d < 4294967296) (h : crc1 c = crc1 d) : c = d := by
  have key : ∀ {c d : Nat}, c < 4294967296 → d < 4294967296 → ¬ (c / 2 ^^^ poly = d / 2) := by
    intro c d hc hd h
    have h1 := congrArg (fun x => Nat.testBit x 31) h
    simp only [Nat.testBit_xor] at h1
    rw [bit31 (show c / 2 < 2147483648 by omega), bit31 (show d / 2 < 2147483648 by omega), show poly.testBit 31 = true from by decide] at h1
    simp at h1
  unfold crc1 at h
  split at h <;> split at h
  · have := xor_cancel h
    omega
  · exact absurd h (key hc hd)
  · exact absurd h.symm (key hd hc)
  · omega
theorem crcN_inj : ∀ (k : Nat) {c d : Nat}, c < 4294967296 → d < 4294967296 → crcN k c = crcN k d → c = d
  | 0, c, d, _, _, h => h
  | k + 1, c, d, hc, hd, h => crcN_inj k hc hd (crc1_inj (crcN_lt k hc) (crcN_lt k hd) h)
theorem crcB_injc {c d x : Nat} (hc : c < 4294967296) (hd : d < 4294967296) (hx : x < 256) (h : crcB c x = crcB d x) : c = d := by
  unfold crcB at h
  exact xor_cancel (crcN_inj 8 (Nat.xor_lt_two_pow (n := 32) hc (by omega)) (Nat.xor_lt_two_pow (n := 32) hd (by omega)) h)
theorem crcB_injx {c x y : Nat} (hc : c < 4294967296) (hx : x < 256) (hy : y < 256) (h : crcB c x = crcB c y) : x = y := by
  unfold crcB at h
  have := crcN_inj 8 (Nat.xor_lt_two_pow (n := 32) hc (by omega)) (Nat.xor_lt_two_pow (n := 32) hc (by omega)) h
  rw [Nat.xor_comm c x, Nat.xor_comm c y] at this
  exact xor_cancel this
theorem foldl_lt : ∀ (l : List Nat) {c : Nat}, c < 4294967296 → (∀ x ∈ l, x < 256) → l.foldl crcB c < 4294967296
  | [], c, hc, _ => hc
  | x :: l, c, hc, h => foldl_lt l (crcB_lt hc (h x (by simp))) (fun y hy => h y (by simp [hy]))
theorem foldl_inj : ∀ (l : List Nat) {c d : Nat}, c < 4294967296 → d < 4294967296 → (∀ x ∈ l, x < 256) → l.foldl crcB c = l.foldl crcB d → c = d
  | [], c, d, _, _, _, h => h
  | x :: l, c, d, hc, hd, hb, h => crcB_injc hc hd (hb x (by simp)) (foldl_inj l (crcB_lt hc (hb x (by simp))) (crcB_lt hd (hb x (by simp))) (fun y hy => hb y (by simp [hy])) h)
theorem crcL_turn {p : List Nat} {j to : Nat} (hb : ∀ x ∈ p, x < 256) (hj : j < p.length) (hto : to < 256) (h : sumF (p.set j to) = sumF p) : p[j]? = some to := by
  have hc : crcL (p.set j to) = crcL p := xor_cancel h
  have e1 : p = p.take j ++ p[j] :: p.drop (j + 1) := by rw [← List.drop_eq_getElem_cons hj, List.take_append_drop]
  have e2 : p.set j to = p.take j ++ to :: p.drop (j + 1) := List.set_eq_take_append_cons_drop .. |>.trans (by rw [if_pos hj])
  have a1 : ∀ x ∈ p.take j, x < 256 := fun x hx => hb x (List.mem_of_mem_take hx)
  have a2 : ∀ x ∈ p.drop (j + 1), x < 256 := fun x hx => hb x (List.mem_of_mem_drop hx)
  have hx : p[j] < 256 := hb _ (List.getElem_mem hj)
  unfold crcL at hc
  rw [e2] at hc
  conv at hc => rhs; rw [e1]
  rw [List.foldl_append, List.foldl_append, List.foldl_cons, List.foldl_cons] at hc
  have hl := foldl_lt (p.take j) (c := 4294967295) (by decide) a1
  have := crcB_injx hl hto hx (foldl_inj _ (crcB_lt hl hto) (crcB_lt hl hx) a2 hc)
  rw [List.getElem?_eq_getElem hj, this]
/-- A frame in which one byte behind its length turned is none. -/
theorem recStep_turn {p r : List Nat} {j to : Nat} (hb : ∀ x ∈ p, x < 256) (hl : p.length < 65536) (h2 : 2 ≤ j) (hj : j < 6 + p.length) (hto : to < 256) (hne : (frameF p)[j]? ≠ some to) : recStep ((frameF p ++ r).set j to) = none := by
  have hfl := frameF_len p
  have e0 : (frameF p ++ r).set j to = (frameF p).set j to ++ r := by rw [List.set_append_left _ _ (by omega)]
  have hYl : ((frameF p).set j to ++ r).length = 6 + p.length + r.length := by rw [List.length_append, List.length_set, hfl]
  have g : ∀ i, i < 2 → ((frameF p).set j to ++ r).getD i 0 = (frameF p).getD i 0 := by
    intro i hi
    rw [List.getD, List.getD, List.getElem?_append_left (by rw [List.length_set]; omega), List.getElem?_set_ne (by omega)]
  have hn : ((frameF p).set j to ++ r).getD 0 0 * 256 + ((frameF p).set j to ++ r).getD 1 0 = p.length := by
    rw [g 0 (by omega), g 1 (by omega)]
    show p.length / 256 % 256 * 256 + p.length % 256 = p.length
    omega
  cases hs : recStep ((frameF p ++ r).set j to) with
  | none => rfl
  | some q =>
    exfalso
    rw [e0] at hs
    unfold recStep at hs
    rw [hn, hYl, if_neg (by omega), if_neg (by omega)] at hs
    split at hs
    · rename_i e he
      split at hs
      · rename_i hp
        rw [List.isPrefixOf_iff_prefix, List.prefix_iff_eq_take] at hp
        rcases Nat.lt_or_ge j 6 with hj6 | hj6
        · have hpay : (((frameF p).set j to ++ r).drop 6).take p.length = p := by
            have : (frameF p).set j to = (headF p).set j to ++ p := by
              unfold frameF
              rw [List.set_append_left _ _ (by simp [headF]; omega)]
            rw [this, List.append_assoc, List.drop_left' (by simp [headF]), List.take_left' rfl]
          rw [hpay, hfl, List.take_left' (by rw [List.length_set, hfl])] at hp
          apply hne
          rw [hp, List.getElem?_set_self (by omega)]
        · have hset : (frameF p).set j to = headF p ++ p.set (j - 6) to := by
            unfold frameF
            rw [List.set_append_right _ _ (by simp [headF]; omega)]
            simp [headF]
          have hpay : (((frameF p).set j to ++ r).drop 6).take p.length = p.set (j - 6) to := by
            rw [hset, List.append_assoc, List.drop_left' (by simp [headF]), List.take_left' (by rw [List.length_set])]
          rw [hpay, frameF_len, List.length_set, List.take_left' (by rw [List.length_set, hfl]), hset] at hp
          unfold frameF at hp
          have hh : headF (p.set (j - 6) to) = headF p := (List.append_inj hp (by simp [headF])).1
          have hpb : ∀ x ∈ p.set (j - 6) to, x < 256 := fun x hx => by
            rcases List.mem_or_eq_of_mem_set hx with hx | rfl
            · exact hb x hx
            · exact hto
          have s1 : sumF (p.set (j - 6) to) < 4294967296 := Nat.xor_lt_two_pow (n := 32) (crcL_lt hpb) (by decide)
          have s2 : sumF p < 4294967296 := Nat.xor_lt_two_pow (n := 32) (crcL_lt hb) (by decide)
          have hsum : sumF (p.set (j - 6) to) = sumF p := by
            unfold headF at hh
            simp only [List.cons.injEq, and_true] at hh
            omega
          have := crcL_turn hb (show j - 6 < p.length by omega) hto hsum
          apply hne
          unfold frameF
          rw [List.getElem?_append_right (by simp [headF]; omega)]
          simpa [headF] using this
      · cases hs
    · cases hs
end Go.Proofs.Ytdpeadmfalhbfaa
