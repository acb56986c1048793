/- GenLaw2: words of a text; reading goes on as it began. Nothing of the program. -/
import Derived.Test.YtlhmldjgmbcocaaDoorGenLaw
namespace Go.Proofs.YtlhmldjgmbcocaaDoor
open Go
set_option linter.unusedVariables false
def singleB (c : UInt8) : Bool := c == 40 || c == 41 || c == 44
def flushT (cur : Tok) : List Tok := if cur = [] then [] else [cur]
def tg : Tok → List UInt8 → List Tok
  | cur, [] => flushT cur
  | cur, c :: cs => if singleB c then flushT cur ++ [c] :: tg [] cs else if c = 32 then flushT cur ++ tg [] cs else tg (cur ++ [c]) cs
def toks (bs : List UInt8) : List Tok := tg [] bs
theorem flushT_ne (cur : Tok) : ∀ t ∈ flushT cur, t ≠ [] := by
  unfold flushT
  split
  · simp
  · intro t ht; rw [List.mem_singleton] at ht; subst ht; assumption
theorem tg_ne : ∀ (bs : List UInt8) (cur : Tok), ∀ t ∈ tg cur bs, t ≠ []
  | [], cur => flushT_ne cur
  | c :: cs, cur => by
    unfold tg
    split
    · intro t ht
      rcases List.mem_append.1 ht with h | h
      · exact flushT_ne _ t h
      · rcases List.mem_cons.1 h with rfl | h
        · simp; try omega
        · exact tg_ne cs [] t h
    · split
      · intro t ht
        rcases List.mem_append.1 ht with h | h
        · exact flushT_ne _ t h
        · exact tg_ne cs [] t h
      · exact tg_ne cs _
theorem tg_len : ∀ (bs : List UInt8) (cur : Tok), (tg cur bs).length ≤ bs.length + (flushT cur).length
  | [], cur => by simp [tg]
  | c :: cs, cur => by
    have h0 := tg_len cs []
    have h1 := tg_len cs (cur ++ [c])
    have e0 : (flushT []).length = 0 := rfl
    have e1 : (flushT (cur ++ [c])).length = 1 := by simp [flushT]
    have e2 : (flushT cur).length ≤ 1 := by unfold flushT; split <;> simp
    have e3 : (cur ++ [c]).length = cur.length + 1 := by simp
    unfold tg
    split
    · simp only [List.length_append, List.length_cons]; omega
    · split
      · simp only [List.length_append, List.length_cons]; omega
      · simp only [List.length_cons]
        by_cases hc : cur = []
        · subst hc
          omega
        · have : (flushT cur).length = 1 := by simp [flushT, hc]
          omega
theorem toks_len (bs : List UInt8) : (toks bs).length ≤ bs.length := tg_len bs []
theorem flushT_tok {cur t : Tok} (h : t ∈ flushT cur) : t = cur := by
  unfold flushT at h
  split at h
  · cases h
  · rwa [List.mem_singleton] at h
theorem tg_tok : ∀ (bs : List UInt8) (cur : Tok), ∀ t ∈ tg cur bs, t.length ≤ cur.length + bs.length
  | [], cur, t, h => by rw [flushT_tok h]; simp
  | c :: cs, cur, t, h => by
    unfold tg at h
    simp only [List.length_cons]
    split at h
    · rcases List.mem_append.1 h with h | h
      · rw [flushT_tok h]; omega
      · rcases List.mem_cons.1 h with rfl | h
        · simp; try omega
        · have := tg_tok cs [] t h
          simp only [List.length_nil] at this
          omega
    · split at h
      · rcases List.mem_append.1 h with h | h
        · rw [flushT_tok h]; omega
        · have := tg_tok cs [] t h
          simp only [List.length_nil] at this
          omega
      · have := tg_tok cs _ t h
        simp only [List.length_append, List.length_singleton] at this
        omega
theorem toks_tok (bs : List UInt8) : ∀ t ∈ toks bs, t.length ≤ bs.length := fun t h => by have := tg_tok bs [] t h; simpa using this
theorem tg_shut : ∀ (bs : List UInt8) (cur : Tok), tg cur (bs ++ [41]) = tg cur bs ++ [[41]]
  | [], cur => by simp [tg, singleB, flushT]
  | c :: cs, cur => by
    simp only [List.cons_append, tg]
    split
    · rw [tg_shut cs []]; simp
    · split
      · rw [tg_shut cs []]; simp
      · rw [tg_shut cs _]
theorem tg_word : ∀ (ws : List UInt8) (cur : Tok) (rest : List UInt8), (∀ c ∈ ws, singleB c = false ∧ c ≠ 32) → tg cur (ws ++ rest) = tg (cur ++ ws) rest
  | [], cur, rest, _ => by simp
  | c :: ws, cur, rest, h => by
    have hc := h c (by simp)
    simp only [List.cons_append, tg, hc.1, hc.2]
    rw [if_neg (by simp), if_neg (by simp), tg_word ws _ rest (fun x hx => h x (by simp [hx]))]
    simp
theorem tg_space {cur : Tok} (h : cur ≠ []) (rest : List UInt8) : tg cur (32 :: rest) = cur :: tg [] rest := by
  simp [tg, singleB, flushT, h]
def headT : List Tok → Tok
  | [] => []
  | t :: _ => t
theorem numT_head (a b : Int) (l : List Tok) : numT a b l = (gnumF (headT l) a b).map fun n => (n, l.tail) := by
  cases l with
  | nil => rfl
  | cons t l => rfl
theorem numF_ok {t : Tok} {a b n : Int} : gnumF t a b = some n ↔ Lib.atoiAll t = .ok n ∧ Lib.itoa n = t ∧ a ≤ n ∧ n ≤ b := by
  unfold gnumF
  constructor
  · intro h
    split at h
    · rename_i m hm
      split at h
      · rename_i hh; cases h; exact ⟨hm, hh⟩
      · cases h
    · cases h
  · rintro ⟨h1, h2⟩
    rw [h1]
    simp only
    rw [if_pos h2]
/-! ### Prefixes, and more room -/
theorem numT_pre {a b : Int} {s r : List Tok} {n : Int} (h : numT a b s = some (n, r)) : a ≤ n ∧ n ≤ b ∧ r.length + 1 = s.length ∧ ∀ x, numT a b (s ++ x) = some (n, r ++ x) := by
  cases s with
  | nil => simp [numT] at h
  | cons t s =>
    simp only [numT, Option.map_eq_some_iff, Prod.mk.injEq] at h
    obtain ⟨m, hm, rfl, rfl⟩ := h
    have hb : a ≤ m ∧ m ≤ b := by
      unfold gnumF at hm
      split at hm
      · split at hm
        · rename_i hh; cases hm; exact hh.2
        · cases hm
      · cases hm
    refine ⟨hb.1, hb.2, by simp, fun x => ?_⟩
    simp [numT, hm]
theorem pS_le {p p' : List Tok → Option (Ge × List Tok)} (hp : ∀ s r, p s = some r → p' s = some r) : ∀ {n m : Nat} {s : List Tok} {r}, n ≤ m → pS p n s = some r → pS p' m s = some r
  | 0, _, _, _, _, h => by simp [pS] at h
  | n + 1, 0, _, _, h, _ => by omega
  | n + 1, m + 1, s, r, hnm, h => by
    simp only [pS] at h ⊢
    cases hs : p s with
    | none => rw [hs] at h; cases h
    | some q =>
      rw [hs] at h
      rw [hp s q hs]
      obtain ⟨g, s'⟩ := q
      cases s' with
      | nil => cases h
      | cons t s' =>
        simp only at h ⊢
        by_cases h1 : t = tShut
        · rw [if_pos h1] at h ⊢; exact h
        · rw [if_neg h1] at h ⊢
          by_cases h2 : t = tComma
          · rw [if_pos h2] at h ⊢
            rw [Option.map_eq_some_iff] at h ⊢
            obtain ⟨x, hx, rfl⟩ := h
            exact ⟨x, pS_le hp (by omega) hx, rfl⟩
          · rw [if_neg h2] at h; cases h
def PreOk (p : List Tok → Option (Ge × List Tok)) : Prop := ∀ s g r, p s = some (g, r) → g.sz + r.length ≤ s.length ∧ ∀ x, p (s ++ x) = some (g, r ++ x)
theorem sz_pos (g : Ge) : 0 < g.sz := by cases g <;> simp only [Ge.sz] <;> omega
theorem pS_pre {p : List Tok → Option (Ge × List Tok)} (hp : PreOk p) : ∀ {n m : Nat} {s : List Tok} {l r}, n ≤ m → pS p n s = some (l, r) → szL l + r.length ≤ s.length ∧ ∀ x, pS p m (s ++ x) = some (l, r ++ x)
  | 0, _, _, _, _, _, h => by simp [pS] at h
  | n + 1, 0, _, _, _, h, _ => by omega
  | n + 1, m + 1, s, l, r, hnm, h => by
    simp only [pS] at h
    cases hs : p s with
    | none => rw [hs] at h; cases h
    | some q =>
      rw [hs] at h
      obtain ⟨g, s'⟩ := q
      obtain ⟨hl, hx⟩ := hp s g s' hs
      cases s' with
      | nil => cases h
      | cons t s' =>
        simp only at h
        simp only [List.length_cons] at hl
        by_cases h1 : t = tShut
        · rw [if_pos h1] at h
          cases h
          refine ⟨by simp only [szL]; omega, fun x => ?_⟩
          simp only [pS, hx x, List.cons_append, if_pos h1]
        · rw [if_neg h1] at h
          by_cases h2 : t = tComma
          · rw [if_pos h2, Option.map_eq_some_iff] at h
            obtain ⟨q, hq, he⟩ := h
            cases he
            obtain ⟨hl2, hx2⟩ := pS_pre hp (m := m) (by omega) (show pS p n s' = some (q.1, q.2) from hq)
            refine ⟨by simp only [szL]; omega, fun x => ?_⟩
            simp only [pS, hx x, List.cons_append, if_neg h1, if_pos h2, hx2 x, Option.map_some]
          · rw [if_neg h2] at h; cases h
theorem pV_pre {p : List Tok → Option (Ge × List Tok)} (hp : PreOk p) {s : List Tok} {l r} (h : pV p s = some (l, r)) : szL l + r.length + 1 ≤ s.length ∧ ∀ x, pV p (s ++ x) = some (l, r ++ x) := by
  cases s with
  | nil => simp [pV] at h
  | cons t s =>
    simp only [pV] at h
    by_cases h1 : t = tOpen
    · rw [if_pos h1] at h
      have h2 := pS_pre hp (Nat.le_refl _) h
      refine ⟨by simp only [List.length_cons]; omega, fun x => ?_⟩
      have h3 := (pS_pre hp (m := (s ++ x).length) (by simp) h).2 x
      simp only [pV, List.cons_append, if_pos h1, h3]
    · rw [if_neg h1] at h; cases h
theorem pV_le {p p' : List Tok → Option (Ge × List Tok)} (hp : ∀ s r, p s = some r → p' s = some r) {s : List Tok} {r} (h : pV p s = some r) : pV p' s = some r := by
  cases s with
  | nil => simp [pV] at h
  | cons t s =>
    simp only [pV] at h ⊢
    by_cases h1 : t = tOpen
    · rw [if_pos h1] at h ⊢; exact pS_le hp (Nat.le_refl _) h
    · rw [if_neg h1] at h; cases h
theorem pW_pre {s : List Tok} {g : Ge} {r : List Tok} (h : pW s = some (g, r)) : (∃ k l t, g = .wr k l t ∧ 0 ≤ k ∧ k ≤ 7 ∧ -1000000 ≤ l ∧ l ≤ t ∧ t ≤ 1000000) ∧ g.sz + r.length ≤ s.length ∧ ∀ x, pW (s ++ x) = some (g, r ++ x) := by
  unfold pW at h ⊢
  cases h1 : numT 0 7 s with
  | none => rw [h1] at h; cases h
  | some q1 =>
    obtain ⟨k, s1⟩ := q1
    rw [h1] at h
    simp only at h
    cases h2 : numT (-1000000) 1000000 s1 with
    | none => rw [h2] at h; cases h
    | some q2 =>
      obtain ⟨l, s2⟩ := q2
      rw [h2] at h
      simp only at h
      cases h3 : numT l 1000000 s2 with
      | none => rw [h3] at h; cases h
      | some q3 =>
        obtain ⟨t, s3⟩ := q3
        rw [h3] at h
        cases h
        obtain ⟨a1, b1, c1, d1⟩ := numT_pre h1
        obtain ⟨a2, b2, c2, d2⟩ := numT_pre h2
        obtain ⟨a3, b3, c3, d3⟩ := numT_pre h3
        refine ⟨⟨k, l, t, rfl, a1, b1, a2, a3, b3⟩, by simp only [Ge.sz]; omega, fun x => ?_⟩
        rw [d1 x]; simp only
        rw [d2 x]; simp only
        rw [d3 x]
theorem pG_pre : ∀ (k : Nat), PreOk (pG k)
  | 0 => fun s g r h => by simp [pG] at h
  | k + 1 => fun s g r h => by
    have ih := pG_pre k
    cases s with
    | nil => simp [pG] at h
    | cons t s =>
      simp only [pG, List.cons_append, List.length_cons] at h ⊢
      by_cases h1 : t = tRead
      · simp only [if_pos h1] at h ⊢
        rw [Option.map_eq_some_iff] at h
        obtain ⟨⟨n, s1⟩, hn, he⟩ := h
        cases he
        obtain ⟨_, _, c1, d1⟩ := numT_pre hn
        exact ⟨by simp only [Ge.sz]; omega, fun x => by rw [d1 x]; rfl⟩
      simp only [if_neg h1] at h ⊢
      by_cases h2 : t = tWrite
      · simp only [if_pos h2] at h ⊢
        obtain ⟨_, b, c⟩ := pW_pre h
        exact ⟨by omega, c⟩
      simp only [if_neg h2] at h ⊢
      by_cases h3 : t = tLimit
      · simp only [if_pos h3] at h ⊢
        cases hn : numT 0 1000 s with
        | none => rw [hn] at h; cases h
        | some q =>
          obtain ⟨n, s1⟩ := q
          rw [hn] at h
          simp only [Option.map_eq_some_iff] at h
          obtain ⟨⟨g1, s2⟩, hg, he⟩ := h
          cases he
          obtain ⟨_, _, c1, d1⟩ := numT_pre hn
          obtain ⟨hl, hx⟩ := ih _ _ _ hg
          refine ⟨by simp only [Ge.sz]; omega, fun x => ?_⟩
          rw [d1 x]
          simp only [hx x, Option.map_some]
      simp only [if_neg h3] at h ⊢
      by_cases h4 : t = tMix
      · simp only [if_pos h4] at h ⊢
        rw [Option.map_eq_some_iff] at h
        obtain ⟨⟨l, s1⟩, hv, he⟩ := h
        cases he
        obtain ⟨hl, hx⟩ := pV_pre ih hv
        exact ⟨by simp only [Ge.sz]; omega, fun x => by rw [hx x]; rfl⟩
      simp only [if_neg h4] at h ⊢
      by_cases h5 : t = tThen
      · simp only [if_pos h5] at h ⊢
        rw [Option.map_eq_some_iff] at h
        obtain ⟨⟨l, s1⟩, hv, he⟩ := h
        cases he
        obtain ⟨hl, hx⟩ := pV_pre ih hv
        exact ⟨by simp only [Ge.sz]; omega, fun x => by rw [hx x]; rfl⟩
      rw [if_neg h5] at h
      cases h
theorem pG_le : ∀ (k : Nat) (s : List Tok) (r), pG k s = some r → pG (k + 1) s = some r
  | 0, s, r, h => by simp [pG] at h
  | k + 1, [], r, h => by simp [pG] at h
  | k + 1, t :: s, r, h => by
    have ih := pG_le k
    rw [pG] at h
    rw [pG]
    by_cases h1 : t = tRead
    · simp only [if_pos h1] at h ⊢; exact h
    simp only [if_neg h1] at h ⊢
    by_cases h2 : t = tWrite
    · simp only [if_pos h2] at h ⊢; exact h
    simp only [if_neg h2] at h ⊢
    by_cases h3 : t = tLimit
    · simp only [if_pos h3] at h ⊢
      cases hn : numT 0 1000 s with
      | none => rw [hn] at h; cases h
      | some q =>
        obtain ⟨n, s1⟩ := q
        rw [hn] at h
        simp only [Option.map_eq_some_iff] at h ⊢
        obtain ⟨x, hx, rfl⟩ := h
        exact ⟨x, ih _ _ hx, rfl⟩
    simp only [if_neg h3] at h ⊢
    by_cases h4 : t = tMix
    · simp only [if_pos h4] at h ⊢
      rw [Option.map_eq_some_iff] at h ⊢
      obtain ⟨x, hx, rfl⟩ := h
      exact ⟨x, pV_le ih hx, rfl⟩
    simp only [if_neg h4] at h ⊢
    by_cases h5 : t = tThen
    · simp only [if_pos h5] at h ⊢
      rw [Option.map_eq_some_iff] at h ⊢
      obtain ⟨x, hx, rfl⟩ := h
      exact ⟨x, pV_le ih hx, rfl⟩
    rw [if_neg h5] at h
    cases h
/-- What a text is. -/
def parsed (bs : List UInt8) : Option Ge := match pG 20 (toks bs) with
  | some (g, []) => some g
  | _ => none
def dgN (n : Nat) : List UInt8 := if n < 10 then [UInt8.ofNat (48 + n)] else [UInt8.ofNat (48 + n / 10), UInt8.ofNat (48 + n % 10)]
def limText (n : Nat) (bs : List UInt8) : List UInt8 := tLimit ++ [32] ++ dgN n ++ [32] ++ bs
def thenText (bs : List UInt8) : List UInt8 := tThen ++ [32, 40] ++ bs ++ [41]
theorem dgN_num : ∀ n, n < 30 → gnumF (dgN n) 0 1000 = some (n : Int) := by decide +kernel
theorem dgN_word : ∀ n, n < 30 → (∀ c ∈ dgN n, singleB c = false ∧ c ≠ 32) ∧ dgN n ≠ [] := by decide +kernel
theorem toks_lim {n : Nat} (h : n < 30) (bs : List UInt8) : toks (limText n bs) = tLimit :: dgN n :: toks bs := by
  unfold toks limText
  rw [List.append_assoc, List.append_assoc, List.append_assoc, tg_word _ _ _ (by decide), List.nil_append, List.singleton_append, tg_space (by decide), tg_word _ _ _ (dgN_word n h).1, List.nil_append, List.singleton_append, tg_space (dgN_word n h).2]
theorem toks_then (bs : List UInt8) : toks (thenText bs) = tThen :: tOpen :: (toks bs ++ [tShut]) := by
  unfold toks thenText
  rw [tg_shut, List.append_assoc, tg_word _ _ _ (by decide), List.nil_append, List.cons_append, tg_space (by decide)]
  simp [tg, singleB, flushT, tOpen, tShut]
theorem parsed_lim {n : Nat} (h : n < 30) {bs : List UInt8} {g g' : Ge} (hg : parsed bs = some g) (hg' : parsed (limText n bs) = some g') : g' = .lim n g := by
  unfold parsed at hg hg'
  rw [toks_lim h] at hg'
  have e : pG 20 (tLimit :: dgN n :: toks bs) = (pG 19 (toks bs)).map fun r => (.lim n r.1, r.2) := by
    rw [pG]
    rw [if_neg (by decide), if_neg (by decide), if_pos rfl]
    simp only [numT, dgN_num n h, Option.map_some, Int.toNat_natCast]
  rw [e] at hg'
  cases hx : pG 19 (toks bs) with
  | none => rw [hx] at hg'; cases hg'
  | some q =>
    obtain ⟨g1, r⟩ := q
    rw [hx] at hg'
    rw [pG_le 19 _ _ hx] at hg
    cases r with
    | nil => cases hg; cases hg'; rfl
    | cons => cases hg
theorem parsed_then {bs : List UInt8} {g g' : Ge} (hg : parsed bs = some g) (hg' : parsed (thenText bs) = some g') : g' = .thn [g] := by
  unfold parsed at hg hg'
  rw [toks_then] at hg'
  cases hx : pG 20 (toks bs) with
  | none => rw [hx] at hg; cases hg
  | some q =>
    obtain ⟨g1, r⟩ := q
    rw [hx] at hg
    cases r with
    | cons => cases hg
    | nil =>
      cases hg
      have e : pG 20 (tThen :: tOpen :: (toks bs ++ [tShut])) = (pS (pG 19) (toks bs ++ [tShut]).length (toks bs ++ [tShut])).map fun r => (.thn r.1, r.2) := by
        rw [pG]
        rw [if_neg (by decide), if_neg (by decide), if_neg (by decide), if_neg (by decide), if_pos rfl]
        simp only [pV, if_true]
      rw [e] at hg'
      have hp := (pG_pre 20 _ _ _ hx).2 [tShut]
      rw [List.nil_append] at hp
      have hlen : (toks bs ++ [tShut]).length = (toks bs).length + 1 := by simp
      rw [hlen, pS] at hg'
      cases hy : pG 19 (toks bs ++ [tShut]) with
      | none => rw [hy] at hg'; cases hg'
      | some q =>
        rw [hy] at hg'
        rw [pG_le 19 _ _ hy] at hp
        cases hp
        simp only [if_true, Option.map_some] at hg'
        cases hg'
        rfl
theorem parsed_sz {bs : List UInt8} {g : Ge} (h : parsed bs = some g) : g.sz ≤ bs.length := by
  unfold parsed at h
  cases hx : pG 20 (toks bs) with
  | none => rw [hx] at h; cases h
  | some q =>
    obtain ⟨g1, r⟩ := q
    rw [hx] at h
    cases r with
    | cons => cases h
    | nil =>
      cases h
      have h1 := (pG_pre 20 _ _ _ hx).1
      have := toks_len bs
      omega
end Go.Proofs.YtlhmldjgmbcocaaDoor
