/- record: number; bytes: Equal, HasPrefix. -/
import Derived.Test.YtfagfkgmibmanaaRec2
import Derived.Laws.BytesArg
namespace Go.Proofs.Ytfagfkgmibmanaa
open Go.RowKit
set_option linter.unusedVariables false
set_option linter.unusedSimpArgs false

/-! ### What number reads -/
def shlF (a s : Nat) : Nat := a * 2 ^ min s 64 % 18446744073709551616
def uTo (l : List Nat) : Nat → Nat
  | 0 => 0
  | k + 1 => uTo l k ||| shlF (l.getD k 0 &&& 127) (7 * k)
theorem uTo_lt (l : List Nat) : ∀ k, uTo l k < 18446744073709551616
  | 0 => by simp [uTo]
  | k + 1 => Nat.or_lt_two_pow (n := 64) (uTo_lt l k) (Nat.mod_lt _ (by decide))
def numV (p : List Nat) : Int := unz (uTo p p.length)
theorem and127 (c : Nat) : c &&& 127 = c % 128 := Nat.and_two_pow_sub_one_eq_mod c 7
theorem valF_lt : ∀ (l : List Nat), valF l < 128 ^ l.length
  | [] => by decide
  | c :: l => by
    have := valF_lt l
    show c % 128 + 128 * valF l < 128 ^ (l.length + 1)
    rw [Nat.pow_succ]
    omega
theorem valF_snoc : ∀ (l : List Nat) (c : Nat), valF (l ++ [c]) = valF l + 128 ^ l.length * (c % 128)
  | [], c => by simp [valF]
  | x :: l, c => by
    rw [List.cons_append]
    show x % 128 + 128 * valF (l ++ [c]) = x % 128 + 128 * valF l + 128 ^ (l.length + 1) * (c % 128)
    rw [valF_snoc l c, Nat.pow_succ, Nat.mul_add]
    rw [show 128 ^ l.length * 128 * (c % 128) = 128 * (128 ^ l.length * (c % 128)) from by rw [Nat.mul_comm (128 ^ l.length) 128, Nat.mul_assoc]]
    omega
theorem uTo_val (l : List Nat) : ∀ k, k ≤ 9 → k ≤ l.length → uTo l k = valF (l.take k)
  | 0, _, _ => by simp [uTo, valF]
  | k + 1, hk, hl => by
    have ih := uTo_val l k (by omega) (by omega)
    have hlt := valF_lt (l.take k)
    rw [List.length_take, Nat.min_eq_left (by omega)] at hlt
    have hx : l[k]? = some (l[k]'(by omega)) := List.getElem?_eq_getElem (by omega)
    rw [List.take_succ_eq_append_getElem (by omega), valF_snoc, List.length_take, Nat.min_eq_left (by omega)]
    show uTo l k ||| shlF (l.getD k 0 &&& 127) (7 * k) = _
    rw [ih, List.getD, hx, Option.getD_some, and127]
    have hs : shlF (l[k]'(by omega) % 128) (7 * k) = 128 ^ k * (l[k]'(by omega) % 128) := by
      unfold shlF
      rw [Nat.min_eq_left (by omega), Nat.mul_comm, show (2 : Nat) ^ (7 * k) = 128 ^ k from by rw [Nat.pow_mul]]
      apply Nat.mod_eq_of_lt
      have h1 : 128 ^ k ≤ 128 ^ 8 := Nat.pow_le_pow_right (by decide) (by omega)
      have h2 : l[k]'(by omega) % 128 < 128 := Nat.mod_lt _ (by decide)
      calc 128 ^ k * (l[k]'(by omega) % 128) ≤ 128 ^ 8 * 127 := Nat.mul_le_mul h1 (by omega)
        _ < 18446744073709551616 := by decide
    rw [hs, show (128 : Nat) ^ k = 2 ^ (7 * k) from by rw [Nat.pow_mul]] at *
    rw [Nat.or_comm, ← Nat.two_pow_add_eq_or_of_lt hlt]
    omega
theorem numV_enc {n : Int} (h : -1000000 ≤ n ∧ n ≤ 1000000) : numV (encN n) = n := by
  have h2 := (num_enc h []).2
  have hl : (encN n).length ≤ 9 := by
    have : zz n < 128 ^ 9 := by unfold zz; split <;> omega
    have hv : ∀ (f u : Nat), u < 128 ^ f → 0 < f → ∀ g, f ≤ g → (varF g u).length ≤ f := by
      intro f
      induction f with
      | zero => intro u _ h0; omega
      | succ f ih =>
        intro u hu _ g hg
        obtain ⟨g', rfl⟩ : ∃ g', g = g' + 1 := ⟨g - 1, by omega⟩
        unfold varF
        split
        · simp
        · rename_i hnu
          have hf : 0 < f := by
            rcases Nat.eq_zero_or_pos f with h0 | h0
            · subst h0; simp at hu; omega
            · exact h0
          have := ih (u / 128) (by rw [Nat.pow_succ] at hu; exact Nat.div_lt_of_lt_mul (by rw [Nat.mul_comm]; exact hu)) hf g' (by omega)
          simp; omega
    exact hv 9 (zz n) this (by omega) 10 (by omega)
  unfold numV
  rw [uTo_val _ _ hl (Nat.le_refl _), List.take_length]
  exact h2

theorem wrap64_hi {n : Int} (h1 : 9223372036854775808 ≤ n) (h2 : n < 18446744073709551616) : IntKind.i64.wrap n = n - 18446744073709551616 := by
  simp [IntKind.wrap, IntKind.signed, IntKind.bits]; omega
theorem Bts.drop {w : World} {D : Nat → Prop} {A : Option Addr} {c k : Nat} {l : List Nat} (h : Bts w D (.slice A l.length c) l) (hk : k ≤ l.length) : Bts w D (.slice (if c = k then A else A.map (·.add (k * 1))) (l.length - k) (c - k)) (l.drop k) := by
  have hd := Rd.drop (w := w) (D := D) (size := 1) h hk
  unfold Bts
  rw [List.length_drop]
  simp only [Nat.mul_one] at hd ⊢
  have hbv : bytesV (l.drop k) = (bytesV l).drop k := by simp [bytesV]
  rw [hbv]
  exact hd
theorem Bts.take {w : World} {D : Nat → Prop} {A : Option Addr} {c c' k : Nat} {l : List Nat} (h : Bts w D (.slice A l.length c) l) (hk : k ≤ l.length) (h1 : k ≤ c') (h2 : c' ≤ c) : Bts w D (.slice A k c') (l.take k) := by
  have hd := Rd.take (w := w) (D := D) (size := 1) h hk h1 h2
  unfold Bts
  rw [List.length_take, Nat.min_eq_left hk]
  simp only [Nat.mul_one] at hd
  have hbv : bytesV (l.take k) = (bytesV l).take k := by simp [bytesV]
  rw [hbv]
  exact hd
theorem unz_run {u : Nat} (h : u < 18446744073709551616) :
    IntKind.i64.wrap (((fun p q : BitVec IntKind.i64.bits => p ^^^ q) (BitVec.ofInt IntKind.i64.bits ((u / 2 ^ 1 : Nat) : Int)) (BitVec.ofInt IntKind.i64.bits (-((u &&& 1 : Nat) : Int)))).toNat : Int) = unz u := by
  show IntKind.i64.wrap ((BitVec.ofInt 64 ((u / 2 ^ 1 : Nat) : Int) ^^^ BitVec.ofInt 64 (-((u &&& 1 : Nat) : Int))).toNat : Int) = unz u
  have hand : u &&& 1 = u % 2 := Nat.and_one_is_mod u
  rw [hand]
  have hm : u / 2 ^ 1 % 2 ^ 64 = u / 2 := by rw [Nat.pow_one]; exact Nat.mod_eq_of_lt (by omega)
  unfold unz
  by_cases h0 : u % 2 = 0
  · rw [if_pos h0, h0]
    rw [show (-((0 : Nat) : Int)) = ((0 : Nat) : Int) from rfl, BitVec.ofInt_natCast, BitVec.ofInt_natCast, BitVec.toNat_xor, BitVec.toNat_ofNat, BitVec.toNat_ofNat, hm]
    simp only [Nat.zero_mod, Nat.xor_zero]
    exact wrap64_in (by omega) (by omega)
  · have h1 : u % 2 = 1 := by omega
    rw [if_neg h0, h1]
    have e2 : BitVec.ofInt 64 (-((1 : Nat) : Int)) = BitVec.allOnes 64 := by decide
    rw [e2, BitVec.ofInt_natCast, BitVec.xor_allOnes, BitVec.toNat_not, BitVec.toNat_ofNat, hm]
    rw [show (2 : Nat) ^ 64 - 1 - u / 2 = 18446744073709551615 - u / 2 from by rw [show (2 : Nat) ^ 64 = 18446744073709551616 from by decide]]
    have hcast : ((18446744073709551615 - u / 2 : Nat) : Int) = 18446744073709551615 - ((u / 2 : Nat) : Int) := by omega
    rw [hcast]
    rw [wrap64_hi (by omega) (by omega)]
    omega
theorem numF_at : ∀ {l : List Nat} {k c : Nat}, l[k]? = some c → c < 128 → (∀ (j x : Nat), j < k → l[j]? = some x → 128 ≤ x) → numF l = some (l.take (k + 1), l.drop (k + 1))
  | [], k, c, h, _, _ => by simp at h
  | x :: l, 0, c, h, hc, _ => by
    simp at h
    subst h
    simp [numF, hc]
  | x :: l, k + 1, c, h, hc, hb => by
    have hx := hb 0 x (by omega) rfl
    have ih := numF_at (l := l) (k := k) (c := c) (by simpa using h) hc (fun j y hj hy => hb (j + 1) y (by omega) (by simpa using hy))
    unfold numF
    rw [if_neg (by omega), ih]
    simp
theorem numF_none : ∀ {l : List Nat}, (∀ x ∈ l, 128 ≤ x) → numF l = none
  | [], _ => rfl
  | x :: l, h => by
    unfold numF
    rw [if_neg (by have := h x (by simp); omega), numF_none (fun y hy => h y (by simp [hy]))]
    rfl
theorem uTo_take (l : List Nat) (m : Nat) : ∀ k, k ≤ m → uTo (l.take m) k = uTo l k
  | 0, _ => rfl
  | k + 1, h => by
    show uTo (l.take m) k ||| _ = uTo l k ||| _
    rw [uTo_take l m k (by omega)]
    simp [List.getD, List.getElem?_take, show k < m by omega]
def NumPost (w : World) (D : Nat → Prop) (l : List Nat) (en : Ending) (w' : World) : Prop :=
  Pure w w' ∧ ((∃ p r A c, numF l = some (p, r) ∧ en = .returned (.tuple #[.int .i64 (numV p), .slice A r.length c, .bool true]) ∧ Bts w' D (.slice A r.length c) r) ∨
    (numF l = none ∧ en = .returned (.tuple #[.int .i64 0, .slice none 0 0, .bool false])))

set_option maxHeartbeats 1000000 in
theorem number_any (A : Option Addr) (n c : Nat) (l : List Nat) (D : Nat → Prop) (w0 : World) (h : Bts w0 D (.slice A n c) l) (hl : l.length = n) (hb : ∀ x ∈ l, x < 256) (hn : n < 1000000000) :
    Calls Try.prog 34 #[.slice A n c] w0 (NumPost w0 D l) := by
  subst hl
  have hI := Inv.start (fun _ => False) w0
  refine calls_of_W (N := Try.f34.ntmps) Try.func34 rfl rfl rfl ?_
  refine W_seq ?_
  refine W_region ?_
  refine WL_val rfl rfl rfl (by first | exact rAsgnI rfl rfl | exact rAsgn rfl) ?_
  refine WL_val rfl rfl rfl (by first | exact rAsgnS rfl rfl | exact rAsgn rfl) ?_
  refine WL_val rfl rfl rfl (by first | exact rAsgnB rfl rfl | exact rAsgn rfl) ?_
  refine WL_nil ?_
  refine W_seq ?_
  refine W_region ?_
  refine WL_val rfl rfl rfl (by first | exact rAsgnI rfl rfl | exact rAsgn rfl) ?_
  refine WL_nil ?_
  refine W_seq ?_
  refine W_seq ?_
  refine W_region ?_
  refine WL_val rfl rfl rfl (by first | exact rMoveS rfl rfl | exact rMove rfl) ?_
  refine WL_val rfl rfl rfl (rLen rfl Try.underlying45 rfl) ?_
  refine WL_val rfl rfl rfl (by first | exact rMoveI rfl rfl | exact rMove rfl) ?_
  refine WL_nil ?_
  refine W_block ?_
  refine W_loop (fun ρ w => ∃ k : Nat, k ≤ l.length ∧ Has ρ [(10, .int .i64 k), (9, .int .i64 l.length), (8, .slice A l.length c), (0, .slice A l.length c), (5, .int .u64 (uTo l k : Nat))] ∧ (∀ (j x : Nat), j < k → l[j]? = some x → 128 ≤ x) ∧ Inv (fun _ => False) w0 w [] ∧ w0 = w) (fun ρ _ => l.length - cnt (ρ 10))
    ⟨0, by omega, ⟨rfl, rfl, rfl, rfl, rfl, trivial⟩, fun j x hj => by omega, hI, rfl⟩ ?_
  clear hI
  rintro ρ w ⟨k, hk, hH, hbig, hI, rfl⟩
  obtain ⟨σ, rfl⟩ := hH.open
  by_cases hkn : k < l.length
  · obtain ⟨x, hx⟩ : ∃ x, l[k]? = some x := ⟨_, List.getElem?_eq_getElem (by omega)⟩
    obtain ⟨g, o, rfl, _, hc⟩ := h.get hx
    have hx256 := hb x (List.mem_of_getElem? hx)
    have hu := uTo_lt l k
    have hu' := uTo_lt l (k + 1)
    have hs : uTo l (k + 1) = uTo l k ||| shlF (x &&& 127) (7 * k) := by
      show uTo l k ||| shlF (l.getD k 0 &&& 127) (7 * k) = _
      simp [List.getD, hx]
    have h127 : x &&& 127 < 256 := by rw [and127]; omega
    refine W_seq ?_
    refine W_region ?_
    refine WL_val rfl rfl rfl (by first | exact rLssT rfl rfl rfl (by omega) | exact rLssF rfl rfl rfl (by omega) | exact rLss rfl rfl rfl) ?_
    refine WL_nil ?_
    refine W_seq ?_
    refine W_cond true rfl ?_
    refine W_skip ?_
    refine W_seq ?_
    refine W_block ?_
    refine W_seq ?_
    refine W_region ?_
    refine WL_val rfl rfl rfl (by first | exact rMoveI rfl rfl | exact rMove rfl) ?_
    refine WL_val rfl rfl rfl (by first | exact rIdx0 rfl Try.underlying45 (by kernel_rfl) rfl rfl rfl (by omega) | exact rIdx1 rfl Try.underlying45 (by kernel_rfl) rfl rfl (by omega)) ?_
    refine WL_val rfl rfl rfl (by first | exact rLd (v := .int .u8 _) rfl (by kernel_rfl) rfl (by first | exact hI.oldp hc | exact hc) | exact rLd rfl (by kernel_rfl) rfl (by first | exact hI.oldp hc | exact hc)) ?_
    refine WL_val rfl rfl rfl (by first | exact rAsgnI rfl rfl | exact rAsgn rfl) ?_
    refine WL_val rfl rfl rfl (by first | exact rAsgnI rfl rfl | exact rAsgn rfl) ?_
    refine WL_nil ?_
    refine W_seq ?_
    refine W_region ?_
    refine WL_val rfl rfl rfl (by first | exact rMoveI rfl rfl | exact rMove rfl) ?_
    refine WL_val rfl rfl rfl (by first | exact rMoveI rfl rfl | exact rMove rfl) ?_
    refine WL_val rfl rfl rfl (by first | exact rAnd_u8 (b := 127) rfl rfl rfl (by omega) (by omega) | exact rBits (r := fun p q => p &&& q) rfl rfl rfl rfl) ?_
    refine WL_val rfl rfl rfl (by first | exact rConv_u64s rfl Try.underlying5 Try.underlying73 rfl (by omega) | exact rConvW rfl Try.underlying5 Try.underlying73 rfl) ?_
    refine WL_val rfl rfl rfl (by first | exact rMoveI rfl rfl | exact rMove rfl) ?_
    refine WL_val rfl rfl rfl (by first | exact rMul rfl rfl rfl (by omega) | exact rMulW rfl rfl rfl) ?_
    refine WL_val rfl rfl rfl (rShl_u64 (s := 7 * k) rfl rfl rfl (by omega)) ?_
    refine WL_val rfl rfl rfl (rOr_u64 rfl rfl rfl (by omega) (Nat.mod_lt _ (by decide))) ?_
    refine WL_val rfl rfl rfl (rAsgnI rfl rfl) ?_
    refine WL_nil ?_
    have hval : (Value.int .u64 ((uTo l k ||| (x &&& 127) * 2 ^ min (7 * k) 64 % 18446744073709551616 : Nat) : Int)) = .int .u64 (uTo l (k + 1) : Nat) := by rw [hs]; rfl
    rw [hval]
    generalize hU : uTo l (k + 1) = u1 at *
    have hand1 : u1 &&& 1 < 2 := by rw [Nat.and_one_is_mod]; omega
    by_cases hx128 : x < 128
    · refine W_seq ?_
      refine W_region ?_
      refine WL_val rfl rfl rfl (by first | exact rMoveI rfl rfl | exact rMove rfl) ?_
      refine WL_val rfl rfl rfl (by first | exact rLssT rfl rfl rfl (by omega) | exact rLssF rfl rfl rfl (by omega) | exact rLss rfl rfl rfl) ?_
      refine WL_nil ?_
      refine W_cond true rfl ?_
      refine W_seq ?_
      refine W_draw (by kernel_rfl) ?_
      refine WA_inv (T := []) hI.drew ?_
      intro Sx hSx hXS
      replace hI := hI.drew
      refine WT_take 0 rfl rfl (by kernel_rfl) (hXS _ hI) rfl (fun W hW => have hI := hSx W hW; (by first | exact rMoveI rfl rfl | exact rMove rfl)) ?_
      refine WT_take 1 rfl rfl (by kernel_rfl) (hXS _ hI) rfl (fun W hW => have hI := hSx W hW; (by first | exact rShr_u64 (c := 1) rfl rfl rfl (by omega) | exact rShrW rfl rfl rfl (by omega))) ?_
      refine WT_take 2 rfl rfl (by kernel_rfl) (hXS _ hI) rfl (fun W hW => have hI := hSx W hW; (by first | exact rConv_i64 rfl Try.underlying73 Try.underlying3 rfl (by omega) | exact rConvW rfl Try.underlying73 Try.underlying3 rfl)) ?_
      refine WT_take 3 rfl rfl (by kernel_rfl) (hXS _ hI) rfl (fun W hW => have hI := hSx W hW; (by first | exact rMoveI rfl rfl | exact rMove rfl)) ?_
      refine WT_take 4 rfl rfl (by kernel_rfl) (hXS _ hI) rfl (fun W hW => have hI := hSx W hW; (by first | exact rAnd_u64 (b := 1) rfl rfl rfl (by omega) (by omega) | exact rBits (r := fun p q => p &&& q) rfl rfl rfl rfl)) ?_
      refine WT_take 5 rfl rfl (by kernel_rfl) (hXS _ hI) rfl (fun W hW => have hI := hSx W hW; (by first | exact rConv_i64 rfl Try.underlying73 Try.underlying3 rfl (by omega) | exact rConvW rfl Try.underlying73 Try.underlying3 rfl)) ?_
      refine WT_take 6 rfl rfl (by kernel_rfl) (hXS _ hI) rfl (fun W hW => have hI := hSx W hW; (by first | exact rNeg rfl rfl (by omega) | exact rNegW rfl rfl)) ?_
      refine WT_take 7 rfl rfl (by kernel_rfl) (hXS _ hI) rfl (fun W hW => have hI := hSx W hW; (rBits (r := fun p q => p ^^^ q) rfl rfl rfl rfl)) ?_
      refine WT_take 8 rfl rfl (by kernel_rfl) (hXS _ hI) rfl (fun W hW => have hI := hSx W hW; (by first | exact rMoveS rfl rfl | exact rMove rfl)) ?_
      refine WT_take 9 rfl rfl (by kernel_rfl) (hXS _ hI) rfl (fun W hW => have hI := hSx W hW; (by first | exact rMoveI rfl rfl | exact rMove rfl)) ?_
      refine WT_take 10 rfl rfl (by kernel_rfl) (hXS _ hI) rfl (fun W hW => have hI := hSx W hW; (by first | exact rInc rfl rfl rfl (by omega) | exact rAdd rfl rfl rfl (by omega) | exact rAddW rfl rfl rfl)) ?_
      refine WT_take 11 rfl rfl (by kernel_rfl) (hXS _ hI) rfl (fun W hW => have hI := hSx W hW; (by first | exact rSliceFrom (sz := 1) rfl Try.underlying45 (by kernel_rfl) rfl rfl (by omega) (by omega) | exact rSliceFromG (sz := 1) rfl Try.underlying45 (by kernel_rfl) rfl rfl (by omega))) ?_
      refine WT_take 12 rfl rfl (by kernel_rfl) (hXS _ hI) rfl (fun W hW => have hI := hSx W hW; (by first | exact rAsgnI rfl rfl | exact rAsgn rfl)) ?_
      refine WT_take 13 rfl rfl (by kernel_rfl) (hXS _ hI) rfl (fun W hW => have hI := hSx W hW; (by first | exact rAsgnS rfl rfl | exact rAsgn rfl)) ?_
      refine WT_take 14 rfl rfl (by kernel_rfl) (hXS _ hI) rfl (fun W hW => have hI := hSx W hW; (by first | exact rAsgnB rfl rfl | exact rAsgn rfl)) ?_
      refine WT_end (by kernel_rfl) ?_
      refine W_ret ?_
      refine ret3 2 3 4 (.inr rfl) rfl ⟨hI.pu, .inl ⟨l.take (k + 1), l.drop (k + 1), (if c = k + 1 then some ⟨g, o, none⟩ else (some ⟨g, o, none⟩ : Option Addr).map (·.add ((k + 1) * 1))), c - (k + 1), numF_at hx hx128 hbig, ?_, ?_⟩⟩
      · have hnv : numV (l.take (k + 1)) = unz u1 := by
          unfold numV
          rw [List.length_take, Nat.min_eq_left (by omega), uTo_take _ _ _ (Nat.le_refl _), hU]
        rw [hnv, ← unz_run hu']
        rw [List.length_drop]
        rfl
      · rw [List.length_drop]
        exact (h.pure hI.pu).drop (by omega)
    · refine W_seq ?_
      refine W_region ?_
      refine WL_val rfl rfl rfl (by first | exact rMoveI rfl rfl | exact rMove rfl) ?_
      refine WL_val rfl rfl rfl (by first | exact rLssT rfl rfl rfl (by omega) | exact rLssF rfl rfl rfl (by omega) | exact rLss rfl rfl rfl) ?_
      refine WL_nil ?_
      refine W_cond false rfl ?_
      refine W_skip ?_
      refine W_region ?_
      refine WL_val rfl rfl rfl (by first | exact rInc rfl rfl rfl (by omega) | exact rAdd rfl rfl rfl (by omega) | exact rAddW rfl rfl rfl) ?_
      refine WL_val rfl rfl rfl (by first | exact rMoveI rfl rfl | exact rMove rfl) ?_
      refine WL_nil ?_
      refine ⟨⟨k + 1, by omega, ⟨rfl, rfl, rfl, rfl, by rw [hU]; rfl, trivial⟩, fun j y hj hy => ?_, hI, rfl⟩, by show l.length - ((k + 1 : Nat) : Int).toNat < l.length - (k : Int).toNat; omega⟩
      rcases Nat.lt_or_ge j k with hjk | hjk
      · exact hbig j y hjk hy
      · obtain rfl : j = k := by omega
        rw [hx] at hy
        injection hy with hy
        omega
  · refine W_seq ?_
    refine W_region ?_
    refine WL_val rfl rfl rfl (by first | exact rLssT rfl rfl rfl (by omega) | exact rLssF rfl rfl rfl (by omega) | exact rLss rfl rfl rfl) ?_
    refine WL_nil ?_
    refine W_seq ?_
    refine W_cond false rfl ?_
    refine W_exit ?_
    refine W_seq ?_
    refine W_region ?_
    refine WL_val rfl rfl rfl (by first | exact rAsgnI rfl rfl | exact rAsgn rfl) ?_
    refine WL_val rfl rfl rfl (by first | exact rAsgnS rfl rfl | exact rAsgn rfl) ?_
    refine WL_val rfl rfl rfl (by first | exact rAsgnB rfl rfl | exact rAsgn rfl) ?_
    refine WL_nil ?_
    refine W_ret ?_
    refine ret3 2 3 4 (.inr rfl) rfl ⟨hI.pu, .inr ⟨numF_none fun x hx => ?_, rfl⟩⟩
    obtain ⟨j, hj⟩ := List.getElem?_of_mem hx
    exact hbig j x (by have := (List.getElem?_eq_some_iff.1 hj).1; omega) hj

/-! ### bytes -/
def strB (l : List Nat) : ByteArray := strOfNums (l.map fun b : Nat => (b : Int))
theorem rBtoS {P : Program} {ρ : Env} {o : Oper} {w : World} {x : Operand} {src dst e : TypeId} {A : Option Addr} {n c : Nat} {l : List Nat} {D : Nat → Prop} (ho : o.op = .convert src dst x) (hs : P.underlying src = some (.slice e)) (he : P.underlying e = some (.int .u8)) (hd : P.underlying dst = some .string) (hx : ev ρ x = .slice A n c) (hl : l.length = n) (h : Bts w D (.slice A n c) l) :
    Runs P ρ o w (.string (strB l)) := by
  subst hl
  cases A with
  | none =>
    have hn : l = [] := by
      cases l with
      | nil => rfl
      | cons a l => obtain ⟨g, o, hA, _⟩ := h.get (k := 0) (b := a) rfl; cases hA
    subst hn
    have := run_convert_bytes_nil (P := P) w src e hs he 0 c dst hd
    simp only [Runs, execOp, ho, hx, List.length_nil, Sem.run_bind, this, Result.andThen_ok, Sem.run_pure]
    rfl
  | some a =>
    obtain ⟨b, off, sp⟩ := a
    rcases Nat.eq_zero_or_pos l.length with h0 | h0
    · have hn : l = [] := List.eq_nil_of_length_eq_zero h0
      subst hn
      have hr := run_convert_bytes_string (P := P) w src dst e (some ⟨b, off, sp⟩) 0 c hs he hd
      have hb := run_bytesToString (P := P) w ⟨b, off, sp⟩ 0 c [] (by simp [loadCells, loadCellsFrom])
      simp only [Runs, execOp, ho, hx, List.length_nil, Sem.run_bind, hr, hb, Result.andThen_ok, Sem.run_pure]
      rfl
    · obtain ⟨g, o', hA, _, _⟩ := h.get (k := 0) (b := l[0]) (List.getElem?_eq_getElem h0)
      injection hA with hA
      injection hA with h1 h2 h3
      subst h1 h2 h3
      have hr := run_convert_bytes_arg (P := P) w src e hs he b off l.length c (l.map fun b : Nat => (b : Int)) (by simp) (fun i hi => by
        obtain ⟨g, o2, hA, _, hc⟩ := h.get (k := i) (b := l[i]) (List.getElem?_eq_getElem hi)
        injection hA with hA
        injection hA with h1 h2
        subst h1 h2
        rw [hc]
        simp [List.getD, List.getElem?_eq_getElem hi]) dst hd
      simp only [Runs, execOp, ho, hx, Sem.run_bind, hr, Result.andThen_ok, Sem.run_pure]
      rfl
theorem strB_eq {l m : List Nat} (hl : ∀ x ∈ l, x < 256) (hm : ∀ x ∈ m, x < 256) : ((strB l).toList == (strB m).toList) = decide (l = m) := by
  have key : ∀ (l m : List Nat), (∀ x ∈ l, x < 256) → (∀ x ∈ m, x < 256) → l.map (fun b => UInt8.ofNat b) = m.map (fun b => UInt8.ofNat b) → l = m := by
    intro l
    induction l with
    | nil => intro m _ _ h; cases m with | nil => rfl | cons a m => simp at h
    | cons a l ih =>
      intro m hl hm h
      cases m with
      | nil => simp at h
      | cons b m =>
        simp only [List.map_cons, List.cons.injEq] at h
        have h1 := congrArg UInt8.toNat h.1
        rw [UInt8.toNat_ofNat', UInt8.toNat_ofNat'] at h1
        have ha := hl a (by simp)
        have hb := hm b (by simp)
        rw [ih m (fun x hx => hl x (by simp [hx])) (fun x hx => hm x (by simp [hx])) h.2, show a = b by omega]
  have e : ∀ l : List Nat, (strB l).toList = l.map (fun b => UInt8.ofNat b) := fun l => by
    unfold strB strOfNums
    simp
  rw [e, e, Bool.eq_iff_iff, beq_iff_eq, decide_eq_true_iff]
  exact ⟨key l m hl hm, fun h => by rw [h]⟩

theorem bequal_any (A A' : Option Addr) (n c n' c' : Nat) (l m : List Nat) (D D' : Nat → Prop) (w : World) (h : Bts w D (.slice A n c) l) (hl : l.length = n) (h' : Bts w D' (.slice A' n' c') m) (hm : m.length = n') (hb : ∀ x ∈ l, x < 256) (hb' : ∀ x ∈ m, x < 256) :
    Calls Try.prog 35 #[.slice A n c, .slice A' n' c'] w fun e w' => e = .returned (.bool (decide (l = m))) ∧ w = w' := by
  have hI := Inv.start (fun _ => False) w
  refine calls_of_W (N := Try.f35.ntmps) Try.func35 rfl rfl rfl ?_
  refine W_seq ?_
  refine W_region ?_
  refine WL_val rfl rfl rfl (by first | exact rAsgnB rfl rfl | exact rAsgn rfl) ?_
  refine WL_nil ?_
  refine W_seq ?_
  refine W_region ?_
  refine WL_val rfl rfl rfl (by first | exact rMoveS rfl rfl | exact rMove rfl) ?_
  refine WL_val rfl rfl rfl (rBtoS rfl Try.underlying45 Try.underlying5 Try.underlying9 rfl hl h) ?_
  refine WL_val rfl rfl rfl (rMoveS rfl rfl) ?_
  refine WL_val rfl rfl rfl (rBtoS rfl Try.underlying45 Try.underlying5 Try.underlying9 rfl hm h') ?_
  refine WL_val rfl rfl rfl (rStrEql rfl rfl rfl) ?_
  refine WL_val rfl rfl rfl (rAsgnB rfl rfl) ?_
  refine WL_nil ?_
  refine W_ret ?_
  exact ret1 4 (.inr rfl) rfl ⟨congrArg (fun b => Ending.returned (.bool b)) (strB_eq hb hb'), rfl⟩
theorem bprefix_any (A A' : Option Addr) (n c n' c' : Nat) (l m : List Nat) (D D' : Nat → Prop) (w : World) (h : Bts w D (.slice A n c) l) (hl : l.length = n) (h' : Bts w D' (.slice A' n' c') m) (hm : m.length = n') (hb : ∀ x ∈ l, x < 256) (hb' : ∀ x ∈ m, x < 256) :
    Calls Try.prog 20 #[.slice A n c, .slice A' n' c'] w fun e w' => e = .returned (.bool (decide (l.take m.length = m))) ∧ w = w' := by
  subst hl hm
  obtain ⟨_, _, hv, hcc, _⟩ := h.form
  injection hv with _ _ hv
  subst hv
  have hI := Inv.start (fun _ => False) w
  refine calls_of_W (N := Try.f20.ntmps) Try.func20 rfl rfl rfl ?_
  refine W_seq ?_
  refine W_region ?_
  refine WL_val rfl rfl rfl (by first | exact rAsgnB rfl rfl | exact rAsgn rfl) ?_
  refine WL_nil ?_
  by_cases hle : m.length ≤ l.length
  · refine W_seq ?_
    refine W_region ?_
    refine WL_val rfl rfl rfl (by first | exact rMoveS rfl rfl | exact rMove rfl) ?_
    refine WL_val rfl rfl rfl (rLen rfl Try.underlying45 rfl) ?_
    refine WL_val rfl rfl rfl (by first | exact rMoveS rfl rfl | exact rMove rfl) ?_
    refine WL_val rfl rfl rfl (rLen rfl Try.underlying45 rfl) ?_
    refine WL_val rfl rfl rfl (by first | exact rGeqT rfl rfl rfl (by omega) | exact rGeqF rfl rfl rfl (by omega) | exact rGeq rfl rfl rfl) ?_
    refine WL_val rfl rfl rfl (by first | exact rMoveB rfl rfl | exact rMove rfl) ?_
    first | refine WL_val rfl rfl rfl (by first | exact rMoveS rfl rfl | exact rMove rfl) ?_ | refine WL_skip rfl rfl rfl ?_
    first | refine WL_val rfl rfl rfl (by first | exact rMoveS rfl rfl | exact rMove rfl) ?_ | refine WL_skip rfl rfl rfl ?_
    first | refine WL_val rfl rfl rfl (rLen rfl Try.underlying45 rfl) ?_ | refine WL_skip rfl rfl rfl ?_
    first | refine WL_val rfl rfl rfl (rSliceTo (sz := 1) rfl Try.underlying45 (by kernel_rfl) rfl rfl (by omega)) ?_ | refine WL_skip rfl rfl rfl ?_
    first | refine WL_val rfl rfl rfl (by first | exact rMoveS rfl rfl | exact rMove rfl) ?_ | refine WL_skip rfl rfl rfl ?_
    refine WL_call rfl rfl rfl (rCall (vs := [.slice _ _ _, .slice _ _ _]) rfl Try.func35 rfl rfl rfl) ?_
    refine (bequal_any _ _ _ _ _ _ (l.take m.length) m D D' w (h.take hle (by omega) (Nat.le_refl _)) (by simp; omega) h' rfl (fun x hx => hb x (List.mem_of_mem_take hx)) hb').mono ?_
    rintro e w1 ⟨rfl, rfl⟩
    refine ⟨_, rfl, ?_⟩
    refine WL_val rfl rfl rfl (by first | exact rPickTB rfl rfl rfl | exact rPickFB rfl rfl rfl | exact rPickB rfl rfl rfl rfl) ?_
    refine WL_val rfl rfl rfl (by first | exact rAsgnB rfl rfl | exact rAsgn rfl) ?_
    refine WL_nil ?_
    refine W_ret ?_
    exact ret1 4 (.inr rfl) rfl ⟨rfl, rfl⟩
  · refine W_seq ?_
    refine W_region ?_
    refine WL_val rfl rfl rfl (by first | exact rMoveS rfl rfl | exact rMove rfl) ?_
    refine WL_val rfl rfl rfl (rLen rfl Try.underlying45 rfl) ?_
    refine WL_val rfl rfl rfl (by first | exact rMoveS rfl rfl | exact rMove rfl) ?_
    refine WL_val rfl rfl rfl (rLen rfl Try.underlying45 rfl) ?_
    refine WL_val rfl rfl rfl (by first | exact rGeqT rfl rfl rfl (by omega) | exact rGeqF rfl rfl rfl (by omega) | exact rGeq rfl rfl rfl) ?_
    refine WL_val rfl rfl rfl (by first | exact rMoveB rfl rfl | exact rMove rfl) ?_
    refine WL_skip rfl rfl rfl ?_
    refine WL_skip rfl rfl rfl ?_
    refine WL_skip rfl rfl rfl ?_
    refine WL_skip rfl rfl rfl ?_
    refine WL_skip rfl rfl rfl ?_
    refine WL_skip rfl rfl rfl ?_
    refine WL_val rfl rfl rfl (by first | exact rPickTB rfl rfl rfl | exact rPickFB rfl rfl rfl | exact rPickB rfl rfl rfl rfl) ?_
    refine WL_val rfl rfl rfl (by first | exact rAsgnB rfl rfl | exact rAsgn rfl) ?_
    refine WL_nil ?_
    refine W_ret ?_
    refine ret1 4 (.inr rfl) rfl ⟨?_, rfl⟩
    have : ¬ (l.take m.length = m) := fun e => by have := congrArg List.length e; simp at this; omega
    show Ending.returned (.bool false) = _
    simp [this]
end Go.Proofs.Ytfagfkgmibmanaa
