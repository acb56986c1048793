/- Sx: bits, conversions, append. Nothing of the program. -/
import Derived.Test.YtlmpolmalgpodaaDoorSxj
namespace Go.Proofs.YtlmpolmalgpodaaDoor
open Go
set_option linter.unusedVariables false
section
variable {P : Program} {ρ : Env} {o : Oper} {w : World} {x y z : Operand} {v : Value} {t t' : TypeId}
theorem wrap_u8 {n : Nat} (h : n < 256) : IntKind.u8.wrap (n : Int) = n := by simp [IntKind.wrap, IntKind.signed, IntKind.bits]; omega
theorem wrap_u32 {n : Nat} (h : n < 4294967296) : IntKind.u32.wrap (n : Int) = n := by simp [IntKind.wrap, IntKind.signed, IntKind.bits]; omega
theorem wrap_u64 {n : Nat} (h : n < 18446744073709551616) : IntKind.u64.wrap (n : Int) = n := by simp [IntKind.wrap, IntKind.signed, IntKind.bits]; omega
theorem wrap_u8_mod (n : Nat) : IntKind.u8.wrap (n : Int) = ((n % 256 : Nat) : Int) := by simp [IntKind.wrap, IntKind.signed, IntKind.bits]
theorem wrap_u32_mod (n : Nat) : IntKind.u32.wrap (n : Int) = ((n % 4294967296 : Nat) : Int) := by simp [IntKind.wrap, IntKind.signed, IntKind.bits]
theorem wrap_u64_mod (n : Nat) : IntKind.u64.wrap (n : Int) = ((n % 18446744073709551616 : Nat) : Int) := by simp [IntKind.wrap, IntKind.signed, IntKind.bits]
theorem rConvW {s d : TypeId} {k k' : IntKind} {ds : TypeDesc} {n : Int} (ho : o.op = .convert s d x) (hs : P.underlying s = some ds) (hd : P.underlying d = some (.int k)) (hx : ev ρ x = .int k' n) : Runs P ρ o w (.int k (k.wrap n)) := by
  simp [Runs, execOp, ho, hx, convert, run_underlying hs, run_underlying hd, Conv.intToInt]
theorem rConv_i64 {s d : TypeId} {k' : IntKind} {ds : TypeDesc} {n : Int} (ho : o.op = .convert s d x) (hs : P.underlying s = some ds) (hd : P.underlying d = some (.int .i64)) (hx : ev ρ x = .int k' n) (h : -9223372036854775808 ≤ n ∧ n ≤ 9223372036854775807) : Runs P ρ o w (.int .i64 n) := by
  have := rConvW (P := P) (w := w) ho hs hd hx
  rwa [wrap64_in h.1 h.2] at this
theorem rConv_u8 {s d : TypeId} {k' : IntKind} {ds : TypeDesc} {n : Nat} (ho : o.op = .convert s d x) (hs : P.underlying s = some ds) (hd : P.underlying d = some (.int .u8)) (hx : ev ρ x = .int k' (n : Int)) : Runs P ρ o w (.int .u8 ((n % 256 : Nat) : Int)) := by
  have := rConvW (P := P) (w := w) ho hs hd hx
  rwa [wrap_u8_mod] at this
theorem rConv_u8s {s d : TypeId} {k' : IntKind} {ds : TypeDesc} {n : Nat} (ho : o.op = .convert s d x) (hs : P.underlying s = some ds) (hd : P.underlying d = some (.int .u8)) (hx : ev ρ x = .int k' (n : Int)) (h : n < 256) : Runs P ρ o w (.int .u8 (n : Int)) := by
  have := rConvW (P := P) (w := w) ho hs hd hx
  rwa [wrap_u8 h] at this
theorem rConv_u32s {s d : TypeId} {k' : IntKind} {ds : TypeDesc} {n : Nat} (ho : o.op = .convert s d x) (hs : P.underlying s = some ds) (hd : P.underlying d = some (.int .u32)) (hx : ev ρ x = .int k' (n : Int)) (h : n < 4294967296) : Runs P ρ o w (.int .u32 (n : Int)) := by
  have := rConvW (P := P) (w := w) ho hs hd hx
  rwa [wrap_u32 h] at this
theorem rConv_u64s {s d : TypeId} {k' : IntKind} {ds : TypeDesc} {n : Nat} (ho : o.op = .convert s d x) (hs : P.underlying s = some ds) (hd : P.underlying d = some (.int .u64)) (hx : ev ρ x = .int k' (n : Int)) (h : n < 18446744073709551616) : Runs P ρ o w (.int .u64 (n : Int)) := by
  have := rConvW (P := P) (w := w) ho hs hd hx
  rwa [wrap_u64 h] at this
theorem rBits {op : BinOp} {k : IntKind} {a b : Int} {r : BitVec k.bits → BitVec k.bits → BitVec k.bits} (ho : o.op = .binOp op t x y t') (hx : ev ρ x = .int k a) (hy : ev ρ y = .int k b) (hr : (match op with | .and => some (fun p q : BitVec k.bits => p &&& q) | .or => some (fun p q => p ||| q) | .xor => some (fun p q => p ^^^ q) | _ => none) = some r) :
    Runs P ρ o w (.int k (k.wrap (r (BitVec.ofInt k.bits a) (BitVec.ofInt k.bits b)).toNat)) := by
  cases op <;> simp at hr <;> subst hr <;> simp [Runs, execOp, ho, hx, hy, eqGuard, binOp, Op.intBits]
theorem rShrW {k k' : IntKind} {a c : Int} (ho : o.op = .binOp .shr t x y t') (hx : ev ρ x = .int k a) (hy : ev ρ y = .int k' c) (hc : 0 ≤ c) : Runs P ρ o w (.int k (a.fdiv (2 ^ min c.toNat k.bits))) := by
  have : ¬ c < 0 := by omega
  simp [Runs, execOp, ho, hx, hy, eqGuard, binOp, Op.shift, this]
theorem rShlW {k k' : IntKind} {a c : Int} (ho : o.op = .binOp .shl t x y t') (hx : ev ρ x = .int k a) (hy : ev ρ y = .int k' c) (hc : 0 ≤ c) : Runs P ρ o w (.int k (k.wrap (a * 2 ^ min c.toNat k.bits))) := by
  have : ¬ c < 0 := by omega
  simp [Runs, execOp, ho, hx, hy, eqGuard, binOp, Op.shift, this]
theorem rNegW {k : IntKind} {a : Int} (ho : o.op = .unOp .neg t x) (hx : ev ρ x = .int k a) : Runs P ρ o w (.int k (k.wrap (0 - a))) := by simp [Runs, execOp, ho, hx, Op.unary, Op.intArith]
theorem rNeg {a : Int} (ho : o.op = .unOp .neg t x) (hx : ev ρ x = .int .i64 a) (h : -9223372036854775807 ≤ a ∧ a ≤ 9223372036854775807) : Runs P ρ o w (.int .i64 (-a)) := by
  have := rNegW (P := P) (w := w) ho hx
  rwa [wrap64_in (by omega) (by omega), Int.zero_sub] at this
theorem rNotW {k : IntKind} {a : Int} (ho : o.op = .unOp .xor t x) (hx : ev ρ x = .int k a) : Runs P ρ o w (.int k (k.wrap (BitVec.ofInt k.bits (if k.signed then -1 else k.max) ^^^ BitVec.ofInt k.bits a).toNat)) := by
  simp [Runs, execOp, ho, hx, Op.unary, Op.intBits]
theorem rQuoW {k : IntKind} {a b : Int} (ho : o.op = .binOp .quo t x y t') (hx : ev ρ x = .int k a) (hy : ev ρ y = .int k b) (hb : b ≠ 0) : Runs P ρ o w (.int k (k.wrap (a.tdiv b))) := by simp [Runs, execOp, ho, hx, hy, eqGuard, binOp, Op.intDiv, hb]
theorem rRemW {k : IntKind} {a b : Int} (ho : o.op = .binOp .rem t x y t') (hx : ev ρ x = .int k a) (hy : ev ρ y = .int k b) (hb : b ≠ 0) : Runs P ρ o w (.int k (a.tmod b)) := by simp [Runs, execOp, ho, hx, hy, eqGuard, binOp, Op.intDiv, hb]
theorem rNilChk {p : Addr} (ho : o.op = .nilCheck x) (hx : ev ρ x = .pointer (some p)) : Runs P ρ o w (.pointer (some p)) := by simp [Runs, execOp, ho, hx]
/-- The address of a place in an array that a pointer leads to. -/
theorem rIdxArr {e n sz g j i : Nat} {k : IntKind} {zz : Int} (ho : o.op = .indexAddr t x y) (ht : P.underlying t = some (.array n e)) (hs : szB P e sz = true) (hx : ev ρ x = .pointer (some ⟨g, j, none⟩)) (hy : ev ρ y = .int k zz) (hz : zz = (i : Int)) (hi : i < n) :
    Runs P ρ o w (.pointer (some ⟨g, j + i * sz, none⟩)) := by
  subst hz
  have hi' : (i : Int) < (n : Int) := by omega
  simp [Runs, execOp, ho, hx, hy, Instr.indexAt, asIntOf, Instr.sureAddr, run_underlying ht, run_size hs, hi, Addr.add]
/-- s[i:k] -/
theorem rSliceMid {g e n c j i k sz : Nat} {K K' : IntKind} (ho : o.op = .slice t x (some y) (some z) none) (ht : P.underlying t = some (.slice e)) (hs : szB P e sz = true) (hx : ev ρ x = .slice (some ⟨g, j, none⟩) n c) (hy : ev ρ y = .int K (i : Int)) (hz : ev ρ z = .int K' (k : Int)) (hi : i ≤ k) (hk : k ≤ c) (hc : i < c) :
    Runs P ρ o w (.slice (some ⟨g, j + i * sz, none⟩) (k - i) (c - i)) := by
  have h1 : ¬ c = i := by omega
  simp [Runs, execOp, ho, hx, hy, hz, Instr.sliceAt, Instr.slice, Instr.sliceBounds, Instr.sliceBound, asIntOf, run_underlying ht, run_size hs, hi, hk, h1, Addr.add_lit]
theorem rCap {e n c : Nat} {A : Option Addr} (ho : o.op = .call { callee := .builtin .cap, args := #[x], argTypes := #[t] }) (ht : P.underlying t = some (.slice e)) (hx : ev ρ x = .slice A n c) : Runs P ρ o w (.int .i64 (c : Int)) := by
  simp [Runs, execOp, ho, resolve, invoke, builtin, Builtin.cap_, run_underlying ht, hx, goInt]
/-- append of nothing. -/
theorem rApp0 {e n c c' sz : Nat} {A A' : Option Addr} (ho : o.op = .call { callee := .builtin .append, args := #[x, y], argTypes := #[t, t] }) (ht : P.underlying t = some (.slice e)) (hs : szB P e sz = true) (hx : ev ρ x = .slice A n c) (hy : ev ρ y = .slice A' 0 c') (hn : n ≤ c) : Runs P ρ o w (.slice A n c) := by
  cases A <;> cases A' <;> simp [Runs, execOp, ho, resolve, invoke, builtin, hx, hy, Builtin.append_, run_underlying ht, run_size hs, Builtin.lenOf, Builtin.firstCells, storeCells, loadCells, loadCellsFrom, hn]
/-- s[i:], whatever the capacity. -/
theorem rSliceFromG {A : Option Addr} {e n c i sz : Nat} {K : IntKind} (ho : o.op = .slice t x (some y) none none) (ht : P.underlying t = some (.slice e)) (hs : szB P e sz = true) (hx : ev ρ x = .slice A n c) (hy : ev ρ y = .int K (i : Int)) (hi : i ≤ n) :
    Runs P ρ o w (.slice (if c = i then A else A.map (·.add (i * sz))) (n - i) (c - i)) := by
  simp [Runs, execOp, ho, hx, hy, Instr.sliceAt, Instr.slice, Instr.sliceBounds, Instr.sliceBound, asIntOf, run_underlying ht, run_size hs, hi]
theorem rSliceMidG {A : Option Addr} {e n c i k sz : Nat} {K K' : IntKind} (ho : o.op = .slice t x (some y) (some z) none) (ht : P.underlying t = some (.slice e)) (hs : szB P e sz = true) (hx : ev ρ x = .slice A n c) (hy : ev ρ y = .int K (i : Int)) (hz : ev ρ z = .int K' (k : Int)) (hi : i ≤ k) (hk : k ≤ c) :
    Runs P ρ o w (.slice (if c = i then A else A.map (·.add (i * sz))) (k - i) (c - i)) := by
  simp [Runs, execOp, ho, hx, hy, hz, Instr.sliceAt, Instr.slice, Instr.sliceBounds, Instr.sliceBound, asIntOf, run_underlying ht, run_size hs, hi, hk]
theorem rShl_u64 {a s : Nat} {k' : IntKind} {q : Int} (ho : o.op = .binOp .shl t x y t') (hx : ev ρ x = .int .u64 (a : Int)) (hy : ev ρ y = .int k' q) (hq : q = (s : Int)) : Runs P ρ o w (.int .u64 ((a * 2 ^ min s 64 % 18446744073709551616 : Nat) : Int)) := by
  subst hq
  have h := rShlW (P := P) (w := w) ho hx hy (by omega)
  rw [Int.toNat_natCast] at h
  have e : (a : Int) * 2 ^ min s (IntKind.bits .u64) = ((a * 2 ^ min s 64 : Nat) : Int) := by
    show (a : Int) * 2 ^ min s 64 = _
    simp
  rw [e, wrap_u64_mod] at h
  exact h
theorem rAnd_u8 {a b : Nat} (ho : o.op = .binOp .and t x y t') (hx : ev ρ x = .int .u8 (a : Int)) (hy : ev ρ y = .int .u8 (b : Int)) (ha : a < 256) (hb : b < 256) : Runs P ρ o w (.int .u8 ((a &&& b : Nat) : Int)) := by
  have h := rBits (P := P) (w := w) (op := .and) (r := fun p q => p &&& q) ho hx hy rfl
  have e : (BitVec.ofInt (IntKind.bits .u8) (a : Int) &&& BitVec.ofInt (IntKind.bits .u8) (b : Int)).toNat = a &&& b := by
    show (BitVec.ofInt 8 (a : Int) &&& BitVec.ofInt 8 (b : Int)).toNat = a &&& b
    rw [BitVec.ofInt_natCast, BitVec.ofInt_natCast, BitVec.toNat_and, BitVec.toNat_ofNat, BitVec.toNat_ofNat, Nat.mod_eq_of_lt (by simpa using ha), Nat.mod_eq_of_lt (by simpa using hb)]
  have hlt : a &&& b < 2 ^ 8 := Nat.and_lt_two_pow _ (by simpa using hb)
  rw [e, wrap_u8 (by omega)] at h
  exact h
theorem rOr_u8 {a b : Nat} (ho : o.op = .binOp .or t x y t') (hx : ev ρ x = .int .u8 (a : Int)) (hy : ev ρ y = .int .u8 (b : Int)) (ha : a < 256) (hb : b < 256) : Runs P ρ o w (.int .u8 ((a ||| b : Nat) : Int)) := by
  have h := rBits (P := P) (w := w) (op := .or) (r := fun p q => p ||| q) ho hx hy rfl
  have e : (BitVec.ofInt (IntKind.bits .u8) (a : Int) ||| BitVec.ofInt (IntKind.bits .u8) (b : Int)).toNat = a ||| b := by
    show (BitVec.ofInt 8 (a : Int) ||| BitVec.ofInt 8 (b : Int)).toNat = a ||| b
    rw [BitVec.ofInt_natCast, BitVec.ofInt_natCast, BitVec.toNat_or, BitVec.toNat_ofNat, BitVec.toNat_ofNat, Nat.mod_eq_of_lt (by simpa using ha), Nat.mod_eq_of_lt (by simpa using hb)]
  have hlt : a ||| b < 2 ^ 8 := Nat.or_lt_two_pow (by simpa using ha) (by simpa using hb)
  rw [e, wrap_u8 (by omega)] at h
  exact h
theorem rXor_u8 {a b : Nat} (ho : o.op = .binOp .xor t x y t') (hx : ev ρ x = .int .u8 (a : Int)) (hy : ev ρ y = .int .u8 (b : Int)) (ha : a < 256) (hb : b < 256) : Runs P ρ o w (.int .u8 ((a ^^^ b : Nat) : Int)) := by
  have h := rBits (P := P) (w := w) (op := .xor) (r := fun p q => p ^^^ q) ho hx hy rfl
  have e : (BitVec.ofInt (IntKind.bits .u8) (a : Int) ^^^ BitVec.ofInt (IntKind.bits .u8) (b : Int)).toNat = a ^^^ b := by
    show (BitVec.ofInt 8 (a : Int) ^^^ BitVec.ofInt 8 (b : Int)).toNat = a ^^^ b
    rw [BitVec.ofInt_natCast, BitVec.ofInt_natCast, BitVec.toNat_xor, BitVec.toNat_ofNat, BitVec.toNat_ofNat, Nat.mod_eq_of_lt (by simpa using ha), Nat.mod_eq_of_lt (by simpa using hb)]
  have hlt : a ^^^ b < 2 ^ 8 := Nat.xor_lt_two_pow (by simpa using ha) (by simpa using hb)
  rw [e, wrap_u8 (by omega)] at h
  exact h
theorem rShr_u8 {a c : Nat} {k' : IntKind} (ho : o.op = .binOp .shr t x y t') (hx : ev ρ x = .int .u8 (a : Int)) (hy : ev ρ y = .int k' (c : Int)) (hc : c < 8) : Runs P ρ o w (.int .u8 ((a / 2 ^ c : Nat) : Int)) := by
  have h := rShrW (P := P) (w := w) ho hx hy (by omega)
  have e : min c (IntKind.bits .u8) = c := by show min c 8 = c; omega
  rw [Int.toNat_natCast, e] at h
  have e2 : (a : Int).fdiv (2 ^ c) = ((a / 2 ^ c : Nat) : Int) := by
    rw [Int.fdiv_eq_ediv_of_nonneg _ (Int.le_of_lt (Int.pow_pos (by omega)))]
    simp
  rw [e2] at h
  exact h
theorem rAnd_u32 {a b : Nat} (ho : o.op = .binOp .and t x y t') (hx : ev ρ x = .int .u32 (a : Int)) (hy : ev ρ y = .int .u32 (b : Int)) (ha : a < 4294967296) (hb : b < 4294967296) : Runs P ρ o w (.int .u32 ((a &&& b : Nat) : Int)) := by
  have h := rBits (P := P) (w := w) (op := .and) (r := fun p q => p &&& q) ho hx hy rfl
  have e : (BitVec.ofInt (IntKind.bits .u32) (a : Int) &&& BitVec.ofInt (IntKind.bits .u32) (b : Int)).toNat = a &&& b := by
    show (BitVec.ofInt 32 (a : Int) &&& BitVec.ofInt 32 (b : Int)).toNat = a &&& b
    rw [BitVec.ofInt_natCast, BitVec.ofInt_natCast, BitVec.toNat_and, BitVec.toNat_ofNat, BitVec.toNat_ofNat, Nat.mod_eq_of_lt (by simpa using ha), Nat.mod_eq_of_lt (by simpa using hb)]
  have hlt : a &&& b < 2 ^ 32 := Nat.and_lt_two_pow _ (by simpa using hb)
  rw [e, wrap_u32 (by omega)] at h
  exact h
theorem rOr_u32 {a b : Nat} (ho : o.op = .binOp .or t x y t') (hx : ev ρ x = .int .u32 (a : Int)) (hy : ev ρ y = .int .u32 (b : Int)) (ha : a < 4294967296) (hb : b < 4294967296) : Runs P ρ o w (.int .u32 ((a ||| b : Nat) : Int)) := by
  have h := rBits (P := P) (w := w) (op := .or) (r := fun p q => p ||| q) ho hx hy rfl
  have e : (BitVec.ofInt (IntKind.bits .u32) (a : Int) ||| BitVec.ofInt (IntKind.bits .u32) (b : Int)).toNat = a ||| b := by
    show (BitVec.ofInt 32 (a : Int) ||| BitVec.ofInt 32 (b : Int)).toNat = a ||| b
    rw [BitVec.ofInt_natCast, BitVec.ofInt_natCast, BitVec.toNat_or, BitVec.toNat_ofNat, BitVec.toNat_ofNat, Nat.mod_eq_of_lt (by simpa using ha), Nat.mod_eq_of_lt (by simpa using hb)]
  have hlt : a ||| b < 2 ^ 32 := Nat.or_lt_two_pow (by simpa using ha) (by simpa using hb)
  rw [e, wrap_u32 (by omega)] at h
  exact h
theorem rXor_u32 {a b : Nat} (ho : o.op = .binOp .xor t x y t') (hx : ev ρ x = .int .u32 (a : Int)) (hy : ev ρ y = .int .u32 (b : Int)) (ha : a < 4294967296) (hb : b < 4294967296) : Runs P ρ o w (.int .u32 ((a ^^^ b : Nat) : Int)) := by
  have h := rBits (P := P) (w := w) (op := .xor) (r := fun p q => p ^^^ q) ho hx hy rfl
  have e : (BitVec.ofInt (IntKind.bits .u32) (a : Int) ^^^ BitVec.ofInt (IntKind.bits .u32) (b : Int)).toNat = a ^^^ b := by
    show (BitVec.ofInt 32 (a : Int) ^^^ BitVec.ofInt 32 (b : Int)).toNat = a ^^^ b
    rw [BitVec.ofInt_natCast, BitVec.ofInt_natCast, BitVec.toNat_xor, BitVec.toNat_ofNat, BitVec.toNat_ofNat, Nat.mod_eq_of_lt (by simpa using ha), Nat.mod_eq_of_lt (by simpa using hb)]
  have hlt : a ^^^ b < 2 ^ 32 := Nat.xor_lt_two_pow (by simpa using ha) (by simpa using hb)
  rw [e, wrap_u32 (by omega)] at h
  exact h
theorem rShr_u32 {a c : Nat} {k' : IntKind} (ho : o.op = .binOp .shr t x y t') (hx : ev ρ x = .int .u32 (a : Int)) (hy : ev ρ y = .int k' (c : Int)) (hc : c < 32) : Runs P ρ o w (.int .u32 ((a / 2 ^ c : Nat) : Int)) := by
  have h := rShrW (P := P) (w := w) ho hx hy (by omega)
  have e : min c (IntKind.bits .u32) = c := by show min c 32 = c; omega
  rw [Int.toNat_natCast, e] at h
  have e2 : (a : Int).fdiv (2 ^ c) = ((a / 2 ^ c : Nat) : Int) := by
    rw [Int.fdiv_eq_ediv_of_nonneg _ (Int.le_of_lt (Int.pow_pos (by omega)))]
    simp
  rw [e2] at h
  exact h
theorem rAnd_u64 {a b : Nat} (ho : o.op = .binOp .and t x y t') (hx : ev ρ x = .int .u64 (a : Int)) (hy : ev ρ y = .int .u64 (b : Int)) (ha : a < 18446744073709551616) (hb : b < 18446744073709551616) : Runs P ρ o w (.int .u64 ((a &&& b : Nat) : Int)) := by
  have h := rBits (P := P) (w := w) (op := .and) (r := fun p q => p &&& q) ho hx hy rfl
  have e : (BitVec.ofInt (IntKind.bits .u64) (a : Int) &&& BitVec.ofInt (IntKind.bits .u64) (b : Int)).toNat = a &&& b := by
    show (BitVec.ofInt 64 (a : Int) &&& BitVec.ofInt 64 (b : Int)).toNat = a &&& b
    rw [BitVec.ofInt_natCast, BitVec.ofInt_natCast, BitVec.toNat_and, BitVec.toNat_ofNat, BitVec.toNat_ofNat, Nat.mod_eq_of_lt (by simpa using ha), Nat.mod_eq_of_lt (by simpa using hb)]
  have hlt : a &&& b < 2 ^ 64 := Nat.and_lt_two_pow _ (by simpa using hb)
  rw [e, wrap_u64 (by omega)] at h
  exact h
theorem rOr_u64 {a b : Nat} (ho : o.op = .binOp .or t x y t') (hx : ev ρ x = .int .u64 (a : Int)) (hy : ev ρ y = .int .u64 (b : Int)) (ha : a < 18446744073709551616) (hb : b < 18446744073709551616) : Runs P ρ o w (.int .u64 ((a ||| b : Nat) : Int)) := by
  have h := rBits (P := P) (w := w) (op := .or) (r := fun p q => p ||| q) ho hx hy rfl
  have e : (BitVec.ofInt (IntKind.bits .u64) (a : Int) ||| BitVec.ofInt (IntKind.bits .u64) (b : Int)).toNat = a ||| b := by
    show (BitVec.ofInt 64 (a : Int) ||| BitVec.ofInt 64 (b : Int)).toNat = a ||| b
    rw [BitVec.ofInt_natCast, BitVec.ofInt_natCast, BitVec.toNat_or, BitVec.toNat_ofNat, BitVec.toNat_ofNat, Nat.mod_eq_of_lt (by simpa using ha), Nat.mod_eq_of_lt (by simpa using hb)]
  have hlt : a ||| b < 2 ^ 64 := Nat.or_lt_two_pow (by simpa using ha) (by simpa using hb)
  rw [e, wrap_u64 (by omega)] at h
  exact h
theorem rXor_u64 {a b : Nat} (ho : o.op = .binOp .xor t x y t') (hx : ev ρ x = .int .u64 (a : Int)) (hy : ev ρ y = .int .u64 (b : Int)) (ha : a < 18446744073709551616) (hb : b < 18446744073709551616) : Runs P ρ o w (.int .u64 ((a ^^^ b : Nat) : Int)) := by
  have h := rBits (P := P) (w := w) (op := .xor) (r := fun p q => p ^^^ q) ho hx hy rfl
  have e : (BitVec.ofInt (IntKind.bits .u64) (a : Int) ^^^ BitVec.ofInt (IntKind.bits .u64) (b : Int)).toNat = a ^^^ b := by
    show (BitVec.ofInt 64 (a : Int) ^^^ BitVec.ofInt 64 (b : Int)).toNat = a ^^^ b
    rw [BitVec.ofInt_natCast, BitVec.ofInt_natCast, BitVec.toNat_xor, BitVec.toNat_ofNat, BitVec.toNat_ofNat, Nat.mod_eq_of_lt (by simpa using ha), Nat.mod_eq_of_lt (by simpa using hb)]
  have hlt : a ^^^ b < 2 ^ 64 := Nat.xor_lt_two_pow (by simpa using ha) (by simpa using hb)
  rw [e, wrap_u64 (by omega)] at h
  exact h
theorem rShr_u64 {a c : Nat} {k' : IntKind} (ho : o.op = .binOp .shr t x y t') (hx : ev ρ x = .int .u64 (a : Int)) (hy : ev ρ y = .int k' (c : Int)) (hc : c < 64) : Runs P ρ o w (.int .u64 ((a / 2 ^ c : Nat) : Int)) := by
  have h := rShrW (P := P) (w := w) ho hx hy (by omega)
  have e : min c (IntKind.bits .u64) = c := by show min c 64 = c; omega
  rw [Int.toNat_natCast, e] at h
  have e2 : (a : Int).fdiv (2 ^ c) = ((a / 2 ^ c : Nat) : Int) := by
    rw [Int.fdiv_eq_ediv_of_nonneg _ (Int.le_of_lt (Int.pow_pos (by omega)))]
    simp
  rw [e2] at h
  exact h
end

/-- Two results, the first of which lies in memory. -/
theorem retC2 {P : Program} {ρ : Env} {w : World} {g t : Nat} {cs : Array Value} {fn : Func} {R : Ending → World → Prop} {e : Exit} {a s : Tmp} {n T : Nat} (he : e = .normal ∨ e = .ret) (hr : fn.results = #[.cell a t, .tmp s]) (ha : ρ a = .pointer (some ⟨g, 0, none⟩)) (ht : aggB P t = true) (hs : szB P t n = true) (hn : cs.size = n) (hb : Blk w g T cs) (h : R (.returned (.tuple #[.agg cs, ρ s])) w) : retQ P fn R e ρ w := by
  have h1 := run_loadCellsFrom (P := P) (b := g) (w := w) cs.toList 0 0 #[] (fun k u hk => by rw [Nat.zero_add, Nat.zero_add, hb.cell]; simpa using hk)
  have hn' : cs.toList.length = n := by simpa using hn
  rw [hn'] at h1
  refine retQ_intro he fun b hb' => ⟨_, ?_, h⟩
  have h2 := hb'.get a
  have h3 := hb'.get s
  rw [ha] at h2
  simp only [Array.getD_eq_getD_getElem?] at h2 h3
  simp [results, hr, h2, h3, asAddr, loadVar, run_isAgg_agg ht, run_size hs, loadCells, h1]

/-! ### A row that grows -/
/-- A slice that owns its block from the beginning on. -/
def Row (base e size : Nat) (A : Option Addr) (n c : Nat) (xs : List Value) : Ent := ⟨fun k => A.map (·.block) = some k, fun w => w.ownsRow base e size (.slice A n c) n xs⟩
theorem ownBlock_slice (A : Option Addr) (n c : Nat) : (Value.slice A n c).ownBlock = A.map (·.block) := by cases A <;> rfl
theorem Row.ok {w : World} {base e size n c : Nat} {A : Option Addr} {xs : List Value} (h : w.ownsRow base e size (.slice A n c) n xs) : (Row base e size A n c xs).ok w := by
  refine Ent.mk_ok h (fun k hk => ?_) (fun S w1 w2 hc hS h1 => ?_)
  · rcases h.2 with ⟨hv, _⟩ | ⟨g, cap, cur, hv, _, hh, _⟩
    · injection hv with hv; subst hv; simp at hk
    · injection hv with hv; subst hv
      simp at hk
      subst hk
      exact Blk.lt (t := e) (cs := cur) hh
  · refine ⟨h1.1, ?_⟩
    rcases h1.2 with h2 | ⟨g, cap, cur, hv, hg, hh, h3⟩
    · exact .inl h2
    · injection hv with hv _ hv2
      subst hv hv2
      refine .inr ⟨g, _, cur, rfl, hg, ?_, h3⟩
      exact Blk.chg (t := e) (cs := cur) hh hc (hS g rfl)
theorem Row.nil (w : World) (base e size : Nat) : (Row base e size none 0 0 []).ok w := Row.ok (World.ownsRow_nil w base e size)
theorem Row.of_blk {w : World} {base g e n size : Nat} {cs : Array Value} (h : Blk w g e cs) (hb : base ≤ g) (hn : cs.size = n * size) (hm : n ≤ 9223372036854775807) : (Row base e size (some ⟨g, 0, none⟩) n n cs.toList).ok w :=
  Row.ok ⟨by simpa using hn, .inr ⟨g, n, cs, rfl, hb, h, Nat.le_refl _, hm, hn, by rw [List.take_of_length_le]; simp [hn]⟩⟩
section
variable {P : Program} {N : Nat} {ops : Array Oper} {Q : XPost} {rest : List Oper} {ρ : Env} {o : Oper} {w0 w : World} {S : Nat → Prop} {H : List Ent} {d t : Nat}
theorem WL_app {x y : Operand} {base e size n c m c2 b j by_ : Nat} {A : Option Addr} {xs news : List Value} {z : Value} (i : Nat) (hi : H[i]? = some (Row base e size A n c xs)) (hI : Inv S w0 w H) (hw : wantedR ops ρ o = true) (hd : o.dst = some d) (hN : Nat.blt d N = true)
    (ho : o.op = .call { callee := .builtin .append, args := #[x, y], argTypes := #[t, t] }) (hx : ev ρ x = .slice A n c) (hy : ev ρ y = .slice (some ⟨b, j, none⟩) m c2) (ht : P.underlying t = some (.slice e))
    (hi0 : (P.info? e).map (fun i => (i.zero, i.size, i.bytes)) = some (some z, size, by_)) (hz1 : z.cells.size = size) (hsz : 0 < size) (hlen : news.length = m * size) (hcells : ∀ k u, news[k]? = some u → w.cell? ⟨b, j + k, none⟩ = some u) (h1 : news.all (·.oneCell') = true)
    (h63 : n + m ≤ 9223372036854775807) (hby : (n + m) * by_ ≤ 140737488355328) (hbase : base ≤ w.heap.size)
    (h : ∀ A' c' w', n + m ≤ c' → c' ≤ 9223372036854775807 → Inv S w0 w' (H.set i (Row base e size A' (n + m) c' (xs ++ news))) → WL P N ops Q rest (upd ρ d (.slice A' (n + m) c')) w') : WL P N ops Q (o :: rest) ρ w := by
  cases hp : P.info? e with
  | none => simp [hp] at hi0
  | some q =>
    simp only [hp, Option.map_some, Option.some.injEq, Prod.mk.injEq] at hi0
    obtain ⟨q1, q2, q3⟩ := hi0
    have hown : w.ownsRow base e size (.slice A n c) n xs := (hI.ok _ (List.mem_of_getElem? hi)).1
    obtain ⟨v', w', hrun, r1, r2, _, r3⟩ := run_append_own_at (P := P) w base t o.type e q z size by_ ht hp q1 q2 q3 hz1 hsz (.slice A n c) n xs hown ⟨b, j, none⟩ m c2 news hlen (fun k u hk => by rw [Addr.add_lit]; exact hcells k u hk) (List.all_eq_true.1 h1) (by simpa [maxLen] using h63) hby hbase
    have hform : ∃ A' c', v' = .slice A' (n + m) c' ∧ n + m ≤ c' ∧ c' ≤ 9223372036854775807 := (Rd.of_own (D := fun _ => True) r1 (fun _ _ _ => trivial)).form
    obtain ⟨A', c', rfl, hc1, hc2⟩ := hform
    refine WL_eff hw hd hN (v := .slice A' (n + m) c') (w' := w') (by simp [execOp, ho, resolve, invoke, builtin, hx, hy, hrun]) (h A' c' w' hc1 hc2 ?_)
    refine hI.upd i hi ((Chg.refl _ w).grown r2 (fun k hk => .inl ?_)) (Row.ok r1) (fun k hk => ?_)
    · rw [ownBlock_slice] at hk; exact hk
    · rw [ownBlock_slice, ownBlock_slice] at r3
      have hk' : A'.map (·.block) = some k := hk
      rcases r3 with r3 | r3
      · exact .inl (show A.map (·.block) = some k by rw [← r3]; exact hk')
      · rw [hk'] at r3
        injection r3 with r3
        exact .inr (by omega)
theorem WL_app0 {x y : Operand} {base e size n c m c2 b j by_ : Nat} {A : Option Addr} {xs news : List Value} {z : Value} (hI : Inv S w0 w (Row base e size A n c xs :: H)) (hw : wantedR ops ρ o = true) (hd : o.dst = some d) (hN : Nat.blt d N = true)
    (ho : o.op = .call { callee := .builtin .append, args := #[x, y], argTypes := #[t, t] }) (hx : ev ρ x = .slice A n c) (hy : ev ρ y = .slice (some ⟨b, j, none⟩) m c2) (ht : P.underlying t = some (.slice e))
    (hi0 : (P.info? e).map (fun i => (i.zero, i.size, i.bytes)) = some (some z, size, by_)) (hz1 : z.cells.size = size) (hsz : 0 < size) (hlen : news.length = m * size) (hcells : ∀ k u, news[k]? = some u → w.cell? ⟨b, j + k, none⟩ = some u) (h1 : news.all (·.oneCell') = true)
    (h63 : n + m ≤ 9223372036854775807) (hby : (n + m) * by_ ≤ 140737488355328) (hbase : base ≤ w.heap.size)
    (h : ∀ A' c' w', n + m ≤ c' → c' ≤ 9223372036854775807 → Inv S w0 w' (Row base e size A' (n + m) c' (xs ++ news) :: H) → WL P N ops Q rest (upd ρ d (.slice A' (n + m) c')) w') : WL P N ops Q (o :: rest) ρ w :=
  WL_app 0 rfl hI hw hd hN ho hx hy ht hi0 hz1 hsz hlen hcells h1 h63 hby hbase h
theorem WL_app1 {e0 : Ent} {x y : Operand} {base e size n c m c2 b j by_ : Nat} {A : Option Addr} {xs news : List Value} {z : Value} (hI : Inv S w0 w (e0 :: Row base e size A n c xs :: H)) (hw : wantedR ops ρ o = true) (hd : o.dst = some d) (hN : Nat.blt d N = true)
    (ho : o.op = .call { callee := .builtin .append, args := #[x, y], argTypes := #[t, t] }) (hx : ev ρ x = .slice A n c) (hy : ev ρ y = .slice (some ⟨b, j, none⟩) m c2) (ht : P.underlying t = some (.slice e))
    (hi0 : (P.info? e).map (fun i => (i.zero, i.size, i.bytes)) = some (some z, size, by_)) (hz1 : z.cells.size = size) (hsz : 0 < size) (hlen : news.length = m * size) (hcells : ∀ k u, news[k]? = some u → w.cell? ⟨b, j + k, none⟩ = some u) (h1 : news.all (·.oneCell') = true)
    (h63 : n + m ≤ 9223372036854775807) (hby : (n + m) * by_ ≤ 140737488355328) (hbase : base ≤ w.heap.size)
    (h : ∀ A' c' w', n + m ≤ c' → c' ≤ 9223372036854775807 → Inv S w0 w' (e0 :: Row base e size A' (n + m) c' (xs ++ news) :: H) → WL P N ops Q rest (upd ρ d (.slice A' (n + m) c')) w') : WL P N ops Q (o :: rest) ρ w :=
  WL_app 1 rfl hI hw hd hN ho hx hy ht hi0 hz1 hsz hlen hcells h1 h63 hby hbase h
theorem WL_app2 {e0 e1 : Ent} {x y : Operand} {base e size n c m c2 b j by_ : Nat} {A : Option Addr} {xs news : List Value} {z : Value} (hI : Inv S w0 w (e0 :: e1 :: Row base e size A n c xs :: H)) (hw : wantedR ops ρ o = true) (hd : o.dst = some d) (hN : Nat.blt d N = true)
    (ho : o.op = .call { callee := .builtin .append, args := #[x, y], argTypes := #[t, t] }) (hx : ev ρ x = .slice A n c) (hy : ev ρ y = .slice (some ⟨b, j, none⟩) m c2) (ht : P.underlying t = some (.slice e))
    (hi0 : (P.info? e).map (fun i => (i.zero, i.size, i.bytes)) = some (some z, size, by_)) (hz1 : z.cells.size = size) (hsz : 0 < size) (hlen : news.length = m * size) (hcells : ∀ k u, news[k]? = some u → w.cell? ⟨b, j + k, none⟩ = some u) (h1 : news.all (·.oneCell') = true)
    (h63 : n + m ≤ 9223372036854775807) (hby : (n + m) * by_ ≤ 140737488355328) (hbase : base ≤ w.heap.size)
    (h : ∀ A' c' w', n + m ≤ c' → c' ≤ 9223372036854775807 → Inv S w0 w' (e0 :: e1 :: Row base e size A' (n + m) c' (xs ++ news) :: H) → WL P N ops Q rest (upd ρ d (.slice A' (n + m) c')) w') : WL P N ops Q (o :: rest) ρ w :=
  WL_app 2 rfl hI hw hd hN ho hx hy ht hi0 hz1 hsz hlen hcells h1 h63 hby hbase h
theorem WL_app3 {e0 e1 e2 : Ent} {x y : Operand} {base e size n c m c2 b j by_ : Nat} {A : Option Addr} {xs news : List Value} {z : Value} (hI : Inv S w0 w (e0 :: e1 :: e2 :: Row base e size A n c xs :: H)) (hw : wantedR ops ρ o = true) (hd : o.dst = some d) (hN : Nat.blt d N = true)
    (ho : o.op = .call { callee := .builtin .append, args := #[x, y], argTypes := #[t, t] }) (hx : ev ρ x = .slice A n c) (hy : ev ρ y = .slice (some ⟨b, j, none⟩) m c2) (ht : P.underlying t = some (.slice e))
    (hi0 : (P.info? e).map (fun i => (i.zero, i.size, i.bytes)) = some (some z, size, by_)) (hz1 : z.cells.size = size) (hsz : 0 < size) (hlen : news.length = m * size) (hcells : ∀ k u, news[k]? = some u → w.cell? ⟨b, j + k, none⟩ = some u) (h1 : news.all (·.oneCell') = true)
    (h63 : n + m ≤ 9223372036854775807) (hby : (n + m) * by_ ≤ 140737488355328) (hbase : base ≤ w.heap.size)
    (h : ∀ A' c' w', n + m ≤ c' → c' ≤ 9223372036854775807 → Inv S w0 w' (e0 :: e1 :: e2 :: Row base e size A' (n + m) c' (xs ++ news) :: H) → WL P N ops Q rest (upd ρ d (.slice A' (n + m) c')) w') : WL P N ops Q (o :: rest) ρ w :=
  WL_app 3 rfl hI hw hd hN ho hx hy ht hi0 hz1 hsz hlen hcells h1 h63 hby hbase h
theorem WL_app4 {e0 e1 e2 e3 : Ent} {x y : Operand} {base e size n c m c2 b j by_ : Nat} {A : Option Addr} {xs news : List Value} {z : Value} (hI : Inv S w0 w (e0 :: e1 :: e2 :: e3 :: Row base e size A n c xs :: H)) (hw : wantedR ops ρ o = true) (hd : o.dst = some d) (hN : Nat.blt d N = true)
    (ho : o.op = .call { callee := .builtin .append, args := #[x, y], argTypes := #[t, t] }) (hx : ev ρ x = .slice A n c) (hy : ev ρ y = .slice (some ⟨b, j, none⟩) m c2) (ht : P.underlying t = some (.slice e))
    (hi0 : (P.info? e).map (fun i => (i.zero, i.size, i.bytes)) = some (some z, size, by_)) (hz1 : z.cells.size = size) (hsz : 0 < size) (hlen : news.length = m * size) (hcells : ∀ k u, news[k]? = some u → w.cell? ⟨b, j + k, none⟩ = some u) (h1 : news.all (·.oneCell') = true)
    (h63 : n + m ≤ 9223372036854775807) (hby : (n + m) * by_ ≤ 140737488355328) (hbase : base ≤ w.heap.size)
    (h : ∀ A' c' w', n + m ≤ c' → c' ≤ 9223372036854775807 → Inv S w0 w' (e0 :: e1 :: e2 :: e3 :: Row base e size A' (n + m) c' (xs ++ news) :: H) → WL P N ops Q rest (upd ρ d (.slice A' (n + m) c')) w') : WL P N ops Q (o :: rest) ρ w :=
  WL_app 4 rfl hI hw hd hN ho hx hy ht hi0 hz1 hsz hlen hcells h1 h63 hby hbase h
theorem WL_app5 {e0 e1 e2 e3 e4 : Ent} {x y : Operand} {base e size n c m c2 b j by_ : Nat} {A : Option Addr} {xs news : List Value} {z : Value} (hI : Inv S w0 w (e0 :: e1 :: e2 :: e3 :: e4 :: Row base e size A n c xs :: H)) (hw : wantedR ops ρ o = true) (hd : o.dst = some d) (hN : Nat.blt d N = true)
    (ho : o.op = .call { callee := .builtin .append, args := #[x, y], argTypes := #[t, t] }) (hx : ev ρ x = .slice A n c) (hy : ev ρ y = .slice (some ⟨b, j, none⟩) m c2) (ht : P.underlying t = some (.slice e))
    (hi0 : (P.info? e).map (fun i => (i.zero, i.size, i.bytes)) = some (some z, size, by_)) (hz1 : z.cells.size = size) (hsz : 0 < size) (hlen : news.length = m * size) (hcells : ∀ k u, news[k]? = some u → w.cell? ⟨b, j + k, none⟩ = some u) (h1 : news.all (·.oneCell') = true)
    (h63 : n + m ≤ 9223372036854775807) (hby : (n + m) * by_ ≤ 140737488355328) (hbase : base ≤ w.heap.size)
    (h : ∀ A' c' w', n + m ≤ c' → c' ≤ 9223372036854775807 → Inv S w0 w' (e0 :: e1 :: e2 :: e3 :: e4 :: Row base e size A' (n + m) c' (xs ++ news) :: H) → WL P N ops Q rest (upd ρ d (.slice A' (n + m) c')) w') : WL P N ops Q (o :: rest) ρ w :=
  WL_app 5 rfl hI hw hd hN ho hx hy ht hi0 hz1 hsz hlen hcells h1 h63 hby hbase h
end
end Go.Proofs.YtlmpolmalgpodaaDoor
