/- record: what the functions compute, over lists of bytes. Nothing of the program. -/
import Derived.Test.YtgppljdfhhgkiaaGreatDoorBase
namespace Go.Proofs.YtgppljdfhhgkiaaGreatDoor
open Go

structure Ev where
  proc : Int
  ty : Int
  key : Int
  kind : Int
  a : Int
  b : Int
  res : Int
  deriving DecidableEq
def evL (e : Ev) : List Value := [.int .i64 e.proc, .int .i64 e.ty, .int .i64 e.key, .int .i64 e.kind, .int .i64 e.a, .int .i64 e.b, .int .i64 e.res]
def inB (n lo hi : Int) : Bool := decide (lo ≤ n) && decide (n ≤ hi)
def toldB (proc key : Int) (l : List Int) : Bool := (l.all fun n => inB n (-1000000) 1000000) && inB proc 0 7 && inB key 0 7
def evOkB (e : Ev) : Bool := toldB e.proc e.key [e.a, e.b, e.res] && inB e.ty 1 4 && inB e.kind 1 12 && !(!decide (e.res = 0) && !decide (e.ty = 2))
def bytesV (l : List Nat) : List Value := l.map fun b : Nat => Value.int .u8 (b : Int)
theorem bytesV_append (l m : List Nat) : bytesV (l ++ m) = bytesV l ++ bytesV m := by simp [bytesV]
theorem bytesV_len (l : List Nat) : (bytesV l).length = l.length := by simp [bytesV]
theorem bytesV_one (l : List Nat) : (bytesV l).all (·.oneCell') = true := by simp [bytesV, Value.oneCell']
theorem bytesV_get {l : List Nat} {k b : Nat} (h : l[k]? = some b) : (bytesV l)[k]? = some (.int .u8 (b : Int)) := by simp [bytesV, h]
theorem bytesV_inj {l m : List Nat} (h : bytesV l = bytesV m) : l = m := by
  unfold bytesV at h
  have : ∀ (l m : List Nat), (l.map fun b : Nat => Value.int .u8 (b : Int)) = (m.map fun b : Nat => Value.int .u8 (b : Int)) → l = m := by
    intro l
    induction l with
    | nil => intro m h; cases m with | nil => rfl | cons a m => simp at h
    | cons a l ih =>
      intro m h
      cases m with
      | nil => simp at h
      | cons b m =>
        simp only [List.map_cons, List.cons.injEq] at h
        obtain ⟨h1, h2⟩ := h
        injection h1 with _ h1
        rw [ih m h2, show a = b by omega]
  exact this l m h

/-! ### Numbers -/
def zz (n : Int) : Nat := if 0 ≤ n then (2 * n).toNat else (-2 * n - 1).toNat
def unz (u : Nat) : Int := if u % 2 = 0 then ((u / 2 : Nat) : Int) else -((u / 2 : Nat) : Int) - 1
theorem unz_zz (n : Int) : unz (zz n) = n := by
  unfold unz zz
  split <;> split <;> omega
def varF : Nat → Nat → List Nat
  | 0, _ => []
  | f + 1, u => if u < 128 then [u] else (u % 128 + 128) :: varF f (u / 128)
def encN (n : Int) : List Nat := varF 10 (zz n)
theorem varF_len : ∀ (f u : Nat), (varF f u).length ≤ f
  | 0, _ => by simp [varF]
  | f + 1, u => by
    unfold varF
    split
    · simp
    · have := varF_len f (u / 128)
      simp; omega
theorem encN_len (n : Int) : (encN n).length ≤ 10 := varF_len 10 _
/-- What is read of bytes: a byte below 128 ends it. -/
def valF : List Nat → Nat
  | [] => 0
  | c :: l => c % 128 + 128 * valF l
def numF : List Nat → Option (List Nat × List Nat)
  | [] => none
  | c :: l => if c < 128 then some ([c], l) else (numF l).map fun p => (c :: p.1, p.2)
theorem numF_var : ∀ (f u : Nat) (r : List Nat), u < 128 ^ f → 0 < f → numF (varF f u ++ r) = some (varF f u, r) ∧ valF (varF f u) = u
  | 0, u, r, _, h0 => by omega
  | f + 1, u, r, hu, _ => by
    unfold varF
    split
    · rename_i h
      simp [numF, valF, h]
    · rename_i h
      have hlt : u / 128 < 128 ^ f := by rw [Nat.pow_succ] at hu; exact Nat.div_lt_of_lt_mul (by omega)
      have hf : 0 < f := by
        rcases Nat.eq_zero_or_pos f with h0 | h0
        · subst h0; simp at hu; omega
        · exact h0
      obtain ⟨h1, h2⟩ := numF_var f (u / 128) r hlt hf
      simp only [List.cons_append, numF, h1, Option.map_some, valF, h2]
      rw [if_neg (by omega)]
      refine ⟨rfl, by omega⟩
theorem numF_split : ∀ {l p r : List Nat}, numF l = some (p, r) → l = p ++ r ∧ p ≠ []
  | [], p, r, h => by simp [numF] at h
  | c :: l, p, r, h => by
    unfold numF at h
    split at h
    · simp only [Option.some.injEq, Prod.mk.injEq] at h
      obtain ⟨rfl, rfl⟩ := h
      simp
    · cases hn : numF l with
      | none => simp [hn] at h
      | some q =>
        simp only [hn, Option.map_some, Option.some.injEq, Prod.mk.injEq] at h
        obtain ⟨rfl, rfl⟩ := h
        have := (numF_split (p := q.1) (r := q.2) hn).1
        simp [← this]

/-! ### Events -/
def enc (e : Ev) : List Nat := [e.proc.toNat, e.ty.toNat, e.key.toNat, e.kind.toNat] ++ encN e.a ++ encN e.b ++ encN e.res
theorem ok_bounds {e : Ev} (h : evOkB e = true) : (0 ≤ e.proc ∧ e.proc ≤ 7) ∧ (1 ≤ e.ty ∧ e.ty ≤ 4) ∧ (0 ≤ e.key ∧ e.key ≤ 7) ∧ (1 ≤ e.kind ∧ e.kind ≤ 12) ∧ (-1000000 ≤ e.a ∧ e.a ≤ 1000000) ∧ (-1000000 ≤ e.b ∧ e.b ≤ 1000000) ∧ (-1000000 ≤ e.res ∧ e.res ≤ 1000000) := by
  simp [evOkB, toldB, inB] at h
  omega
theorem enc_len (e : Ev) : (enc e).length ≤ 34 := by
  unfold enc
  have h1 := encN_len e.a
  have h2 := encN_len e.b
  have h3 := encN_len e.res
  simp; omega
theorem zz_lt {n : Int} (h : -1000000 ≤ n ∧ n ≤ 1000000) : zz n < 128 ^ 10 := by
  unfold zz
  split <;> omega
theorem num_enc {n : Int} (h : -1000000 ≤ n ∧ n ≤ 1000000) (r : List Nat) : numF (encN n ++ r) = some (encN n, r) ∧ unz (valF (encN n)) = n := by
  obtain ⟨h1, h2⟩ := numF_var 10 (zz n) r (zz_lt h) (by omega)
  exact ⟨h1, by rw [show encN n = varF 10 (zz n) from rfl, h2, unz_zz]⟩
/-- What Decode reads ahead of its check. -/
def readF (l : List Nat) : Option Ev := match l with
  | p :: t :: k :: d :: r => match numF r with
    | some (x, r1) => match numF r1 with
      | some (y, r2) => match numF r2 with
        | some (z, _) => some ⟨p, t, k, d, unz (valF x), unz (valF y), unz (valF z)⟩
        | none => none
      | none => none
    | none => none
  | _ => none
theorem read_enc {e : Ev} (h : evOkB e = true) (r : List Nat) : readF (enc e ++ r) = some e := by
  obtain ⟨h1, h2, h3, h4, h5, h6, h7⟩ := ok_bounds h
  unfold enc readF
  simp only [List.append_assoc, List.cons_append, List.nil_append]
  obtain ⟨a1, a2⟩ := num_enc h5 (encN e.b ++ (encN e.res ++ r))
  obtain ⟨b1, b2⟩ := num_enc h6 (encN e.res ++ r)
  obtain ⟨c1, c2⟩ := num_enc h7 r
  simp only [a1, b1, c1, a2, b2, c2]
  congr 1
  obtain ⟨p, t, k, d, a, b, c⟩ := e
  simp only [Ev.mk.injEq]
  dsimp only at *
  refine ⟨by omega, by omega, by omega, by omega, ?_⟩
  simp
theorem enc_inj {e f : Ev} (he : evOkB e = true) (hf : evOkB f = true) {r s : List Nat} (h : enc e ++ r = enc f ++ s) : e = f ∧ r = s := by
  have h1 := read_enc he r
  rw [h, read_enc hf s] at h1
  injection h1 with h1
  subst h1
  exact ⟨rfl, List.append_cancel_left h⟩
def decF (l : List Nat) : Option Ev := match readF l with
  | some e => if evOkB e = true ∧ enc e = l then some e else none
  | none => none
theorem decF_some {l : List Nat} {e : Ev} (h : decF l = some e) : evOkB e = true ∧ enc e = l := by
  unfold decF at h
  split at h
  · split at h
    · injection h with h; subst h; assumption
    · cases h
  · cases h
theorem decF_enc {e : Ev} (h : evOkB e = true) : decF (enc e) = some e := by
  have := read_enc h []
  rw [List.append_nil] at this
  unfold decF
  simp [this, h]

/-! ### Frames -/
def poly : Nat := 3988292384
def crc1 (c : Nat) : Nat := if c % 2 = 1 then (c / 2) ^^^ poly else c / 2
def crcN : Nat → Nat → Nat
  | 0, c => c
  | k + 1, c => crc1 (crcN k c)
def crcB (c x : Nat) : Nat := crcN 8 (c ^^^ x)
def crcL (l : List Nat) : Nat := l.foldl crcB 4294967295
def sumF (l : List Nat) : Nat := crcL l ^^^ 4294967295
def headF (l : List Nat) : List Nat := [l.length / 256 % 256, l.length % 256, sumF l / 16777216 % 256, sumF l / 65536 % 256, sumF l / 256 % 256, sumF l % 256]
def frameF (l : List Nat) : List Nat := headF l ++ l
theorem crc1_lt {c : Nat} (h : c < 4294967296) : crc1 c < 4294967296 := by
  unfold crc1
  split
  · exact Nat.xor_lt_two_pow (n := 32) (by omega) (by decide)
  · omega
theorem crcN_lt : ∀ (k : Nat) {c : Nat}, c < 4294967296 → crcN k c < 4294967296
  | 0, _, h => h
  | k + 1, _, h => crc1_lt (crcN_lt k h)
theorem crcB_lt {c x : Nat} (h : c < 4294967296) (hx : x < 256) : crcB c x < 4294967296 := crcN_lt 8 (Nat.xor_lt_two_pow (n := 32) h (by omega))
theorem crcL_lt {l : List Nat} (h : ∀ x ∈ l, x < 256) : crcL l < 4294967296 := by
  unfold crcL
  have : ∀ (l : List Nat) (c : Nat), (∀ x ∈ l, x < 256) → c < 4294967296 → l.foldl crcB c < 4294967296 := by
    intro l
    induction l with
    | nil => intro c _ h; exact h
    | cons x l ih => intro c hl h; exact ih _ (fun y hy => hl y (by simp [hy])) (crcB_lt h (hl x (by simp)))
  exact this l _ h (by decide)
end Go.Proofs.YtgppljdfhhgkiaaGreatDoor
