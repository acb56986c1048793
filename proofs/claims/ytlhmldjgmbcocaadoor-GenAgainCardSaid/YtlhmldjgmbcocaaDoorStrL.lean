/- StrL: strings as lists of bytes: index, parts, length, equality, joining. Nothing of the program. -/
import Derived.Test.YtlhmldjgmbcocaaDoorSxW
import Derived.Laws.IdiomStrings
namespace Go.Proofs.YtlhmldjgmbcocaaDoor
open Go Go.RowKit
set_option linter.unusedVariables false
/-- A string of these bytes. -/
abbrev strV (l : List UInt8) : Value := .string ⟨l.toArray⟩
theorem str_size (l : List UInt8) : (⟨l.toArray⟩ : ByteArray).size = l.length := by simp [ByteArray.size]
theorem str_list (l : List UInt8) : (⟨l.toArray⟩ : ByteArray).data.toList = l := rfl
theorem str_toList (l : List UInt8) : (⟨l.toArray⟩ : ByteArray).toList = l := by simp
section
variable {P : Program} {ρ : Env} {o : Oper} {w : World} {x y z : Operand} {t t' : TypeId} {k k' : IntKind} {l m : List UInt8}
theorem rStrAt {c : UInt8} {i : Nat} (ho : o.op = .index t x y) (ht : P.underlying t = some .string) (hx : ev ρ x = strV l) (hy : ev ρ y = .int k (i : Int)) (hi : l[i]? = some c) : Runs P ρ o w (.int .u8 (c.toNat : Int)) := by
  have hl := (List.getElem?_eq_some_iff.1 hi).1
  have h := run_index_string (P := P) w t ⟨l.toArray⟩ k (i : Int) ht
  rw [dif_pos ⟨by omega, by rw [str_size]; omega⟩] at h
  have e : (⟨l.toArray⟩ : ByteArray)[(i : Int).toNat]'(by rw [str_size]; omega) = c := by
    show l.toArray[(i : Int).toNat]'_ = c
    have := (List.getElem?_eq_some_iff.1 hi).2
    simpa using this
  rw [e] at h
  simp [Runs, execOp, ho, hx, hy, h]
theorem str_extract (a b : Nat) : (⟨l.toArray⟩ : ByteArray).extract a b = ⟨((l.drop a).take (b - a)).toArray⟩ := by
  apply ByteArray.ext
  rw [ByteArray.data_extract]
  simp [List.extract_eq_take_drop]
theorem rStrSl {a b : Nat} (ho : o.op = .slice t x (some y) (some z) none) (ht : P.underlying t = some .string) (hx : ev ρ x = strV l) (hy : ev ρ y = .int k (a : Int)) (hz : ev ρ z = .int k' (b : Int)) (hab : a ≤ b) (hb : b ≤ l.length) : Runs P ρ o w (strV ((l.drop a).take (b - a))) := by
  show Runs P ρ o w (Value.string ⟨((l.drop a).take (b - a)).toArray⟩)
  rw [← str_extract]
  have hs : b ≤ (⟨l.toArray⟩ : ByteArray).size := by rw [str_size]; exact hb
  simp [Runs, execOp, ho, hx, hy, hz, Instr.sliceAt, Instr.slice, Instr.sliceBounds, Instr.sliceBound, asIntOf, run_underlying ht, hab, hs]
theorem rStrSlTo {b : Nat} (ho : o.op = .slice t x none (some z) none) (ht : P.underlying t = some .string) (hx : ev ρ x = strV l) (hz : ev ρ z = .int k' (b : Int)) (hb : b ≤ l.length) : Runs P ρ o w (strV (l.take b)) := by
  have e := str_extract (l := l) 0 b
  rw [List.drop_zero, Nat.sub_zero] at e
  show Runs P ρ o w (Value.string ⟨(l.take b).toArray⟩)
  rw [← e]
  have hs : b ≤ (⟨l.toArray⟩ : ByteArray).size := by rw [str_size]; exact hb
  simp [Runs, execOp, ho, hx, hz, Instr.sliceAt, Instr.slice, Instr.sliceBounds, Instr.sliceBound, asIntOf, run_underlying ht, hs]
theorem rStrSlFrom {a : Nat} (ho : o.op = .slice t x (some y) none none) (ht : P.underlying t = some .string) (hx : ev ρ x = strV l) (hy : ev ρ y = .int k (a : Int)) (ha : a ≤ l.length) : Runs P ρ o w (strV (l.drop a)) := by
  have e := str_extract (l := l) a l.length
  rw [List.take_of_length_le (by simp)] at e
  show Runs P ρ o w (Value.string ⟨(l.drop a).toArray⟩)
  rw [← e]
  have hs : a ≤ (⟨l.toArray⟩ : ByteArray).size := by rw [str_size]; exact ha
  rw [← str_size l]
  simp [Runs, execOp, ho, hx, hy, Instr.sliceAt, Instr.slice, Instr.sliceBounds, Instr.sliceBound, asIntOf, run_underlying ht, hs]
theorem rStrLen (ho : o.op = .call { callee := .builtin .len, args := #[x], argTypes := #[t] }) (ht : P.underlying t = some .string) (hx : ev ρ x = strV l) : Runs P ρ o w (.int .i64 (l.length : Int)) := by
  have := rLenStr (P := P) (w := w) ho ht hx
  rwa [str_size] at this
theorem rStrEq (ho : o.op = .binOp .eql t x y t') (hx : ev ρ x = strV l) (hy : ev ρ y = strV m) : Runs P ρ o w (.bool (decide (l = m))) := by
  have := rStrEql (P := P) (w := w) ho hx hy
  rw [str_toList, str_toList] at this
  rw [show decide (l = m) = (l == m) from by cases h : decide (l = m) <;> simp_all]
  exact this
theorem rStrEqT (ho : o.op = .binOp .eql t x y t') (hx : ev ρ x = strV l) (hy : ev ρ y = strV m) (h : l = m) : Runs P ρ o w (.bool true) := by
  have := rStrEq (P := P) (w := w) ho hx hy
  rwa [decide_eq_true h] at this
theorem rStrEqF (ho : o.op = .binOp .eql t x y t') (hx : ev ρ x = strV l) (hy : ev ρ y = strV m) (h : l ≠ m) : Runs P ρ o w (.bool false) := by
  have := rStrEq (P := P) (w := w) ho hx hy
  rwa [decide_eq_false h] at this
theorem rStrNe (ho : o.op = .binOp .neq t x y t') (hx : ev ρ x = strV l) (hy : ev ρ y = strV m) : Runs P ρ o w (.bool (!decide (l = m))) := by
  have e : decide (l = m) = (l == m) := by cases h : decide (l = m) <;> simp_all
  rw [e]
  simp [Runs, execOp, ho, hx, hy, eqGuard, binOp, Op.stringOp]
theorem rStrNeT (ho : o.op = .binOp .neq t x y t') (hx : ev ρ x = strV l) (hy : ev ρ y = strV m) (h : l ≠ m) : Runs P ρ o w (.bool true) := by
  have := rStrNe (P := P) (w := w) ho hx hy
  rwa [decide_eq_false h] at this
theorem rStrNeF (ho : o.op = .binOp .neq t x y t') (hx : ev ρ x = strV l) (hy : ev ρ y = strV m) (h : l = m) : Runs P ρ o w (.bool false) := by
  have := rStrNe (P := P) (w := w) ho hx hy
  rwa [decide_eq_true h] at this
theorem rStrAdd (ho : o.op = .binOp .add t x y t') (hx : ev ρ x = strV l) (hy : ev ρ y = strV m) (hl : l.length + m.length ≤ 9223372036854775807) : Runs P ρ o w (strV (l ++ m)) := by
  have e : (⟨l.toArray⟩ : ByteArray) ++ (⟨m.toArray⟩ : ByteArray) = ⟨(l ++ m).toArray⟩ := by
    apply ByteArray.ext
    rw [ByteArray.data_append]
    simp
  have h1 := str_size l
  have h2 := str_size m
  have h3 : ((⟨l.toArray⟩ : ByteArray).size : Int) + ((⟨m.toArray⟩ : ByteArray).size : Int) ≤ 9223372036854775807 := by omega
  simp [Runs, execOp, ho, hx, hy, eqGuard, binOp, Op.stringOp, e, h3]
/-- 'string(b)'. -/
theorem rBytesStrL {src dst e : TypeId} {b off n c : Nat} (l : List UInt8) (ho : o.op = .convert src dst x) (hs : P.underlying src = some (.slice e)) (he : P.underlying e = some (.int .u8)) (hd : P.underlying dst = some .string) (hx : ev ρ x = .slice (some ⟨b, off, none⟩) n c) (hl : l.length = n)
    (hc : ∀ (j : Nat) (v : UInt8), l[j]? = some v → w.cell? ⟨b, off + j, none⟩ = some (.int .u8 (v.toNat : Int))) : Runs P ρ o w (strV l) := by
  subst hl
  have h := run_convert_bytes_back (P := P) w src dst e ⟨b, off, none⟩ c l hs he hd (fun j hj => by rw [Addr.add_lit]; exact hc j _ (List.getElem?_eq_getElem hj))
  simp only [Runs, execOp, ho, hx, Sem.run_bind, h, Result.andThen_ok, Sem.run_pure]
end
def bytesL (l : List UInt8) : List Value := l.map fun b => Value.int .u8 (b.toNat : Int)
theorem src_str {P : Program} {w : World} {t : TypeId} (ht : P.underlying t = some .string) (l : List UInt8) : Src P 1 t (strV l) l.length (bytesL l) w := by
  have h := Src.ofString (w := w) ht ⟨l.toArray⟩
  rw [str_size] at h
  exact h
theorem Inv.winNil {S : Nat → Prop} {w0 w : World} {H : List Ent} {g : Nat} {e : TypeId} (h : Inv S w0 w (B g e #[] :: H)) : Inv S w0 w (Win e 1 (some ⟨g, 0, none⟩) 0 0 [] :: H) :=
  h.u0 (Chg.refl _ _) (Win.ok ⟨rfl, Nat.le_refl _, by omega, .inr ⟨g, 0, #[], rfl, h.g0, by simp, fun j u hj => by simp at hj⟩⟩) (fun k hk => .inl (by
    have : some g = some k := hk
    injection this with this
    exact this.symm))
end Go.Proofs.YtlhmldjgmbcocaaDoor
