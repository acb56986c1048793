/- Sx: rows of structs: make([]T, n), T of more than one cell; a struct stored at an offset; grids of cells. Nothing of the program. -/
import Derived.Test.YtlmpolmalgpodaaDoorSxr
namespace Go.Proofs.YtlmpolmalgpodaaDoor
open Go
set_option linter.unusedVariables false
section
variable {P : Program} {N : Nat} {ops : Array Oper} {Q : XPost} {rest : List Oper} {ρ : Env} {o : Oper} {w0 w w' : World} {S : Nat → Prop} {H : List Ent} {d g t tt : Nat} {cs : Array Value} {v : Value}
theorem WL_mkN {x y : Operand} {e n m by_ : Nat} {z : Value} (c0 : Value) (hI : Inv S w0 w H) (hw : wantedR ops ρ o = true) (hd : o.dst = some d) (hN : Nat.blt d N = true) (ho : o.op = .makeSlice t x y) (hx : ev ρ x = .int .i64 (n : Int)) (hy : ev ρ y = .int .i64 (n : Int))
    (ht : P.underlying t = some (.slice e)) (hi : (P.info? e).map (fun i => (i.zero, i.size, i.bytes)) = some (some z, m, by_)) (hz : z.cells = rep c0 m) (hm : 0 < m) (hb : by_ * n ≤ 281474976710656) (h63 : n ≤ 9223372036854775807)
    (h : ∀ g w', Pure w w' → g = w.heap.size → Inv S w0 w' (B g e (rep c0 (n * m)) :: H) → WL P N ops Q rest (upd ρ d (.slice (some ⟨g, 0, none⟩) n n)) w') : WL P N ops Q (o :: rest) ρ w := by
  cases hp : P.info? e with
  | none => simp [hp] at hi
  | some i =>
    simp only [hp, Option.map_some, Option.some.injEq, Prod.mk.injEq] at hi
    obtain ⟨h1, h2, h3⟩ := hi
    subst h2 h3
    have hb : (i.bytes : Int) * (n : Int) ≤ 281474976710656 := by
      have h : ((i.bytes * n : Nat) : Int) ≤ 281474976710656 := by omega
      rwa [Int.natCast_mul] at h
    have hr := run_make (P := P) w t e i z ht hp h1 .i64 .i64 n n (by omega) (by omega) hb (by omega)
    have hmd : madeCells z.cells ((n : Int).toNat * i.size) = rep c0 (n * i.size) := by
      rw [hz, Int.toNat_natCast]
      apply Array.ext
      · simp [madeCells, rep]
      · intro j h1 h2
        have : j % i.size < i.size := Nat.mod_lt _ hm
        simp [madeCells, rep, this]
    rw [hmd] at hr
    simp only [Int.toNat_natCast] at hr
    exact WL_eff hw hd hN (by simp [execOp, ho, hx, hy, hr]) (h _ _ ((Pure.refl w).alloc _) rfl (hI.box e _))
/-- A struct stored inside a block. -/
theorem WL_stA {x y : Operand} {j n : Nat} {u : Value} {vs cs' : Array Value} (i : Nat) (hi : H[i]? = some (B g t cs)) (hI : Inv S w0 w H) (hw : wantedR ops ρ o = true) (hd : o.dst = none) (ho : o.op = .store tt x y) (hx : ev ρ x = .pointer (some ⟨g, j, none⟩)) (hy : ev ρ y = u) (hu : u.cells = vs)
    (hs : szB P tt n = true) (hn : vs.size = n) (hj : j + n ≤ cs.size) (h1 : vs.toList.all (·.oneCell') = true) (hc : splice cs j vs.toList = cs') (h : ∀ w', Inv S w0 w' (H.set i (B g t cs')) → WL P N ops Q rest ρ w') : WL P N ops Q (o :: rest) ρ w := by
  have hB : Blk w g t cs := (hI.ok _ (List.mem_of_getElem? hi)).1
  subst hc
  refine WL_store hw hd (run_store ho hx hy hu hs hn hB hj h1) (h _ ?_)
  exact hI.upd i hi (Chg.setCells (S := (B g t cs).D) (b := g) (.inl rfl) _ _ (Chg.refl (B g t cs).D w)) (B.ok (hB.setCells _ _)) (fun _ hk => .inl hk)
end
/-! ### Grids: n rows of m cells -/
def grd (n m : Nat) (F : Nat → Nat → Value) : Array Value := ((List.range (n * m)).map fun c => F (c / m) (c % m)).toArray
theorem grd_size (n m : Nat) (F : Nat → Nat → Value) : (grd n m F).size = n * m := by simp [grd]
theorem grd_cell {n m i q : Nat} (F : Nat → Nat → Value) (hi : i < n) (hq : q < m) : (grd n m F)[i * m + q]? = some (F i q) := by
  have h1 : i * m + q < n * m := by
    have : (i + 1) * m ≤ n * m := Nat.mul_le_mul_right m hi
    rw [Nat.add_mul, Nat.one_mul] at this
    omega
  have h2 : (i * m + q) / m = i := by rw [Nat.add_comm, Nat.add_mul_div_right _ _ (by omega), Nat.div_eq_of_lt hq, Nat.zero_add]
  have h3 : (i * m + q) % m = q := by rw [Nat.add_comm, Nat.add_mul_mod_self_right, Nat.mod_eq_of_lt hq]
  simp [grd, h1, h2, h3]
theorem grd_rep (n m : Nat) (c : Value) : rep c (n * m) = grd n m (fun _ _ => c) := by
  apply Array.ext'
  simp [rep, grd, List.map_const']
theorem grd_splice {n m k : Nat} (F : Nat → Nat → Value) (G : Nat → Value) {vs : List Value} (hm : 0 < m) (hk : k < n) (hl : vs.length = m) (hv : ∀ q, q < m → vs[q]? = some (G q)) :
    splice (grd n m F) (k * m) vs = grd n m (fun i q => if i = k then G q else F i q) := by
  have hkm : k * m + m ≤ n * m := by
    have : (k + 1) * m ≤ n * m := Nat.mul_le_mul_right m hk
    rw [Nat.add_mul, Nat.one_mul] at this
    exact this
  apply Array.ext'
  apply List.ext_getElem?
  intro c
  rw [Array.getElem?_toList, Array.getElem?_toList, splice_get _ _ _ _ (by rw [grd_size, hl]; omega)]
  by_cases hc : c < n * m
  · have hq : c % m < m := Nat.mod_lt _ hm
    have hce : c / m * m + c % m = c := by rw [Nat.mul_comm]; exact Nat.div_add_mod c m
    have hi : c / m < n := by
      rw [Nat.div_lt_iff_lt_mul hm]; exact hc
    have e1 := grd_cell (n := n) F hi hq
    have e2 := grd_cell (n := n) (fun i q => if i = k then G q else F i q) hi hq
    rw [hce] at e1 e2
    rw [e1, e2, hl]
    by_cases hik : c / m = k
    · rw [hik] at hce
      rw [if_pos (by omega), if_pos hik, show c - k * m = c % m by omega, hv _ hq]
    · rw [if_neg hik, if_neg]
      intro hh
      apply hik
      have h1 : k ≤ c / m := by rw [Nat.le_div_iff_mul_le hm]; exact hh.1
      have h2 : c / m < k + 1 := by rw [Nat.div_lt_iff_lt_mul hm, Nat.add_mul, Nat.one_mul]; exact hh.2
      omega
  · rw [if_neg (by rw [hl]; omega)]
    simp [grd, hc]
end Go.Proofs.YtlmpolmalgpodaaDoor
