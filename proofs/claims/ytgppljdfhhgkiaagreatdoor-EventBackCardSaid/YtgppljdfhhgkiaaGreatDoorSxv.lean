/- Sx: strings' bytes, parts of arrays, bytes that become a string, rows made with room, maps whose keys are strings and whose values are empty; parts handed over together. Nothing of the program. -/
import Derived.Test.YtgppljdfhhgkiaaGreatDoorSxD
import Derived.Test.YtgppljdfhhgkiaaGreatDoorKeyLaw
import Derived.Laws.IdiomStrings
import Derived.Laws.MakeOwn
namespace Go.Proofs.YtgppljdfhhgkiaaGreatDoor
open Go
set_option linter.unusedVariables false
set_option linter.unusedSimpArgs false
section
variable {P : Program} {N : Nat} {ops : Array Oper} {Q : XPost} {rest : List Oper} {ρ : Env} {o : Oper} {w0 w w' : World} {S : Nat → Prop} {H : List Ent} {d t : Nat} {x y z : Operand} {v : Value}
theorem rIdxStr {s : ByteArray} {i : Nat} {k : IntKind} {b : UInt8} {c : Int} (ho : o.op = .index t x y) (ht : P.underlying t = some .string) (hx : ev ρ x = .string s) (hy : ev ρ y = .int k (i : Int)) (hb : s[i]? = some b) (hc : (b.toNat : Int) = c) : Runs P ρ o w (.int .u8 c) := by
  subst hc
  simp [Runs, execOp, ho, hx, hy, Instr.index, asIntOf, run_underlying ht, hb]
theorem rIdxAg {n e i : Nat} {cs : Array Value} {k : IntKind} (ho : o.op = .index t x y) (ht : P.underlying t = some (.array n e)) (he : plainB P e = true) (hs : szB P e 1 = true) (hx : ev ρ x = .agg cs) (hy : ev ρ y = .int k (i : Int)) (hi : i < n) (hv : cs[i]? = some v) : Runs P ρ o w v := by
  have hi' : (i : Int) < (n : Int) := by omega
  simp [Runs, execOp, ho, hx, hy, Instr.index, asIntOf, run_underlying ht, run_size hs, hi, part, run_isAgg_plain he, hv]
theorem rSliceArr {n e g j i : Nat} {k : IntKind} (ho : o.op = .slice t x (some y) none none) (ht : P.underlying t = some (.array n e)) (hs : szB P e 1 = true) (hx : ev ρ x = .pointer (some ⟨g, j, none⟩)) (hy : ev ρ y = .int k (i : Int)) (hi : i < n) : Runs P ρ o w (.slice (some ⟨g, j + i, none⟩) (n - i) (n - i)) := by
  have h1 : ¬ n = i := by omega
  have h2 : (i : Int) ≤ (n : Int) := by omega
  have h3 : i ≤ n := by omega
  simp [Runs, execOp, ho, hx, hy, Instr.sliceAt, Instr.sureAddr, Instr.sliceBounds, Instr.sliceBound, asIntOf, run_underlying ht, run_size hs, h1, h3, Addr.add_lit]
theorem rBytesStr {s e : Nat} {A : Option Addr} {n c base : Nat} {l : List Nat} (ho : o.op = .convert s t x) (hs : P.underlying s = some (.slice e)) (he : P.underlying e = some (.int .u8)) (ht : P.underlying t = some .string) (hx : ev ρ x = .slice A n c) (hr : w.ownsRow base e 1 (.slice A n c) n (l.map fun b : Nat => Value.int .u8 (b : Int))) (hb : ∀ b ∈ l, b < 256) (h0 : 0 < n) : Runs P ρ o w (.string (strB l)) := by
  obtain ⟨g, o', rfl⟩ := row_addrS hr h0 (by omega)
  have hl : l.length = n := by have := hr.1; simpa using this
  have h := run_convert_bytes_back (P := P) w s t e ⟨g, o', none⟩ c (l.map UInt8.ofNat) hs he ht (fun j hj => by
    have hj' : j < l.length := by simpa using hj
    rw [Addr.add_lit]
    have h2 : ((l.map UInt8.ofNat)[j].toNat : Int) = (l[j] : Int) := by
      have := hb _ (List.getElem_mem hj')
      simp
      omega
    rw [h2]
    exact row_cellS hr (by simp [hj']) h0)
  have e1 : (l.map UInt8.ofNat).length = n := by simpa using hl
  rw [e1] at h
  simp [Runs, execOp, ho, hx, h, strB]
theorem WL_mkCap {e n by_ base : Nat} {zv : Value} (hI : Inv S w0 w H) (hw : wantedR ops ρ o = true) (hd : o.dst = some d) (hN : Nat.blt d N = true) (ho : o.op = .makeSlice t x y) (hx : ev ρ x = .int .i64 0) (hy : ev ρ y = .int .i64 (n : Int))
    (ht : P.underlying t = some (.slice e)) (hi : (P.info? e).map (fun i => (i.zero, i.size, i.bytes)) = some (some zv, 1, by_)) (hb : by_ * n ≤ 281474976710656) (h63 : n ≤ 9223372036854775807) (hbase : base ≤ w.heap.size)
    (h : ∀ g w', Pure w w' → g = w.heap.size → Inv S w0 w' (Row base e 1 (some ⟨g, 0, none⟩) 0 n [] :: H) → WL P N ops Q rest (upd ρ d (.slice (some ⟨g, 0, none⟩) 0 n)) w') : WL P N ops Q (o :: rest) ρ w := by
  cases hp : P.info? e with
  | none => simp [hp] at hi
  | some i =>
    simp only [hp, Option.map_some, Option.some.injEq, Prod.mk.injEq] at hi
    obtain ⟨h1, h2, h3⟩ := hi
    obtain ⟨w', hr, h4, h5⟩ := run_make_own (P := P) w base t e i zv 1 ht hp h1 h2 .i64 .i64 n (by rw [h3]; exact hb) (by simpa [maxLen] using h63) hbase
    have hpu : Pure w w' := (Pure.refl w).grown h5 (fun k hk => by cases hk)
    refine WL_eff hw hd hN (by simp [execOp, ho, hx, hy, hr]) (h _ _ hpu rfl (hI.fresh hpu (Row.ok h4) (fun k hk => ?_)))
    have : some w.heap.size = some k := hk
    injection this with this
    omega
end
/-! ### Maps whose keys are strings -/
theorem bytes_beq (a b : ByteArray) : (a == b) = decide (a = b) := by
  obtain ⟨a⟩ := a
  obtain ⟨b⟩ := b
  show ByteArray.beq _ _ = _
  unfold ByteArray.beq
  simp
  by_cases h : a = b
  · subst h; simp
  · simp [h]
theorem strB_beq {a b : List Nat} (ha : ∀ c ∈ a, c < 256) (hb : ∀ c ∈ b, c < 256) : (strB a == strB b) = decide (a = b) := by
  rw [bytes_beq]
  by_cases h : a = b
  · subst h; simp
  · simp only [h, decide_false, decide_eq_false_iff_not]
    exact fun e => h (strB_inj ha hb e)
def KsIs (es : List MapEntry) (ks : List (List Nat)) : Prop := es.map (fun e => (e.key, e.val)) = ks.map (fun k => (Value.string (strB k), Value.agg #[]))
theorem findNow_str {a : List Nat} (ha : ∀ c ∈ a, c < 256) : ∀ (es : List MapEntry) (ks : List (List Nat)) (i : Nat), KsIs es ks → (∀ k ∈ ks, ∀ c ∈ k, c < 256) →
    (a ∉ ks ∧ Instr.findNow .string (.string (strB a)) es i = some none) ∨ (a ∈ ks ∧ ∃ j, Instr.findNow .string (.string (strB a)) es i = some (some (j, .agg #[])))
  | [], [], i, _, _ => .inl ⟨by simp, rfl⟩
  | [], _ :: _, i, h, _ => by simp [KsIs] at h
  | _ :: _, [], i, h, _ => by simp [KsIs] at h
  | e :: es, k :: ks, i, h, hs => by
    simp only [KsIs, List.map_cons, List.cons.injEq, Prod.mk.injEq] at h
    obtain ⟨⟨h1, h2⟩, h3⟩ := h
    have hb := strB_beq ha (hs k (by simp))
    by_cases hk : a = k
    · refine .inr ⟨by simp [hk], i, ?_⟩
      have : (strB a == strB k) = true := by rw [hb]; simp [hk]
      simp only [Instr.findNow, h1, Instr.sameNow, this, h2]
    · have : (strB a == strB k) = false := by rw [hb]; simp [hk]
      rcases findNow_str ha es ks (i + 1) h3 (fun k hk => hs k (by simp [hk])) with ⟨g1, g2⟩ | ⟨g1, j, g2⟩
      · refine .inl ⟨by simp [hk, g1], ?_⟩
        simp only [Instr.findNow, h1, Instr.sameNow, this]
        exact g2
      · refine .inr ⟨by simp [g1], j, ?_⟩
        simp only [Instr.findNow, h1, Instr.sameNow, this]
        exact g2
structure SetIs (w : World) (b : Nat) (ks : List (List Nat)) : Prop where
  ex : ∃ (es : Array MapEntry) (clk : Nat), w.heap[b]? = some (.map es clk) ∧ KsIs es.toList ks
  small : ∀ k ∈ ks, ∀ c ∈ k, c < 256
def SetE (b : Nat) (ks : List (List Nat)) : Ent := ⟨fun k => k = b, fun w => SetIs w b ks⟩
theorem SetE.ok {w : World} {b : Nat} {ks : List (List Nat)} (h : SetIs w b ks) : (SetE b ks).ok w := by
  refine Ent.mk_ok h (fun k hk => ?_) (fun S w1 w2 hc hS h1 => ?_)
  · obtain ⟨es, clk, h1, _⟩ := h.ex
    have : k = b := hk
    subst this
    rcases Nat.lt_or_ge k w.heap.size with h2 | h2
    · exact h2
    · simp [Array.getElem?_eq_none h2] at h1
  · obtain ⟨es, clk, h2, h3⟩ := h1.ex
    have hlt : b < w1.heap.size := by
      rcases Nat.lt_or_ge b w1.heap.size with h4 | h4
      · exact h4
      · simp [Array.getElem?_eq_none h4] at h2
    exact ⟨⟨es, clk, (hc.block b hlt (hS b rfl)).trans h2, h3⟩, h1.small⟩
section
variable {P : Program} {N : Nat} {ops : Array Oper} {Q : XPost} {rest : List Oper} {ρ : Env} {o : Oper} {w0 w w' : World} {S : Nat → Prop} {H : List Ent} {d t kt et b : Nat} {x y z : Operand} {ks : List (List Nat)} {a : List Nat}
theorem WL_mkSet (hI : Inv S w0 w H) (hw : wantedR ops ρ o = true) (hd : o.dst = some d) (hN : Nat.blt d N = true) (ho : o.op = .makeMap t none)
    (h : ∀ b w', Pure w w' → b = w.heap.size → Inv S w0 w' (SetE b [] :: H) → WL P N ops Q rest (upd ρ d (.map (some b))) w') : WL P N ops Q (o :: rest) ρ w :=
  WL_eff hw hd hN (v := .map (some w.heap.size)) (w' := w.alloc (.map #[] 0)) (by simp [execOp, ho, Instr.makeMap])
    (h _ _ ((Pure.refl w).alloc _) rfl (hI.fresh ((Pure.refl w).alloc _) (SetE.ok ⟨⟨#[], 0, by show (w.heap.push _)[w.heap.size]? = _; simp, rfl⟩, by simp⟩) (fun k hk => by have : k = w.heap.size := hk; omega)))
theorem check_str {em : Bool} {s : ByteArray} (hk : P.underlying kt = some .string) : (Instr.checkKey em 10000 kt (.string s)).run P w = .ok () w := by
  show (Instr.checkKey em (Nat.succ 9999) kt (.string s)).run P w = .ok () w
  rw [Instr.checkKey]
  simp [run_underlying hk]
theorem rLookS (ho : o.op = .lookup t x y true) (ht : P.underlying t = some (.map kt et)) (hk : P.underlying kt = some .string) (hz : (P.info? et).bind (·.zero) = some (.agg #[])) (hx : ev ρ x = .map (some b)) (hy : ev ρ y = .string (strB a)) (ha : ∀ c ∈ a, c < 256) (hM : SetIs w b ks) :
    Runs P ρ o w (.tuple #[.agg #[], .bool (decide (a ∈ ks))]) := by
  obtain ⟨es, clk, h1, h2⟩ := hM.ex
  have hzv : (zeroValue et).run P w = .ok (.agg #[]) w := by
    cases hi : P.info? et with
    | none => simp [hi] at hz
    | some i => simp only [hi, Option.bind_some] at hz; simp [zeroValue, typeInfo, hi, hz]
  have hc := check_str (P := P) (w := w) (s := strB a) (em := es.isEmpty) hk
  rcases findNow_str ha es.toList ks 0 h2 hM.small with ⟨g1, g2⟩ | ⟨g1, j, g2⟩
  · simp [Runs, execOp, ho, hx, hy, Instr.lookup, run_underlying ht, run_getM h1, hc, Instr.findKey, run_underlying hk, g2, hzv, g1]
  · simp [Runs, execOp, ho, hx, hy, Instr.lookup, run_underlying ht, run_getM h1, hc, Instr.findKey, run_underlying hk, g2, g1]
theorem rLenSet (ho : o.op = .call { callee := .builtin .len, args := #[x], argTypes := #[t] }) (ht : P.underlying t = some (.map kt et)) (hx : ev ρ x = .map (some b)) (hM : SetIs w b ks) : Runs P ρ o w (.int .i64 (ks.length : Int)) := by
  obtain ⟨es, clk, h1, h2⟩ := hM.ex
  have hl : es.size = ks.length := by have := congrArg List.length h2; simpa using this
  simp [Runs, execOp, ho, resolve, invoke, builtin, hx, Builtin.len_, run_underlying ht, run_getM h1, hl, goInt]
theorem WL_setPut (i : Nat) (hi : H[i]? = some (SetE b ks)) (hI : Inv S w0 w H) (hw : wantedR ops ρ o = true) (hd : o.dst = none) (ho : o.op = .mapUpdate t x y z) (ht : P.underlying t = some (.map kt et)) (hk : P.underlying kt = some .string) (hx : ev ρ x = .map (some b)) (hy : ev ρ y = .string (strB a)) (hz : ev ρ z = .agg #[]) (ha : ∀ c ∈ a, c < 256) (hn : a ∉ ks)
    (h : ∀ w', Inv S w0 w' (H.set i (SetE b (ks ++ [a]))) → WL P N ops Q rest ρ w') : WL P N ops Q (o :: rest) ρ w := by
  have hM : SetIs w b ks := (hI.ok _ (List.mem_of_getElem? hi)).1
  obtain ⟨es, clk, h1, h2⟩ := hM.ex
  have hlt : b < w.heap.size := by
    rcases Nat.lt_or_ge b w.heap.size with h5 | h5
    · exact h5
    · simp [Array.getElem?_eq_none h5] at h1
  have hc := check_str (P := P) (w := w) (s := strB a) (em := false) hk
  rcases findNow_str ha es.toList ks 0 h2 hM.small with ⟨g1, g2⟩ | ⟨g1, j, g2⟩
  · have hM' : SetIs (setB w b (.map (es.push { key := .string (strB a), val := .agg #[], born := clk }) (clk + 1))) b (ks ++ [a]) := by
      refine ⟨⟨_, _, heap_setB hlt, ?_⟩, fun k hk => ?_⟩
      · unfold KsIs at h2 ⊢
        simp [h2]
      · rcases List.mem_append.1 hk with hk | hk
        · exact hM.small k hk
        · rw [List.mem_singleton.1 hk]; exact ha
    refine WL_store hw hd (w' := setB w b (.map (es.push { key := .string (strB a), val := .agg #[], born := clk }) (clk + 1))) ?_ (h _ (hI.upd i hi (chg_setB w b _) (SetE.ok hM') (fun _ hk => .inl hk)))
    simp [execOp, ho, hx, hy, hz, Instr.mapUpdate, run_underlying ht, run_getM h1, hc, Instr.findKey, run_underlying hk, g2, run_setM _ h1]
  · exact absurd g1 hn
end
end Go.Proofs.YtgppljdfhhgkiaaGreatDoor
