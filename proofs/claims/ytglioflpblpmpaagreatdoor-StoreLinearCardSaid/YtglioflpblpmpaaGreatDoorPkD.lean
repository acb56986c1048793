/- PkD: Sxv, Str1, Str2, Lin4, Lin5, Lin6, Lin7, merged. -/
import Derived.Test.YtglioflpblpmpaaGreatDoorSxB
import Derived.Test.YtglioflpblpmpaaGreatDoorPkC
import Derived.Laws.IdiomStrings
import Derived.Laws.MakeOwn
import Derived.Test.YtglioflpblpmpaaGreatDoorPkA
namespace Go.Proofs.YtglioflpblpmpaaGreatDoor
open Go
set_option linter.unusedVariables false
set_option linter.unusedSimpArgs false
section
variable {P : Program} {N : Nat} {ops : Array Oper} {Q : XPost} {rest : List Oper} {ρ : Env} {o : Oper} {w0 w w' : World} {S : Nat → Prop} {H : List Ent} {d t : Nat} {x y z : Operand} {v : Value}
theorem rIdxStr {s : ByteArray} {i : Nat} {k : IntKind} {b : UInt8} {c : Int} (ho : o.op = .index t x y) (ht : P.underlying t = some .string) (hx : ev ρ x = .string s) (hy : ev ρ y = .int k (i : Int)) (hb : s[i]? = some b) (hc : (b.toNat : Int) = c) : Runs P ρ o w (.int .u8 c) := by
  subst hc
  simp [Runs, execOp, ho, hx, hy, Instr.index, asIntOf, run_underlying ht, hb]
theorem rIdxAg {n e i : Nat} {cs : Array Value} {k : IntKind} (ho : o.op = .index t x y) (ht : P.underlying t = some (.array n e)) (he : plainB P e = true) (hs : szB P e 1 = true) (hx : ev ρ x = .agg cs) (hy : ev ρ y = .int k (i : Int)) (hi : i < n) (hv : cs[i]? = some v) : Runs P ρ o w v := by
  have hi' : (i : Int) < (n : Int) := by omega
  simp [Runs, execOp, ho, hx, hy, Instr.index, asIntOf, run_underlying ht, run_size hs, hi, part, run_isAgg_plain he, hv]
theorem rSliceArr {n e g j i : Nat} {k : IntKind} (ho : o.op = .slice t x (some y) none none) (ht : P.underlying t = some (.array n e)) (hs : szB P e 1 = true) (hx : ev ρ x = .pointer (some ⟨g, j, none⟩)) (hy : ev ρ y = .int k (i : Int)) (hi : i < n) : Runs P ρ o w (.slice (some ⟨g, j + i, none⟩) (n - i) (n - i)) := by
  have h1 : ¬ n = i := by omega
  have h2 : (i : Int) ≤ (n : Int) := by omega
  have h3 : i ≤ n := by omega
  simp [Runs, execOp, ho, hx, hy, Instr.sliceAt, Instr.sureAddr, Instr.sliceBounds, Instr.sliceBound, asIntOf, run_underlying ht, run_size hs, h1, h3, Addr.add_lit]
theorem rBytesStr {s e : Nat} {A : Option Addr} {n c base : Nat} {l : List Nat} (ho : o.op = .convert s t x) (hs : P.underlying s = some (.slice e)) (he : P.underlying e = some (.int .u8)) (ht : P.underlying t = some .string) (hx : ev ρ x = .slice A n c) (hr : w.ownsRow base e 1 (.slice A n c) n (l.map fun b : Nat => Value.int .u8 (b : Int))) (hb : ∀ b ∈ l, b < 256) (h0 : 0 < n) : Runs P ρ o w (.string (strB l)) := by
  obtain ⟨g, o', rfl⟩ := row_addrS hr h0 (by omega)
  have hl : l.length = n := by have := hr.1; simpa using this
  have h := run_convert_bytes_back (P := P) w s t e ⟨g, o', none⟩ c (l.map UInt8.ofNat) hs he ht (fun j hj => by
    have hj' : j < l.length := by simpa using hj
    rw [Addr.add_lit]
    have h2 : ((l.map UInt8.ofNat)[j].toNat : Int) = (l[j] : Int) := by
      have := hb _ (List.getElem_mem hj')
      simp
      omega
    rw [h2]
    exact row_cellS hr (by simp [hj']) h0)
  have e1 : (l.map UInt8.ofNat).length = n := by simpa using hl
  rw [e1] at h
  simp [Runs, execOp, ho, hx, h, strB]
theorem WL_mkCap {e n by_ base : Nat} {zv : Value} (hI : Inv S w0 w H) (hw : wantedR ops ρ o = true) (hd : o.dst = some d) (hN : Nat.blt d N = true) (ho : o.op = .makeSlice t x y) (hx : ev ρ x = .int .i64 0) (hy : ev ρ y = .int .i64 (n : Int))
    (ht : P.underlying t = some (.slice e)) (hi : (P.info? e).map (fun i => (i.zero, i.size, i.bytes)) = some (some zv, 1, by_)) (hb : by_ * n ≤ 281474976710656) (h63 : n ≤ 9223372036854775807) (hbase : base ≤ w.heap.size)
    (h : ∀ g w', Pure w w' → g = w.heap.size → Inv S w0 w' (Row base e 1 (some ⟨g, 0, none⟩) 0 n [] :: H) → WL P N ops Q rest (upd ρ d (.slice (some ⟨g, 0, none⟩) 0 n)) w') : WL P N ops Q (o :: rest) ρ w := by
  cases hp : P.info? e with
  | none => simp [hp] at hi
  | some i =>
    simp only [hp, Option.map_some, Option.some.injEq, Prod.mk.injEq] at hi
    obtain ⟨h1, h2, h3⟩ := hi
    obtain ⟨w', hr, h4, h5⟩ := run_make_own (P := P) w base t e i zv 1 ht hp h1 h2 .i64 .i64 n (by rw [h3]; exact hb) (by simpa [maxLen] using h63) hbase
    have hpu : Pure w w' := (Pure.refl w).grown h5 (fun k hk => by cases hk)
    refine WL_eff hw hd hN (by simp [execOp, ho, hx, hy, hr]) (h _ _ hpu rfl (hI.fresh hpu (Row.ok h4) (fun k hk => ?_)))
    have : some w.heap.size = some k := hk
    injection this with this
    omega
end
/-! ### Maps whose keys are strings -/
theorem bytes_beq (a b : ByteArray) : (a == b) = decide (a = b) := by
  obtain ⟨a⟩ := a
  obtain ⟨b⟩ := b
  show ByteArray.beq _ _ = _
  unfold ByteArray.beq
  simp
  by_cases h : a = b
  · subst h; simp
  · simp [h]
theorem strB_beq {a b : List Nat} (ha : ∀ c ∈ a, c < 256) (hb : ∀ c ∈ b, c < 256) : (strB a == strB b) = decide (a = b) := by
  rw [bytes_beq]
  by_cases h : a = b
  · subst h; simp
  · simp only [h, decide_false, decide_eq_false_iff_not]
    exact fun e => h (strB_inj ha hb e)
def KsIs (es : List MapEntry) (ks : List (List Nat)) : Prop := es.map (fun e => (e.key, e.val)) = ks.map (fun k => (Value.string (strB k), Value.agg #[]))
theorem findNow_str {a : List Nat} (ha : ∀ c ∈ a, c < 256) : ∀ (es : List MapEntry) (ks : List (List Nat)) (i : Nat), KsIs es ks → (∀ k ∈ ks, ∀ c ∈ k, c < 256) →
    (a ∉ ks ∧ Instr.findNow .string (.string (strB a)) es i = some none) ∨ (a ∈ ks ∧ ∃ j, Instr.findNow .string (.string (strB a)) es i = some (some (j, .agg #[])))
  | [], [], i, _, _ => .inl ⟨by simp, rfl⟩
  | [], _ :: _, i, h, _ => by simp [KsIs] at h
  | _ :: _, [], i, h, _ => by simp [KsIs] at h
  | e :: es, k :: ks, i, h, hs => by
    simp only [KsIs, List.map_cons, List.cons.injEq, Prod.mk.injEq] at h
    obtain ⟨⟨h1, h2⟩, h3⟩ := h
    have hb := strB_beq ha (hs k (by simp))
    by_cases hk : a = k
    · refine .inr ⟨by simp [hk], i, ?_⟩
      have : (strB a == strB k) = true := by rw [hb]; simp [hk]
      simp only [Instr.findNow, h1, Instr.sameNow, this, h2]
    · have : (strB a == strB k) = false := by rw [hb]; simp [hk]
      rcases findNow_str ha es ks (i + 1) h3 (fun k hk => hs k (by simp [hk])) with ⟨g1, g2⟩ | ⟨g1, j, g2⟩
      · refine .inl ⟨by simp [hk, g1], ?_⟩
        simp only [Instr.findNow, h1, Instr.sameNow, this]
        exact g2
      · refine .inr ⟨by simp [g1], j, ?_⟩
        simp only [Instr.findNow, h1, Instr.sameNow, this]
        exact g2
structure SetIs (w : World) (b : Nat) (ks : List (List Nat)) : Prop where
  ex : ∃ (es : Array MapEntry) (clk : Nat), w.heap[b]? = some (.map es clk) ∧ KsIs es.toList ks
  small : ∀ k ∈ ks, ∀ c ∈ k, c < 256
def SetE (b : Nat) (ks : List (List Nat)) : Ent := ⟨fun k => k = b, fun w => SetIs w b ks⟩
theorem SetE.ok {w : World} {b : Nat} {ks : List (List Nat)} (h : SetIs w b ks) : (SetE b ks).ok w := by
  refine Ent.mk_ok h (fun k hk => ?_) (fun S w1 w2 hc hS h1 => ?_)
  · obtain ⟨es, clk, h1, _⟩ := h.ex
    have : k = b := hk
    subst this
    rcases Nat.lt_or_ge k w.heap.size with h2 | h2
    · exact h2
    · simp [Array.getElem?_eq_none h2] at h1
  · obtain ⟨es, clk, h2, h3⟩ := h1.ex
    have hlt : b < w1.heap.size := by
      rcases Nat.lt_or_ge b w1.heap.size with h4 | h4
      · exact h4
      · simp [Array.getElem?_eq_none h4] at h2
    exact ⟨⟨es, clk, (hc.block b hlt (hS b rfl)).trans h2, h3⟩, h1.small⟩
section
variable {P : Program} {N : Nat} {ops : Array Oper} {Q : XPost} {rest : List Oper} {ρ : Env} {o : Oper} {w0 w w' : World} {S : Nat → Prop} {H : List Ent} {d t kt et b : Nat} {x y z : Operand} {ks : List (List Nat)} {a : List Nat}
theorem WL_mkSet (hI : Inv S w0 w H) (hw : wantedR ops ρ o = true) (hd : o.dst = some d) (hN : Nat.blt d N = true) (ho : o.op = .makeMap t none)
    (h : ∀ b w', Pure w w' → b = w.heap.size → Inv S w0 w' (SetE b [] :: H) → WL P N ops Q rest (upd ρ d (.map (some b))) w') : WL P N ops Q (o :: rest) ρ w :=
  WL_eff hw hd hN (v := .map (some w.heap.size)) (w' := w.alloc (.map #[] 0)) (by simp [execOp, ho, Instr.makeMap])
    (h _ _ ((Pure.refl w).alloc _) rfl (hI.fresh ((Pure.refl w).alloc _) (SetE.ok ⟨⟨#[], 0, by show (w.heap.push _)[w.heap.size]? = _; simp, rfl⟩, by simp⟩) (fun k hk => by have : k = w.heap.size := hk; omega)))
theorem check_str {em : Bool} {s : ByteArray} (hk : P.underlying kt = some .string) : (Instr.checkKey em 10000 kt (.string s)).run P w = .ok () w := by
  show (Instr.checkKey em (Nat.succ 9999) kt (.string s)).run P w = .ok () w
  rw [Instr.checkKey]
  simp [run_underlying hk]
theorem rLookS (ho : o.op = .lookup t x y true) (ht : P.underlying t = some (.map kt et)) (hk : P.underlying kt = some .string) (hz : (P.info? et).bind (·.zero) = some (.agg #[])) (hx : ev ρ x = .map (some b)) (hy : ev ρ y = .string (strB a)) (ha : ∀ c ∈ a, c < 256) (hM : SetIs w b ks) :
    Runs P ρ o w (.tuple #[.agg #[], .bool (decide (a ∈ ks))]) := by
  obtain ⟨es, clk, h1, h2⟩ := hM.ex
  have hzv : (zeroValue et).run P w = .ok (.agg #[]) w := by
    cases hi : P.info? et with
    | none => simp [hi] at hz
    | some i => simp only [hi, Option.bind_some] at hz; simp [zeroValue, typeInfo, hi, hz]
  have hc := check_str (P := P) (w := w) (s := strB a) (em := es.isEmpty) hk
  rcases findNow_str ha es.toList ks 0 h2 hM.small with ⟨g1, g2⟩ | ⟨g1, j, g2⟩
  · simp [Runs, execOp, ho, hx, hy, Instr.lookup, run_underlying ht, run_getM h1, hc, Instr.findKey, run_underlying hk, g2, hzv, g1]
  · simp [Runs, execOp, ho, hx, hy, Instr.lookup, run_underlying ht, run_getM h1, hc, Instr.findKey, run_underlying hk, g2, g1]
theorem rLenSet (ho : o.op = .call { callee := .builtin .len, args := #[x], argTypes := #[t] }) (ht : P.underlying t = some (.map kt et)) (hx : ev ρ x = .map (some b)) (hM : SetIs w b ks) : Runs P ρ o w (.int .i64 (ks.length : Int)) := by
  obtain ⟨es, clk, h1, h2⟩ := hM.ex
  have hl : es.size = ks.length := by have := congrArg List.length h2; simpa using this
  simp [Runs, execOp, ho, resolve, invoke, builtin, hx, Builtin.len_, run_underlying ht, run_getM h1, hl, goInt]
theorem WL_setPut (i : Nat) (hi : H[i]? = some (SetE b ks)) (hI : Inv S w0 w H) (hw : wantedR ops ρ o = true) (hd : o.dst = none) (ho : o.op = .mapUpdate t x y z) (ht : P.underlying t = some (.map kt et)) (hk : P.underlying kt = some .string) (hx : ev ρ x = .map (some b)) (hy : ev ρ y = .string (strB a)) (hz : ev ρ z = .agg #[]) (ha : ∀ c ∈ a, c < 256) (hn : a ∉ ks)
    (h : ∀ w', Inv S w0 w' (H.set i (SetE b (ks ++ [a]))) → WL P N ops Q rest ρ w') : WL P N ops Q (o :: rest) ρ w := by
  have hM : SetIs w b ks := (hI.ok _ (List.mem_of_getElem? hi)).1
  obtain ⟨es, clk, h1, h2⟩ := hM.ex
  have hlt : b < w.heap.size := by
    rcases Nat.lt_or_ge b w.heap.size with h5 | h5
    · exact h5
    · simp [Array.getElem?_eq_none h5] at h1
  have hc := check_str (P := P) (w := w) (s := strB a) (em := false) hk
  rcases findNow_str ha es.toList ks 0 h2 hM.small with ⟨g1, g2⟩ | ⟨g1, j, g2⟩
  · have hM' : SetIs (setB w b (.map (es.push { key := .string (strB a), val := .agg #[], born := clk }) (clk + 1))) b (ks ++ [a]) := by
      refine ⟨⟨_, _, heap_setB hlt, ?_⟩, fun k hk => ?_⟩
      · unfold KsIs at h2 ⊢
        simp [h2]
      · rcases List.mem_append.1 hk with hk | hk
        · exact hM.small k hk
        · rw [List.mem_singleton.1 hk]; exact ha
    refine WL_store hw hd (w' := setB w b (.map (es.push { key := .string (strB a), val := .agg #[], born := clk }) (clk + 1))) ?_ (h _ (hI.upd i hi (chg_setB w b _) (SetE.ok hM') (fun _ hk => .inl hk)))
    simp [execOp, ho, hx, hy, hz, Instr.mapUpdate, run_underlying ht, run_getM h1, hc, Instr.findKey, run_underlying hk, g2, run_setM _ h1]
  · exact absurd g1 hn
end
/-! ### Parts handed over together -/
def DL (l : List Ent) : Nat → Prop := fun k => ∃ e ∈ l, e.D k
section
variable {S : Nat → Prop} {w0 w w' : World} {H H' l : List Ent}
/-- From a world on, some parts alone. -/
theorem Inv.from (h : Inv S w0 w (l ++ H)) : Inv (DL l) w w l :=
  ⟨Chg.refl _ w, fun e he => h.ok e (by simp [he]), fun e he k hk => .inl ⟨e, he, hk⟩, (List.pairwise_append.1 h.apart).1⟩
/-- Behind a call that was handed them. -/
theorem Inv.turnL (h : Inv S w0 w (l ++ H)) (h' : Inv (DL l) w w' H') : Inv S w0 w' (H' ++ H) := by
  obtain ⟨p1, p2, p3⟩ := List.pairwise_append.1 h.apart
  refine ⟨h.chg.trans' h'.chg fun k hk1 hk2 => ?_, fun x hx => ?_, fun x hx k hk => ?_, List.pairwise_append.2 ⟨h'.apart, p2, fun a ha b hb k h1 h2 => ?_⟩⟩
  · obtain ⟨e, he, hk2⟩ := hk2
    rcases h.own e (by simp [he]) k hk2 with h1 | h1
    · exact h1
    · omega
  · rcases List.mem_append.1 hx with hx | hx
    · exact h'.ok x hx
    · exact (h.ok x (by simp [hx])).chg h'.chg (fun k hk hk2 => by obtain ⟨e, he, hk2⟩ := hk2; exact p3 e he x hx k hk2 hk)
  · rcases List.mem_append.1 hx with hx | hx
    · rcases h'.own x hx k hk with ⟨e, he, h1⟩ | h1
      · exact h.own e (by simp [he]) k h1
      · exact .inr (Nat.le_trans h.chg.size h1)
    · exact h.own x (by simp [hx]) k hk
  · rcases h'.own a ha k h1 with ⟨e, he, h3⟩ | h3
    · exact p3 e he b hb k h3 h2
    · have := (h.ok b (by simp [hb])).2.1 k h2
      omega
end
end Go.Proofs.YtglioflpblpmpaaGreatDoor
namespace Go.Proofs.YtglioflpblpmpaaGreatDoor
open Go.RowKit
set_option linter.unusedVariables false
set_option linter.unusedSimpArgs false
section
variable {P : Program} {ρ : Env} {o : Oper} {w : World} {x y : Operand} {t t' : TypeId}
theorem rQuoU {a b : Nat} (ho : o.op = .binOp .quo t x y t') (hx : ev ρ x = .int .u64 (a : Int)) (hy : ev ρ y = .int .u64 (b : Int)) (hb : 0 < b) (ha : a < 18446744073709551616) : Runs P ρ o w (.int .u64 ((a / b : Nat) : Int)) := by
  have h := rQuoW (P := P) (w := w) ho hx hy (by omega)
  have hl : a / b ≤ a := Nat.div_le_self a b
  have e : (a : Int).tdiv (b : Int) = ((a / b : Nat) : Int) := by simp [Int.ofNat_tdiv]
  rwa [e, wrap_u64 (by omega)] at h
theorem rMulU {a b : Nat} (ho : o.op = .binOp .mul t x y t') (hx : ev ρ x = .int .u64 (a : Int)) (hy : ev ρ y = .int .u64 (b : Int)) (ha : a * b < 18446744073709551616) : Runs P ρ o w (.int .u64 ((a * b : Nat) : Int)) := by
  have h := rMulW (P := P) (w := w) ho hx hy
  rwa [← Int.natCast_mul, wrap_u64 ha] at h
theorem rSubU {a b : Nat} (ho : o.op = .binOp .sub t x y t') (hx : ev ρ x = .int .u64 (a : Int)) (hy : ev ρ y = .int .u64 (b : Int)) (hb : b ≤ a) (ha : a < 18446744073709551616) : Runs P ρ o w (.int .u64 ((a - b : Nat) : Int)) := by
  have h := rSubW (P := P) (w := w) ho hx hy
  rwa [show (a : Int) - (b : Int) = ((a - b : Nat) : Int) by omega, wrap_u64 (by omega)] at h
end
def bytC (l : List Nat) : List Value := l.map fun b : Nat => Value.int .u8 (b : Int)
theorem bytC_len (l : List Nat) : (bytC l).length = l.length := by simp [bytC]
theorem bytC_app (l m : List Nat) : bytC (l ++ m) = bytC l ++ bytC m := by simp [bytC]
theorem bytC_one (l : List Nat) : (bytC l).all (·.oneCell') = true := by
  rw [List.all_eq_true]
  intro v hv
  obtain ⟨b, _, rfl⟩ := List.mem_map.1 hv
  rfl
def BytE (base : Nat) (A : Option Addr) (c : Nat) (l : List Nat) : Ent := Row base 5 1 A l.length c (bytC l)
theorem dig_str : ∀ i, i < 36 → (⟨#[48, 49, 50, 51, 52, 53, 54, 55, 56, 57, 97, 98, 99, 100, 101, 102, 103, 104, 105, 106, 107, 108, 109, 110, 111, 112, 113, 114, 115, 116, 117, 118, 119, 120, 121, 122]⟩ : ByteArray)[i]? = some (UInt8.ofNat (dig36 i)) := by decide +kernel
theorem dig_u8 {i : Nat} (h : i < 36) : ((UInt8.ofNat (dig36 i)).toNat : Int) = (dig36 i : Int) := by
  have := (okC_dig h).1.2.2
  simp
  omega
theorem pow2_36 (w0 : World) : Calls Tryz.prog 103 #[.int .i64 36] w0 fun en w' => en = .returned (.bool false) ∧ Pure w0 w' := by
  have hI := Inv.start (fun _ => False) w0
  refine calls_of_W (N := Tryz.f103.ntmps) Tryz.func103 rfl rfl rfl ?_
  refine W_seq ?_
  refine W_region ?_
  refine WL_val rfl rfl rfl (by exact rAsgnB rfl rfl) ?_
  refine WL_nil ?_
  refine W_seq ?_
  refine W_region ?_
  refine WL_val rfl rfl rfl (by exact rMoveI rfl rfl) ?_
  refine WL_val rfl rfl rfl (by exact rMoveI rfl rfl) ?_
  refine WL_val rfl rfl rfl (by exact rSub rfl rfl rfl (by omega)) ?_
  refine WL_val rfl rfl rfl (rBits (r := fun p q => p &&& q) rfl rfl rfl rfl) ?_
  refine WL_val rfl rfl rfl (by exact rEql rfl rfl rfl) ?_
  refine WL_val rfl rfl rfl (by exact rAsgnB rfl rfl) ?_
  refine WL_nil ?_
  refine W_ret ?_
  exact ret1 2 (.inr rfl) rfl ⟨rfl, hI.pu⟩
theorem drop_set65 {cs : Array Value} {k : Nat} (hk : k < 65) (hcs : cs.size = 65) (v : Value) : (cs.setIfInBounds (0 + (65 - k - 1) * 1) v).toList.drop (65 - (k + 1)) = v :: cs.toList.drop (65 - k) := by
  have e : 0 + (65 - k - 1) * 1 = 65 - (k + 1) := by omega
  have hl : 65 - (k + 1) < (cs.toList.set (65 - (k + 1)) v).length := by simp [hcs]; omega
  rw [e, Array.toList_setIfInBounds, List.drop_eq_getElem_cons hl, List.getElem_set_self, List.drop_set_of_lt (by omega), show 65 - (k + 1) + 1 = 65 - k by omega]
set_option maxHeartbeats 2000000 in
theorem fmt_any (base : Nat) (A : Option Addr) (c : Nat) (l : List Nat) (u : Nat) (w0 : World) (hR : (BytE base A c l).ok w0) (hu : u < 18446744073709551616) (hn : l.length ≤ 1000000) (hb : base ≤ w0.heap.size) :
    Calls Tryz.prog 97 #[.slice A l.length c, .int .u64 (u : Int), .int .i64 36, .bool false, .bool true] w0 fun en w' => ∃ A' c', en = .returned (.tuple #[.slice A' (l ++ dig u).length c', .string ⟨#[]⟩]) ∧ Inv (BytE base A c l).D w0 w' [BytE base A' c' (l ++ dig u)] := by
  have hI := Inv.ownE hR
  refine calls_of_W (N := Tryz.f97.ntmps) Tryz.func97 rfl rfl rfl ?_
  refine W_seq ?_
  refine W_region ?_
  refine WL_val rfl rfl rfl (by exact rAsgnS rfl rfl) ?_
  refine WL_val rfl rfl rfl (by exact rAsgnStr rfl rfl) ?_
  refine WL_nil ?_
  refine W_seq ?_
  refine W_seq ?_
  refine W_region ?_
  refine WL_val rfl rfl rfl (by exact rMoveI rfl rfl) ?_
  refine WL_val rfl rfl rfl (by exact rLssF rfl rfl rfl (by omega)) ?_
  refine WL_val rfl rfl rfl (by exact rMoveB rfl rfl) ?_
  refine WL_val rfl rfl rfl (by exact rMoveI rfl rfl) ?_
  refine WL_val rfl rfl rfl (by exact rEqlF rfl rfl rfl (by omega)) ?_
  refine WL_val rfl rfl rfl (by exact rPickFB rfl rfl rfl) ?_
  refine WL_val rfl rfl rfl (by exact rMoveB rfl rfl) ?_
  refine WL_val rfl rfl rfl (by exact rMoveI rfl rfl) ?_
  refine WL_val rfl rfl rfl (by exact rGtrF rfl rfl rfl (by omega)) ?_
  refine WL_val rfl rfl rfl (by exact rPickFB rfl rfl rfl) ?_
  refine WL_nil ?_
  refine W_cond false rfl ?_
  refine W_skip ?_
  refine W_seq ?_
  refine W_region ?_
  refine WL_alloc (u := .agg #[.int .u8 0, .int .u8 0, .int .u8 0, .int .u8 0, .int .u8 0, .int .u8 0, .int .u8 0, .int .u8 0, .int .u8 0, .int .u8 0, .int .u8 0, .int .u8 0, .int .u8 0, .int .u8 0, .int .u8 0, .int .u8 0, .int .u8 0, .int .u8 0, .int .u8 0, .int .u8 0, .int .u8 0, .int .u8 0, .int .u8 0, .int .u8 0, .int .u8 0, .int .u8 0, .int .u8 0, .int .u8 0, .int .u8 0, .int .u8 0, .int .u8 0, .int .u8 0, .int .u8 0, .int .u8 0, .int .u8 0, .int .u8 0, .int .u8 0, .int .u8 0, .int .u8 0, .int .u8 0, .int .u8 0, .int .u8 0, .int .u8 0, .int .u8 0, .int .u8 0, .int .u8 0, .int .u8 0, .int .u8 0, .int .u8 0, .int .u8 0, .int .u8 0, .int .u8 0, .int .u8 0, .int .u8 0, .int .u8 0, .int .u8 0, .int .u8 0, .int .u8 0, .int .u8 0, .int .u8 0, .int .u8 0, .int .u8 0, .int .u8 0, .int .u8 0, .int .u8 0]) (vs := #[.int .u8 0, .int .u8 0, .int .u8 0, .int .u8 0, .int .u8 0, .int .u8 0, .int .u8 0, .int .u8 0, .int .u8 0, .int .u8 0, .int .u8 0, .int .u8 0, .int .u8 0, .int .u8 0, .int .u8 0, .int .u8 0, .int .u8 0, .int .u8 0, .int .u8 0, .int .u8 0, .int .u8 0, .int .u8 0, .int .u8 0, .int .u8 0, .int .u8 0, .int .u8 0, .int .u8 0, .int .u8 0, .int .u8 0, .int .u8 0, .int .u8 0, .int .u8 0, .int .u8 0, .int .u8 0, .int .u8 0, .int .u8 0, .int .u8 0, .int .u8 0, .int .u8 0, .int .u8 0, .int .u8 0, .int .u8 0, .int .u8 0, .int .u8 0, .int .u8 0, .int .u8 0, .int .u8 0, .int .u8 0, .int .u8 0, .int .u8 0, .int .u8 0, .int .u8 0, .int .u8 0, .int .u8 0, .int .u8 0, .int .u8 0, .int .u8 0, .int .u8 0, .int .u8 0, .int .u8 0, .int .u8 0, .int .u8 0, .int .u8 0, .int .u8 0, .int .u8 0]) hI rfl rfl rfl rfl (by kernel_rfl) rfl ?_
  clear hI; rintro b12 w - - hI
  refine WL_nil ?_
  refine W_seq ?_
  refine W_region ?_
  refine WL_val rfl rfl rfl (by exact rAsgnI rfl rfl) ?_
  refine WL_nil ?_
  refine W_seq ?_
  refine W_seq ?_
  refine W_region ?_
  refine WL_val rfl rfl rfl (by exact rMoveB rfl rfl) ?_
  refine WL_nil ?_
  refine W_cond false rfl ?_
  refine W_skip ?_
  refine W_seq ?_
  refine W_seq ?_
  refine W_region ?_
  refine WL_val rfl rfl rfl (by exact rMoveI rfl rfl) ?_
  refine WL_call rfl rfl rfl (rCall (vs := [.int .i64 _]) rfl Tryz.func103 rfl rfl rfl) ?_
  refine (pow2_36 _).mono ?_
  rintro e w1 ⟨rfl, hp⟩
  refine ⟨_, rfl, ?_⟩
  replace hI := hI.pure hp
  refine WL_nil ?_
  refine W_cond false rfl ?_
  refine W_seq ?_
  refine W_region ?_
  refine WL_val rfl rfl rfl (by exact rMoveI rfl rfl) ?_
  refine WL_val rfl rfl rfl (by exact rConvW rfl Tryz.underlying3 Tryz.underlying176 rfl) ?_
  refine WL_val rfl rfl rfl (by exact rAsgnI rfl rfl) ?_
  refine WL_nil ?_
  obtain ⟨cs, hcs, hI⟩ : ∃ cs : Array Value, cs.size = 65 ∧ Inv (BytE base A c l).D w0 w1 [B b12 189 cs, BytE base A c l] := ⟨_, by rfl, hI⟩
  refine W_seq ?_
  refine W_block ?_
  refine W_loopN (fun mu ρ w => ∃ (k u' : Nat) (acc : List Nat) (cs : Array Value), mu = 13 - k ∧ k ≤ 13 ∧ acc.length = k ∧ dig u = digs36 (13 - k) u' acc ∧ u' < 36 ^ (13 - k + 1) ∧ u' < 18446744073709551616 ∧ cs.size = 65 ∧ cs.toList.drop (65 - k) = bytC acc ∧ Has ρ [(13, .int .i64 ((65 - k : Nat) : Int)), (1, .int .u64 (u' : Int)), (17, .int .u64 36), (12, .pointer (some ⟨b12, 0, none⟩)), (0, .slice A l.length c), (3, .bool false), (4, .bool true), (11, .string ⟨#[]⟩)] ∧ Inv (BytE base A c l).D w0 w [B b12 189 cs, BytE base A c l]) 13
    ⟨0, u, [], cs, rfl, by omega, rfl, rfl, Nat.lt_of_lt_of_le hu (by decide), hu, hcs, by rw [List.drop_eq_nil_of_le (by simp [hcs])]; rfl, ⟨rfl, rfl, rfl, rfl, rfl, rfl, rfl, rfl, trivial⟩, hI⟩ ?_
  clear hI
  rintro mu ρ w ⟨k, u', acc, cs, rfl, hk, hacc, hdig, hu1, hu2, hcs, hdrop, hH, hI⟩
  obtain ⟨σ, rfl⟩ := hH.open
  by_cases h36 : 36 ≤ u'
  · have hk13 : k < 13 := by
      rcases Nat.lt_or_ge k 13 with h | h
      · exact h
      · obtain rfl : k = 13 := by omega
        simp at hu1
        omega
    have hq : u' / 36 * 36 ≤ u' := Nat.div_mul_le_self u' 36
    have hr : u' - u' / 36 * 36 = u' % 36 := by omega
    have hr36 : u' % 36 < 36 := Nat.mod_lt _ (by omega)
    refine W_seq ?_
    refine W_seq ?_
    refine W_region ?_
    refine WL_val rfl rfl rfl (by exact rMoveI rfl rfl) ?_
    refine WL_val rfl rfl rfl (by exact rMoveI rfl rfl) ?_
    refine WL_val rfl rfl rfl (by exact rGeqT rfl rfl rfl (by omega)) ?_
    refine WL_nil ?_
    refine W_cond true rfl ?_
    refine W_skip ?_
    refine W_block ?_
    refine W_seq ?_
    refine W_region ?_
    refine WL_val rfl rfl rfl (by exact rMoveI rfl rfl) ?_
    refine WL_val rfl rfl rfl (rDecN (b := 1) rfl rfl rfl (by omega) (by omega)) ?_
    refine WL_val rfl rfl rfl (by exact rAsgnI rfl rfl) ?_
    refine WL_nil ?_
    refine W_seq ?_
    refine W_region ?_
    refine WL_val rfl rfl rfl (by exact rMoveI rfl rfl) ?_
    refine WL_val rfl rfl rfl (by exact rMoveI rfl rfl) ?_
    refine WL_val rfl rfl rfl (rQuoU (b := 36) rfl rfl rfl (by omega) (by omega)) ?_
    refine WL_val rfl rfl rfl (by exact rAsgnI rfl rfl) ?_
    refine WL_nil ?_
    refine W_seq ?_
    refine W_region ?_
    refine WL_val rfl rfl rfl (by exact rMoveI rfl rfl) ?_
    refine WL_val rfl rfl rfl (by exact rMoveI rfl rfl) ?_
    refine WL_val rfl rfl rfl (by exact rMoveI rfl rfl) ?_
    refine WL_val rfl rfl rfl (by exact rMoveI rfl rfl) ?_
    refine WL_val rfl rfl rfl (rMulU (b := 36) rfl rfl rfl (by omega)) ?_
    refine WL_val rfl rfl rfl (rSubU rfl rfl rfl (by omega) (by omega)) ?_
    refine WL_val rfl rfl rfl (rIdxStr rfl Tryz.underlying9 rfl rfl (dig_str _ (by omega)) (dig_u8 (by omega))) ?_
    refine WL_val rfl rfl rfl (rIdxArr (sz := 1) rfl Tryz.underlying189 (by kernel_rfl) rfl rfl rfl (by omega)) ?_
    refine WL_st0 (u := .int .u8 (dig36 (u' - u' / 36 * 36) : Int)) (j := 0 + (65 - k - 1) * 1) hI rfl rfl rfl rfl rfl rfl (by kernel_rfl) rfl (by simp [Nat.blt, hcs]) rfl ?_
    clear hI; intro w hI
    refine WL_nil ?_
    refine W_region ?_
    refine WL_val rfl rfl rfl (by exact rMoveI rfl rfl) ?_
    refine WL_val rfl rfl rfl (by exact rAsgnI rfl rfl) ?_
    refine WL_nil ?_
    rw [hr] at hI
    refine ⟨13 - (k + 1), by omega, k + 1, u' / 36, dig36 (u' % 36) :: acc, _, rfl, by omega, by simp [hacc], ?_, ?_, by omega, by simp [hcs], ?_, ⟨by show Value.int .i64 ((65 - k - 1 : Nat) : Int) = .int .i64 ((65 - (k + 1) : Nat) : Int); rw [Nat.sub_sub], rfl, rfl, rfl, rfl, rfl, rfl, rfl, trivial⟩, hI⟩
    · rw [hdig, show 13 - k = (13 - (k + 1)) + 1 by omega, digs36, if_neg (by omega)]
    · rw [Nat.div_lt_iff_lt_mul (by omega), ← Nat.pow_succ]
      rwa [show (13 - (k + 1) + 1).succ = 13 - k + 1 by omega]
    · rw [drop_set65 (by omega) hcs, hdrop]; rfl
  · refine W_seq ?_
    refine W_seq ?_
    refine W_region ?_
    refine WL_val rfl rfl rfl (by exact rMoveI rfl rfl) ?_
    refine WL_val rfl rfl rfl (by exact rMoveI rfl rfl) ?_
    refine WL_val rfl rfl rfl (by exact rGeqF rfl rfl rfl (by omega)) ?_
    refine WL_nil ?_
    refine W_cond false rfl ?_
    refine W_exit ?_
    refine W_seq ?_
    refine W_region ?_
    refine WL_val rfl rfl rfl (by exact rMoveI rfl rfl) ?_
    refine WL_val rfl rfl rfl (rDecN (b := 1) rfl rfl rfl (by omega) (by omega)) ?_
    refine WL_val rfl rfl rfl (by exact rAsgnI rfl rfl) ?_
    refine WL_nil ?_
    refine W_region ?_
    refine WL_val rfl rfl rfl (by exact rMoveI rfl rfl) ?_
    refine WL_val rfl rfl rfl (by exact rMoveI rfl rfl) ?_
    refine WL_val rfl rfl rfl (rIdxStr rfl Tryz.underlying9 rfl rfl (dig_str _ (by omega)) (dig_u8 (by omega))) ?_
    refine WL_val rfl rfl rfl (rIdxArr (sz := 1) rfl Tryz.underlying189 (by kernel_rfl) rfl rfl rfl (by omega)) ?_
    refine WL_st0 (u := .int .u8 (dig36 u' : Int)) (j := 0 + (65 - k - 1) * 1) hI rfl rfl rfl rfl rfl rfl (by kernel_rfl) rfl (by simp [Nat.blt, hcs]) rfl ?_
    clear hI; intro w hI
    refine WL_nil ?_
    have hfin : dig u = dig36 u' :: acc := by
      rw [hdig]
      cases h13 : 13 - k with
      | zero => rw [digs36, Nat.mod_eq_of_lt (by omega)]
      | succ f => rw [digs36, if_pos (by omega)]
    have hd65 := drop_set65 (k := k) (by omega) hcs (.int .u8 (dig36 u' : Int))
    rw [hdrop] at hd65
    have hd65 : (cs.setIfInBounds (0 + (65 - k - 1) * 1) (.int .u8 (dig36 u' : Int))).toList.drop (65 - (k + 1)) = bytC (dig u) := by rw [hd65, hfin]; rfl
    have hsz : (cs.setIfInBounds (0 + (65 - k - 1) * 1) (.int .u8 (dig36 u' : Int))).size = 65 := by simp [hcs]
    have hlen : (dig u).length = k + 1 := by rw [hfin]; simp [hacc]
    replace hI : ∃ cs' : Array Value, cs'.size = 65 ∧ cs'.toList.drop (65 - (k + 1)) = bytC (dig u) ∧ Inv (BytE base A c l).D w0 w [B b12 189 cs', BytE base A c l] := ⟨_, hsz, hd65, hI⟩
    obtain ⟨cs', hsz', hd', hI⟩ := hI
    refine W_seq ?_
    refine W_seq ?_
    refine W_region ?_
    refine WL_val rfl rfl rfl (by exact rMoveB rfl rfl) ?_
    refine WL_nil ?_
    refine W_cond false rfl ?_
    refine W_skip ?_
    refine W_seq ?_
    refine W_seq ?_
    refine W_region ?_
    refine WL_val rfl rfl rfl (by exact rMoveB rfl rfl) ?_
    refine WL_nil ?_
    refine W_cond true rfl ?_
    refine W_seq ?_
    refine W_region ?_
    refine WL_val rfl rfl rfl (by exact rMoveS rfl rfl) ?_
    refine WL_val rfl rfl rfl (by exact rMoveI rfl rfl) ?_
    refine WL_val rfl rfl rfl (rSliceArr (i := 65 - k - 1) rfl Tryz.underlying189 (by kernel_rfl) rfl rfl (by omega)) ?_
    -- STOP: call ['Op.call', ('st', {'callee': ['Callee.builtin', 'Builtin.append'], 'args': ('arr', [['Operand.tmp', '95'], ['Operand.tmp', '97']]), 'argTypes': ('arr
    refine WL_app1 (z := .int .u8 0) (by_ := 1) (news := bytC (dig u)) hI rfl rfl rfl rfl rfl rfl Tryz.underlying150 (by kernel_rfl) rfl (by omega) (by rw [bytC_len]; omega) (fun q v hq => ?_) (bytC_one _) (by omega) (by omega) (by have := hI.chg.size; omega) ?_
    · rw [← hd', List.getElem?_drop] at hq
      rw [Nat.zero_add, show 65 - k - 1 = 65 - (k + 1) by omega]
      exact hI.c0 (by simpa using hq)
    clear hI; rintro A' c' w hc1 hc2 hI
    refine WL_val rfl rfl rfl (by exact rAsgnS rfl rfl) ?_
    refine WL_nil ?_
    refine W_ret ?_
    have el : l.length + (65 - (65 - k - 1)) = (l ++ dig u).length := by simp [hlen]; omega
    rw [el, ← bytC_app] at hI
    refine ret2 10 11 (.inr rfl) rfl ⟨A', c', ?_, hI.d0⟩
    rw [← el]; rfl
end Go.Proofs.YtglioflpblpmpaaGreatDoor
namespace Go.Proofs.YtglioflpblpmpaaGreatDoor
open Go.RowKit
set_option linter.unusedVariables false
set_option linter.unusedSimpArgs false
theorem appU_any (base : Nat) (A : Option Addr) (c : Nat) (l : List Nat) (u : Nat) (w0 : World) (hR : (BytE base A c l).ok w0) (hu : u < 18446744073709551616) (hn : l.length ≤ 1000000) (hb : base ≤ w0.heap.size) :
    Calls Tryz.prog 89 #[.slice A l.length c, .int .u64 (u : Int), .int .i64 36] w0 fun en w' => ∃ A' c', en = .returned (.slice A' (l ++ dig u).length c') ∧ Inv (BytE base A c l).D w0 w' [BytE base A' c' (l ++ dig u)] := by
  have hI := Inv.ownE hR
  refine calls_of_W (N := Tryz.f89.ntmps) Tryz.func89 rfl rfl rfl ?_
  refine W_seq ?_
  refine W_region ?_
  refine WL_val rfl rfl rfl (by exact rAsgnS rfl rfl) ?_
  refine WL_nil ?_
  refine W_seq ?_
  refine W_seq ?_
  refine W_region ?_
  refine WL_val rfl rfl rfl (by exact rMoveI rfl rfl) ?_
  refine WL_val rfl rfl rfl (by exact rEqlF rfl rfl rfl (by omega)) ?_
  refine WL_nil ?_
  refine W_cond false rfl ?_
  refine W_skip ?_
  refine W_seq ?_
  refine W_region ?_
  refine WL_val rfl rfl rfl (by exact rMoveS rfl rfl) ?_
  refine WL_val rfl rfl rfl (by exact rMoveI rfl rfl) ?_
  refine WL_val rfl rfl rfl (by exact rMoveI rfl rfl) ?_
  refine WL_call rfl rfl rfl (rCall (vs := [.slice _ _ _, .int .u64 _, .int .i64 _, .bool _, .bool _]) rfl Tryz.func97 rfl rfl rfl) ?_
  refine (fmt_any base A c l u _ (hI.ok _ (by simp)) hu hn hb).mono ?_
  rintro e w1 ⟨A', c', rfl, hT⟩
  refine ⟨_, rfl, ?_⟩
  replace hI := hI.turn1 hT
  refine WL_val rfl rfl rfl (by exact rMoveT rfl rfl) ?_
  refine WL_val rfl rfl rfl (rExtr rfl rfl rfl) ?_
  refine WL_val rfl rfl rfl (rExtr rfl rfl rfl) ?_
  refine WL_val rfl rfl rfl (by exact rAsgnS rfl rfl) ?_
  refine WL_nil ?_
  refine W_seq ?_
  refine W_region ?_
  refine WL_val rfl rfl rfl (by exact rMoveS rfl rfl) ?_
  refine WL_val rfl rfl rfl (by exact rAsgnS rfl rfl) ?_
  refine WL_nil ?_
  refine W_ret ?_
  exact ret1 6 (.inr rfl) rfl ⟨A', c', rfl, hI⟩
section
variable {P : Program} {ρ : Env} {o : Oper} {w : World} {x y : Operand} {t t' : TypeId}
theorem rNegU {n : Int} (ho : o.op = .unOp .neg t x) (hx : ev ρ x = .int .u64 (IntKind.u64.wrap n)) (h0 : n < 0) (h1 : -9223372036854775808 ≤ n) : Runs P ρ o w (.int .u64 (n.natAbs : Int)) := by
  have h := rNegW (P := P) (w := w) ho hx
  have e : IntKind.u64.wrap (0 - IntKind.u64.wrap n) = (n.natAbs : Int) := by
    simp [IntKind.wrap, IntKind.signed, IntKind.bits]
    omega
  rwa [e] at h
end
theorem appI_any (base : Nat) (A : Option Addr) (c : Nat) (l : List Nat) (n : Int) (w0 : World) (hR : (BytE base A c l).ok w0) (hn : i64B n) (hl : l.length ≤ 999999) (hb : base ≤ w0.heap.size) :
    Calls Tryz.prog 85 #[.slice A l.length c, .int .i64 n, .int .i64 36] w0 fun en w' => ∃ A' c', en = .returned (.slice A' (l ++ itoa36 n).length c') ∧ Inv (BytE base A c l).D w0 w' [BytE base A' c' (l ++ itoa36 n)] := by
  have hI := Inv.ownE hR
  unfold i64B at hn
  refine calls_of_W (N := Tryz.f85.ntmps) Tryz.func85 rfl rfl rfl ?_
  refine W_seq ?_
  refine W_region ?_
  refine WL_val rfl rfl rfl (by exact rAsgnS rfl rfl) ?_
  refine WL_nil ?_
  by_cases hneg : n < 0
  · refine W_seq ?_
    refine W_region ?_
    refine WL_val rfl rfl rfl (by exact rMoveI rfl rfl) ?_
    refine WL_val rfl rfl rfl (rConvW rfl Tryz.underlying2 Tryz.underlying176 rfl) ?_
    refine WL_val rfl rfl rfl (by exact rAsgnI rfl rfl) ?_
    refine WL_nil ?_
    refine W_seq ?_
    refine W_seq ?_
    refine W_region ?_
    refine WL_val rfl rfl rfl (by exact rMoveI rfl rfl) ?_
    refine WL_val rfl rfl rfl (by exact rLssT rfl rfl rfl (by omega)) ?_
    refine WL_nil ?_
    refine W_cond true rfl ?_
    refine W_seq ?_
    refine W_region ?_
    refine WL_val rfl rfl rfl (by exact rMoveS rfl rfl) ?_
    refine WL_lit (vs := [_]) (qs := [(0, .int .u8 _)]) [.int .u8 0] [0] hI rfl rfl rfl rfl rfl rfl Tryz.underlying150 (fun _ => by kernel_rfl) ?_
    clear hI; rintro b13 w - - hI
    refine WL_app1 (z := .int .u8 0) (by_ := 1) hI rfl rfl rfl rfl rfl rfl Tryz.underlying150 (by kernel_rfl) rfl (by omega) (by rfl) hI.lit0 (by rfl) (by omega) (by omega) (by (have := hI.chg.size; omega)) ?_
    clear hI; rintro A14 c14 w hA14 hc14 hI
    replace hI := hI.d0
    refine WL_val rfl rfl rfl (by exact rAsgnS rfl rfl) ?_
    refine WL_nil ?_
    replace hI : Inv (BytE base A c l).D w0 w [BytE base A14 c14 (l ++ [45])] := by
      have e : BytE base A14 c14 (l ++ [45]) = Row base 5 1 A14 (l.length + 1) c14 (bytC l ++ [.int .u8 45]) := by
        unfold BytE
        rw [bytC_app, List.length_append]
        rfl
      rw [e]; exact hI
    refine W_region ?_
    refine WL_val rfl rfl rfl (by exact rMoveI rfl rfl) ?_
    refine WL_val rfl rfl rfl (rNegU (n := n) rfl rfl hneg (by omega)) ?_
    refine WL_val rfl rfl rfl (by exact rAsgnI rfl rfl) ?_
    refine WL_nil ?_
    have e : l ++ itoa36 n = (l ++ [45]) ++ dig n.natAbs := by unfold itoa36; rw [if_pos hneg]; simp
    rw [e]
    refine W_seq ?_
    refine W_region ?_
    refine WL_val rfl rfl rfl (by exact rMoveS rfl rfl) ?_
    refine WL_val rfl rfl rfl (by exact rMoveI rfl rfl) ?_
    refine WL_val rfl rfl rfl (by exact rMoveI rfl rfl) ?_
    refine WL_call rfl rfl rfl (rCall (vs := [.slice _ _ _, .int .u64 _, .int .i64 _]) rfl Tryz.func89 rfl rfl rfl) ?_
    refine Calls.mono (by have h := appU_any base A14 c14 (l ++ [45]) n.natAbs _ (hI.ok _ (by simp)) (by omega) (by simp; omega) (by have := hI.chg.size; omega); rw [List.length_append] at h; exact h) ?_
    rintro e w1 ⟨A', c', rfl, hT⟩
    refine ⟨_, rfl, ?_⟩
    replace hI := hI.turn1 hT
    refine WL_val rfl rfl rfl (by exact rAsgnS rfl rfl) ?_
    refine WL_nil ?_
    refine W_ret ?_
    exact ret1 6 (.inr rfl) rfl ⟨A', c', rfl, hI⟩
  · obtain ⟨m, rfl⟩ : ∃ m : Nat, n = (m : Int) := ⟨n.toNat, by omega⟩
    refine W_seq ?_
    refine W_region ?_
    refine WL_val rfl rfl rfl (by exact rMoveI rfl rfl) ?_
    refine WL_val rfl rfl rfl (by exact rConv_u64s rfl Tryz.underlying2 Tryz.underlying176 rfl (by omega)) ?_
    refine WL_val rfl rfl rfl (by exact rAsgnI rfl rfl) ?_
    refine WL_nil ?_
    refine W_seq ?_
    refine W_seq ?_
    refine W_region ?_
    refine WL_val rfl rfl rfl (by exact rMoveI rfl rfl) ?_
    refine WL_val rfl rfl rfl (by exact rLssF rfl rfl rfl (by omega)) ?_
    refine WL_nil ?_
    refine W_cond false rfl ?_
    refine W_skip ?_
    have e : l ++ itoa36 (m : Int) = l ++ dig m := by unfold itoa36; rw [if_neg hneg]; simp
    rw [e]
    refine W_seq ?_
    refine W_region ?_
    refine WL_val rfl rfl rfl (by exact rMoveS rfl rfl) ?_
    refine WL_val rfl rfl rfl (by exact rMoveI rfl rfl) ?_
    refine WL_val rfl rfl rfl (by exact rMoveI rfl rfl) ?_
    refine WL_call rfl rfl rfl (rCall (vs := [.slice _ _ _, .int .u64 _, .int .i64 _]) rfl Tryz.func89 rfl rfl rfl) ?_
    refine (appU_any base A c l m _ (hI.ok _ (by simp)) (by omega) (by omega) (by have := hI.chg.size; omega)).mono ?_
    rintro e w1 ⟨A', c', rfl, hT⟩
    refine ⟨_, rfl, ?_⟩
    replace hI := hI.turn1 hT
    refine WL_val rfl rfl rfl (by exact rAsgnS rfl rfl) ?_
    refine WL_nil ?_
    refine W_ret ?_
    exact ret1 6 (.inr rfl) rfl ⟨A', c', rfl, hI⟩
theorem appP_any (base : Nat) (A : Option Addr) (c : Nat) (l : List Nat) (n : Int) (w0 : World) (hR : (BytE base A c l).ok w0) (hn : i64B n) (hl : l.length ≤ 999999) (hb : base ≤ w0.heap.size) :
    Calls Tryz.prog 76 #[.slice A l.length c, .int .i64 n, .int .i64 36] w0 fun en w' => ∃ A' c', en = .returned (.slice A' (l ++ itoa36 n).length c') ∧ Inv (BytE base A c l).D w0 w' [BytE base A' c' (l ++ itoa36 n)] := by
  have hI := Inv.ownE hR
  refine calls_of_W (N := Tryz.f76.ntmps) Tryz.func76 rfl rfl rfl ?_
  refine W_seq ?_
  refine W_region ?_
  refine WL_val rfl rfl rfl (by exact rAsgnS rfl rfl) ?_
  refine WL_nil ?_
  refine W_seq ?_
  refine W_region ?_
  refine WL_val rfl rfl rfl (by exact rMoveS rfl rfl) ?_
  refine WL_val rfl rfl rfl (by exact rMoveI rfl rfl) ?_
  refine WL_val rfl rfl rfl (by exact rMoveI rfl rfl) ?_
  refine WL_call rfl rfl rfl (rCall (vs := [.slice _ _ _, .int .i64 _, .int .i64 _]) rfl Tryz.func85 rfl rfl rfl) ?_
  refine (appI_any base A c l n _ (hI.ok _ (by simp)) hn hl hb).mono ?_
  rintro e w1 ⟨A', c', rfl, hT⟩
  refine ⟨_, rfl, ?_⟩
  replace hI := hI.turn1 hT
  refine WL_val rfl rfl rfl (by exact rAsgnS rfl rfl) ?_
  refine WL_nil ?_
  refine W_ret ?_
  exact ret1 6 (.inr rfl) rfl ⟨A', c', rfl, hI⟩
theorem digs_len : ∀ (f u : Nat) (acc : List Nat), (digs36 f u acc).length ≤ acc.length + f + 1
  | 0, u, acc => by simp [digs36]
  | f + 1, u, acc => by
    rw [digs36]
    split
    · simp
    · have := digs_len f (u / 36) (dig36 (u % 36) :: acc)
      simp at this ⊢
      omega
theorem itoa_len (n : Int) : (itoa36 n).length ≤ 15 := by
  have h : ∀ u, (dig u).length ≤ 14 := fun u => digs_len 13 u []
  have := h n.natAbs
  unfold itoa36
  split
  · simp; omega
  · omega
end Go.Proofs.YtglioflpblpmpaaGreatDoor
namespace Go.Proofs.YtglioflpblpmpaaGreatDoor
open Go.RowKit
set_option linter.unusedVariables false
set_option linter.unusedSimpArgs false
def allB (l : List Op8) (dn : Nat → Bool) : Prop := ∀ i, i < l.length → 0 ≤ (oAt l i).ret → dn i = true
set_option maxHeartbeats 2000000 in
theorem sall_any (sb : Nat) (A : Option Addr) (c : Nat) (l : List Op8) (db : Nat) (dn : Nat → Bool) (D : Nat → Prop) (w0 : World) (h : OpsR w0 D (.slice A l.length c) l) (h1 : w0.cell? ⟨sb, 1, none⟩ = some (.slice A l.length c)) (h4 : w0.cell? ⟨sb, 4, none⟩ = some (.slice (some ⟨db, 0, none⟩) l.length l.length)) (hd : Blk w0 db 4 (boolC l.length dn)) (hl : l.length ≤ 1000) :
    Calls Tryz.prog 59 #[.pointer (some ⟨sb, 0, none⟩)] w0 fun en w' => (∃ b : Bool, en = .returned (.bool b) ∧ (b = true ↔ allB l dn)) ∧ Pure w0 w' := by
  have hI := Inv.start (fun _ => False) w0
  refine calls_of_W (N := Tryz.f59.ntmps) Tryz.func59 rfl rfl rfl ?_
  refine W_seq ?_
  refine W_region ?_
  refine WL_val rfl rfl rfl (by exact rAsgnB rfl rfl) ?_
  refine WL_nil ?_
  refine W_seq ?_
  refine W_seq ?_
  refine W_region ?_
  refine WL_val rfl rfl rfl (by exact rMoveP rfl rfl) ?_
  refine WL_val rfl rfl rfl (rNilChk rfl rfl) ?_
  refine WL_val rfl rfl rfl (by exact rFldN (off := 1) rfl (by kernel_rfl) rfl) ?_
  refine WL_val rfl rfl rfl (by exact rLd (v := .slice _ _ _) rfl (by kernel_rfl) rfl (by exact hI.oldp h1)) ?_
  refine WL_val rfl rfl rfl (rLen rfl Tryz.underlying32 rfl) ?_
  refine WL_val rfl rfl rfl (by exact rMoveI rfl rfl) ?_
  refine WL_nil ?_
  refine W_block ?_
  refine W_loopN (fun mu ρ w => ∃ k : Nat, mu = l.length - k ∧ k ≤ l.length ∧ (∀ i, i < k → 0 ≤ (oAt l i).ret → dn i = true) ∧ Has ρ [(10, .int .i64 (k : Int)), (9, .int .i64 (l.length : Int)), (8, .slice A l.length c), (0, .pointer (some ⟨sb, 0, none⟩))] ∧ Inv (fun _ => False) w0 w []) l.length
    ⟨0, rfl, by omega, fun j hj => by omega, ⟨rfl, rfl, rfl, rfl, trivial⟩, hI⟩ ?_
  clear hI
  rintro mu ρ w ⟨k, rfl, hkk, hall, hH, hI⟩
  obtain ⟨σ, rfl⟩ := hH.open
  by_cases hkl : k < l.length
  rotate_left
  · obtain rfl : k = l.length := by omega
    refine W_seq ?_
    refine W_region ?_
    refine WL_val rfl rfl rfl (by exact rLssF rfl rfl rfl (by omega)) ?_
    refine WL_nil ?_
    refine W_seq ?_
    refine W_cond false rfl ?_
    refine W_exit ?_
    refine W_seq ?_
    refine W_region ?_
    refine WL_val rfl rfl rfl (by exact rAsgnB rfl rfl) ?_
    refine WL_nil ?_
    refine W_ret ?_
    exact ret1 2 (.inr rfl) rfl ⟨⟨true, rfl, by simp; exact hall⟩, hI.pu⟩
  obtain ⟨ab, ao, rfl, hoc⟩ := h.at hkl
  have hdg := (hd.cell k).trans (boolC_get (n := l.length) dn hkl)
  generalize hpk : oAt l k = pk at hoc
  obtain ⟨p0, p1, p2, p3, p4, p5, p6, p7⟩ := pk
  have hnext : (0 ≤ p7 → dn k = true) → ∀ i, i < k + 1 → 0 ≤ (oAt l i).ret → dn i = true := fun hb j hj => by
    rcases Nat.lt_or_ge j k with h1 | h1
    · exact hall j h1
    · obtain rfl : j = k := by omega
      rw [hpk]; exact hb
  refine W_seq ?_
  refine W_region ?_
  refine WL_val rfl rfl rfl (by exact rLssT rfl rfl rfl (by omega)) ?_
  refine WL_nil ?_
  refine W_seq ?_
  refine W_cond true rfl ?_
  refine W_skip ?_
  refine W_seq ?_
  refine W_block ?_
  refine W_seq ?_
  refine W_region ?_
  refine WL_val rfl rfl rfl (by exact rMoveI rfl rfl) ?_
  refine WL_val rfl rfl rfl (rIdx (sz := 8) rfl Tryz.underlying32 (by kernel_rfl) rfl rfl (by omega)) ?_
  refine WL_val rfl rfl rfl (by exact rLdA (n := 8) rfl (by kernel_rfl) (by kernel_rfl) rfl (by rfl) (fun k u hk => hI.oldp (hoc k u hk))) ?_
  refine WL_alloc (u := .agg #[.int .i64 0, .int .i64 0, .int .i64 0, .int .i64 0, .int .i64 0, .int .i64 0, .int .i64 0, .int .i64 0]) (vs := #[.int .i64 0, .int .i64 0, .int .i64 0, .int .i64 0, .int .i64 0, .int .i64 0, .int .i64 0, .int .i64 0]) hI rfl rfl rfl rfl (by kernel_rfl) rfl ?_
  clear hI; rintro b4 w - - hI
  refine WL_val rfl rfl rfl (by exact rAsgnI rfl rfl) ?_
  refine WL_stw0 (u := .agg _) (vs := #[_, _, _, _, _, _, _, _]) (n := 8) hI rfl rfl rfl rfl rfl rfl (by kernel_rfl) rfl rfl rfl ?_
  clear hI; intro w hI
  refine WL_nil ?_
  simp only [opV] at hI
  by_cases hr0 : 0 ≤ p7
  · cases hdn : dn k with
    | true =>
      rw [hdn] at hdg
      refine W_seq ?_
      refine W_region ?_
      refine WL_val rfl rfl rfl (by exact rFldN (off := 7) rfl (by kernel_rfl) rfl) ?_
      refine WL_val rfl rfl rfl (by exact rLd (v := .int .i64 _) rfl (by kernel_rfl) rfl (by exact hI.c0 rfl)) ?_
      refine WL_val rfl rfl rfl (by exact rGeqT rfl rfl rfl (by omega)) ?_
      refine WL_val rfl rfl rfl (by exact rMoveB rfl rfl) ?_
      refine WL_val rfl rfl rfl (by exact rMoveP rfl rfl) ?_
      refine WL_val rfl rfl rfl (rNilChk rfl rfl) ?_
      refine WL_val rfl rfl rfl (by exact rFldN (off := 4) rfl (by kernel_rfl) rfl) ?_
      refine WL_val rfl rfl rfl (by exact rLd (v := .slice _ _ _) rfl (by kernel_rfl) rfl (by exact hI.oldp h4)) ?_
      refine WL_val rfl rfl rfl (by exact rMoveI rfl rfl) ?_
      refine WL_val rfl rfl rfl (by exact rIdx0 rfl Tryz.underlying55 (by kernel_rfl) rfl rfl rfl (by omega)) ?_
      refine WL_val rfl rfl rfl (by exact rLd (v := .bool _) rfl (by kernel_rfl) rfl (by exact hI.oldp hdg)) ?_
      refine WL_val rfl rfl rfl (by exact rNotT rfl rfl) ?_
      refine WL_val rfl rfl rfl (by exact rPickTB rfl rfl rfl) ?_
      refine WL_nil ?_
      refine W_cond false rfl ?_
      refine W_skip ?_
      replace hI := hI.d0
      refine W_region ?_
      refine WL_val rfl rfl rfl (by exact rInc rfl rfl rfl (by omega)) ?_
      refine WL_val rfl rfl rfl (by exact rMoveI rfl rfl) ?_
      refine WL_nil ?_
      exact ⟨l.length - (k + 1), by omega, k + 1, rfl, by omega, hnext (fun _ => hdn), ⟨rfl, rfl, rfl, rfl, trivial⟩, hI⟩
    | false =>
      rw [hdn] at hdg
      refine W_seq ?_
      refine W_region ?_
      refine WL_val rfl rfl rfl (by exact rFldN (off := 7) rfl (by kernel_rfl) rfl) ?_
      refine WL_val rfl rfl rfl (by exact rLd (v := .int .i64 _) rfl (by kernel_rfl) rfl (by exact hI.c0 rfl)) ?_
      refine WL_val rfl rfl rfl (by exact rGeqT rfl rfl rfl (by omega)) ?_
      refine WL_val rfl rfl rfl (by exact rMoveB rfl rfl) ?_
      refine WL_val rfl rfl rfl (by exact rMoveP rfl rfl) ?_
      refine WL_val rfl rfl rfl (rNilChk rfl rfl) ?_
      refine WL_val rfl rfl rfl (by exact rFldN (off := 4) rfl (by kernel_rfl) rfl) ?_
      refine WL_val rfl rfl rfl (by exact rLd (v := .slice _ _ _) rfl (by kernel_rfl) rfl (by exact hI.oldp h4)) ?_
      refine WL_val rfl rfl rfl (by exact rMoveI rfl rfl) ?_
      refine WL_val rfl rfl rfl (by exact rIdx0 rfl Tryz.underlying55 (by kernel_rfl) rfl rfl rfl (by omega)) ?_
      refine WL_val rfl rfl rfl (by exact rLd (v := .bool _) rfl (by kernel_rfl) rfl (by exact hI.oldp hdg)) ?_
      refine WL_val rfl rfl rfl (by exact rNotF rfl rfl) ?_
      refine WL_val rfl rfl rfl (by exact rPickTB rfl rfl rfl) ?_
      refine WL_nil ?_
      refine W_cond true rfl ?_
      refine W_seq ?_
      refine W_region ?_
      refine WL_val rfl rfl rfl (by exact rAsgnB rfl rfl) ?_
      refine WL_nil ?_
      refine W_ret ?_
      exact ret1 2 (.inr rfl) rfl ⟨⟨false, rfl, by simp; exact fun hs => by have := hs k hkl (by rw [hpk]; exact hr0); rw [hdn] at this; cases this⟩, hI.pu⟩
  · refine W_seq ?_
    refine W_region ?_
    refine WL_val rfl rfl rfl (by exact rFldN (off := 7) rfl (by kernel_rfl) rfl) ?_
    refine WL_val rfl rfl rfl (by exact rLd (v := .int .i64 _) rfl (by kernel_rfl) rfl (by exact hI.c0 rfl)) ?_
    refine WL_val rfl rfl rfl (by exact rGeqF rfl rfl rfl (by omega)) ?_
    refine WL_val rfl rfl rfl (by exact rMoveB rfl rfl) ?_
    refine WL_skip rfl rfl rfl ?_
    refine WL_skip rfl rfl rfl ?_
    refine WL_skip rfl rfl rfl ?_
    refine WL_skip rfl rfl rfl ?_
    refine WL_skip rfl rfl rfl ?_
    refine WL_skip rfl rfl rfl ?_
    refine WL_skip rfl rfl rfl ?_
    refine WL_skip rfl rfl rfl ?_
    refine WL_val rfl rfl rfl (by exact rPickFB rfl rfl rfl) ?_
    refine WL_nil ?_
    refine W_cond false rfl ?_
    refine W_skip ?_
    replace hI := hI.d0
    refine W_region ?_
    refine WL_val rfl rfl rfl (by exact rInc rfl rfl rfl (by omega)) ?_
    refine WL_val rfl rfl rfl (by exact rMoveI rfl rfl) ?_
    refine WL_nil ?_
    exact ⟨l.length - (k + 1), by omega, k + 1, rfl, by omega, hnext (fun e => absurd e hr0), ⟨rfl, rfl, rfl, rfl, trivial⟩, hI⟩
end Go.Proofs.YtglioflpblpmpaaGreatDoor
namespace Go.Proofs.YtglioflpblpmpaaGreatDoor
open Go.RowKit
set_option linter.unusedVariables false
set_option linter.unusedSimpArgs false
/-- A function that says whether an op must be done ahead of another one. -/
structure AheadC (f : FuncId) (ab : Op8 → Op8 → Bool) : Prop where
  fn : ∃ fn : Func, Tryz.prog.funcs[f]? = some fn ∧ (fn.name == "runtime.NumGoroutine") = false ∧ fn.body.isNone = false
  calls : ∀ p q W, Calls Tryz.prog f #[.agg (opV p).toArray, .agg (opV q).toArray] W fun en w' => en = .returned (.bool (ab p q)) ∧ Pure W w'
def nextB (l : List Op8) (ab : Op8 → Op8 → Bool) (dn : Nat → Bool) (i : Nat) : Prop := dn i = false ∧ ∀ k, k < l.length → k ≠ i → dn k = false → ab (oAt l k) (oAt l i) = false
set_option maxHeartbeats 4000000 in
theorem snext_any (sb : Nat) (A : Option Addr) (c : Nat) (l : List Op8) (db f : Nat) (ab : Op8 → Op8 → Bool) (dn : Nat → Bool) (i : Nat) (D : Nat → Prop) (w0 : World) (h : OpsR w0 D (.slice A l.length c) l) (h1 : w0.cell? ⟨sb, 1, none⟩ = some (.slice A l.length c)) (h3 : w0.cell? ⟨sb, 3, none⟩ = some (.func (.func f) #[] #[])) (h4 : w0.cell? ⟨sb, 4, none⟩ = some (.slice (some ⟨db, 0, none⟩) l.length l.length)) (hd : Blk w0 db 4 (boolC l.length dn)) (hl : l.length ≤ 1000) (hi : i < l.length) (hf : AheadC f ab) :
    Calls Tryz.prog 61 #[.pointer (some ⟨sb, 0, none⟩), .int .i64 (i : Int)] w0 fun en w' => (∃ b : Bool, en = .returned (.bool b) ∧ (b = true ↔ nextB l ab dn i)) ∧ Pure w0 w' := by
  obtain ⟨⟨fn, f1, f2, f3⟩, hcall⟩ := hf
  have hI := Inv.start (fun _ => False) w0
  have hdi := (hd.cell i).trans (boolC_get (n := l.length) dn hi)
  refine calls_of_W (N := Tryz.f61.ntmps) Tryz.func61 rfl rfl rfl ?_
  refine W_seq ?_
  refine W_region ?_
  refine WL_val rfl rfl rfl (by exact rAsgnB rfl rfl) ?_
  refine WL_nil ?_
  cases hdn0 : dn i with
  | true =>
    rw [hdn0] at hdi
    refine W_seq ?_
    refine W_seq ?_
    refine W_region ?_
    refine WL_val rfl rfl rfl (by exact rMoveP rfl rfl) ?_
    refine WL_val rfl rfl rfl (rNilChk rfl rfl) ?_
    refine WL_val rfl rfl rfl (by exact rFldN (off := 4) rfl (by kernel_rfl) rfl) ?_
    refine WL_val rfl rfl rfl (by exact rLd (v := .slice _ _ _) rfl (by kernel_rfl) rfl (by exact hI.oldp h4)) ?_
    refine WL_val rfl rfl rfl (by exact rMoveI rfl rfl) ?_
    refine WL_val rfl rfl rfl (by exact rIdx0 rfl Tryz.underlying55 (by kernel_rfl) rfl rfl rfl (by omega)) ?_
    refine WL_val rfl rfl rfl (by exact rLd (v := .bool _) rfl (by kernel_rfl) rfl (by exact hI.oldp hdi)) ?_
    refine WL_nil ?_
    refine W_cond true rfl ?_
    refine W_seq ?_
    refine W_region ?_
    refine WL_val rfl rfl rfl (by exact rAsgnB rfl rfl) ?_
    refine WL_nil ?_
    refine W_ret ?_
    exact ret1 4 (.inr rfl) rfl ⟨⟨false, rfl, by simp; exact fun hs => by have := hs.1; rw [hdn0] at this; cases this⟩, hI.pu⟩
  | false =>
  rw [hdn0] at hdi
  refine W_seq ?_
  refine W_seq ?_
  refine W_region ?_
  refine WL_val rfl rfl rfl (by exact rMoveP rfl rfl) ?_
  refine WL_val rfl rfl rfl (rNilChk rfl rfl) ?_
  refine WL_val rfl rfl rfl (by exact rFldN (off := 4) rfl (by kernel_rfl) rfl) ?_
  refine WL_val rfl rfl rfl (by exact rLd (v := .slice _ _ _) rfl (by kernel_rfl) rfl (by exact hI.oldp h4)) ?_
  refine WL_val rfl rfl rfl (by exact rMoveI rfl rfl) ?_
  refine WL_val rfl rfl rfl (by exact rIdx0 rfl Tryz.underlying55 (by kernel_rfl) rfl rfl rfl (by omega)) ?_
  refine WL_val rfl rfl rfl (by exact rLd (v := .bool _) rfl (by kernel_rfl) rfl (by exact hI.oldp hdi)) ?_
  refine WL_nil ?_
  refine W_cond false rfl ?_
  refine W_skip ?_
  refine W_seq ?_
  refine W_seq ?_
  refine W_region ?_
  refine WL_val rfl rfl rfl (by exact rMoveP rfl rfl) ?_
  refine WL_val rfl rfl rfl (rNilChk rfl rfl) ?_
  refine WL_val rfl rfl rfl (by exact rFldN (off := 1) rfl (by kernel_rfl) rfl) ?_
  refine WL_val rfl rfl rfl (by exact rLd (v := .slice _ _ _) rfl (by kernel_rfl) rfl (by exact hI.oldp h1)) ?_
  refine WL_val rfl rfl rfl (rLen rfl Tryz.underlying32 rfl) ?_
  refine WL_val rfl rfl rfl (by exact rMoveI rfl rfl) ?_
  refine WL_nil ?_
  refine W_block ?_
  refine W_loopN (fun mu ρ w => ∃ k : Nat, mu = l.length - k ∧ k ≤ l.length ∧ (∀ j, j < k → j ≠ i → dn j = false → ab (oAt l j) (oAt l i) = false) ∧ Has ρ [(19, .int .i64 (k : Int)), (18, .int .i64 (l.length : Int)), (17, .slice A l.length c), (0, .pointer (some ⟨sb, 0, none⟩)), (1, .int .i64 (i : Int))] ∧ Inv (fun _ => False) w0 w []) l.length
    ⟨0, rfl, by omega, fun j hj => by omega, ⟨rfl, rfl, rfl, rfl, rfl, trivial⟩, hI⟩ ?_
  clear hI
  rintro mu ρ w ⟨k, rfl, hkk, hall, hH, hI⟩
  obtain ⟨σ, rfl⟩ := hH.open
  by_cases hkl : k < l.length
  rotate_left
  · obtain rfl : k = l.length := by omega
    refine W_seq ?_
    refine W_region ?_
    refine WL_val rfl rfl rfl (by exact rLssF rfl rfl rfl (by omega)) ?_
    refine WL_nil ?_
    refine W_seq ?_
    refine W_cond false rfl ?_
    refine W_exit ?_
    refine W_seq ?_
    refine W_region ?_
    refine WL_val rfl rfl rfl (by exact rAsgnB rfl rfl) ?_
    refine WL_nil ?_
    refine W_ret ?_
    exact ret1 4 (.inr rfl) rfl ⟨⟨true, rfl, by simp; exact ⟨hdn0, hall⟩⟩, hI.pu⟩
  obtain ⟨bA, oA, rfl, hoc⟩ := h.at hkl
  obtain ⟨bA', oA', hae, hoci⟩ := h.at hi
  injection hae with hae
  injection hae with e1 e2
  subst e1 e2
  have hdg := (hd.cell k).trans (boolC_get (n := l.length) dn hkl)
  have hnext : (k ≠ i → dn k = false → ab (oAt l k) (oAt l i) = false) → ∀ j, j < k + 1 → j ≠ i → dn j = false → ab (oAt l j) (oAt l i) = false := fun hb j hj => by
    rcases Nat.lt_or_ge j k with h1 | h1
    · exact hall j h1
    · obtain rfl : j = k := by omega
      exact hb
  refine W_seq ?_
  refine W_region ?_
  refine WL_val rfl rfl rfl (by exact rLssT rfl rfl rfl (by omega)) ?_
  refine WL_nil ?_
  refine W_seq ?_
  refine W_cond true rfl ?_
  refine W_skip ?_
  refine W_seq ?_
  refine W_block ?_
  refine W_seq ?_
  refine W_region ?_
  refine WL_val rfl rfl rfl (by exact rMoveI rfl rfl) ?_
  refine WL_val rfl rfl rfl (rIdx (sz := 8) rfl Tryz.underlying32 (by kernel_rfl) rfl rfl (by omega)) ?_
  refine WL_val rfl rfl rfl (by exact rLdA (n := 8) rfl (by kernel_rfl) (by kernel_rfl) rfl (by rfl) (fun k u hk => hI.oldp (hoc k u hk))) ?_
  refine WL_alloc (u := .agg #[.int .i64 0, .int .i64 0, .int .i64 0, .int .i64 0, .int .i64 0, .int .i64 0, .int .i64 0, .int .i64 0]) (vs := #[.int .i64 0, .int .i64 0, .int .i64 0, .int .i64 0, .int .i64 0, .int .i64 0, .int .i64 0, .int .i64 0]) hI rfl rfl rfl rfl (by kernel_rfl) rfl ?_
  clear hI; rintro b6 w - - hI
  refine WL_val rfl rfl rfl (by exact rAsgnI rfl rfl) ?_
  refine WL_stw0 (u := .agg _) (vs := #[_, _, _, _, _, _, _, _]) (n := 8) hI rfl rfl rfl rfl rfl rfl (by kernel_rfl) rfl rfl rfl ?_
  clear hI; intro w hI
  refine WL_nil ?_
  by_cases hki : k = i
  · refine W_seq ?_
    refine W_draw (by kernel_rfl) ?_
    refine WA_inv (T := []) hI.drew ?_
    intro Sx hSx hXS
    replace hI := hI.drew
    refine WT_take 0 rfl rfl (by kernel_rfl) (hXS _ hI) rfl (fun W hW => have hI := hSx W hW; (by exact rMoveI rfl rfl)) ?_
    refine WT_take 1 rfl rfl (by kernel_rfl) (hXS _ hI) rfl (fun W hW => have hI := hSx W hW; (by exact rMoveI rfl rfl)) ?_
    refine WT_take 2 rfl rfl (by kernel_rfl) (hXS _ hI) rfl (fun W hW => have hI := hSx W hW; (by exact rNeqF rfl rfl rfl (by omega))) ?_
    refine WT_take 3 rfl rfl (by kernel_rfl) (hXS _ hI) rfl (fun W hW => have hI := hSx W hW; (by exact rMoveB rfl rfl)) ?_
    refine WT_skip 4 rfl rfl (by kernel_rfl) (hXS _ hI) rfl ?_
    refine WT_skip 5 rfl rfl (by kernel_rfl) (hXS _ hI) rfl ?_
    refine WT_skip 6 rfl rfl (by kernel_rfl) (hXS _ hI) rfl ?_
    refine WT_skip 7 rfl rfl (by kernel_rfl) (hXS _ hI) rfl ?_
    refine WT_skip 8 rfl rfl (by kernel_rfl) (hXS _ hI) rfl ?_
    refine WT_skip 9 rfl rfl (by kernel_rfl) (hXS _ hI) rfl ?_
    refine WT_skip 10 rfl rfl (by kernel_rfl) (hXS _ hI) rfl ?_
    refine WT_skip 11 rfl rfl (by kernel_rfl) (hXS _ hI) rfl ?_
    refine WT_take 12 rfl rfl (by kernel_rfl) (hXS _ hI) rfl (fun W hW => have hI := hSx W hW; (by exact rPickFB rfl rfl rfl)) ?_
    refine WT_take 13 rfl rfl (by kernel_rfl) (hXS _ hI) rfl (fun W hW => have hI := hSx W hW; (by exact rMoveB rfl rfl)) ?_
    refine WT_skip 14 rfl rfl (by kernel_rfl) (hXS _ hI) rfl ?_
    refine WT_skip 15 rfl rfl (by kernel_rfl) (hXS _ hI) rfl ?_
    refine WT_skip 16 rfl rfl (by kernel_rfl) (hXS _ hI) rfl ?_
    refine WT_skip 17 rfl rfl (by kernel_rfl) (hXS _ hI) rfl ?_
    refine WT_skip 18 rfl rfl (by kernel_rfl) (hXS _ hI) rfl ?_
    refine WT_skip 19 rfl rfl (by kernel_rfl) (hXS _ hI) rfl ?_
    refine WT_skip 20 rfl rfl (by kernel_rfl) (hXS _ hI) rfl ?_
    refine WT_skip 21 rfl rfl (by kernel_rfl) (hXS _ hI) rfl ?_
    refine WT_skip 22 rfl rfl (by kernel_rfl) (hXS _ hI) rfl ?_
    refine WT_skip 23 rfl rfl (by kernel_rfl) (hXS _ hI) rfl ?_
    refine WT_skip 24 rfl rfl (by kernel_rfl) (hXS _ hI) rfl ?_
    refine WT_skip 25 rfl rfl (by kernel_rfl) (hXS _ hI) rfl ?_
    refine WT_skip 26 rfl rfl (by kernel_rfl) (hXS _ hI) rfl ?_
    refine WT_take 27 rfl rfl (by kernel_rfl) (hXS _ hI) rfl (fun W hW => have hI := hSx W hW; (by exact rPickFB rfl rfl rfl)) ?_
    refine WT_end (by kernel_rfl) ?_
    refine W_cond false rfl ?_
    refine W_skip ?_
    replace hI := hI.d0
    refine W_region ?_
    refine WL_val rfl rfl rfl (by exact rInc rfl rfl rfl (by omega)) ?_
    refine WL_val rfl rfl rfl (by exact rMoveI rfl rfl) ?_
    refine WL_nil ?_
    exact ⟨l.length - (k + 1), by omega, k + 1, rfl, by omega, hnext (fun e => absurd hki e), ⟨rfl, rfl, rfl, rfl, rfl, trivial⟩, hI⟩
  cases hdnk : dn k with
  | true =>
    rw [hdnk] at hdg
    refine W_seq ?_
    refine W_draw (by kernel_rfl) ?_
    refine WA_inv (T := []) hI.drew ?_
    intro Sx hSx hXS
    replace hI := hI.drew
    refine WT_take 0 rfl rfl (by kernel_rfl) (hXS _ hI) rfl (fun W hW => have hI := hSx W hW; (by exact rMoveI rfl rfl)) ?_
    refine WT_take 1 rfl rfl (by kernel_rfl) (hXS _ hI) rfl (fun W hW => have hI := hSx W hW; (by exact rMoveI rfl rfl)) ?_
    refine WT_take 2 rfl rfl (by kernel_rfl) (hXS _ hI) rfl (fun W hW => have hI := hSx W hW; (by exact rNeqT rfl rfl rfl (by omega))) ?_
    refine WT_take 3 rfl rfl (by kernel_rfl) (hXS _ hI) rfl (fun W hW => have hI := hSx W hW; (by exact rMoveB rfl rfl)) ?_
    refine WT_take 4 rfl rfl (by kernel_rfl) (hXS _ hI) rfl (fun W hW => have hI := hSx W hW; (by exact rMoveP rfl rfl)) ?_
    refine WT_take 5 rfl rfl (by kernel_rfl) (hXS _ hI) rfl (fun W hW => have hI := hSx W hW; (rNilChk rfl rfl)) ?_
    refine WT_take 6 rfl rfl (by kernel_rfl) (hXS _ hI) rfl (fun W hW => have hI := hSx W hW; (by exact rFldN (off := 4) rfl (by kernel_rfl) rfl)) ?_
    refine WT_take 7 rfl rfl (by kernel_rfl) (hXS _ hI) rfl (fun W hW => have hI := hSx W hW; (by exact rLd (v := .slice _ _ _) rfl (by kernel_rfl) rfl (by exact hI.oldp h4))) ?_
    refine WT_take 8 rfl rfl (by kernel_rfl) (hXS _ hI) rfl (fun W hW => have hI := hSx W hW; (by exact rMoveI rfl rfl)) ?_
    refine WT_take 9 rfl rfl (by kernel_rfl) (hXS _ hI) rfl (fun W hW => have hI := hSx W hW; (by exact rIdx0 rfl Tryz.underlying55 (by kernel_rfl) rfl rfl rfl (by omega))) ?_
    refine WT_take 10 rfl rfl (by kernel_rfl) (hXS _ hI) rfl (fun W hW => have hI := hSx W hW; (by exact rLd (v := .bool _) rfl (by kernel_rfl) rfl (by exact hI.oldp hdg))) ?_
    refine WT_take 11 rfl rfl (by kernel_rfl) (hXS _ hI) rfl (fun W hW => have hI := hSx W hW; (by exact rNotT rfl rfl)) ?_
    refine WT_take 12 rfl rfl (by kernel_rfl) (hXS _ hI) rfl (fun W hW => have hI := hSx W hW; (by exact rPickTB rfl rfl rfl)) ?_
    refine WT_take 13 rfl rfl (by kernel_rfl) (hXS _ hI) rfl (fun W hW => have hI := hSx W hW; (by exact rMoveB rfl rfl)) ?_
    refine WT_skip 14 rfl rfl (by kernel_rfl) (hXS _ hI) rfl ?_
    refine WT_skip 15 rfl rfl (by kernel_rfl) (hXS _ hI) rfl ?_
    refine WT_skip 16 rfl rfl (by kernel_rfl) (hXS _ hI) rfl ?_
    refine WT_skip 17 rfl rfl (by kernel_rfl) (hXS _ hI) rfl ?_
    refine WT_skip 18 rfl rfl (by kernel_rfl) (hXS _ hI) rfl ?_
    refine WT_skip 19 rfl rfl (by kernel_rfl) (hXS _ hI) rfl ?_
    refine WT_skip 20 rfl rfl (by kernel_rfl) (hXS _ hI) rfl ?_
    refine WT_skip 21 rfl rfl (by kernel_rfl) (hXS _ hI) rfl ?_
    refine WT_skip 22 rfl rfl (by kernel_rfl) (hXS _ hI) rfl ?_
    refine WT_skip 23 rfl rfl (by kernel_rfl) (hXS _ hI) rfl ?_
    refine WT_skip 24 rfl rfl (by kernel_rfl) (hXS _ hI) rfl ?_
    refine WT_skip 25 rfl rfl (by kernel_rfl) (hXS _ hI) rfl ?_
    refine WT_skip 26 rfl rfl (by kernel_rfl) (hXS _ hI) rfl ?_
    refine WT_take 27 rfl rfl (by kernel_rfl) (hXS _ hI) rfl (fun W hW => have hI := hSx W hW; (by exact rPickFB rfl rfl rfl)) ?_
    refine WT_end (by kernel_rfl) ?_
    refine W_cond false rfl ?_
    refine W_skip ?_
    replace hI := hI.d0
    refine W_region ?_
    refine WL_val rfl rfl rfl (by exact rInc rfl rfl rfl (by omega)) ?_
    refine WL_val rfl rfl rfl (by exact rMoveI rfl rfl) ?_
    refine WL_nil ?_
    exact ⟨l.length - (k + 1), by omega, k + 1, rfl, by omega, hnext (fun _ e => by rw [hdnk] at e; cases e), ⟨rfl, rfl, rfl, rfl, rfl, trivial⟩, hI⟩
  | false =>
    rw [hdnk] at hdg
    cases hab : ab (oAt l k) (oAt l i) with
    | true =>
      refine W_seq ?_
      refine W_draw (by kernel_rfl) ?_
      refine WA_inv (T := []) hI.drew ?_
      intro Sx hSx hXS
      replace hI := hI.drew
      refine WT_take 0 rfl rfl (by kernel_rfl) (hXS _ hI) rfl (fun W hW => have hI := hSx W hW; (by exact rMoveI rfl rfl)) ?_
      refine WT_take 1 rfl rfl (by kernel_rfl) (hXS _ hI) rfl (fun W hW => have hI := hSx W hW; (by exact rMoveI rfl rfl)) ?_
      refine WT_take 2 rfl rfl (by kernel_rfl) (hXS _ hI) rfl (fun W hW => have hI := hSx W hW; (by exact rNeqT rfl rfl rfl (by omega))) ?_
      refine WT_take 3 rfl rfl (by kernel_rfl) (hXS _ hI) rfl (fun W hW => have hI := hSx W hW; (by exact rMoveB rfl rfl)) ?_
      refine WT_take 4 rfl rfl (by kernel_rfl) (hXS _ hI) rfl (fun W hW => have hI := hSx W hW; (by exact rMoveP rfl rfl)) ?_
      refine WT_take 5 rfl rfl (by kernel_rfl) (hXS _ hI) rfl (fun W hW => have hI := hSx W hW; (rNilChk rfl rfl)) ?_
      refine WT_take 6 rfl rfl (by kernel_rfl) (hXS _ hI) rfl (fun W hW => have hI := hSx W hW; (by exact rFldN (off := 4) rfl (by kernel_rfl) rfl)) ?_
      refine WT_take 7 rfl rfl (by kernel_rfl) (hXS _ hI) rfl (fun W hW => have hI := hSx W hW; (by exact rLd (v := .slice _ _ _) rfl (by kernel_rfl) rfl (by exact hI.oldp h4))) ?_
      refine WT_take 8 rfl rfl (by kernel_rfl) (hXS _ hI) rfl (fun W hW => have hI := hSx W hW; (by exact rMoveI rfl rfl)) ?_
      refine WT_take 9 rfl rfl (by kernel_rfl) (hXS _ hI) rfl (fun W hW => have hI := hSx W hW; (by exact rIdx0 rfl Tryz.underlying55 (by kernel_rfl) rfl rfl rfl (by omega))) ?_
      refine WT_take 10 rfl rfl (by kernel_rfl) (hXS _ hI) rfl (fun W hW => have hI := hSx W hW; (by exact rLd (v := .bool _) rfl (by kernel_rfl) rfl (by exact hI.oldp hdg))) ?_
      refine WT_take 11 rfl rfl (by kernel_rfl) (hXS _ hI) rfl (fun W hW => have hI := hSx W hW; (by exact rNotF rfl rfl)) ?_
      refine WT_take 12 rfl rfl (by kernel_rfl) (hXS _ hI) rfl (fun W hW => have hI := hSx W hW; (by exact rPickTB rfl rfl rfl)) ?_
      refine WT_take 13 rfl rfl (by kernel_rfl) (hXS _ hI) rfl (fun W hW => have hI := hSx W hW; (by exact rMoveB rfl rfl)) ?_
      refine WT_take 14 rfl rfl (by kernel_rfl) (hXS _ hI) rfl (fun W hW => have hI := hSx W hW; (by exact rMoveP rfl rfl)) ?_
      refine WT_take 15 rfl rfl (by kernel_rfl) (hXS _ hI) rfl (fun W hW => have hI := hSx W hW; (rNilChk rfl rfl)) ?_
      refine WT_take 16 rfl rfl (by kernel_rfl) (hXS _ hI) rfl (fun W hW => have hI := hSx W hW; (by exact rFldN (off := 3) rfl (by kernel_rfl) rfl)) ?_
      refine WT_take 17 rfl rfl (by kernel_rfl) (hXS _ hI) rfl (fun W hW => have hI := hSx W hW; (by exact rLd (v := .func _ _ _) rfl (by kernel_rfl) rfl (by exact hI.oldp h3))) ?_
      refine WT_take 18 rfl rfl (by kernel_rfl) (hXS _ hI) rfl (fun W hW => have hI := hSx W hW; (by exact rLdB (n := 8) rfl (by kernel_rfl) (by kernel_rfl) rfl rfl hI.g0)) ?_
      refine WT_take 19 rfl rfl (by kernel_rfl) (hXS _ hI) rfl (fun W hW => have hI := hSx W hW; (by exact rMoveP rfl rfl)) ?_
      refine WT_take 20 rfl rfl (by kernel_rfl) (hXS _ hI) rfl (fun W hW => have hI := hSx W hW; (rNilChk rfl rfl)) ?_
      refine WT_take 21 rfl rfl (by kernel_rfl) (hXS _ hI) rfl (fun W hW => have hI := hSx W hW; (by exact rFldN (off := 1) rfl (by kernel_rfl) rfl)) ?_
      refine WT_take 22 rfl rfl (by kernel_rfl) (hXS _ hI) rfl (fun W hW => have hI := hSx W hW; (by exact rLd (v := .slice _ _ _) rfl (by kernel_rfl) rfl (by exact hI.oldp h1))) ?_
      refine WT_take 23 rfl rfl (by kernel_rfl) (hXS _ hI) rfl (fun W hW => have hI := hSx W hW; (by exact rMoveI rfl rfl)) ?_
      refine WT_take 24 rfl rfl (by kernel_rfl) (hXS _ hI) rfl (fun W hW => have hI := hSx W hW; (rIdx (sz := 8) rfl Tryz.underlying32 (by kernel_rfl) rfl rfl (by omega))) ?_
      refine WT_take 25 rfl rfl (by kernel_rfl) (hXS _ hI) rfl (fun W hW => have hI := hSx W hW; (by exact rLdA (n := 8) rfl (by kernel_rfl) (by kernel_rfl) rfl (by rfl) (fun k u hk => hI.oldp (hoci k u hk)))) ?_
      refine WT_one 26 rfl (by kernel_rfl) rfl ?_
      refine WL_call rfl rfl rfl (rCallF (f := f) (first := []) (cap := []) (vs := [.agg _, .agg _]) rfl rfl f1 f2 f3 rfl) ?_
      refine (hcall (oAt l k) (oAt l i) _).mono ?_
      rw [hab]
      rintro e w1 ⟨rfl, hp⟩
      refine ⟨_, rfl, ?_⟩
      replace hI := hI.pure hp
      refine WL_nil ⟨hXS _ hI, ?_⟩
      refine WT_take 27 rfl rfl (by kernel_rfl) (hXS _ hI) rfl (fun W hW => have hI := hSx W hW; (by exact rPickTB rfl rfl rfl)) ?_
      refine WT_end (by kernel_rfl) ?_
      refine W_cond true rfl ?_
      refine W_seq ?_
      refine W_region ?_
      refine WL_val rfl rfl rfl (by exact rAsgnB rfl rfl) ?_
      refine WL_nil ?_
      refine W_ret ?_
      exact ret1 4 (.inr rfl) rfl ⟨⟨false, rfl, by simp; exact fun hs => by have := hs.2 k hkl hki hdnk; rw [hab] at this; cases this⟩, hI.pu⟩
    | false =>
      refine W_seq ?_
      refine W_draw (by kernel_rfl) ?_
      refine WA_inv (T := []) hI.drew ?_
      intro Sx hSx hXS
      replace hI := hI.drew
      refine WT_take 0 rfl rfl (by kernel_rfl) (hXS _ hI) rfl (fun W hW => have hI := hSx W hW; (by exact rMoveI rfl rfl)) ?_
      refine WT_take 1 rfl rfl (by kernel_rfl) (hXS _ hI) rfl (fun W hW => have hI := hSx W hW; (by exact rMoveI rfl rfl)) ?_
      refine WT_take 2 rfl rfl (by kernel_rfl) (hXS _ hI) rfl (fun W hW => have hI := hSx W hW; (by exact rNeqT rfl rfl rfl (by omega))) ?_
      refine WT_take 3 rfl rfl (by kernel_rfl) (hXS _ hI) rfl (fun W hW => have hI := hSx W hW; (by exact rMoveB rfl rfl)) ?_
      refine WT_take 4 rfl rfl (by kernel_rfl) (hXS _ hI) rfl (fun W hW => have hI := hSx W hW; (by exact rMoveP rfl rfl)) ?_
      refine WT_take 5 rfl rfl (by kernel_rfl) (hXS _ hI) rfl (fun W hW => have hI := hSx W hW; (rNilChk rfl rfl)) ?_
      refine WT_take 6 rfl rfl (by kernel_rfl) (hXS _ hI) rfl (fun W hW => have hI := hSx W hW; (by exact rFldN (off := 4) rfl (by kernel_rfl) rfl)) ?_
      refine WT_take 7 rfl rfl (by kernel_rfl) (hXS _ hI) rfl (fun W hW => have hI := hSx W hW; (by exact rLd (v := .slice _ _ _) rfl (by kernel_rfl) rfl (by exact hI.oldp h4))) ?_
      refine WT_take 8 rfl rfl (by kernel_rfl) (hXS _ hI) rfl (fun W hW => have hI := hSx W hW; (by exact rMoveI rfl rfl)) ?_
      refine WT_take 9 rfl rfl (by kernel_rfl) (hXS _ hI) rfl (fun W hW => have hI := hSx W hW; (by exact rIdx0 rfl Tryz.underlying55 (by kernel_rfl) rfl rfl rfl (by omega))) ?_
      refine WT_take 10 rfl rfl (by kernel_rfl) (hXS _ hI) rfl (fun W hW => have hI := hSx W hW; (by exact rLd (v := .bool _) rfl (by kernel_rfl) rfl (by exact hI.oldp hdg))) ?_
      refine WT_take 11 rfl rfl (by kernel_rfl) (hXS _ hI) rfl (fun W hW => have hI := hSx W hW; (by exact rNotF rfl rfl)) ?_
      refine WT_take 12 rfl rfl (by kernel_rfl) (hXS _ hI) rfl (fun W hW => have hI := hSx W hW; (by exact rPickTB rfl rfl rfl)) ?_
      refine WT_take 13 rfl rfl (by kernel_rfl) (hXS _ hI) rfl (fun W hW => have hI := hSx W hW; (by exact rMoveB rfl rfl)) ?_
      refine WT_take 14 rfl rfl (by kernel_rfl) (hXS _ hI) rfl (fun W hW => have hI := hSx W hW; (by exact rMoveP rfl rfl)) ?_
      refine WT_take 15 rfl rfl (by kernel_rfl) (hXS _ hI) rfl (fun W hW => have hI := hSx W hW; (rNilChk rfl rfl)) ?_
      refine WT_take 16 rfl rfl (by kernel_rfl) (hXS _ hI) rfl (fun W hW => have hI := hSx W hW; (by exact rFldN (off := 3) rfl (by kernel_rfl) rfl)) ?_
      refine WT_take 17 rfl rfl (by kernel_rfl) (hXS _ hI) rfl (fun W hW => have hI := hSx W hW; (by exact rLd (v := .func _ _ _) rfl (by kernel_rfl) rfl (by exact hI.oldp h3))) ?_
      refine WT_take 18 rfl rfl (by kernel_rfl) (hXS _ hI) rfl (fun W hW => have hI := hSx W hW; (by exact rLdB (n := 8) rfl (by kernel_rfl) (by kernel_rfl) rfl rfl hI.g0)) ?_
      refine WT_take 19 rfl rfl (by kernel_rfl) (hXS _ hI) rfl (fun W hW => have hI := hSx W hW; (by exact rMoveP rfl rfl)) ?_
      refine WT_take 20 rfl rfl (by kernel_rfl) (hXS _ hI) rfl (fun W hW => have hI := hSx W hW; (rNilChk rfl rfl)) ?_
      refine WT_take 21 rfl rfl (by kernel_rfl) (hXS _ hI) rfl (fun W hW => have hI := hSx W hW; (by exact rFldN (off := 1) rfl (by kernel_rfl) rfl)) ?_
      refine WT_take 22 rfl rfl (by kernel_rfl) (hXS _ hI) rfl (fun W hW => have hI := hSx W hW; (by exact rLd (v := .slice _ _ _) rfl (by kernel_rfl) rfl (by exact hI.oldp h1))) ?_
      refine WT_take 23 rfl rfl (by kernel_rfl) (hXS _ hI) rfl (fun W hW => have hI := hSx W hW; (by exact rMoveI rfl rfl)) ?_
      refine WT_take 24 rfl rfl (by kernel_rfl) (hXS _ hI) rfl (fun W hW => have hI := hSx W hW; (rIdx (sz := 8) rfl Tryz.underlying32 (by kernel_rfl) rfl rfl (by omega))) ?_
      refine WT_take 25 rfl rfl (by kernel_rfl) (hXS _ hI) rfl (fun W hW => have hI := hSx W hW; (by exact rLdA (n := 8) rfl (by kernel_rfl) (by kernel_rfl) rfl (by rfl) (fun k u hk => hI.oldp (hoci k u hk)))) ?_
      refine WT_one 26 rfl (by kernel_rfl) rfl ?_
      refine WL_call rfl rfl rfl (rCallF (f := f) (first := []) (cap := []) (vs := [.agg _, .agg _]) rfl rfl f1 f2 f3 rfl) ?_
      refine (hcall (oAt l k) (oAt l i) _).mono ?_
      rw [hab]
      rintro e w1 ⟨rfl, hp⟩
      refine ⟨_, rfl, ?_⟩
      replace hI := hI.pure hp
      refine WL_nil ⟨hXS _ hI, ?_⟩
      refine WT_take 27 rfl rfl (by kernel_rfl) (hXS _ hI) rfl (fun W hW => have hI := hSx W hW; (by exact rPickTB rfl rfl rfl)) ?_
      refine WT_end (by kernel_rfl) ?_
      refine W_cond false rfl ?_
      refine W_skip ?_
      replace hI := hI.d0
      refine W_region ?_
      refine WL_val rfl rfl rfl (by exact rInc rfl rfl rfl (by omega)) ?_
      refine WL_val rfl rfl rfl (by exact rMoveI rfl rfl) ?_
      refine WL_nil ?_
      exact ⟨l.length - (k + 1), by omega, k + 1, rfl, by omega, hnext (fun _ _ => hab), ⟨rfl, rfl, rfl, rfl, rfl, trivial⟩, hI⟩
end Go.Proofs.YtglioflpblpmpaaGreatDoor
namespace Go.Proofs.YtglioflpblpmpaaGreatDoor
open Go.RowKit
set_option linter.unusedVariables false
set_option linter.unusedSimpArgs false
/-- The states' slices. -/
def stL (L : Loc) (sts : Nat → List Int) : List Value := (List.range 8).map fun k => Value.slice (L k).1 (sts k).length (L k).2
theorem stL_get {L : Loc} {sts : Nat → List Int} {k : Nat} (hk : k < 8) : (stL L sts).toArray[k]? = some (.slice (L k).1 (sts k).length (L k).2) := by
  unfold stL
  rw [List.getElem?_toArray, List.getElem?_map, List.getElem?_range hk]
  rfl
def bitsF (dn : Nat → Bool) (j : Nat) : List Nat := (List.range j).map fun i => bitF (dn i)
theorem bitsF_succ (dn : Nat → Bool) (j : Nat) : bitsF dn (j + 1) = bitsF dn j ++ [bitF (dn j)] := by simp [bitsF, List.range_succ]
def encQ (l : List Int) (q : Nat) : List Nat := (l.take q).flatMap fun n => 32 :: itoa36 n
theorem encQ_succ {l : List Int} {q : Nat} (hq : q < l.length) : encQ l (q + 1) = encQ l q ++ [32] ++ itoa36 l[q] := by
  unfold encQ
  rw [List.take_succ_eq_append_getElem hq, List.flatMap_append, List.append_assoc]
  simp only [List.flatMap_cons, List.flatMap_nil, List.append_nil]
  rfl
theorem encQ_all (l : List Int) : encQ l l.length ++ [124] = encL l := by unfold encQ encL; rw [List.take_length]
theorem encS_succ (sts : Nat → List Int) (k : Nat) : encS sts (List.range (k + 1)) = encS sts (List.range k) ++ encL (sts k) := by simp [encS, List.range_succ]
theorem encQ_len (l : List Int) : ∀ q, (encQ l q).length ≤ 16 * q := by
  intro q
  induction q with
  | zero => simp [encQ]
  | succ q ih =>
    rcases Nat.lt_or_ge q l.length with h | h
    · rw [encQ_succ h]
      have := itoa_len l[q]
      simp
      omega
    · have : encQ l (q + 1) = encQ l q := by unfold encQ; rw [List.take_of_length_le h, List.take_of_length_le (by omega)]
      rw [this]; omega
theorem encL_len (l : List Int) : (encL l).length ≤ 16 * l.length + 1 := by
  rw [← encQ_all]
  have := encQ_len l l.length
  simp
  omega
theorem encS_len {sts : Nat → List Int} {m : Nat} (h : ∀ k, (sts k).length ≤ m) : ∀ k, (encS sts (List.range k)).length ≤ k * (16 * m + 1) := by
  intro k
  induction k with
  | zero => simp [encS]
  | succ k ih =>
    rw [encS_succ, List.length_append, Nat.add_mul, Nat.one_mul]
    have h1 := encL_len (sts k)
    have h2 := h k
    omega
theorem BytE.snoc {base c : Nat} {A : Option Addr} {l : List Nat} {b : Nat} : BytE base A c (l ++ [b]) = Row base 5 1 A (l.length + 1) c (bytC l ++ [.int .u8 (b : Int)]) := by
  unfold BytE
  rw [bytC_app, List.length_append]
  rfl
theorem rMulN {P : Program} {ρ : Env} {oo : Oper} {w : World} {x y : Operand} {t t' : TypeId} {a b : Nat} (ho : oo.op = .binOp .mul t x y t') (hx : ev ρ x = .int .i64 (a : Int)) (hy : ev ρ y = .int .i64 (b : Int)) (h : a * b ≤ 9223372036854775807) : Runs P ρ oo w (.int .i64 ((a * b : Nat) : Int)) := by
  have hn : (0 : Int) ≤ (a : Int) * (b : Int) := by rw [← Int.natCast_mul]; omega
  have hm : (a : Int) * (b : Int) ≤ 9223372036854775807 := by rw [← Int.natCast_mul]; omega
  have := rMul (P := P) (w := w) ho hx hy ⟨by omega, hm⟩
  rwa [← Int.natCast_mul] at this
set_option maxHeartbeats 4000000 in
theorem skey_any (sb : Nat) (A : Option Addr) (c n db : Nat) (dn : Nat → Bool) (L : Loc) (sts : Nat → List Int) (w0 : World) (h1 : w0.cell? ⟨sb, 1, none⟩ = some (.slice A n c)) (h4 : w0.cell? ⟨sb, 4, none⟩ = some (.slice (some ⟨db, 0, none⟩) n n)) (hd : Blk w0 db 4 (boolC n dn))
    (h6 : ∀ (j : Nat) (u : Value), (stL L sts)[j]? = some u → w0.cell? ⟨sb, 6 + j, none⟩ = some u) (hst : ∀ k, k < 8 → Rd w0 (fun _ => True) 1 (.slice (L k).1 (sts k).length (L k).2) (sts k).length (i64s (sts k))) (hn : n ≤ 100) (hi : ∀ k, ∀ x ∈ sts k, i64B x) (hlen : ∀ k, (sts k).length ≤ 100) :
    Calls Tryz.prog 60 #[.pointer (some ⟨sb, 0, none⟩)] w0 fun en w' => en = .returned (.string (strB (keyF n dn sts))) ∧ Pure w0 w' := by
  have hI := Inv.start (fun _ => False) w0
  refine calls_of_W (N := Tryz.f60.ntmps) Tryz.func60 rfl rfl rfl ?_
  refine W_seq ?_
  refine W_region ?_
  refine WL_val rfl rfl rfl (by exact rAsgnStr rfl rfl) ?_
  refine WL_nil ?_
  refine W_seq ?_
  refine W_region ?_
  refine WL_val rfl rfl rfl (by exact rMoveP rfl rfl) ?_
  refine WL_val rfl rfl rfl (rNilChk rfl rfl) ?_
  refine WL_val rfl rfl rfl (by exact rFldN (off := 1) rfl (by kernel_rfl) rfl) ?_
  refine WL_val rfl rfl rfl (by exact rLd (v := .slice _ _ _) rfl (by kernel_rfl) rfl (by exact hI.oldp h1)) ?_
  refine WL_val rfl rfl rfl (rLen rfl Tryz.underlying32 rfl) ?_
  refine WL_val rfl rfl rfl (rMulN (a := 2) (b := n) rfl rfl rfl (by omega)) ?_
  refine WL_mkCap (zv := .int .u8 0) (by_ := 1) (base := 0) hI rfl rfl rfl rfl rfl rfl Tryz.underlying150 (by kernel_rfl) (by omega) (by omega) (Nat.zero_le _) ?_
  clear hI; rintro b16 w _ _ hI
  refine WL_val rfl rfl rfl (by exact rAsgnS rfl rfl) ?_
  refine WL_nil ?_
  replace hI : Inv (fun _ => False) w0 w [BytE 0 (some ⟨b16, 0, none⟩) (2 * n) (bitsF dn 0)] := hI
  refine W_seq_cut (fun ρ w => ∃ (A3 : Option Addr) (c3 : Nat), Has ρ [(3, .slice A3 (bitsF dn n).length c3), (0, .pointer (some ⟨sb, 0, none⟩))] ∧ Inv (fun _ => False) w0 w [BytE 0 A3 c3 (bitsF dn n)]) ?_ ?_
  · refine W_seq ?_
    refine W_region ?_
    refine WL_val rfl rfl rfl (by exact rMoveP rfl rfl) ?_
    refine WL_val rfl rfl rfl (rNilChk rfl rfl) ?_
    refine WL_val rfl rfl rfl (by exact rFldN (off := 4) rfl (by kernel_rfl) rfl) ?_
    refine WL_val rfl rfl rfl (by exact rLd (v := .slice _ _ _) rfl (by kernel_rfl) rfl (by exact hI.oldp h4)) ?_
    refine WL_val rfl rfl rfl (rLen rfl Tryz.underlying55 rfl) ?_
    refine WL_val rfl rfl rfl (by exact rMoveI rfl rfl) ?_
    refine WL_nil ?_
    refine W_block ?_
    refine W_loopN (fun mu ρ w => ∃ (k : Nat) (A3 : Option Addr) (c3 : Nat), mu = n - k ∧ k ≤ n ∧ Has ρ [(22, .int .i64 (k : Int)), (21, .int .i64 (n : Int)), (20, .slice (some ⟨db, 0, none⟩) n n), (3, .slice A3 (bitsF dn k).length c3), (0, .pointer (some ⟨sb, 0, none⟩))] ∧ Inv (fun _ => False) w0 w [BytE 0 A3 c3 (bitsF dn k)]) n
      ⟨0, _, _, rfl, by omega, ⟨rfl, rfl, rfl, rfl, rfl, trivial⟩, hI⟩ ?_
    clear hI
    rintro mu ρ w ⟨k, A3, c3, rfl, hk, hH, hI⟩
    obtain ⟨σ, rfl⟩ := hH.open
    have hbl : (bitsF dn k).length = k := by simp [bitsF]
    by_cases hkn : k < n
    rotate_left
    · obtain rfl : k = n := by omega
      refine W_seq ?_
      refine W_region ?_
      refine WL_val rfl rfl rfl (by exact rLssF rfl rfl rfl (by omega)) ?_
      refine WL_nil ?_
      refine W_seq ?_
      refine W_cond false rfl ?_
      refine W_exit ?_
      exact ⟨A3, c3, ⟨rfl, rfl, trivial⟩, hI⟩
    have hdg := (hd.cell k).trans (boolC_get (n := n) dn hkn)
    cases hdn : dn k with
    | true =>
      rw [hdn] at hdg
      refine W_seq ?_
      refine W_region ?_
      refine WL_val rfl rfl rfl (by exact rLssT rfl rfl rfl (by omega)) ?_
      refine WL_nil ?_
      refine W_seq ?_
      refine W_cond true rfl ?_
      refine W_skip ?_
      refine W_seq ?_
      refine W_block ?_
      refine W_seq ?_
      refine W_region ?_
      refine WL_val rfl rfl rfl (by exact rIdx0 rfl Tryz.underlying55 (by kernel_rfl) rfl rfl rfl (by omega)) ?_
      refine WL_val rfl rfl rfl (by exact rLd (v := .bool _) rfl (by kernel_rfl) rfl (by exact hI.oldp hdg)) ?_
      refine WL_val rfl rfl rfl (by exact rAsgnB rfl rfl) ?_
      refine WL_nil ?_
      refine W_seq ?_
      refine W_region ?_
      refine WL_val rfl rfl rfl (by exact rMoveB rfl rfl) ?_
      refine WL_nil ?_
      refine W_cond true rfl ?_
      refine W_region ?_
      refine WL_val rfl rfl rfl (by exact rMoveS rfl rfl) ?_
      refine WL_lit (vs := [_]) (qs := [(0, .int .u8 _)]) [.int .u8 0] [0] hI rfl rfl rfl rfl rfl rfl Tryz.underlying150 (fun _ => by kernel_rfl) ?_
      clear hI; rintro b28 w - - hI
      refine WL_app1 (z := .int .u8 0) (by_ := 1) hI rfl rfl rfl rfl rfl rfl Tryz.underlying150 (by kernel_rfl) rfl (by omega) (by rfl) hI.lit0 (by rfl) (by omega) (by omega) (by exact Nat.zero_le _) ?_
      clear hI; rintro A29 c29 w hA29 hc29 hI
      replace hI := hI.d0
      refine WL_val rfl rfl rfl (by exact rAsgnS rfl rfl) ?_
      refine WL_nil ?_
      replace hI : Inv (fun _ => False) w0 w [BytE 0 A29 c29 (bitsF dn (k + 1))] := by
        rw [bitsF_succ, hdn, BytE.snoc]; exact hI
      refine W_region ?_
      refine WL_val rfl rfl rfl (by exact rInc rfl rfl rfl (by omega)) ?_
      refine WL_val rfl rfl rfl (by exact rMoveI rfl rfl) ?_
      refine WL_nil ?_
      exact ⟨n - (k + 1), by omega, k + 1, A29, c29, rfl, by omega, ⟨rfl, rfl, rfl, by rw [bitsF_succ, List.length_append]; rfl, rfl, trivial⟩, hI⟩
    | false =>
      rw [hdn] at hdg
      refine W_seq ?_
      refine W_region ?_
      refine WL_val rfl rfl rfl (by exact rLssT rfl rfl rfl (by omega)) ?_
      refine WL_nil ?_
      refine W_seq ?_
      refine W_cond true rfl ?_
      refine W_skip ?_
      refine W_seq ?_
      refine W_block ?_
      refine W_seq ?_
      refine W_region ?_
      refine WL_val rfl rfl rfl (by exact rIdx0 rfl Tryz.underlying55 (by kernel_rfl) rfl rfl rfl (by omega)) ?_
      refine WL_val rfl rfl rfl (by exact rLd (v := .bool _) rfl (by kernel_rfl) rfl (by exact hI.oldp hdg)) ?_
      refine WL_val rfl rfl rfl (by exact rAsgnB rfl rfl) ?_
      refine WL_nil ?_
      refine W_seq ?_
      refine W_region ?_
      refine WL_val rfl rfl rfl (by exact rMoveB rfl rfl) ?_
      refine WL_nil ?_
      refine W_cond false rfl ?_
      refine W_region ?_
      refine WL_val rfl rfl rfl (by exact rMoveS rfl rfl) ?_
      refine WL_lit (vs := [_]) (qs := [(0, .int .u8 _)]) [.int .u8 0] [0] hI rfl rfl rfl rfl rfl rfl Tryz.underlying150 (fun _ => by kernel_rfl) ?_
      clear hI; rintro b31 w - - hI
      refine WL_app1 (z := .int .u8 0) (by_ := 1) hI rfl rfl rfl rfl rfl rfl Tryz.underlying150 (by kernel_rfl) rfl (by omega) (by rfl) hI.lit0 (by rfl) (by omega) (by omega) (by exact Nat.zero_le _) ?_
      clear hI; rintro A32 c32 w hA32 hc32 hI
      replace hI := hI.d0
      refine WL_val rfl rfl rfl (by exact rAsgnS rfl rfl) ?_
      refine WL_nil ?_
      replace hI : Inv (fun _ => False) w0 w [BytE 0 A32 c32 (bitsF dn (k + 1))] := by
        rw [bitsF_succ, hdn, BytE.snoc]; exact hI
      refine W_region ?_
      refine WL_val rfl rfl rfl (by exact rInc rfl rfl rfl (by omega)) ?_
      refine WL_val rfl rfl rfl (by exact rMoveI rfl rfl) ?_
      refine WL_nil ?_
      exact ⟨n - (k + 1), by omega, k + 1, A32, c32, rfl, by omega, ⟨rfl, rfl, rfl, by rw [bitsF_succ, List.length_append]; rfl, rfl, trivial⟩, hI⟩
  clear hI
  rintro ρ w ⟨A3, c3, hH, hI⟩
  obtain ⟨σ, rfl⟩ := hH.open
  have hbl : (bitsF dn n).length = n := by simp [bitsF]
  refine W_seq_cut (fun ρ w => ∃ (A3 : Option Addr) (c3 : Nat), Has ρ [(3, .slice A3 (keyF n dn sts).length c3)] ∧ Inv (fun _ => False) w0 w [BytE 0 A3 c3 (keyF n dn sts)]) ?_ ?_
  · refine W_seq ?_
    refine W_region ?_
    refine WL_val rfl rfl rfl (by exact rMoveP rfl rfl) ?_
    refine WL_val rfl rfl rfl (rNilChk rfl rfl) ?_
    refine WL_val rfl rfl rfl (by exact rFldN (off := 6) rfl (by kernel_rfl) rfl) ?_
    refine WL_val rfl rfl rfl (by exact rLdA (n := 8) rfl (by kernel_rfl) (by kernel_rfl) rfl (by rfl) (fun k u hk => hI.oldp (h6 k u hk))) ?_
    refine WL_val rfl rfl rfl (by exact rMoveI rfl rfl) ?_
    refine WL_nil ?_
    refine W_block ?_
    refine W_loopN (fun mu ρ w => ∃ (k : Nat) (A3 : Option Addr) (c3 : Nat), mu = 8 - k ∧ k ≤ 8 ∧ Has ρ [(38, .int .i64 (k : Int)), (37, .agg (stL L sts).toArray), (3, .slice A3 (bitsF dn n ++ encS sts (List.range k)).length c3)] ∧ Inv (fun _ => False) w0 w [BytE 0 A3 c3 (bitsF dn n ++ encS sts (List.range k))]) 8
      ⟨0, A3, c3, rfl, by omega, ⟨rfl, rfl, by simp [encS]; rfl, trivial⟩, by simp only [encS, List.range_zero, List.flatMap_nil, List.append_nil]; exact hI⟩ ?_
    clear hI
    rintro mu ρ w ⟨k, A3, c3, rfl, hk, hH, hI⟩
    obtain ⟨σ, rfl⟩ := hH.open
    by_cases hk8 : k < 8
    rotate_left
    · obtain rfl : k = 8 := by omega
      refine W_seq ?_
      refine W_region ?_
      refine WL_val rfl rfl rfl (by exact rLssF rfl rfl rfl (by omega)) ?_
      refine WL_nil ?_
      refine W_seq ?_
      refine W_cond false rfl ?_
      refine W_exit ?_
      exact ⟨A3, c3, ⟨rfl, trivial⟩, hI⟩
    refine W_seq ?_
    refine W_region ?_
    refine WL_val rfl rfl rfl (by exact rLssT rfl rfl rfl (by omega)) ?_
    refine WL_nil ?_
    refine W_seq ?_
    refine W_cond true rfl ?_
    refine W_skip ?_
    refine W_seq ?_
    refine W_block ?_
    refine W_seq ?_
    refine W_region ?_
    refine WL_val rfl rfl rfl (rIdxAg rfl Tryz.underlying107 (by kernel_rfl) (by kernel_rfl) rfl rfl (by omega) (stL_get hk8)) ?_
    refine WL_val rfl rfl rfl (by exact rAsgnS rfl rfl) ?_
    refine WL_nil ?_
    have hrd := hst k hk8
    have hel := encS_len hlen k
    have hlk := hlen k
    have hk16 : k * (16 * 100 + 1) ≤ 8 * (16 * 100 + 1) := Nat.mul_le_mul_right _ hk
    generalize (L k).1 = Ak at hrd ⊢
    generalize (L k).2 = ck at hrd ⊢
    refine W_seq_cut (fun ρ w => ∃ (A3 : Option Addr) (c3 : Nat), Has ρ [(38, .int .i64 (k : Int)), (37, .agg (stL L sts).toArray), (3, .slice A3 (bitsF dn n ++ encS sts (List.range k) ++ encQ (sts k) (sts k).length).length c3)] ∧ Inv (fun _ => False) w0 w [BytE 0 A3 c3 (bitsF dn n ++ encS sts (List.range k) ++ encQ (sts k) (sts k).length)]) ?_ ?_
    · refine W_seq ?_
      refine W_region ?_
      refine WL_val rfl rfl rfl (by exact rMoveS rfl rfl) ?_
      refine WL_val rfl rfl rfl (rLen rfl Tryz.underlying37 rfl) ?_
      refine WL_val rfl rfl rfl (by exact rMoveI rfl rfl) ?_
      refine WL_nil ?_
      refine W_block ?_
      refine W_loopN (fun mu ρ w => ∃ (q : Nat) (A3 : Option Addr) (c3 : Nat), mu = (sts k).length - q ∧ q ≤ (sts k).length ∧ Has ρ [(43, .int .i64 (q : Int)), (42, .int .i64 ((sts k).length : Int)), (41, .slice Ak (sts k).length ck), (38, .int .i64 (k : Int)), (37, .agg (stL L sts).toArray), (3, .slice A3 (bitsF dn n ++ encS sts (List.range k) ++ encQ (sts k) q).length c3)] ∧ Inv (fun _ => False) w0 w [BytE 0 A3 c3 (bitsF dn n ++ encS sts (List.range k) ++ encQ (sts k) q)]) (sts k).length
        ⟨0, A3, c3, rfl, by omega, ⟨rfl, rfl, rfl, rfl, rfl, by simp [encQ]; rfl, trivial⟩, by simp only [encQ, List.take_zero, List.flatMap_nil, List.append_nil]; exact hI⟩ ?_
      clear hI
      rintro mu ρ w ⟨q, A3, c3, rfl, hq, hH, hI⟩
      obtain ⟨σ, rfl⟩ := hH.open
      by_cases hql : q < (sts k).length
      rotate_left
      · obtain rfl : q = (sts k).length := by omega
        refine W_seq ?_
        refine W_region ?_
        refine WL_val rfl rfl rfl (by exact rLssF rfl rfl rfl (by omega)) ?_
        refine WL_nil ?_
        refine W_seq ?_
        refine W_cond false rfl ?_
        refine W_exit ?_
        exact ⟨A3, c3, ⟨rfl, rfl, rfl, trivial⟩, hI⟩
      have hi0 : (i64s (sts k))[q]? = some (.int .i64 ((sts k)[q]'hql)) := by simp [i64s, hql]
      obtain ⟨ob, oo, rfl, _, _, hcell⟩ := hrd.get hi0 (by omega)
      have hi64 := hi k _ (List.getElem_mem hql)
      have hql16 := encQ_len (sts k) q
      have hsucc := encQ_succ hql
      generalize (sts k)[q]'hql = z at hcell hi64 hsucc
      have htot : (bitsF dn n ++ encS sts (List.range k) ++ encQ (sts k) q).length ≤ 20000 := by
        rw [List.length_append, List.length_append]; omega
      generalize hX : bitsF dn n ++ encS sts (List.range k) ++ encQ (sts k) q = X at hI htot
      refine W_seq ?_
      refine W_region ?_
      refine WL_val rfl rfl rfl (by exact rLssT rfl rfl rfl (by omega)) ?_
      refine WL_nil ?_
      refine W_seq ?_
      refine W_cond true rfl ?_
      refine W_skip ?_
      refine W_seq ?_
      refine W_block ?_
      refine W_seq ?_
      refine W_region ?_
      refine WL_val rfl rfl rfl (by exact rIdx1 rfl Tryz.underlying37 (by kernel_rfl) rfl rfl (by omega)) ?_
      refine WL_val rfl rfl rfl (by exact rLd (v := .int .i64 _) rfl (by kernel_rfl) rfl (by exact hI.oldp hcell)) ?_
      refine WL_val rfl rfl rfl (by exact rAsgnI rfl rfl) ?_
      refine WL_nil ?_
      refine W_region ?_
      refine WL_val rfl rfl rfl (by exact rMoveS rfl rfl) ?_
      refine WL_lit (vs := [_]) (qs := [(0, .int .u8 _)]) [.int .u8 0] [0] hI rfl rfl rfl rfl rfl rfl Tryz.underlying150 (fun _ => by kernel_rfl) ?_
      clear hI; rintro b48 w - - hI
      refine WL_app1 (z := .int .u8 0) (by_ := 1) hI rfl rfl rfl rfl rfl rfl Tryz.underlying150 (by kernel_rfl) rfl (by omega) (by rfl) hI.lit0 (by rfl) (by omega) (by omega) (by exact Nat.zero_le _) ?_
      clear hI; rintro A49 c49 w hA49 hc49 hI
      replace hI := hI.d0
      refine WL_val rfl rfl rfl (by exact rMoveI rfl rfl) ?_
      refine WL_call rfl rfl rfl (rCall (vs := [.slice _ _ _, .int .i64 _, .int .i64 _]) rfl Tryz.func76 rfl rfl rfl) ?_
      replace hI : Inv (fun _ => False) w0 w [BytE 0 A49 c49 (X ++ [32])] := by
        rw [BytE.snoc]; exact hI
      refine Calls.mono (by have h := appP_any 0 A49 c49 (X ++ [32]) z _ (hI.ok _ (by simp)) hi64 (by simp; omega) (Nat.zero_le _); rw [List.length_append] at h; exact h) ?_
      rintro e w1 ⟨A', c', rfl, hT⟩
      refine ⟨_, rfl, ?_⟩
      replace hI := hI.turn1 hT
      refine WL_val rfl rfl rfl (by exact rAsgnS rfl rfl) ?_
      refine WL_nil ?_
      refine W_region ?_
      refine WL_val rfl rfl rfl (by exact rInc rfl rfl rfl (by omega)) ?_
      refine WL_val rfl rfl rfl (by exact rMoveI rfl rfl) ?_
      refine WL_nil ?_
      have eX : bitsF dn n ++ encS sts (List.range k) ++ encQ (sts k) (q + 1) = X ++ [32] ++ itoa36 z := by rw [hsucc, ← hX]; simp
      exact ⟨(sts k).length - (q + 1), by omega, q + 1, A', c', rfl, by omega, ⟨rfl, rfl, rfl, rfl, rfl, by rw [eX]; rfl, trivial⟩, by rw [eX]; exact hI⟩
    clear hI
    rintro ρ w ⟨A3, c3, hH, hI⟩
    obtain ⟨σ, rfl⟩ := hH.open
    have hq16 := encQ_len (sts k) (sts k).length
    have htot : (bitsF dn n ++ encS sts (List.range k) ++ encQ (sts k) (sts k).length).length ≤ 20000 := by
      rw [List.length_append, List.length_append]; omega
    have eX : bitsF dn n ++ encS sts (List.range k) ++ encQ (sts k) (sts k).length ++ [124] = bitsF dn n ++ encS sts (List.range (k + 1)) := by rw [encS_succ, ← encQ_all]; simp
    generalize hX : bitsF dn n ++ encS sts (List.range k) ++ encQ (sts k) (sts k).length = X at hI htot eX
    refine W_region ?_
    refine WL_val rfl rfl rfl (by exact rMoveS rfl rfl) ?_
    refine WL_lit (vs := [_]) (qs := [(0, .int .u8 _)]) [.int .u8 0] [0] hI rfl rfl rfl rfl rfl rfl Tryz.underlying150 (fun _ => by kernel_rfl) ?_
    clear hI; rintro b54 w - - hI
    refine WL_app1 (z := .int .u8 0) (by_ := 1) hI rfl rfl rfl rfl rfl rfl Tryz.underlying150 (by kernel_rfl) rfl (by omega) (by rfl) hI.lit0 (by rfl) (by omega) (by omega) (by exact Nat.zero_le _) ?_
    clear hI; rintro A55 c55 w hA55 hc55 hI
    replace hI := hI.d0
    refine WL_val rfl rfl rfl (by exact rAsgnS rfl rfl) ?_
    refine WL_nil ?_
    replace hI : Inv (fun _ => False) w0 w [BytE 0 A55 c55 (bitsF dn n ++ encS sts (List.range (k + 1)))] := by
      rw [← eX, BytE.snoc]; exact hI
    refine W_region ?_
    refine WL_val rfl rfl rfl (by exact rInc rfl rfl rfl (by omega)) ?_
    refine WL_val rfl rfl rfl (by exact rMoveI rfl rfl) ?_
    refine WL_nil ?_
    exact ⟨8 - (k + 1), by omega, k + 1, A55, c55, rfl, by omega, ⟨rfl, rfl, by rw [← eX, List.length_append]; rfl, trivial⟩, hI⟩
  clear hI
  rintro ρ w ⟨A3, c3, hH, hI⟩
  obtain ⟨σ, rfl⟩ := hH.open
  have hpos : 0 < (keyF n dn sts).length := by
    unfold keyF
    rw [List.length_append, encS_succ sts 7, List.length_append, ← encQ_all]
    simp
    omega
  refine W_seq ?_
  refine W_region ?_
  refine WL_val rfl rfl rfl (by exact rMoveS rfl rfl) ?_
  refine WL_val rfl rfl rfl (rBytesStr rfl Tryz.underlying150 Tryz.underlying5 Tryz.underlying9 rfl hI.g0 (keyF_small n dn sts) hpos) ?_
  refine WL_val rfl rfl rfl (by exact rAsgnStr rfl rfl) ?_
  refine WL_nil ?_
  refine W_ret ?_
  exact ret1 2 (.inr rfl) rfl ⟨rfl, hI.pu⟩
end Go.Proofs.YtglioflpblpmpaaGreatDoor
namespace Go.Proofs.YtglioflpblpmpaaGreatDoor
open Go.RowKit
set_option linter.unusedVariables false
set_option linter.unusedSimpArgs false
/-- The cells of a search. -/
def srcC (o : Int) (A : Option Addr) (n c bud f db eb : Nat) (L : Loc) (sts : Nat → List Int) (A' : Option Addr) (m c' : Nat) : Array Value :=
  #[.int .i64 o, .slice A n c, .int .i64 (bud : Int), .func (.func f) #[] #[], .slice (some ⟨db, 0, none⟩) n n, .slice A' m c',
    .slice (L 0).1 (sts 0).length (L 0).2, .slice (L 1).1 (sts 1).length (L 1).2, .slice (L 2).1 (sts 2).length (L 2).2, .slice (L 3).1 (sts 3).length (L 3).2,
    .slice (L 4).1 (sts 4).length (L 4).2, .slice (L 5).1 (sts 5).length (L 5).2, .slice (L 6).1 (sts 6).length (L 6).2, .slice (L 7).1 (sts 7).length (L 7).2, .map (some eb)]
theorem lt8 {k : Nat} (h : k < 8) : k = 0 ∨ k = 1 ∨ k = 2 ∨ k = 3 ∨ k = 4 ∨ k = 5 ∨ k = 6 ∨ k = 7 := by omega
section
variable {o : Int} {A : Option Addr} {n c bud f db eb : Nat} {L : Loc} {sts : Nat → List Int} {A' : Option Addr} {m c' : Nat}
theorem srcC_st {k : Nat} (hk : k < 8) : (srcC o A n c bud f db eb L sts A' m c')[6 + k]? = some (.slice (L k).1 (sts k).length (L k).2) := by
  rcases lt8 hk with rfl | rfl | rfl | rfl | rfl | rfl | rfl | rfl <;> rfl
theorem srcC_stL {k : Nat} {u : Value} (hu : (stL L sts)[k]? = some u) : (srcC o A n c bud f db eb L sts A' m c')[6 + k]? = some u := by
  have hk : k < 8 := by have := (List.getElem?_eq_some_iff.1 hu).1; simpa [stL] using this
  rw [srcC_st hk]
  have := stL_get (L := L) (sts := sts) hk
  simp only [List.getElem?_toArray] at this
  rw [this] at hu
  exact hu
theorem srcC_set {k : Nat} (hk : k < 8) (A1 : Option Addr) (c1 : Nat) (st : List Int) : (srcC o A n c bud f db eb L sts A' m c').setIfInBounds (6 + k) (.slice A1 st.length c1) = srcC o A n c bud f db eb (updL L k A1 c1) (stSet sts k st) A' m c' := by
  rcases lt8 hk with rfl | rfl | rfl | rfl | rfl | rfl | rfl | rfl <;> rfl
end
theorem updL_back (L : Loc) (k : Nat) (A1 : Option Addr) (c1 : Nat) : updL (updL L k A1 c1) k (L k).1 (L k).2 = L := by
  funext j
  unfold updL
  by_cases h : j = k
  · subst h; simp
  · simp [h]
theorem stSet_back (sts : Nat → List Int) (k : Nat) (st : List Int) : stSet (stSet sts k st) k (sts k) = sts := by
  funext j
  unfold stSet
  by_cases h : j = k
  · subst h; simp
  · simp [h]
theorem dnSet_back {dn : Nat → Bool} {i : Nat} (h : dn i = false) : dnSet (dnSet dn i true) i false = dn := by
  funext j
  unfold dnSet
  by_cases hj : j = i
  · subst hj; simp [h]
  · simp [hj]
/-- The parts of a search. -/
def prt (sb : Nat) (o : Int) (A : Option Addr) (n c bud f db eb : Nat) (L : Loc) (s : SSt) (A' : Option Addr) (c' : Nat) : List Ent :=
  [B sb 109 (srcC o A n c bud f db eb L s.sts A' s.ord.length c'), B db 4 (boolC n s.dn), StE A' c' s.ord, SetE eb s.ent]
section
variable {l0 l H : List Ent} {w0 w : World} {S : Nat → Prop} {size n : Nat} {v : Value} {xs : List Value}
theorem Rd.now (hI : Inv (DL l0) w0 w H) (h : Rd w0 (fun b => ¬ DL l0 b) size v n xs) (hs : 0 < size) : Rd w (fun b => ¬ DL H b) size v n xs := by
  obtain ⟨A, c, hv, h1, h2, h3, h4⟩ := h
  refine ⟨A, c, hv, h1, h2, h3, fun hn => ?_⟩
  obtain ⟨b, o, e, hb, hcell⟩ := h4 hn
  have hlen : 0 < xs.length := by rw [h3]; exact Nat.mul_pos hn hs
  have hlt := World.block_lt_of_cell? w0 _ (hcell 0 _ (List.getElem?_eq_getElem hlen))
  refine ⟨b, o, e, ?_, fun j u hu => hI.old (hcell j u hu) hb⟩
  rintro ⟨x, hx, hxb⟩
  rcases hI.own x hx b hxb with h5 | h5
  · exact hb h5
  · have hlt : b < w0.heap.size := hlt
    omega
theorem DL.mono (h : ∀ e ∈ l, e ∈ H) {b : Nat} (hb : ¬ DL H b) : ¬ DL l b := fun ⟨e, he, hk⟩ => hb ⟨e, h e he, hk⟩
theorem StE.rd {A : Option Addr} {c : Nat} {st : List Int} (hI : Inv S w0 w (StE A c st :: l)) : Rd w (fun b => ¬ DL l b) 1 (.slice A st.length c) st.length (i64s st) := by
  have hg : w.ownsRow 0 3 1 (.slice A st.length c) st.length (i64s st) := hI.g0
  refine Rd.of_own hg fun k hk _ => ?_
  rintro ⟨e, he, hke⟩
  rw [ownBlock_slice] at hk
  exact (List.pairwise_cons.1 hI.apart).1 e he k hk hke
theorem kn_now (hI : Inv (DL l0) w0 w H) (hk : KnOk w0) (h0 : ¬ DL l0 1) : KnOk w ∧ ¬ DL H 1 := by
  refine ⟨fun i hi => hI.old (hk i hi) h0, ?_⟩
  rintro ⟨x, hx, hxb⟩
  have hlt : 1 < w0.heap.size := World.block_lt_of_cell? w0 _ (hk 0 (by omega))
  rcases hI.own x hx _ hxb with h5 | h5
  · exact h0 h5
  · omega
def StOk (w : World) (l : List Ent) (L : Loc) (sts : Nat → List Int) : Prop := ∀ k, k < 8 → Rd w (fun b => ¬ DL l b) 1 (.slice (L k).1 (sts k).length (L k).2) (sts k).length (i64s (sts k))
theorem StOk.now {L : Loc} {sts : Nat → List Int} (h : StOk w0 l0 L sts) (hI : Inv (DL l0) w0 w H) : StOk w H L sts := fun k hk => Rd.now hI (h k hk) (by decide)
theorem StOk.mono {L : Loc} {sts : Nat → List Int} (h : StOk w H L sts) (hs : ∀ e ∈ l, e ∈ H) : StOk w l L sts := fun k hk => (h k hk).mono fun _ hb => DL.mono hs hb
theorem StOk.upd {L : Loc} {sts : Nat → List Int} {k : Nat} {A : Option Addr} {c : Nat} {st : List Int} (h : StOk w l L sts) (hs : Rd w (fun b => ¬ DL l b) 1 (.slice A st.length c) st.length (i64s st)) : StOk w l (updL L k A c) (stSet sts k st) := by
  intro j hj
  by_cases hjk : j = k
  · subst hjk
    have e1 : updL L j A c j = (A, c) := by simp [updL]
    have e2 : stSet sts j st j = st := by simp [stSet]
    rw [e1, e2]
    exact hs
  · have e1 : updL L k A c j = L j := by simp [updL, hjk]
    have e2 : stSet sts k st j = sts j := by simp [stSet, hjk]
    rw [e1, e2]
    exact h j hj
/-- A world in which a part's blocks are the same set. -/
theorem Inv.trans {l1 : List Ent} {w1 : World} (h : Inv (DL l0) w0 w1 l1) (h' : Inv (DL l1) w1 w l) : Inv (DL l0) w0 w l := by
  have h2 : Inv (DL l0) w0 w1 (l1 ++ []) := by rw [List.append_nil]; exact h
  have := h2.turnL h'
  rwa [List.append_nil] at this
end
end Go.Proofs.YtglioflpblpmpaaGreatDoor
