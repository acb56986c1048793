/- Sx: operations that make or turn memory. Nothing of the program. -/
import Derived.Test.YtlmpolmalgpodaaDoorSxi
namespace Go.Proofs.YtlmpolmalgpodaaDoor
open Go
set_option linter.unusedVariables false
section
variable {P : Program} {N : Nat} {ops : Array Oper} {Q : XPost} {rest : List Oper} {ρ : Env} {o : Oper} {w0 w w' : World} {S : Nat → Prop} {H : List Ent} {d g t tt : Nat} {cs : Array Value} {v : Value}
theorem WL_box {x : Operand} {u : Value} {vs : Array Value} (hI : Inv S w0 w H) (hw : wantedR ops ρ o = true) (hd : o.dst = some d) (hN : Nat.blt d N = true) (ho : o.op = .box t x) (hx : ev ρ x = u) (hu : u.cells = vs)
    (h : ∀ g w', Pure w w' → g = w.heap.size → Inv S w0 w' (B g t vs :: H) → WL P N ops Q rest (upd ρ d (.pointer (some ⟨g, 0, none⟩))) w') : WL P N ops Q (o :: rest) ρ w :=
  WL_eff hw hd hN (run_box ho hx) (h _ _ ((Pure.refl w).alloc _) rfl (hu ▸ hI.box t u.cells))
theorem WL_alloc {u : Value} {vs : Array Value} (hI : Inv S w0 w H) (hw : wantedR ops ρ o = true) (hd : o.dst = some d) (hN : Nat.blt d N = true) (ho : o.op = .alloc t) (hz : (P.info? t).bind (·.zero) = some u) (hu : u.cells = vs)
    (h : ∀ g w', Pure w w' → g = w.heap.size → Inv S w0 w' (B g t vs :: H) → WL P N ops Q rest (upd ρ d (.pointer (some ⟨g, 0, none⟩))) w') : WL P N ops Q (o :: rest) ρ w :=
  WL_eff hw hd hN (run_alloc ho hz) (h _ _ ((Pure.refl w).alloc _) rfl (hu ▸ hI.box t u.cells))
theorem run_store {x y : Operand} {n j : Nat} {u : Value} {vs : Array Value} (ho : o.op = .store tt x y) (hx : ev ρ x = .pointer (some ⟨g, j, none⟩)) (hy : ev ρ y = u) (hu : u.cells = vs) (hs : szB P tt n = true) (hn : vs.size = n)
    (hB : Blk w g t cs) (hj : j + n ≤ cs.size) (h1 : vs.toList.all (·.oneCell') = true) : (execOp (ev ρ) o).run P w = .ok .skip (w.setCells g j vs.toList) := by
  subst hu
  have hst := run_storeCells_cells (P := P) g j u.cells.toList 0 w (fun k hk => by
      rw [Nat.add_zero, hB.cell]
      have : j + k < cs.size := by simp at hk; omega
      simp [this]) (fun k hk => hB.frozen _) (fun v hv => List.all_eq_true.1 h1 v hv)
  simp only [Nat.add_zero] at hst
  simp [execOp, ho, hx, hy, Instr.storeAt, Instr.sureAddr, storeVar, run_size hs, hn, hst]
theorem splice_self {vs : Array Value} (h : cs.size = vs.size) : splice cs 0 vs.toList = vs := by
  apply Array.ext'
  rw [splice_list _ _ _ (by simp [h])]
  simp [h]
theorem splice_one (cs : Array Value) (j : Nat) (u : Value) : splice cs j [u] = cs.setIfInBounds j u := rfl
theorem WL_stw {x y : Operand} {n : Nat} {u : Value} {vs : Array Value} (i : Nat) (hi : H[i]? = some (B g t cs)) (hI : Inv S w0 w H) (hw : wantedR ops ρ o = true) (hd : o.dst = none) (ho : o.op = .store tt x y) (hx : ev ρ x = .pointer (some ⟨g, 0, none⟩)) (hy : ev ρ y = u) (hu : u.cells = vs)
    (hs : szB P tt n = true) (hn : vs.size = n) (hcs : cs.size = n) (h1 : vs.toList.all (·.oneCell') = true) (h : ∀ w', Inv S w0 w' (H.set i (B g t vs)) → WL P N ops Q rest ρ w') : WL P N ops Q (o :: rest) ρ w := by
  have hB : Blk w g t cs := (hI.ok _ (List.mem_of_getElem? hi)).1
  refine WL_store hw hd (run_store ho hx hy hu hs hn hB (by omega) h1) (h _ ?_)
  refine hI.upd i hi (Chg.setCells (S := (B g t cs).D) (b := g) (.inl rfl) _ _ (Chg.refl (B g t cs).D w)) (B.ok ?_) (fun _ hk => .inl hk)
  have := hB.setCells vs.toList 0
  rwa [splice_self (by omega)] at this
theorem WL_st {x y : Operand} {j : Nat} {u : Value} {cs' : Array Value} (i : Nat) (hi : H[i]? = some (B g t cs)) (hI : Inv S w0 w H) (hw : wantedR ops ρ o = true) (hd : o.dst = none) (ho : o.op = .store tt x y) (hx : ev ρ x = .pointer (some ⟨g, j, none⟩)) (hy : ev ρ y = u) (hu : u.cells = #[u])
    (hs : szB P tt 1 = true) (h1 : u.oneCell' = true) (hj : Nat.blt j cs.size = true) (hc : cs.setIfInBounds j u = cs') (h : ∀ w', Inv S w0 w' (H.set i (B g t cs')) → WL P N ops Q rest ρ w') : WL P N ops Q (o :: rest) ρ w := by
  have hB : Blk w g t cs := (hI.ok _ (List.mem_of_getElem? hi)).1
  subst hc
  exact WL_store hw hd (run_store ho hx hy hu hs rfl hB (Nat.le_of_ble_eq_true hj) (by simp [h1])) (h _ (hI.set i hi j u))
theorem rSliceFrom {x y : Operand} {e n c j i sz : Nat} {k : IntKind} (ho : o.op = .slice t x (some y) none none) (ht : P.underlying t = some (.slice e)) (hs : szB P e sz = true) (hx : ev ρ x = .slice (some ⟨g, j, none⟩) n c) (hy : ev ρ y = .int k (i : Int)) (hi : i ≤ n) (hc : i < c) :
    Runs P ρ o w (.slice (some ⟨g, j + i * sz, none⟩) (n - i) (c - i)) := by
  have h1 : ¬ c = i := by omega
  simp [Runs, execOp, ho, hx, hy, Instr.sliceAt, Instr.slice, Instr.sliceBounds, Instr.sliceBound, asIntOf, run_underlying ht, run_size hs, hi, h1, Addr.add_lit]
theorem rSliceTo {x y : Operand} {e n c i sz : Nat} {A : Option Addr} {k : IntKind} (ho : o.op = .slice t x none (some y) none) (ht : P.underlying t = some (.slice e)) (hs : szB P e sz = true) (hx : ev ρ x = .slice A n c) (hy : ev ρ y = .int k (i : Int)) (hi : i ≤ c) :
    Runs P ρ o w (.slice A i c) := by
  cases A with
  | none => simp [Runs, execOp, ho, hx, hy, Instr.sliceAt, Instr.slice, Instr.sliceBounds, Instr.sliceBound, asIntOf, run_underlying ht, run_size hs, hi]
  | some p =>
    have h0 : p.add 0 = p := by simp [Addr.add]
    simp [Runs, execOp, ho, hx, hy, Instr.sliceAt, Instr.slice, Instr.sliceBounds, Instr.sliceBound, asIntOf, run_underlying ht, run_size hs, hi, h0]
/-- A result that lies in memory. -/
theorem retC {fn : Func} {R : Ending → World → Prop} {e : Exit} {a : Tmp} {n T : Nat} (he : e = .normal ∨ e = .ret) (hr : fn.results = #[.cell a t]) (ha : ρ a = .pointer (some ⟨g, 0, none⟩)) (ht : aggB P t = true) (hs : szB P t n = true) (hn : cs.size = n) (hb : Blk w g T cs) (h : R (.returned (.agg cs)) w) : retQ P fn R e ρ w := by
  have h1 := run_loadCellsFrom (P := P) (b := g) (w := w) cs.toList 0 0 #[] (fun k u hk => by rw [Nat.zero_add, Nat.zero_add, hb.cell]; simpa using hk)
  have hn' : cs.toList.length = n := by simpa using hn
  rw [hn'] at h1
  refine retQ_intro he fun b hb' => ⟨.agg cs, ?_, h⟩
  have h2 := hb'.get a
  rw [ha] at h2
  simp only [Array.getD_eq_getD_getElem?] at h2
  simp [results, hr, h2, asAddr, loadVar, run_isAgg_agg ht, run_size hs, loadCells, h1]
/-- clear of a part of a block, one cell an element. -/
theorem WL_clear {x : Operand} {e n c j i : Nat} {z : Value} (hi : H[i]? = some (B g tt cs)) (hI : Inv S w0 w H) (hw : wantedR ops ρ o = true) (hd : o.dst = none) (ho : o.op = .call { callee := .builtin .clear, args := #[x], argTypes := #[t] }) (ht : P.underlying t = some (.slice e)) (hz : (P.info? e).bind (·.zero) = some z) (hz1 : z.cells = #[z]) (h1 : z.oneCell' = true)
    (hx : ev ρ x = .slice (some ⟨g, j, none⟩) n c) (hn : 0 < n) (hj : j + n ≤ cs.size) (h : ∀ w' cs', cs'.size = cs.size → (∀ k, k < j → cs'[k]? = cs[k]?) → Inv S w0 w' (H.set i (B g tt cs')) → WL P N ops Q rest ρ w') : WL P N ops Q (o :: rest) ρ w := by
  have hB : Blk w g tt cs := (hI.ok _ (List.mem_of_getElem? hi)).1
  have hv : ∀ w, (zeroValue e).run P w = .ok z w := fun w => by
    cases hi : P.info? e with
    | none => simp [hi] at hz
    | some q => simp only [hi, Option.bind_some] at hz; simp [zeroValue, typeInfo, hi, hz]
  have hsz : z.cells.size = 1 := by rw [hz1]; rfl
  have hc : ∀ k, k < n * z.cells.size → (w.cell? ⟨g, j + k, none⟩).isSome = true := by
    intro k hk
    rw [hsz] at hk
    have hlt : j + k < cs.size := by omega
    rw [hB.cell]
    simp [hlt]
  have hr := run_clear_row (P := P) w t e o.type z ht hv (by rw [hz1]; simpa using h1) g j n c hn hc (fun k _ => hB.frozen _)
  have hlen : (Builtin.zeroCells z.cells n).toList.length = n := by simp [Builtin.zeroCells, hsz]
  refine WL_eff0 hw hd (v := .tuple #[]) (w' := w.setCells g j (Builtin.zeroCells z.cells n).toList) (by simp [execOp, ho, resolve, invoke, builtin, hx, hr]) (h _ (splice cs j (Builtin.zeroCells z.cells n).toList) (splice_size ..) (fun k hk => ?_) ?_)
  · rw [splice_get _ _ _ _ (by omega), if_neg (by omega)]
  · exact hI.upd i hi (Chg.setCells (S := (B g tt cs).D) (b := g) (.inl rfl) _ _ (Chg.refl (B g tt cs).D w)) (B.ok (hB.setCells _ _)) (fun _ hk => .inl hk)
/-- make([]T, n), T of one cell. -/
theorem WL_make {x y : Operand} {e n : Nat} {i : TypeInfo} {z : Value} (hI : Inv S w0 w H) (hw : wantedR ops ρ o = true) (hd : o.dst = some d) (hN : Nat.blt d N = true) (ho : o.op = .makeSlice t x y) (hx : ev ρ x = .int .i64 (n : Int)) (hy : ev ρ y = .int .i64 (n : Int))
    (ht : P.underlying t = some (.slice e)) (hi : P.info? e = some i) (hz : i.zero = some z) (hz1 : z.cells = #[z]) (hs : i.size = 1) (hb : i.bytes * n ≤ 281474976710656) (h63 : n ≤ 9223372036854775807)
    (h : ∀ g w', Pure w w' → g = w.heap.size → Inv S w0 w' (B g e (rep z n) :: H) → WL P N ops Q rest (upd ρ d (.slice (some ⟨g, 0, none⟩) n n)) w') : WL P N ops Q (o :: rest) ρ w := by
  have hr := run_make_rep (P := P) t e i z ht hi hz hz1 hs n hb h63 w
  exact WL_eff hw hd hN (by simp [execOp, ho, hx, hy, hr]) (h _ _ ((Pure.refl w).alloc _) rfl (hI.box e (rep z n)))
theorem WL_mk {x y : Operand} {e n by_ : Nat} {z : Value} (hI : Inv S w0 w H) (hw : wantedR ops ρ o = true) (hd : o.dst = some d) (hN : Nat.blt d N = true) (ho : o.op = .makeSlice t x y) (hx : ev ρ x = .int .i64 (n : Int)) (hy : ev ρ y = .int .i64 (n : Int))
    (ht : P.underlying t = some (.slice e)) (hi : (P.info? e).map (fun i => (i.zero, i.size, i.bytes)) = some (some z, 1, by_)) (hz1 : z.cells = #[z]) (hb : by_ * n ≤ 281474976710656) (h63 : n ≤ 9223372036854775807)
    (h : ∀ g w', Pure w w' → g = w.heap.size → Inv S w0 w' (B g e (rep z n) :: H) → WL P N ops Q rest (upd ρ d (.slice (some ⟨g, 0, none⟩) n n)) w') : WL P N ops Q (o :: rest) ρ w := by
  cases hp : P.info? e with
  | none => simp [hp] at hi
  | some i =>
    simp only [hp, Option.map_some, Option.some.injEq, Prod.mk.injEq] at hi
    obtain ⟨h1, h2, h3⟩ := hi
    exact WL_make hI hw hd hN ho hx hy ht hp h1 hz1 h2 (by rw [h3]; exact hb) h63 h
/-- Cells with values put in at places. -/
def putC (cs : List Value) (o : Nat) : List Value → List Value
  | [] => cs
  | u :: r => putC (cs.set o u) (o + 1) r
def putAll (cs : List Value) : List Nat → List (Nat × Value) → List Value
  | o :: os, (_, v) :: qs => putAll (putC cs o v.cells.toList) os qs
  | _, _ => cs
/-- A slice's literal. zs: all zero; os: where each part lies. -/
theorem WL_lit {e n : Nat} {ps : List (Nat × Operand)} {qs : List (Nat × Value)} {vs : List Value} (zs : List Value) (os : List Nat) (hI : Inv S w0 w H) (hw : wantedR ops ρ o = true) (hd : o.dst = some d) (hN : Nat.blt d N = true) (ho : o.op = .buildSlice t n ps.toArray) (hq : (ps.map fun p => (p.1, ev ρ p.2)) = qs) (hv : putAll zs os qs = vs) (ht : P.underlying t = some (.slice e))
    (hr : ∀ w : World, (Instr.buildSlice t n qs.toArray).run P w = .ok (.slice (some ⟨w.heap.size, 0, none⟩) n n) (w.alloc (.cells vs.toArray e)))
    (h : ∀ g w', Pure w w' → g = w.heap.size → Inv S w0 w' (B g e vs.toArray :: H) → WL P N ops Q rest (upd ρ d (.slice (some ⟨g, 0, none⟩) n n)) w') : WL P N ops Q (o :: rest) ρ w := by
  subst hq
  refine WL_eff hw hd hN ?_ (h _ _ ((Pure.refl w).alloc _) rfl (hI.box e vs.toArray))
  have := hr w
  simp only [execOp, ho]
  simp [this]
theorem rBuild {ps : List (Nat × Operand)} {qs : List (Nat × Value)} {vs : List Value} (zs : List Value) (os : List Nat) (ho : o.op = .build t ps.toArray) (hq : (ps.map fun p => (p.1, ev ρ p.2)) = qs) (hv : putAll zs os qs = vs) (hr : ∀ w : World, (Instr.build t qs.toArray).run P w = .ok (.agg vs.toArray) w) : Runs P ρ o w (.agg vs.toArray) := by
  subst hq
  have := hr w
  simp only [Runs, execOp, ho]
  simp [this]
theorem Inv.c0 (h : Inv S w0 w (B g t cs :: H)) {j : Nat} {v : Value} (hc : cs[j]? = some v) : w.cell? ⟨g, j, none⟩ = some v := h.cell 0 rfl hc
theorem Inv.g0 {e : Ent} (h : Inv S w0 w (e :: H)) : e.Φ w := (h.ok e (List.mem_of_getElem? (i := 0) rfl)).1
theorem Inv.s0 (h : Inv S w0 w (B g t cs :: H)) (j : Nat) (v : Value) : Inv S w0 (w.setCell ⟨g, j, none⟩ v) (B g t (cs.setIfInBounds j v) :: H) := h.set 0 rfl j v
theorem Inv.f0 (h : Inv S w0 w (B g t cs :: H)) (j : Nat) : w.frozen? ⟨g, j, none⟩ = false := ((h.ok (B g t cs) (List.mem_of_getElem? (i := 0) rfl)).1 : Blk w g t cs).frozen j
theorem Inv.d0 {e : Ent} (h : Inv S w0 w (e :: H)) : Inv S w0 w (H) := h.erase 0
theorem Inv.u0 {e e' : Ent} {w' : World} (h : Inv S w0 w (e :: H)) (hc : Chg e.D w w') (ho : e'.ok w') (hD : ∀ k, e'.D k → e.D k ∨ w.heap.size ≤ k) : Inv S w0 w' (e' :: H) := h.upd 0 rfl hc ho hD
theorem WL_stw0 {x y : Operand} {g : Nat} {n : Nat} {vs : Array Value} {u : Value} (hI : Inv S w0 w (B g t cs :: H)) (hw : wantedR ops ρ o = true) (hd : o.dst = none) (ho : o.op = .store tt x y) (hx : ev ρ x = .pointer (some ⟨g, 0, none⟩)) (hy : ev ρ y = u) (hu : u.cells = vs) (hs : szB P tt n = true) (hn : vs.size = n) (hcs : cs.size = n) (h1 : vs.toList.all (·.oneCell') = true) (h : ∀ w', Inv S w0 w' (B g t vs :: H) → WL P N ops Q rest ρ w') : WL P N ops Q (o :: rest) ρ w := WL_stw 0 rfl hI hw hd ho hx hy hu hs hn hcs h1 h
theorem WL_st0 {x y : Operand} {g j : Nat} {u : Value} {cs' : Array Value} (hI : Inv S w0 w (B g t cs :: H)) (hw : wantedR ops ρ o = true) (hd : o.dst = none) (ho : o.op = .store tt x y) (hx : ev ρ x = .pointer (some ⟨g, j, none⟩)) (hy : ev ρ y = u) (hu : u.cells = #[u]) (hs : szB P tt 1 = true) (h1 : u.oneCell' = true) (hj : Nat.blt j cs.size = true) (hc : cs.setIfInBounds j u = cs') (h : ∀ w', Inv S w0 w' (B g t cs' :: H) → WL P N ops Q rest ρ w') : WL P N ops Q (o :: rest) ρ w := WL_st 0 rfl hI hw hd ho hx hy hu hs h1 hj hc h
theorem Inv.c1 {e0 : Ent} (h : Inv S w0 w (e0 :: B g t cs :: H)) {j : Nat} {v : Value} (hc : cs[j]? = some v) : w.cell? ⟨g, j, none⟩ = some v := h.cell 1 rfl hc
theorem Inv.g1 {e0 : Ent} {e : Ent} (h : Inv S w0 w (e0 :: e :: H)) : e.Φ w := (h.ok e (List.mem_of_getElem? (i := 1) rfl)).1
theorem Inv.s1 {e0 : Ent} (h : Inv S w0 w (e0 :: B g t cs :: H)) (j : Nat) (v : Value) : Inv S w0 (w.setCell ⟨g, j, none⟩ v) (e0 :: B g t (cs.setIfInBounds j v) :: H) := h.set 1 rfl j v
theorem Inv.f1 {e0 : Ent} (h : Inv S w0 w (e0 :: B g t cs :: H)) (j : Nat) : w.frozen? ⟨g, j, none⟩ = false := ((h.ok (B g t cs) (List.mem_of_getElem? (i := 1) rfl)).1 : Blk w g t cs).frozen j
theorem Inv.d1 {e0 : Ent} {e : Ent} (h : Inv S w0 w (e0 :: e :: H)) : Inv S w0 w (e0 :: H) := h.erase 1
theorem Inv.u1 {e0 : Ent} {e e' : Ent} {w' : World} (h : Inv S w0 w (e0 :: e :: H)) (hc : Chg e.D w w') (ho : e'.ok w') (hD : ∀ k, e'.D k → e.D k ∨ w.heap.size ≤ k) : Inv S w0 w' (e0 :: e' :: H) := h.upd 1 rfl hc ho hD
theorem WL_stw1 {e0 : Ent} {x y : Operand} {g : Nat} {n : Nat} {vs : Array Value} {u : Value} (hI : Inv S w0 w (e0 :: B g t cs :: H)) (hw : wantedR ops ρ o = true) (hd : o.dst = none) (ho : o.op = .store tt x y) (hx : ev ρ x = .pointer (some ⟨g, 0, none⟩)) (hy : ev ρ y = u) (hu : u.cells = vs) (hs : szB P tt n = true) (hn : vs.size = n) (hcs : cs.size = n) (h1 : vs.toList.all (·.oneCell') = true) (h : ∀ w', Inv S w0 w' (e0 :: B g t vs :: H) → WL P N ops Q rest ρ w') : WL P N ops Q (o :: rest) ρ w := WL_stw 1 rfl hI hw hd ho hx hy hu hs hn hcs h1 h
theorem WL_st1 {e0 : Ent} {x y : Operand} {g j : Nat} {u : Value} {cs' : Array Value} (hI : Inv S w0 w (e0 :: B g t cs :: H)) (hw : wantedR ops ρ o = true) (hd : o.dst = none) (ho : o.op = .store tt x y) (hx : ev ρ x = .pointer (some ⟨g, j, none⟩)) (hy : ev ρ y = u) (hu : u.cells = #[u]) (hs : szB P tt 1 = true) (h1 : u.oneCell' = true) (hj : Nat.blt j cs.size = true) (hc : cs.setIfInBounds j u = cs') (h : ∀ w', Inv S w0 w' (e0 :: B g t cs' :: H) → WL P N ops Q rest ρ w') : WL P N ops Q (o :: rest) ρ w := WL_st 1 rfl hI hw hd ho hx hy hu hs h1 hj hc h
theorem Inv.c2 {e0 e1 : Ent} (h : Inv S w0 w (e0 :: e1 :: B g t cs :: H)) {j : Nat} {v : Value} (hc : cs[j]? = some v) : w.cell? ⟨g, j, none⟩ = some v := h.cell 2 rfl hc
theorem Inv.g2 {e0 e1 : Ent} {e : Ent} (h : Inv S w0 w (e0 :: e1 :: e :: H)) : e.Φ w := (h.ok e (List.mem_of_getElem? (i := 2) rfl)).1
theorem Inv.s2 {e0 e1 : Ent} (h : Inv S w0 w (e0 :: e1 :: B g t cs :: H)) (j : Nat) (v : Value) : Inv S w0 (w.setCell ⟨g, j, none⟩ v) (e0 :: e1 :: B g t (cs.setIfInBounds j v) :: H) := h.set 2 rfl j v
theorem Inv.f2 {e0 e1 : Ent} (h : Inv S w0 w (e0 :: e1 :: B g t cs :: H)) (j : Nat) : w.frozen? ⟨g, j, none⟩ = false := ((h.ok (B g t cs) (List.mem_of_getElem? (i := 2) rfl)).1 : Blk w g t cs).frozen j
theorem Inv.d2 {e0 e1 : Ent} {e : Ent} (h : Inv S w0 w (e0 :: e1 :: e :: H)) : Inv S w0 w (e0 :: e1 :: H) := h.erase 2
theorem Inv.u2 {e0 e1 : Ent} {e e' : Ent} {w' : World} (h : Inv S w0 w (e0 :: e1 :: e :: H)) (hc : Chg e.D w w') (ho : e'.ok w') (hD : ∀ k, e'.D k → e.D k ∨ w.heap.size ≤ k) : Inv S w0 w' (e0 :: e1 :: e' :: H) := h.upd 2 rfl hc ho hD
theorem WL_stw2 {e0 e1 : Ent} {x y : Operand} {g : Nat} {n : Nat} {vs : Array Value} {u : Value} (hI : Inv S w0 w (e0 :: e1 :: B g t cs :: H)) (hw : wantedR ops ρ o = true) (hd : o.dst = none) (ho : o.op = .store tt x y) (hx : ev ρ x = .pointer (some ⟨g, 0, none⟩)) (hy : ev ρ y = u) (hu : u.cells = vs) (hs : szB P tt n = true) (hn : vs.size = n) (hcs : cs.size = n) (h1 : vs.toList.all (·.oneCell') = true) (h : ∀ w', Inv S w0 w' (e0 :: e1 :: B g t vs :: H) → WL P N ops Q rest ρ w') : WL P N ops Q (o :: rest) ρ w := WL_stw 2 rfl hI hw hd ho hx hy hu hs hn hcs h1 h
theorem WL_st2 {e0 e1 : Ent} {x y : Operand} {g j : Nat} {u : Value} {cs' : Array Value} (hI : Inv S w0 w (e0 :: e1 :: B g t cs :: H)) (hw : wantedR ops ρ o = true) (hd : o.dst = none) (ho : o.op = .store tt x y) (hx : ev ρ x = .pointer (some ⟨g, j, none⟩)) (hy : ev ρ y = u) (hu : u.cells = #[u]) (hs : szB P tt 1 = true) (h1 : u.oneCell' = true) (hj : Nat.blt j cs.size = true) (hc : cs.setIfInBounds j u = cs') (h : ∀ w', Inv S w0 w' (e0 :: e1 :: B g t cs' :: H) → WL P N ops Q rest ρ w') : WL P N ops Q (o :: rest) ρ w := WL_st 2 rfl hI hw hd ho hx hy hu hs h1 hj hc h
theorem Inv.c3 {e0 e1 e2 : Ent} (h : Inv S w0 w (e0 :: e1 :: e2 :: B g t cs :: H)) {j : Nat} {v : Value} (hc : cs[j]? = some v) : w.cell? ⟨g, j, none⟩ = some v := h.cell 3 rfl hc
theorem Inv.g3 {e0 e1 e2 : Ent} {e : Ent} (h : Inv S w0 w (e0 :: e1 :: e2 :: e :: H)) : e.Φ w := (h.ok e (List.mem_of_getElem? (i := 3) rfl)).1
theorem Inv.s3 {e0 e1 e2 : Ent} (h : Inv S w0 w (e0 :: e1 :: e2 :: B g t cs :: H)) (j : Nat) (v : Value) : Inv S w0 (w.setCell ⟨g, j, none⟩ v) (e0 :: e1 :: e2 :: B g t (cs.setIfInBounds j v) :: H) := h.set 3 rfl j v
theorem Inv.f3 {e0 e1 e2 : Ent} (h : Inv S w0 w (e0 :: e1 :: e2 :: B g t cs :: H)) (j : Nat) : w.frozen? ⟨g, j, none⟩ = false := ((h.ok (B g t cs) (List.mem_of_getElem? (i := 3) rfl)).1 : Blk w g t cs).frozen j
theorem Inv.d3 {e0 e1 e2 : Ent} {e : Ent} (h : Inv S w0 w (e0 :: e1 :: e2 :: e :: H)) : Inv S w0 w (e0 :: e1 :: e2 :: H) := h.erase 3
theorem Inv.u3 {e0 e1 e2 : Ent} {e e' : Ent} {w' : World} (h : Inv S w0 w (e0 :: e1 :: e2 :: e :: H)) (hc : Chg e.D w w') (ho : e'.ok w') (hD : ∀ k, e'.D k → e.D k ∨ w.heap.size ≤ k) : Inv S w0 w' (e0 :: e1 :: e2 :: e' :: H) := h.upd 3 rfl hc ho hD
theorem WL_stw3 {e0 e1 e2 : Ent} {x y : Operand} {g : Nat} {n : Nat} {vs : Array Value} {u : Value} (hI : Inv S w0 w (e0 :: e1 :: e2 :: B g t cs :: H)) (hw : wantedR ops ρ o = true) (hd : o.dst = none) (ho : o.op = .store tt x y) (hx : ev ρ x = .pointer (some ⟨g, 0, none⟩)) (hy : ev ρ y = u) (hu : u.cells = vs) (hs : szB P tt n = true) (hn : vs.size = n) (hcs : cs.size = n) (h1 : vs.toList.all (·.oneCell') = true) (h : ∀ w', Inv S w0 w' (e0 :: e1 :: e2 :: B g t vs :: H) → WL P N ops Q rest ρ w') : WL P N ops Q (o :: rest) ρ w := WL_stw 3 rfl hI hw hd ho hx hy hu hs hn hcs h1 h
theorem WL_st3 {e0 e1 e2 : Ent} {x y : Operand} {g j : Nat} {u : Value} {cs' : Array Value} (hI : Inv S w0 w (e0 :: e1 :: e2 :: B g t cs :: H)) (hw : wantedR ops ρ o = true) (hd : o.dst = none) (ho : o.op = .store tt x y) (hx : ev ρ x = .pointer (some ⟨g, j, none⟩)) (hy : ev ρ y = u) (hu : u.cells = #[u]) (hs : szB P tt 1 = true) (h1 : u.oneCell' = true) (hj : Nat.blt j cs.size = true) (hc : cs.setIfInBounds j u = cs') (h : ∀ w', Inv S w0 w' (e0 :: e1 :: e2 :: B g t cs' :: H) → WL P N ops Q rest ρ w') : WL P N ops Q (o :: rest) ρ w := WL_st 3 rfl hI hw hd ho hx hy hu hs h1 hj hc h
theorem Inv.c4 {e0 e1 e2 e3 : Ent} (h : Inv S w0 w (e0 :: e1 :: e2 :: e3 :: B g t cs :: H)) {j : Nat} {v : Value} (hc : cs[j]? = some v) : w.cell? ⟨g, j, none⟩ = some v := h.cell 4 rfl hc
theorem Inv.g4 {e0 e1 e2 e3 : Ent} {e : Ent} (h : Inv S w0 w (e0 :: e1 :: e2 :: e3 :: e :: H)) : e.Φ w := (h.ok e (List.mem_of_getElem? (i := 4) rfl)).1
theorem Inv.s4 {e0 e1 e2 e3 : Ent} (h : Inv S w0 w (e0 :: e1 :: e2 :: e3 :: B g t cs :: H)) (j : Nat) (v : Value) : Inv S w0 (w.setCell ⟨g, j, none⟩ v) (e0 :: e1 :: e2 :: e3 :: B g t (cs.setIfInBounds j v) :: H) := h.set 4 rfl j v
theorem Inv.f4 {e0 e1 e2 e3 : Ent} (h : Inv S w0 w (e0 :: e1 :: e2 :: e3 :: B g t cs :: H)) (j : Nat) : w.frozen? ⟨g, j, none⟩ = false := ((h.ok (B g t cs) (List.mem_of_getElem? (i := 4) rfl)).1 : Blk w g t cs).frozen j
theorem Inv.d4 {e0 e1 e2 e3 : Ent} {e : Ent} (h : Inv S w0 w (e0 :: e1 :: e2 :: e3 :: e :: H)) : Inv S w0 w (e0 :: e1 :: e2 :: e3 :: H) := h.erase 4
theorem Inv.u4 {e0 e1 e2 e3 : Ent} {e e' : Ent} {w' : World} (h : Inv S w0 w (e0 :: e1 :: e2 :: e3 :: e :: H)) (hc : Chg e.D w w') (ho : e'.ok w') (hD : ∀ k, e'.D k → e.D k ∨ w.heap.size ≤ k) : Inv S w0 w' (e0 :: e1 :: e2 :: e3 :: e' :: H) := h.upd 4 rfl hc ho hD
theorem WL_stw4 {e0 e1 e2 e3 : Ent} {x y : Operand} {g : Nat} {n : Nat} {vs : Array Value} {u : Value} (hI : Inv S w0 w (e0 :: e1 :: e2 :: e3 :: B g t cs :: H)) (hw : wantedR ops ρ o = true) (hd : o.dst = none) (ho : o.op = .store tt x y) (hx : ev ρ x = .pointer (some ⟨g, 0, none⟩)) (hy : ev ρ y = u) (hu : u.cells = vs) (hs : szB P tt n = true) (hn : vs.size = n) (hcs : cs.size = n) (h1 : vs.toList.all (·.oneCell') = true) (h : ∀ w', Inv S w0 w' (e0 :: e1 :: e2 :: e3 :: B g t vs :: H) → WL P N ops Q rest ρ w') : WL P N ops Q (o :: rest) ρ w := WL_stw 4 rfl hI hw hd ho hx hy hu hs hn hcs h1 h
theorem WL_st4 {e0 e1 e2 e3 : Ent} {x y : Operand} {g j : Nat} {u : Value} {cs' : Array Value} (hI : Inv S w0 w (e0 :: e1 :: e2 :: e3 :: B g t cs :: H)) (hw : wantedR ops ρ o = true) (hd : o.dst = none) (ho : o.op = .store tt x y) (hx : ev ρ x = .pointer (some ⟨g, j, none⟩)) (hy : ev ρ y = u) (hu : u.cells = #[u]) (hs : szB P tt 1 = true) (h1 : u.oneCell' = true) (hj : Nat.blt j cs.size = true) (hc : cs.setIfInBounds j u = cs') (h : ∀ w', Inv S w0 w' (e0 :: e1 :: e2 :: e3 :: B g t cs' :: H) → WL P N ops Q rest ρ w') : WL P N ops Q (o :: rest) ρ w := WL_st 4 rfl hI hw hd ho hx hy hu hs h1 hj hc h
theorem Inv.c5 {e0 e1 e2 e3 e4 : Ent} (h : Inv S w0 w (e0 :: e1 :: e2 :: e3 :: e4 :: B g t cs :: H)) {j : Nat} {v : Value} (hc : cs[j]? = some v) : w.cell? ⟨g, j, none⟩ = some v := h.cell 5 rfl hc
theorem Inv.g5 {e0 e1 e2 e3 e4 : Ent} {e : Ent} (h : Inv S w0 w (e0 :: e1 :: e2 :: e3 :: e4 :: e :: H)) : e.Φ w := (h.ok e (List.mem_of_getElem? (i := 5) rfl)).1
theorem Inv.s5 {e0 e1 e2 e3 e4 : Ent} (h : Inv S w0 w (e0 :: e1 :: e2 :: e3 :: e4 :: B g t cs :: H)) (j : Nat) (v : Value) : Inv S w0 (w.setCell ⟨g, j, none⟩ v) (e0 :: e1 :: e2 :: e3 :: e4 :: B g t (cs.setIfInBounds j v) :: H) := h.set 5 rfl j v
theorem Inv.f5 {e0 e1 e2 e3 e4 : Ent} (h : Inv S w0 w (e0 :: e1 :: e2 :: e3 :: e4 :: B g t cs :: H)) (j : Nat) : w.frozen? ⟨g, j, none⟩ = false := ((h.ok (B g t cs) (List.mem_of_getElem? (i := 5) rfl)).1 : Blk w g t cs).frozen j
theorem Inv.d5 {e0 e1 e2 e3 e4 : Ent} {e : Ent} (h : Inv S w0 w (e0 :: e1 :: e2 :: e3 :: e4 :: e :: H)) : Inv S w0 w (e0 :: e1 :: e2 :: e3 :: e4 :: H) := h.erase 5
theorem Inv.u5 {e0 e1 e2 e3 e4 : Ent} {e e' : Ent} {w' : World} (h : Inv S w0 w (e0 :: e1 :: e2 :: e3 :: e4 :: e :: H)) (hc : Chg e.D w w') (ho : e'.ok w') (hD : ∀ k, e'.D k → e.D k ∨ w.heap.size ≤ k) : Inv S w0 w' (e0 :: e1 :: e2 :: e3 :: e4 :: e' :: H) := h.upd 5 rfl hc ho hD
theorem WL_stw5 {e0 e1 e2 e3 e4 : Ent} {x y : Operand} {g : Nat} {n : Nat} {vs : Array Value} {u : Value} (hI : Inv S w0 w (e0 :: e1 :: e2 :: e3 :: e4 :: B g t cs :: H)) (hw : wantedR ops ρ o = true) (hd : o.dst = none) (ho : o.op = .store tt x y) (hx : ev ρ x = .pointer (some ⟨g, 0, none⟩)) (hy : ev ρ y = u) (hu : u.cells = vs) (hs : szB P tt n = true) (hn : vs.size = n) (hcs : cs.size = n) (h1 : vs.toList.all (·.oneCell') = true) (h : ∀ w', Inv S w0 w' (e0 :: e1 :: e2 :: e3 :: e4 :: B g t vs :: H) → WL P N ops Q rest ρ w') : WL P N ops Q (o :: rest) ρ w := WL_stw 5 rfl hI hw hd ho hx hy hu hs hn hcs h1 h
theorem WL_st5 {e0 e1 e2 e3 e4 : Ent} {x y : Operand} {g j : Nat} {u : Value} {cs' : Array Value} (hI : Inv S w0 w (e0 :: e1 :: e2 :: e3 :: e4 :: B g t cs :: H)) (hw : wantedR ops ρ o = true) (hd : o.dst = none) (ho : o.op = .store tt x y) (hx : ev ρ x = .pointer (some ⟨g, j, none⟩)) (hy : ev ρ y = u) (hu : u.cells = #[u]) (hs : szB P tt 1 = true) (h1 : u.oneCell' = true) (hj : Nat.blt j cs.size = true) (hc : cs.setIfInBounds j u = cs') (h : ∀ w', Inv S w0 w' (e0 :: e1 :: e2 :: e3 :: e4 :: B g t cs' :: H) → WL P N ops Q rest ρ w') : WL P N ops Q (o :: rest) ρ w := WL_st 5 rfl hI hw hd ho hx hy hu hs h1 hj hc h
theorem Inv.c6 {e0 e1 e2 e3 e4 e5 : Ent} (h : Inv S w0 w (e0 :: e1 :: e2 :: e3 :: e4 :: e5 :: B g t cs :: H)) {j : Nat} {v : Value} (hc : cs[j]? = some v) : w.cell? ⟨g, j, none⟩ = some v := h.cell 6 rfl hc
theorem Inv.g6 {e0 e1 e2 e3 e4 e5 : Ent} {e : Ent} (h : Inv S w0 w (e0 :: e1 :: e2 :: e3 :: e4 :: e5 :: e :: H)) : e.Φ w := (h.ok e (List.mem_of_getElem? (i := 6) rfl)).1
theorem Inv.s6 {e0 e1 e2 e3 e4 e5 : Ent} (h : Inv S w0 w (e0 :: e1 :: e2 :: e3 :: e4 :: e5 :: B g t cs :: H)) (j : Nat) (v : Value) : Inv S w0 (w.setCell ⟨g, j, none⟩ v) (e0 :: e1 :: e2 :: e3 :: e4 :: e5 :: B g t (cs.setIfInBounds j v) :: H) := h.set 6 rfl j v
theorem Inv.f6 {e0 e1 e2 e3 e4 e5 : Ent} (h : Inv S w0 w (e0 :: e1 :: e2 :: e3 :: e4 :: e5 :: B g t cs :: H)) (j : Nat) : w.frozen? ⟨g, j, none⟩ = false := ((h.ok (B g t cs) (List.mem_of_getElem? (i := 6) rfl)).1 : Blk w g t cs).frozen j
theorem Inv.d6 {e0 e1 e2 e3 e4 e5 : Ent} {e : Ent} (h : Inv S w0 w (e0 :: e1 :: e2 :: e3 :: e4 :: e5 :: e :: H)) : Inv S w0 w (e0 :: e1 :: e2 :: e3 :: e4 :: e5 :: H) := h.erase 6
theorem Inv.u6 {e0 e1 e2 e3 e4 e5 : Ent} {e e' : Ent} {w' : World} (h : Inv S w0 w (e0 :: e1 :: e2 :: e3 :: e4 :: e5 :: e :: H)) (hc : Chg e.D w w') (ho : e'.ok w') (hD : ∀ k, e'.D k → e.D k ∨ w.heap.size ≤ k) : Inv S w0 w' (e0 :: e1 :: e2 :: e3 :: e4 :: e5 :: e' :: H) := h.upd 6 rfl hc ho hD
theorem WL_stw6 {e0 e1 e2 e3 e4 e5 : Ent} {x y : Operand} {g : Nat} {n : Nat} {vs : Array Value} {u : Value} (hI : Inv S w0 w (e0 :: e1 :: e2 :: e3 :: e4 :: e5 :: B g t cs :: H)) (hw : wantedR ops ρ o = true) (hd : o.dst = none) (ho : o.op = .store tt x y) (hx : ev ρ x = .pointer (some ⟨g, 0, none⟩)) (hy : ev ρ y = u) (hu : u.cells = vs) (hs : szB P tt n = true) (hn : vs.size = n) (hcs : cs.size = n) (h1 : vs.toList.all (·.oneCell') = true) (h : ∀ w', Inv S w0 w' (e0 :: e1 :: e2 :: e3 :: e4 :: e5 :: B g t vs :: H) → WL P N ops Q rest ρ w') : WL P N ops Q (o :: rest) ρ w := WL_stw 6 rfl hI hw hd ho hx hy hu hs hn hcs h1 h
theorem WL_st6 {e0 e1 e2 e3 e4 e5 : Ent} {x y : Operand} {g j : Nat} {u : Value} {cs' : Array Value} (hI : Inv S w0 w (e0 :: e1 :: e2 :: e3 :: e4 :: e5 :: B g t cs :: H)) (hw : wantedR ops ρ o = true) (hd : o.dst = none) (ho : o.op = .store tt x y) (hx : ev ρ x = .pointer (some ⟨g, j, none⟩)) (hy : ev ρ y = u) (hu : u.cells = #[u]) (hs : szB P tt 1 = true) (h1 : u.oneCell' = true) (hj : Nat.blt j cs.size = true) (hc : cs.setIfInBounds j u = cs') (h : ∀ w', Inv S w0 w' (e0 :: e1 :: e2 :: e3 :: e4 :: e5 :: B g t cs' :: H) → WL P N ops Q rest ρ w') : WL P N ops Q (o :: rest) ρ w := WL_st 6 rfl hI hw hd ho hx hy hu hs h1 hj hc h
theorem Inv.c7 {e0 e1 e2 e3 e4 e5 e6 : Ent} (h : Inv S w0 w (e0 :: e1 :: e2 :: e3 :: e4 :: e5 :: e6 :: B g t cs :: H)) {j : Nat} {v : Value} (hc : cs[j]? = some v) : w.cell? ⟨g, j, none⟩ = some v := h.cell 7 rfl hc
theorem Inv.g7 {e0 e1 e2 e3 e4 e5 e6 : Ent} {e : Ent} (h : Inv S w0 w (e0 :: e1 :: e2 :: e3 :: e4 :: e5 :: e6 :: e :: H)) : e.Φ w := (h.ok e (List.mem_of_getElem? (i := 7) rfl)).1
theorem Inv.s7 {e0 e1 e2 e3 e4 e5 e6 : Ent} (h : Inv S w0 w (e0 :: e1 :: e2 :: e3 :: e4 :: e5 :: e6 :: B g t cs :: H)) (j : Nat) (v : Value) : Inv S w0 (w.setCell ⟨g, j, none⟩ v) (e0 :: e1 :: e2 :: e3 :: e4 :: e5 :: e6 :: B g t (cs.setIfInBounds j v) :: H) := h.set 7 rfl j v
theorem Inv.f7 {e0 e1 e2 e3 e4 e5 e6 : Ent} (h : Inv S w0 w (e0 :: e1 :: e2 :: e3 :: e4 :: e5 :: e6 :: B g t cs :: H)) (j : Nat) : w.frozen? ⟨g, j, none⟩ = false := ((h.ok (B g t cs) (List.mem_of_getElem? (i := 7) rfl)).1 : Blk w g t cs).frozen j
theorem Inv.d7 {e0 e1 e2 e3 e4 e5 e6 : Ent} {e : Ent} (h : Inv S w0 w (e0 :: e1 :: e2 :: e3 :: e4 :: e5 :: e6 :: e :: H)) : Inv S w0 w (e0 :: e1 :: e2 :: e3 :: e4 :: e5 :: e6 :: H) := h.erase 7
theorem Inv.u7 {e0 e1 e2 e3 e4 e5 e6 : Ent} {e e' : Ent} {w' : World} (h : Inv S w0 w (e0 :: e1 :: e2 :: e3 :: e4 :: e5 :: e6 :: e :: H)) (hc : Chg e.D w w') (ho : e'.ok w') (hD : ∀ k, e'.D k → e.D k ∨ w.heap.size ≤ k) : Inv S w0 w' (e0 :: e1 :: e2 :: e3 :: e4 :: e5 :: e6 :: e' :: H) := h.upd 7 rfl hc ho hD
theorem WL_stw7 {e0 e1 e2 e3 e4 e5 e6 : Ent} {x y : Operand} {g : Nat} {n : Nat} {vs : Array Value} {u : Value} (hI : Inv S w0 w (e0 :: e1 :: e2 :: e3 :: e4 :: e5 :: e6 :: B g t cs :: H)) (hw : wantedR ops ρ o = true) (hd : o.dst = none) (ho : o.op = .store tt x y) (hx : ev ρ x = .pointer (some ⟨g, 0, none⟩)) (hy : ev ρ y = u) (hu : u.cells = vs) (hs : szB P tt n = true) (hn : vs.size = n) (hcs : cs.size = n) (h1 : vs.toList.all (·.oneCell') = true) (h : ∀ w', Inv S w0 w' (e0 :: e1 :: e2 :: e3 :: e4 :: e5 :: e6 :: B g t vs :: H) → WL P N ops Q rest ρ w') : WL P N ops Q (o :: rest) ρ w := WL_stw 7 rfl hI hw hd ho hx hy hu hs hn hcs h1 h
theorem WL_st7 {e0 e1 e2 e3 e4 e5 e6 : Ent} {x y : Operand} {g j : Nat} {u : Value} {cs' : Array Value} (hI : Inv S w0 w (e0 :: e1 :: e2 :: e3 :: e4 :: e5 :: e6 :: B g t cs :: H)) (hw : wantedR ops ρ o = true) (hd : o.dst = none) (ho : o.op = .store tt x y) (hx : ev ρ x = .pointer (some ⟨g, j, none⟩)) (hy : ev ρ y = u) (hu : u.cells = #[u]) (hs : szB P tt 1 = true) (h1 : u.oneCell' = true) (hj : Nat.blt j cs.size = true) (hc : cs.setIfInBounds j u = cs') (h : ∀ w', Inv S w0 w' (e0 :: e1 :: e2 :: e3 :: e4 :: e5 :: e6 :: B g t cs' :: H) → WL P N ops Q rest ρ w') : WL P N ops Q (o :: rest) ρ w := WL_st 7 rfl hI hw hd ho hx hy hu hs h1 hj hc h
theorem Inv.c8 {e0 e1 e2 e3 e4 e5 e6 e7 : Ent} (h : Inv S w0 w (e0 :: e1 :: e2 :: e3 :: e4 :: e5 :: e6 :: e7 :: B g t cs :: H)) {j : Nat} {v : Value} (hc : cs[j]? = some v) : w.cell? ⟨g, j, none⟩ = some v := h.cell 8 rfl hc
theorem Inv.g8 {e0 e1 e2 e3 e4 e5 e6 e7 : Ent} {e : Ent} (h : Inv S w0 w (e0 :: e1 :: e2 :: e3 :: e4 :: e5 :: e6 :: e7 :: e :: H)) : e.Φ w := (h.ok e (List.mem_of_getElem? (i := 8) rfl)).1
theorem Inv.s8 {e0 e1 e2 e3 e4 e5 e6 e7 : Ent} (h : Inv S w0 w (e0 :: e1 :: e2 :: e3 :: e4 :: e5 :: e6 :: e7 :: B g t cs :: H)) (j : Nat) (v : Value) : Inv S w0 (w.setCell ⟨g, j, none⟩ v) (e0 :: e1 :: e2 :: e3 :: e4 :: e5 :: e6 :: e7 :: B g t (cs.setIfInBounds j v) :: H) := h.set 8 rfl j v
theorem Inv.f8 {e0 e1 e2 e3 e4 e5 e6 e7 : Ent} (h : Inv S w0 w (e0 :: e1 :: e2 :: e3 :: e4 :: e5 :: e6 :: e7 :: B g t cs :: H)) (j : Nat) : w.frozen? ⟨g, j, none⟩ = false := ((h.ok (B g t cs) (List.mem_of_getElem? (i := 8) rfl)).1 : Blk w g t cs).frozen j
theorem Inv.d8 {e0 e1 e2 e3 e4 e5 e6 e7 : Ent} {e : Ent} (h : Inv S w0 w (e0 :: e1 :: e2 :: e3 :: e4 :: e5 :: e6 :: e7 :: e :: H)) : Inv S w0 w (e0 :: e1 :: e2 :: e3 :: e4 :: e5 :: e6 :: e7 :: H) := h.erase 8
theorem Inv.u8 {e0 e1 e2 e3 e4 e5 e6 e7 : Ent} {e e' : Ent} {w' : World} (h : Inv S w0 w (e0 :: e1 :: e2 :: e3 :: e4 :: e5 :: e6 :: e7 :: e :: H)) (hc : Chg e.D w w') (ho : e'.ok w') (hD : ∀ k, e'.D k → e.D k ∨ w.heap.size ≤ k) : Inv S w0 w' (e0 :: e1 :: e2 :: e3 :: e4 :: e5 :: e6 :: e7 :: e' :: H) := h.upd 8 rfl hc ho hD
theorem WL_stw8 {e0 e1 e2 e3 e4 e5 e6 e7 : Ent} {x y : Operand} {g : Nat} {n : Nat} {vs : Array Value} {u : Value} (hI : Inv S w0 w (e0 :: e1 :: e2 :: e3 :: e4 :: e5 :: e6 :: e7 :: B g t cs :: H)) (hw : wantedR ops ρ o = true) (hd : o.dst = none) (ho : o.op = .store tt x y) (hx : ev ρ x = .pointer (some ⟨g, 0, none⟩)) (hy : ev ρ y = u) (hu : u.cells = vs) (hs : szB P tt n = true) (hn : vs.size = n) (hcs : cs.size = n) (h1 : vs.toList.all (·.oneCell') = true) (h : ∀ w', Inv S w0 w' (e0 :: e1 :: e2 :: e3 :: e4 :: e5 :: e6 :: e7 :: B g t vs :: H) → WL P N ops Q rest ρ w') : WL P N ops Q (o :: rest) ρ w := WL_stw 8 rfl hI hw hd ho hx hy hu hs hn hcs h1 h
theorem WL_st8 {e0 e1 e2 e3 e4 e5 e6 e7 : Ent} {x y : Operand} {g j : Nat} {u : Value} {cs' : Array Value} (hI : Inv S w0 w (e0 :: e1 :: e2 :: e3 :: e4 :: e5 :: e6 :: e7 :: B g t cs :: H)) (hw : wantedR ops ρ o = true) (hd : o.dst = none) (ho : o.op = .store tt x y) (hx : ev ρ x = .pointer (some ⟨g, j, none⟩)) (hy : ev ρ y = u) (hu : u.cells = #[u]) (hs : szB P tt 1 = true) (h1 : u.oneCell' = true) (hj : Nat.blt j cs.size = true) (hc : cs.setIfInBounds j u = cs') (h : ∀ w', Inv S w0 w' (e0 :: e1 :: e2 :: e3 :: e4 :: e5 :: e6 :: e7 :: B g t cs' :: H) → WL P N ops Q rest ρ w') : WL P N ops Q (o :: rest) ρ w := WL_st 8 rfl hI hw hd ho hx hy hu hs h1 hj hc h
theorem Inv.c9 {e0 e1 e2 e3 e4 e5 e6 e7 e8 : Ent} (h : Inv S w0 w (e0 :: e1 :: e2 :: e3 :: e4 :: e5 :: e6 :: e7 :: e8 :: B g t cs :: H)) {j : Nat} {v : Value} (hc : cs[j]? = some v) : w.cell? ⟨g, j, none⟩ = some v := h.cell 9 rfl hc
theorem Inv.g9 {e0 e1 e2 e3 e4 e5 e6 e7 e8 : Ent} {e : Ent} (h : Inv S w0 w (e0 :: e1 :: e2 :: e3 :: e4 :: e5 :: e6 :: e7 :: e8 :: e :: H)) : e.Φ w := (h.ok e (List.mem_of_getElem? (i := 9) rfl)).1
theorem Inv.s9 {e0 e1 e2 e3 e4 e5 e6 e7 e8 : Ent} (h : Inv S w0 w (e0 :: e1 :: e2 :: e3 :: e4 :: e5 :: e6 :: e7 :: e8 :: B g t cs :: H)) (j : Nat) (v : Value) : Inv S w0 (w.setCell ⟨g, j, none⟩ v) (e0 :: e1 :: e2 :: e3 :: e4 :: e5 :: e6 :: e7 :: e8 :: B g t (cs.setIfInBounds j v) :: H) := h.set 9 rfl j v
theorem Inv.f9 {e0 e1 e2 e3 e4 e5 e6 e7 e8 : Ent} (h : Inv S w0 w (e0 :: e1 :: e2 :: e3 :: e4 :: e5 :: e6 :: e7 :: e8 :: B g t cs :: H)) (j : Nat) : w.frozen? ⟨g, j, none⟩ = false := ((h.ok (B g t cs) (List.mem_of_getElem? (i := 9) rfl)).1 : Blk w g t cs).frozen j
theorem Inv.d9 {e0 e1 e2 e3 e4 e5 e6 e7 e8 : Ent} {e : Ent} (h : Inv S w0 w (e0 :: e1 :: e2 :: e3 :: e4 :: e5 :: e6 :: e7 :: e8 :: e :: H)) : Inv S w0 w (e0 :: e1 :: e2 :: e3 :: e4 :: e5 :: e6 :: e7 :: e8 :: H) := h.erase 9
theorem Inv.u9 {e0 e1 e2 e3 e4 e5 e6 e7 e8 : Ent} {e e' : Ent} {w' : World} (h : Inv S w0 w (e0 :: e1 :: e2 :: e3 :: e4 :: e5 :: e6 :: e7 :: e8 :: e :: H)) (hc : Chg e.D w w') (ho : e'.ok w') (hD : ∀ k, e'.D k → e.D k ∨ w.heap.size ≤ k) : Inv S w0 w' (e0 :: e1 :: e2 :: e3 :: e4 :: e5 :: e6 :: e7 :: e8 :: e' :: H) := h.upd 9 rfl hc ho hD
theorem WL_stw9 {e0 e1 e2 e3 e4 e5 e6 e7 e8 : Ent} {x y : Operand} {g : Nat} {n : Nat} {vs : Array Value} {u : Value} (hI : Inv S w0 w (e0 :: e1 :: e2 :: e3 :: e4 :: e5 :: e6 :: e7 :: e8 :: B g t cs :: H)) (hw : wantedR ops ρ o = true) (hd : o.dst = none) (ho : o.op = .store tt x y) (hx : ev ρ x = .pointer (some ⟨g, 0, none⟩)) (hy : ev ρ y = u) (hu : u.cells = vs) (hs : szB P tt n = true) (hn : vs.size = n) (hcs : cs.size = n) (h1 : vs.toList.all (·.oneCell') = true) (h : ∀ w', Inv S w0 w' (e0 :: e1 :: e2 :: e3 :: e4 :: e5 :: e6 :: e7 :: e8 :: B g t vs :: H) → WL P N ops Q rest ρ w') : WL P N ops Q (o :: rest) ρ w := WL_stw 9 rfl hI hw hd ho hx hy hu hs hn hcs h1 h
theorem WL_st9 {e0 e1 e2 e3 e4 e5 e6 e7 e8 : Ent} {x y : Operand} {g j : Nat} {u : Value} {cs' : Array Value} (hI : Inv S w0 w (e0 :: e1 :: e2 :: e3 :: e4 :: e5 :: e6 :: e7 :: e8 :: B g t cs :: H)) (hw : wantedR ops ρ o = true) (hd : o.dst = none) (ho : o.op = .store tt x y) (hx : ev ρ x = .pointer (some ⟨g, j, none⟩)) (hy : ev ρ y = u) (hu : u.cells = #[u]) (hs : szB P tt 1 = true) (h1 : u.oneCell' = true) (hj : Nat.blt j cs.size = true) (hc : cs.setIfInBounds j u = cs') (h : ∀ w', Inv S w0 w' (e0 :: e1 :: e2 :: e3 :: e4 :: e5 :: e6 :: e7 :: e8 :: B g t cs' :: H) → WL P N ops Q rest ρ w') : WL P N ops Q (o :: rest) ρ w := WL_st 9 rfl hI hw hd ho hx hy hu hs h1 hj hc h
theorem WA_inv {fuel : Nat} {listed : Array Bool} {T : List Nat} (hI : Inv S w0 w H) (h : ∀ Sx : World → Prop, (∀ W, Sx W → Inv S w0 W H) → (∀ W, Inv S w0 W H → Sx W) → WT P N ops Q Sx T fuel listed ρ w) : WA P N ops Q fuel listed ρ w :=
  WA_T (fun W => Inv S w0 W H) T (h _ (fun _ h => h) (fun _ h => h))
theorem upd_self {ρ : Env} {d : Nat} {v : Value} (h : ρ d = v) : ρ = upd ρ d v := by
  funext i
  unfold upd
  cases hb : Nat.beq i d with
  | false => rfl
  | true => rw [Nat.eq_of_beq_eq_true hb]; exact h
end
theorem Inv.own1 {w : World} {g t : Nat} {cs : Array Value} (h : Blk w g t cs) : Inv (fun k => k = g) w w [B g t cs] :=
  ⟨Chg.refl _ w, fun e he => by rcases List.mem_singleton.1 he with rfl; exact B.ok h, fun e he k hk => by rcases List.mem_singleton.1 he with rfl; exact .inl hk, List.pairwise_singleton ..⟩
/-- What some slots hold. -/
def Has (ρ : Env) : List (Nat × Value) → Prop
  | [] => True
  | p :: l => ρ p.1 = p.2 ∧ Has ρ l
def upds (σ : Env) : List (Nat × Value) → Env
  | [] => σ
  | p :: l => upd (upds σ l) p.1 p.2
theorem Has.self {ρ : Env} : ∀ {l : List (Nat × Value)}, Has ρ l → upds ρ l = ρ
  | [], _ => rfl
  | p :: l, h => by
    show upd (upds ρ l) p.1 p.2 = ρ
    rw [Has.self h.2]
    exact (upd_self h.1).symm
theorem Has.open {ρ : Env} {l : List (Nat × Value)} (h : Has ρ l) : ∃ σ, ρ = upds σ l := ⟨ρ, h.self.symm⟩
def cnt : Value → Nat
  | .int _ n => n.toNat
  | _ => 0
theorem Ent.mk_ok {D : Nat → Prop} {Φ : World → Prop} {w : World} (h : Φ w) (hD : ∀ k, D k → k < w.heap.size) (hc : ∀ (S : Nat → Prop) (w1 w2 : World), Chg S w1 w2 → (∀ k, D k → ¬ S k) → Φ w1 → Φ w2) : Ent.ok ⟨D, Φ⟩ w := ⟨h, hD, hc⟩
end Go.Proofs.YtlmpolmalgpodaaDoor
