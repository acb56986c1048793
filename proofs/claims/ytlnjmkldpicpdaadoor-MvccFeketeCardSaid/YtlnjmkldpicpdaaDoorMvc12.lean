/- mvcc: Spans, Story. -/
import Derived.Test.YtlnjmkldpicpdaaDoorMvc11
namespace Go.Proofs.YtlnjmkldpicpdaaDoor
open Go.RowKit
set_option linter.unusedVariables false
set_option linter.unusedSimpArgs false
def spanV (t : Mx) : List Value := [.int .i64 t.beg, .int .i64 t.com]
theorem take_txs {s : Bs} {k : Nat} (h : k < s.txs.length) : s.txs.take (k + 1) = s.txs.take k ++ [txAt s k] := by
  rw [List.take_succ_eq_append_getElem h]
  have := txAt_get h
  rw [List.getElem?_eq_getElem h] at this
  injection this with this
  rw [this]
set_option maxHeartbeats 1000000 in
theorem spans_any (b : Nat) (s : Bs) (D : Nat → Prop) (w0 : World) (h : BsAt w0 D b s) :
    Calls Tryd.prog 10 #[.pointer (some ⟨b, 0, none⟩)] w0 fun en w' => ∃ A c, en = .returned (.slice A s.txs.length c) ∧ Inv (fun _ => False) w0 w' [Row 0 34 2 A s.txs.length c (s.txs.flatMap spanV)] := by
  obtain ⟨At, ct, ha, hm⟩ := h.txs
  have hlen := h.tlen
  have hI := Inv.start (fun _ => False) w0
  refine calls_of_W (N := Tryd.f10.ntmps) Tryd.func10 rfl rfl rfl ?_
  refine W_seq ?_
  refine W_region ?_
  refine WL_val rfl rfl rfl (by first | exact rAsgnS rfl rfl | exact rAsgn rfl) ?_
  refine WL_nil ?_
  refine W_seq ?_
  refine W_seq ?_
  refine W_region ?_
  refine WL_val rfl rfl rfl (by first | exact rMoveP rfl rfl | exact rMove rfl) ?_
  refine WL_val rfl rfl rfl (rPtrEq rfl Tryd.underlying23 rfl rfl) ?_
  refine WL_nil ?_
  refine W_cond false rfl ?_
  refine W_skip ?_
  refine W_seq ?_
  refine W_region ?_
  refine WL_val rfl rfl rfl (by first | exact rAsgnS rfl rfl | exact rAsgn rfl) ?_
  refine WL_nil ?_
  refine W_seq ?_
  refine W_seq ?_
  refine W_region ?_
  refine WL_val rfl rfl rfl (by first | exact rMoveP rfl rfl | exact rMove rfl) ?_
  refine WL_val rfl rfl rfl (rNilChk rfl rfl) ?_
  refine WL_val rfl rfl rfl (by first | exact rFldN (off := 1) rfl (by kernel_rfl) rfl | exact rFld (off := 1) rfl (by kernel_rfl) rfl) ?_
  refine WL_val rfl rfl rfl (by first | exact rLd (v := .slice _ _ _) rfl (by kernel_rfl) rfl (by first | exact hI.c0 rfl | exact hI.c1 rfl | exact hI.c2 rfl | exact hI.c3 rfl | exact hI.c4 rfl | exact hI.c5 rfl | exact hI.oldp ha | exact ha) | exact rLd rfl (by kernel_rfl) rfl (by first | exact hI.c0 rfl | exact hI.c1 rfl | exact hI.c2 rfl | exact hI.c3 rfl | exact hI.c4 rfl | exact hI.c5 rfl | exact hI.oldp ha | exact ha)) ?_
  refine WL_val rfl rfl rfl (rLen rfl Tryd.underlying61 rfl) ?_
  refine WL_val rfl rfl rfl (by first | exact rMoveI rfl rfl | exact rMove rfl) ?_
  refine WL_nil ?_
  refine W_block ?_
  refine W_loop (fun ρ w => ∃ k A c, k ≤ s.txs.length ∧ Has ρ [(13, .int .i64 ((k : Nat) : Int)), (12, .int .i64 (s.txs.length : Int)), (11, .slice At s.txs.length ct), (3, .slice A k c)] ∧ Inv (fun _ => False) w0 w [Row 0 34 2 A k c ((s.txs.take k).flatMap spanV)]) (fun ρ _ => s.txs.length - cnt (ρ 13))
    ⟨0, none, 0, by omega, ⟨rfl, rfl, rfl, rfl, trivial⟩, hI.fresh (Pure.refl _) (Row.nil _ 0 34 2) (fun k hk => by simp [Row] at hk)⟩ ?_
  clear hI
  rintro ρ w ⟨k, A, c, hk, hH, hI⟩
  obtain ⟨σ, rfl⟩ := hH.open
  by_cases hkn : k < s.txs.length
  · obtain ⟨tb, tf, A1, c1, rfl, hDt, q0, q1, q2, q3, ho⟩ := hm.get (txAt_get hkn)
    refine W_seq ?_
    refine W_region ?_
    refine WL_val rfl rfl rfl (by first | exact rLssT rfl rfl rfl (by omega) | exact rLssF rfl rfl rfl (by omega) | exact rLss rfl rfl rfl) ?_
    refine WL_nil ?_
    refine W_seq ?_
    refine W_cond true rfl ?_
    refine W_skip ?_
    refine W_seq ?_
    refine W_block ?_
    refine W_seq ?_
    refine W_region ?_
    refine WL_val rfl rfl rfl (rIdx (sz := 4) rfl Tryd.underlying61 (by kernel_rfl) rfl rfl (by omega)) ?_
    refine WL_val rfl rfl rfl (by first | exact rLdB (n := 4) rfl (by kernel_rfl) (by kernel_rfl) rfl rfl hI.g0 | exact rLd4 rfl (by kernel_rfl) (by kernel_rfl) rfl (by first | exact hI.c0 rfl | exact hI.oldp q0 | exact q0 | exact hI.oldp q1 | exact q1 | exact hI.oldp q2 | exact q2 | exact hI.oldp q3 | exact q3) (by first | exact hI.c0 rfl | exact hI.oldp q0 | exact q0 | exact hI.oldp q1 | exact q1 | exact hI.oldp q2 | exact q2 | exact hI.oldp q3 | exact q3) (by first | exact hI.c0 rfl | exact hI.oldp q0 | exact q0 | exact hI.oldp q1 | exact q1 | exact hI.oldp q2 | exact q2 | exact hI.oldp q3 | exact q3) (by first | exact hI.c0 rfl | exact hI.oldp q0 | exact q0 | exact hI.oldp q1 | exact q1 | exact hI.oldp q2 | exact q2 | exact hI.oldp q3 | exact q3)) ?_
    refine WL_alloc (u := .agg #[.slice none 0 0, .int .i64 0, .int .i64 0, .bool false]) (vs := #[.slice none 0 0, .int .i64 0, .int .i64 0, .bool false]) hI rfl rfl rfl rfl (by kernel_rfl) rfl ?_
    clear hI; rintro b5 w - - hI
    first | refine WL_stw0 (u := .agg _) (vs := #[_, _, _, _]) (n := 4) hI rfl rfl rfl rfl rfl rfl (by kernel_rfl) rfl rfl rfl ?_
    clear hI; intro w hI
    refine WL_nil ?_
    replace hI := hI.sw0
    refine W_region ?_
    refine WL_val rfl rfl rfl (by first | exact rMoveS rfl rfl | exact rMove rfl) ?_
    refine WL_val rfl rfl rfl (by first | exact rFldN (off := 1) rfl (by kernel_rfl) rfl | exact rFld (off := 1) rfl (by kernel_rfl) rfl) ?_
    refine WL_val rfl rfl rfl (by first | exact rLd (v := .int .i64 _) rfl (by kernel_rfl) rfl (by first | exact hI.c0 rfl | exact hI.c1 rfl) | exact rLd rfl (by kernel_rfl) rfl (by first | exact hI.c0 rfl | exact hI.c1 rfl)) ?_
    refine WL_val rfl rfl rfl (by first | exact rFldN (off := 2) rfl (by kernel_rfl) rfl | exact rFld (off := 2) rfl (by kernel_rfl) rfl) ?_
    refine WL_val rfl rfl rfl (by first | exact rLd (v := .int .i64 _) rfl (by kernel_rfl) rfl (by first | exact hI.c0 rfl | exact hI.c1 rfl) | exact rLd rfl (by kernel_rfl) rfl (by first | exact hI.c0 rfl | exact hI.c1 rfl)) ?_
    refine WL_val rfl rfl rfl (rBuild (qs := [(0, .int .i64 _), (1, .int .i64 _)]) (vs := [_, _]) [.int .i64 0, .int .i64 0] [0, 1] rfl rfl rfl (fun _ => by kernel_rfl)) ?_
    refine WL_litA (e := 34) (size := 2) [spanV (txAt s k)] hI rfl rfl rfl rfl rfl Tryd.underlying31 (by kernel_rfl) (by kernel_rfl) rfl (by simp [spanV]) (by omega) ?_
    clear hI; rintro b91 w - - hI
    first | refine WL_app1 (z := .agg #[.int .i64 0, .int .i64 0]) (by_ := 16) hI rfl rfl rfl rfl rfl rfl Tryd.underlying31 (by kernel_rfl) rfl (by omega) (by rfl) hI.lit0 (by first | rfl | simp [i64s, Value.oneCell']) (by omega) (by omega) (by first | exact Nat.zero_le _ | (have := hI.chg.size; omega)) ?_
    clear hI; rintro A24 c24 w hA24 hc24 hI
    replace hI := hI.d0
    refine WL_val rfl rfl rfl (by first | exact rAsgnS rfl rfl | exact rAsgn rfl) ?_
    refine WL_nil ?_
    refine W_region ?_
    refine WL_val rfl rfl rfl (by first | exact rInc rfl rfl rfl (by omega) | exact rAdd rfl rfl rfl (by omega) | exact rAddW rfl rfl rfl) ?_
    refine WL_val rfl rfl rfl (by first | exact rMoveI rfl rfl | exact rMove rfl) ?_
    refine WL_nil ?_
    refine ⟨⟨k + 1, _, _, by omega, ⟨rfl, rfl, rfl, rfl, trivial⟩, ?_⟩, by show s.txs.length - ((k + 1 : Nat) : Int).toNat < s.txs.length - (k : Int).toNat; omega⟩
    rw [take_txs hkn, List.flatMap_append]
    simpa using hI.d1
  · obtain rfl : k = s.txs.length := by omega
    refine W_seq ?_
    refine W_region ?_
    refine WL_val rfl rfl rfl (by first | exact rLssT rfl rfl rfl (by omega) | exact rLssF rfl rfl rfl (by omega) | exact rLss rfl rfl rfl) ?_
    refine WL_nil ?_
    refine W_seq ?_
    refine W_cond false rfl ?_
    refine W_exit ?_
    refine W_seq ?_
    refine W_region ?_
    refine WL_val rfl rfl rfl (by first | exact rMoveS rfl rfl | exact rMove rfl) ?_
    refine WL_val rfl rfl rfl (by first | exact rAsgnS rfl rfl | exact rAsgn rfl) ?_
    refine WL_nil ?_
    refine W_ret ?_
    rw [List.take_length] at hI
    exact ret1 2 (.inr rfl) rfl ⟨A, c, rfl, hI⟩
/-! ### Story -/
section
variable {P : Program} {ρ : Env} {o : Oper} {w : World} {x y : Operand}
theorem rIxArr {e t i n : Nat} {k : IntKind} {l : List Value} {v : Value} (ho : o.op = .index t x y) (ht : P.underlying t = some (.array n e)) (hp : plainB P e = true) (hs : szB P e 1 = true) (hx : ev ρ x = .agg l.toArray) (hy : ev ρ y = .int k (i : Int)) (hi : i < n) (hl : l[i]? = some v) : Runs P ρ o w v := by
  have hi' : (i : Int) < (n : Int) := by omega
  simp [Runs, execOp, ho, hx, hy, Instr.index, asIntOf, run_underlying ht, run_size hs, part, run_isAgg_plain hp, hi, hl]
end
theorem BsAt.ordO {w : World} {D : Nat → Prop} {b : Nat} {s : Bs} (h : BsAt w D b s) : ∃ (O : Nat → Option Addr) (co : Nat → Nat), ∀ k, k < 8 → w.cell? ⟨b, 2 + k, none⟩ = some (.slice (O k) (bOrd s k).length (co k)) ∧ Ints w D (.slice (O k) (bOrd s k).length (co k)) (intsN (bOrd s k)) := by
  have q : ∀ k : Nat, ∃ p : Option Addr × Nat, k < 8 → w.cell? ⟨b, 2 + k, none⟩ = some (.slice p.1 (bOrd s k).length p.2) ∧ Ints w D (.slice p.1 (bOrd s k).length p.2) (intsN (bOrd s k)) := fun k => by
    by_cases hk : k < 8
    · obtain ⟨A, c, h1, h2⟩ := h.ord k (bOrd s k) (by unfold bOrd; rw [List.getD_eq_getElem?_getD, List.getElem?_eq_getElem (by rw [h.olen]; exact hk)]; rfl)
      exact ⟨(A, c), fun _ => ⟨h1, h2⟩⟩
    · exact ⟨(none, 0), fun h => absurd h hk⟩
  obtain ⟨f, hf⟩ := Classical.axiomOfChoice q
  exact ⟨fun k => (f k).1, fun k => (f k).2, hf⟩
def ordVs (s : Bs) (O : Nat → Option Addr) (co : Nat → Nat) : List Value := (List.range 8).map fun k => .slice (O k) (bOrd s k).length (co k)
theorem ordVs_get (s : Bs) (O : Nat → Option Addr) (co : Nat → Nat) {k : Nat} (hk : k < 8) : (ordVs s O co)[k]? = some (.slice (O k) (bOrd s k).length (co k)) := by simp [ordVs, hk]
def itxI (t : Mx) : ITx := ⟨t.ops, !decide (t.com = -1)⟩
def mstoryC (s : Bs) (A : Nat → Option Addr) (ca : Nat → Nat) (k : Nat) : List (Value × ITx) := (List.range k).map fun i => (.slice (A i) (txAt s i).ops.length (ca i), itxI (txAt s i))
def gridC (s : Bs) (O : Nat → Option Addr) (co : Nat → Nat) (k : Nat) : Array Value := ((List.range 8).map fun j => if j < k then Value.slice (O j) (bOrd s j).length (co j) else .slice none 0 0).toArray
theorem gridC_set (s : Bs) (O O' : Nat → Option Addr) (co co' : Nat → Nat) {k : Nat} (hk : k < 8) (h : ∀ j, j < k → O' j = O j ∧ co' j = co j) : (gridC s O co k).setIfInBounds k (.slice (O' k) (bOrd s k).length (co' k)) = gridC s O' co' (k + 1) := by
  unfold gridC
  rw [List.setIfInBounds_toArray]
  congr 1
  apply List.ext_getElem?
  intro j
  rw [List.getElem?_set]
  by_cases hj : j < 8
  · by_cases hjk : k = j
    · subst hjk
      simp [hj]
    · rw [if_neg hjk]
      simp only [List.getElem?_map, List.getElem?_range hj, Option.map_some]
      by_cases h1 : j < k
      · rw [if_pos h1, if_pos (by omega), (h j h1).1, (h j h1).2]
      · rw [if_neg h1, if_neg (by omega)]
  · simp [hj]
    omega
theorem storyC_next (s : Bs) {A A' : Nat → Option Addr} {ca ca' : Nat → Nat} {k : Nat} (h : ∀ j, j < k → A' j = A j ∧ ca' j = ca j) : (mstoryC s A' ca' (k + 1)).flatMap txV = (mstoryC s A ca k).flatMap txV ++ [.slice (A' k) (txAt s k).ops.length (ca' k), .bool (!decide ((txAt s k).com = -1))] := by
  unfold mstoryC
  rw [List.range_succ, List.map_append, List.flatMap_append]
  congr 1
  congr 1
  apply List.map_congr_left
  intro j hj
  have := h j (List.mem_range.1 hj)
  rw [this.1, this.2]
def NewD (w0 w : World) (k : Nat) : Prop := w0.heap.size ≤ k ∧ k < w.heap.size
theorem Inv.rowRd {w0 w : World} {H : List Ent} {base e size n c : Nat} {A : Option Addr} {xs : List Value} (h : Inv (fun _ => False) w0 w H) (hm : Row base e size A n c xs ∈ H) : Rd w (NewD w0 w) size (.slice A n c) n xs :=
  Rd.of_own (h.ok _ hm).1 fun k hk _ => by
    rw [ownBlock_slice] at hk
    exact ⟨(h.own _ hm k hk).resolve_left (fun h => h), (h.ok _ hm).2.1 k hk⟩
theorem Inv.manyRd {w0 w : World} {H : List Ent} {m base e size n c i : Nat} {es : Nat → Ent} {A : Option Addr} {xs : List Value} (h : Inv (fun _ => False) w0 w H) (hm : Many m es ∈ H) (hi : i < m) (he : es i = Row base e size A n c xs) : Rd w (NewD w0 w) size (.slice A n c) n xs := by
  have q := (h.ok _ hm).1.1 i hi
  have q2 : ∀ k, (es i).D k → w0.heap.size ≤ k := fun k hk => (h.own _ hm k ⟨i, hi, hk⟩).resolve_left (fun h => h)
  rw [he] at q q2
  exact Rd.of_own q.1 fun k hk _ => by
    rw [ownBlock_slice] at hk
    exact ⟨q2 k hk, q.2.1 k hk⟩
theorem story_txs {w0 w : World} {H : List Ent} {s : Bs} {A : Nat → Option Addr} {ca : Nat → Nat} {Ar : Option Addr} {cr : Nat} (h : Inv (fun _ => False) w0 w H) (h1 : Many s.txs.length (opRow s A ca) ∈ H) (h2 : Row 0 72 2 Ar s.txs.length cr ((mstoryC s A ca s.txs.length).flatMap txV) ∈ H) : Txs w (NewD w0 w) (.slice Ar s.txs.length cr) (s.txs.map itxI) := by
  refine ⟨mstoryC s A ca s.txs.length, ?_, ?_, ?_⟩
  · apply List.ext_getElem?
    intro j
    unfold mstoryC
    rw [List.map_map, List.getElem?_map, List.getElem?_map]
    by_cases hj : j < s.txs.length
    · rw [List.getElem?_range hj, txAt_get hj]
      rfl
    · rw [List.getElem?_eq_none (by simpa using hj), List.getElem?_eq_none (by simpa using hj)]
      rfl
  · rw [List.length_map]
    exact h.rowRd h2
  · rintro p hp
    obtain ⟨i, hi, rfl⟩ := List.mem_map.1 hp
    exact h.manyRd h1 (List.mem_range.1 hi) rfl
theorem story_grid {w0 w : World} {H : List Ent} {s : Bs} {O : Nat → Option Addr} {co : Nat → Nat} {g : Nat} (h : Inv (fun _ => False) w0 w H) (h1 : Many 8 (ordRow s O co) ∈ H) (h2 : B g 33 (gridC s O co 8) ∈ H) (hl : s.order.length = 8) : IGrid w (NewD w0 w) (.slice (some ⟨g, 0, none⟩) 8 8) (s.order.map intsN) := by
  have hb : Blk w g 33 (gridC s O co 8) := (h.ok _ h2).1
  refine ⟨(gridC s O co 8).toList, ⟨some ⟨g, 0, none⟩, 8, by rw [List.length_map, hl], by simp [hl], by omega, by simp [gridC, hl], fun _ => ⟨g, 0, rfl, ⟨(h.own _ h2 g rfl).resolve_left (fun h => h), (h.ok _ h2).2.1 g rfl⟩, fun j u hj => ?_⟩⟩, fun i l hil => ?_⟩
  · rw [Nat.zero_add, hb.cell]
    simpa using hj
  · rw [List.getElem?_map] at hil
    obtain ⟨l0, hl0, rfl⟩ := Option.map_eq_some_iff.1 hil
    have hi : i < 8 := by have := (List.getElem?_eq_some_iff.1 hl0).1; omega
    have e0 : bOrd s i = l0 := by unfold bOrd; rw [List.getD_eq_getElem?_getD, hl0]; rfl
    refine ⟨.slice (O i) (bOrd s i).length (co i), by simp [gridC, hi], ?_⟩
    have := h.manyRd (i := i) h1 hi rfl
    rw [e0] at this
    unfold Ints
    rw [intsN_len, e0]
    simpa [intsN, Function.comp_def] using this
set_option maxHeartbeats 4000000 in
theorem story_any (b : Nat) (s : Bs) (D : Nat → Prop) (w0 : World) (h : BsAt w0 D b s) (h60 : ∀ i, (txAt s i).ops.length ≤ 60) (ho60 : ∀ k, (bOrd s k).length ≤ 1000) :
    Calls Tryd.prog 9 #[.pointer (some ⟨b, 0, none⟩)] w0 fun en w' => ∃ At ct g, en = .returned (.agg #[.slice At s.txs.length ct, .slice (some ⟨g, 0, none⟩) 8 8]) ∧ Pure w0 w' ∧
      Txs w' (NewD w0 w') (.slice At s.txs.length ct) (s.txs.map itxI) ∧ IGrid w' (NewD w0 w') (.slice (some ⟨g, 0, none⟩) 8 8) (s.order.map intsN) := by
  obtain ⟨At, ct, ha, hm⟩ := h.txs
  have hlen := h.tlen
  have hI := Inv.start (fun _ => False) w0
  refine calls_of_W (N := Tryd.f9.ntmps) Tryd.func9 rfl rfl rfl ?_
  refine W_seq ?_
  refine W_region ?_
  refine WL_alloc (u := .agg #[.slice none 0 0, .slice none 0 0]) (vs := #[.slice none 0 0, .slice none 0 0]) hI rfl rfl rfl rfl (by kernel_rfl) rfl ?_
  clear hI; rintro b2 w - - hI
  refine WL_nil ?_
  refine W_seq ?_
  refine W_region ?_
  refine WL_mk (n := 8) (by_ := 24) (z := .slice none 0 0) hI rfl rfl rfl rfl rfl rfl Tryd.underlying27 (by kernel_rfl) rfl (by omega) (by omega) ?_
  clear hI; rintro b8 w - - hI
  refine WL_val rfl rfl rfl (rBuild (qs := [(1, .slice _ _ _)]) (vs := [_, _]) [.slice none 0 0, .slice none 0 0] [1] rfl rfl rfl (fun _ => by kernel_rfl)) ?_
  refine WL_alloc (u := .agg #[.slice none 0 0, .slice none 0 0]) (vs := #[.slice none 0 0, .slice none 0 0]) hI rfl rfl rfl rfl (by kernel_rfl) rfl ?_
  clear hI; rintro b3 w - - hI
  first | refine WL_stw0 (u := .agg _) (vs := #[_, _]) (n := 2) hI rfl rfl rfl rfl rfl rfl (by kernel_rfl) rfl rfl rfl ?_ | refine WL_stw1 (u := .agg _) (vs := #[_, _]) (n := 2) hI rfl rfl rfl rfl rfl rfl (by kernel_rfl) rfl rfl rfl ?_ | refine WL_stw2 (u := .agg _) (vs := #[_, _]) (n := 2) hI rfl rfl rfl rfl rfl rfl (by kernel_rfl) rfl rfl rfl ?_ | refine WL_stw3 (u := .agg _) (vs := #[_, _]) (n := 2) hI rfl rfl rfl rfl rfl rfl (by kernel_rfl) rfl rfl rfl ?_ | refine WL_stw4 (u := .agg _) (vs := #[_, _]) (n := 2) hI rfl rfl rfl rfl rfl rfl (by kernel_rfl) rfl rfl rfl ?_ | refine WL_stw5 (u := .agg _) (vs := #[_, _]) (n := 2) hI rfl rfl rfl rfl rfl rfl (by kernel_rfl) rfl rfl rfl ?_
  clear hI; intro w hI
  refine WL_nil ?_
  refine W_seq ?_
  refine W_seq ?_
  refine W_region ?_
  refine WL_val rfl rfl rfl (by first | exact rMoveP rfl rfl | exact rMove rfl) ?_
  refine WL_val rfl rfl rfl (rPtrEq rfl Tryd.underlying23 rfl rfl) ?_
  refine WL_nil ?_
  refine W_cond false rfl ?_
  refine W_skip ?_
  replace hI : Inv (fun _ => False) w0 w [B b3 29 #[.slice none 0 0, .slice (some ⟨b8, 0, none⟩) 8 8], B b8 33 (gridC s (fun _ => none) (fun _ => 0) 0), B b2 29 #[.slice none 0 0, .slice none 0 0]] := hI
  refine W_seq_cut (fun ρ w => ∃ A ca Ar cr, Has ρ [(0, .pointer (some ⟨b, 0, none⟩)), (2, .pointer (some ⟨b2, 0, none⟩)), (3, .pointer (some ⟨b3, 0, none⟩))] ∧
    Inv (fun _ => False) w0 w [Many s.txs.length (opRow s A ca), B b3 29 #[.slice Ar s.txs.length cr, .slice (some ⟨b8, 0, none⟩) 8 8], Row 0 72 2 Ar s.txs.length cr ((mstoryC s A ca s.txs.length).flatMap txV), B b8 33 (gridC s (fun _ => none) (fun _ => 0) 0), B b2 29 #[.slice none 0 0, .slice none 0 0]]) ?_ ?_
  · refine W_seq ?_
    refine W_region ?_
    refine WL_val rfl rfl rfl (by first | exact rMoveP rfl rfl | exact rMove rfl) ?_
    refine WL_val rfl rfl rfl (rNilChk rfl rfl) ?_
    refine WL_val rfl rfl rfl (by first | exact rFldN (off := 1) rfl (by kernel_rfl) rfl | exact rFld (off := 1) rfl (by kernel_rfl) rfl) ?_
    refine WL_val rfl rfl rfl (by first | exact rLd (v := .slice _ _ _) rfl (by kernel_rfl) rfl (by first | exact hI.c0 rfl | exact hI.c1 rfl | exact hI.c2 rfl | exact hI.c3 rfl | exact hI.c4 rfl | exact hI.c5 rfl | exact hI.oldp ha | exact ha) | exact rLd rfl (by kernel_rfl) rfl (by first | exact hI.c0 rfl | exact hI.c1 rfl | exact hI.c2 rfl | exact hI.c3 rfl | exact hI.c4 rfl | exact hI.c5 rfl | exact hI.oldp ha | exact ha)) ?_
    refine WL_val rfl rfl rfl (rLen rfl Tryd.underlying61 rfl) ?_
    refine WL_val rfl rfl rfl (by first | exact rMoveI rfl rfl | exact rMove rfl) ?_
    refine WL_nil ?_
    refine W_block ?_
    refine W_loop (fun ρ w => ∃ k A ca Ar cr, k ≤ s.txs.length ∧ Has ρ [(18, .int .i64 ((k : Nat) : Int)), (17, .int .i64 (s.txs.length : Int)), (16, .slice At s.txs.length ct), (0, .pointer (some ⟨b, 0, none⟩)), (2, .pointer (some ⟨b2, 0, none⟩)), (3, .pointer (some ⟨b3, 0, none⟩))] ∧
      Inv (fun _ => False) w0 w [Many k (opRow s A ca), B b3 29 #[.slice Ar k cr, .slice (some ⟨b8, 0, none⟩) 8 8], Row 0 72 2 Ar k cr ((mstoryC s A ca k).flatMap txV), B b8 33 (gridC s (fun _ => none) (fun _ => 0) 0), B b2 29 #[.slice none 0 0, .slice none 0 0]]) (fun ρ _ => s.txs.length - cnt (ρ 18))
      ⟨0, fun _ => none, fun _ => 0, none, 0, by omega, ⟨rfl, rfl, rfl, rfl, rfl, rfl, trivial⟩, ((hI.fresh (Pure.refl _) (Row.nil _ 0 72 2) (fun k hk => by simp [Row] at hk)).many_nil _).sw1⟩ ?_
    clear hI
    rintro ρ w ⟨k, A, ca, Ar, cr, hk, hH, hI⟩
    obtain ⟨σ, rfl⟩ := hH.open
    by_cases hkn : k < s.txs.length
    · obtain ⟨tb, tf, A1, c1, rfl, hDt, q0, q1, q2, q3, ho⟩ := hm.get (txAt_get hkn)
      have hl60 := h60 k
      refine W_seq ?_
      refine W_region ?_
      refine WL_val rfl rfl rfl (by first | exact rLssT rfl rfl rfl (by omega) | exact rLssF rfl rfl rfl (by omega) | exact rLss rfl rfl rfl) ?_
      refine WL_nil ?_
      refine W_seq ?_
      refine W_cond true rfl ?_
      refine W_skip ?_
      refine W_seq ?_
      refine W_block ?_
      refine W_seq ?_
      refine W_region ?_
      refine WL_val rfl rfl rfl (rIdx (sz := 4) rfl Tryd.underlying61 (by kernel_rfl) rfl rfl (by omega)) ?_
      refine WL_val rfl rfl rfl (by first | exact rLdB (n := 4) rfl (by kernel_rfl) (by kernel_rfl) rfl rfl hI.g0 | exact rLd4 rfl (by kernel_rfl) (by kernel_rfl) rfl (by first | exact hI.c0 rfl | exact hI.oldp q0 | exact q0 | exact hI.oldp q1 | exact q1 | exact hI.oldp q2 | exact q2 | exact hI.oldp q3 | exact q3) (by first | exact hI.c0 rfl | exact hI.oldp q0 | exact q0 | exact hI.oldp q1 | exact q1 | exact hI.oldp q2 | exact q2 | exact hI.oldp q3 | exact q3) (by first | exact hI.c0 rfl | exact hI.oldp q0 | exact q0 | exact hI.oldp q1 | exact q1 | exact hI.oldp q2 | exact q2 | exact hI.oldp q3 | exact q3) (by first | exact hI.c0 rfl | exact hI.oldp q0 | exact q0 | exact hI.oldp q1 | exact q1 | exact hI.oldp q2 | exact q2 | exact hI.oldp q3 | exact q3)) ?_
      refine WL_alloc (u := .agg #[.slice none 0 0, .int .i64 0, .int .i64 0, .bool false]) (vs := #[.slice none 0 0, .int .i64 0, .int .i64 0, .bool false]) hI rfl rfl rfl rfl (by kernel_rfl) rfl ?_
      clear hI; rintro b5 w - - hI
      first | refine WL_stw0 (u := .agg _) (vs := #[_, _, _, _]) (n := 4) hI rfl rfl rfl rfl rfl rfl (by kernel_rfl) rfl rfl rfl ?_
      clear hI; intro w hI
      refine WL_nil ?_
      refine W_draw (by kernel_rfl) ?_
      refine WA_inv (T := [12]) hI.d3.drew ?_
      intro Sx hSx hXS
      replace hI := hI.drew
      refine WT_take 0 rfl rfl (by kernel_rfl) (hXS _ hI.d3) rfl (fun W hW => have hI := hSx W hW; (by first | exact rFldN (off := 0) rfl (by kernel_rfl) rfl | exact rFld0 rfl (by kernel_rfl) rfl)) ?_
      refine WT_take 1 rfl rfl (by kernel_rfl) (hXS _ hI.d3) rfl (fun W hW => have hI := hSx W hW; (by first | exact rLd (v := .slice _ _ _) rfl (by kernel_rfl) rfl (by first | exact hI.c0 rfl | exact hI.c1 rfl | exact hI.c2 rfl | exact hI.c3 rfl | exact hI.c4 rfl | exact hI.c5 rfl) | exact rLd rfl (by kernel_rfl) rfl (by first | exact hI.c0 rfl | exact hI.c1 rfl | exact hI.c2 rfl | exact hI.c3 rfl | exact hI.c4 rfl | exact hI.c5 rfl))) ?_
      refine WT_take 2 rfl rfl (by kernel_rfl) (hXS _ hI.d3) rfl (fun W hW => have hI := hSx W hW; (by first | exact rFldN (off := 0) rfl (by kernel_rfl) rfl | exact rFld0 rfl (by kernel_rfl) rfl)) ?_
      refine WT_take 3 rfl rfl (by kernel_rfl) (hXS _ hI.d3) rfl (fun W hW => have hI := hSx W hW; (by first | exact rLd (v := .slice _ _ _) rfl (by kernel_rfl) rfl (by first | exact hI.c0 rfl | exact hI.c1 rfl | exact hI.c2 rfl | exact hI.c3 rfl | exact hI.c4 rfl | exact hI.c5 rfl) | exact rLd rfl (by kernel_rfl) rfl (by first | exact hI.c0 rfl | exact hI.c1 rfl | exact hI.c2 rfl | exact hI.c3 rfl | exact hI.c4 rfl | exact hI.c5 rfl))) ?_
      refine WT_take 5 rfl rfl (by kernel_rfl) (hXS _ hI.d3) rfl (fun W hW => have hI := hSx W hW; (by first | exact rFldN (off := 2) rfl (by kernel_rfl) rfl | exact rFld (off := 2) rfl (by kernel_rfl) rfl)) ?_
      refine WT_take 6 rfl rfl (by kernel_rfl) (hXS _ hI.d3) rfl (fun W hW => have hI := hSx W hW; (by first | exact rLd (v := .int .i64 _) rfl (by kernel_rfl) rfl (by first | exact hI.c0 rfl | exact hI.c1 rfl | exact hI.c2 rfl | exact hI.c3 rfl | exact hI.c4 rfl | exact hI.c5 rfl) | exact rLd rfl (by kernel_rfl) rfl (by first | exact hI.c0 rfl | exact hI.c1 rfl | exact hI.c2 rfl | exact hI.c3 rfl | exact hI.c4 rfl | exact hI.c5 rfl))) ?_
      refine WT_take 7 rfl rfl (by kernel_rfl) (hXS _ hI.d3) rfl (fun W hW => have hI := hSx W hW; (by first | exact rNeqT rfl rfl rfl (by omega) | exact rNeqF rfl rfl rfl (by omega) | exact rNeq rfl rfl rfl)) ?_
      refine WT_one 4 rfl (by kernel_rfl) rfl ?_
      refine WL_call rfl rfl rfl (rCall (vs := [.slice _ _ _]) rfl Tryd.func20 rfl rfl rfl) ?_
      refine (cloneO_any A1 _ c1 (txAt s k).ops D _ (ho.pure hI.pu) (by omega)).mono ?_
      rintro e w1 ⟨A', c', rfl, hI4⟩
      refine ⟨_, rfl, ?_⟩
      replace hI := hI.app1 hI4
      refine WL_nil ⟨hXS _ hI.d0.d3, ?_⟩
      refine WT_take 8 rfl rfl (by kernel_rfl) (hXS _ hI.d0.d3) rfl (fun W hW => have hI := hSx W hW; (rBuild (qs := [(0, .slice _ _ _), (1, .bool _)]) (vs := [_, _]) [.slice none 0 0, .bool false] [0, 1] rfl rfl rfl (fun _ => by kernel_rfl))) ?_
      refine WT_one 9 rfl (by kernel_rfl) rfl ?_
      refine WL_litA (e := 72) (size := 2) [[.slice A' (txAt s k).ops.length c', .bool (!decide ((txAt s k).com = -1))]] hI rfl rfl rfl rfl rfl Tryd.underlying26 (by kernel_rfl) (by kernel_rfl) rfl (by simp) (by omega) ?_
      clear hI; rintro b91 w - - hI
      refine WL_nil ⟨hXS _ hI.d0.d0.d3, ?_⟩
      refine WT_one 10 rfl (by kernel_rfl) rfl ?_
      first | refine WL_app5 (z := .agg #[.slice none 0 0, .bool false]) (by_ := 32) hI rfl rfl rfl rfl rfl rfl Tryd.underlying26 (by kernel_rfl) rfl (by omega) (by rfl) hI.lit0 (by first | rfl | simp [i64s, Value.oneCell']) (by omega) (by omega) (by first | exact Nat.zero_le _ | (have := hI.chg.size; omega)) ?_
      clear hI; rintro A32 c32 w hA32 hc32 hI
      replace hI := hI.d0
      refine WL_nil ⟨hXS _ hI.d0.d3, ?_⟩
      refine WT_take 11 rfl rfl (by kernel_rfl) (hXS _ hI.d0.d3) rfl (fun W hW => have hI := hSx W hW; (by first | exact rFldN (off := 0) rfl (by kernel_rfl) rfl | exact rFld0 rfl (by kernel_rfl) rfl)) ?_
      refine WT_A (by kernel_rfl) ?_
      clear hXS hSx
      refine WA_one 12 rfl (by kernel_rfl) ?_
      refine WL_st3 (u := .slice _ _ _) (j := 0) hI rfl rfl rfl rfl rfl rfl (by kernel_rfl) rfl rfl rfl ?_
      clear hI; intro w hI
      refine WL_nil ?_
      refine WA_end (by kernel_rfl) ?_
      refine W_region ?_
      refine WL_val rfl rfl rfl (by first | exact rInc rfl rfl rfl (by omega) | exact rAdd rfl rfl rfl (by omega) | exact rAddW rfl rfl rfl) ?_
      refine WL_val rfl rfl rfl (by first | exact rMoveI rfl rfl | exact rMove rfl) ?_
      refine WL_nil ?_
      refine ⟨⟨k + 1, (fun j => if j = k then A' else A j), (fun j => if j = k then c' else ca j), A32, c32, by omega, ⟨rfl, rfl, rfl, rfl, rfl, rfl, trivial⟩, ?_⟩, by show s.txs.length - ((k + 1 : Nat) : Int).toNat < s.txs.length - (k : Int).toNat; omega⟩
      have e1 := storyC_next s (A := A) (A' := fun j => if j = k then A' else A j) (ca := ca) (ca' := fun j => if j = k then c' else ca j) (k := k) (fun j hj => by simp [show j ≠ k by omega])
      rw [if_pos rfl, if_pos rfl] at e1
      rw [e1]
      refine hI.d1.many_push.many_congr fun j hj => ?_
      unfold opRow
      by_cases hjk : j = k
      · subst hjk; simp
      · simp [hjk]
    · obtain rfl : k = s.txs.length := by omega
      refine W_seq ?_
      refine W_region ?_
      refine WL_val rfl rfl rfl (by first | exact rLssT rfl rfl rfl (by omega) | exact rLssF rfl rfl rfl (by omega) | exact rLss rfl rfl rfl) ?_
      refine WL_nil ?_
      refine W_seq ?_
      refine W_cond false rfl ?_
      refine W_exit ?_
      exact ⟨A, ca, Ar, cr, ⟨rfl, rfl, rfl, trivial⟩, hI⟩
  clear hI
  rintro ρ w ⟨A, ca, Ar, cr, hH, hI⟩
  obtain ⟨σ, rfl⟩ := hH.open
  replace hI := hI.sw2.sw1.sw0.many_nil (fun _ => Ent.nil)
  refine W_seq_cut (fun ρ w => ∃ O' co', Has ρ [(2, .pointer (some ⟨b2, 0, none⟩)), (3, .pointer (some ⟨b3, 0, none⟩))] ∧
    Inv (fun _ => False) w0 w [Many 8 (ordRow s O' co'), B b8 33 (gridC s O' co' 8), Many s.txs.length (opRow s A ca), B b3 29 #[.slice Ar s.txs.length cr, .slice (some ⟨b8, 0, none⟩) 8 8], Row 0 72 2 Ar s.txs.length cr ((mstoryC s A ca s.txs.length).flatMap txV), B b2 29 #[.slice none 0 0, .slice none 0 0]]) ?_ ?_
  · obtain ⟨O, co, hO⟩ := h.ordO
    have hagg : ∀ k u, (ordVs s O co)[k]? = some u → w0.cell? ⟨b, 2 + k, none⟩ = some u := fun k u hu => by
      have hk8 : k < 8 := by have := (List.getElem?_eq_some_iff.1 hu).1; simpa [ordVs] using this
      rw [ordVs_get s O co hk8] at hu
      rw [(hO k hk8).1]
      exact hu
    refine W_seq ?_
    refine W_region ?_
    refine WL_val rfl rfl rfl (by first | exact rMoveP rfl rfl | exact rMove rfl) ?_
    refine WL_val rfl rfl rfl (rNilChk rfl rfl) ?_
    refine WL_val rfl rfl rfl (by first | exact rFldN (off := 2) rfl (by kernel_rfl) rfl | exact rFld (off := 2) rfl (by kernel_rfl) rfl) ?_
    refine WL_val rfl rfl rfl (by first | exact rLdB (n := 8) rfl (by kernel_rfl) (by kernel_rfl) rfl rfl hI.g0 | exact rLdB (n := 8) rfl (by kernel_rfl) (by kernel_rfl) rfl rfl hI.g1 | exact rLdB (n := 8) rfl (by kernel_rfl) (by kernel_rfl) rfl rfl hI.g2 | exact rLdB (n := 8) rfl (by kernel_rfl) (by kernel_rfl) rfl rfl hI.g3 | exact rLdB (n := 8) rfl (by kernel_rfl) (by kernel_rfl) rfl rfl hI.g4 | exact rLdB (n := 8) rfl (by kernel_rfl) (by kernel_rfl) rfl rfl hI.g5 | exact rLdA (n := 8) rfl (by kernel_rfl) (by kernel_rfl) rfl (by rfl) (fun k u hk => hI.oldp (hagg k u hk)) | exact rLdA (n := 8) rfl (by kernel_rfl) (by kernel_rfl) rfl (by rfl) hagg) ?_
    refine WL_val rfl rfl rfl (by first | exact rMoveI rfl rfl | exact rMove rfl) ?_
    refine WL_nil ?_
    refine W_block ?_
    refine W_loop (fun ρ w => ∃ k O' co', k ≤ 8 ∧ Has ρ [(39, .int .i64 ((k : Nat) : Int)), (38, .agg (ordVs s O co).toArray), (2, .pointer (some ⟨b2, 0, none⟩)), (3, .pointer (some ⟨b3, 0, none⟩))] ∧
      Inv (fun _ => False) w0 w [Many k (ordRow s O' co'), B b8 33 (gridC s O' co' k), Many s.txs.length (opRow s A ca), B b3 29 #[.slice Ar s.txs.length cr, .slice (some ⟨b8, 0, none⟩) 8 8], Row 0 72 2 Ar s.txs.length cr ((mstoryC s A ca s.txs.length).flatMap txV), B b2 29 #[.slice none 0 0, .slice none 0 0]]) (fun ρ _ => 8 - cnt (ρ 39))
      ⟨0, fun _ => none, fun _ => 0, by omega, ⟨rfl, rfl, rfl, rfl, trivial⟩, hI.many_congr (fun i hi => absurd hi (Nat.not_lt_zero i))⟩ ?_
    clear hI
    rintro ρ w ⟨k, O', co', hk, hH, hI⟩
    obtain ⟨σ, rfl⟩ := hH.open
    by_cases hkn : k < 8
    · have hok := hO k hkn
      have hl60 := ho60 k
      refine W_seq ?_
      refine W_region ?_
      refine WL_val rfl rfl rfl (by first | exact rLssT rfl rfl rfl (by omega) | exact rLssF rfl rfl rfl (by omega) | exact rLss rfl rfl rfl) ?_
      refine WL_nil ?_
      refine W_seq ?_
      refine W_cond true rfl ?_
      refine W_skip ?_
      refine W_seq ?_
      refine W_block ?_
      refine W_seq ?_
      refine W_region ?_
      refine WL_val rfl rfl rfl (by first | exact rMoveI rfl rfl | exact rMove rfl) ?_
      refine WL_val rfl rfl rfl (rIxArr (i := k) rfl Tryd.underlying62 (by kernel_rfl) (by kernel_rfl) rfl rfl hkn (ordVs_get s O co hkn)) ?_
      refine WL_val rfl rfl rfl (by first | exact rAsgnI rfl rfl | exact rAsgn rfl) ?_
      refine WL_val rfl rfl rfl (by first | exact rAsgnS rfl rfl | exact rAsgn rfl) ?_
      refine WL_nil ?_
      refine W_draw (by kernel_rfl) ?_
      refine WA_inv (T := [6]) hI.drew ?_
      intro Sx hSx hXS
      replace hI := hI.drew
      refine WT_take 0 rfl rfl (by kernel_rfl) (hXS _ hI) rfl (fun W hW => have hI := hSx W hW; (by first | exact rFldN (off := 1) rfl (by kernel_rfl) rfl | exact rFld (off := 1) rfl (by kernel_rfl) rfl)) ?_
      refine WT_take 1 rfl rfl (by kernel_rfl) (hXS _ hI) rfl (fun W hW => have hI := hSx W hW; (by first | exact rLd (v := .slice _ _ _) rfl (by kernel_rfl) rfl (by first | exact hI.c0 rfl | exact hI.c1 rfl | exact hI.c2 rfl | exact hI.c3 rfl | exact hI.c4 rfl | exact hI.c5 rfl) | exact rLd rfl (by kernel_rfl) rfl (by first | exact hI.c0 rfl | exact hI.c1 rfl | exact hI.c2 rfl | exact hI.c3 rfl | exact hI.c4 rfl | exact hI.c5 rfl))) ?_
      refine WT_take 2 rfl rfl (by kernel_rfl) (hXS _ hI) rfl (fun W hW => have hI := hSx W hW; (by first | exact rMoveI rfl rfl | exact rMove rfl)) ?_
      refine WT_take 3 rfl rfl (by kernel_rfl) (hXS _ hI) rfl (fun W hW => have hI := hSx W hW; (by first | exact rMoveS rfl rfl | exact rMove rfl)) ?_
      refine WT_one 4 rfl (by kernel_rfl) rfl ?_
      refine WL_call rfl rfl rfl (rCall (vs := [.slice _ _ _]) rfl Tryd.func21 rfl rfl rfl) ?_
      refine (cloneI_any (O k) _ (co k) (intsN (bOrd s k)) D _ (hok.2.pure hI.pu) (by simp [intsN]; omega)).mono ?_
      rintro e w1 ⟨A', c', rfl, hI4⟩
      refine ⟨_, rfl, ?_⟩
      replace hI := hI.app1 hI4
      refine WL_nil ⟨hXS _ hI.d0, ?_⟩
      refine WT_take 5 rfl rfl (by kernel_rfl) (hXS _ hI.d0) rfl (fun W hW => have hI := hSx W hW; (by first | exact rIdx0 rfl Tryd.underlying27 (by kernel_rfl) rfl rfl rfl (by omega) | exact rIdx1 rfl Tryd.underlying27 (by kernel_rfl) rfl rfl (by omega))) ?_
      refine WT_A (by kernel_rfl) ?_
      clear hXS hSx
      refine WA_one 6 rfl (by kernel_rfl) ?_
      refine WL_st2 (u := .slice _ _ _) (j := k) hI rfl rfl rfl rfl rfl rfl (by kernel_rfl) rfl (by simp [Nat.blt, gridC]; omega) rfl ?_
      clear hI; intro w hI
      refine WL_nil ?_
      refine WA_end (by kernel_rfl) ?_
      refine W_region ?_
      refine WL_val rfl rfl rfl (by first | exact rInc rfl rfl rfl (by omega) | exact rAdd rfl rfl rfl (by omega) | exact rAddW rfl rfl rfl) ?_
      refine WL_val rfl rfl rfl (by first | exact rMoveI rfl rfl | exact rMove rfl) ?_
      refine WL_nil ?_
      refine ⟨⟨k + 1, (fun j => if j = k then A' else O' j), (fun j => if j = k then c' else co' j), by omega, ⟨rfl, rfl, rfl, rfl, trivial⟩, ?_⟩, by show 8 - ((k + 1 : Nat) : Int).toNat < 8 - (k : Int).toNat; omega⟩
      have e1 := gridC_set s O' (fun j => if j = k then A' else O' j) co' (fun j => if j = k then c' else co' j) hkn (fun j hj => by simp [show j ≠ k by omega])
      simp only [if_true] at e1
      rw [e1] at hI
      refine hI.many_push.many_congr fun j hj => ?_
      unfold ordRow
      by_cases hjk : j = k
      · subst hjk; simp [intsN, Function.comp_def]
      · simp [hjk]
    · obtain rfl : k = 8 := by omega
      refine W_seq ?_
      refine W_region ?_
      refine WL_val rfl rfl rfl (by first | exact rLssT rfl rfl rfl (by omega) | exact rLssF rfl rfl rfl (by omega) | exact rLss rfl rfl rfl) ?_
      refine WL_nil ?_
      refine W_seq ?_
      refine W_cond false rfl ?_
      refine W_exit ?_
      exact ⟨O', co', ⟨rfl, rfl, trivial⟩, hI⟩
  clear hI
  rintro ρ w ⟨O', co', hH, hI⟩
  obtain ⟨σ, rfl⟩ := hH.open
  refine W_seq ?_
  refine W_region ?_
  refine WL_val rfl rfl rfl (by first | exact rLdB (n := 2) rfl (by kernel_rfl) (by kernel_rfl) rfl rfl hI.g0 | exact rLdB (n := 2) rfl (by kernel_rfl) (by kernel_rfl) rfl rfl hI.g1 | exact rLdB (n := 2) rfl (by kernel_rfl) (by kernel_rfl) rfl rfl hI.g2 | exact rLdB (n := 2) rfl (by kernel_rfl) (by kernel_rfl) rfl rfl hI.g3 | exact rLdB (n := 2) rfl (by kernel_rfl) (by kernel_rfl) rfl rfl hI.g4 | exact rLdB (n := 2) rfl (by kernel_rfl) (by kernel_rfl) rfl rfl hI.g5 | exact rLd2 rfl (by kernel_rfl) (by kernel_rfl) rfl (by first | exact hI.c0 rfl | exact hI.c1 rfl | exact hI.c2 rfl | exact hI.c3 rfl | exact hI.c4 rfl | exact hI.c5 rfl) (by first | exact hI.c0 rfl | exact hI.c1 rfl | exact hI.c2 rfl | exact hI.c3 rfl | exact hI.c4 rfl | exact hI.c5 rfl)) ?_
  first | refine WL_stw0 (u := .agg _) (vs := #[_, _]) (n := 2) hI rfl rfl rfl rfl rfl rfl (by kernel_rfl) rfl rfl rfl ?_ | refine WL_stw1 (u := .agg _) (vs := #[_, _]) (n := 2) hI rfl rfl rfl rfl rfl rfl (by kernel_rfl) rfl rfl rfl ?_ | refine WL_stw2 (u := .agg _) (vs := #[_, _]) (n := 2) hI rfl rfl rfl rfl rfl rfl (by kernel_rfl) rfl rfl rfl ?_ | refine WL_stw3 (u := .agg _) (vs := #[_, _]) (n := 2) hI rfl rfl rfl rfl rfl rfl (by kernel_rfl) rfl rfl rfl ?_ | refine WL_stw4 (u := .agg _) (vs := #[_, _]) (n := 2) hI rfl rfl rfl rfl rfl rfl (by kernel_rfl) rfl rfl rfl ?_ | refine WL_stw5 (u := .agg _) (vs := #[_, _]) (n := 2) hI rfl rfl rfl rfl rfl rfl (by kernel_rfl) rfl rfl rfl ?_
  clear hI; intro w hI
  refine WL_nil ?_
  refine W_ret ?_
  refine retC (n := 2) (t := 29) (.inr rfl) rfl rfl (by kernel_rfl) (by kernel_rfl) rfl hI.g5 ?_
  exact ⟨Ar, cr, b8, rfl, hI.pu, story_txs (A := A) (ca := ca) hI (by simp) (by simp), story_grid (O := O') (co := co') hI (List.mem_cons_self ..) (by simp) h.olen⟩
end Go.Proofs.YtlnjmkldpicpdaaDoor
