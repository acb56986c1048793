/- mvcc: what a transaction reads. -/
import Derived.Test.YtlnjmkldpicpdaaDoorMvc3
namespace Go.Proofs.YtlnjmkldpicpdaaDoor
open Go.RowKit
set_option linter.unusedVariables false
set_option linter.unusedSimpArgs false
def txAt (s : Bs) (i : Nat) : Mx := s.txs.getD i default
def bOrd (s : Bs) (k : Nat) : List Nat := s.order.getD k []
theorem txAt_get {s : Bs} {i : Nat} (h : i < s.txs.length) : s.txs[i]? = some (txAt s i) := by
  unfold txAt
  rw [List.getD, List.getElem?_eq_getElem h]
  rfl
theorem ordAt_get {s : Bs} {k : Nat} (h : k < s.order.length) : s.order[k]? = some (bOrd s k) := by
  unfold bOrd
  rw [List.getD, List.getElem?_eq_getElem h]
  rfl
/-- The last one that committed a key ahead of a time. -/
def lastF (s : Bs) (l : List Nat) (t : Int) : Option Nat := l.reverse.find? fun x => decide ((txAt s x).com < t)
def readF (s : Bs) (i key : Nat) : IOp :=
  if 0 < versF (txAt s i).ops key then ⟨false, key, i, (versF (txAt s i).ops key : Int) - 1⟩
  else match lastF s (bOrd s key) (txAt s i).beg with
    | some x => ⟨false, key, x, (versF (txAt s x).ops key : Int) - 1⟩
    | none => ⟨false, key, -1, 0⟩
theorem rev_get (l : List Nat) {j : Nat} (h : j < l.length) : l.reverse[j]? = some (l.getD (l.length - 1 - j) 0) := by
  rw [List.getElem?_reverse h, List.getD, List.getElem?_eq_getElem (by omega)]
  rfl
theorem find_first {p : Nat → Bool} : ∀ (r : List Nat) (k : Nat) (x : Nat), r[k]? = some x → (∀ j y, j < k → r[j]? = some y → p y = false) → p x = true → r.find? p = some x
  | [], k, x, h, _, _ => by cases k <;> cases h
  | a :: r, 0, x, h, _, hp => by
    cases h
    simp [List.find?, hp]
  | a :: r, k + 1, x, h, hno, hp => by
    have ha := hno 0 a (by omega) rfl
    simp only [List.find?, ha]
    exact find_first r k x h (fun j y hj hy => hno (j + 1) y (by omega) hy) hp
theorem lastF_some {s : Bs} {l : List Nat} {t : Int} {k : Nat} (hk : k < l.length) (hno : ∀ j, j < k → ¬ (txAt s (l.getD (l.length - 1 - j) 0)).com < t) (h : (txAt s (l.getD (l.length - 1 - k) 0)).com < t) : lastF s l t = some (l.getD (l.length - 1 - k) 0) :=
  find_first _ k _ (rev_get l hk) (fun j y hj hy => by
    rw [rev_get l (by omega)] at hy
    injection hy with hy
    subst hy
    simpa using hno j hj) (by simpa using h)
theorem lastF_none {s : Bs} {l : List Nat} {t : Int} (hno : ∀ j, j < l.length → ¬ (txAt s (l.getD (l.length - 1 - j) 0)).com < t) : lastF s l t = none := by
  unfold lastF
  rw [List.find?_eq_none]
  intro x hx
  obtain ⟨j, hj⟩ := List.mem_iff_getElem?.1 hx
  have hl : j < l.length := by
    have := (List.getElem?_eq_some_iff.1 hj).1
    rwa [List.length_reverse] at this
  rw [rev_get l hl] at hj
  injection hj with hj
  subst hj
  simpa using hno j hl
set_option maxHeartbeats 4000000 in
theorem read_any (b i key : Nat) (s : Bs) (D : Nat → Prop) (w0 : World) (h : BsAt w0 D b s) (hi : i < s.txs.length) (hk : key < 8) :
    Calls Tryd.prog 36 #[.pointer (some ⟨b, 0, none⟩), .int .i64 (i : Int), .int .i64 (key : Int)] w0 fun en w' => en = .returned (opAgg (readF s i key)) ∧ Pure w0 w' := by
  obtain ⟨A, c, ha, hm⟩ := h.txs
  have hlen := h.tlen
  obtain ⟨tb, tf, A1, c1, rfl, hDt, q0, q1, q2, q3, ho⟩ := hm.get (txAt_get hi)
  have hI := Inv.start (fun _ => False) w0
  refine calls_of_WX (N := Tryd.f36.ntmps) Tryd.func36 rfl rfl rfl ?_
  refine WX_seqW ?_
  refine W_region ?_
  refine WL_box (u := .pointer _) (vs := #[_]) hI rfl rfl rfl rfl rfl rfl ?_
  clear hI; rintro b3 w - - hI
  refine WL_box (u := .int .i64 _) (vs := #[_]) hI rfl rfl rfl rfl rfl rfl ?_
  clear hI; rintro b5 w - - hI
  refine WL_alloc (u := .agg #[.bool false, .int .i64 0, .int .i64 0, .int .i64 0]) (vs := #[.bool false, .int .i64 0, .int .i64 0, .int .i64 0]) hI rfl rfl rfl rfl (by kernel_rfl) rfl ?_
  clear hI; rintro b6 w - - hI
  refine WL_nil ?_
  refine WX_seqW ?_
  refine W_region ?_
  refine WL_val rfl rfl rfl (by first | exact rLd (v := .pointer _) rfl (by kernel_rfl) rfl (by first | exact hI.c0 rfl | exact hI.c1 rfl | exact hI.c2 rfl | exact hI.c3 rfl | exact hI.c4 rfl | exact hI.c5 rfl | exact hI.oldp ha | exact ha | exact hI.oldp q0 | exact q0 | exact hI.oldp q1 | exact q1 | exact hI.oldp q2 | exact q2 | exact hI.oldp q3 | exact q3) | exact rLd rfl (by kernel_rfl) rfl (by first | exact hI.c0 rfl | exact hI.c1 rfl | exact hI.c2 rfl | exact hI.c3 rfl | exact hI.c4 rfl | exact hI.c5 rfl | exact hI.oldp ha | exact ha | exact hI.oldp q0 | exact q0 | exact hI.oldp q1 | exact q1 | exact hI.oldp q2 | exact q2 | exact hI.oldp q3 | exact q3)) ?_
  refine WL_val rfl rfl rfl (rNilChk rfl rfl) ?_
  refine WL_val rfl rfl rfl (by first | exact rFldN (off := 1) rfl (by kernel_rfl) rfl | exact rFld (off := 1) rfl (by kernel_rfl) rfl) ?_
  refine WL_val rfl rfl rfl (by first | exact rLd (v := .slice _ _ _) rfl (by kernel_rfl) rfl (by first | exact hI.c0 rfl | exact hI.c1 rfl | exact hI.c2 rfl | exact hI.c3 rfl | exact hI.c4 rfl | exact hI.c5 rfl | exact hI.oldp ha | exact ha | exact hI.oldp q0 | exact q0 | exact hI.oldp q1 | exact q1 | exact hI.oldp q2 | exact q2 | exact hI.oldp q3 | exact q3) | exact rLd rfl (by kernel_rfl) rfl (by first | exact hI.c0 rfl | exact hI.c1 rfl | exact hI.c2 rfl | exact hI.c3 rfl | exact hI.c4 rfl | exact hI.c5 rfl | exact hI.oldp ha | exact ha | exact hI.oldp q0 | exact q0 | exact hI.oldp q1 | exact q1 | exact hI.oldp q2 | exact q2 | exact hI.oldp q3 | exact q3)) ?_
  refine WL_val rfl rfl rfl (by first | exact rMoveI rfl rfl | exact rMove rfl) ?_
  refine WL_val rfl rfl rfl (rIdx (sz := 4) rfl Tryd.underlying61 (by kernel_rfl) rfl rfl (by omega)) ?_
  refine WL_val rfl rfl rfl (by first | exact rLdB (n := 4) rfl (by kernel_rfl) (by kernel_rfl) rfl rfl hI.g0 | exact rLdB (n := 4) rfl (by kernel_rfl) (by kernel_rfl) rfl rfl hI.g1 | exact rLdB (n := 4) rfl (by kernel_rfl) (by kernel_rfl) rfl rfl hI.g2 | exact rLdB (n := 4) rfl (by kernel_rfl) (by kernel_rfl) rfl rfl hI.g3 | exact rLdB (n := 4) rfl (by kernel_rfl) (by kernel_rfl) rfl rfl hI.g4 | exact rLdB (n := 4) rfl (by kernel_rfl) (by kernel_rfl) rfl rfl hI.g5 | exact rLd4 rfl (by kernel_rfl) (by kernel_rfl) rfl (by first | exact hI.c0 rfl | exact hI.c1 rfl | exact hI.c2 rfl | exact hI.c3 rfl | exact hI.c4 rfl | exact hI.c5 rfl | exact hI.oldp ha | exact ha | exact hI.oldp q0 | exact q0 | exact hI.oldp q1 | exact q1 | exact hI.oldp q2 | exact q2 | exact hI.oldp q3 | exact q3) (by first | exact hI.c0 rfl | exact hI.c1 rfl | exact hI.c2 rfl | exact hI.c3 rfl | exact hI.c4 rfl | exact hI.c5 rfl | exact hI.oldp ha | exact ha | exact hI.oldp q0 | exact q0 | exact hI.oldp q1 | exact q1 | exact hI.oldp q2 | exact q2 | exact hI.oldp q3 | exact q3) (by first | exact hI.c0 rfl | exact hI.c1 rfl | exact hI.c2 rfl | exact hI.c3 rfl | exact hI.c4 rfl | exact hI.c5 rfl | exact hI.oldp ha | exact ha | exact hI.oldp q0 | exact q0 | exact hI.oldp q1 | exact q1 | exact hI.oldp q2 | exact q2 | exact hI.oldp q3 | exact q3) (by first | exact hI.c0 rfl | exact hI.c1 rfl | exact hI.c2 rfl | exact hI.c3 rfl | exact hI.c4 rfl | exact hI.c5 rfl | exact hI.oldp ha | exact ha | exact hI.oldp q0 | exact q0 | exact hI.oldp q1 | exact q1 | exact hI.oldp q2 | exact q2 | exact hI.oldp q3 | exact q3)) ?_
  refine WL_alloc (u := .agg #[.slice none 0 0, .int .i64 0, .int .i64 0, .bool false]) (vs := #[.slice none 0 0, .int .i64 0, .int .i64 0, .bool false]) hI rfl rfl rfl rfl (by kernel_rfl) rfl ?_
  clear hI; rintro b7 w - - hI
  first | refine WL_stw0 (u := .agg _) (vs := #[_, _, _, _]) (n := 4) hI rfl rfl rfl rfl rfl rfl (by kernel_rfl) rfl rfl rfl ?_ | refine WL_stw1 (u := .agg _) (vs := #[_, _, _, _]) (n := 4) hI rfl rfl rfl rfl rfl rfl (by kernel_rfl) rfl rfl rfl ?_ | refine WL_stw2 (u := .agg _) (vs := #[_, _, _, _]) (n := 4) hI rfl rfl rfl rfl rfl rfl (by kernel_rfl) rfl rfl rfl ?_ | refine WL_stw3 (u := .agg _) (vs := #[_, _, _, _]) (n := 4) hI rfl rfl rfl rfl rfl rfl (by kernel_rfl) rfl rfl rfl ?_ | refine WL_stw4 (u := .agg _) (vs := #[_, _, _, _]) (n := 4) hI rfl rfl rfl rfl rfl rfl (by kernel_rfl) rfl rfl rfl ?_ | refine WL_stw5 (u := .agg _) (vs := #[_, _, _, _]) (n := 4) hI rfl rfl rfl rfl rfl rfl (by kernel_rfl) rfl rfl rfl ?_
  clear hI; intro w hI
  refine WL_nil ?_
  refine WX_seqW ?_
  refine W_seq ?_
  refine W_region ?_
  refine WL_val rfl rfl rfl (by first | exact rLdB (n := 4) rfl (by kernel_rfl) (by kernel_rfl) rfl rfl hI.g0 | exact rLdB (n := 4) rfl (by kernel_rfl) (by kernel_rfl) rfl rfl hI.g1 | exact rLdB (n := 4) rfl (by kernel_rfl) (by kernel_rfl) rfl rfl hI.g2 | exact rLdB (n := 4) rfl (by kernel_rfl) (by kernel_rfl) rfl rfl hI.g3 | exact rLdB (n := 4) rfl (by kernel_rfl) (by kernel_rfl) rfl rfl hI.g4 | exact rLdB (n := 4) rfl (by kernel_rfl) (by kernel_rfl) rfl rfl hI.g5 | exact rLd4 rfl (by kernel_rfl) (by kernel_rfl) rfl (by first | exact hI.c0 rfl | exact hI.c1 rfl | exact hI.c2 rfl | exact hI.c3 rfl | exact hI.c4 rfl | exact hI.c5 rfl) (by first | exact hI.c0 rfl | exact hI.c1 rfl | exact hI.c2 rfl | exact hI.c3 rfl | exact hI.c4 rfl | exact hI.c5 rfl) (by first | exact hI.c0 rfl | exact hI.c1 rfl | exact hI.c2 rfl | exact hI.c3 rfl | exact hI.c4 rfl | exact hI.c5 rfl) (by first | exact hI.c0 rfl | exact hI.c1 rfl | exact hI.c2 rfl | exact hI.c3 rfl | exact hI.c4 rfl | exact hI.c5 rfl)) ?_
  refine WL_val rfl rfl rfl (by first | exact rLd (v := .int .i64 _) rfl (by kernel_rfl) rfl (by first | exact hI.c0 rfl | exact hI.c1 rfl | exact hI.c2 rfl | exact hI.c3 rfl | exact hI.c4 rfl | exact hI.c5 rfl) | exact rLd rfl (by kernel_rfl) rfl (by first | exact hI.c0 rfl | exact hI.c1 rfl | exact hI.c2 rfl | exact hI.c3 rfl | exact hI.c4 rfl | exact hI.c5 rfl)) ?_
  refine WL_call rfl rfl rfl (rCall (vs := [.agg _, .int .i64 _]) rfl Tryd.func46 rfl rfl rfl) ?_
  refine (writes_any A1 _ c1 _ _ _ _ _ D _ (ho.pure hI.pu)).mono ?_
  rintro e w1 ⟨rfl, hp⟩
  refine ⟨_, rfl, ?_⟩
  replace hI := hI.pure hp
  refine WL_val rfl rfl rfl (by first | exact rAsgnI rfl rfl | exact rAsgn rfl) ?_
  refine WL_nil ?_
  have hv9 := versF_le (txAt s i).ops (key : Int)
  have hv8 := ho.len
  by_cases hpos : 0 < versF (txAt s i).ops key
  · refine W_seq ?_
    refine W_region ?_
    refine WL_val rfl rfl rfl (by first | exact rMoveI rfl rfl | exact rMove rfl) ?_
    refine WL_val rfl rfl rfl (by first | exact rGtrT rfl rfl rfl (by omega) | exact rGtrF rfl rfl rfl (by omega) | exact rGtr rfl rfl rfl) ?_
    refine WL_nil ?_
    refine W_cond true rfl ?_
    refine W_seq ?_
    refine W_region ?_
    refine WL_val rfl rfl rfl (by first | exact rLd (v := .int .i64 _) rfl (by kernel_rfl) rfl (by first | exact hI.c0 rfl | exact hI.c1 rfl | exact hI.c2 rfl | exact hI.c3 rfl | exact hI.c4 rfl | exact hI.c5 rfl) | exact rLd rfl (by kernel_rfl) rfl (by first | exact hI.c0 rfl | exact hI.c1 rfl | exact hI.c2 rfl | exact hI.c3 rfl | exact hI.c4 rfl | exact hI.c5 rfl)) ?_
    refine WL_val rfl rfl rfl (by first | exact rMoveI rfl rfl | exact rMove rfl) ?_
    refine WL_val rfl rfl rfl (by first | exact rMoveI rfl rfl | exact rMove rfl) ?_
    refine WL_val rfl rfl rfl (by first | exact rSub rfl rfl rfl (by omega) | exact rSubW rfl rfl rfl) ?_
    refine WL_val rfl rfl rfl (rBuild (qs := [(1, .int .i64 _), (2, .int .i64 _), (3, .int .i64 _)]) (vs := [_, _, _, _]) [.bool false, .int .i64 0, .int .i64 0, .int .i64 0] [1, 2, 3] rfl rfl rfl (fun _ => by kernel_rfl)) ?_
    first | refine WL_stw0 (u := .agg _) (vs := #[_, _, _, _]) (n := 4) hI rfl rfl rfl rfl rfl rfl (by kernel_rfl) rfl rfl rfl ?_ | refine WL_stw1 (u := .agg _) (vs := #[_, _, _, _]) (n := 4) hI rfl rfl rfl rfl rfl rfl (by kernel_rfl) rfl rfl rfl ?_ | refine WL_stw2 (u := .agg _) (vs := #[_, _, _, _]) (n := 4) hI rfl rfl rfl rfl rfl rfl (by kernel_rfl) rfl rfl rfl ?_ | refine WL_stw3 (u := .agg _) (vs := #[_, _, _, _]) (n := 4) hI rfl rfl rfl rfl rfl rfl (by kernel_rfl) rfl rfl rfl ?_ | refine WL_stw4 (u := .agg _) (vs := #[_, _, _, _]) (n := 4) hI rfl rfl rfl rfl rfl rfl (by kernel_rfl) rfl rfl rfl ?_ | refine WL_stw5 (u := .agg _) (vs := #[_, _, _, _]) (n := 4) hI rfl rfl rfl rfl rfl rfl (by kernel_rfl) rfl rfl rfl ?_
    clear hI; intro w hI
    refine WL_nil ?_
    refine W_ret ?_
    exact fun a ha => leaves_retQ0 ha (retC (n := 4) (t := 70) (.inr rfl) rfl rfl (by kernel_rfl) (by kernel_rfl) rfl hI.g1 ⟨by rw [readF, if_pos hpos]; rfl, hI.pu⟩)
  · refine W_seq ?_
    refine W_region ?_
    refine WL_val rfl rfl rfl (by first | exact rMoveI rfl rfl | exact rMove rfl) ?_
    refine WL_val rfl rfl rfl (by first | exact rGtrT rfl rfl rfl (by omega) | exact rGtrF rfl rfl rfl (by omega) | exact rGtr rfl rfl rfl) ?_
    refine WL_nil ?_
    refine W_cond false rfl ?_
    refine W_skip ?_
    refine WX_seq ?_
    refine WX_seqW ?_
    refine W_region ?_
    refine WL_val rfl rfl rfl (by first | exact rLd (v := .pointer _) rfl (by kernel_rfl) rfl (by first | exact hI.c0 rfl | exact hI.c1 rfl | exact hI.c2 rfl | exact hI.c3 rfl | exact hI.c4 rfl | exact hI.c5 rfl) | exact rLd rfl (by kernel_rfl) rfl (by first | exact hI.c0 rfl | exact hI.c1 rfl | exact hI.c2 rfl | exact hI.c3 rfl | exact hI.c4 rfl | exact hI.c5 rfl)) ?_
    refine WL_val rfl rfl rfl (by first | exact rLd (v := .int .i64 _) rfl (by kernel_rfl) rfl (by first | exact hI.c0 rfl | exact hI.c1 rfl | exact hI.c2 rfl | exact hI.c3 rfl | exact hI.c4 rfl | exact hI.c5 rfl) | exact rLd rfl (by kernel_rfl) rfl (by first | exact hI.c0 rfl | exact hI.c1 rfl | exact hI.c2 rfl | exact hI.c3 rfl | exact hI.c4 rfl | exact hI.c5 rfl)) ?_
    refine WL_call rfl rfl rfl (rCall (vs := [.pointer _, .int .i64 _]) rfl Tryd.func47 rfl rfl rfl) ?_
    refine (com_any b (key : Int) _).mono ?_
    rintro e w1 ⟨g1, g2, rfl, hI4⟩
    refine ⟨_, rfl, ?_⟩
    replace hI := hI.app2 hI4
    refine WL_nil ?_
    have hb1 := h.pure hI.pu
    have hord : s.order[key]? = some (bOrd s key) := ordAt_get (by rw [h.olen]; exact hk)
    obtain ⟨l, hl⟩ : ∃ l, bOrd s key = l := ⟨_, rfl⟩
    rw [hl] at hord
    have k0 := hI.c0 (j := 0) rfl
    have k1 := hI.c1 (j := 0) rfl
    have k2 := hI.c2 (j := 1) rfl
    have k4 := hI.c4 (j := 0) rfl
    have k5 := hI.c5 (j := 0) rfl
    have B6 : Blk w1 b6 70 #[.bool false, .int .i64 0, .int .i64 0, .int .i64 0] := hI.g3
    have hlt6 := B6.lt
    have ho6 : w0.heap.size ≤ b6 := (hI.own _ (List.mem_of_getElem? (i := 3) rfl) b6 rfl).resolve_left id
    have n0 : ¬ b6 = g2 := (hI.disj (i := 3) (j := 0) rfl rfl (by decide)) b6 rfl
    have n1 : ¬ b6 = g1 := (hI.disj (i := 3) (j := 1) rfl rfl (by decide)) b6 rfl
    have n2 : ¬ b7 = b6 := (hI.disj (i := 2) (j := 3) rfl rfl (by decide)) b7 rfl
    have n4 : ¬ b5 = b6 := (hI.disj (i := 4) (j := 3) rfl rfl (by decide)) b5 rfl
    have n5 : ¬ b3 = b6 := (hI.disj (i := 5) (j := 3) rfl rfl (by decide)) b3 rfl
    have lt0 : g2 < w1.heap.size := World.block_lt_of_cell? w1 _ k0
    have lt1 : g1 < w1.heap.size := World.block_lt_of_cell? w1 _ k1
    have lt2 : b7 < w1.heap.size := World.block_lt_of_cell? w1 _ k2
    have lt4 : b5 < w1.heap.size := World.block_lt_of_cell? w1 _ k4
    have lt5 : b3 < w1.heap.size := World.block_lt_of_cell? w1 _ k5
    have hsz := hI.chg.size
    have hDb := h.dlt b h.self
    have hDtb := h.dlt tb hDt
    have nb : ¬ b = b6 := by omega
    have nt : ¬ tb = b6 := by omega
    have hpu := hI.pu
    have hgoodl : ∀ k, k < l.length → l.getD (l.length - 1 - k) 0 < s.txs.length := fun k hkl => h.good key l _ hord (by
      rw [List.getD, List.getElem?_eq_getElem (by omega)]
      exact List.getElem_mem _)
    clear hI
    refine WX_block ?_
    refine WX_range (xs := comL l) (M := fun k => k = g1 ∨ k = g2 ∨ D k) (w0 := w1) rfl (enters_of Tryd.func56 rfl rfl)
      (com_seq g1 g2 b key D _ l s w1 k1 k0 hb1 hord ⟨.inl rfl, .inr (.inl rfl)⟩ (fun k hk => .inr (.inr hk))) (Pure.refl _) (fun x => x = b6)
      (fun x hx => by subst hx; exact ⟨fun hm => (by rcases hm with hm | hm | hm; exact n1 hm; exact n0 hm; have := h.dlt _ hm; omega), hlt6⟩)
      (fun x hx => by rcases hx with rfl | rfl | hx; exact lt1; exact lt0; have := h.dlt _ hx; omega)
      (fun k V => (Chg (fun x => x = b6 ∨ w1.heap.size ≤ x) w1 V ∧ Blk V b6 70 #[.bool false, .int .i64 0, .int .i64 0, .int .i64 0]) ∧ ∀ j, j < k → ¬ (txAt s (l.getD (l.length - 1 - j) 0)).com < (txAt s i).beg)
      (fun c V => c = .ret ∧ Chg (fun x => x = b6 ∨ w1.heap.size ≤ x) w1 V ∧ ∃ x, lastF s l (txAt s i).beg = some x ∧ Blk V b6 70 #[.bool false, .int .i64 (key : Int), .int .i64 ((x : Nat) : Int), .int .i64 ((versF (txAt s x).ops key : Int) - 1)])
      (fun k V V' ⟨⟨h1, h3⟩, h2⟩ ha => ⟨⟨Aside.chg h1 ha (fun b hb _ => .inr hb), ha.blk h3⟩, h2⟩) (fun c V V' ⟨h1, h2, x, h3, h4⟩ ha => ⟨h1, Aside.chg h2 ha (fun b hb _ => .inr hb), x, h3, ha.blk h4⟩)
      ⟨⟨Chg.refl _ _, B6⟩, fun j hj => by omega⟩
      (fun args ha => by simp only [comL, List.mem_map] at ha; obtain ⟨_, _, rfl⟩ := ha; rfl) (by decide) ?_ ?_ ?_
    · rintro k args V hx ⟨hcg, hno⟩ hsV
      have hkl : k < l.length := by have := (List.getElem?_eq_some_iff.1 hx).1; rw [comL_len] at this; exact this
      rw [comL_get hkl] at hx
      injection hx with hx
      subst hx
      --@rd
      refine Rd.W_region ?_
      refine WL_val rfl rfl rfl (by first | exact rAsgnI rfl rfl | exact rAsgn rfl) ?_
      refine WL_nil ?_
      refine ⟨rfl, rfl, fun V2 ⟨⟨hc2, hB2⟩, _⟩ hs2 => ?_⟩
      have hxl := hgoodl k hkl
      have hlast := lastF_some (s := s) (l := l) (t := (txAt s i).beg) hkl hno
      have hno1 : ¬ (txAt s (l.getD (l.length - 1 - k) 0)).com < (txAt s i).beg → ∀ j, j < k + 1 → ¬ (txAt s (l.getD (l.length - 1 - j) 0)).com < (txAt s i).beg := fun h j hj => by
        by_cases hjk : j < k
        · exact hno j hjk
        · obtain rfl : j = k := by omega
          exact h
      generalize l.getD (l.length - 1 - k) 0 = x at *
      obtain ⟨tb', tf', A2, c2, he, _, x0, x1, x2, x3, hox⟩ := hm.get (txAt_get hxl)
      injection he with he
      injection he with he1 he2 _
      subst he1 he2
      have hpc : Chg (fun x => x = b6 ∨ w1.heap.size ≤ x) w0 V2 := Chg.trans' (hpu.chg _) hc2 (fun i _ h => h)
      have m2 := hc2.cell' k2 (fun h => by have h : b7 = b6 ∨ w1.heap.size ≤ b7 := h; omega)
      have m4 := hc2.cell' k4 (fun h => by have h : b5 = b6 ∨ w1.heap.size ≤ b5 := h; omega)
      have m5 := hc2.cell' k5 (fun h => by have h : b3 = b6 ∨ w1.heap.size ≤ b3 := h; omega)
      have ma := hpc.cell' ha (fun h => by have h : b = b6 ∨ w1.heap.size ≤ b := h; omega)
      have y0 := hpc.cell' x0 (fun h => by have h : tb = b6 ∨ w1.heap.size ≤ tb := h; omega)
      have y1 := hpc.cell' x1 (fun h => by have h : tb = b6 ∨ w1.heap.size ≤ tb := h; omega)
      have y2 := hpc.cell' x2 (fun h => by have h : tb = b6 ∨ w1.heap.size ≤ tb := h; omega)
      have y3 := hpc.cell' x3 (fun h => by have h : tb = b6 ∨ w1.heap.size ≤ tb := h; omega)
      have hoy := hox.chg hpc (fun k hk h9 => by have := h.dlt k hk; have h9 : k = b6 ∨ w1.heap.size ≤ k := h9; omega)
      have hI := Inv.own1 hB2
      have hvx := versF_le (txAt s x).ops (key : Int)
      have hvl := hox.len
      have hoD : ∀ k, D k → ¬ k = b6 := fun k hk h9 => by have := h.dlt k hk; omega
      refine Rd.W_block ?_
      by_cases hlt : (txAt s x).com < (txAt s i).beg
      · refine Rd.W_seq ?_
        refine Rd.W_draw (by kernel_rfl) ?_
        refine WA_inv (T := []) hI.drew ?_
        intro Sx hSx hXS
        replace hI := hI.drew
        refine WT_take 0 rfl rfl (by kernel_rfl) (hXS _ hI) rfl (fun W hW => have hI := hSx W hW; (by first | exact rLd (v := .pointer _) rfl (by kernel_rfl) rfl (by first | exact hI.c0 rfl | exact hI.c1 rfl | exact hI.c2 rfl | exact hI.c3 rfl | exact hI.c4 rfl | exact hI.c5 rfl | exact (hI.old m5 n5) | exact (hI.old ma nb) | exact (hI.old y2 nt) | exact (hI.old m2 n2)) | exact rLd rfl (by kernel_rfl) rfl (by first | exact hI.c0 rfl | exact hI.c1 rfl | exact hI.c2 rfl | exact hI.c3 rfl | exact hI.c4 rfl | exact hI.c5 rfl | exact (hI.old m5 n5) | exact (hI.old ma nb) | exact (hI.old y2 nt) | exact (hI.old m2 n2)))) ?_
        refine WT_take 1 rfl rfl (by kernel_rfl) (hXS _ hI) rfl (fun W hW => have hI := hSx W hW; (rNilChk rfl rfl)) ?_
        refine WT_take 2 rfl rfl (by kernel_rfl) (hXS _ hI) rfl (fun W hW => have hI := hSx W hW; (by first | exact rFldN (off := 1) rfl (by kernel_rfl) rfl | exact rFld (off := 1) rfl (by kernel_rfl) rfl)) ?_
        refine WT_take 3 rfl rfl (by kernel_rfl) (hXS _ hI) rfl (fun W hW => have hI := hSx W hW; (by first | exact rLd (v := .slice _ _ _) rfl (by kernel_rfl) rfl (by first | exact hI.c0 rfl | exact hI.c1 rfl | exact hI.c2 rfl | exact hI.c3 rfl | exact hI.c4 rfl | exact hI.c5 rfl | exact (hI.old m5 n5) | exact (hI.old ma nb) | exact (hI.old y2 nt) | exact (hI.old m2 n2)) | exact rLd rfl (by kernel_rfl) rfl (by first | exact hI.c0 rfl | exact hI.c1 rfl | exact hI.c2 rfl | exact hI.c3 rfl | exact hI.c4 rfl | exact hI.c5 rfl | exact (hI.old m5 n5) | exact (hI.old ma nb) | exact (hI.old y2 nt) | exact (hI.old m2 n2)))) ?_
        refine WT_take 4 rfl rfl (by kernel_rfl) (hXS _ hI) rfl (fun W hW => have hI := hSx W hW; (by first | exact rMoveI rfl rfl | exact rMove rfl)) ?_
        refine WT_take 5 rfl rfl (by kernel_rfl) (hXS _ hI) rfl (fun W hW => have hI := hSx W hW; (rIdx (sz := 4) rfl Tryd.underlying61 (by kernel_rfl) rfl rfl (by omega))) ?_
        refine WT_take 6 rfl rfl (by kernel_rfl) (hXS _ hI) rfl (fun W hW => have hI := hSx W hW; (by first | exact rFldN (off := 2) rfl (by kernel_rfl) rfl | exact rFld (off := 2) rfl (by kernel_rfl) rfl)) ?_
        refine WT_take 7 rfl rfl (by kernel_rfl) (hXS _ hI) rfl (fun W hW => have hI := hSx W hW; (by first | exact rLd (v := .int .i64 _) rfl (by kernel_rfl) rfl (by first | exact hI.c0 rfl | exact hI.c1 rfl | exact hI.c2 rfl | exact hI.c3 rfl | exact hI.c4 rfl | exact hI.c5 rfl | exact (hI.old m5 n5) | exact (hI.old ma nb) | exact (hI.old y2 nt) | exact (hI.old m2 n2)) | exact rLd rfl (by kernel_rfl) rfl (by first | exact hI.c0 rfl | exact hI.c1 rfl | exact hI.c2 rfl | exact hI.c3 rfl | exact hI.c4 rfl | exact hI.c5 rfl | exact (hI.old m5 n5) | exact (hI.old ma nb) | exact (hI.old y2 nt) | exact (hI.old m2 n2)))) ?_
        refine WT_take 8 rfl rfl (by kernel_rfl) (hXS _ hI) rfl (fun W hW => have hI := hSx W hW; (by first | exact rFldN (off := 1) rfl (by kernel_rfl) rfl | exact rFld (off := 1) rfl (by kernel_rfl) rfl)) ?_
        refine WT_take 9 rfl rfl (by kernel_rfl) (hXS _ hI) rfl (fun W hW => have hI := hSx W hW; (by first | exact rLd (v := .int .i64 _) rfl (by kernel_rfl) rfl (by first | exact hI.c0 rfl | exact hI.c1 rfl | exact hI.c2 rfl | exact hI.c3 rfl | exact hI.c4 rfl | exact hI.c5 rfl | exact (hI.old m5 n5) | exact (hI.old ma nb) | exact (hI.old y2 nt) | exact (hI.old m2 n2)) | exact rLd rfl (by kernel_rfl) rfl (by first | exact hI.c0 rfl | exact hI.c1 rfl | exact hI.c2 rfl | exact hI.c3 rfl | exact hI.c4 rfl | exact hI.c5 rfl | exact (hI.old m5 n5) | exact (hI.old ma nb) | exact (hI.old y2 nt) | exact (hI.old m2 n2)))) ?_
        refine WT_take 10 rfl rfl (by kernel_rfl) (hXS _ hI) rfl (fun W hW => have hI := hSx W hW; (by first | exact rLssT rfl rfl rfl (by omega) | exact rLssF rfl rfl rfl (by omega) | exact rLss rfl rfl rfl)) ?_
        refine WT_end (by kernel_rfl) ?_
        refine Rd.W_cond true rfl ?_
        refine Rd.W_seq ?_
        refine Rd.W_draw (by kernel_rfl) ?_
        refine WA_inv (T := [13]) hI.drew ?_
        intro Sx hSx hXS
        replace hI := hI.drew
        refine WT_take 0 rfl rfl (by kernel_rfl) (hXS _ hI) rfl (fun W hW => have hI := hSx W hW; (by first | exact rLd (v := .int .i64 _) rfl (by kernel_rfl) rfl (by first | exact hI.c0 rfl | exact hI.c1 rfl | exact hI.c2 rfl | exact hI.c3 rfl | exact hI.c4 rfl | exact hI.c5 rfl | exact (hI.old m4 n4) | exact (hI.old m5 n5) | exact (hI.old ma nb) | exact (hI.old y0 nt) | exact (hI.old y1 nt) | exact (hI.old y2 nt) | exact (hI.old y3 nt)) | exact rLd rfl (by kernel_rfl) rfl (by first | exact hI.c0 rfl | exact hI.c1 rfl | exact hI.c2 rfl | exact hI.c3 rfl | exact hI.c4 rfl | exact hI.c5 rfl | exact (hI.old m4 n4) | exact (hI.old m5 n5) | exact (hI.old ma nb) | exact (hI.old y0 nt) | exact (hI.old y1 nt) | exact (hI.old y2 nt) | exact (hI.old y3 nt)))) ?_
        refine WT_take 1 rfl rfl (by kernel_rfl) (hXS _ hI) rfl (fun W hW => have hI := hSx W hW; (by first | exact rMoveI rfl rfl | exact rMove rfl)) ?_
        refine WT_take 2 rfl rfl (by kernel_rfl) (hXS _ hI) rfl (fun W hW => have hI := hSx W hW; (by first | exact rLd (v := .pointer _) rfl (by kernel_rfl) rfl (by first | exact hI.c0 rfl | exact hI.c1 rfl | exact hI.c2 rfl | exact hI.c3 rfl | exact hI.c4 rfl | exact hI.c5 rfl | exact (hI.old m4 n4) | exact (hI.old m5 n5) | exact (hI.old ma nb) | exact (hI.old y0 nt) | exact (hI.old y1 nt) | exact (hI.old y2 nt) | exact (hI.old y3 nt)) | exact rLd rfl (by kernel_rfl) rfl (by first | exact hI.c0 rfl | exact hI.c1 rfl | exact hI.c2 rfl | exact hI.c3 rfl | exact hI.c4 rfl | exact hI.c5 rfl | exact (hI.old m4 n4) | exact (hI.old m5 n5) | exact (hI.old ma nb) | exact (hI.old y0 nt) | exact (hI.old y1 nt) | exact (hI.old y2 nt) | exact (hI.old y3 nt)))) ?_
        refine WT_take 3 rfl rfl (by kernel_rfl) (hXS _ hI) rfl (fun W hW => have hI := hSx W hW; (rNilChk rfl rfl)) ?_
        refine WT_take 4 rfl rfl (by kernel_rfl) (hXS _ hI) rfl (fun W hW => have hI := hSx W hW; (by first | exact rFldN (off := 1) rfl (by kernel_rfl) rfl | exact rFld (off := 1) rfl (by kernel_rfl) rfl)) ?_
        refine WT_take 5 rfl rfl (by kernel_rfl) (hXS _ hI) rfl (fun W hW => have hI := hSx W hW; (by first | exact rLd (v := .slice _ _ _) rfl (by kernel_rfl) rfl (by first | exact hI.c0 rfl | exact hI.c1 rfl | exact hI.c2 rfl | exact hI.c3 rfl | exact hI.c4 rfl | exact hI.c5 rfl | exact (hI.old m4 n4) | exact (hI.old m5 n5) | exact (hI.old ma nb) | exact (hI.old y0 nt) | exact (hI.old y1 nt) | exact (hI.old y2 nt) | exact (hI.old y3 nt)) | exact rLd rfl (by kernel_rfl) rfl (by first | exact hI.c0 rfl | exact hI.c1 rfl | exact hI.c2 rfl | exact hI.c3 rfl | exact hI.c4 rfl | exact hI.c5 rfl | exact (hI.old m4 n4) | exact (hI.old m5 n5) | exact (hI.old ma nb) | exact (hI.old y0 nt) | exact (hI.old y1 nt) | exact (hI.old y2 nt) | exact (hI.old y3 nt)))) ?_
        refine WT_take 6 rfl rfl (by kernel_rfl) (hXS _ hI) rfl (fun W hW => have hI := hSx W hW; (by first | exact rMoveI rfl rfl | exact rMove rfl)) ?_
        refine WT_take 7 rfl rfl (by kernel_rfl) (hXS _ hI) rfl (fun W hW => have hI := hSx W hW; (rIdx (sz := 4) rfl Tryd.underlying61 (by kernel_rfl) rfl rfl (by omega))) ?_
        refine WT_take 8 rfl rfl (by kernel_rfl) (hXS _ hI) rfl (fun W hW => have hI := hSx W hW; (by first | exact rLdB (n := 4) rfl (by kernel_rfl) (by kernel_rfl) rfl rfl hI.g0 | exact rLdB (n := 4) rfl (by kernel_rfl) (by kernel_rfl) rfl rfl hI.g1 | exact rLdB (n := 4) rfl (by kernel_rfl) (by kernel_rfl) rfl rfl hI.g2 | exact rLdB (n := 4) rfl (by kernel_rfl) (by kernel_rfl) rfl rfl hI.g3 | exact rLdB (n := 4) rfl (by kernel_rfl) (by kernel_rfl) rfl rfl hI.g4 | exact rLdB (n := 4) rfl (by kernel_rfl) (by kernel_rfl) rfl rfl hI.g5 | exact rLd4 rfl (by kernel_rfl) (by kernel_rfl) rfl (by first | exact hI.c0 rfl | exact hI.c1 rfl | exact hI.c2 rfl | exact hI.c3 rfl | exact hI.c4 rfl | exact hI.c5 rfl | exact (hI.old m4 n4) | exact (hI.old m5 n5) | exact (hI.old ma nb) | exact (hI.old y0 nt) | exact (hI.old y1 nt) | exact (hI.old y2 nt) | exact (hI.old y3 nt)) (by first | exact hI.c0 rfl | exact hI.c1 rfl | exact hI.c2 rfl | exact hI.c3 rfl | exact hI.c4 rfl | exact hI.c5 rfl | exact (hI.old m4 n4) | exact (hI.old m5 n5) | exact (hI.old ma nb) | exact (hI.old y0 nt) | exact (hI.old y1 nt) | exact (hI.old y2 nt) | exact (hI.old y3 nt)) (by first | exact hI.c0 rfl | exact hI.c1 rfl | exact hI.c2 rfl | exact hI.c3 rfl | exact hI.c4 rfl | exact hI.c5 rfl | exact (hI.old m4 n4) | exact (hI.old m5 n5) | exact (hI.old ma nb) | exact (hI.old y0 nt) | exact (hI.old y1 nt) | exact (hI.old y2 nt) | exact (hI.old y3 nt)) (by first | exact hI.c0 rfl | exact hI.c1 rfl | exact hI.c2 rfl | exact hI.c3 rfl | exact hI.c4 rfl | exact hI.c5 rfl | exact (hI.old m4 n4) | exact (hI.old m5 n5) | exact (hI.old ma nb) | exact (hI.old y0 nt) | exact (hI.old y1 nt) | exact (hI.old y2 nt) | exact (hI.old y3 nt)))) ?_
        refine WT_take 9 rfl rfl (by kernel_rfl) (hXS _ hI) rfl (fun W hW => have hI := hSx W hW; (by first | exact rLd (v := .int .i64 _) rfl (by kernel_rfl) rfl (by first | exact hI.c0 rfl | exact hI.c1 rfl | exact hI.c2 rfl | exact hI.c3 rfl | exact hI.c4 rfl | exact hI.c5 rfl | exact (hI.old m4 n4) | exact (hI.old m5 n5) | exact (hI.old ma nb) | exact (hI.old y0 nt) | exact (hI.old y1 nt) | exact (hI.old y2 nt) | exact (hI.old y3 nt)) | exact rLd rfl (by kernel_rfl) rfl (by first | exact hI.c0 rfl | exact hI.c1 rfl | exact hI.c2 rfl | exact hI.c3 rfl | exact hI.c4 rfl | exact hI.c5 rfl | exact (hI.old m4 n4) | exact (hI.old m5 n5) | exact (hI.old ma nb) | exact (hI.old y0 nt) | exact (hI.old y1 nt) | exact (hI.old y2 nt) | exact (hI.old y3 nt)))) ?_
        refine WT_one 10 rfl (by kernel_rfl) rfl ?_
        refine WL_call rfl rfl rfl (rCall (vs := [.agg _, .int .i64 _]) rfl Tryd.func46 rfl rfl rfl) ?_
        refine (writes_any A2 _ c2 _ _ _ _ _ D _ (hoy.chg hI.chg hoD)).mono ?_
        rintro e w1 ⟨rfl, hp⟩
        refine ⟨_, rfl, ?_⟩
        replace hI := hI.pure hp
        refine WL_nil ⟨hXS _ hI, ?_⟩
        refine WT_take 11 rfl rfl (by kernel_rfl) (hXS _ hI) rfl (fun W hW => have hI := hSx W hW; (by first | exact rSub rfl rfl rfl (by omega) | exact rSubW rfl rfl rfl)) ?_
        refine WT_take 12 rfl rfl (by kernel_rfl) (hXS _ hI) rfl (fun W hW => have hI := hSx W hW; (rBuild (qs := [(1, .int .i64 _), (2, .int .i64 _), (3, .int .i64 _)]) (vs := [_, _, _, _]) [.bool false, .int .i64 0, .int .i64 0, .int .i64 0] [1, 2, 3] rfl rfl rfl (fun _ => by kernel_rfl))) ?_
        refine WT_A (by kernel_rfl) ?_
        clear hXS hSx
        refine WA_one 13 rfl (by kernel_rfl) ?_
        first | refine WL_stw0 (u := .agg _) (vs := #[_, _, _, _]) (n := 4) hI rfl rfl rfl rfl rfl rfl (by kernel_rfl) rfl rfl rfl ?_ | refine WL_stw1 (u := .agg _) (vs := #[_, _, _, _]) (n := 4) hI rfl rfl rfl rfl rfl rfl (by kernel_rfl) rfl rfl rfl ?_ | refine WL_stw2 (u := .agg _) (vs := #[_, _, _, _]) (n := 4) hI rfl rfl rfl rfl rfl rfl (by kernel_rfl) rfl rfl rfl ?_ | refine WL_stw3 (u := .agg _) (vs := #[_, _, _, _]) (n := 4) hI rfl rfl rfl rfl rfl rfl (by kernel_rfl) rfl rfl rfl ?_ | refine WL_stw4 (u := .agg _) (vs := #[_, _, _, _]) (n := 4) hI rfl rfl rfl rfl rfl rfl (by kernel_rfl) rfl rfl rfl ?_ | refine WL_stw5 (u := .agg _) (vs := #[_, _, _, _]) (n := 4) hI rfl rfl rfl rfl rfl rfl (by kernel_rfl) rfl rfl rfl ?_
        clear hI; intro w hI
        refine WL_nil ?_
        refine WA_end (by kernel_rfl) ?_
        refine Rd.W_ret ?_
        exact ⟨hI.chg, rfl, Chg.trans' hc2 hI.chg (fun i _ h => .inl h), x, hlast hlt, hI.g0⟩
      · refine Rd.W_seq ?_
        refine Rd.W_draw (by kernel_rfl) ?_
        refine WA_inv (T := []) hI.drew ?_
        intro Sx hSx hXS
        replace hI := hI.drew
        refine WT_take 0 rfl rfl (by kernel_rfl) (hXS _ hI) rfl (fun W hW => have hI := hSx W hW; (by first | exact rLd (v := .pointer _) rfl (by kernel_rfl) rfl (by first | exact hI.c0 rfl | exact hI.c1 rfl | exact hI.c2 rfl | exact hI.c3 rfl | exact hI.c4 rfl | exact hI.c5 rfl | exact (hI.old m5 n5) | exact (hI.old ma nb) | exact (hI.old y2 nt) | exact (hI.old m2 n2)) | exact rLd rfl (by kernel_rfl) rfl (by first | exact hI.c0 rfl | exact hI.c1 rfl | exact hI.c2 rfl | exact hI.c3 rfl | exact hI.c4 rfl | exact hI.c5 rfl | exact (hI.old m5 n5) | exact (hI.old ma nb) | exact (hI.old y2 nt) | exact (hI.old m2 n2)))) ?_
        refine WT_take 1 rfl rfl (by kernel_rfl) (hXS _ hI) rfl (fun W hW => have hI := hSx W hW; (rNilChk rfl rfl)) ?_
        refine WT_take 2 rfl rfl (by kernel_rfl) (hXS _ hI) rfl (fun W hW => have hI := hSx W hW; (by first | exact rFldN (off := 1) rfl (by kernel_rfl) rfl | exact rFld (off := 1) rfl (by kernel_rfl) rfl)) ?_
        refine WT_take 3 rfl rfl (by kernel_rfl) (hXS _ hI) rfl (fun W hW => have hI := hSx W hW; (by first | exact rLd (v := .slice _ _ _) rfl (by kernel_rfl) rfl (by first | exact hI.c0 rfl | exact hI.c1 rfl | exact hI.c2 rfl | exact hI.c3 rfl | exact hI.c4 rfl | exact hI.c5 rfl | exact (hI.old m5 n5) | exact (hI.old ma nb) | exact (hI.old y2 nt) | exact (hI.old m2 n2)) | exact rLd rfl (by kernel_rfl) rfl (by first | exact hI.c0 rfl | exact hI.c1 rfl | exact hI.c2 rfl | exact hI.c3 rfl | exact hI.c4 rfl | exact hI.c5 rfl | exact (hI.old m5 n5) | exact (hI.old ma nb) | exact (hI.old y2 nt) | exact (hI.old m2 n2)))) ?_
        refine WT_take 4 rfl rfl (by kernel_rfl) (hXS _ hI) rfl (fun W hW => have hI := hSx W hW; (by first | exact rMoveI rfl rfl | exact rMove rfl)) ?_
        refine WT_take 5 rfl rfl (by kernel_rfl) (hXS _ hI) rfl (fun W hW => have hI := hSx W hW; (rIdx (sz := 4) rfl Tryd.underlying61 (by kernel_rfl) rfl rfl (by omega))) ?_
        refine WT_take 6 rfl rfl (by kernel_rfl) (hXS _ hI) rfl (fun W hW => have hI := hSx W hW; (by first | exact rFldN (off := 2) rfl (by kernel_rfl) rfl | exact rFld (off := 2) rfl (by kernel_rfl) rfl)) ?_
        refine WT_take 7 rfl rfl (by kernel_rfl) (hXS _ hI) rfl (fun W hW => have hI := hSx W hW; (by first | exact rLd (v := .int .i64 _) rfl (by kernel_rfl) rfl (by first | exact hI.c0 rfl | exact hI.c1 rfl | exact hI.c2 rfl | exact hI.c3 rfl | exact hI.c4 rfl | exact hI.c5 rfl | exact (hI.old m5 n5) | exact (hI.old ma nb) | exact (hI.old y2 nt) | exact (hI.old m2 n2)) | exact rLd rfl (by kernel_rfl) rfl (by first | exact hI.c0 rfl | exact hI.c1 rfl | exact hI.c2 rfl | exact hI.c3 rfl | exact hI.c4 rfl | exact hI.c5 rfl | exact (hI.old m5 n5) | exact (hI.old ma nb) | exact (hI.old y2 nt) | exact (hI.old m2 n2)))) ?_
        refine WT_take 8 rfl rfl (by kernel_rfl) (hXS _ hI) rfl (fun W hW => have hI := hSx W hW; (by first | exact rFldN (off := 1) rfl (by kernel_rfl) rfl | exact rFld (off := 1) rfl (by kernel_rfl) rfl)) ?_
        refine WT_take 9 rfl rfl (by kernel_rfl) (hXS _ hI) rfl (fun W hW => have hI := hSx W hW; (by first | exact rLd (v := .int .i64 _) rfl (by kernel_rfl) rfl (by first | exact hI.c0 rfl | exact hI.c1 rfl | exact hI.c2 rfl | exact hI.c3 rfl | exact hI.c4 rfl | exact hI.c5 rfl | exact (hI.old m5 n5) | exact (hI.old ma nb) | exact (hI.old y2 nt) | exact (hI.old m2 n2)) | exact rLd rfl (by kernel_rfl) rfl (by first | exact hI.c0 rfl | exact hI.c1 rfl | exact hI.c2 rfl | exact hI.c3 rfl | exact hI.c4 rfl | exact hI.c5 rfl | exact (hI.old m5 n5) | exact (hI.old ma nb) | exact (hI.old y2 nt) | exact (hI.old m2 n2)))) ?_
        refine WT_take 10 rfl rfl (by kernel_rfl) (hXS _ hI) rfl (fun W hW => have hI := hSx W hW; (by first | exact rLssT rfl rfl rfl (by omega) | exact rLssF rfl rfl rfl (by omega) | exact rLss rfl rfl rfl)) ?_
        refine WT_end (by kernel_rfl) ?_
        refine Rd.W_cond false rfl ?_
        refine Rd.W_skip ?_
        exact ⟨hI.chg, ⟨Chg.trans' hc2 hI.chg (fun i _ h => .inl h), hI.g0⟩, hno1 hlt⟩
      --@dr
    · rintro V ⟨⟨hcg, hB⟩, hno⟩ hD9 a ha
      show Code.wpIn _ _ _ _ _ _ _
      rw [comL_len] at hno
      have hlast := lastF_none (s := s) (l := l) (t := (txAt s i).beg) hno
      have hI := Inv.own1 hB
      have m4 := hcg.cell' k4 (fun h => by have h : b5 = b6 ∨ w1.heap.size ≤ b5 := h; omega)
      refine (WX_R (?_ : Rd.W none _ _ _ _ (fun e ρ w => ∀ a, Fit Tryd.f36.ntmps ρ a → bodyPostM Fence.wide 0 Tryd.prog Tryd.f36 _ e (wd (markD w1.heap.size) a) w) _ _) (fun e ρ' a w' ha q => q a ha)) a ha
      --@rd
      refine Rd.W_seq ?_
      refine Rd.W_region ?_
      refine WL_val rfl rfl rfl (by first | exact rLd (v := .int .i64 _) rfl (by kernel_rfl) rfl (by first | exact hI.c0 rfl | exact hI.c1 rfl | exact hI.c2 rfl | exact hI.c3 rfl | exact hI.c4 rfl | exact hI.c5 rfl | exact (hI.old m4 n4)) | exact rLd rfl (by kernel_rfl) rfl (by first | exact hI.c0 rfl | exact hI.c1 rfl | exact hI.c2 rfl | exact hI.c3 rfl | exact hI.c4 rfl | exact hI.c5 rfl | exact (hI.old m4 n4))) ?_
      refine WL_val rfl rfl rfl (rBuild (qs := [(1, .int .i64 _), (2, .int .i64 _)]) (vs := [_, _, _, _]) [.bool false, .int .i64 0, .int .i64 0, .int .i64 0] [1, 2] rfl rfl rfl (fun _ => by kernel_rfl)) ?_
      first | refine WL_stw0 (u := .agg _) (vs := #[_, _, _, _]) (n := 4) hI rfl rfl rfl rfl rfl rfl (by kernel_rfl) rfl rfl rfl ?_ | refine WL_stw1 (u := .agg _) (vs := #[_, _, _, _]) (n := 4) hI rfl rfl rfl rfl rfl rfl (by kernel_rfl) rfl rfl rfl ?_ | refine WL_stw2 (u := .agg _) (vs := #[_, _, _, _]) (n := 4) hI rfl rfl rfl rfl rfl rfl (by kernel_rfl) rfl rfl rfl ?_ | refine WL_stw3 (u := .agg _) (vs := #[_, _, _, _]) (n := 4) hI rfl rfl rfl rfl rfl rfl (by kernel_rfl) rfl rfl rfl ?_ | refine WL_stw4 (u := .agg _) (vs := #[_, _, _, _]) (n := 4) hI rfl rfl rfl rfl rfl rfl (by kernel_rfl) rfl rfl rfl ?_ | refine WL_stw5 (u := .agg _) (vs := #[_, _, _, _]) (n := 4) hI rfl rfl rfl rfl rfl rfl (by kernel_rfl) rfl rfl rfl ?_
      clear hI; intro w hI
      refine WL_nil ?_
      refine Rd.W_ret ?_
      intro a ha
      have hD8 := hI.chg.block _ (Array.getElem?_eq_some_iff.1 hD9).1 (fun h => by have h : w1.heap.size = b6 := h; omega)
      refine leaves_retQ ha (hD8.trans hD9) (retC (n := 4) (t := 70) (.inr rfl) rfl rfl (by kernel_rfl) (by kernel_rfl) rfl (Aside.blk (n := w1.heap.size) (.put _ (Nat.le_refl _) (hD8.trans hD9) rfl) hI.g0) ⟨by rw [readF, if_neg hpos, hl, hlast]; rfl, ?_⟩)
      exact (Chg.trans' (Chg.trans' (Chg.trans' (hpu.chg (fun x => w0.heap.size ≤ x)) hcg (fun i _ h => by rcases h with rfl | h; exact ho6; exact Nat.le_trans hsz h)) hI.chg (fun i _ h => by cases h; exact ho6)) (chg_putObj (S := fun x => w0.heap.size ≤ x) _ _ hsz) (fun _ _ h => h) |>.mono (T := fun _ => False) fun i hi h => by have h : w0.heap.size ≤ i := h; omega).toPure
      --@dr
    · rintro c V ⟨rfl, hcg, x, hlast, hB⟩ hD9 a ha
      refine wpIn_ret ?_
      show bodyPostM Fence.wide 0 _ _ _ .ret _ _
      refine leaves_retQ ha hD9 (retC (n := 4) (t := 70) (.inr rfl) rfl rfl (by kernel_rfl) (by kernel_rfl) rfl (Aside.blk (n := w1.heap.size) (.put _ (Nat.le_refl _) hD9 rfl) hB) ⟨by rw [readF, if_neg hpos, hl, hlast]; rfl, ?_⟩)
      exact (Chg.trans' (Chg.trans' (hpu.chg (fun x => w0.heap.size ≤ x)) hcg (fun i _ h => by rcases h with rfl | h; exact ho6; exact Nat.le_trans hsz h)) (chg_putObj (S := fun x => w0.heap.size ≤ x) _ _ hsz) (fun _ _ h => h) |>.mono (T := fun _ => False) fun i hi h => by have h : w0.heap.size ≤ i := h; omega).toPure
end Go.Proofs.YtlnjmkldpicpdaaDoor
