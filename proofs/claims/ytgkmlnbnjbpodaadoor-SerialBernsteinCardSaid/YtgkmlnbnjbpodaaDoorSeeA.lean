/- serial.see: what steps see that are done in an order. -/
import Derived.Test.YtgkmlnbnjbpodaaDoorSer8
namespace Go.Proofs.YtgkmlnbnjbpodaaDoor
open Go.RowKit
set_option linter.unusedVariables false
set_option linter.unusedSimpArgs false
section
variable {P : Program} {ρ : Env} {o : Oper} {w : World} {x y : Operand} {t kt et b : Nat} {q : IntKind} {a : Int} {v zv : Value} {g : Int → Option Value}
theorem rLookN (hM : MapIs w b g) (hg : g a = none) (ho : o.op = .lookup t x y true) (ht : P.underlying t = some (.map kt et)) (hk : P.underlying kt = some (.int q)) (hz : (P.info? et).bind (·.zero) = some zv) (hx : ev ρ x = .map (some b)) (hy : ev ρ y = .int .i64 a) :
    Runs P ρ o w (.tuple #[zv, .bool false]) := by
  have := rLook ho ht hk hz hx hy hM
  rw [hg] at this
  exact this
theorem rLookS (hM : MapIs w b g) (hg : g a = some v) (ho : o.op = .lookup t x y true) (ht : P.underlying t = some (.map kt et)) (hk : P.underlying kt = some (.int q)) (hz : (P.info? et).bind (·.zero) = some zv) (hx : ev ρ x = .map (some b)) (hy : ev ρ y = .int .i64 a) :
    Runs P ρ o w (.tuple #[v, .bool true]) := by
  have := rLook ho ht hk hz hx hy hM
  rw [hg] at this
  exact this
end
def intC (n : Nat) (f : Nat → Int) : Array Value := ((List.range n).map fun v => Value.int .i64 (f v)).toArray
theorem intC_size (n : Nat) (f : Nat → Int) : (intC n f).size = n := by simp [intC]
theorem intC_set {n : Nat} (f : Nat → Int) (u : Nat) (z : Int) : (intC n f).setIfInBounds u (.int .i64 z) = intC n (fun x => if x = u then z else f x) := by
  apply Array.ext'
  simp only [intC, Array.toList_setIfInBounds]
  refine List.ext_getElem (by simp) (fun i h1 h2 => ?_)
  simp only [List.getElem_set, List.getElem_map, List.getElem_range]
  by_cases h : u = i
  · subst h; simp
  · rw [if_neg h, if_neg (Ne.symm h)]
theorem intC_congr {n : Nat} {f g : Nat → Int} (h : ∀ v, v < n → f v = g v) : intC n f = intC n g := by
  unfold intC
  congr 1
  refine List.map_congr_left fun v hv => ?_
  rw [h v (List.mem_range.1 hv)]
def seeStep (d : List St) (s : (Nat → Int) × (Int → Int)) (i : Nat) : (Nat → Int) × (Int → Int) :=
  if (sAt d i).kind = 2 then (fun x => if x = i then -1 else s.1 x, fun k => if k = (sAt d i).key then (i : Int) else s.2 k) else (fun x => if x = i then s.2 (sAt d i).key else s.1 x, s.2)
def seeTo (d : List St) (order : List Nat) : (Nat → Int) × (Int → Int) := order.foldl (seeStep d) (fun _ => 0, fun _ => -1)
def seeF (d : List St) (order : List Nat) (v : Nat) : Int := if v < 60 then (seeTo d order).1 v else (seeTo d order).2 ((v - 60 : Nat) : Int)
theorem seeTo_snoc (d : List St) (order : List Nat) (i : Nat) : seeTo d (order ++ [i]) = seeStep d (seeTo d order) i := by
  unfold seeTo
  rw [List.foldl_append]; rfl
theorem see_ge (d : List St) (order : List Nat) (k : Int) : -1 ≤ (seeTo d order).2 k := by
  have : ∀ (l : List Nat) (s : (Nat → Int) × (Int → Int)), (∀ k, -1 ≤ s.2 k) → ∀ k, -1 ≤ (l.foldl (seeStep d) s).2 k := fun l => by
    induction l with
    | nil => intro s h; exact h
    | cons i l ih =>
      intro s h
      rw [List.foldl_cons]
      refine ih _ fun k => ?_
      unfold seeStep
      split
      · dsimp only
        split
        · omega
        · exact h k
      · exact h k
  exact this order _ (fun _ => Int.le_refl _) k
def lgv (z : Int) : Option Value := if z < 0 then none else some (.int .i64 z)
def lg (la : Int → Int) : Int → Option Value := fun k => lgv (la k)
theorem lg_set (la : Int → Int) (a : Int) (i : Nat) : (fun j => if j = a then some (Value.int .i64 (i : Int)) else lg la j) = lg (fun k => if k = a then (i : Int) else la k) := by
  funext j
  show (if j = a then some (Value.int .i64 (i : Int)) else lgv (la j)) = lgv (if j = a then (i : Int) else la j)
  by_cases h : j = a
  · rw [if_pos h, if_pos h]
    unfold lgv
    rw [if_neg (by omega)]
  · rw [if_neg h, if_neg h]
theorem take_nat {l : List Nat} {k x : Nat} (h : l[k]? = some x) : l.take (k + 1) = l.take k ++ [x] := by
  rw [List.take_add_one, h]; rfl
theorem nats_get {w : World} {D : Nat → Prop} {A : Option Addr} {n c : Nat} {l : List Nat} (h : Ints w D (.slice A n c) (l.map Int.ofNat)) {k x : Nat} (hx : l[k]? = some x) : ∃ b o, A = some ⟨b, o, none⟩ ∧ w.cell? ⟨b, o + k, none⟩ = some (.int .i64 (x : Int)) := by
  have hl := (List.getElem?_eq_some_iff.1 hx).1
  obtain ⟨b, o, h1, h2⟩ := h.at (k := k) (by simpa using hl)
  refine ⟨b, o, h1, ?_⟩
  rw [h2]
  simp [List.getD, hx]
set_option maxHeartbeats 2000000 in
theorem see_any (A : Option Addr) (n c : Nat) (d : List St) (KA : Option Addr) (kn kc : Nat) (od : List Nat) (D D2 : Nat → Prop) (w0 : World) (h : Sts w0 D (.slice A n c) d) (hK : Ints w0 D2 (.slice KA kn kc) (od.map Int.ofNat)) (h60 : d.length ≤ 60) (hod : ∀ x ∈ od, x < d.length) :
    Calls Tryd.prog 23 #[.slice A n c, .slice KA kn kc] w0 fun en w' => en = .returned (.agg (intC 68 (seeF d od))) ∧ Pure w0 w' := by
  have hI := Inv.start (fun _ => False) w0
  obtain ⟨rfl, hc1, hc2⟩ := h.len
  obtain ⟨hkn, hk1, hk2⟩ := hK.len
  rw [List.length_map] at hkn
  subst hkn
  refine calls_of_W (N := Tryd.f23.ntmps) Tryd.func23 rfl rfl rfl ?_
  refine W_seq ?_
  refine W_region ?_
  refine WL_alloc (u := .agg (intC 68 fun _ => 0)) (vs := intC 68 fun _ => 0) hI rfl rfl rfl rfl (by kernel_rfl) rfl ?_
  clear hI; rintro b4 w - - hI
  refine WL_nil ?_
  refine W_seq ?_
  refine W_region ?_
  refine WL_alloc (u := .agg (intC 68 fun _ => 0)) (vs := intC 68 fun _ => 0) hI rfl rfl rfl rfl (by kernel_rfl) rfl ?_
  clear hI; rintro b5 w - - hI
  refine WL_nil ?_
  refine W_seq ?_
  refine W_region ?_
  refine WL_mkMap hI rfl rfl rfl rfl ?_
  clear hI; rintro wm w hI
  refine WL_val rfl rfl rfl (by first | exact rAsgnM rfl rfl | exact rAsgn rfl) ?_
  refine WL_nil ?_
  refine W_seq_cut (fun ρ w => Has ρ [(6, .map (some wm)), (5, .pointer (some ⟨b5, 0, none⟩)), (4, .pointer (some ⟨b4, 0, none⟩))] ∧ Inv (fun _ => False) w0 w [MapE wm (lg (seeTo d od).2), B b5 63 (intC 68 fun v => if v < 60 then (seeTo d od).1 v else 0), B b4 63 (intC 68 fun _ => 0)]) ?_ ?_
  · refine W_seq ?_
    refine W_region ?_
    refine WL_val rfl rfl rfl (by first | exact rMoveS rfl rfl | exact rMove rfl) ?_
    refine WL_val rfl rfl rfl (rLen rfl Tryd.underlying23 rfl) ?_
    refine WL_val rfl rfl rfl (by first | exact rMoveI rfl rfl | exact rMove rfl) ?_
    refine WL_nil ?_
    refine W_block ?_
    refine W_loop (fun ρ w => ∃ k : Nat, k ≤ od.length ∧ Has ρ [(18, .int .i64 (k : Int)), (17, .int .i64 (od.length : Int)), (16, .slice KA od.length kc), (0, .slice A d.length c), (6, .map (some wm)), (5, .pointer (some ⟨b5, 0, none⟩)), (4, .pointer (some ⟨b4, 0, none⟩))] ∧ Inv (fun _ => False) w0 w [MapE wm (lg (seeTo d (od.take k)).2), B b5 63 (intC 68 fun v => if v < 60 then (seeTo d (od.take k)).1 v else 0), B b4 63 (intC 68 fun _ => 0)]) (fun ρ _ => od.length - cnt (ρ 18))
      ⟨0, by omega, ⟨rfl, rfl, rfl, rfl, rfl, rfl, rfl, trivial⟩, by
        have e1 : lg (seeTo d (od.take 0)).2 = fun _ => none := by funext j; rfl
        have e2 : (intC 68 fun v => if v < 60 then (seeTo d (od.take 0)).1 v else 0) = intC 68 fun _ => 0 := intC_congr fun v _ => by show (if v < 60 then (0 : Int) else 0) = 0; split <;> rfl
        rw [e1, e2]; exact hI⟩ ?_
    clear hI
    rintro ρ w ⟨k, hk, hH, hI⟩
    obtain ⟨σ, rfl⟩ := hH.open
    by_cases hkl : k < od.length
    · obtain ⟨x, hx⟩ : ∃ x, od[k]? = some x := ⟨_, List.getElem?_eq_getElem hkl⟩
      obtain ⟨kb, ko, rfl, q0⟩ := nats_get hK hx
      have hxd := hod x (List.mem_of_getElem? hx)
      obtain ⟨b, o, rfl, y0, y1, y2⟩ := h.at hxd
      have hto : seeTo d (od.take (k + 1)) = seeStep d (seeTo d (od.take k)) x := by rw [take_nat hx, seeTo_snoc]
      refine W_seq ?_
      refine W_region ?_
      refine WL_val rfl rfl rfl (by first | exact rLssT rfl rfl rfl (by omega) | exact rLssF rfl rfl rfl (by omega) | exact rLss rfl rfl rfl) ?_
      refine WL_nil ?_
      refine W_seq ?_
      refine W_cond true rfl ?_
      refine W_skip ?_
      refine W_seq ?_
      refine W_block ?_
      refine W_seq ?_
      refine W_region ?_
      refine WL_val rfl rfl rfl (by first | exact rIdx0 rfl Tryd.underlying23 (by kernel_rfl) rfl rfl rfl (by omega) | exact rIdx1 rfl Tryd.underlying23 (by kernel_rfl) rfl rfl (by omega)) ?_
      refine WL_val rfl rfl rfl (by first | exact rLd (v := .int .i64 _) rfl (by kernel_rfl) rfl (by first | exact hI.c0 rfl | exact hI.oldp q0 | exact q0) | exact rLd rfl (by kernel_rfl) rfl (by first | exact hI.c0 rfl | exact hI.oldp q0 | exact q0)) ?_
      refine WL_val rfl rfl rfl (by first | exact rAsgnI rfl rfl | exact rAsgn rfl) ?_
      refine WL_nil ?_
      refine W_seq ?_
      refine W_region ?_
      refine WL_val rfl rfl rfl (by first | exact rMoveS rfl rfl | exact rMove rfl) ?_
      refine WL_val rfl rfl rfl (by first | exact rMoveI rfl rfl | exact rMove rfl) ?_
      refine WL_val rfl rfl rfl (rIdx (sz := 3) rfl Tryd.underlying22 (by kernel_rfl) rfl rfl (by omega)) ?_
      refine WL_val rfl rfl rfl (by first | exact rLdB (n := 3) rfl (by kernel_rfl) (by kernel_rfl) rfl rfl hI.g0 | exact rLd3 rfl (by kernel_rfl) (by kernel_rfl) rfl (by first | exact hI.c0 rfl | exact hI.oldp y0 | exact y0 | exact hI.oldp y1 | exact y1 | exact hI.oldp y2 | exact y2) (by first | exact hI.c0 rfl | exact hI.oldp y0 | exact y0 | exact hI.oldp y1 | exact y1 | exact hI.oldp y2 | exact y2) (by first | exact hI.c0 rfl | exact hI.oldp y0 | exact y0 | exact hI.oldp y1 | exact y1 | exact hI.oldp y2 | exact y2)) ?_
      refine WL_alloc (u := .agg #[.int .i64 0, .int .i64 0, .int .i64 0]) (vs := #[.int .i64 0, .int .i64 0, .int .i64 0]) hI rfl rfl rfl rfl (by kernel_rfl) rfl ?_
      clear hI; rintro b9 w - - hI
      first | refine WL_stw0 (u := .agg _) (vs := #[_, _, _]) (n := 3) hI rfl rfl rfl rfl rfl rfl (by kernel_rfl) rfl rfl rfl ?_
      clear hI; intro w hI
      refine WL_nil ?_
      obtain ⟨st, hst⟩ : ∃ st, d.getD x ⟨0, 0, 0⟩ = st := ⟨_, rfl⟩
      obtain ⟨sk, hsk⟩ : ∃ sk, seeTo d (od.take k) = sk := ⟨_, rfl⟩
      have hge : -1 ≤ sk.2 st.key := by rw [← hsk]; exact see_ge _ _ _
      have hstep : seeStep d sk x = if st.kind = 2 then (fun z => if z = x then -1 else sk.1 z, fun z => if z = st.key then (x : Int) else sk.2 z) else (fun z => if z = x then sk.2 st.key else sk.1 z, sk.2) := by unfold seeStep; rw [show sAt d x = st from hst]
      rw [hst, hsk] at hI
      rw [hsk] at hto
      refine W_seq ?_
      refine W_region ?_
      refine WL_val rfl rfl rfl (by first | exact rMoveM rfl rfl | exact rMove rfl) ?_
      refine WL_val rfl rfl rfl (by first | exact rFldN (off := 2) rfl (by kernel_rfl) rfl | exact rFld (off := 2) rfl (by kernel_rfl) rfl) ?_
      refine WL_val rfl rfl rfl (by first | exact rLd (v := .int .i64 _) rfl (by kernel_rfl) rfl (by first | exact hI.c0 rfl | exact hI.c1 rfl) | exact rLd rfl (by kernel_rfl) rfl (by first | exact hI.c0 rfl | exact hI.c1 rfl)) ?_
      refine WL_val rfl rfl rfl (rLook (zv := .int .i64 0) rfl Tryd.underlying94 Tryd.underlying3 (by kernel_rfl) rfl rfl (hI.ok _ (List.mem_of_getElem? (i := 1) rfl)).1) ?_
      refine WL_val rfl rfl rfl (by first | exact rMoveT rfl rfl | exact rMove rfl) ?_
      refine WL_val rfl rfl rfl (rExtr rfl rfl rfl) ?_
      refine WL_val rfl rfl rfl (rExtr rfl rfl rfl) ?_
      refine WL_val rfl rfl rfl (by first | exact rAsgnI rfl rfl | exact rAsgn rfl) ?_
      refine WL_val rfl rfl rfl (by first | exact rAsgnB rfl rfl | exact rAsgn rfl) ?_
      refine WL_nil ?_
      refine W_seq_cut (fun ρ w => Has ρ [(10, .int .i64 (sk.2 st.key)), (8, .int .i64 (x : Int)), (18, .int .i64 (k : Int)), (17, .int .i64 (od.length : Int)), (16, .slice (some ⟨kb, ko, none⟩) od.length kc), (0, .slice (some ⟨b, o, none⟩) d.length c), (6, .map (some wm)), (9, .pointer (some ⟨b9, 0, none⟩)), (5, .pointer (some ⟨b5, 0, none⟩)), (4, .pointer (some ⟨b4, 0, none⟩))] ∧ Inv (fun _ => False) w0 w [B b9 43 (stV st).toArray, MapE wm (lg sk.2), B b5 63 (intC 68 fun v => if v < 60 then sk.1 v else 0), B b4 63 (intC 68 fun _ => 0)]) ?_ ?_
      · by_cases hneg : sk.2 st.key < 0
        · have hl : lg sk.2 st.key = none := by unfold lg lgv; rw [if_pos hneg]
          rw [hl]
          refine W_seq ?_
          refine W_region ?_
          refine WL_val rfl rfl rfl (by first | exact rMoveB rfl rfl | exact rMove rfl) ?_
          refine WL_val rfl rfl rfl (by first | exact rNotT rfl rfl | exact rNotF rfl rfl | exact rNot rfl rfl) ?_
          refine WL_nil ?_
          refine W_cond true rfl ?_
          refine W_region ?_
          refine WL_val rfl rfl rfl (by first | exact rAsgnI rfl rfl | exact rAsgn rfl) ?_
          refine WL_nil ?_
          exact ⟨⟨by show Value.int .i64 (-1) = _; rw [show sk.2 st.key = -1 by omega], rfl, rfl, rfl, rfl, rfl, rfl, rfl, rfl, rfl, trivial⟩, hI⟩
        · have hl : lg sk.2 st.key = some (.int .i64 (sk.2 st.key)) := by unfold lg lgv; rw [if_neg hneg]
          rw [hl]
          refine W_seq ?_
          refine W_region ?_
          refine WL_val rfl rfl rfl (by first | exact rMoveB rfl rfl | exact rMove rfl) ?_
          refine WL_val rfl rfl rfl (by first | exact rNotT rfl rfl | exact rNotF rfl rfl | exact rNot rfl rfl) ?_
          refine WL_nil ?_
          refine W_cond false rfl ?_
          refine W_skip ?_
          exact ⟨⟨rfl, rfl, rfl, rfl, rfl, rfl, rfl, rfl, rfl, rfl, trivial⟩, hI⟩
      clear hI
      rintro ρ w ⟨hH, hI⟩
      obtain ⟨σ, rfl⟩ := hH.open
      refine W_seq_cut (fun ρ w => Has ρ [(10, .int .i64 ((seeStep d sk x).1 x)), (8, .int .i64 (x : Int)), (18, .int .i64 (k : Int)), (17, .int .i64 (od.length : Int)), (16, .slice (some ⟨kb, ko, none⟩) od.length kc), (0, .slice (some ⟨b, o, none⟩) d.length c), (6, .map (some wm)), (9, .pointer (some ⟨b9, 0, none⟩)), (5, .pointer (some ⟨b5, 0, none⟩)), (4, .pointer (some ⟨b4, 0, none⟩))] ∧ Inv (fun _ => False) w0 w [B b9 43 (stV st).toArray, MapE wm (lg (seeStep d sk x).2), B b5 63 (intC 68 fun v => if v < 60 then sk.1 v else 0), B b4 63 (intC 68 fun _ => 0)]) ?_ ?_
      · by_cases hk2 : st.kind = 2
        · rw [if_pos hk2] at hstep
          refine W_seq ?_
          refine W_region ?_
          refine WL_val rfl rfl rfl (by first | exact rFldN (off := 1) rfl (by kernel_rfl) rfl | exact rFld (off := 1) rfl (by kernel_rfl) rfl) ?_
          refine WL_val rfl rfl rfl (by first | exact rLd (v := .int .i64 _) rfl (by kernel_rfl) rfl (by first | exact hI.c0 rfl) | exact rLd rfl (by kernel_rfl) rfl (by first | exact hI.c0 rfl)) ?_
          refine WL_val rfl rfl rfl (by first | exact rEqlT rfl rfl rfl (by omega) | exact rEqlF rfl rfl rfl (by omega) | exact rEql rfl rfl rfl) ?_
          refine WL_nil ?_
          refine W_cond true rfl ?_
          refine W_seq ?_
          refine W_region ?_
          refine WL_val rfl rfl rfl (by first | exact rMoveM rfl rfl | exact rMove rfl) ?_
          refine WL_val rfl rfl rfl (by first | exact rFldN (off := 2) rfl (by kernel_rfl) rfl | exact rFld (off := 2) rfl (by kernel_rfl) rfl) ?_
          refine WL_val rfl rfl rfl (by first | exact rLd (v := .int .i64 _) rfl (by kernel_rfl) rfl (by first | exact hI.c0 rfl) | exact rLd rfl (by kernel_rfl) rfl (by first | exact hI.c0 rfl)) ?_
          refine WL_val rfl rfl rfl (by first | exact rMoveI rfl rfl | exact rMove rfl) ?_
          refine WL_mapSet 1 (v := .int .i64 (x : Int)) rfl hI rfl rfl rfl Tryd.underlying94 Tryd.underlying3 rfl rfl rfl ?_
          clear hI; intro w hI
          refine WL_nil ?_
          refine W_region ?_
          refine WL_val rfl rfl rfl (by first | exact rAsgnI rfl rfl | exact rAsgn rfl) ?_
          refine WL_nil ?_
          refine ⟨⟨by rw [hstep]; show Value.int .i64 (-1) = Value.int .i64 (if x = x then -1 else _); rw [if_pos rfl], rfl, rfl, rfl, rfl, rfl, rfl, rfl, rfl, rfl, trivial⟩, ?_⟩
          rw [hstep, ← lg_set]
          exact hI
        · rw [if_neg hk2] at hstep
          refine W_seq ?_
          refine W_region ?_
          refine WL_val rfl rfl rfl (by first | exact rFldN (off := 1) rfl (by kernel_rfl) rfl | exact rFld (off := 1) rfl (by kernel_rfl) rfl) ?_
          refine WL_val rfl rfl rfl (by first | exact rLd (v := .int .i64 _) rfl (by kernel_rfl) rfl (by first | exact hI.c0 rfl) | exact rLd rfl (by kernel_rfl) rfl (by first | exact hI.c0 rfl)) ?_
          refine WL_val rfl rfl rfl (by first | exact rEqlT rfl rfl rfl (by omega) | exact rEqlF rfl rfl rfl (by omega) | exact rEql rfl rfl rfl) ?_
          refine WL_nil ?_
          refine W_cond false rfl ?_
          refine W_skip ?_
          refine ⟨⟨by rw [hstep]; show Value.int .i64 (sk.2 st.key) = Value.int .i64 (if x = x then _ else _); rw [if_pos rfl], rfl, rfl, rfl, rfl, rfl, rfl, rfl, rfl, rfl, trivial⟩, ?_⟩
          rw [hstep]
          exact hI
      clear hI
      rintro ρ w ⟨hH, hI⟩
      obtain ⟨σ, rfl⟩ := hH.open
      refine W_region ?_
      refine WL_val rfl rfl rfl (by first | exact rMoveI rfl rfl | exact rMove rfl) ?_
      refine WL_val rfl rfl rfl (by first | exact rMoveI rfl rfl | exact rMove rfl) ?_
      refine WL_val rfl rfl rfl (by first | exact rFldN (off := 0) rfl (by kernel_rfl) rfl | exact rFld0 rfl (by kernel_rfl) rfl) ?_
      refine WL_val rfl rfl rfl (rIdxArr (sz := 1) rfl Tryd.underlying60 (by kernel_rfl) rfl rfl rfl (by omega)) ?_
      refine WL_st2 (u := .int .i64 _) (j := 0 + x * 1) hI rfl rfl rfl rfl rfl rfl (by kernel_rfl) rfl (by rw [intC_size]; simp [Nat.blt]; omega) rfl ?_
      clear hI; intro w hI
      refine WL_nil ?_
      replace hI := hI.d0
      refine W_region ?_
      refine WL_val rfl rfl rfl (by first | exact rInc rfl rfl rfl (by omega) | exact rAdd rfl rfl rfl (by omega) | exact rAddW rfl rfl rfl) ?_
      refine WL_val rfl rfl rfl (by first | exact rMoveI rfl rfl | exact rMove rfl) ?_
      refine WL_nil ?_
      refine ⟨⟨k + 1, by omega, ⟨rfl, rfl, rfl, rfl, rfl, rfl, rfl, trivial⟩, ?_⟩, by show od.length - ((k + 1 : Nat) : Int).toNat < od.length - (k : Int).toNat; omega⟩
      have e1 : (intC 68 fun v => if v < 60 then (seeStep d sk x).1 v else 0) = (intC 68 fun v => if v < 60 then sk.1 v else 0).setIfInBounds (0 + x * 1) (.int .i64 ((seeStep d sk x).1 x)) := by
        rw [intC_set]
        refine intC_congr fun v _ => ?_
        by_cases hvx : v = x
        · subst hvx
          rw [if_pos (show v < 60 by omega), if_pos (show v = 0 + v * 1 by omega)]
        · rw [if_neg (show ¬ v = 0 + x * 1 by omega), hstep]
          split
          · split
            · dsimp only; rw [if_neg hvx]
            · dsimp only; rw [if_neg hvx]
          · rfl
      rw [hto, e1]
      exact hI
    · obtain rfl : k = od.length := by omega
      refine W_seq ?_
      refine W_region ?_
      refine WL_val rfl rfl rfl (by first | exact rLssT rfl rfl rfl (by omega) | exact rLssF rfl rfl rfl (by omega) | exact rLss rfl rfl rfl) ?_
      refine WL_nil ?_
      refine W_seq ?_
      refine W_cond false rfl ?_
      refine W_exit ?_
      rw [List.take_length] at hI
      exact ⟨⟨rfl, rfl, rfl, trivial⟩, hI⟩
  clear hI
  rintro ρ w ⟨hH, hI⟩
  obtain ⟨σ, rfl⟩ := hH.open
  refine W_seq_cut (fun ρ w => Has ρ [(5, .pointer (some ⟨b5, 0, none⟩)), (4, .pointer (some ⟨b4, 0, none⟩))] ∧ Inv (fun _ => False) w0 w [B b5 63 (intC 68 (seeF d od)), B b4 63 (intC 68 fun _ => 0)]) ?_ ?_
  · refine W_seq ?_
    refine W_region ?_
    refine WL_val rfl rfl rfl (by first | exact rMoveI rfl rfl | exact rMove rfl) ?_
    refine WL_nil ?_
    refine W_block ?_
    refine W_loop (fun ρ w => ∃ k : Nat, k ≤ 8 ∧ Has ρ [(47, .int .i64 (k : Int)), (6, .map (some wm)), (5, .pointer (some ⟨b5, 0, none⟩)), (4, .pointer (some ⟨b4, 0, none⟩))] ∧ Inv (fun _ => False) w0 w [MapE wm (lg (seeTo d od).2), B b5 63 (intC 68 fun v => if v < 60 + k then seeF d od v else 0), B b4 63 (intC 68 fun _ => 0)]) (fun ρ _ => 8 - cnt (ρ 47))
      ⟨0, by omega, ⟨rfl, rfl, rfl, rfl, trivial⟩, by
        have e1 : (intC 68 fun v => if v < 60 + 0 then seeF d od v else 0) = intC 68 fun v => if v < 60 then (seeTo d od).1 v else 0 := intC_congr fun v _ => by
          show (if v < 60 then seeF d od v else 0) = _
          split
          · unfold seeF; rw [if_pos ‹_›]
          · rfl
        rw [e1]; exact hI⟩ ?_
    clear hI
    rintro ρ w ⟨k, hk, hH, hI⟩
    obtain ⟨σ, rfl⟩ := hH.open
    by_cases hk8 : k < 8
    · obtain ⟨sk, hsk⟩ : ∃ sk, seeTo d od = sk := ⟨_, rfl⟩
      have hge : -1 ≤ sk.2 (k : Int) := by rw [← hsk]; exact see_ge _ _ _
      have hfin : seeF d od (60 + k) = sk.2 (k : Int) := by
        unfold seeF
        rw [if_neg (by omega), hsk, Nat.add_sub_cancel_left]
      rw [hsk] at hI
      refine W_seq ?_
      refine W_region ?_
      refine WL_val rfl rfl rfl (by first | exact rLssT rfl rfl rfl (by omega) | exact rLssF rfl rfl rfl (by omega) | exact rLss rfl rfl rfl) ?_
      refine WL_nil ?_
      refine W_seq ?_
      refine W_cond true rfl ?_
      refine W_skip ?_
      refine W_seq ?_
      refine W_block ?_
      refine W_seq ?_
      refine W_region ?_
      refine WL_val rfl rfl rfl (by first | exact rMoveI rfl rfl | exact rMove rfl) ?_
      refine WL_val rfl rfl rfl (by first | exact rAsgnI rfl rfl | exact rAsgn rfl) ?_
      refine WL_nil ?_
      refine W_seq ?_
      refine W_region ?_
      refine WL_val rfl rfl rfl (by first | exact rMoveM rfl rfl | exact rMove rfl) ?_
      refine WL_val rfl rfl rfl (by first | exact rMoveI rfl rfl | exact rMove rfl) ?_
      refine WL_val rfl rfl rfl (rLook (zv := .int .i64 0) rfl Tryd.underlying94 Tryd.underlying3 (by kernel_rfl) rfl rfl (hI.ok _ (List.mem_of_getElem? (i := 0) rfl)).1) ?_
      refine WL_val rfl rfl rfl (by first | exact rMoveT rfl rfl | exact rMove rfl) ?_
      refine WL_val rfl rfl rfl (rExtr rfl rfl rfl) ?_
      refine WL_val rfl rfl rfl (rExtr rfl rfl rfl) ?_
      refine WL_val rfl rfl rfl (by first | exact rAsgnI rfl rfl | exact rAsgn rfl) ?_
      refine WL_val rfl rfl rfl (by first | exact rAsgnB rfl rfl | exact rAsgn rfl) ?_
      refine WL_nil ?_
      refine W_seq_cut (fun ρ w => Has ρ [(13, .int .i64 (sk.2 (k : Int))), (12, .int .i64 (k : Int)), (47, .int .i64 (k : Int)), (6, .map (some wm)), (5, .pointer (some ⟨b5, 0, none⟩)), (4, .pointer (some ⟨b4, 0, none⟩))] ∧ Inv (fun _ => False) w0 w [MapE wm (lg sk.2), B b5 63 (intC 68 fun v => if v < 60 + k then seeF d od v else 0), B b4 63 (intC 68 fun _ => 0)]) ?_ ?_
      · by_cases hneg : sk.2 (k : Int) < 0
        · have hl : lg sk.2 (k : Int) = none := by unfold lg lgv; rw [if_pos hneg]
          rw [hl]
          refine W_seq ?_
          refine W_region ?_
          refine WL_val rfl rfl rfl (by first | exact rMoveB rfl rfl | exact rMove rfl) ?_
          refine WL_val rfl rfl rfl (by first | exact rNotT rfl rfl | exact rNotF rfl rfl | exact rNot rfl rfl) ?_
          refine WL_nil ?_
          refine W_cond true rfl ?_
          refine W_region ?_
          refine WL_val rfl rfl rfl (by first | exact rAsgnI rfl rfl | exact rAsgn rfl) ?_
          refine WL_nil ?_
          exact ⟨⟨by show Value.int .i64 (-1) = _; rw [show sk.2 (k : Int) = -1 by omega], rfl, rfl, rfl, rfl, rfl, trivial⟩, hI⟩
        · have hl : lg sk.2 (k : Int) = some (.int .i64 (sk.2 (k : Int))) := by unfold lg lgv; rw [if_neg hneg]
          rw [hl]
          refine W_seq ?_
          refine W_region ?_
          refine WL_val rfl rfl rfl (by first | exact rMoveB rfl rfl | exact rMove rfl) ?_
          refine WL_val rfl rfl rfl (by first | exact rNotT rfl rfl | exact rNotF rfl rfl | exact rNot rfl rfl) ?_
          refine WL_nil ?_
          refine W_cond false rfl ?_
          refine W_skip ?_
          exact ⟨⟨rfl, rfl, rfl, rfl, rfl, rfl, trivial⟩, hI⟩
      clear hI
      rintro ρ w ⟨hH, hI⟩
      obtain ⟨σ, rfl⟩ := hH.open
      refine W_region ?_
      refine WL_val rfl rfl rfl (by first | exact rMoveI rfl rfl | exact rMove rfl) ?_
      refine WL_val rfl rfl rfl (by first | exact rMoveI rfl rfl | exact rMove rfl) ?_
      refine WL_val rfl rfl rfl (by first | exact rFldN (off := 60) rfl (by kernel_rfl) rfl | exact rFld (off := 60) rfl (by kernel_rfl) rfl) ?_
      refine WL_val rfl rfl rfl (rIdxArr (sz := 1) rfl Tryd.underlying61 (by kernel_rfl) rfl rfl rfl (by omega)) ?_
      refine WL_st1 (u := .int .i64 _) (j := 60 + k * 1) hI rfl rfl rfl rfl rfl rfl (by kernel_rfl) rfl (by rw [intC_size]; simp [Nat.blt]; omega) rfl ?_
      clear hI; intro w hI
      refine WL_nil ?_
      refine W_region ?_
      refine WL_val rfl rfl rfl (by first | exact rInc rfl rfl rfl (by omega) | exact rAdd rfl rfl rfl (by omega) | exact rAddW rfl rfl rfl) ?_
      refine WL_val rfl rfl rfl (by first | exact rMoveI rfl rfl | exact rMove rfl) ?_
      refine WL_nil ?_
      refine ⟨⟨k + 1, by omega, ⟨rfl, rfl, rfl, rfl, trivial⟩, ?_⟩, by show 8 - ((k + 1 : Nat) : Int).toNat < 8 - (k : Int).toNat; omega⟩
      have e1 : (intC 68 fun v => if v < 60 + (k + 1) then seeF d od v else 0) = (intC 68 fun v => if v < 60 + k then seeF d od v else 0).setIfInBounds (60 + k * 1) (.int .i64 (sk.2 (k : Int))) := by
        rw [intC_set]
        refine intC_congr fun v _ => ?_
        by_cases hvx : v = 60 + k
        · subst hvx
          rw [if_pos (show 60 + k < 60 + (k + 1) by omega), if_pos (show 60 + k = 60 + k * 1 by omega), hfin]
        · rw [if_neg (show ¬ v = 60 + k * 1 by omega)]
          by_cases hvk : v < 60 + k
          · rw [if_pos hvk, if_pos (by omega)]
          · rw [if_neg hvk, if_neg (by omega)]
      rw [hsk, e1]
      exact hI
    · obtain rfl : k = 8 := by omega
      refine W_seq ?_
      refine W_region ?_
      refine WL_val rfl rfl rfl (by first | exact rLssT rfl rfl rfl (by omega) | exact rLssF rfl rfl rfl (by omega) | exact rLss rfl rfl rfl) ?_
      refine WL_nil ?_
      refine W_seq ?_
      refine W_cond false rfl ?_
      refine W_exit ?_
      have e1 : (intC 68 fun v => if v < 60 + 8 then seeF d od v else 0) = intC 68 (seeF d od) := intC_congr fun v hv => by rw [if_pos (show v < 60 + 8 by omega)]
      rw [e1] at hI
      exact ⟨⟨rfl, rfl, trivial⟩, hI.d0⟩
  clear hI
  rintro ρ w ⟨hH, hI⟩
  obtain ⟨σ, rfl⟩ := hH.open
  refine W_seq ?_
  refine W_region ?_
  refine WL_val rfl rfl rfl (by first | exact rLdB (n := 68) rfl (by kernel_rfl) (by kernel_rfl) rfl (by first | rfl | (simp only [i64s, Value.cells, List.size_toArray, List.length_map]; omega)) hI.g0 | exact rLdB (n := 68) rfl (by kernel_rfl) (by kernel_rfl) rfl (by first | rfl | (simp only [i64s, Value.cells, List.size_toArray, List.length_map]; omega)) hI.g1) ?_
  first | refine WL_stw0 (u := .agg _) (vs := _) (n := 68) hI rfl rfl rfl rfl rfl rfl (by kernel_rfl) (by first | rfl | (simp only [i64s, Value.cells, List.size_toArray, List.length_map]; omega)) (by first | rfl | (simp only [i64s, Value.cells, List.size_toArray, List.length_map]; omega)) (by first | rfl | simp [i64s, Value.cells, Value.oneCell']) ?_ | refine WL_stw1 (u := .agg _) (vs := _) (n := 68) hI rfl rfl rfl rfl rfl rfl (by kernel_rfl) (by first | rfl | (simp only [i64s, Value.cells, List.size_toArray, List.length_map]; omega)) (by first | rfl | (simp only [i64s, Value.cells, List.size_toArray, List.length_map]; omega)) (by first | rfl | simp [i64s, Value.cells, Value.oneCell']) ?_
  clear hI; intro w hI
  refine WL_nil ?_
  refine W_ret ?_
  first
    | exact retC (n := 68) (.inr rfl) rfl rfl (by kernel_rfl) (by kernel_rfl) (intC_size _ _) hI.g1 ⟨rfl, hI.pu⟩
    | exact retC (n := 68) (.inr rfl) rfl rfl (by kernel_rfl) (by kernel_rfl) (intC_size _ _) hI.g0 ⟨rfl, hI.pu⟩
end Go.Proofs.YtgkmlnbnjbpodaaDoor
