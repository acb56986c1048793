/- mvcc: who committed a key, from the last one on. -/
import Derived.Test.YtlnjmkldpicpdaaDoorMvc2
namespace Go.Proofs.YtlnjmkldpicpdaaDoor
open Go.RowKit
set_option linter.unusedVariables false
set_option linter.unusedSimpArgs false
structure Bs where
  careful : Bool
  txs : List Mx
  order : List (List Nat)
  time : Int
def intsN (l : List Nat) : List Int := l.map fun x => ((x : Nat) : Int)
theorem intsN_len (l : List Nat) : (intsN l).length = l.length := by simp [intsN]
structure BsAt (w : World) (D : Nat → Prop) (b : Nat) (s : Bs) : Prop where
  self : D b
  car : w.cell? ⟨b, 0, none⟩ = some (.bool s.careful)
  txs : ∃ A c, w.cell? ⟨b, 1, none⟩ = some (.slice A s.txs.length c) ∧ Mxs w D (.slice A s.txs.length c) s.txs
  ord : ∀ (k : Nat) (l : List Nat), s.order[k]? = some l → ∃ A c, w.cell? ⟨b, 2 + k, none⟩ = some (.slice A l.length c) ∧ Ints w D (.slice A l.length c) (intsN l)
  time : w.cell? ⟨b, 10, none⟩ = some (.int .i64 s.time)
  olen : s.order.length = 8
  tlen : s.txs.length ≤ 8
  good : ∀ (k : Nat) (l : List Nat) (x : Nat), s.order[k]? = some l → x ∈ l → x < s.txs.length
  dlt : ∀ k, D k → k < w.heap.size
theorem Mxs.chg {w w' : World} {D S : Nat → Prop} {v : Value} {l : List Mx} (h : Mxs w D v l) (hc : Chg S w w') (hs : ∀ k, D k → ¬ S k) : Mxs w' D v l := by
  obtain ⟨vs, h1, h2, h3⟩ := h
  exact ⟨vs, h1, h2.chg hc hs, fun p hp => (h3 p hp).chg hc hs⟩
theorem BsAt.chg {w w' : World} {D S : Nat → Prop} {b : Nat} {s : Bs} (h : BsAt w D b s) (hc : Chg S w w') (hs : ∀ k, D k → ¬ S k) : BsAt w' D b s where
  self := h.self
  car := hc.cell' h.car (hs _ h.self)
  txs := by
    obtain ⟨A, c, h1, h2⟩ := h.txs
    exact ⟨A, c, hc.cell' h1 (hs _ h.self), h2.chg hc hs⟩
  ord := fun k l hl => by
    obtain ⟨A, c, h1, h2⟩ := h.ord k l hl
    exact ⟨A, c, hc.cell' h1 (hs _ h.self), h2.chg hc hs⟩
  time := hc.cell' h.time (hs _ h.self)
  olen := h.olen
  tlen := h.tlen
  good := h.good
  dlt := fun k hk => Nat.lt_of_lt_of_le (h.dlt k hk) hc.size
theorem BsAt.pure {w w' : World} {D : Nat → Prop} {b : Nat} {s : Bs} (h : BsAt w D b s) (hp : Pure w w') : BsAt w' D b s := h.chg (hp.chg (fun _ => False)) fun _ _ h => h
/-- The cells of the k-th transaction. -/
theorem Mxs.get {w : World} {D : Nat → Prop} {l : List Mx} {A : Option Addr} {n c k : Nat} {t : Mx} (h : Mxs w D (.slice A n c) l) (hk : l[k]? = some t) :
    ∃ b f A' c', A = some ⟨b, f, none⟩ ∧ D b ∧ w.cell? ⟨b, f + k * 4, none⟩ = some (.slice A' t.ops.length c') ∧ w.cell? ⟨b, f + k * 4 + 1, none⟩ = some (.int .i64 t.beg) ∧ w.cell? ⟨b, f + k * 4 + 2, none⟩ = some (.int .i64 t.com) ∧ w.cell? ⟨b, f + k * 4 + 3, none⟩ = some (.bool t.over) ∧
      Ops w D (.slice A' t.ops.length c') t.ops := by
  have hl := (List.getElem?_eq_some_iff.1 hk).1
  obtain ⟨vs, rfl, h2, h3⟩ := h
  rw [List.getElem?_map] at hk
  obtain ⟨p, hp, rfl⟩ := Option.map_eq_some_iff.1 hk
  have q := fun j hj => flat_get mxV_len vs k j p hp hj
  have ho := h3 p (List.mem_of_getElem? hp)
  obtain ⟨A0, c0, e0, hc1, hc2⟩ := ho.form
  obtain ⟨A', c', hv, h1, h2, h3, h4⟩ := h2
  injection hv with ha _ _
  subst ha
  obtain ⟨b, f, rfl, hb, hc⟩ := h4 (by omega)
  have c0' := hc (k * 4 + 0) _ (q 0 (by omega))
  have c1 := hc (k * 4 + 1) _ (q 1 (by omega))
  have c2 := hc (k * 4 + 2) _ (q 2 (by omega))
  have c3 := hc (k * 4 + 3) _ (q 3 (by omega))
  refine ⟨b, f, A0, c0, rfl, hb, ?_, c1, c2, c3, by rw [← e0]; exact ho⟩
  rw [← e0]; exact c0'
set_option maxHeartbeats 1000000 in
theorem back_any (n c : Nat) (A : Option Addr) (w0 : World) : Calls Tryd.prog 57 #[.slice A n c] w0 fun en w' => ∃ g, en = .returned (.func (.func 65) #[] #[.pointer (some ⟨g, 0, none⟩)]) ∧ Inv (fun _ => False) w0 w' [B g 33 #[.slice A n c]] := by
  have hI := Inv.start (fun _ => False) w0
  refine calls_of_W (N := Tryd.f57.ntmps) Tryd.func57 rfl rfl rfl ?_
  refine W_seq ?_
  refine W_region ?_
  refine WL_box (u := .slice _ _ _) (vs := #[_]) hI rfl rfl rfl rfl rfl rfl ?_
  clear hI; rintro b1 w - - hI
  refine WL_val rfl rfl rfl (by first | exact rAsgnF rfl rfl | exact rAsgn rfl) ?_
  refine WL_nil ?_
  refine W_seq ?_
  refine W_region ?_
  refine WL_val rfl rfl rfl (rFunc (l := []) (m := [_]) rfl rfl rfl) ?_
  refine WL_val rfl rfl rfl (by first | exact rAsgnF rfl rfl | exact rAsgn rfl) ?_
  refine WL_nil ?_
  refine W_ret ?_
  exact ret1 2 (.inr rfl) rfl ⟨_, rfl, hI⟩
set_option maxHeartbeats 1000000 in
theorem com_any (b : Nat) (key : Int) (w0 : World) : Calls Tryd.prog 47 #[.pointer (some ⟨b, 0, none⟩), .int .i64 key] w0 fun en w' => ∃ g1 g2, en = .returned (.func (.func 56) #[] #[.pointer (some ⟨g1, 0, none⟩), .pointer (some ⟨g2, 0, none⟩)]) ∧ Inv (fun _ => False) w0 w' [B g2 3 #[.int .i64 key], B g1 23 #[.pointer (some ⟨b, 0, none⟩)]] := by
  have hI := Inv.start (fun _ => False) w0
  refine calls_of_W (N := Tryd.f47.ntmps) Tryd.func47 rfl rfl rfl ?_
  refine W_seq ?_
  refine W_region ?_
  refine WL_box (u := .pointer _) (vs := #[_]) hI rfl rfl rfl rfl rfl rfl ?_
  clear hI; rintro b2 w - - hI
  refine WL_box (u := .int .i64 _) (vs := #[_]) hI rfl rfl rfl rfl rfl rfl ?_
  clear hI; rintro b3 w - - hI
  refine WL_val rfl rfl rfl (by first | exact rAsgnF rfl rfl | exact rAsgn rfl) ?_
  refine WL_nil ?_
  refine W_seq ?_
  refine W_region ?_
  refine WL_val rfl rfl rfl (rFunc (l := []) (m := [_, _]) rfl rfl rfl) ?_
  refine WL_val rfl rfl rfl (by first | exact rAsgnF rfl rfl | exact rAsgn rfl) ?_
  refine WL_nil ?_
  refine W_ret ?_
  exact ret1 4 (.inr rfl) rfl ⟨_, _, rfl, hI⟩
def comA (l : List Nat) (k : Nat) : Array Value := #[.int .i64 ((l.getD (l.length - 1 - k) 0 : Nat) : Int)]
def comL (l : List Nat) : List (Array Value) := (List.range l.length).map (comA l)
theorem comL_len (l : List Nat) : (comL l).length = l.length := by simp [comL]
theorem comL_get {l : List Nat} {k : Nat} (h : k < l.length) : (comL l)[k]? = some (comA l k) := by simp [comL, h]
theorem intsN_getD (l : List Nat) (i : Nat) : (intsN l).getD i 0 = ((l.getD i 0 : Nat) : Int) := by
  unfold intsN
  simp only [List.getD, List.getElem?_map]
  cases l[i]? <;> rfl
set_option maxHeartbeats 1000000 in
theorem com_seq (g1 g2 b key : Nat) (D M : Nat → Prop) (l : List Nat) (s : Bs) (w : World) (h1 : w.cell? ⟨g1, 0, none⟩ = some (.pointer (some ⟨b, 0, none⟩))) (h2 : w.cell? ⟨g2, 0, none⟩ = some (.int .i64 (key : Int))) (h : BsAt w D b s) (hk : s.order[key]? = some l)
    (hM : M g1 ∧ M g2) (hD : ∀ k, D k → M k) : SeqAt Tryd.prog 56 #[.pointer (some ⟨g1, 0, none⟩), .pointer (some ⟨g2, 0, none⟩)] (comL l) w M := by
  intro y S J Jx W hp hS hJ hJx hy h0
  replace h1 := (hp.chg (fun _ => False)).cell' h1 (fun h => h)
  replace h2 := (hp.chg (fun _ => False)).cell' h2 (fun h => h)
  replace h := h.pure hp
  obtain ⟨A, c, ha, hil⟩ := h.ord key l hk
  have hk8 : key < 8 := by have := (List.getElem?_eq_some_iff.1 hk).1; have := h.olen; omega
  rw [comL_len]
  rw [show 2 + key = 2 + key * 1 by omega] at ha
  have hI := Inv.start (fun _ => False) W
  refine calls_of_WX (N := Tryd.f56.ntmps) Tryd.func56 rfl rfl rfl ?_
  refine WX_seqW ?_
  refine W_region ?_
  refine WL_box (u := .func _ _ _) (vs := #[_]) hI rfl rfl rfl rfl rfl rfl ?_
  clear hI; rintro b3 w - - hI
  refine WL_nil ?_
  refine WX_seqW ?_
  refine W_draw (by kernel_rfl) ?_
  refine WA_inv (T := []) hI.drew ?_
  intro Sx hSx hXS
  replace hI := hI.drew
  refine WT_take 0 rfl rfl (by kernel_rfl) (hXS _ hI) rfl (fun W hW => have hI := hSx W hW; (by first | exact rLd (v := .pointer _) rfl (by kernel_rfl) rfl (by first | exact hI.c0 rfl | exact hI.c1 rfl | exact hI.c2 rfl | exact hI.c3 rfl | exact hI.c4 rfl | exact hI.c5 rfl | exact hI.oldp h1 | exact h1 | exact hI.oldp h2 | exact h2 | exact hI.oldp ha | exact ha) | exact rLd rfl (by kernel_rfl) rfl (by first | exact hI.c0 rfl | exact hI.c1 rfl | exact hI.c2 rfl | exact hI.c3 rfl | exact hI.c4 rfl | exact hI.c5 rfl | exact hI.oldp h1 | exact h1 | exact hI.oldp h2 | exact h2 | exact hI.oldp ha | exact ha))) ?_
  refine WT_take 1 rfl rfl (by kernel_rfl) (hXS _ hI) rfl (fun W hW => have hI := hSx W hW; (by first | exact rLd (v := .int .i64 _) rfl (by kernel_rfl) rfl (by first | exact hI.c0 rfl | exact hI.c1 rfl | exact hI.c2 rfl | exact hI.c3 rfl | exact hI.c4 rfl | exact hI.c5 rfl | exact hI.oldp h1 | exact h1 | exact hI.oldp h2 | exact h2 | exact hI.oldp ha | exact ha) | exact rLd rfl (by kernel_rfl) rfl (by first | exact hI.c0 rfl | exact hI.c1 rfl | exact hI.c2 rfl | exact hI.c3 rfl | exact hI.c4 rfl | exact hI.c5 rfl | exact hI.oldp h1 | exact h1 | exact hI.oldp h2 | exact h2 | exact hI.oldp ha | exact ha))) ?_
  refine WT_take 2 rfl rfl (by kernel_rfl) (hXS _ hI) rfl (fun W hW => have hI := hSx W hW; (rNilChk rfl rfl)) ?_
  refine WT_take 3 rfl rfl (by kernel_rfl) (hXS _ hI) rfl (fun W hW => have hI := hSx W hW; (by first | exact rFldN (off := 2) rfl (by kernel_rfl) rfl | exact rFld (off := 2) rfl (by kernel_rfl) rfl)) ?_
  refine WT_take 4 rfl rfl (by kernel_rfl) (hXS _ hI) rfl (fun W hW => have hI := hSx W hW; (rIdxArr (sz := 1) rfl Tryd.underlying62 (by kernel_rfl) rfl rfl rfl (by omega))) ?_
  refine WT_take 5 rfl rfl (by kernel_rfl) (hXS _ hI) rfl (fun W hW => have hI := hSx W hW; (by first | exact rLd (v := .slice _ _ _) rfl (by kernel_rfl) rfl (by first | exact hI.c0 rfl | exact hI.c1 rfl | exact hI.c2 rfl | exact hI.c3 rfl | exact hI.c4 rfl | exact hI.c5 rfl | exact hI.oldp h1 | exact h1 | exact hI.oldp h2 | exact h2 | exact hI.oldp ha | exact ha) | exact rLd rfl (by kernel_rfl) rfl (by first | exact hI.c0 rfl | exact hI.c1 rfl | exact hI.c2 rfl | exact hI.c3 rfl | exact hI.c4 rfl | exact hI.c5 rfl | exact hI.oldp h1 | exact h1 | exact hI.oldp h2 | exact h2 | exact hI.oldp ha | exact ha))) ?_
  refine WT_one 6 rfl (by kernel_rfl) rfl ?_
  refine WL_call rfl rfl rfl (rCall (vs := [.slice _ _ _]) rfl Tryd.func57 rfl rfl rfl) ?_
  refine (back_any _ _ _ _).mono ?_
  rintro e w1 ⟨g4, rfl, hI4⟩
  refine ⟨_, rfl, ?_⟩
  replace hI := hI.app1 hI4
  refine WL_nil ⟨hXS _ hI.d0, ?_⟩
  refine WT_end (by kernel_rfl) ?_
  have hg4 : W.heap.size ≤ g4 := (hI.own _ (List.mem_cons_self ..) g4 rfl).resolve_left id
  have hg3 : W.heap.size ≤ b3 := (hI.own _ (List.mem_cons_of_mem _ (List.mem_cons_self ..)) b3 rfl).resolve_left id
  have hlt4 : g4 < w1.heap.size := hI.lt
  have hlt3 : b3 < w1.heap.size := hI.d0.lt
  have hsz := hI.chg.size
  have hc4 := hI.c0 (j := 0) rfl
  have hc3 := hI.c1 (j := 0) rfl
  have hl9 : (backL (intsN l)).length = l.length := by rw [backL_len, intsN_len]
  refine WX_block ?_
  refine WX_range (xs := backL (intsN l)) (M := fun k => k = g4 ∨ D k) (w0 := w1) rfl (enters_of Tryd.func65 rfl rfl)
    (Rd.back_seq g4 l.length c A (intsN l) D _ _ hc4 (hil.pure hI.pu) (.inl rfl) (fun k hk => .inr hk)) (Pure.refl _) S
    (fun k hk => ⟨fun h => (by rcases h with rfl | h; have := (hS _ hk).2; omega; exact (hS _ hk).1 (hD _ h)), by have := (hS _ hk).2; omega⟩)
    (fun k hk => by rcases hk with rfl | hk; exact hlt4; exact Nat.lt_of_lt_of_le (h.dlt k hk) hsz)
    (fun k V => J k V ∧ V.cell? ⟨b3, 0, none⟩ = some (.func (.yield y) #[] #[])) (fun c V => c = .ret ∧ Jx V)
    (fun k V V' ⟨hj, hv⟩ ha => ⟨hJ _ _ _ hj (ha.mono hsz), ha.cell hv⟩) (fun c V V' ⟨hj, hv⟩ ha => ⟨hj, hJx _ _ hv (ha.mono hsz)⟩) ⟨hJ _ _ _ h0 (.of_pure hI.pu), hc3⟩
    (fun args ha => by simp only [backL, List.mem_map] at ha; obtain ⟨_, _, rfl⟩ := ha; rfl) (by decide) ?_ ?_ ?_
  · rintro k args V hx ⟨hJk, hV⟩ hsV
    have hk9 : k < (intsN l).length := by have := (List.getElem?_eq_some_iff.1 hx).1; rw [backL_len] at this; exact this
    rw [backL_get hk9] at hx
    injection hx with hx
    subst hx
    --@rd
    refine Rd.W_region ?_
    refine WL_val rfl rfl rfl (by first | exact rAsgnI rfl rfl | exact rAsgn rfl) ?_
    refine WL_nil ?_
    refine ⟨rfl, rfl, fun V2 ⟨hJ2, hV2⟩ hs2 => ?_⟩
    refine Rd.W_block ?_
    refine Rd.W_seq ?_
    refine Rd.W_regionI 2 ?_
    refine WL_val rfl rfl rfl (by first | exact rLd (v := .func _ _ _) rfl (by kernel_rfl) rfl (by first | exact hI.c0 rfl | exact hI.c1 rfl | exact hI.c2 rfl | exact hI.c3 rfl | exact hI.c4 rfl | exact hI.c5 rfl | exact hI.oldp hV2 | exact hV2) | exact rLd rfl (by kernel_rfl) rfl (by first | exact hI.c0 rfl | exact hI.c1 rfl | exact hI.c2 rfl | exact hI.c3 rfl | exact hI.c4 rfl | exact hI.c5 rfl | exact hI.oldp hV2 | exact hV2)) ?_
    refine WL_val rfl rfl rfl (by first | exact rMoveI rfl rfl | exact rMove rfl) ?_
    refine WL_nil ?_
    refine Rd.WI_yield rfl rfl rfl rfl (rYield rfl rfl rfl) ?_
    have hx := comL_get (l := l) (k := k) (by rw [intsN_len] at hk9; exact hk9)
    unfold comA at hx
    rw [← intsN_getD, ← intsN_len l] at hx
    refine (hy k _ V2 hx hJ2).mono ?_
    rintro e w2 (⟨rfl, hJ3, hc3'⟩ | ⟨rfl, hJ3, hc3'⟩)
    · refine ⟨_, rfl, Rd.WI_of ?_⟩
      refine WL_val rfl rfl rfl (by first | exact rNotT rfl rfl | exact rNotF rfl rfl | exact rNot rfl rfl) ?_
      refine WL_nil ?_
      refine Rd.W_cond false rfl ?_
      refine Rd.W_skip ?_
      exact ⟨hc3', hJ3, hc3'.cell' hV2 (fun h => by have := (hS _ h).2; simp only at this; omega)⟩
    · refine ⟨_, rfl, Rd.WI_of ?_⟩
      refine WL_val rfl rfl rfl (by first | exact rNotT rfl rfl | exact rNotF rfl rfl | exact rNot rfl rfl) ?_
      refine WL_nil ?_
      refine Rd.W_cond true rfl ?_
      refine Rd.W_ret ?_
      exact ⟨hc3', rfl, hJ3⟩
    --@dr
  · rintro V ⟨hJk, _⟩ hD9 a ha
    show bodyPostM Fence.wide 0 _ _ _ .normal _ _
    refine leaves_retQ ha hD9 (ret0 (.inl rfl) rfl ⟨⟨_, rfl⟩, .inl ?_⟩)
    rw [← hl9]
    exact hJ _ _ _ hJk (.put _ hsz hD9 rfl)
  · rintro c V ⟨rfl, hJk⟩ hD9 a ha
    refine wpIn_ret ?_
    show bodyPostM Fence.wide 0 _ _ _ .ret _ _
    exact leaves_retQ ha hD9 (ret0 (.inr rfl) rfl ⟨⟨_, rfl⟩, .inr (hJx _ _ hJk (.put _ hsz hD9 rfl))⟩)
end Go.Proofs.YtlnjmkldpicpdaaDoor
