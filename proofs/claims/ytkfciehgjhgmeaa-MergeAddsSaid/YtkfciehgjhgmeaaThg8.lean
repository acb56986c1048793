/- merge: a set's values, sorted; without those that stand twice; whether a thing is in it. -/
import Derived.Test.YtkfciehgjhgmeaaShelf
import Derived.Test.YtkfciehgjhgmeaaThgA
import Derived.Lib.RowBridge
namespace Go.Proofs.Ytkfciehgjhgmeaa
open Go.RowKit
set_option linter.unusedVariables false
set_option linter.unusedSimpArgs false
theorem Chg.grown_ {D : Nat → Prop} (w : World) (os : Array Obj) (q : Nat) : Chg D w (Go.Sort.grow (w.drewN q) os) := ⟨rfl, rfl, rfl, by simp [Go.Sort.grow, World.drewN], fun k hk _ => by
  show (w.heap ++ os)[k]? = _
  rw [Array.getElem?_append_left hk]⟩
theorem intC_splice {L L' : List Int} {junk : List Value} (h : L'.length = L.length) : splice (intC L junk) 0 (i64s L') = intC L' junk := by
  have h1 : (i64s L).length = L.length := by simp [i64s]
  have h2 : (i64s L').length = L'.length := by simp [i64s]
  apply Array.ext'
  rw [splice_list _ _ _ (by unfold intC; rw [List.size_toArray, List.length_append]; omega)]
  unfold intC
  rw [List.toList_toArray, List.toList_toArray, List.take_zero, List.nil_append, Nat.zero_add, h2, h, ← h1, List.drop_left]
theorem sort_any (g n c : Nat) (d : List Int) (junk : List Value) (S : Nat → Prop) (w0 : World) (hn : d.length = n) (hl : n ≤ 1000000) (hI : Inv S w0 w0 [B g 3 (intC d junk)]) :
    Calls Try.prog 36 #[.slice (some ⟨g, 0, none⟩) n c] w0 fun e w' => e = .returned (.tuple #[]) ∧ ∃ d' : List Int, d'.Perm d ∧ Inv S w0 w' [B g 3 (intC d' junk)] := by
  have hB : Blk w0 g 3 (intC d junk) := hI.g0
  have hH : Go.Sort.Holds (Value.int .i64) w0 g 0 d.toArray := by
    intro j hj
    have hj' : j < (i64s d).length := by simpa [i64s] using hj
    refine ⟨?_, hB.frozen _⟩
    rw [Nat.zero_add, hB.cell]
    unfold intC
    rw [show (i64s d ++ junk).toArray[j]? = (i64s d ++ junk)[j]? by simp, List.getElem?_append_left hj']
    rw [getElem!_pos d.toArray j hj]
    simp [i64s, show j < d.length by simpa using hj]
  have hcon := Go.Proofs.Any.slices_Sort_int Try.lays189 g 0 c d w0 hH (Blk.lt hB) (by omega)
  change Calls Try.prog 36 _ _ _ at hcon
  rw [hn] at hcon
  refine hcon.mono ?_
  rintro e w' ⟨rfl, q, os, rfl⟩
  refine ⟨rfl, d.mergeSort fun x y => decide (x ≤ y), List.mergeSort_perm .., ?_⟩
  obtain ⟨d', hd'⟩ : ∃ d', (d.mergeSort fun x y => decide (x ≤ y)) = d' := ⟨_, rfl⟩
  rw [hd']
  have hln : d'.length = d.length := by rw [← hd']; exact List.length_mergeSort ..
  have e2 : Go.Sort.putRow (Value.int .i64) (Go.Sort.ahead w0 q) g 0 d'.toArray = (w0.drewN q).setCells g 0 (i64s d') := by
    exact Go.Lib.putRow_eq_setCells (Value.int .i64) w0 g 0 d.toArray d' q hH (by simpa using hln)
  rw [e2]
  have hB2 : Blk (w0.drewN q) g 3 (intC d junk) := hB
  have hB3 := hB2.setCells (i64s d') 0
  rw [intC_splice hln] at hB3
  have hlt : g < ((w0.drewN q).setCells g 0 (i64s d')).heap.size := hB3.lt
  have hB4 : Blk (Go.Sort.grow ((w0.drewN q).setCells g 0 (i64s d')) os) g 3 (intC d' junk) := by
    show (((w0.drewN q).setCells g 0 (i64s d')).heap ++ os)[g]? = _
    rw [Array.getElem?_append_left hlt]
    exact hB3
  have hC1 : Chg (B g 3 (intC d junk)).D w0 ((w0.drewN q).setCells g 0 (i64s d')) := Chg.setCells (S := (B g 3 (intC d junk)).D) (b := g) (.inl rfl) _ _ (by
    have := Chg.grown_ (D := (B g 3 (intC d junk)).D) w0 #[] q
    rwa [Go.Sort.grow_empty] at this)
  have hC2 : Chg (B g 3 (intC d junk)).D ((w0.drewN q).setCells g 0 (i64s d')) (Go.Sort.grow ((w0.drewN q).setCells g 0 (i64s d')) os) := Chg.grown_ _ os 0
  exact hI.upd 0 rfl (hC1.trans' hC2 (fun _ _ h => h)) (B.ok hB4) (fun k hk => .inl hk)
theorem intC_ints {w : World} {g n c : Nat} {l : List Int} {junk : List Value} (h : Blk w g 3 (intC l junk)) (hn : l.length = n) (hnc : n ≤ c) (hc : c ≤ 9223372036854775807) : Ints w (fun _ => True) (.slice (some ⟨g, 0, none⟩) n c) l := by
  subst hn
  refine ⟨some ⟨g, 0, none⟩, c, rfl, hnc, hc, by simp, fun _ => ⟨g, 0, rfl, trivial, fun j u hj => ?_⟩⟩
  rw [Nat.zero_add, h.cell]
  unfold intC
  rw [List.getElem?_toArray, List.getElem?_append_left (by have := (List.getElem?_eq_some_iff.1 hj).1; simpa [i64s] using this)]
  exact hj
theorem Inv.rowC {S : Nat → Prop} {w0 w : World} {H : List Ent} {base e n c : Nat} {A : Option Addr} {xs : List Int} (h : Inv S w0 w (Row base e 1 A n c (xs.map (Value.int .i64)) :: H)) (hn : 0 < n) :
    ∃ (g : Nat) (rest : List Value), A = some ⟨g, 0, none⟩ ∧ n ≤ c ∧ c ≤ 9223372036854775807 ∧ Inv S w0 w (B g e (intC xs rest) :: H) := by
  have h1 : w.ownsRow base e 1 (.slice A n c) n (xs.map (Value.int .i64)) := (h.ok _ (List.mem_cons_self ..)).1
  rcases h1.2 with ⟨_, h0⟩ | ⟨g, cap, cur, hv, hb, hh, hnc, hcm, hcs, htake⟩
  · omega
  · injection hv with q1 q2 q3
    subst q1 q3
    have e1 : intC xs (cur.toList.drop (n * 1)) = cur := by
      unfold intC
      have : i64s xs = xs.map (Value.int .i64) := rfl
      rw [this, ← htake, List.take_append_drop, Array.toArray_toList]
    refine ⟨g, cur.toList.drop (n * 1), rfl, hnc, hcm, h.u0 (e' := B g e (intC xs (cur.toList.drop (n * 1)))) (Chg.refl _ _) ?_ (fun k hk => .inl ?_)⟩
    · rw [e1]
      exact Ent.mk_ok (D := fun k => k = g) (Φ := fun w => Blk w g e cur) hh (fun k hk => by rw [hk]; exact Blk.lt (t := e) (cs := cur) hh) (fun S w1 w2 hc hS h => Blk.chg h hc (hS g rfl))
    · have : k = g := hk
      show (some ({ block := g, off := 0 } : Addr)).map (·.block) = some k
      rw [this]; rfl
/-- What is in a set, as a slice. -/
def ListPost (T : Tag → Option Int) (w0 : World) (en : Ending) (w' : World) : Prop :=
  ∃ (A : Option Addr) (n c : Nat) (l : List Int), en = .returned (.slice A n c) ∧ Ints w' (fun _ => True) (.slice A n c) l ∧ (∀ x, x ∈ l ↔ ∃ k, T k = some x) ∧ Pure w0 w'
theorem full_mem {T : Tag → Option Int} {ks : List Tag} (h : ∀ k, k ∈ ks ↔ (T k).isSome = true) (x : Int) : x ∈ ks.map (fun k => (T k).getD 0) ↔ ∃ k, T k = some x := by
  rw [List.mem_map]
  constructor
  · rintro ⟨k, hk, rfl⟩
    have := (h k).1 hk
    cases hT : T k with
    | none => rw [hT] at this; cases this
    | some v => exact ⟨k, by rw [hT]; rfl⟩
  · rintro ⟨k, hk⟩
    exact ⟨k, (h k).2 (by rw [hk]; rfl), by rw [hk]; rfl⟩
set_option maxHeartbeats 1000000 in
theorem sorted_any (g : Nat) (A : Option Nat) (T : Tag → Option Int) (w0 : World) (hb : w0.cell? ⟨g, 0, none⟩ = some (.map A)) (hM : MapRIs okT kT w0 A (gT T)) (hbd : ∀ ks : List Tag, ks.Nodup → (∀ k ∈ ks, (T k).isSome = true) → ks.length ≤ 1000000) :
    Calls Try.prog 33 #[.func (.func 37) #[] #[.pointer (some ⟨g, 0, none⟩)]] w0 fun en w' => ∃ (A : Option Addr) (n c : Nat) (l : List Int), en = .returned (.slice A n c) ∧ l.length = n ∧ n ≤ 1000000 ∧ n ≤ c ∧ c ≤ 9223372036854775807 ∧ (∀ x, x ∈ l ↔ ∃ k, T k = some x) ∧
      ((n = 0 ∧ Pure w0 w') ∨ ∃ (g' : Nat) (junk : List Value), A = some ⟨g', 0, none⟩ ∧ Inv (fun _ => False) w0 w' [B g' 3 (intC l junk)]) := by
  have hI := Inv.start (fun _ => False) w0
  refine calls_of_W (N := Try.f33.ntmps) Try.func33 rfl rfl rfl ?_
  refine W_seq ?_
  refine W_region ?_
  refine WL_val rfl rfl rfl (by first | exact rAsgnS rfl rfl | exact rAsgn rfl) ?_
  refine WL_nil ?_
  refine W_seq ?_
  refine W_region ?_
  refine WL_val rfl rfl rfl (by first | exact rMoveF rfl rfl | exact rMove rfl) ?_
  refine WL_call rfl rfl rfl (rCall (vs := [.func _ _ _]) rfl Try.func35 rfl rfl rfl) ?_
  refine (collect_any g A T _ hb hM hbd).mono ?_
  rintro e w1 ⟨A', c', ks, f1, f2, rfl, hI2⟩
  refine ⟨_, rfl, ?_⟩
  replace hI := hI.app1 hI2
  refine WL_val rfl rfl rfl (by first | exact rAsgnS rfl rfl | exact rAsgn rfl) ?_
  refine WL_nil ?_
  have hkl := hbd ks f1 (fun k hk => (f2 k).1 hk)
  obtain ⟨_, _, hv, hr1, hr2, _, _⟩ := Rd.of_own (D := fun _ => True) hI.g0 (fun _ _ _ => trivial)
  injection hv with hv1 hv2 hv3
  subst hv1 hv3
  by_cases h0 : ks.length = 0
  · rw [h0]
    refine W_seq ?_
    refine W_region ?_
    refine WL_val rfl rfl rfl (by first | exact rMoveS rfl rfl | exact rMove rfl) ?_
    refine WL_call rfl rfl rfl (rCall (vs := [.slice _ _ _]) rfl Try.func36 rfl rfl rfl) ?_
    refine (Go.Proofs.Any.slices_Sort_int_none Try.lays189 A' c' _).mono ?_
    rintro e w2 ⟨rfl, rfl⟩
    refine ⟨_, rfl, ?_⟩
    refine WL_nil ?_
    refine W_seq ?_
    refine W_region ?_
    refine WL_val rfl rfl rfl (by first | exact rMoveS rfl rfl | exact rMove rfl) ?_
    refine WL_val rfl rfl rfl (by first | exact rAsgnS rfl rfl | exact rAsgn rfl) ?_
    refine WL_nil ?_
    refine W_ret ?_
    have hks : ks = [] := List.eq_nil_of_length_eq_zero h0
    subst hks
    exact ret1 2 (.inr rfl) rfl ⟨A', 0, c', [], rfl, rfl, by omega, by omega, hr2, fun x => (full_mem f2 x), .inl ⟨rfl, hI.pu⟩⟩
  · obtain ⟨g', junk, rfl, h1, h2, hI⟩ := Inv.rowC (xs := ks.map fun k => (T k).getD 0) (by
      have : valV T ks = (ks.map fun k => (T k).getD 0).map (Value.int .i64) := by unfold valV; rw [List.map_map]; rfl
      rw [← this]; exact hI) (by omega)
    refine W_seq ?_
    refine W_region ?_
    refine WL_val rfl rfl rfl (by first | exact rMoveS rfl rfl | exact rMove rfl) ?_
    refine WL_call rfl rfl rfl (rCall (vs := [.slice _ _ _]) rfl Try.func36 rfl rfl rfl) ?_
    refine (sort_any g' ks.length c' (ks.map fun k => (T k).getD 0) junk _ _ (by simp) hkl (Inv.from (H := []) hI)).mono ?_
    rintro e w2 ⟨rfl, d', hpm, hI3⟩
    refine ⟨_, rfl, ?_⟩
    replace hI := Inv.turnL (H := []) hI hI3
    refine WL_nil ?_
    refine W_seq ?_
    refine W_region ?_
    refine WL_val rfl rfl rfl (by first | exact rMoveS rfl rfl | exact rMove rfl) ?_
    refine WL_val rfl rfl rfl (by first | exact rAsgnS rfl rfl | exact rAsgn rfl) ?_
    refine WL_nil ?_
    refine W_ret ?_
    exact ret1 2 (.inr rfl) rfl ⟨some ⟨g', 0, none⟩, ks.length, c', d', rfl, by rw [hpm.length_eq]; simp, hkl, hr1, hr2, fun x => (hpm.mem_iff.trans (full_mem f2 x)), .inr ⟨g', junk, rfl, hI⟩⟩
theorem compact_none (A : Option Addr) (c : Nat) (w0 : World) : Calls Try.prog 32 #[.slice A 0 c] w0 fun en w' => en = .returned (.slice A 0 c) ∧ Pure w0 w' := by
  have hI := Inv.start (fun _ => False) w0
  refine calls_of_W (N := Try.f32.ntmps) Try.func32 rfl rfl rfl ?_
  refine W_seq ?_
  refine W_region ?_
  refine WL_val rfl rfl rfl (by first | exact rAsgnS rfl rfl | exact rAsgn rfl) ?_
  refine WL_nil ?_
  refine W_seq ?_
  refine W_seq ?_
  refine W_region ?_
  refine WL_val rfl rfl rfl (by first | exact rMoveS rfl rfl | exact rMove rfl) ?_
  refine WL_val rfl rfl rfl (rLen rfl Try.underlying22 rfl) ?_
  refine WL_val rfl rfl rfl (by first | exact rLssT rfl rfl rfl (by omega) | exact rLssF rfl rfl rfl (by omega) | exact rLss rfl rfl rfl) ?_
  refine WL_nil ?_
  refine W_cond true rfl ?_
  refine W_seq ?_
  refine W_region ?_
  refine WL_val rfl rfl rfl (by first | exact rMoveS rfl rfl | exact rMove rfl) ?_
  refine WL_val rfl rfl rfl (by first | exact rAsgnS rfl rfl | exact rAsgn rfl) ?_
  refine WL_nil ?_
  refine W_ret ?_
  exact ret1 2 (.inr rfl) rfl ⟨rfl, hI.pu⟩
theorem compactL_any (A : Option Addr) (n c : Nat) (l : List Int) (w0 w : World) (hl : l.length = n) (hn6 : n ≤ 1000000) (hnc : n ≤ c) (hcm : c ≤ 9223372036854775807)
    (h : (n = 0 ∧ Pure w0 w) ∨ ∃ (g' : Nat) (junk : List Value), A = some ⟨g', 0, none⟩ ∧ Inv (fun _ => False) w0 w [B g' 3 (intC l junk)]) :
    Calls Try.prog 32 #[.slice A n c] w fun en w' => ∃ (A' : Option Addr) (n' c' : Nat) (l' : List Int), en = .returned (.slice A' n' c') ∧ Ints w' (fun _ => True) (.slice A' n' c') l' ∧ (∀ x, x ∈ l' ↔ x ∈ l) ∧ Pure w0 w' := by
  rcases h with ⟨rfl, hp⟩ | ⟨g', junk, rfl, hI⟩
  · refine (compact_none A c w).mono ?_
    rintro e w' ⟨rfl, hp2⟩
    have : l = [] := List.eq_nil_of_length_eq_zero hl
    subst this
    exact ⟨A, 0, c, [], rfl, ⟨A, c, rfl, hnc, hcm, rfl, fun h => absurd h (Nat.lt_irrefl _)⟩, fun x => Iff.rfl, hp.trans hp2⟩
  · refine (compact_any g' n c l junk _ w hl hn6 hnc hcm (Inv.from (H := []) hI)).mono ?_
    rintro e w' ⟨m, l', junk', rfl, h1, h2, h3, hI2⟩
    have hI3 := Inv.turnL (H := []) hI hI2
    exact ⟨some ⟨g', 0, none⟩, m, c, l', rfl, intC_ints hI3.g0 h1 (by omega) hcm, h3, hI3.pu⟩
set_option maxHeartbeats 1000000 in
theorem list_any (A B : Option Nat) (T : Tag → Option Int) (G : Tag → Bool) (w0 : World) (h : ThR w0 A B T G) (hbd : ∀ ks : List Tag, ks.Nodup → (∀ k ∈ ks, (T k).isSome = true) → ks.length ≤ 1000000) : Calls Try.prog 30 #[thV A B] w0 (ListPost T w0) := by
  have hI := Inv.start (fun _ => False) w0
  refine calls_of_W (N := Try.f30.ntmps) Try.func30 rfl rfl rfl ?_
  refine W_seq ?_
  refine W_region ?_
  refine WL_box (u := .agg _) (vs := #[_, _]) hI rfl rfl rfl rfl rfl rfl ?_
  clear hI; rintro b1 w - - hI
  refine WL_val rfl rfl rfl (by first | exact rAsgnS rfl rfl | exact rAsgn rfl) ?_
  refine WL_nil ?_
  refine W_seq ?_
  refine W_region ?_
  refine WL_val rfl rfl rfl (by first | exact rFldN (off := 0) rfl (by kernel_rfl) rfl | exact rFld0 rfl (by kernel_rfl) rfl) ?_
  refine WL_val rfl rfl rfl (by first | exact rLd (v := .map _) rfl (by kernel_rfl) rfl (by first | exact hI.c0 rfl | exact hI.c1 rfl) | exact rLd rfl (by kernel_rfl) rfl (by first | exact hI.c0 rfl | exact hI.c1 rfl)) ?_
  refine WL_call rfl rfl rfl (rCall (vs := [.map _]) rfl Try.func34 rfl rfl rfl) ?_
  refine (vals_any A _).mono ?_
  rintro e w1 ⟨g, rfl, hI2⟩
  refine ⟨_, rfl, ?_⟩
  replace hI := hI.app1 hI2
  refine WL_call rfl rfl rfl (rCall (vs := [.func _ _ _]) rfl Try.func33 rfl rfl rfl) ?_
  refine (sorted_any g A T _ (hI.c0 rfl) (MapRIs.pure h.1 hI.pu) hbd).mono ?_
  rintro e w2 ⟨A', n, c, l, rfl, hl, hn6, hnc, hcm, hmem, hres⟩
  refine ⟨_, rfl, ?_⟩
  have hpw : Pure w1 w2 := by rcases hres with ⟨_, hp⟩ | ⟨_, _, _, hJ⟩; exact hp; exact hJ.pu
  have hp1 := hI.pu
  refine WL_call rfl rfl rfl (rCall (vs := [.slice _ _ _]) rfl Try.func32 rfl rfl rfl) ?_
  refine (compactL_any A' n c l _ _ hl hn6 hnc hcm hres).mono ?_
  rintro e w3 ⟨A2, n2, c3, l2, rfl, hints, hmem2, hp3⟩
  refine ⟨_, rfl, ?_⟩
  replace hI := hI.pure hp3
  refine WL_val rfl rfl rfl (by first | exact rAsgnS rfl rfl | exact rAsgn rfl) ?_
  refine WL_nil ?_
  refine W_ret ?_
  exact ret1 2 (.inr rfl) rfl ⟨A2, n2, c3, l2, rfl, hints, fun x => (hmem2 x).trans (hmem x), hI.pu⟩
set_option maxHeartbeats 1000000 in
theorem has_any (A B : Option Nat) (T : Tag → Option Int) (G : Tag → Bool) (x : Int) (w0 : World) (h : ThR w0 A B T G) (hbd : ∀ ks : List Tag, ks.Nodup → (∀ k ∈ ks, (T k).isSome = true) → ks.length ≤ 1000000) :
    Calls Try.prog 17 #[thV A B, .int .i64 x] w0 fun en w' => (∃ b : Bool, en = .returned (.bool b) ∧ (b = true ↔ ∃ k, T k = some x)) ∧ Pure w0 w' := by
  have hI := Inv.start (fun _ => False) w0
  refine calls_of_W (N := Try.f17.ntmps) Try.func17 rfl rfl rfl ?_
  refine W_seq ?_
  refine W_region ?_
  refine WL_box (u := .agg _) (vs := #[_, _]) hI rfl rfl rfl rfl rfl rfl ?_
  clear hI; rintro b2 w - - hI
  refine WL_val rfl rfl rfl (by first | exact rAsgnB rfl rfl | exact rAsgn rfl) ?_
  refine WL_nil ?_
  refine W_seq ?_
  refine W_region ?_
  refine WL_val rfl rfl rfl (by first | exact rLdB (n := 2) rfl (by kernel_rfl) (by kernel_rfl) rfl rfl hI.g0 | exact rLdB (n := 2) rfl (by kernel_rfl) (by kernel_rfl) rfl rfl hI.g1 | exact rLd2 rfl (by kernel_rfl) (by kernel_rfl) rfl (by first | exact hI.c0 rfl | exact hI.c1 rfl) (by first | exact hI.c0 rfl | exact hI.c1 rfl)) ?_
  refine WL_call rfl rfl rfl (rCall (vs := [.agg _]) rfl Try.func30 rfl rfl rfl) ?_
  refine (list_any A B T G _ ⟨MapRIs.pure h.1 hI.pu, MapRIs.pure h.2 hI.pu⟩ hbd).mono ?_
  rintro e w1 ⟨A1, n, c, l, rfl, hints, hmem, hp⟩
  refine ⟨_, rfl, ?_⟩
  replace hI := hI.pure hp
  refine WL_val rfl rfl rfl (by first | exact rMoveI rfl rfl | exact rMove rfl) ?_
  refine WL_call rfl rfl rfl (rCall (vs := [.slice _ _ _, .int .i64 _]) rfl Try.func29 rfl rfl rfl) ?_
  refine (conI_any A1 n c l x _ _ hints).mono ?_
  rintro e w2 ⟨rfl, hp2⟩
  refine ⟨_, rfl, ?_⟩
  replace hI := hI.pure hp2
  refine WL_val rfl rfl rfl (by first | exact rAsgnB rfl rfl | exact rAsgn rfl) ?_
  refine WL_nil ?_
  refine W_ret ?_
  exact ret1 4 (.inr rfl) rfl ⟨⟨_, rfl, by rw [decide_eq_true_eq]; exact hmem x⟩, hI.pu⟩
end Go.Proofs.Ytkfciehgjhgmeaa
