/- mvcc: New; a base that was asked; a fact. -/
import Derived.Test.YtlnjmkldpicpdaaDoorMvc10
import Derived.Test.YtlnjmkldpicpdaaDoorTell
namespace Go.Proofs.YtlnjmkldpicpdaaDoor
open Go.RowKit
set_option linter.unusedVariables false
set_option linter.unusedSimpArgs false
theorem Inv.rowB {S : Nat → Prop} {w0 w : World} {H : List Ent} {base e size n c : Nat} {A : Option Addr} {xs : List Value} (h : Inv S w0 w (Row base e size A n c xs :: H)) (hn : 0 < n) :
    ∃ (g : Nat) (rest : List Value), A = some ⟨g, 0, none⟩ ∧ n ≤ c ∧ c ≤ 9223372036854775807 ∧ Inv S w0 w (B g e (xs ++ rest).toArray :: H) := by
  have h1 : w.ownsRow base e size (.slice A n c) n xs := (h.ok _ (List.mem_cons_self ..)).1
  rcases h1.2 with ⟨_, h0⟩ | ⟨g, cap, cur, hv, hb, hh, hnc, hcm, hcs, htake⟩
  · omega
  · injection hv with q1 q2 q3
    subst q1 q3
    have e1 : (xs ++ cur.toList.drop (n * size)).toArray = cur := by
      rw [← htake, List.take_append_drop, Array.toArray_toList]
    refine ⟨g, cur.toList.drop (n * size), rfl, hnc, hcm, h.u0 (e' := B g e (xs ++ cur.toList.drop (n * size)).toArray) (Chg.refl _ _) ?_ (fun k hk => .inl ?_)⟩
    · rw [e1]
      exact Ent.mk_ok (D := fun k => k = g) (Φ := fun w => Blk w g e cur) hh (fun k hk => by rw [hk]; exact Blk.lt (t := e) (cs := cur) hh) (fun S w1 w2 hc hS h => Blk.chg h hc (hS g rfl))
    · have : k = g := hk
      show (some ({ block := g, off := 0 } : Addr)).map (·.block) = some k
      rw [this]; rfl
theorem Inv.manyNil {S : Nat → Prop} {w0 w : World} {H : List Ent} (h : Inv S w0 w H) (n base e size : Nat) : Inv S w0 w (Many n (fun _ => Row base e size none 0 0 []) :: H) :=
  h.fresh (Pure.refl _) (Many.ok (fun i _ => Row.nil _ base e size) (fun i j _ _ _ k hk => by simp [Row] at hk)) (fun k ⟨i, _, hk⟩ => by simp [Row] at hk)
def newS (n : Nat) (car : Bool) : Bs := ⟨car, List.replicate n ⟨[], -1, -1, false⟩, List.replicate 8 [], 0⟩
theorem newS_tx {n k : Nat} {car : Bool} (h : k < n) : txAt (newS n car) k = ⟨[], -1, -1, false⟩ := by simp [txAt, newS, List.getD, h]
theorem newS_ord {n k : Nat} {car : Bool} : bOrd (newS n car) k = [] := by
  unfold bOrd newS
  by_cases h : k < 8
  · rw [List.getD_eq_getElem?_getD, List.getElem?_replicate, if_pos h]
    rfl
  · rw [List.getD_eq_getElem?_getD, List.getElem?_replicate, if_neg h]
    rfl
def newC (k : Nat) : List Value := (List.range k).flatMap fun _ => [.slice none 0 0, .int .i64 (-1), .int .i64 (-1), .bool false]
theorem newC_succ (k : Nat) : newC (k + 1) = newC k ++ [.slice none 0 0, .int .i64 (-1), .int .i64 (-1), .bool false] := by simp [newC, List.range_succ]
theorem newC_eq (n : Nat) (car : Bool) : (vsF (newS n car) (fun _ => none) (fun _ => 0)).flatMap mxV = newC n := by
  have e : (newS n car).txs.length = n := by simp [newS]
  unfold vsF newC
  rw [e]
  simp only [List.flatMap_def, List.map_map]
  congr 1
  apply List.map_congr_left
  intro k hk
  simp only [Function.comp]
  rw [newS_tx (List.mem_range.1 hk)]
  rfl
theorem Wf.new {n cT : Nat} {car : Bool} (hn : n ≤ 8) (h1 : n ≤ cT) (h2 : cT ≤ 9223372036854775807) : Wf (newS n car) cT where
  olen := by simp [newS]
  tlen := by simpa [newS] using hn
  cap := by simpa [newS] using ⟨h1, h2⟩
  good := fun k l x hl hx => by
    have := newS_ord (n := n) (k := k) (car := car)
    unfold bOrd at this
    rw [List.getD_eq_getElem?_getD, hl] at this
    simp at this
    subst this
    simp at hx
  time0 := Int.le_refl _
  ord := fun k => by rw [newS_ord]; exact Int.le_refl _
  ops := fun i => by
    by_cases h : i < n
    · rw [newS_tx h]; exact Nat.zero_le _
    · have : txAt (newS n car) i = default := by simp [txAt, newS, List.getD]; rw [List.getElem?_eq_none (by simp; omega)]; rfl
      rw [this]; exact Nat.zero_le _
set_option maxHeartbeats 2000000 in
theorem new_any (n : Nat) (car : Bool) (w0 : World) (hn : 0 < n ∧ n ≤ 8) : Calls Tryd.prog 17 #[.int .i64 (n : Int), .bool car] w0 fun en w' => ∃ b T cT rest, en = .returned (.tuple #[.pointer (some ⟨b, 0, none⟩), .nilIface]) ∧ Wf (newS n car) cT ∧
    Inv (fun _ => False) w0 w' (bpt b T cT (fun _ => none) (fun _ => 0) (fun _ => none) (fun _ => 0) rest (newS n car)) := by
  have hI := Inv.start (fun _ => False) w0
  refine calls_of_W (N := Tryd.f17.ntmps) Tryd.func17 rfl rfl rfl ?_
  refine W_seq ?_
  refine W_region ?_
  refine WL_val rfl rfl rfl (by first | exact rAsgnP rfl rfl | exact rAsgn rfl) ?_
  refine WL_val rfl rfl rfl (by first | exact rAsgnN rfl rfl | exact rAsgnE rfl rfl | exact rAsgn rfl) ?_
  refine WL_nil ?_
  refine W_seq ?_
  refine W_seq ?_
  refine W_region ?_
  refine WL_val rfl rfl rfl (by first | exact rMoveI rfl rfl | exact rMove rfl) ?_
  refine WL_val rfl rfl rfl (by first | exact rLssT rfl rfl rfl (by omega) | exact rLssF rfl rfl rfl (by omega) | exact rLss rfl rfl rfl) ?_
  refine WL_val rfl rfl rfl (by first | exact rMoveB rfl rfl | exact rMove rfl) ?_
  first | refine WL_val rfl rfl rfl (by first | exact rMoveI rfl rfl | exact rMove rfl) ?_ | refine WL_skip rfl rfl rfl ?_
  first | refine WL_val rfl rfl rfl (by first | exact rGtrT rfl rfl rfl (by omega) | exact rGtrF rfl rfl rfl (by omega) | exact rGtr rfl rfl rfl) ?_ | refine WL_skip rfl rfl rfl ?_
  refine WL_val rfl rfl rfl (by first | exact rPickTB rfl rfl rfl | exact rPickFB rfl rfl rfl | exact rPickB rfl rfl rfl rfl) ?_
  refine WL_nil ?_
  refine W_cond false rfl ?_
  refine W_skip ?_
  refine W_seq ?_
  refine W_region ?_
  refine WL_val rfl rfl rfl (by first | exact rMoveB rfl rfl | exact rMove rfl) ?_
  refine WL_val rfl rfl rfl (rBuild (qs := [(0, .bool _)]) (vs := [_, _, _, _, _, _, _, _, _, _, _]) [.bool false, .slice none 0 0, .slice none 0 0, .slice none 0 0, .slice none 0 0, .slice none 0 0, .slice none 0 0, .slice none 0 0, .slice none 0 0, .slice none 0 0, .int .i64 0] [0] rfl rfl rfl (fun _ => by kernel_rfl)) ?_
  refine WL_box (u := .agg _) (vs := _) hI rfl rfl rfl rfl rfl rfl ?_
  clear hI; rintro b16 w - - hI
  refine WL_val rfl rfl rfl (by first | exact rAsgnP rfl rfl | exact rAsgn rfl) ?_
  refine WL_nil ?_
  refine W_seq ?_
  refine W_seq ?_
  refine W_region ?_
  refine WL_val rfl rfl rfl (by first | exact rMoveI rfl rfl | exact rMove rfl) ?_
  refine WL_val rfl rfl rfl (by first | exact rMoveI rfl rfl | exact rMove rfl) ?_
  refine WL_nil ?_
  refine W_block ?_
  refine W_loop (fun ρ w => ∃ k A c, k ≤ n ∧ Has ρ [(18, .int .i64 ((k : Nat) : Int)), (17, .int .i64 (n : Int)), (6, .pointer (some ⟨b16, 0, none⟩))] ∧ Inv (fun _ => False) w0 w [Row 0 67 4 A k c (newC k), B b16 64 #[.bool car, .slice A k c, .slice none 0 0, .slice none 0 0, .slice none 0 0, .slice none 0 0, .slice none 0 0, .slice none 0 0, .slice none 0 0, .slice none 0 0, .int .i64 0]]) (fun ρ _ => n - cnt (ρ 18))
    ⟨0, none, 0, by omega, ⟨rfl, rfl, rfl, trivial⟩, hI.fresh (Pure.refl _) (Row.nil _ 0 67 4) (fun k hk => by simp [Row] at hk)⟩ ?_
  clear hI
  rintro ρ w ⟨k, A, c, hk, hH, hI⟩
  obtain ⟨σ, rfl⟩ := hH.open
  by_cases hkn : k < n
  · refine W_seq ?_
    refine W_region ?_
    refine WL_val rfl rfl rfl (by first | exact rLssT rfl rfl rfl (by omega) | exact rLssF rfl rfl rfl (by omega) | exact rLss rfl rfl rfl) ?_
    refine WL_nil ?_
    refine W_seq ?_
    refine W_cond true rfl ?_
    refine W_skip ?_
    refine W_seq ?_
    refine W_block ?_
    have hk8 : k < 8 := by omega
    refine W_region ?_
    refine WL_val rfl rfl rfl (by first | exact rMoveP rfl rfl | exact rMove rfl) ?_
    refine WL_val rfl rfl rfl (by first | exact rMoveP rfl rfl | exact rMove rfl) ?_
    refine WL_val rfl rfl rfl (rNilChk rfl rfl) ?_
    refine WL_val rfl rfl rfl (by first | exact rFldN (off := 1) rfl (by kernel_rfl) rfl | exact rFld (off := 1) rfl (by kernel_rfl) rfl) ?_
    refine WL_val rfl rfl rfl (by first | exact rLd (v := .slice _ _ _) rfl (by kernel_rfl) rfl (by first | exact hI.c0 rfl | exact hI.c1 rfl) | exact rLd rfl (by kernel_rfl) rfl (by first | exact hI.c0 rfl | exact hI.c1 rfl)) ?_
    refine WL_val rfl rfl rfl (rBuild (qs := [(1, .int .i64 _), (2, .int .i64 _)]) (vs := [_, _, _, _]) [.slice none 0 0, .int .i64 0, .int .i64 0, .bool false] [1, 2] rfl rfl rfl (fun _ => by kernel_rfl)) ?_
    refine WL_litA (e := 67) (size := 4) [[.slice none 0 0, .int .i64 (-1), .int .i64 (-1), .bool false]] hI rfl rfl rfl rfl rfl Tryd.underlying61 (by kernel_rfl) (by kernel_rfl) rfl (by simp) (by omega) ?_
    clear hI; rintro b91 w - - hI
    first | refine WL_app1 (z := .agg #[.slice none 0 0, .int .i64 0, .int .i64 0, .bool false]) (by_ := 48) hI rfl rfl rfl rfl rfl rfl Tryd.underlying61 (by kernel_rfl) rfl (by omega) (by rfl) hI.lit0 (by first | rfl | simp [i64s, Value.oneCell']) (by omega) (by omega) (by first | exact Nat.zero_le _ | (have := hI.chg.size; omega)) ?_
    clear hI; rintro A27 c27 w hA27 hc27 hI
    replace hI := hI.d0
    refine WL_val rfl rfl rfl (rNilChk rfl rfl) ?_
    refine WL_val rfl rfl rfl (by first | exact rFldN (off := 1) rfl (by kernel_rfl) rfl | exact rFld (off := 1) rfl (by kernel_rfl) rfl) ?_
    refine WL_st1 (u := .slice _ _ _) (j := 1) hI rfl rfl rfl rfl rfl rfl (by kernel_rfl) rfl rfl rfl ?_
    clear hI; intro w hI
    refine WL_nil ?_
    refine W_region ?_
    refine WL_val rfl rfl rfl (by first | exact rInc rfl rfl rfl (by omega) | exact rAdd rfl rfl rfl (by omega) | exact rAddW rfl rfl rfl) ?_
    refine WL_val rfl rfl rfl (by first | exact rMoveI rfl rfl | exact rMove rfl) ?_
    refine WL_nil ?_
    refine ⟨⟨k + 1, A27, c27, by omega, ⟨rfl, rfl, rfl, trivial⟩, ?_⟩, by show n - ((k + 1 : Nat) : Int).toNat < n - (k : Int).toNat; omega⟩
    rw [newC_succ]
    exact hI
  · obtain rfl : k = n := by omega
    refine W_seq ?_
    refine W_region ?_
    refine WL_val rfl rfl rfl (by first | exact rLssT rfl rfl rfl (by omega) | exact rLssF rfl rfl rfl (by omega) | exact rLss rfl rfl rfl) ?_
    refine WL_nil ?_
    refine W_seq ?_
    refine W_cond false rfl ?_
    refine W_exit ?_
    refine W_seq ?_
    refine W_region ?_
    refine WL_val rfl rfl rfl (by first | exact rMoveP rfl rfl | exact rMove rfl) ?_
    refine WL_val rfl rfl rfl (by first | exact rAsgnP rfl rfl | exact rAsgn rfl) ?_
    refine WL_val rfl rfl rfl (by first | exact rAsgnN rfl rfl | exact rAsgnE rfl rfl | exact rAsgn rfl) ?_
    refine WL_nil ?_
    refine W_ret ?_
    obtain ⟨T, rest, rfl, h1, h2, hI⟩ := hI.rowB hn.1
    refine ret2 4 5 (.inr rfl) rfl ⟨b16, T, c, rest, rfl, Wf.new hn.2 h1 h2, ?_⟩
    have e : (newS k car).txs.length = k := by simp [newS]
    have h2 := (hI.sw0.manyNil 8 0 3 1).many_congr (es' := ordRow (newS k car) (fun _ => none) (fun _ => 0)) (fun i hi => by unfold ordRow; rw [newS_ord]; rfl)
    have h3 := (h2.manyNil k 0 70 4).many_congr (es' := opRow (newS k car) (fun _ => none) (fun _ => 0)) (fun i hi => by unfold opRow; rw [newS_tx hi]; rfl)
    have h4 := h3.perm (List.perm_append_comm (l₁ := [_, _]) (l₂ := [_, _]))
    unfold bpt
    rw [newC_eq, e]
    exact h4.perm (.cons _ (.cons _ (.refl _)))
end Go.Proofs.YtlnjmkldpicpdaaDoor
