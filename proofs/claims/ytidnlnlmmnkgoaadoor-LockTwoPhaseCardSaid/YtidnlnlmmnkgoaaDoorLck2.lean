/- lock: a table of locks: take, free. -/
import Derived.Test.YtidnlnlmmnkgoaaDoorLck1
namespace Go.Proofs.YtidnlnlmmnkgoaaDoor
open Go.RowKit
set_option linter.unusedVariables false
set_option linter.unusedSimpArgs false
def runC (mo : Nat → Option Nat) (vs : Nat → Value) : Array Value := #[.map (mo 0), .map (mo 1), .map (mo 2), .map (mo 3), .map (mo 4), .map (mo 5), .map (mo 6), .map (mo 7), vs 8, vs 9, vs 10, vs 11, vs 12, vs 13, vs 14]
theorem runC_get (mo : Nat → Option Nat) (vs : Nat → Value) {k : Nat} (h : k < 8) : (runC mo vs)[k]? = some (.map (mo k)) := by
  match k, h with
  | 0, _ => rfl
  | 1, _ => rfl
  | 2, _ => rfl
  | 3, _ => rfl
  | 4, _ => rfl
  | 5, _ => rfl
  | 6, _ => rfl
  | 7, _ => rfl
theorem runC_set (mo : Nat → Option Nat) (vs : Nat → Value) {k : Nat} (h : k < 8) (x : Option Nat) : (runC mo vs).setIfInBounds k (.map x) = runC (fun j => if j = k then x else mo j) vs := by
  match k, h with
  | 0, _ => rfl
  | 1, _ => rfl
  | 2, _ => rfl
  | 3, _ => rfl
  | 4, _ => rfl
  | 5, _ => rfl
  | 6, _ => rfl
  | 7, _ => rfl
def heldE (held : Nat → Nat → Nat) (mo : Nat → Option Nat) (k : Nat) : Ent := match mo k with
  | some m => MapE m (hg (held k))
  | none => Ent.nil
def HOk (held : Nat → Nat → Nat) (mo : Nat → Option Nat) : Prop := ∀ k, k < 8 → mo k = none → ∀ x, held k x = 0
def tblE (b : Nat) (mo : Nat → Option Nat) (vs : Nat → Value) (held : Nat → Nat → Nat) : List Ent := [B b 52 (runC mo vs), Many 8 (heldE held mo)]
theorem tbl_mapOk {b : Nat} {mo : Nat → Option Nat} {vs : Nat → Value} {held : Nat → Nat → Nat} {S : Nat → Prop} {w0 w : World} {H : List Ent} (hI : Inv S w0 w (B b 52 (runC mo vs) :: Many 8 (heldE held mo) :: H)) (hO : HOk held mo) {k : Nat} (hk : k < 8) : mapOk w (mo k) (held k) := by
  have h1 := (hI.ok (Many 8 (heldE held mo)) (by simp)).1.1 k hk
  unfold heldE at h1
  cases hm : mo k with
  | none => exact hO k hk hm
  | some m =>
    rw [hm] at h1
    exact h1.1
def takeH (held : Nat → Nat → Nat) (k tx kind : Nat) : Nat → Nat → Nat := fun j x => if j = k ∧ x = tx then max (held k tx) kind else held j x
def freeH (held : Nat → Nat → Nat) (tx : Nat) : Nat → Nat → Nat := fun j x => if x = tx then 0 else held j x
section
variable {P : Program} {ρ : Env} {o : Oper} {w : World} {x y : Operand} {t kt et : Nat}
theorem rMapNilT (ho : o.op = .binOp .eql t x (.const (.map none)) t) (ht : P.underlying t = some (.map kt et)) (hx : ev ρ x = .map none) : Runs P ρ o w (.bool true) := by
  have h := run_equal (P := P) (w := w) (t := t) (x := .map none) (y := .map none) (r := true) (fun d => by simp [Op.equalIn, run_underlying ht])
  simp [Runs, execOp, ho, hx, show ev ρ (.const (.map none)) = .map none from rfl, eqGuard, binOp, h]
theorem rMapNilF {m : Nat} (ho : o.op = .binOp .eql t x (.const (.map none)) t) (ht : P.underlying t = some (.map kt et)) (hx : ev ρ x = .map (some m)) : Runs P ρ o w (.bool false) := by
  have h := run_equal (P := P) (w := w) (t := t) (x := .map (some m)) (y := .map none) (r := false) (fun d => by simp [Op.equalIn, run_underlying ht])
  simp [Runs, execOp, ho, hx, show ev ρ (.const (.map none)) = .map none from rfl, eqGuard, binOp, h]
end
theorem hg_none {f : Nat → Nat} (h : ∀ x, f x = 0) : hg f = fun _ => none := by
  funext a
  unfold hg
  rw [if_neg]
  rintro ⟨_, h1⟩
  exact h1 (h _)
set_option maxHeartbeats 2000000 in
theorem take_any (b k tx kind : Nat) (mo : Nat → Option Nat) (vs : Nat → Value) (held : Nat → Nat → Nat) (S : Nat → Prop) (w0 : World) (hI : Inv S w0 w0 (tblE b mo vs held)) (hO : HOk held mo) (hk : k < 8) (hkd : 1 ≤ kind ∧ kind ≤ 2) (hf2 : ∀ j x, held j x ≤ 2) :
    Calls Tryd.prog 24 #[.pointer (some ⟨b, 0, none⟩), .agg #[.int .i64 (tx : Int), .int .i64 (kind : Int), .int .i64 (k : Int)]] w0 fun en w' => ∃ mo', en = .returned (.tuple #[]) ∧ HOk (takeH held k tx kind) mo' ∧ Inv S w0 w' (tblE b mo' vs (takeH held k tx kind)) := by
  unfold tblE at hI
  refine calls_of_W (N := Tryd.f24.ntmps) Tryd.func24 rfl rfl rfl ?_
  refine W_seq ?_
  refine W_region ?_
  refine WL_box (u := .agg _) (vs := #[_, _, _]) hI rfl rfl rfl rfl rfl rfl ?_
  clear hI; rintro b3 w - - hI
  refine WL_nil ?_
  refine W_seq_cut (fun ρ w => ∃ mo' m, mo' k = some m ∧ HOk held mo' ∧ Has ρ [(0, .pointer (some ⟨b, 0, none⟩)), (3, .pointer (some ⟨b3, 0, none⟩))] ∧ Inv S w0 w [B b3 40 #[.int .i64 (tx : Int), .int .i64 (kind : Int), .int .i64 (k : Int)], B b 52 (runC mo' vs), Many 8 (heldE held mo')]) ?_ ?_
  · have hcell : ∀ W, Inv S w0 W [B b3 40 #[.int .i64 (tx : Int), .int .i64 (kind : Int), .int .i64 (k : Int)], B b 52 (runC mo vs), Many 8 (heldE held mo)] → W.cell? ⟨b, 0 + k * 1, none⟩ = some (.map (mo k)) := fun W hI => by
      rw [Nat.zero_add, Nat.mul_one]
      exact hI.c1 (runC_get mo vs hk)
    cases hm : mo k with
    | none =>
      rw [hm] at hcell
      refine W_seq ?_
      refine W_draw (by kernel_rfl) ?_
      refine WA_inv (T := []) hI.drew ?_
      intro Sx hSx hXS
      replace hI := hI.drew
      refine WT_take 0 rfl rfl (by kernel_rfl) (hXS _ hI) rfl (fun W hW => have hI := hSx W hW; (by first | exact rMoveP rfl rfl | exact rMove rfl)) ?_
      refine WT_take 1 rfl rfl (by kernel_rfl) (hXS _ hI) rfl (fun W hW => have hI := hSx W hW; (by first | exact rFldN (off := 2) rfl (by kernel_rfl) rfl | exact rFld (off := 2) rfl (by kernel_rfl) rfl)) ?_
      refine WT_take 2 rfl rfl (by kernel_rfl) (hXS _ hI) rfl (fun W hW => have hI := hSx W hW; (by first | exact rLd (v := .int .i64 _) rfl (by kernel_rfl) rfl (by first | exact hI.c0 rfl | exact (hcell _ hI)) | exact rLd rfl (by kernel_rfl) rfl (by first | exact hI.c0 rfl | exact (hcell _ hI)))) ?_
      refine WT_take 3 rfl rfl (by kernel_rfl) (hXS _ hI) rfl (fun W hW => have hI := hSx W hW; (rNilChk rfl rfl)) ?_
      refine WT_take 4 rfl rfl (by kernel_rfl) (hXS _ hI) rfl (fun W hW => have hI := hSx W hW; (by first | exact rFldN (off := 0) rfl (by kernel_rfl) rfl | exact rFld0 rfl (by kernel_rfl) rfl)) ?_
      refine WT_take 5 rfl rfl (by kernel_rfl) (hXS _ hI) rfl (fun W hW => have hI := hSx W hW; (rIdxArr (sz := 1) rfl Tryd.underlying48 (by kernel_rfl) rfl rfl rfl (by omega))) ?_
      refine WT_take 6 rfl rfl (by kernel_rfl) (hXS _ hI) rfl (fun W hW => have hI := hSx W hW; (by first | exact rLd (v := .map _) rfl (by kernel_rfl) rfl (by first | exact hI.c0 rfl | exact (hcell _ hI)) | exact rLd rfl (by kernel_rfl) rfl (by first | exact hI.c0 rfl | exact (hcell _ hI)))) ?_
      refine WT_take 7 rfl rfl (by kernel_rfl) (hXS _ hI) rfl (fun W hW => have hI := hSx W hW; (rMapNilT rfl Tryd.underlying47 rfl)) ?_
      refine WT_end (by kernel_rfl) ?_
      refine W_cond true rfl ?_
      refine W_draw (by kernel_rfl) ?_
      refine WA_inv (T := [6]) hI.drew ?_
      intro Sx hSx hXS
      replace hI := hI.drew
      refine WT_take 0 rfl rfl (by kernel_rfl) (hXS _ hI) rfl (fun W hW => have hI := hSx W hW; (by first | exact rMoveP rfl rfl | exact rMove rfl)) ?_
      refine WT_take 1 rfl rfl (by kernel_rfl) (hXS _ hI) rfl (fun W hW => have hI := hSx W hW; (by first | exact rFldN (off := 2) rfl (by kernel_rfl) rfl | exact rFld (off := 2) rfl (by kernel_rfl) rfl)) ?_
      refine WT_take 2 rfl rfl (by kernel_rfl) (hXS _ hI) rfl (fun W hW => have hI := hSx W hW; (by first | exact rLd (v := .int .i64 _) rfl (by kernel_rfl) rfl (by first | exact hI.c0 rfl) | exact rLd rfl (by kernel_rfl) rfl (by first | exact hI.c0 rfl))) ?_
      refine WT_take 4 rfl rfl (by kernel_rfl) (hXS _ hI) rfl (fun W hW => have hI := hSx W hW; (rNilChk rfl rfl)) ?_
      refine WT_take 5 rfl rfl (by kernel_rfl) (hXS _ hI) rfl (fun W hW => have hI := hSx W hW; (by first | exact rFldN (off := 0) rfl (by kernel_rfl) rfl | exact rFld0 rfl (by kernel_rfl) rfl)) ?_
      refine WT_one 3 rfl (by kernel_rfl) rfl ?_
      refine WL_mkMap hI rfl rfl rfl rfl ?_
      clear hI; rintro b15 w hI
      refine WL_nil ⟨hXS _ hI.d0, ?_⟩
      refine WT_A (by kernel_rfl) ?_
      clear hXS hSx
      refine WA_T (fun _ => True) [] ?_
      refine WT_take 6 rfl rfl (by kernel_rfl) trivial rfl (fun W _ => (rIdxArr (sz := 1) rfl Tryd.underlying48 (by kernel_rfl) rfl rfl rfl (by omega))) ?_
      refine WT_one 7 rfl (by kernel_rfl) rfl ?_
      refine WL_st2 (u := .map (some b15)) (j := 0 + k * 1) (cs' := runC (fun j => if j = k then some b15 else mo j) vs) hI rfl rfl rfl rfl rfl rfl (by kernel_rfl) rfl (by simp [Nat.blt, runC] <;> omega) (by rw [Nat.zero_add, Nat.mul_one]; exact runC_set mo vs hk (some b15)) ?_
      clear hI; intro w hI
      refine WL_nil ⟨trivial, ?_⟩
      refine WT_end (by kernel_rfl) ?_
      have h1 := (hI.perm (.cons _ (List.perm_append_comm (l₁ := [_, _]) (l₂ := [_])))).many_in hk (by unfold heldE; rw [hm])
      have h2 := h1.many_congr (es' := heldE held (fun j => if j = k then some b15 else mo j)) (fun i hi => by
        by_cases hik : i = k
        · subst hik
          rw [if_pos rfl]
          unfold heldE
          dsimp only
          rw [if_pos rfl, hg_none (hO i hi hm)]
        · rw [if_neg hik]
          unfold heldE
          dsimp only
          rw [if_neg hik])
      exact ⟨fun j => if j = k then some b15 else mo j, b15, if_pos rfl, fun j hj hjm => by
        dsimp only at hjm
        by_cases hjk : j = k
        · rw [if_pos hjk] at hjm; cases hjm
        · rw [if_neg hjk] at hjm; exact hO j hj hjm, ⟨rfl, rfl, trivial⟩, h2.perm (List.perm_append_comm (l₁ := [_]) (l₂ := [_, _]))⟩
    | some m =>
      rw [hm] at hcell
      refine W_seq ?_
      refine W_draw (by kernel_rfl) ?_
      refine WA_inv (T := []) hI.drew ?_
      intro Sx hSx hXS
      replace hI := hI.drew
      refine WT_take 0 rfl rfl (by kernel_rfl) (hXS _ hI) rfl (fun W hW => have hI := hSx W hW; (by first | exact rMoveP rfl rfl | exact rMove rfl)) ?_
      refine WT_take 1 rfl rfl (by kernel_rfl) (hXS _ hI) rfl (fun W hW => have hI := hSx W hW; (by first | exact rFldN (off := 2) rfl (by kernel_rfl) rfl | exact rFld (off := 2) rfl (by kernel_rfl) rfl)) ?_
      refine WT_take 2 rfl rfl (by kernel_rfl) (hXS _ hI) rfl (fun W hW => have hI := hSx W hW; (by first | exact rLd (v := .int .i64 _) rfl (by kernel_rfl) rfl (by first | exact hI.c0 rfl | exact (hcell _ hI)) | exact rLd rfl (by kernel_rfl) rfl (by first | exact hI.c0 rfl | exact (hcell _ hI)))) ?_
      refine WT_take 3 rfl rfl (by kernel_rfl) (hXS _ hI) rfl (fun W hW => have hI := hSx W hW; (rNilChk rfl rfl)) ?_
      refine WT_take 4 rfl rfl (by kernel_rfl) (hXS _ hI) rfl (fun W hW => have hI := hSx W hW; (by first | exact rFldN (off := 0) rfl (by kernel_rfl) rfl | exact rFld0 rfl (by kernel_rfl) rfl)) ?_
      refine WT_take 5 rfl rfl (by kernel_rfl) (hXS _ hI) rfl (fun W hW => have hI := hSx W hW; (rIdxArr (sz := 1) rfl Tryd.underlying48 (by kernel_rfl) rfl rfl rfl (by omega))) ?_
      refine WT_take 6 rfl rfl (by kernel_rfl) (hXS _ hI) rfl (fun W hW => have hI := hSx W hW; (by first | exact rLd (v := .map _) rfl (by kernel_rfl) rfl (by first | exact hI.c0 rfl | exact (hcell _ hI)) | exact rLd rfl (by kernel_rfl) rfl (by first | exact hI.c0 rfl | exact (hcell _ hI)))) ?_
      refine WT_take 7 rfl rfl (by kernel_rfl) (hXS _ hI) rfl (fun W hW => have hI := hSx W hW; (rMapNilF (m := m) rfl Tryd.underlying47 rfl)) ?_
      refine WT_end (by kernel_rfl) ?_
      refine W_cond false rfl ?_
      refine W_skip ?_
      exact ⟨mo, m, hm, hO, ⟨rfl, rfl, trivial⟩, hI⟩
  clear hI
  rintro ρ w ⟨mo', m, hm, hO', hH, hI⟩
  obtain ⟨σ, rfl⟩ := hH.open
  replace hI := (hI.perm (List.perm_append_comm (l₁ := [_, _]) (l₂ := [_]))).many_out hk
  have he : heldE held mo' k = MapE m (hg (held k)) := by unfold heldE; rw [hm]
  rw [he] at hI
  have hcell : ∀ W, Inv S w0 W (MapE m (hg (held k)) :: Many 8 (fun j => if j = k then Ent.nil else heldE held mo' j) :: [B b3 40 #[.int .i64 (tx : Int), .int .i64 (kind : Int), .int .i64 (k : Int)], B b 52 (runC mo' vs)]) → W.cell? ⟨b, 0 + k * 1, none⟩ = some (.map (some m)) := fun W hI => by
    rw [Nat.zero_add, Nat.mul_one, ← hm]
    exact hI.c3 (runC_get mo' vs hk)
  have hmp : ∀ W, Inv S w0 W (MapE m (hg (held k)) :: Many 8 (fun j => if j = k then Ent.nil else heldE held mo' j) :: [B b3 40 #[.int .i64 (tx : Int), .int .i64 (kind : Int), .int .i64 (k : Int)], B b 52 (runC mo' vs)]) → mapOk W (some m) (held k) := fun W hI => hI.g0
  have hmx : max ((held k tx : Nat) : Int) (kind : Int) = ((max (held k tx) kind : Nat) : Int) := by omega
  refine W_draw (by kernel_rfl) ?_
  refine WA_inv (T := [22]) hI.drew ?_
  intro Sx hSx hXS
  replace hI := hI.drew
  refine WT_take 0 rfl rfl (by kernel_rfl) (hXS _ hI) rfl (fun W hW => have hI := hSx W hW; (by first | exact rMoveP rfl rfl | exact rMove rfl)) ?_
  refine WT_take 1 rfl rfl (by kernel_rfl) (hXS _ hI) rfl (fun W hW => have hI := hSx W hW; (by first | exact rFldN (off := 2) rfl (by kernel_rfl) rfl | exact rFld (off := 2) rfl (by kernel_rfl) rfl)) ?_
  refine WT_take 2 rfl rfl (by kernel_rfl) (hXS _ hI) rfl (fun W hW => have hI := hSx W hW; (by first | exact rLd (v := .int .i64 _) rfl (by kernel_rfl) rfl (by first | exact hI.c0 rfl | exact hI.c1 rfl | exact hI.c2 rfl | exact (hcell _ hI)) | exact rLd rfl (by kernel_rfl) rfl (by first | exact hI.c0 rfl | exact hI.c1 rfl | exact hI.c2 rfl | exact (hcell _ hI)))) ?_
  refine WT_take 3 rfl rfl (by kernel_rfl) (hXS _ hI) rfl (fun W hW => have hI := hSx W hW; (rNilChk rfl rfl)) ?_
  refine WT_take 4 rfl rfl (by kernel_rfl) (hXS _ hI) rfl (fun W hW => have hI := hSx W hW; (by first | exact rFldN (off := 0) rfl (by kernel_rfl) rfl | exact rFld0 rfl (by kernel_rfl) rfl)) ?_
  refine WT_take 5 rfl rfl (by kernel_rfl) (hXS _ hI) rfl (fun W hW => have hI := hSx W hW; (rIdxArr (sz := 1) rfl Tryd.underlying48 (by kernel_rfl) rfl rfl rfl (by omega))) ?_
  refine WT_take 6 rfl rfl (by kernel_rfl) (hXS _ hI) rfl (fun W hW => have hI := hSx W hW; (by first | exact rLd (v := .map _) rfl (by kernel_rfl) rfl (by first | exact hI.c0 rfl | exact hI.c1 rfl | exact hI.c2 rfl | exact (hcell _ hI)) | exact rLd rfl (by kernel_rfl) rfl (by first | exact hI.c0 rfl | exact hI.c1 rfl | exact hI.c2 rfl | exact (hcell _ hI)))) ?_
  refine WT_take 7 rfl rfl (by kernel_rfl) (hXS _ hI) rfl (fun W hW => have hI := hSx W hW; (by first | exact rFldN (off := 0) rfl (by kernel_rfl) rfl | exact rFld0 rfl (by kernel_rfl) rfl)) ?_
  refine WT_take 8 rfl rfl (by kernel_rfl) (hXS _ hI) rfl (fun W hW => have hI := hSx W hW; (by first | exact rLd (v := .int .i64 _) rfl (by kernel_rfl) rfl (by first | exact hI.c0 rfl | exact hI.c1 rfl | exact hI.c2 rfl | exact (hcell _ hI)) | exact rLd rfl (by kernel_rfl) rfl (by first | exact hI.c0 rfl | exact hI.c1 rfl | exact hI.c2 rfl | exact (hcell _ hI)))) ?_
  refine WT_take 9 rfl rfl (by kernel_rfl) (hXS _ hI) rfl (fun W hW => have hI := hSx W hW; (by first | exact rMoveP rfl rfl | exact rMove rfl)) ?_
  refine WT_take 10 rfl rfl (by kernel_rfl) (hXS _ hI) rfl (fun W hW => have hI := hSx W hW; (by first | exact rFldN (off := 2) rfl (by kernel_rfl) rfl | exact rFld (off := 2) rfl (by kernel_rfl) rfl)) ?_
  refine WT_take 11 rfl rfl (by kernel_rfl) (hXS _ hI) rfl (fun W hW => have hI := hSx W hW; (by first | exact rLd (v := .int .i64 _) rfl (by kernel_rfl) rfl (by first | exact hI.c0 rfl | exact hI.c1 rfl | exact hI.c2 rfl | exact (hcell _ hI)) | exact rLd rfl (by kernel_rfl) rfl (by first | exact hI.c0 rfl | exact hI.c1 rfl | exact hI.c2 rfl | exact (hcell _ hI)))) ?_
  refine WT_take 12 rfl rfl (by kernel_rfl) (hXS _ hI) rfl (fun W hW => have hI := hSx W hW; (rNilChk rfl rfl)) ?_
  refine WT_take 13 rfl rfl (by kernel_rfl) (hXS _ hI) rfl (fun W hW => have hI := hSx W hW; (by first | exact rFldN (off := 0) rfl (by kernel_rfl) rfl | exact rFld0 rfl (by kernel_rfl) rfl)) ?_
  refine WT_take 14 rfl rfl (by kernel_rfl) (hXS _ hI) rfl (fun W hW => have hI := hSx W hW; (rIdxArr (sz := 1) rfl Tryd.underlying48 (by kernel_rfl) rfl rfl rfl (by omega))) ?_
  refine WT_take 15 rfl rfl (by kernel_rfl) (hXS _ hI) rfl (fun W hW => have hI := hSx W hW; (by first | exact rLd (v := .map _) rfl (by kernel_rfl) rfl (by first | exact hI.c0 rfl | exact hI.c1 rfl | exact hI.c2 rfl | exact (hcell _ hI)) | exact rLd rfl (by kernel_rfl) rfl (by first | exact hI.c0 rfl | exact hI.c1 rfl | exact hI.c2 rfl | exact (hcell _ hI)))) ?_
  refine WT_take 16 rfl rfl (by kernel_rfl) (hXS _ hI) rfl (fun W hW => have hI := hSx W hW; (by first | exact rFldN (off := 0) rfl (by kernel_rfl) rfl | exact rFld0 rfl (by kernel_rfl) rfl)) ?_
  refine WT_take 17 rfl rfl (by kernel_rfl) (hXS _ hI) rfl (fun W hW => have hI := hSx W hW; (by first | exact rLd (v := .int .i64 _) rfl (by kernel_rfl) rfl (by first | exact hI.c0 rfl | exact hI.c1 rfl | exact hI.c2 rfl | exact (hcell _ hI)) | exact rLd rfl (by kernel_rfl) rfl (by first | exact hI.c0 rfl | exact hI.c1 rfl | exact hI.c2 rfl | exact (hcell _ hI)))) ?_
  refine WT_take 18 rfl rfl (by kernel_rfl) (hXS _ hI) rfl (fun W hW => have hI := hSx W hW; (rLookH1 (hmp _ hI) rfl Tryd.underlying47 Tryd.underlying3 (by kernel_rfl) rfl rfl)) ?_
  refine WT_take 19 rfl rfl (by kernel_rfl) (hXS _ hI) rfl (fun W hW => have hI := hSx W hW; (by first | exact rFldN (off := 1) rfl (by kernel_rfl) rfl | exact rFld (off := 1) rfl (by kernel_rfl) rfl)) ?_
  refine WT_take 20 rfl rfl (by kernel_rfl) (hXS _ hI) rfl (fun W hW => have hI := hSx W hW; (by first | exact rLd (v := .int .i64 _) rfl (by kernel_rfl) rfl (by first | exact hI.c0 rfl | exact hI.c1 rfl | exact hI.c2 rfl | exact (hcell _ hI)) | exact rLd rfl (by kernel_rfl) rfl (by first | exact hI.c0 rfl | exact hI.c1 rfl | exact hI.c2 rfl | exact (hcell _ hI)))) ?_
  refine WT_take 21 rfl rfl (by kernel_rfl) (hXS _ hI) rfl (fun W hW => have hI := hSx W hW; (rMax rfl rfl rfl)) ?_
  refine WT_A (by kernel_rfl) ?_
  clear hXS hSx
  refine WA_one 22 rfl (by kernel_rfl) ?_
  refine WL_mapSet 0 (v := .int .i64 ((max (held k tx) kind : Nat) : Int)) rfl hI rfl rfl rfl Tryd.underlying47 Tryd.underlying3 rfl rfl (by rw [← hmx]; rfl) ?_
  clear hI; intro w hI
  refine WL_nil ?_
  refine WA_end (by kernel_rfl) ?_
  simp only [List.set_cons_zero] at hI
  have h1 := hI.many_in hk (if_pos rfl)
  have h2 := h1.many_congr (es' := heldE (takeH held k tx kind) mo') (fun i hi => by
    by_cases hik : i = k
    · subst hik
      rw [if_pos rfl]
      unfold heldE
      rw [hm]
      show MapE m _ = MapE m _
      congr 1
      funext a
      unfold hg takeH
      by_cases ha : a = (tx : Int)
      · subst ha
        have h0 : max (held i tx) kind ≠ 0 := by omega
        rw [if_pos rfl, if_pos ⟨by omega, by simpa using h0⟩]
        simp
      · rw [if_neg ha]
        by_cases h0 : 0 ≤ a
        · have : ¬ a.toNat = tx := by omega
          simp [this]
        · simp [h0]
    · rw [if_neg hik, if_neg hik]
      unfold heldE
      have : takeH held k tx kind i = held i := by funext x; unfold takeH; simp [hik]
      rw [this])
  refine ret0 (.inl rfl) rfl ⟨mo', rfl, fun j hj hjm x => ?_, ?_⟩
  · have hjk : j ≠ k := fun e => by subst e; rw [hm] at hjm; cases hjm
    unfold takeH
    rw [if_neg (fun h => hjk h.1)]
    exact hO' j hj hjm x
  · exact (h2.perm (List.perm_append_comm (l₁ := [_, _]) (l₂ := [_]))).erase 2
end Go.Proofs.YtidnlnlmmnkgoaaDoor
