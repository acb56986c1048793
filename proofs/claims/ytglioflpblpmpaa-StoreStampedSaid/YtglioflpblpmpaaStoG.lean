/- store: hear. -/
import Derived.Test.YtglioflpblpmpaaStoF
namespace Go.Proofs.Ytglioflpblpmpaa
open Go.RowKit
set_option linter.unusedVariables false
set_option linter.unusedSimpArgs false
theorem boolsV_get {l : List Bool} {k : Nat} (h : k < l.length) : (boolsV l).toArray[k]? = some (.bool (l.getD k false)) := by
  simp [boolsV, List.getD, h]
theorem boolsV_set {l : List Bool} {k : Nat} {v : Bool} : (boolsV l).toArray.setIfInBounds k (.bool v) = (boolsV (l.set k v)).toArray := by
  simp [boolsV, List.map_set]
theorem boolsV_size {l : List Bool} : (boolsV l).toArray.size = l.length := by simp [boolsV]
theorem countT_succ {l : List Bool} {k : Nat} (h : k < l.length) : countT (l.take (k + 1)) = countT (l.take k) + if l.getD k false = true then 1 else 0 := by
  unfold countT
  have hg : l[k]? = some (l.getD k false) := by simp [List.getD, h]
  rw [List.take_add_one, hg, List.countP_append]
  simp
theorem countT_le (l : List Bool) : countT l ≤ l.length := List.countP_le_length
section
variable {S : Nat → Prop} {w0 w : World} {H : List Ent}
theorem Inv.cput {L L' : StL} {s s' : SSt} {c b : Nat} (h : Inv S w0 w (B b 4 (boolsV (s'.cl c).counted).toArray :: Many s.k (fun j => if j = c then Ent.nil else cntE L s j) :: H)) (hc : c < s.k) (hw : L'.cw c = some b)
    (ho : ∀ i, i < s.k → i ≠ c → cntE L s i = cntE L' s' i) : Inv S w0 w (Many s.k (cntE L' s') :: H) := by
  refine (h.many_in hc (if_pos rfl)).many_congr fun i hi => ?_
  by_cases hic : i = c
  · subst hic
    rw [if_pos rfl]
    unfold cntE
    rw [hw]
  · rw [if_neg hic, if_neg hic]
    exact ho i hi hic
end
/-- Only what was counted turns. -/
theorem spt_count {L : StL} {s : SSt} {c : Nat} (l : List Bool) : flatB s.k (clF L (setCl s c { s.cl c with counted := l })) = flatB s.k (clF L s) := flatB_congr fun i _ => by
  unfold clF
  by_cases hi : i = c
  · subst hi
    rw [show (setCl s i { s.cl i with counted := l }).cl i = { s.cl i with counted := l } from if_pos rfl]; rfl
  · rw [show (setCl s c { s.cl c with counted := l }).cl i = s.cl i from if_neg hi]; rfl
theorem setCl_self {s : SSt} {c : Nat} {x : SCl} : (setCl s c x).cl c = x := if_pos rfl
theorem setCl_twice {s : SSt} {c : Nat} {x y : SCl} : setCl (setCl s c x) c y = setCl s c y := by
  unfold setCl
  congr 1
  funext i
  show (if i = c then y else if i = c then x else s.cl i) = if i = c then y else s.cl i
  split <;> rfl
set_option maxHeartbeats 4000000 in
theorem hear_any (L : StL) (s : SSt) (j : Nat) (m : SMsg) (hj : j < s.n) (hn : 1 ≤ s.n ∧ s.n ≤ 7) (hk8 : s.k ≤ 8) (hc : m.client < s.k) (hel : s.evs.length ≤ 1000 ∧ s.sts.length ≤ 1000)
    (hx : (s.cl m.client).busy = true → L.cw m.client ≠ none ∧ (s.cl m.client).counted.length = s.n ∧ 0 ≤ (s.cl m.client).began.key) (hM : (s.cl m.client).round ≤ 1000000 ∧ (s.cl m.client).best.t ≤ 1000000 ∧ m.e.t ≤ 1000000) (S : Nat → Prop) (w0 : World) (hI : Inv S w0 w0 (spt L s)) :
    Calls Try.prog 23 #[.pointer (some ⟨L.sb, 0, none⟩), .int .i64 (j : Int), .agg (msgL m).toArray] w0 fun en w' => en = .returned (.tuple #[]) ∧ ∃ MA mc EA ec SA sc cw, Inv S w0 w' (spt { L with MA := MA, mc := mc, EA := EA, ec := ec, SA := SA, sc := sc, cw := cw } (hearF s j m)) ∧ (∀ c, c ≠ m.client → cw c = L.cw c) ∧ (cw m.client = none ↔ L.cw m.client = none) := by
  obtain ⟨c, hcc⟩ : ∃ c, m.client = c := ⟨_, rfl⟩
  rw [hcc] at hc hx hM ⊢
  obtain ⟨x, hxe⟩ : ∃ x, s.cl c = x := ⟨_, rfl⟩
  rw [hxe] at hx hM
  refine calls_of_W (N := Try.f23.ntmps) Try.func23 rfl rfl rfl ?_
  refine W_seq ?_
  refine W_region ?_
  refine WL_box (u := .agg (msgL m).toArray) (vs := (msgL m).toArray) hI rfl rfl rfl rfl rfl rfl ?_
  clear hI; rintro b5 w - - hI
  refine WL_nil ?_
  have hm1 : ∀ w X, Inv S w0 w (B b5 71 (msgL m).toArray :: X) → w.cell? ⟨b5, 1, none⟩ = some (.int .i64 (c : Int)) := fun w X hI => by rw [← hcc]; exact hI.c0 rfl
  refine W_seq ?_
  refine W_draw (by kernel_rfl) ?_
  refine WA_inv (T := []) hI.drew ?_
  intro Sx hSx hXS
  replace hI := hI.drew
  refine WT_take 0 rfl rfl (by kernel_rfl) (hXS _ hI) rfl (fun W hW => have hI := hSx W hW; (by first | exact rMoveP rfl rfl | exact rMove rfl)) ?_
  refine WT_take 1 rfl rfl (by kernel_rfl) (hXS _ hI) rfl (fun W hW => have hI := hSx W hW; (rNilChk rfl rfl)) ?_
  refine WT_take 2 rfl rfl (by kernel_rfl) (hXS _ hI) rfl (fun W hW => have hI := hSx W hW; (by first | exact rFldN (off := 6) rfl (by kernel_rfl) rfl | exact rFld (off := 6) rfl (by kernel_rfl) rfl)) ?_
  refine WT_take 3 rfl rfl (by kernel_rfl) (hXS _ hI) rfl (fun W hW => have hI := hSx W hW; (by first | exact rLd (v := .slice _ _ _) rfl (by kernel_rfl) rfl (by first | exact hI.c0 rfl | exact (sp_c6 (X := [_]) hI)) | exact rLd rfl (by kernel_rfl) rfl (by first | exact hI.c0 rfl | exact (sp_c6 (X := [_]) hI)))) ?_
  refine WT_take 4 rfl rfl (by kernel_rfl) (hXS _ hI) rfl (fun W hW => have hI := hSx W hW; (by first | exact rFldN (off := 1) rfl (by kernel_rfl) rfl | exact rFld (off := 1) rfl (by kernel_rfl) rfl)) ?_
  refine WT_take 5 rfl rfl (by kernel_rfl) (hXS _ hI) rfl (fun W hW => have hI := hSx W hW; (rLd (v := .int .i64 (c : Int)) rfl (by kernel_rfl) rfl (hm1 _ _ hI))) ?_
  refine WT_take 6 rfl rfl (by kernel_rfl) (hXS _ hI) rfl (fun W hW => have hI := hSx W hW; (rIdx (sz := 15) rfl Try.underlying52 (by kernel_rfl) rfl rfl (by omega))) ?_
  refine WT_take 7 rfl rfl (by kernel_rfl) (hXS _ hI) rfl (fun W hW => have hI := hSx W hW; (by first | exact rAsgnP rfl rfl | exact rAsgn rfl)) ?_
  refine WT_end (by kernel_rfl) ?_
  have hback : ∀ w, hearF s j m = s → Inv S w0 w (spt L s) → ∃ MA mc EA ec SA sc cw, Inv S w0 w (spt { L with MA := MA, mc := mc, EA := EA, ec := ec, SA := SA, sc := sc, cw := cw } (hearF s j m)) ∧ (∀ i, i ≠ c → cw i = L.cw i) ∧ (cw c = none ↔ L.cw c = none) := fun w he hI => by
    rw [he]; exact ⟨L.MA, L.mc, L.EA, L.ec, L.SA, L.sc, L.cw, hI, fun _ _ => rfl, Iff.rfl⟩
  have hbad : (x.busy = false ∨ m.round ≠ x.round ∨ x.counted.getD j false = true) → hearF s j m = s := fun h => by
    unfold hearF
    rw [hcc, hxe, if_pos h]
  have hq : ∀ w, Inv S w0 w ([B b5 71 (msgL m).toArray] ++ spt L s) → ClAt w L.cb (0 + c * 15) x (cntV L s c) := fun w hI => by rw [← hxe]; exact sp_cl hI hc
  cases hb : x.busy with
  | false =>
    have hq0 : ∀ w, Inv S w0 w ([B b5 71 (msgL m).toArray] ++ spt L s) → w.cell? ⟨L.cb, 0 + c * 15, none⟩ = some (.bool false) := fun w hI => by rw [← hb]; exact (hq w hI).c0
    refine W_seq ?_
    refine W_seq ?_
    refine W_draw (by kernel_rfl) ?_
    refine WA_inv (T := []) hI.drew ?_
    intro Sx hSx hXS
    replace hI := hI.drew
    refine WT_take 0 rfl rfl (by kernel_rfl) (hXS _ hI) rfl (fun W hW => have hI := hSx W hW; (by first | exact rMoveP rfl rfl | exact rMove rfl)) ?_
    refine WT_take 1 rfl rfl (by kernel_rfl) (hXS _ hI) rfl (fun W hW => have hI := hSx W hW; (rNilChk rfl rfl)) ?_
    refine WT_take 2 rfl rfl (by kernel_rfl) (hXS _ hI) rfl (fun W hW => have hI := hSx W hW; (by first | exact rFldN (off := 0) rfl (by kernel_rfl) rfl | exact rFld0 rfl (by kernel_rfl) rfl)) ?_
    refine WT_take 3 rfl rfl (by kernel_rfl) (hXS _ hI) rfl (fun W hW => have hI := hSx W hW; (by first | exact rLd (v := .bool _) rfl (by kernel_rfl) rfl (by first | exact (hq0 _ hI)) | exact rLd rfl (by kernel_rfl) rfl (by first | exact (hq0 _ hI)))) ?_
    refine WT_take 4 rfl rfl (by kernel_rfl) (hXS _ hI) rfl (fun W hW => have hI := hSx W hW; (by first | exact rNotT rfl rfl | exact rNotF rfl rfl | exact rNot rfl rfl)) ?_
    refine WT_take 5 rfl rfl (by kernel_rfl) (hXS _ hI) rfl (fun W hW => have hI := hSx W hW; (by first | exact rMoveB rfl rfl | exact rMove rfl)) ?_
    refine WT_skip 6 rfl rfl (by kernel_rfl) (hXS _ hI) rfl ?_
    refine WT_skip 7 rfl rfl (by kernel_rfl) (hXS _ hI) rfl ?_
    refine WT_skip 8 rfl rfl (by kernel_rfl) (hXS _ hI) rfl ?_
    refine WT_skip 9 rfl rfl (by kernel_rfl) (hXS _ hI) rfl ?_
    refine WT_skip 10 rfl rfl (by kernel_rfl) (hXS _ hI) rfl ?_
    refine WT_skip 11 rfl rfl (by kernel_rfl) (hXS _ hI) rfl ?_
    refine WT_skip 12 rfl rfl (by kernel_rfl) (hXS _ hI) rfl ?_
    refine WT_take 13 rfl rfl (by kernel_rfl) (hXS _ hI) rfl (fun W hW => have hI := hSx W hW; (by first | exact rPickTB rfl rfl rfl | exact rPickFB rfl rfl rfl | exact rPickB rfl rfl rfl rfl)) ?_
    refine WT_take 14 rfl rfl (by kernel_rfl) (hXS _ hI) rfl (fun W hW => have hI := hSx W hW; (by first | exact rMoveB rfl rfl | exact rMove rfl)) ?_
    refine WT_skip 15 rfl rfl (by kernel_rfl) (hXS _ hI) rfl ?_
    refine WT_skip 16 rfl rfl (by kernel_rfl) (hXS _ hI) rfl ?_
    refine WT_skip 17 rfl rfl (by kernel_rfl) (hXS _ hI) rfl ?_
    refine WT_skip 18 rfl rfl (by kernel_rfl) (hXS _ hI) rfl ?_
    refine WT_skip 19 rfl rfl (by kernel_rfl) (hXS _ hI) rfl ?_
    refine WT_skip 20 rfl rfl (by kernel_rfl) (hXS _ hI) rfl ?_
    refine WT_skip 21 rfl rfl (by kernel_rfl) (hXS _ hI) rfl ?_
    refine WT_take 22 rfl rfl (by kernel_rfl) (hXS _ hI) rfl (fun W hW => have hI := hSx W hW; (by first | exact rPickTB rfl rfl rfl | exact rPickFB rfl rfl rfl | exact rPickB rfl rfl rfl rfl)) ?_
    refine WT_end (by kernel_rfl) ?_
    refine W_cond true rfl ?_
    refine W_ret ?_
    exact ret0 (.inr rfl) rfl ⟨rfl, hback _ (hbad (.inl hb)) hI.d0⟩
  | true =>
  have hq0 : ∀ w, Inv S w0 w ([B b5 71 (msgL m).toArray] ++ spt L s) → w.cell? ⟨L.cb, 0 + c * 15, none⟩ = some (.bool true) := fun w hI => by rw [← hb]; exact (hq w hI).c0
  obtain ⟨hcw, hcl, hkey⟩ := hx hb
  obtain ⟨b, hbw⟩ : ∃ b, L.cw c = some b := by
    cases h : L.cw c with
    | none => exact absurd h hcw
    | some b => exact ⟨b, rfl⟩
  have hcv : cntV L s c = .slice (some ⟨b, 0, none⟩) s.n s.n := by unfold cntV; rw [hbw]
  by_cases hr : m.round = x.round
  rotate_left
  · refine W_seq ?_
    refine W_seq ?_
    refine W_draw (by kernel_rfl) ?_
    refine WA_inv (T := []) hI.drew ?_
    intro Sx hSx hXS
    replace hI := hI.drew
    refine WT_take 0 rfl rfl (by kernel_rfl) (hXS _ hI) rfl (fun W hW => have hI := hSx W hW; (by first | exact rMoveP rfl rfl | exact rMove rfl)) ?_
    refine WT_take 1 rfl rfl (by kernel_rfl) (hXS _ hI) rfl (fun W hW => have hI := hSx W hW; (rNilChk rfl rfl)) ?_
    refine WT_take 2 rfl rfl (by kernel_rfl) (hXS _ hI) rfl (fun W hW => have hI := hSx W hW; (by first | exact rFldN (off := 0) rfl (by kernel_rfl) rfl | exact rFld0 rfl (by kernel_rfl) rfl)) ?_
    refine WT_take 3 rfl rfl (by kernel_rfl) (hXS _ hI) rfl (fun W hW => have hI := hSx W hW; (by first | exact rLd (v := .bool _) rfl (by kernel_rfl) rfl (by first | exact hI.c0 rfl | exact (hq0 _ hI) | exact ((hq _ hI).c10)) | exact rLd rfl (by kernel_rfl) rfl (by first | exact hI.c0 rfl | exact (hq0 _ hI) | exact ((hq _ hI).c10)))) ?_
    refine WT_take 4 rfl rfl (by kernel_rfl) (hXS _ hI) rfl (fun W hW => have hI := hSx W hW; (by first | exact rNotT rfl rfl | exact rNotF rfl rfl | exact rNot rfl rfl)) ?_
    refine WT_take 5 rfl rfl (by kernel_rfl) (hXS _ hI) rfl (fun W hW => have hI := hSx W hW; (by first | exact rMoveB rfl rfl | exact rMove rfl)) ?_
    first | refine WT_take 6 rfl rfl (by kernel_rfl) (hXS _ hI) rfl (fun W hW => have hI := hSx W hW; (by first | exact rFldN (off := 2) rfl (by kernel_rfl) rfl | exact rFld (off := 2) rfl (by kernel_rfl) rfl)) ?_ | refine WT_skip 6 rfl rfl (by kernel_rfl) (hXS _ hI) rfl ?_
    first | refine WT_take 7 rfl rfl (by kernel_rfl) (hXS _ hI) rfl (fun W hW => have hI := hSx W hW; (by first | exact rLd (v := .int .i64 _) rfl (by kernel_rfl) rfl (by first | exact hI.c0 rfl | exact (hq0 _ hI) | exact ((hq _ hI).c10)) | exact rLd rfl (by kernel_rfl) rfl (by first | exact hI.c0 rfl | exact (hq0 _ hI) | exact ((hq _ hI).c10)))) ?_ | refine WT_skip 7 rfl rfl (by kernel_rfl) (hXS _ hI) rfl ?_
    first | refine WT_take 8 rfl rfl (by kernel_rfl) (hXS _ hI) rfl (fun W hW => have hI := hSx W hW; (by first | exact rMoveP rfl rfl | exact rMove rfl)) ?_ | refine WT_skip 8 rfl rfl (by kernel_rfl) (hXS _ hI) rfl ?_
    first | refine WT_take 9 rfl rfl (by kernel_rfl) (hXS _ hI) rfl (fun W hW => have hI := hSx W hW; (rNilChk rfl rfl)) ?_ | refine WT_skip 9 rfl rfl (by kernel_rfl) (hXS _ hI) rfl ?_
    first | refine WT_take 10 rfl rfl (by kernel_rfl) (hXS _ hI) rfl (fun W hW => have hI := hSx W hW; (by first | exact rFldN (off := 10) rfl (by kernel_rfl) rfl | exact rFld (off := 10) rfl (by kernel_rfl) rfl)) ?_ | refine WT_skip 10 rfl rfl (by kernel_rfl) (hXS _ hI) rfl ?_
    first | refine WT_take 11 rfl rfl (by kernel_rfl) (hXS _ hI) rfl (fun W hW => have hI := hSx W hW; (by first | exact rLd (v := .int .i64 _) rfl (by kernel_rfl) rfl (by first | exact hI.c0 rfl | exact (hq0 _ hI) | exact ((hq _ hI).c10)) | exact rLd rfl (by kernel_rfl) rfl (by first | exact hI.c0 rfl | exact (hq0 _ hI) | exact ((hq _ hI).c10)))) ?_ | refine WT_skip 11 rfl rfl (by kernel_rfl) (hXS _ hI) rfl ?_
    first | refine WT_take 12 rfl rfl (by kernel_rfl) (hXS _ hI) rfl (fun W hW => have hI := hSx W hW; (by first | exact rNeqT rfl rfl rfl (by omega) | exact rNeqF rfl rfl rfl (by omega) | exact rNeq rfl rfl rfl)) ?_ | refine WT_skip 12 rfl rfl (by kernel_rfl) (hXS _ hI) rfl ?_
    refine WT_take 13 rfl rfl (by kernel_rfl) (hXS _ hI) rfl (fun W hW => have hI := hSx W hW; (by first | exact rPickTB rfl rfl rfl | exact rPickFB rfl rfl rfl | exact rPickB rfl rfl rfl rfl)) ?_
    refine WT_take 14 rfl rfl (by kernel_rfl) (hXS _ hI) rfl (fun W hW => have hI := hSx W hW; (by first | exact rMoveB rfl rfl | exact rMove rfl)) ?_
    refine WT_skip 15 rfl rfl (by kernel_rfl) (hXS _ hI) rfl ?_
    refine WT_skip 16 rfl rfl (by kernel_rfl) (hXS _ hI) rfl ?_
    refine WT_skip 17 rfl rfl (by kernel_rfl) (hXS _ hI) rfl ?_
    refine WT_skip 18 rfl rfl (by kernel_rfl) (hXS _ hI) rfl ?_
    refine WT_skip 19 rfl rfl (by kernel_rfl) (hXS _ hI) rfl ?_
    refine WT_skip 20 rfl rfl (by kernel_rfl) (hXS _ hI) rfl ?_
    refine WT_skip 21 rfl rfl (by kernel_rfl) (hXS _ hI) rfl ?_
    refine WT_take 22 rfl rfl (by kernel_rfl) (hXS _ hI) rfl (fun W hW => have hI := hSx W hW; (by first | exact rPickTB rfl rfl rfl | exact rPickFB rfl rfl rfl | exact rPickB rfl rfl rfl rfl)) ?_
    refine WT_end (by kernel_rfl) ?_
    refine W_cond true rfl ?_
    refine W_ret ?_
    exact ret0 (.inr rfl) rfl ⟨rfl, hback _ (hbad (.inr (.inl hr))) hI.d0⟩
  have hq11 : ∀ w, Inv S w0 w ([B b5 71 (msgL m).toArray] ++ spt L s) → w.cell? ⟨L.cb, 0 + c * 15 + 11, none⟩ = some (.slice (some ⟨b, 0, none⟩) s.n s.n) := fun w hI => by rw [← hcv]; exact (hq w hI).c11
  have hqb : ∀ w, Inv S w0 w ([B b5 71 (msgL m).toArray] ++ spt L s) → w.cell? ⟨b, j, none⟩ = some (.bool (x.counted.getD j false)) := fun w hI => by
    have h := sp_cnt (X := [_]) hI hc hbw
    rw [hxe] at h
    rw [h.cell, boolsV_get (by omega)]
  cases hcj : x.counted.getD j false with
  | true =>
    rw [hcj] at hqb
    refine W_seq ?_
    refine W_seq ?_
    refine W_draw (by kernel_rfl) ?_
    refine WA_inv (T := []) hI.drew ?_
    intro Sx hSx hXS
    replace hI := hI.drew
    refine WT_take 0 rfl rfl (by kernel_rfl) (hXS _ hI) rfl (fun W hW => have hI := hSx W hW; (by first | exact rMoveP rfl rfl | exact rMove rfl)) ?_
    refine WT_take 1 rfl rfl (by kernel_rfl) (hXS _ hI) rfl (fun W hW => have hI := hSx W hW; (rNilChk rfl rfl)) ?_
    refine WT_take 2 rfl rfl (by kernel_rfl) (hXS _ hI) rfl (fun W hW => have hI := hSx W hW; (by first | exact rFldN (off := 0) rfl (by kernel_rfl) rfl | exact rFld0 rfl (by kernel_rfl) rfl)) ?_
    refine WT_take 3 rfl rfl (by kernel_rfl) (hXS _ hI) rfl (fun W hW => have hI := hSx W hW; (by first | exact rLd (v := .bool _) rfl (by kernel_rfl) rfl (by first | exact hI.c0 rfl | exact (hq0 _ hI) | exact ((hq _ hI).c10) | exact (hq11 _ hI) | exact (hqb _ hI)) | exact rLd rfl (by kernel_rfl) rfl (by first | exact hI.c0 rfl | exact (hq0 _ hI) | exact ((hq _ hI).c10) | exact (hq11 _ hI) | exact (hqb _ hI)))) ?_
    refine WT_take 4 rfl rfl (by kernel_rfl) (hXS _ hI) rfl (fun W hW => have hI := hSx W hW; (by first | exact rNotT rfl rfl | exact rNotF rfl rfl | exact rNot rfl rfl)) ?_
    refine WT_take 5 rfl rfl (by kernel_rfl) (hXS _ hI) rfl (fun W hW => have hI := hSx W hW; (by first | exact rMoveB rfl rfl | exact rMove rfl)) ?_
    first | refine WT_take 6 rfl rfl (by kernel_rfl) (hXS _ hI) rfl (fun W hW => have hI := hSx W hW; (by first | exact rFldN (off := 2) rfl (by kernel_rfl) rfl | exact rFld (off := 2) rfl (by kernel_rfl) rfl)) ?_ | refine WT_skip 6 rfl rfl (by kernel_rfl) (hXS _ hI) rfl ?_
    first | refine WT_take 7 rfl rfl (by kernel_rfl) (hXS _ hI) rfl (fun W hW => have hI := hSx W hW; (by first | exact rLd (v := .int .i64 _) rfl (by kernel_rfl) rfl (by first | exact hI.c0 rfl | exact (hq0 _ hI) | exact ((hq _ hI).c10) | exact (hq11 _ hI) | exact (hqb _ hI)) | exact rLd rfl (by kernel_rfl) rfl (by first | exact hI.c0 rfl | exact (hq0 _ hI) | exact ((hq _ hI).c10) | exact (hq11 _ hI) | exact (hqb _ hI)))) ?_ | refine WT_skip 7 rfl rfl (by kernel_rfl) (hXS _ hI) rfl ?_
    first | refine WT_take 8 rfl rfl (by kernel_rfl) (hXS _ hI) rfl (fun W hW => have hI := hSx W hW; (by first | exact rMoveP rfl rfl | exact rMove rfl)) ?_ | refine WT_skip 8 rfl rfl (by kernel_rfl) (hXS _ hI) rfl ?_
    first | refine WT_take 9 rfl rfl (by kernel_rfl) (hXS _ hI) rfl (fun W hW => have hI := hSx W hW; (rNilChk rfl rfl)) ?_ | refine WT_skip 9 rfl rfl (by kernel_rfl) (hXS _ hI) rfl ?_
    first | refine WT_take 10 rfl rfl (by kernel_rfl) (hXS _ hI) rfl (fun W hW => have hI := hSx W hW; (by first | exact rFldN (off := 10) rfl (by kernel_rfl) rfl | exact rFld (off := 10) rfl (by kernel_rfl) rfl)) ?_ | refine WT_skip 10 rfl rfl (by kernel_rfl) (hXS _ hI) rfl ?_
    first | refine WT_take 11 rfl rfl (by kernel_rfl) (hXS _ hI) rfl (fun W hW => have hI := hSx W hW; (by first | exact rLd (v := .int .i64 _) rfl (by kernel_rfl) rfl (by first | exact hI.c0 rfl | exact (hq0 _ hI) | exact ((hq _ hI).c10) | exact (hq11 _ hI) | exact (hqb _ hI)) | exact rLd rfl (by kernel_rfl) rfl (by first | exact hI.c0 rfl | exact (hq0 _ hI) | exact ((hq _ hI).c10) | exact (hq11 _ hI) | exact (hqb _ hI)))) ?_ | refine WT_skip 11 rfl rfl (by kernel_rfl) (hXS _ hI) rfl ?_
    first | refine WT_take 12 rfl rfl (by kernel_rfl) (hXS _ hI) rfl (fun W hW => have hI := hSx W hW; (by first | exact rNeqT rfl rfl rfl (by omega) | exact rNeqF rfl rfl rfl (by omega) | exact rNeq rfl rfl rfl)) ?_ | refine WT_skip 12 rfl rfl (by kernel_rfl) (hXS _ hI) rfl ?_
    refine WT_take 13 rfl rfl (by kernel_rfl) (hXS _ hI) rfl (fun W hW => have hI := hSx W hW; (by first | exact rPickTB rfl rfl rfl | exact rPickFB rfl rfl rfl | exact rPickB rfl rfl rfl rfl)) ?_
    refine WT_take 14 rfl rfl (by kernel_rfl) (hXS _ hI) rfl (fun W hW => have hI := hSx W hW; (by first | exact rMoveB rfl rfl | exact rMove rfl)) ?_
    first | refine WT_take 15 rfl rfl (by kernel_rfl) (hXS _ hI) rfl (fun W hW => have hI := hSx W hW; (by first | exact rMoveP rfl rfl | exact rMove rfl)) ?_ | refine WT_skip 15 rfl rfl (by kernel_rfl) (hXS _ hI) rfl ?_
    first | refine WT_take 16 rfl rfl (by kernel_rfl) (hXS _ hI) rfl (fun W hW => have hI := hSx W hW; (rNilChk rfl rfl)) ?_ | refine WT_skip 16 rfl rfl (by kernel_rfl) (hXS _ hI) rfl ?_
    first | refine WT_take 17 rfl rfl (by kernel_rfl) (hXS _ hI) rfl (fun W hW => have hI := hSx W hW; (by first | exact rFldN (off := 11) rfl (by kernel_rfl) rfl | exact rFld (off := 11) rfl (by kernel_rfl) rfl)) ?_ | refine WT_skip 17 rfl rfl (by kernel_rfl) (hXS _ hI) rfl ?_
    first | refine WT_take 18 rfl rfl (by kernel_rfl) (hXS _ hI) rfl (fun W hW => have hI := hSx W hW; (by first | exact rLd (v := .slice _ _ _) rfl (by kernel_rfl) rfl (by first | exact hI.c0 rfl | exact (hq0 _ hI) | exact ((hq _ hI).c10) | exact (hq11 _ hI) | exact (hqb _ hI)) | exact rLd rfl (by kernel_rfl) rfl (by first | exact hI.c0 rfl | exact (hq0 _ hI) | exact ((hq _ hI).c10) | exact (hq11 _ hI) | exact (hqb _ hI)))) ?_ | refine WT_skip 18 rfl rfl (by kernel_rfl) (hXS _ hI) rfl ?_
    first | refine WT_take 19 rfl rfl (by kernel_rfl) (hXS _ hI) rfl (fun W hW => have hI := hSx W hW; (by first | exact rMoveI rfl rfl | exact rMove rfl)) ?_ | refine WT_skip 19 rfl rfl (by kernel_rfl) (hXS _ hI) rfl ?_
    first | refine WT_take 20 rfl rfl (by kernel_rfl) (hXS _ hI) rfl (fun W hW => have hI := hSx W hW; (by first | exact rIdx0 rfl Try.underlying66 (by kernel_rfl) rfl rfl rfl (by omega) | exact rIdx1 rfl Try.underlying66 (by kernel_rfl) rfl rfl (by omega))) ?_ | refine WT_skip 20 rfl rfl (by kernel_rfl) (hXS _ hI) rfl ?_
    first | refine WT_take 21 rfl rfl (by kernel_rfl) (hXS _ hI) rfl (fun W hW => have hI := hSx W hW; (by first | exact rLd (v := .bool _) rfl (by kernel_rfl) rfl (by first | exact hI.c0 rfl | exact (hq0 _ hI) | exact ((hq _ hI).c10) | exact (hq11 _ hI) | exact (hqb _ hI)) | exact rLd rfl (by kernel_rfl) rfl (by first | exact hI.c0 rfl | exact (hq0 _ hI) | exact ((hq _ hI).c10) | exact (hq11 _ hI) | exact (hqb _ hI)))) ?_ | refine WT_skip 21 rfl rfl (by kernel_rfl) (hXS _ hI) rfl ?_
    refine WT_take 22 rfl rfl (by kernel_rfl) (hXS _ hI) rfl (fun W hW => have hI := hSx W hW; (by first | exact rPickTB rfl rfl rfl | exact rPickFB rfl rfl rfl | exact rPickB rfl rfl rfl rfl)) ?_
    refine WT_end (by kernel_rfl) ?_
    refine W_cond true rfl ?_
    refine W_ret ?_
    exact ret0 (.inr rfl) rfl ⟨rfl, hback _ (hbad (.inr (.inr hcj))) hI.d0⟩
  | false =>
  rw [hcj] at hqb
  have hgood : hearF s j m = if x.telling = true then (if countT (heardC x j m).counted = s.tell then doneS (setCl s c (heardC x j m)) c else setCl s c (heardC x j m)) else if countT (heardC x j m).counted < s.ask then setCl s c (heardC x j m)
      else if x.began.kind = 2 ∨ s.back = true then sendF (setCl s c (newC (heardC x j m) c)) c 2 (newC (heardC x j m) c).best else doneS (setCl s c (newC (heardC x j m) c)) c := by
    unfold hearF
    rw [hcc, hxe, if_neg (by rw [hb, hcj]; exact fun h => by rcases h with h | h | h; cases h; exact h hr; cases h)]
  rw [hgood]
  clear hback hbad hgood
  refine W_seq ?_
  refine W_seq ?_
  refine W_draw (by kernel_rfl) ?_
  refine WA_inv (T := []) hI.drew ?_
  intro Sx hSx hXS
  replace hI := hI.drew
  refine WT_take 0 rfl rfl (by kernel_rfl) (hXS _ hI) rfl (fun W hW => have hI := hSx W hW; (by first | exact rMoveP rfl rfl | exact rMove rfl)) ?_
  refine WT_take 1 rfl rfl (by kernel_rfl) (hXS _ hI) rfl (fun W hW => have hI := hSx W hW; (rNilChk rfl rfl)) ?_
  refine WT_take 2 rfl rfl (by kernel_rfl) (hXS _ hI) rfl (fun W hW => have hI := hSx W hW; (by first | exact rFldN (off := 0) rfl (by kernel_rfl) rfl | exact rFld0 rfl (by kernel_rfl) rfl)) ?_
  refine WT_take 3 rfl rfl (by kernel_rfl) (hXS _ hI) rfl (fun W hW => have hI := hSx W hW; (by first | exact rLd (v := .bool _) rfl (by kernel_rfl) rfl (by first | exact hI.c0 rfl | exact (hq0 _ hI) | exact ((hq _ hI).c10) | exact (hq11 _ hI) | exact (hqb _ hI)) | exact rLd rfl (by kernel_rfl) rfl (by first | exact hI.c0 rfl | exact (hq0 _ hI) | exact ((hq _ hI).c10) | exact (hq11 _ hI) | exact (hqb _ hI)))) ?_
  refine WT_take 4 rfl rfl (by kernel_rfl) (hXS _ hI) rfl (fun W hW => have hI := hSx W hW; (by first | exact rNotT rfl rfl | exact rNotF rfl rfl | exact rNot rfl rfl)) ?_
  refine WT_take 5 rfl rfl (by kernel_rfl) (hXS _ hI) rfl (fun W hW => have hI := hSx W hW; (by first | exact rMoveB rfl rfl | exact rMove rfl)) ?_
  first | refine WT_take 6 rfl rfl (by kernel_rfl) (hXS _ hI) rfl (fun W hW => have hI := hSx W hW; (by first | exact rFldN (off := 2) rfl (by kernel_rfl) rfl | exact rFld (off := 2) rfl (by kernel_rfl) rfl)) ?_ | refine WT_skip 6 rfl rfl (by kernel_rfl) (hXS _ hI) rfl ?_
  first | refine WT_take 7 rfl rfl (by kernel_rfl) (hXS _ hI) rfl (fun W hW => have hI := hSx W hW; (by first | exact rLd (v := .int .i64 _) rfl (by kernel_rfl) rfl (by first | exact hI.c0 rfl | exact (hq0 _ hI) | exact ((hq _ hI).c10) | exact (hq11 _ hI) | exact (hqb _ hI)) | exact rLd rfl (by kernel_rfl) rfl (by first | exact hI.c0 rfl | exact (hq0 _ hI) | exact ((hq _ hI).c10) | exact (hq11 _ hI) | exact (hqb _ hI)))) ?_ | refine WT_skip 7 rfl rfl (by kernel_rfl) (hXS _ hI) rfl ?_
  first | refine WT_take 8 rfl rfl (by kernel_rfl) (hXS _ hI) rfl (fun W hW => have hI := hSx W hW; (by first | exact rMoveP rfl rfl | exact rMove rfl)) ?_ | refine WT_skip 8 rfl rfl (by kernel_rfl) (hXS _ hI) rfl ?_
  first | refine WT_take 9 rfl rfl (by kernel_rfl) (hXS _ hI) rfl (fun W hW => have hI := hSx W hW; (rNilChk rfl rfl)) ?_ | refine WT_skip 9 rfl rfl (by kernel_rfl) (hXS _ hI) rfl ?_
  first | refine WT_take 10 rfl rfl (by kernel_rfl) (hXS _ hI) rfl (fun W hW => have hI := hSx W hW; (by first | exact rFldN (off := 10) rfl (by kernel_rfl) rfl | exact rFld (off := 10) rfl (by kernel_rfl) rfl)) ?_ | refine WT_skip 10 rfl rfl (by kernel_rfl) (hXS _ hI) rfl ?_
  first | refine WT_take 11 rfl rfl (by kernel_rfl) (hXS _ hI) rfl (fun W hW => have hI := hSx W hW; (by first | exact rLd (v := .int .i64 _) rfl (by kernel_rfl) rfl (by first | exact hI.c0 rfl | exact (hq0 _ hI) | exact ((hq _ hI).c10) | exact (hq11 _ hI) | exact (hqb _ hI)) | exact rLd rfl (by kernel_rfl) rfl (by first | exact hI.c0 rfl | exact (hq0 _ hI) | exact ((hq _ hI).c10) | exact (hq11 _ hI) | exact (hqb _ hI)))) ?_ | refine WT_skip 11 rfl rfl (by kernel_rfl) (hXS _ hI) rfl ?_
  first | refine WT_take 12 rfl rfl (by kernel_rfl) (hXS _ hI) rfl (fun W hW => have hI := hSx W hW; (by first | exact rNeqT rfl rfl rfl (by omega) | exact rNeqF rfl rfl rfl (by omega) | exact rNeq rfl rfl rfl)) ?_ | refine WT_skip 12 rfl rfl (by kernel_rfl) (hXS _ hI) rfl ?_
  refine WT_take 13 rfl rfl (by kernel_rfl) (hXS _ hI) rfl (fun W hW => have hI := hSx W hW; (by first | exact rPickTB rfl rfl rfl | exact rPickFB rfl rfl rfl | exact rPickB rfl rfl rfl rfl)) ?_
  refine WT_take 14 rfl rfl (by kernel_rfl) (hXS _ hI) rfl (fun W hW => have hI := hSx W hW; (by first | exact rMoveB rfl rfl | exact rMove rfl)) ?_
  first | refine WT_take 15 rfl rfl (by kernel_rfl) (hXS _ hI) rfl (fun W hW => have hI := hSx W hW; (by first | exact rMoveP rfl rfl | exact rMove rfl)) ?_ | refine WT_skip 15 rfl rfl (by kernel_rfl) (hXS _ hI) rfl ?_
  first | refine WT_take 16 rfl rfl (by kernel_rfl) (hXS _ hI) rfl (fun W hW => have hI := hSx W hW; (rNilChk rfl rfl)) ?_ | refine WT_skip 16 rfl rfl (by kernel_rfl) (hXS _ hI) rfl ?_
  first | refine WT_take 17 rfl rfl (by kernel_rfl) (hXS _ hI) rfl (fun W hW => have hI := hSx W hW; (by first | exact rFldN (off := 11) rfl (by kernel_rfl) rfl | exact rFld (off := 11) rfl (by kernel_rfl) rfl)) ?_ | refine WT_skip 17 rfl rfl (by kernel_rfl) (hXS _ hI) rfl ?_
  first | refine WT_take 18 rfl rfl (by kernel_rfl) (hXS _ hI) rfl (fun W hW => have hI := hSx W hW; (by first | exact rLd (v := .slice _ _ _) rfl (by kernel_rfl) rfl (by first | exact hI.c0 rfl | exact (hq0 _ hI) | exact ((hq _ hI).c10) | exact (hq11 _ hI) | exact (hqb _ hI)) | exact rLd rfl (by kernel_rfl) rfl (by first | exact hI.c0 rfl | exact (hq0 _ hI) | exact ((hq _ hI).c10) | exact (hq11 _ hI) | exact (hqb _ hI)))) ?_ | refine WT_skip 18 rfl rfl (by kernel_rfl) (hXS _ hI) rfl ?_
  first | refine WT_take 19 rfl rfl (by kernel_rfl) (hXS _ hI) rfl (fun W hW => have hI := hSx W hW; (by first | exact rMoveI rfl rfl | exact rMove rfl)) ?_ | refine WT_skip 19 rfl rfl (by kernel_rfl) (hXS _ hI) rfl ?_
  first | refine WT_take 20 rfl rfl (by kernel_rfl) (hXS _ hI) rfl (fun W hW => have hI := hSx W hW; (by first | exact rIdx0 rfl Try.underlying66 (by kernel_rfl) rfl rfl rfl (by omega) | exact rIdx1 rfl Try.underlying66 (by kernel_rfl) rfl rfl (by omega))) ?_ | refine WT_skip 20 rfl rfl (by kernel_rfl) (hXS _ hI) rfl ?_
  first | refine WT_take 21 rfl rfl (by kernel_rfl) (hXS _ hI) rfl (fun W hW => have hI := hSx W hW; (by first | exact rLd (v := .bool _) rfl (by kernel_rfl) rfl (by first | exact hI.c0 rfl | exact (hq0 _ hI) | exact ((hq _ hI).c10) | exact (hq11 _ hI) | exact (hqb _ hI)) | exact rLd rfl (by kernel_rfl) rfl (by first | exact hI.c0 rfl | exact (hq0 _ hI) | exact ((hq _ hI).c10) | exact (hq11 _ hI) | exact (hqb _ hI)))) ?_ | refine WT_skip 21 rfl rfl (by kernel_rfl) (hXS _ hI) rfl ?_
  refine WT_take 22 rfl rfl (by kernel_rfl) (hXS _ hI) rfl (fun W hW => have hI := hSx W hW; (by first | exact rPickTB rfl rfl rfl | exact rPickFB rfl rfl rfl | exact rPickB rfl rfl rfl rfl)) ?_
  refine WT_end (by kernel_rfl) ?_
  refine W_cond false rfl ?_
  refine W_skip ?_
  have hce : cntE L s c = B b 4 (boolsV x.counted).toArray := by unfold cntE; rw [hbw, hxe]
  unfold spt at hI
  replace hI := (hI.pull 4 rfl).many_out (i := c) hc
  rw [hce] at hI
  have hq11' : w.cell? ⟨L.cb, 0 + c * 15 + 11, none⟩ = some (.slice (some ⟨b, 0, none⟩) s.n s.n) := by rw [← hcv]; exact (clF_at 5 rfl hI hc).c11
  refine W_seq ?_
  refine W_region ?_
  refine WL_val rfl rfl rfl (by first | exact rMoveP rfl rfl | exact rMove rfl) ?_
  refine WL_val rfl rfl rfl (rNilChk rfl rfl) ?_
  refine WL_val rfl rfl rfl (by first | exact rFldN (off := 11) rfl (by kernel_rfl) rfl | exact rFld (off := 11) rfl (by kernel_rfl) rfl) ?_
  refine WL_val rfl rfl rfl (by first | exact rLd (v := .slice _ _ _) rfl (by kernel_rfl) rfl (by first | exact hI.oldp hq11' | exact hq11') | exact rLd rfl (by kernel_rfl) rfl (by first | exact hI.oldp hq11' | exact hq11')) ?_
  refine WL_val rfl rfl rfl (by first | exact rMoveI rfl rfl | exact rMove rfl) ?_
  refine WL_val rfl rfl rfl (by first | exact rIdx0 rfl Try.underlying66 (by kernel_rfl) rfl rfl rfl (by omega) | exact rIdx1 rfl Try.underlying66 (by kernel_rfl) rfl rfl (by omega)) ?_
  refine WL_st0 (u := .bool true) (j := j) (cs' := (boolsV (x.counted.set j true)).toArray) hI rfl rfl rfl rfl rfl rfl (by kernel_rfl) rfl (by rw [boolsV_size, Nat.blt_eq]; omega) boolsV_set ?_
  clear hI; intro w hI
  refine WL_nil ?_
  obtain ⟨cl1, hcl1⟩ : ∃ l, x.counted.set j true = l := ⟨_, rfl⟩
  rw [hcl1] at hI
  have hl1 : cl1.length = s.n := by rw [← hcl1, List.length_set]; exact hcl
  obtain ⟨s1, hs1⟩ : ∃ s1, setCl s c { s.cl c with counted := cl1 } = s1 := ⟨_, rfl⟩
  have hx1 : s1.cl c = { x with counted := cl1 } := by rw [← hs1, setCl_self, hxe]
  have hk1 : s1.k = s.k := by rw [← hs1]; rfl
  have hn1 : s1.n = s.n := by rw [← hs1]; rfl
  have hc1 : c < s1.k := by omega
  replace hI : Inv S w0 w ([B b5 71 (msgL m).toArray] ++ spt L s1) := by
    have h1 := (Inv.cput (L' := L) (s' := s1) (c := c) (b := b) (by rw [hx1]; exact hI) hc hbw (fun i _ hi => by
      unfold cntE
      rw [← hs1, show (setCl s c { s.cl c with counted := cl1 }).cl i = s.cl i from if_neg hi])).back 4
    rw [← spt_count (c := c) cl1, hs1] at h1
    subst hs1
    exact h1
  have hcv1 : cntV L s1 c = .slice (some ⟨b, 0, none⟩) s.n s.n := by unfold cntV; rw [hbw, hn1]
  have hr1 : ∀ w, Inv S w0 w ([B b5 71 (msgL m).toArray] ++ spt L s1) → ClAt w L.cb (0 + c * 15) { x with counted := cl1 } (.slice (some ⟨b, 0, none⟩) s.n s.n) := fun w hI => by
    rw [← hcv1, ← hx1]; exact sp_cl hI hc1
  have hrb : ∀ w, Inv S w0 w ([B b5 71 (msgL m).toArray] ++ spt L s1) → ∀ i, i < s.n → w.cell? ⟨b, i, none⟩ = some (.bool (cl1.getD i false)) := fun w hI i hi => by
    have h := sp_cnt (X := [_]) hI hc1 hbw
    rw [hx1] at h
    rw [h.cell]
    exact boolsV_get (by show i < cl1.length; omega)
  refine W_seq ?_
  refine W_region ?_
  refine WL_val rfl rfl rfl (by first | exact rAsgnI rfl rfl | exact rAsgn rfl) ?_
  refine WL_nil ?_
  refine W_seq_cut (fun ρ w => Has ρ [(7, .int .i64 ((countT cl1 : Nat) : Int)), (0, .pointer (some ⟨L.sb, 0, none⟩)), (5, .pointer (some ⟨b5, 0, none⟩)), (6, .pointer (some ⟨L.cb, 0 + c * 15, none⟩))] ∧ Inv S w0 w ([B b5 71 (msgL m).toArray] ++ spt L s1)) ?_ ?_
  · refine W_seq ?_
    refine W_region ?_
    refine WL_val rfl rfl rfl (by first | exact rMoveP rfl rfl | exact rMove rfl) ?_
    refine WL_val rfl rfl rfl (rNilChk rfl rfl) ?_
    refine WL_val rfl rfl rfl (by first | exact rFldN (off := 11) rfl (by kernel_rfl) rfl | exact rFld (off := 11) rfl (by kernel_rfl) rfl) ?_
    refine WL_val rfl rfl rfl (by first | exact rLd (v := .slice _ _ _) rfl (by kernel_rfl) rfl (by first | exact ((hr1 _ hI).c11)) | exact rLd rfl (by kernel_rfl) rfl (by first | exact ((hr1 _ hI).c11))) ?_
    refine WL_val rfl rfl rfl (rLen rfl Try.underlying66 rfl) ?_
    refine WL_val rfl rfl rfl (by first | exact rMoveI rfl rfl | exact rMove rfl) ?_
    refine WL_nil ?_
    refine W_block ?_
    refine W_loop (fun ρ w => ∃ i : Nat, i ≤ s.n ∧ Has ρ [(52, .int .i64 (i : Int)), (51, .int .i64 (s.n : Int)), (50, .slice (some ⟨b, 0, none⟩) s.n s.n), (7, .int .i64 ((countT (cl1.take i) : Nat) : Int)), (0, .pointer (some ⟨L.sb, 0, none⟩)), (5, .pointer (some ⟨b5, 0, none⟩)), (6, .pointer (some ⟨L.cb, 0 + c * 15, none⟩))] ∧ Inv S w0 w ([B b5 71 (msgL m).toArray] ++ spt L s1)) (fun ρ _ => s.n - cnt (ρ 52))
      ⟨0, by omega, ⟨rfl, rfl, rfl, rfl, rfl, rfl, rfl, trivial⟩, hI⟩ ?_
    clear hI
    rintro ρ w ⟨i, hi, hH, hI⟩
    obtain ⟨σ, rfl⟩ := hH.open
    have hct : countT (cl1.take i) ≤ i := Nat.le_trans (countT_le _) (List.length_take_le _ _)
    by_cases hin : i < s.n
    rotate_left
    · obtain rfl : i = s.n := by omega
      rw [List.take_of_length_le (by omega)]
      refine W_seq ?_
      refine W_region ?_
      refine WL_val rfl rfl rfl (by first | exact rLssT rfl rfl rfl (by omega) | exact rLssF rfl rfl rfl (by omega) | exact rLss rfl rfl rfl) ?_
      refine WL_nil ?_
      refine W_seq ?_
      refine W_cond false rfl ?_
      refine W_exit ?_
      exact ⟨⟨rfl, rfl, rfl, rfl, trivial⟩, hI⟩
    have hcs := countT_succ (l := cl1) (k := i) (by omega)
    refine W_seq ?_
    refine W_region ?_
    refine WL_val rfl rfl rfl (by first | exact rLssT rfl rfl rfl (by omega) | exact rLssF rfl rfl rfl (by omega) | exact rLss rfl rfl rfl) ?_
    refine WL_nil ?_
    refine W_seq ?_
    refine W_cond true rfl ?_
    refine W_skip ?_
    refine W_seq ?_
    refine W_block ?_
    cases hbi : cl1.getD i false with
    | true =>
      rw [if_pos hbi] at hcs
      have hz := hrb w hI i hin
      rw [hbi] at hz
      refine W_seq ?_
      refine W_region ?_
      refine WL_val rfl rfl rfl (by first | exact rIdx0 rfl Try.underlying66 (by kernel_rfl) rfl rfl rfl (by omega) | exact rIdx1 rfl Try.underlying66 (by kernel_rfl) rfl rfl (by omega)) ?_
      refine WL_val rfl rfl rfl (by first | exact rLd (v := .bool _) rfl (by kernel_rfl) rfl (by first | exact hI.oldp hz | exact hz) | exact rLd rfl (by kernel_rfl) rfl (by first | exact hI.oldp hz | exact hz)) ?_
      refine WL_val rfl rfl rfl (by first | exact rAsgnB rfl rfl | exact rAsgn rfl) ?_
      refine WL_nil ?_
      refine W_seq ?_
      refine W_region ?_
      refine WL_val rfl rfl rfl (by first | exact rMoveB rfl rfl | exact rMove rfl) ?_
      refine WL_nil ?_
      refine W_cond true rfl ?_
      refine W_region ?_
      refine WL_val rfl rfl rfl (by first | exact rMoveI rfl rfl | exact rMove rfl) ?_
      refine WL_val rfl rfl rfl (by first | exact rInc rfl rfl rfl (by omega) | exact rAdd rfl rfl rfl (by omega) | exact rAddW rfl rfl rfl) ?_
      refine WL_val rfl rfl rfl (by first | exact rAsgnI rfl rfl | exact rAsgn rfl) ?_
      refine WL_nil ?_
      refine W_region ?_
      refine WL_val rfl rfl rfl (by first | exact rInc rfl rfl rfl (by omega) | exact rAdd rfl rfl rfl (by omega) | exact rAddW rfl rfl rfl) ?_
      refine WL_val rfl rfl rfl (by first | exact rMoveI rfl rfl | exact rMove rfl) ?_
      refine WL_nil ?_
      refine ⟨⟨i + 1, by omega, ⟨rfl, rfl, rfl, ?_, rfl, rfl, rfl, trivial⟩, hI⟩, by show s.n - ((i + 1 : Nat) : Int).toNat < s.n - (i : Int).toNat; omega⟩
      rw [hcs]; rfl
    | false =>
      rw [if_neg (by rw [hbi]; decide)] at hcs
      have hz := hrb w hI i hin
      rw [hbi] at hz
      refine W_seq ?_
      refine W_region ?_
      refine WL_val rfl rfl rfl (by first | exact rIdx0 rfl Try.underlying66 (by kernel_rfl) rfl rfl rfl (by omega) | exact rIdx1 rfl Try.underlying66 (by kernel_rfl) rfl rfl (by omega)) ?_
      refine WL_val rfl rfl rfl (by first | exact rLd (v := .bool _) rfl (by kernel_rfl) rfl (by first | exact hI.oldp hz | exact hz) | exact rLd rfl (by kernel_rfl) rfl (by first | exact hI.oldp hz | exact hz)) ?_
      refine WL_val rfl rfl rfl (by first | exact rAsgnB rfl rfl | exact rAsgn rfl) ?_
      refine WL_nil ?_
      refine W_seq ?_
      refine W_region ?_
      refine WL_val rfl rfl rfl (by first | exact rMoveB rfl rfl | exact rMove rfl) ?_
      refine WL_nil ?_
      refine W_cond false rfl ?_
      refine W_skip ?_
      refine W_region ?_
      refine WL_val rfl rfl rfl (by first | exact rInc rfl rfl rfl (by omega) | exact rAdd rfl rfl rfl (by omega) | exact rAddW rfl rfl rfl) ?_
      refine WL_val rfl rfl rfl (by first | exact rMoveI rfl rfl | exact rMove rfl) ?_
      refine WL_nil ?_
      refine ⟨⟨i + 1, by omega, ⟨rfl, rfl, rfl, ?_, rfl, rfl, rfl, trivial⟩, hI⟩, by show s.n - ((i + 1 : Nat) : Int).toNat < s.n - (i : Int).toNat; omega⟩
      rw [hcs]; rfl
  clear hI
  rintro ρ w ⟨hH, hI⟩
  obtain ⟨σ, rfl⟩ := hH.open
  have hct := countT_le cl1
  have hhc : (heardC x j m).counted = cl1 := by
    unfold heardC
    rw [← hcl1]
    split
    · rfl
    · split <;> rfl
  rw [hhc]
  have hsame : ∀ (w : World) (s' : SSt), Inv S w0 w (spt L s') → ∃ MA mc EA ec SA sc cw, Inv S w0 w (spt { L with MA := MA, mc := mc, EA := EA, ec := ec, SA := SA, sc := sc, cw := cw } s') ∧ (∀ i, i ≠ c → cw i = L.cw i) ∧ (cw c = none ↔ L.cw c = none) := fun w s' hI =>
    ⟨L.MA, L.mc, L.EA, L.ec, L.SA, L.sc, L.cw, hI, fun _ _ => rfl, Iff.rfl⟩
  cases htl : x.telling with
  | true =>
    have hh1 : setCl s c (heardC x j m) = s1 := by
      unfold heardC
      rw [if_pos htl, hcl1, ← hs1, hxe]
    rw [if_pos rfl, hh1]
    have hz := (hr1 w hI).c9
    have hz : w.cell? ⟨L.cb, 0 + c * 15 + 9, none⟩ = some (.bool true) := by rw [← htl]; exact hz
    refine W_seq ?_
    refine W_seq ?_
    refine W_region ?_
    refine WL_val rfl rfl rfl (by first | exact rMoveP rfl rfl | exact rMove rfl) ?_
    refine WL_val rfl rfl rfl (rNilChk rfl rfl) ?_
    refine WL_val rfl rfl rfl (by first | exact rFldN (off := 9) rfl (by kernel_rfl) rfl | exact rFld (off := 9) rfl (by kernel_rfl) rfl) ?_
    refine WL_val rfl rfl rfl (by first | exact rLd (v := .bool _) rfl (by kernel_rfl) rfl (by first | exact hI.oldp hz | exact hz) | exact rLd rfl (by kernel_rfl) rfl (by first | exact hI.oldp hz | exact hz)) ?_
    refine WL_nil ?_
    refine W_cond true rfl ?_
    have hz3 : w.cell? ⟨L.sb, 3, none⟩ = some (.int .i64 (s.tell : Int)) := by
      have : w.cell? ⟨L.sb, 3, none⟩ = some (.int .i64 (s1.tell : Int)) := hI.fromB.cell 0 rfl rfl
      rw [← hs1] at this; exact this
    by_cases hte : countT cl1 = s.tell
    · rw [if_pos hte]
      refine W_seq ?_
      refine W_seq ?_
      refine W_region ?_
      refine WL_val rfl rfl rfl (by first | exact rMoveI rfl rfl | exact rMove rfl) ?_
      refine WL_val rfl rfl rfl (by first | exact rMoveP rfl rfl | exact rMove rfl) ?_
      refine WL_val rfl rfl rfl (rNilChk rfl rfl) ?_
      refine WL_val rfl rfl rfl (by first | exact rFldN (off := 0) rfl (by kernel_rfl) rfl | exact rFld0 rfl (by kernel_rfl) rfl) ?_
      refine WL_val rfl rfl rfl (by first | exact rFldN (off := 3) rfl (by kernel_rfl) rfl | exact rFld (off := 3) rfl (by kernel_rfl) rfl) ?_
      refine WL_val rfl rfl rfl (by first | exact rLd (v := .int .i64 _) rfl (by kernel_rfl) rfl (by first | exact hI.oldp hz3 | exact hz3) | exact rLd rfl (by kernel_rfl) rfl (by first | exact hI.oldp hz3 | exact hz3)) ?_
      refine WL_val rfl rfl rfl (by first | exact rEqlT rfl rfl rfl (by omega) | exact rEqlF rfl rfl rfl (by omega) | exact rEql rfl rfl rfl) ?_
      refine WL_nil ?_
      refine W_cond true rfl ?_
      refine W_region ?_
      refine WL_val rfl rfl rfl (by first | exact rMoveP rfl rfl | exact rMove rfl) ?_
      refine WL_val rfl rfl rfl (by first | exact rFldN (off := 1) rfl (by kernel_rfl) rfl | exact rFld (off := 1) rfl (by kernel_rfl) rfl) ?_
      refine WL_val rfl rfl rfl (rLd (v := .int .i64 (c : Int)) rfl (by kernel_rfl) rfl (hm1 _ _ hI)) ?_
      refine WL_call rfl rfl rfl (rCall (vs := [.pointer _, .int .i64 _]) rfl Try.func34 rfl rfl rfl) ?_
      refine (done_any L s1 c hc1 (by omega) (by rw [← hs1]; exact hel) (DLs _) _ (hI.fromB (X := [_]))).mono ?_
      rintro en w1 ⟨rfl, EA, ec, SA, sc, hJ⟩
      refine ⟨_, rfl, ?_⟩
      replace hI := hI.callB (X := [_]) hJ
      refine WL_nil ?_
      refine W_ret ?_
      exact ret0 (.inr rfl) rfl ⟨rfl, L.MA, L.mc, EA, ec, SA, sc, L.cw, hI.d0, fun _ _ => rfl, Iff.rfl⟩
    · rw [if_neg hte]
      refine W_seq ?_
      refine W_seq ?_
      refine W_region ?_
      refine WL_val rfl rfl rfl (by first | exact rMoveI rfl rfl | exact rMove rfl) ?_
      refine WL_val rfl rfl rfl (by first | exact rMoveP rfl rfl | exact rMove rfl) ?_
      refine WL_val rfl rfl rfl (rNilChk rfl rfl) ?_
      refine WL_val rfl rfl rfl (by first | exact rFldN (off := 0) rfl (by kernel_rfl) rfl | exact rFld0 rfl (by kernel_rfl) rfl) ?_
      refine WL_val rfl rfl rfl (by first | exact rFldN (off := 3) rfl (by kernel_rfl) rfl | exact rFld (off := 3) rfl (by kernel_rfl) rfl) ?_
      refine WL_val rfl rfl rfl (by first | exact rLd (v := .int .i64 _) rfl (by kernel_rfl) rfl (by first | exact hI.oldp hz3 | exact hz3) | exact rLd rfl (by kernel_rfl) rfl (by first | exact hI.oldp hz3 | exact hz3)) ?_
      refine WL_val rfl rfl rfl (by first | exact rEqlT rfl rfl rfl (by omega) | exact rEqlF rfl rfl rfl (by omega) | exact rEql rfl rfl rfl) ?_
      refine WL_nil ?_
      refine W_cond false rfl ?_
      refine W_skip ?_
      refine W_ret ?_
      exact ret0 (.inr rfl) rfl ⟨rfl, hsame _ _ hI.d0⟩
  | false =>
  rw [if_neg (by decide)]
  have hz : w.cell? ⟨L.cb, 0 + c * 15 + 9, none⟩ = some (.bool false) := by rw [← htl]; exact (hr1 w hI).c9
  refine W_seq ?_
  refine W_seq ?_
  refine W_region ?_
  refine WL_val rfl rfl rfl (by first | exact rMoveP rfl rfl | exact rMove rfl) ?_
  refine WL_val rfl rfl rfl (rNilChk rfl rfl) ?_
  refine WL_val rfl rfl rfl (by first | exact rFldN (off := 9) rfl (by kernel_rfl) rfl | exact rFld (off := 9) rfl (by kernel_rfl) rfl) ?_
  refine WL_val rfl rfl rfl (by first | exact rLd (v := .bool _) rfl (by kernel_rfl) rfl (by first | exact hI.oldp hz | exact hz) | exact rLd rfl (by kernel_rfl) rfl (by first | exact hI.oldp hz | exact hz)) ?_
  refine WL_nil ?_
  refine W_cond false rfl ?_
  refine W_skip ?_
  have hh0 : heardC x j m = if x.best.less m.e then { x with counted := cl1, best := m.e } else { x with counted := cl1 } := by
    unfold heardC
    rw [htl, if_neg (by decide), hcl1]
  obtain ⟨x2, hx2⟩ : ∃ x2, heardC x j m = x2 := ⟨_, rfl⟩
  rw [hx2] at hh0 ⊢
  have hx2c : x2.counted = cl1 := by rw [hh0]; split <;> rfl
  have hx2b : x2.began = x.began := by rw [hh0]; split <;> rfl
  have hx2t : x2.best.t ≤ 1000000 := by rw [hh0]; split; exact hM.2.2; exact hM.2.1
  have hx2r : x2.round = x.round := by rw [hh0]; split <;> rfl
  obtain ⟨s2, hs2⟩ : ∃ s2, setCl s c x2 = s2 := ⟨_, rfl⟩
  rw [hs2]
  have hk2 : s2.k = s.k := by rw [← hs2]; rfl
  have hn2 : s2.n = s.n := by rw [← hs2]; rfl
  have hc2 : c < s2.k := by omega
  have hx2e : s2.cl c = x2 := by rw [← hs2, setCl_self]
  refine W_seq_cut (fun ρ w => Has ρ [(7, .int .i64 ((countT cl1 : Nat) : Int)), (0, .pointer (some ⟨L.sb, 0, none⟩)), (5, .pointer (some ⟨b5, 0, none⟩)), (6, .pointer (some ⟨L.cb, 0 + c * 15, none⟩))] ∧ Inv S w0 w ([B b5 71 (msgL m).toArray] ++ spt L s2)) ?_ ?_
  · refine W_seq_cut (fun ρ w => Has ρ [(83, .bool (decide (x.best.less m.e))), (7, .int .i64 ((countT cl1 : Nat) : Int)), (0, .pointer (some ⟨L.sb, 0, none⟩)), (5, .pointer (some ⟨b5, 0, none⟩)), (6, .pointer (some ⟨L.cb, 0 + c * 15, none⟩))] ∧ Inv S w0 w ([B b5 71 (msgL m).toArray] ++ spt L s1)) ?_ ?_
    · have hbst : ∀ w, Inv S w0 w ([B b5 71 (msgL m).toArray] ++ spt L s1) → ∀ (k : Nat) (v : Value), (stL x.best)[k]? = some v → w.cell? ⟨L.cb, 0 + c * 15 + 12 + k, none⟩ = some v := fun w hI => by
        have := sp_sub (X := [_]) hI hc1 12 (l := stL (s1.cl c).best) [.int .i64 (s1.cl c).best.v] rfl
        rw [hx1] at this
        exact this
      refine W_draw (by kernel_rfl) ?_
      refine WA_inv (T := []) hI.drew ?_
      intro Sx hSx hXS
      replace hI := hI.drew
      refine WT_take 0 rfl rfl (by kernel_rfl) (hXS _ hI) rfl (fun W hW => have hI := hSx W hW; (by first | exact rMoveP rfl rfl | exact rMove rfl)) ?_
      refine WT_take 1 rfl rfl (by kernel_rfl) (hXS _ hI) rfl (fun W hW => have hI := hSx W hW; (rNilChk rfl rfl)) ?_
      refine WT_take 2 rfl rfl (by kernel_rfl) (hXS _ hI) rfl (fun W hW => have hI := hSx W hW; (by first | exact rFldN (off := 12) rfl (by kernel_rfl) rfl | exact rFld (off := 12) rfl (by kernel_rfl) rfl)) ?_
      refine WT_take 3 rfl rfl (by kernel_rfl) (hXS _ hI) rfl (fun W hW => have hI := hSx W hW; (by first | exact rFldN (off := 0) rfl (by kernel_rfl) rfl | exact rFld0 rfl (by kernel_rfl) rfl)) ?_
      refine WT_take 4 rfl rfl (by kernel_rfl) (hXS _ hI) rfl (fun W hW => have hI := hSx W hW; (rLdA (n := 2) (l := stL x.best) rfl (by kernel_rfl) (by kernel_rfl) rfl rfl (hbst _ hI))) ?_
      refine WT_take 5 rfl rfl (by kernel_rfl) (hXS _ hI) rfl (fun W hW => have hI := hSx W hW; (by first | exact rFldN (off := 4) rfl (by kernel_rfl) rfl | exact rFld (off := 4) rfl (by kernel_rfl) rfl)) ?_
      refine WT_take 6 rfl rfl (by kernel_rfl) (hXS _ hI) rfl (fun W hW => have hI := hSx W hW; (by first | exact rFldN (off := 0) rfl (by kernel_rfl) rfl | exact rFld0 rfl (by kernel_rfl) rfl)) ?_
      refine WT_take 7 rfl rfl (by kernel_rfl) (hXS _ hI) rfl (fun W hW => have hI := hSx W hW; (rLdA (n := 2) (l := stL m.e) rfl (by kernel_rfl) (by kernel_rfl) rfl rfl (blk_sub hI.g0 4 [_] rfl))) ?_
      refine WT_one 8 rfl (by kernel_rfl) rfl ?_
      refine WL_call rfl rfl rfl (rCall (vs := [.agg _, .agg _]) rfl Try.func11 rfl rfl rfl) ?_
      refine (less_any x.best m.e _).mono ?_
      rintro en w1 ⟨rfl, hp⟩
      refine ⟨_, rfl, ?_⟩
      replace hI := hI.pure hp
      refine WL_nil ⟨hXS _ hI, ?_⟩
      refine WT_end (by kernel_rfl) ?_
      exact ⟨⟨rfl, rfl, rfl, rfl, rfl, trivial⟩, hI⟩
    clear hI
    rintro ρ w ⟨hH, hI⟩
    obtain ⟨σ, rfl⟩ := hH.open
    by_cases hl : x.best.less m.e
    · rw [decide_eq_true hl]
      rw [if_pos hl] at hh0
      refine W_cond true rfl ?_
      unfold spt at hI
      rw [← clX_start (c := c)] at hI
      refine W_region ?_
      refine WL_val rfl rfl rfl (by first | exact rMoveP rfl rfl | exact rMove rfl) ?_
      refine WL_val rfl rfl rfl (by first | exact rFldN (off := 4) rfl (by kernel_rfl) rfl | exact rFld (off := 4) rfl (by kernel_rfl) rfl) ?_
      refine WL_val rfl rfl rfl (rLdA (n := 3) (l := entL m.e) rfl (by kernel_rfl) (by kernel_rfl) rfl rfl (blk_sub hI.g0 4 [] rfl)) ?_
      refine WL_val rfl rfl rfl (rNilChk rfl rfl) ?_
      refine WL_val rfl rfl rfl (by first | exact rFldN (off := 12) rfl (by kernel_rfl) rfl | exact rFld (off := 12) rfl (by kernel_rfl) rfl) ?_
      refine WL_stA 3 rfl (u := .agg (entL m.e).toArray) (vs := (entL m.e).toArray) (n := 3) (j := 0 + c * 15 + 12) hI rfl rfl rfl rfl rfl rfl (by kernel_rfl) rfl (by have := clX_lt (L := L) (s := s1) (x := s1.cl c) (cv := cntV L s1 c) hc1 (j := 14) (by omega); omega) rfl (clX_sp (x := s1.cl c) (cv := cntV L s1 c) (cv' := cntV L s1 c) (x' := { s1.cl c with best := m.e }) hc1 12 (by simp [entL]) rfl) ?_
      clear hI; intro w hI
      refine WL_nil ?_
      have hfin := cl_back (X := [B b5 71 (msgL m).toArray]) (L := L) (s := s1) (x' := { s1.cl c with best := m.e }) hc1 rfl hI
      have hg : setCl s1 c { s1.cl c with best := m.e } = s2 := by rw [hx1, ← hs1, setCl_twice, ← hs2, hh0]
      rw [hg] at hfin
      exact ⟨⟨rfl, rfl, rfl, rfl, trivial⟩, hfin⟩
    · rw [decide_eq_false hl]
      rw [if_neg hl] at hh0
      refine W_cond false rfl ?_
      refine W_skip ?_
      have hg : s1 = s2 := by rw [← hs1, ← hs2, hh0, hxe]
      rw [hg] at hI
      exact ⟨⟨rfl, rfl, rfl, rfl, trivial⟩, hI⟩
  clear hI hr1 hrb
  rintro ρ w ⟨hH, hI⟩
  obtain ⟨σ, rfl⟩ := hH.open
  have hz2 : w.cell? ⟨L.sb, 2, none⟩ = some (.int .i64 (s.ask : Int)) := by
    have : w.cell? ⟨L.sb, 2, none⟩ = some (.int .i64 (s2.ask : Int)) := hI.fromB.cell 0 rfl rfl
    rw [← hs2] at this; exact this
  by_cases hask : countT cl1 < s.ask
  · rw [if_pos hask]
    refine W_seq ?_
    refine W_seq ?_
    refine W_region ?_
    refine WL_val rfl rfl rfl (by first | exact rMoveI rfl rfl | exact rMove rfl) ?_
    refine WL_val rfl rfl rfl (by first | exact rMoveP rfl rfl | exact rMove rfl) ?_
    refine WL_val rfl rfl rfl (rNilChk rfl rfl) ?_
    refine WL_val rfl rfl rfl (by first | exact rFldN (off := 0) rfl (by kernel_rfl) rfl | exact rFld0 rfl (by kernel_rfl) rfl) ?_
    refine WL_val rfl rfl rfl (by first | exact rFldN (off := 2) rfl (by kernel_rfl) rfl | exact rFld (off := 2) rfl (by kernel_rfl) rfl) ?_
    refine WL_val rfl rfl rfl (by first | exact rLd (v := .int .i64 _) rfl (by kernel_rfl) rfl (by first | exact hI.oldp hz2 | exact hz2) | exact rLd rfl (by kernel_rfl) rfl (by first | exact hI.oldp hz2 | exact hz2)) ?_
    refine WL_val rfl rfl rfl (by first | exact rLssT rfl rfl rfl (by omega) | exact rLssF rfl rfl rfl (by omega) | exact rLss rfl rfl rfl) ?_
    refine WL_nil ?_
    refine W_cond true rfl ?_
    refine W_ret ?_
    exact ret0 (.inr rfl) rfl ⟨rfl, hsame _ _ hI.d0⟩
  rw [if_neg hask]
  refine W_seq ?_
  refine W_seq ?_
  refine W_region ?_
  refine WL_val rfl rfl rfl (by first | exact rMoveI rfl rfl | exact rMove rfl) ?_
  refine WL_val rfl rfl rfl (by first | exact rMoveP rfl rfl | exact rMove rfl) ?_
  refine WL_val rfl rfl rfl (rNilChk rfl rfl) ?_
  refine WL_val rfl rfl rfl (by first | exact rFldN (off := 0) rfl (by kernel_rfl) rfl | exact rFld0 rfl (by kernel_rfl) rfl) ?_
  refine WL_val rfl rfl rfl (by first | exact rFldN (off := 2) rfl (by kernel_rfl) rfl | exact rFld (off := 2) rfl (by kernel_rfl) rfl) ?_
  refine WL_val rfl rfl rfl (by first | exact rLd (v := .int .i64 _) rfl (by kernel_rfl) rfl (by first | exact hI.oldp hz2 | exact hz2) | exact rLd rfl (by kernel_rfl) rfl (by first | exact hI.oldp hz2 | exact hz2)) ?_
  refine WL_val rfl rfl rfl (by first | exact rLssT rfl rfl rfl (by omega) | exact rLssF rfl rfl rfl (by omega) | exact rLss rfl rfl rfl) ?_
  refine WL_nil ?_
  refine W_cond false rfl ?_
  refine W_skip ?_
  obtain ⟨x3, hx3⟩ : ∃ x3, newC x2 c = x3 := ⟨_, rfl⟩
  have hx3d : x3 = if x.began.kind = 2 then { x2 with best := ⟨x2.best.t + 1, c, x.began.a⟩ } else x2 := by rw [← hx3]; unfold newC; rw [hx2b]
  rw [hx3]
  obtain ⟨s3, hs3⟩ : ∃ s3, setCl s c x3 = s3 := ⟨_, rfl⟩
  rw [hs3]
  have hx3r : x3.round = x.round := by rw [hx3d]; split <;> exact hx2r
  have hx3b : x3.began = x.began := by rw [hx3d]; split <;> exact hx2b
  have hk3 : s3.k = s.k := by rw [← hs3]; rfl
  have hn3 : s3.n = s.n := by rw [← hs3]; rfl
  have hc3 : c < s3.k := by omega
  have hx3e : s3.cl c = x3 := by rw [← hs3, setCl_self]
  have hz5 : w.cell? ⟨L.cb, 0 + c * 15 + 5, none⟩ = some (.int .i64 x.began.kind) := by
    have := (sp_cl (X := [_]) hI hc2).c5
    rw [hx2e, hx2b] at this; exact this
  have hkb : ∀ (bw : Bool), bw = decide (x.began.kind = 2) → True := fun _ _ => trivial
  refine W_seq_cut (fun ρ w => Has ρ [(10, .bool (decide (x.began.kind = 2))), (0, .pointer (some ⟨L.sb, 0, none⟩)), (5, .pointer (some ⟨b5, 0, none⟩)), (6, .pointer (some ⟨L.cb, 0 + c * 15, none⟩))] ∧ Inv S w0 w ([B b5 71 (msgL m).toArray] ++ spt L s2)) ?_ ?_
  · by_cases hkd : x.began.kind = 2
    · refine W_region ?_
      refine WL_val rfl rfl rfl (by first | exact rMoveP rfl rfl | exact rMove rfl) ?_
      refine WL_val rfl rfl rfl (rNilChk rfl rfl) ?_
      refine WL_val rfl rfl rfl (by first | exact rFldN (off := 2) rfl (by kernel_rfl) rfl | exact rFld (off := 2) rfl (by kernel_rfl) rfl) ?_
      refine WL_val rfl rfl rfl (by first | exact rFldN (off := 3) rfl (by kernel_rfl) rfl | exact rFld (off := 3) rfl (by kernel_rfl) rfl) ?_
      refine WL_val rfl rfl rfl (by first | exact rLd (v := .int .i64 _) rfl (by kernel_rfl) rfl (by first | exact hI.oldp hz5 | exact hz5) | exact rLd rfl (by kernel_rfl) rfl (by first | exact hI.oldp hz5 | exact hz5)) ?_
      refine WL_val rfl rfl rfl (by first | exact rEqlT rfl rfl rfl (by omega) | exact rEqlF rfl rfl rfl (by omega) | exact rEql rfl rfl rfl) ?_
      refine WL_val rfl rfl rfl (by first | exact rAsgnB rfl rfl | exact rAsgn rfl) ?_
      refine WL_nil ?_
      rw [decide_eq_true hkd]
      exact ⟨⟨rfl, rfl, rfl, rfl, trivial⟩, hI⟩
    · refine W_region ?_
      refine WL_val rfl rfl rfl (by first | exact rMoveP rfl rfl | exact rMove rfl) ?_
      refine WL_val rfl rfl rfl (rNilChk rfl rfl) ?_
      refine WL_val rfl rfl rfl (by first | exact rFldN (off := 2) rfl (by kernel_rfl) rfl | exact rFld (off := 2) rfl (by kernel_rfl) rfl) ?_
      refine WL_val rfl rfl rfl (by first | exact rFldN (off := 3) rfl (by kernel_rfl) rfl | exact rFld (off := 3) rfl (by kernel_rfl) rfl) ?_
      refine WL_val rfl rfl rfl (by first | exact rLd (v := .int .i64 _) rfl (by kernel_rfl) rfl (by first | exact hI.oldp hz5 | exact hz5) | exact rLd rfl (by kernel_rfl) rfl (by first | exact hI.oldp hz5 | exact hz5)) ?_
      refine WL_val rfl rfl rfl (by first | exact rEqlT rfl rfl rfl (by omega) | exact rEqlF rfl rfl rfl (by omega) | exact rEql rfl rfl rfl) ?_
      refine WL_val rfl rfl rfl (by first | exact rAsgnB rfl rfl | exact rAsgn rfl) ?_
      refine WL_nil ?_
      rw [decide_eq_false hkd]
      exact ⟨⟨rfl, rfl, rfl, rfl, trivial⟩, hI⟩
  clear hI hz2 hz5
  rintro ρ w ⟨hH, hI⟩
  obtain ⟨σ, rfl⟩ := hH.open
  refine W_seq_cut (fun ρ w => Has ρ [(10, .bool (decide (x.began.kind = 2))), (0, .pointer (some ⟨L.sb, 0, none⟩)), (5, .pointer (some ⟨b5, 0, none⟩)), (6, .pointer (some ⟨L.cb, 0 + c * 15, none⟩))] ∧ Inv S w0 w ([B b5 71 (msgL m).toArray] ++ spt L s3)) ?_ ?_
  · by_cases hkd : x.began.kind = 2
    · rw [if_pos hkd] at hx3d
      rw [decide_eq_true hkd]
      refine W_seq ?_
      refine W_region ?_
      refine WL_val rfl rfl rfl (by first | exact rMoveB rfl rfl | exact rMove rfl) ?_
      refine WL_nil ?_
      refine W_cond true rfl ?_
      have hat : ∀ w, Inv S w0 w ([B b5 71 (msgL m).toArray] ++ spt L s2) → w.cell? ⟨L.cb, 0 + c * 15 + 12, none⟩ = some (.int .i64 ((x2.best.t : Nat) : Int)) ∧ w.cell? ⟨L.cb, 0 + c * 15 + 6, none⟩ = some (.int .i64 x.began.a) := fun w hI => by
        have h := sp_cl (X := [_]) hI hc2
        have h12 := h.c12
        have h6 := h.c6
        rw [hx2e] at h12 h6
        rw [hx2b] at h6
        exact ⟨h12, h6⟩
      refine W_draw (by kernel_rfl) ?_
      refine WA_inv (T := [19]) hI.drew ?_
      intro Sx hSx hXS
      replace hI := hI.drew
      refine WT_take 0 rfl rfl (by kernel_rfl) (hXS _ hI) rfl (fun W hW => have hI := hSx W hW; (by first | exact rMoveP rfl rfl | exact rMove rfl)) ?_
      refine WT_take 1 rfl rfl (by kernel_rfl) (hXS _ hI) rfl (fun W hW => have hI := hSx W hW; (by first | exact rMoveP rfl rfl | exact rMove rfl)) ?_
      refine WT_take 2 rfl rfl (by kernel_rfl) (hXS _ hI) rfl (fun W hW => have hI := hSx W hW; (rNilChk rfl rfl)) ?_
      refine WT_take 3 rfl rfl (by kernel_rfl) (hXS _ hI) rfl (fun W hW => have hI := hSx W hW; (by first | exact rFldN (off := 12) rfl (by kernel_rfl) rfl | exact rFld (off := 12) rfl (by kernel_rfl) rfl)) ?_
      refine WT_take 4 rfl rfl (by kernel_rfl) (hXS _ hI) rfl (fun W hW => have hI := hSx W hW; (by first | exact rFldN (off := 0) rfl (by kernel_rfl) rfl | exact rFld0 rfl (by kernel_rfl) rfl)) ?_
      refine WT_take 5 rfl rfl (by kernel_rfl) (hXS _ hI) rfl (fun W hW => have hI := hSx W hW; (by first | exact rFldN (off := 0) rfl (by kernel_rfl) rfl | exact rFld0 rfl (by kernel_rfl) rfl)) ?_
      refine WT_take 6 rfl rfl (by kernel_rfl) (hXS _ hI) rfl (fun W hW => have hI := hSx W hW; (rLd (v := .int .i64 ((x2.best.t : Nat) : Int)) rfl (by kernel_rfl) rfl (hat _ hI).1)) ?_
      refine WT_take 7 rfl rfl (by kernel_rfl) (hXS _ hI) rfl (fun W hW => have hI := hSx W hW; (by first | exact rInc rfl rfl rfl (by omega) | exact rAdd rfl rfl rfl (by omega) | exact rAddW rfl rfl rfl)) ?_
      refine WT_take 8 rfl rfl (by kernel_rfl) (hXS _ hI) rfl (fun W hW => have hI := hSx W hW; (by first | exact rFldN (off := 1) rfl (by kernel_rfl) rfl | exact rFld (off := 1) rfl (by kernel_rfl) rfl)) ?_
      refine WT_take 9 rfl rfl (by kernel_rfl) (hXS _ hI) rfl (fun W hW => have hI := hSx W hW; (rLd (v := .int .i64 (c : Int)) rfl (by kernel_rfl) rfl (hm1 _ _ hI))) ?_
      refine WT_take 10 rfl rfl (by kernel_rfl) (hXS _ hI) rfl (fun W hW => have hI := hSx W hW; (rBuild (qs := [(0, .int .i64 _), (1, .int .i64 _)]) (vs := [_, _]) [.int .i64 0, .int .i64 0] [0, 1] rfl rfl rfl (fun _ => by kernel_rfl))) ?_
      refine WT_take 11 rfl rfl (by kernel_rfl) (hXS _ hI) rfl (fun W hW => have hI := hSx W hW; (by first | exact rMoveP rfl rfl | exact rMove rfl)) ?_
      refine WT_take 12 rfl rfl (by kernel_rfl) (hXS _ hI) rfl (fun W hW => have hI := hSx W hW; (rNilChk rfl rfl)) ?_
      refine WT_take 13 rfl rfl (by kernel_rfl) (hXS _ hI) rfl (fun W hW => have hI := hSx W hW; (by first | exact rFldN (off := 2) rfl (by kernel_rfl) rfl | exact rFld (off := 2) rfl (by kernel_rfl) rfl)) ?_
      refine WT_take 14 rfl rfl (by kernel_rfl) (hXS _ hI) rfl (fun W hW => have hI := hSx W hW; (by first | exact rFldN (off := 4) rfl (by kernel_rfl) rfl | exact rFld (off := 4) rfl (by kernel_rfl) rfl)) ?_
      refine WT_take 15 rfl rfl (by kernel_rfl) (hXS _ hI) rfl (fun W hW => have hI := hSx W hW; (rLd (v := .int .i64 x.began.a) rfl (by kernel_rfl) rfl (hat _ hI).2)) ?_
      refine WT_take 16 rfl rfl (by kernel_rfl) (hXS _ hI) rfl (fun W hW => have hI := hSx W hW; (rBuild (qs := [(0, .agg #[.int .i64 ((x2.best.t + 1 : Nat) : Int), .int .i64 (c : Int)]), (1, .int .i64 x.began.a)]) (vs := entL ⟨x2.best.t + 1, c, x.began.a⟩) [.int .i64 0, .int .i64 0, .int .i64 0] [0, 2] rfl rfl rfl (fun _ => by kernel_rfl))) ?_
      refine WT_take 17 rfl rfl (by kernel_rfl) (hXS _ hI) rfl (fun W hW => have hI := hSx W hW; (rNilChk rfl rfl)) ?_
      refine WT_take 18 rfl rfl (by kernel_rfl) (hXS _ hI) rfl (fun W hW => have hI := hSx W hW; (by first | exact rFldN (off := 12) rfl (by kernel_rfl) rfl | exact rFld (off := 12) rfl (by kernel_rfl) rfl)) ?_
      refine WT_A (by kernel_rfl) ?_
      clear hXS hSx
      refine WA_one 19 rfl (by kernel_rfl) ?_
      unfold spt at hI
      rw [← clX_start (c := c)] at hI
      refine WL_stA 3 rfl (u := .agg (entL ⟨x2.best.t + 1, c, x.began.a⟩).toArray) (vs := (entL ⟨x2.best.t + 1, c, x.began.a⟩).toArray) (n := 3) (j := 0 + c * 15 + 12) hI rfl rfl rfl rfl rfl rfl (by kernel_rfl) rfl (by have := clX_lt (L := L) (s := s2) (x := s2.cl c) (cv := cntV L s2 c) hc2 (j := 14) (by omega); omega) rfl (clX_sp (x := s2.cl c) (cv := cntV L s2 c) (cv' := cntV L s2 c) (x' := { s2.cl c with best := ⟨x2.best.t + 1, c, x.began.a⟩ }) hc2 12 (by simp [entL]) rfl) ?_
      clear hI; intro w hI
      refine WL_nil ?_
      refine WA_end (by kernel_rfl) ?_
      have hfin := cl_back (X := [B b5 71 (msgL m).toArray]) (L := L) (s := s2) (x' := { s2.cl c with best := ⟨x2.best.t + 1, c, x.began.a⟩ }) hc2 rfl hI
      have hg : setCl s2 c { s2.cl c with best := ⟨x2.best.t + 1, c, x.began.a⟩ } = s3 := by rw [hx2e, ← hs2, setCl_twice, ← hs3, hx3d]
      rw [hg] at hfin
      exact ⟨⟨rfl, rfl, rfl, rfl, trivial⟩, hfin⟩
    · rw [if_neg hkd] at hx3d
      rw [decide_eq_false hkd]
      refine W_seq ?_
      refine W_region ?_
      refine WL_val rfl rfl rfl (by first | exact rMoveB rfl rfl | exact rMove rfl) ?_
      refine WL_nil ?_
      refine W_cond false rfl ?_
      refine W_skip ?_
      have hg : s2 = s3 := by rw [← hs2, ← hs3, hx3d]
      rw [hg] at hI
      exact ⟨⟨rfl, rfl, rfl, rfl, trivial⟩, hI⟩
  clear hI
  rintro ρ w ⟨hH, hI⟩
  obtain ⟨σ, rfl⟩ := hH.open
  have hz4 : w.cell? ⟨L.sb, 4, none⟩ = some (.bool s.back) := by
    have : w.cell? ⟨L.sb, 4, none⟩ = some (.bool s3.back) := hI.fromB.cell 0 rfl rfl
    rw [← hs3] at this; exact this
  have hbe : ∀ w, Inv S w0 w ([B b5 71 (msgL m).toArray] ++ spt L s3) → ∀ (k : Nat) (v : Value), (entL x3.best)[k]? = some v → w.cell? ⟨L.cb, 0 + c * 15 + 12 + k, none⟩ = some v := fun w hI => by
    have := sp_sub (X := [_]) hI hc3 12 (l := entL (s3.cl c).best) [] rfl
    rw [hx3e] at this
    exact this
  by_cases hor : x.began.kind = 2 ∨ s.back = true
  · rw [if_pos hor]
    refine W_seq_cut (fun ρ w => Has ρ [(129, .bool true), (0, .pointer (some ⟨L.sb, 0, none⟩)), (5, .pointer (some ⟨b5, 0, none⟩)), (6, .pointer (some ⟨L.cb, 0 + c * 15, none⟩))] ∧ Inv S w0 w ([B b5 71 (msgL m).toArray] ++ spt L s3)) ?_ ?_
    · by_cases hkd : x.began.kind = 2
      · rw [decide_eq_true hkd]
        refine W_region ?_
        refine WL_val rfl rfl rfl (by first | exact rMoveB rfl rfl | exact rMove rfl) ?_
        refine WL_val rfl rfl rfl (by first | exact rMoveB rfl rfl | exact rMove rfl) ?_
        refine WL_skip rfl rfl rfl ?_
        refine WL_skip rfl rfl rfl ?_
        refine WL_skip rfl rfl rfl ?_
        refine WL_skip rfl rfl rfl ?_
        refine WL_skip rfl rfl rfl ?_
        refine WL_val rfl rfl rfl (by first | exact rPickTB rfl rfl rfl | exact rPickFB rfl rfl rfl | exact rPickB rfl rfl rfl rfl) ?_
        refine WL_nil ?_
        exact ⟨⟨rfl, rfl, rfl, rfl, trivial⟩, hI⟩
      · rw [decide_eq_false hkd]
        rw [hor.resolve_left hkd] at hz4
        refine W_region ?_
        refine WL_val rfl rfl rfl (by first | exact rMoveB rfl rfl | exact rMove rfl) ?_
        refine WL_val rfl rfl rfl (by first | exact rMoveB rfl rfl | exact rMove rfl) ?_
        first | refine WL_val rfl rfl rfl (by first | exact rMoveP rfl rfl | exact rMove rfl) ?_ | refine WL_skip rfl rfl rfl ?_
        first | refine WL_val rfl rfl rfl (rNilChk rfl rfl) ?_ | refine WL_skip rfl rfl rfl ?_
        first | refine WL_val rfl rfl rfl (by first | exact rFldN (off := 0) rfl (by kernel_rfl) rfl | exact rFld0 rfl (by kernel_rfl) rfl) ?_ | refine WL_skip rfl rfl rfl ?_
        first | refine WL_val rfl rfl rfl (by first | exact rFldN (off := 4) rfl (by kernel_rfl) rfl | exact rFld (off := 4) rfl (by kernel_rfl) rfl) ?_ | refine WL_skip rfl rfl rfl ?_
        first | refine WL_val rfl rfl rfl (by first | exact rLd (v := .bool _) rfl (by kernel_rfl) rfl (by first | exact hI.oldp hz4 | exact hz4) | exact rLd rfl (by kernel_rfl) rfl (by first | exact hI.oldp hz4 | exact hz4)) ?_ | refine WL_skip rfl rfl rfl ?_
        refine WL_val rfl rfl rfl (by first | exact rPickTB rfl rfl rfl | exact rPickFB rfl rfl rfl | exact rPickB rfl rfl rfl rfl) ?_
        refine WL_nil ?_
        exact ⟨⟨rfl, rfl, rfl, rfl, trivial⟩, hI⟩
    clear hI
    rintro ρ w ⟨hH, hI⟩
    obtain ⟨σ, rfl⟩ := hH.open
    refine W_cond true rfl ?_
    refine W_draw (by kernel_rfl) ?_
    refine WA_inv (T := [7]) hI.drew ?_
    intro Sx hSx hXS
    replace hI := hI.drew
    refine WT_take 0 rfl rfl (by kernel_rfl) (hXS _ hI) rfl (fun W hW => have hI := hSx W hW; (by first | exact rMoveP rfl rfl | exact rMove rfl)) ?_
    refine WT_take 1 rfl rfl (by kernel_rfl) (hXS _ hI) rfl (fun W hW => have hI := hSx W hW; (by first | exact rFldN (off := 1) rfl (by kernel_rfl) rfl | exact rFld (off := 1) rfl (by kernel_rfl) rfl)) ?_
    refine WT_take 2 rfl rfl (by kernel_rfl) (hXS _ hI) rfl (fun W hW => have hI := hSx W hW; (rLd (v := .int .i64 (c : Int)) rfl (by kernel_rfl) rfl (hm1 _ _ hI))) ?_
    refine WT_take 3 rfl rfl (by kernel_rfl) (hXS _ hI) rfl (fun W hW => have hI := hSx W hW; (by first | exact rMoveP rfl rfl | exact rMove rfl)) ?_
    refine WT_take 4 rfl rfl (by kernel_rfl) (hXS _ hI) rfl (fun W hW => have hI := hSx W hW; (rNilChk rfl rfl)) ?_
    refine WT_take 5 rfl rfl (by kernel_rfl) (hXS _ hI) rfl (fun W hW => have hI := hSx W hW; (by first | exact rFldN (off := 12) rfl (by kernel_rfl) rfl | exact rFld (off := 12) rfl (by kernel_rfl) rfl)) ?_
    refine WT_take 6 rfl rfl (by kernel_rfl) (hXS _ hI) rfl (fun W hW => have hI := hSx W hW; (rLdA (n := 3) (l := entL x3.best) rfl (by kernel_rfl) (by kernel_rfl) rfl rfl (hbe _ hI))) ?_
    refine WT_A (by kernel_rfl) ?_
    clear hXS hSx
    refine WA_one 7 rfl (by kernel_rfl) ?_
    refine WL_call rfl rfl rfl (rCall (vs := [.pointer _, .int .i64 _, .int .i64 _, .agg _]) rfl Try.func20 rfl rfl rfl) ?_
    refine (ssend_any L s3 c 2 x3.best hc3 (by omega) (by omega) (by rw [hx3e, hx3r]; exact hM.1) (by rw [hx3e, hx3b]; exact hkey) (DLs _) _ (hI.fromB (X := [_]))).mono ?_
    rintro en w1 ⟨rfl, b', MA, mc, hJ⟩
    refine ⟨_, rfl, ?_⟩
    replace hI := hI.callB (X := [_]) hJ
    refine WL_nil ?_
    refine WA_end (by kernel_rfl) ?_
    refine ret0 (.inl rfl) rfl ⟨rfl, MA, mc, L.EA, L.ec, L.SA, L.sc, _, hI.d0, fun i hi => if_neg hi, ⟨fun h => (by rw [if_pos rfl] at h; cases h), fun h => (by rw [hbw] at h; cases h)⟩⟩
  · rw [if_neg hor]
    have hkd : x.began.kind ≠ 2 := fun h => hor (.inl h)
    have hbf : s.back = false := by cases h : s.back; rfl; exact absurd (.inr h) hor
    refine W_seq_cut (fun ρ w => Has ρ [(129, .bool false), (0, .pointer (some ⟨L.sb, 0, none⟩)), (5, .pointer (some ⟨b5, 0, none⟩)), (6, .pointer (some ⟨L.cb, 0 + c * 15, none⟩))] ∧ Inv S w0 w ([B b5 71 (msgL m).toArray] ++ spt L s3)) ?_ ?_
    · rw [decide_eq_false hkd]
      rw [hbf] at hz4
      refine W_region ?_
      refine WL_val rfl rfl rfl (by first | exact rMoveB rfl rfl | exact rMove rfl) ?_
      refine WL_val rfl rfl rfl (by first | exact rMoveB rfl rfl | exact rMove rfl) ?_
      first | refine WL_val rfl rfl rfl (by first | exact rMoveP rfl rfl | exact rMove rfl) ?_ | refine WL_skip rfl rfl rfl ?_
      first | refine WL_val rfl rfl rfl (rNilChk rfl rfl) ?_ | refine WL_skip rfl rfl rfl ?_
      first | refine WL_val rfl rfl rfl (by first | exact rFldN (off := 0) rfl (by kernel_rfl) rfl | exact rFld0 rfl (by kernel_rfl) rfl) ?_ | refine WL_skip rfl rfl rfl ?_
      first | refine WL_val rfl rfl rfl (by first | exact rFldN (off := 4) rfl (by kernel_rfl) rfl | exact rFld (off := 4) rfl (by kernel_rfl) rfl) ?_ | refine WL_skip rfl rfl rfl ?_
      first | refine WL_val rfl rfl rfl (by first | exact rLd (v := .bool _) rfl (by kernel_rfl) rfl (by first | exact hI.oldp hz4 | exact hz4) | exact rLd rfl (by kernel_rfl) rfl (by first | exact hI.oldp hz4 | exact hz4)) ?_ | refine WL_skip rfl rfl rfl ?_
      refine WL_val rfl rfl rfl (by first | exact rPickTB rfl rfl rfl | exact rPickFB rfl rfl rfl | exact rPickB rfl rfl rfl rfl) ?_
      refine WL_nil ?_
      exact ⟨⟨rfl, rfl, rfl, rfl, trivial⟩, hI⟩
    clear hI
    rintro ρ w ⟨hH, hI⟩
    obtain ⟨σ, rfl⟩ := hH.open
    refine W_cond false rfl ?_
    refine W_region ?_
    refine WL_val rfl rfl rfl (by first | exact rMoveP rfl rfl | exact rMove rfl) ?_
    refine WL_val rfl rfl rfl (by first | exact rFldN (off := 1) rfl (by kernel_rfl) rfl | exact rFld (off := 1) rfl (by kernel_rfl) rfl) ?_
    refine WL_val rfl rfl rfl (rLd (v := .int .i64 (c : Int)) rfl (by kernel_rfl) rfl (hm1 _ _ hI)) ?_
    refine WL_call rfl rfl rfl (rCall (vs := [.pointer _, .int .i64 _]) rfl Try.func34 rfl rfl rfl) ?_
    refine (done_any L s3 c hc3 (by omega) (by rw [← hs3]; exact hel) (DLs _) _ (hI.fromB (X := [_]))).mono ?_
    rintro en w1 ⟨rfl, EA, ec, SA, sc, hJ⟩
    refine ⟨_, rfl, ?_⟩
    replace hI := hI.callB (X := [_]) hJ
    refine WL_nil ?_
    exact ret0 (.inl rfl) rfl ⟨rfl, L.MA, L.mc, EA, ec, SA, sc, L.cw, hI.d0, fun _ _ => rfl, Iff.rfl⟩
end Go.Proofs.Ytglioflpblpmpaa
