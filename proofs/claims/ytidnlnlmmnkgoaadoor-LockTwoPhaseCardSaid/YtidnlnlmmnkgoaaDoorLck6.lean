/- lock: a transaction waits. -/
import Derived.Test.YtidnlnlmmnkgoaaDoorLck5
namespace Go.Proofs.YtidnlnlmmnkgoaaDoor
open Go.RowKit
set_option linter.unusedVariables false
set_option linter.unusedSimpArgs false
theorem reachN_mem {P : Nat → Prop} {w : Nat → List Nat} (hw : ∀ x, P x → ∀ y ∈ w x, P y) : ∀ (n : Nat) (out l : List Nat), (∀ y ∈ out, P y) → (∀ y ∈ l, P y) → ∀ y ∈ reachN n w out l, P y
  | 0, out, l, ho, _ => ho
  | n + 1, out, [], ho, _ => ho
  | n + 1, out, x :: l, ho, hl => by
    rw [reachN]
    split
    · exact reachN_mem hw n out l ho (fun y hy => hl y (by simp [hy]))
    · refine reachN_mem hw n _ _ (fun y hy => ?_) (fun y hy => ?_)
      · rcases List.mem_append.1 hy with hy | hy
        · exact ho y hy
        · rw [List.mem_singleton.1 hy]; exact hl x (by simp)
      · rcases List.mem_append.1 hy with hy | hy
        · exact hl y (by simp [hy])
        · exact hw x (hl x (by simp)) y hy
theorem reachF_lt {wait : Nat → Option (List Nat)} {n : Nat} (h : ∀ x l, wait x = some l → ∀ y ∈ l, y < n) (x : Nat) : ∀ y ∈ reachF wait x, y < n := by
  have hw : ∀ x, ∀ y ∈ wl wait x, y < n := fun x y hy => by
    unfold wl at hy
    cases hx : wait x with
    | none => rw [hx] at hy; cases hy
    | some l => rw [hx] at hy; exact h x l hx y hy
  exact reachN_mem (P := fun y => y < n) (fun x _ y hy => hw x y hy) 200 [] _ (fun y hy => by cases hy) (hw x)
theorem reachN_nodup {w : Nat → List Nat} : ∀ (n : Nat) (out l : List Nat), out.Nodup → (reachN n w out l).Nodup
  | 0, out, l, h => h
  | n + 1, out, [], h => h
  | n + 1, out, x :: l, h => by
    rw [reachN]
    split
    · exact reachN_nodup n out l h
    · rename_i hx
      exact reachN_nodup n _ _ (List.nodup_append.2 ⟨h, by simp, fun y hy z hz => by rw [List.mem_singleton.1 hz]; exact fun e => hx (e ▸ hy)⟩)
theorem reachF_len {wait : Nat → Option (List Nat)} {n : Nat} (h : ∀ x l, wait x = some l → ∀ y ∈ l, y < n) (x : Nat) : (reachF wait x).length ≤ n := by
  have := nodupL (reachF wait x) (List.range n) (reachN_nodup 200 _ _ .nil) (fun y hy => List.mem_range.2 (reachF_lt h x y hy))
  simpa using this
def viTo (wait : Nat → Option (List Nat)) (tx : Nat) (l : List Nat) (k : Nat) : Int := ((l.take k).filter fun v => decide (tx ∈ reachF wait v)).foldl (fun m (v : Nat) => max m (v : Int)) (-1)
theorem viTo_succ (wait : Nat → Option (List Nat)) (tx : Nat) (l : List Nat) {k v : Nat} (h : l[k]? = some v) : viTo wait tx l (k + 1) = if tx ∈ reachF wait v then max (viTo wait tx l k) (v : Int) else viTo wait tx l k := by
  unfold viTo
  rw [List.take_add_one, h, List.filter_append]
  by_cases hx : tx ∈ reachF wait v
  · simp [hx]
  · simp [hx]
theorem viTo_lt {wait : Nat → Option (List Nat)} {tx n : Nat} {l : List Nat} (h : ∀ y ∈ l, y < n) : ∀ k, k ≤ l.length → viTo wait tx l k < n ∧ -1 ≤ viTo wait tx l k
  | 0, _ => ⟨by show (-1 : Int) < n; omega, by show (-1 : Int) ≤ -1; omega⟩
  | k + 1, hk => by
    have ih := viTo_lt (wait := wait) (tx := tx) h k (by omega)
    have hg : l[k]? = some l[k] := List.getElem?_eq_getElem (by omega)
    rw [viTo_succ wait tx l hg]
    have := h l[k] (List.getElem_mem _)
    split <;> omega
theorem viTo_ge {wait : Nat → Option (List Nat)} {tx v : Nat} {l : List Nat} (hv : v ∈ l) (hx : tx ∈ reachF wait v) : (v : Int) ≤ viTo wait tx l l.length := by
  obtain ⟨i, hi⟩ := List.getElem?_of_mem hv
  have hlt := (List.getElem?_eq_some_iff.1 hi).1
  have key : ∀ k, i < k → k ≤ l.length → (v : Int) ≤ viTo wait tx l k := fun k => by
    induction k with
    | zero => intro h; omega
    | succ k ih =>
      intro h1 h2
      have hg : l[k]? = some l[k] := List.getElem?_eq_getElem (by omega)
      rw [viTo_succ wait tx l hg]
      by_cases hik : i = k
      · subst hik
        rw [hi] at hg
        injection hg with hg
        rw [← hg, if_pos hx]
        omega
      · have := ih (by omega) (by omega)
        split <;> omega
  exact key _ hlt (Nat.le_refl _)
def waitS (s : Rn) (tx : Nat) (others : List Nat) : Rn := { s with wait := fun x => if x = tx then some others else s.wait x, waits := s.waits.set tx (s.waits.getD tx 0 + 1) }
def vicF (s : Rn) (tx : Nat) : Nat := (viTo s.wait tx (reachF s.wait tx) (reachF s.wait tx).length).toNat
def waitR (s0 : Rn) (tx : Nat) (others : List Nat) : Rn :=
  let s := waitS s0 tx others
  if tx ∈ reachF s.wait tx then endR { s with vict := s.vict ++ [vicF s tx] } (vicF s tx) 4 else s
theorem rpt_wait {S : Nat → Prop} {w0 w : World} {H : List Ent} {L : RnL} {s : Rn} (hI : Inv S w0 w (rpt L s ++ H)) (h8 : L.n ≤ 8) (hw : ∀ x l, s.wait x = some l → x < 8 ∧ l.length ≤ 8 ∧ ∀ y ∈ l, y < L.n) : WaitAt w L.b L.wm s.wait L.WA L.WC where
  cell := hI.c0 rfl
  map := (hI.ok _ (List.mem_of_getElem? (i := 2) rfl)).1
  rows := fun x l hl => by
    have h1 := (hI.ok _ (List.mem_of_getElem? (i := 3) rfl)).1.1 x (hw x l hl).1
    unfold waitE at h1
    rw [hl] at h1
    exact ints_true h1.1 rfl
  len := fun x l hl => ⟨(hw x l hl).2.1, fun y hy => by have := (hw x l hl).2.2 y hy; omega⟩
theorem wg_set (wait : Nat → Option (List Nat)) (WA : Nat → Option Addr) (WC : Nat → Nat) (tx : Nat) (l : List Nat) (A : Option Addr) (c : Nat) : (fun j => if j = (tx : Int) then some (.slice A l.length c) else wg wait WA WC j) = wg (fun x => if x = tx then some l else wait x) (fun x => if x = tx then A else WA x) (fun x => if x = tx then c else WC x) := by
  funext a
  unfold wg
  by_cases ha : a = (tx : Int)
  · subst ha; simp
  · rw [if_neg ha]
    by_cases h0 : 0 ≤ a
    · have : ¬ a.toNat = tx := by omega
      simp [this]
    · simp [h0]
theorem Inv.wset {S : Nat → Prop} {w0 w : World} {H : List Ent} {wait : Nat → Option (List Nat)} {WA : Nat → Option Addr} {WC : Nat → Nat} {tx c : Nat} {l : List Nat} {A : Option Addr} (h : Inv S w0 w (Many 8 (waitE wait WA WC) :: Row 0 3 1 A l.length c (natV l) :: H)) (ht : tx < 8) :
    Inv S w0 w (Many 8 (waitE (fun x => if x = tx then some l else wait x) (fun x => if x = tx then A else WA x) (fun x => if x = tx then c else WC x)) :: H) := by
  have h1 := (h.many_out ht).d0.sw0
  refine (h1.many_in ht (if_pos rfl)).many_congr fun i hi => ?_
  by_cases hit : i = tx
  · rw [if_pos hit]; unfold waitE; dsimp only; rw [if_pos hit, if_pos hit, if_pos hit]
  · rw [if_neg hit, if_neg hit]; unfold waitE; dsimp only; rw [if_neg hit, if_neg hit, if_neg hit]
set_option maxHeartbeats 4000000 in
theorem wait_any (L : RnL) (s : Rn) (tx : Nat) (others : List Nat) (OA : Option Addr) (oc : Nat) (S : Nat → Prop) (w0 : World) (hI : Inv S w0 w0 (Row 0 3 1 OA others.length oc (natV others) :: rpt L s)) (m : Nat) (hm : m ≤ 2000) (hR : RnOk L s m) (ht : tx < L.n) (ho : others.length ≤ 8 ∧ ∀ y ∈ others, y < L.n) :
    Calls Tryd.prog 23 #[.pointer (some ⟨L.b, 0, none⟩), .int .i64 (tx : Int), .slice OA others.length oc] w0 fun en w' => ∃ DA dc VA vc WA WC, en = .returned (.tuple #[]) ∧ Inv S w0 w' (rpt { L with DA := DA, dc := dc, VA := VA, vc := vc, WA := WA, WC := WC } (waitR s tx others)) := by
  have h8 := hR.n8
  have hwl := hR.waits
  have hwv : s.waits.getD tx 0 ≤ m := hR.wvals _ (by rw [List.getD_eq_getElem?_getD, List.getElem?_eq_getElem (by omega)]; exact List.getElem_mem _)
  have hvl := hR.vlen
  have hsW : ∀ x l, (waitS s tx others).wait x = some l → x < 8 ∧ l.length ≤ 8 ∧ ∀ y ∈ l, y < L.n := fun x l hl => by
    have hl : (if x = tx then some others else s.wait x) = some l := hl
    by_cases hx : x = tx
    · rw [if_pos hx] at hl
      injection hl with hl
      subst hl
      exact ⟨by omega, ho⟩
    · rw [if_neg hx] at hl
      exact ⟨by have := hR.wkey x l hl; omega, hR.wlt x l hl⟩
  have hok := hR
  obtain ⟨b, mo, pv, ab, ob, wm, wb, n, DA, dc, VA, vc, WA, WC⟩ := L
  dsimp only at *
  have hI0 : Inv S w0 w0 ([Row 0 3 1 OA others.length oc (natV others)] ++ rpt ⟨b, mo, pv, ab, ob, wm, wb, n, DA, dc, VA, vc, WA, WC⟩ s) := hI
  unfold rpt at hI
  dsimp only at hI
  refine calls_of_W (N := Tryd.f23.ntmps) Tryd.func23 rfl rfl rfl ?_
  replace hI := hI.pull 3 rfl
  refine W_seq ?_
  refine W_region ?_
  refine WL_val rfl rfl rfl (by first | exact rMoveP rfl rfl | exact rMove rfl) ?_
  refine WL_val rfl rfl rfl (rNilChk rfl rfl) ?_
  refine WL_val rfl rfl rfl (by first | exact rFldN (off := 11) rfl (by kernel_rfl) rfl | exact rFld (off := 11) rfl (by kernel_rfl) rfl) ?_
  refine WL_val rfl rfl rfl (by first | exact rLd (v := .map _) rfl (by kernel_rfl) rfl (by first | exact hI.c0 rfl | exact hI.c1 rfl | exact hI.c2 rfl) | exact rLd rfl (by kernel_rfl) rfl (by first | exact hI.c0 rfl | exact hI.c1 rfl | exact hI.c2 rfl)) ?_
  refine WL_val rfl rfl rfl (by first | exact rMoveI rfl rfl | exact rMove rfl) ?_
  refine WL_val rfl rfl rfl (by first | exact rMoveS rfl rfl | exact rMove rfl) ?_
  refine WL_mapSet 0 (v := .slice OA others.length oc) rfl hI rfl rfl rfl Tryd.underlying46 Tryd.underlying3 rfl rfl rfl ?_
  clear hI; intro w hI
  refine WL_nil ?_
  simp only [List.set_cons_zero] at hI
  rw [wg_set] at hI
  replace hI := (((hI.back 3).pull 4 rfl).wset (tx := tx) (by omega)).back 3
  replace hI := hI.pull 7 rfl
  refine W_seq ?_
  refine W_region ?_
  refine WL_val rfl rfl rfl (by first | exact rMoveP rfl rfl | exact rMove rfl) ?_
  refine WL_val rfl rfl rfl (rNilChk rfl rfl) ?_
  refine WL_val rfl rfl rfl (by first | exact rFldN (off := 12) rfl (by kernel_rfl) rfl | exact rFld (off := 12) rfl (by kernel_rfl) rfl) ?_
  refine WL_val rfl rfl rfl (by first | exact rFldN (off := 1) rfl (by kernel_rfl) rfl | exact rFld (off := 1) rfl (by kernel_rfl) rfl) ?_
  refine WL_val rfl rfl rfl (by first | exact rLd (v := .slice _ _ _) rfl (by kernel_rfl) rfl (by first | exact hI.c0 rfl | exact hI.c1 rfl | exact (hI.c0 (natV_get (by omega)))) | exact rLd rfl (by kernel_rfl) rfl (by first | exact hI.c0 rfl | exact hI.c1 rfl | exact (hI.c0 (natV_get (by omega))))) ?_
  refine WL_val rfl rfl rfl (by first | exact rMoveI rfl rfl | exact rMove rfl) ?_
  refine WL_val rfl rfl rfl (by first | exact rIdx0 rfl Tryd.underlying24 (by kernel_rfl) rfl rfl rfl (by omega) | exact rIdx1 rfl Tryd.underlying24 (by kernel_rfl) rfl rfl (by omega)) ?_
  refine WL_val rfl rfl rfl (by first | exact rLd (v := .int .i64 _) rfl (by kernel_rfl) rfl (by first | exact hI.c0 rfl | exact hI.c1 rfl | exact (hI.c0 (natV_get (by omega)))) | exact rLd rfl (by kernel_rfl) rfl (by first | exact hI.c0 rfl | exact hI.c1 rfl | exact (hI.c0 (natV_get (by omega))))) ?_
  refine WL_val rfl rfl rfl (by first | exact rInc rfl rfl rfl (by omega) | exact rAdd rfl rfl rfl (by omega) | exact rAddW rfl rfl rfl) ?_
  refine WL_val rfl rfl rfl (by first | exact rIdx0 rfl Tryd.underlying24 (by kernel_rfl) rfl rfl rfl (by omega) | exact rIdx1 rfl Tryd.underlying24 (by kernel_rfl) rfl rfl (by omega)) ?_
  refine WL_st0 (u := .int .i64 ((s.waits.getD tx 0 + 1 : Nat) : Int)) (j := tx) (cs' := (natV (s.waits.set tx (s.waits.getD tx 0 + 1))).toArray) hI rfl rfl rfl rfl rfl rfl (by kernel_rfl) rfl (by simp [Nat.blt, natV]; omega) natV_set ?_
  clear hI; intro w hI
  refine WL_nil ?_
  replace hI : Inv S w0 w (rpt ⟨b, mo, pv, ab, ob, wm, wb, n, DA, dc, VA, vc, fun x => if x = tx then OA else WA x, fun x => if x = tx then oc else WC x⟩ (waitS s tx others)) := hI.back 7
  have hdl : (waitS s tx others).done.length ≤ 2000 := Nat.le_trans hR.dlen hm
  have hol : (waitS s tx others).over.length = n := hR.over
  have hho : HOk (waitS s tx others).held mo := hR.hok
  have hvi : (waitS s tx others).vict = s.vict := rfl
  obtain ⟨s1, hs1⟩ : ∃ s1, waitS s tx others = s1 := ⟨_, rfl⟩
  obtain ⟨WA', hWA⟩ : ∃ WA', (fun x => if x = tx then OA else WA x) = WA' := ⟨_, rfl⟩
  obtain ⟨WC', hWC⟩ : ∃ WC', (fun x => if x = tx then oc else WC x) = WC' := ⟨_, rfl⟩
  rw [hWA, hWC, hs1] at hI
  rw [hs1] at hdl hol hho hvi hsW
  have hlt1 : ∀ x l, s1.wait x = some l → ∀ y ∈ l, y < n := fun x l hl => (hsW x l hl).2.2
  have hwt : ∀ (w : World) (H : List Ent), Inv S w0 w (rpt ⟨b, mo, pv, ab, ob, wm, wb, n, DA, dc, VA, vc, WA', WC'⟩ s1 ++ H) → WaitAt w b wm s1.wait WA' WC' := fun w H hI => rpt_wait hI h8 hsW
  have hres : waitR s tx others = if tx ∈ reachF s1.wait tx then endR { s1 with vict := s1.vict ++ [vicF s1 tx] } (vicF s1 tx) 4 else s1 := by unfold waitR; rw [hs1]
  rw [hres]
  have hrl := reachF_lt hlt1 tx
  have hrn := reachF_len hlt1 tx
  refine W_seq ?_
  refine W_region ?_
  refine WL_val rfl rfl rfl (by first | exact rAsgnI rfl rfl | exact rAsgn rfl) ?_
  refine WL_nil ?_
  refine W_seq ?_
  refine W_region ?_
  refine WL_val rfl rfl rfl (by first | exact rMoveP rfl rfl | exact rMove rfl) ?_
  refine WL_val rfl rfl rfl (by first | exact rMoveI rfl rfl | exact rMove rfl) ?_
  refine WL_call rfl rfl rfl (rCall (vs := [.pointer _, .int .i64 _]) rfl Tryd.func38 rfl rfl rfl) ?_
  refine (reached_any b wm tx _ _ _ _ (hwt _ [] (by rw [List.append_nil]; exact hI))).mono ?_
  rintro e w1 ⟨A, c, rfl, hJ⟩
  refine ⟨_, rfl, ?_⟩
  replace hI := hI.app1 hJ
  refine WL_val rfl rfl rfl (by first | exact rAsgnS rfl rfl | exact rAsgn rfl) ?_
  refine WL_nil ?_
  obtain ⟨rl, hrle⟩ : ∃ rl, reachF s1.wait tx = rl := ⟨_, rfl⟩
  rw [hrle] at hI hrl hrn
  rw [hrle]
  by_cases hx : tx ∈ rl
  rotate_left
  · refine W_seq ?_
    refine W_seq ?_
    refine W_region ?_
    refine WL_val rfl rfl rfl (by first | exact rMoveS rfl rfl | exact rMove rfl) ?_
    refine WL_val rfl rfl rfl (by first | exact rMoveI rfl rfl | exact rMove rfl) ?_
    refine WL_call rfl rfl rfl (rCall (vs := [.slice _ _ _, .int .i64 _]) rfl Tryd.func17 rfl rfl rfl) ?_
    refine (conI_any A rl.length c (intN rl) (tx : Int) _ _ (ints_true hI.g0 rfl)).mono ?_
    rintro e w1 ⟨rfl, hp⟩
    rw [decide_eq_false (fun h => hx (intN_mem.1 h))]
    refine ⟨_, rfl, ?_⟩
    replace hI := hI.pure hp
    refine WL_val rfl rfl rfl (by first | exact rNotT rfl rfl | exact rNotF rfl rfl | exact rNot rfl rfl) ?_
    refine WL_nil ?_
    refine W_cond true rfl ?_
    refine W_ret ?_
    rw [if_neg hx]
    exact ret0 (.inr rfl) rfl ⟨DA, dc, VA, vc, WA', WC', rfl, hI.d0⟩
  rw [if_pos hx]
  refine W_seq ?_
  refine W_seq ?_
  refine W_region ?_
  refine WL_val rfl rfl rfl (by first | exact rMoveS rfl rfl | exact rMove rfl) ?_
  refine WL_val rfl rfl rfl (by first | exact rMoveI rfl rfl | exact rMove rfl) ?_
  refine WL_call rfl rfl rfl (rCall (vs := [.slice _ _ _, .int .i64 _]) rfl Tryd.func17 rfl rfl rfl) ?_
  refine (conI_any A rl.length c (intN rl) (tx : Int) _ _ (ints_true hI.g0 rfl)).mono ?_
  rintro e w1 ⟨rfl, hp⟩
  rw [decide_eq_true (intN_mem.2 hx)]
  refine ⟨_, rfl, ?_⟩
  replace hI := hI.pure hp
  refine WL_val rfl rfl rfl (by first | exact rNotT rfl rfl | exact rNotF rfl rfl | exact rNot rfl rfl) ?_
  refine WL_nil ?_
  refine W_cond false rfl ?_
  refine W_skip ?_
  have hr0 : 0 < rl.length := List.length_pos_of_mem hx
  obtain ⟨g, o, rfl⟩ := row_addrS hI.g0 hr0 (by omega)
  have hrA : ∀ w H, Inv S w0 w (Row 0 3 1 (some ⟨g, o, none⟩) rl.length c (natV rl) :: H) → ∀ k, k < rl.length → w.cell? ⟨g, o + k, none⟩ = some (.int .i64 ((rl.getD k 0 : Nat) : Int)) := fun w H hI k hk => row_cellS hI.g0 (by simp [natV, List.getD, hk]) hr0
  have hmx : ∀ {k : Nat}, k < rl.length → rl[k]? = some (rl.getD k 0) := fun {k} hk => by simp [List.getD, hk]
  refine W_seq_cut (fun ρ w => Has ρ [(6, .int .i64 (viTo s1.wait tx rl rl.length)), (0, .pointer (some ⟨b, 0, none⟩))] ∧ Inv S w0 w (rpt ⟨b, mo, pv, ab, ob, wm, wb, n, DA, dc, VA, vc, WA', WC'⟩ s1)) ?_ ?_
  · refine W_seq ?_
    refine W_region ?_
    refine WL_val rfl rfl rfl (by first | exact rMoveS rfl rfl | exact rMove rfl) ?_
    refine WL_val rfl rfl rfl (rLen rfl Tryd.underlying24 rfl) ?_
    refine WL_val rfl rfl rfl (by first | exact rMoveI rfl rfl | exact rMove rfl) ?_
    refine WL_nil ?_
    refine W_block ?_
    refine W_loop (fun ρ w => ∃ k : Nat, k ≤ rl.length ∧ Has ρ [(35, .int .i64 ((k : Nat) : Int)), (34, .int .i64 (rl.length : Int)), (33, .slice (some ⟨g, o, none⟩) rl.length c), (6, .int .i64 (viTo s1.wait tx rl k)), (0, .pointer (some ⟨b, 0, none⟩)), (1, .int .i64 (tx : Int))] ∧
      Inv S w0 w (Row 0 3 1 (some ⟨g, o, none⟩) rl.length c (natV rl) :: rpt ⟨b, mo, pv, ab, ob, wm, wb, n, DA, dc, VA, vc, WA', WC'⟩ s1)) (fun ρ _ => rl.length - cnt (ρ 35))
      ⟨0, by omega, ⟨rfl, rfl, rfl, rfl, rfl, rfl, trivial⟩, hI⟩ ?_
    clear hI
    rintro ρ w ⟨k, hk, hH, hI⟩
    obtain ⟨σ, rfl⟩ := hH.open
    by_cases hkn : k < rl.length
    · have q0 := hrA w _ hI k hkn
      have hvg := hmx hkn
      have hvt := viTo_lt (wait := s1.wait) (tx := tx) hrl k (by omega)
      have hvs := viTo_succ s1.wait tx rl hvg
      obtain ⟨v, hv⟩ : ∃ v, rl.getD k 0 = v := ⟨_, rfl⟩
      rw [hv] at q0 hvs
      refine W_seq ?_
      refine W_region ?_
      refine WL_val rfl rfl rfl (by first | exact rLssT rfl rfl rfl (by omega) | exact rLssF rfl rfl rfl (by omega) | exact rLss rfl rfl rfl) ?_
      refine WL_nil ?_
      refine W_seq ?_
      refine W_cond true rfl ?_
      refine W_skip ?_
      refine W_seq ?_
      refine W_block ?_
      refine W_seq ?_
      refine W_region ?_
      refine WL_val rfl rfl rfl (by first | exact rIdx0 rfl Tryd.underlying24 (by kernel_rfl) rfl rfl rfl (by omega) | exact rIdx1 rfl Tryd.underlying24 (by kernel_rfl) rfl rfl (by omega)) ?_
      refine WL_val rfl rfl rfl (by first | exact rLd (v := .int .i64 _) rfl (by kernel_rfl) rfl (by first | exact hI.c0 rfl | exact hI.oldp q0 | exact q0) | exact rLd rfl (by kernel_rfl) rfl (by first | exact hI.c0 rfl | exact hI.oldp q0 | exact q0)) ?_
      refine WL_val rfl rfl rfl (by first | exact rAsgnI rfl rfl | exact rAsgn rfl) ?_
      refine WL_nil ?_
      by_cases hxv : tx ∈ reachF s1.wait v
      · refine W_seq ?_
        refine W_region ?_
        refine WL_val rfl rfl rfl (by first | exact rMoveP rfl rfl | exact rMove rfl) ?_
        refine WL_val rfl rfl rfl (by first | exact rMoveI rfl rfl | exact rMove rfl) ?_
        refine WL_call rfl rfl rfl (rCall (vs := [.pointer _, .int .i64 _]) rfl Tryd.func38 rfl rfl rfl) ?_
        refine (reached_any b wm v _ _ _ _ (hwt _ [] (by rw [List.append_nil]; exact hI.d0))).mono ?_
        rintro e w1 ⟨A2, c2, rfl, hJ⟩
        refine ⟨_, rfl, ?_⟩
        replace hI := hI.app1 hJ
        refine WL_val rfl rfl rfl (by first | exact rMoveI rfl rfl | exact rMove rfl) ?_
        refine WL_call rfl rfl rfl (rCall (vs := [.slice _ _ _, .int .i64 _]) rfl Tryd.func17 rfl rfl rfl) ?_
        refine (conI_any A2 (reachF s1.wait v).length c2 (intN (reachF s1.wait v)) (tx : Int) _ _ (ints_true hI.g0 rfl)).mono ?_
        rintro e w1 ⟨rfl, hp⟩
        rw [decide_eq_true (intN_mem.2 hxv)]
        refine ⟨_, rfl, ?_⟩
        replace hI := hI.pure hp
        refine WL_nil ?_
        refine W_cond true rfl ?_
        refine W_region ?_
        refine WL_val rfl rfl rfl (by first | exact rMoveI rfl rfl | exact rMove rfl) ?_
        refine WL_val rfl rfl rfl (by first | exact rMoveI rfl rfl | exact rMove rfl) ?_
        refine WL_val rfl rfl rfl (rMax rfl rfl rfl) ?_
        refine WL_val rfl rfl rfl (by first | exact rAsgnI rfl rfl | exact rAsgn rfl) ?_
        refine WL_nil ?_
        refine W_region ?_
        refine WL_val rfl rfl rfl (by first | exact rInc rfl rfl rfl (by omega) | exact rAdd rfl rfl rfl (by omega) | exact rAddW rfl rfl rfl) ?_
        refine WL_val rfl rfl rfl (by first | exact rMoveI rfl rfl | exact rMove rfl) ?_
        refine WL_nil ?_
        rw [if_pos hxv] at hvs
        refine ⟨⟨k + 1, by omega, ⟨rfl, rfl, rfl, ?_, rfl, rfl, trivial⟩, hI.d0⟩, by show rl.length - ((k + 1 : Nat) : Int).toNat < rl.length - (k : Int).toNat; omega⟩
        rw [hvs]
        rfl
      · refine W_seq ?_
        refine W_region ?_
        refine WL_val rfl rfl rfl (by first | exact rMoveP rfl rfl | exact rMove rfl) ?_
        refine WL_val rfl rfl rfl (by first | exact rMoveI rfl rfl | exact rMove rfl) ?_
        refine WL_call rfl rfl rfl (rCall (vs := [.pointer _, .int .i64 _]) rfl Tryd.func38 rfl rfl rfl) ?_
        refine (reached_any b wm v _ _ _ _ (hwt _ [] (by rw [List.append_nil]; exact hI.d0))).mono ?_
        rintro e w1 ⟨A2, c2, rfl, hJ⟩
        refine ⟨_, rfl, ?_⟩
        replace hI := hI.app1 hJ
        refine WL_val rfl rfl rfl (by first | exact rMoveI rfl rfl | exact rMove rfl) ?_
        refine WL_call rfl rfl rfl (rCall (vs := [.slice _ _ _, .int .i64 _]) rfl Tryd.func17 rfl rfl rfl) ?_
        refine (conI_any A2 (reachF s1.wait v).length c2 (intN (reachF s1.wait v)) (tx : Int) _ _ (ints_true hI.g0 rfl)).mono ?_
        rintro e w1 ⟨rfl, hp⟩
        rw [decide_eq_false (fun h => hxv (intN_mem.1 h))]
        refine ⟨_, rfl, ?_⟩
        replace hI := hI.pure hp
        refine WL_nil ?_
        refine W_cond false rfl ?_
        refine W_skip ?_
        refine W_region ?_
        refine WL_val rfl rfl rfl (by first | exact rInc rfl rfl rfl (by omega) | exact rAdd rfl rfl rfl (by omega) | exact rAddW rfl rfl rfl) ?_
        refine WL_val rfl rfl rfl (by first | exact rMoveI rfl rfl | exact rMove rfl) ?_
        refine WL_nil ?_
        rw [if_neg hxv] at hvs
        refine ⟨⟨k + 1, by omega, ⟨rfl, rfl, rfl, ?_, rfl, rfl, trivial⟩, hI.d0⟩, by show rl.length - ((k + 1 : Nat) : Int).toNat < rl.length - (k : Int).toNat; omega⟩
        rw [hvs]
        rfl
    · obtain rfl : k = rl.length := by omega
      refine W_seq ?_
      refine W_region ?_
      refine WL_val rfl rfl rfl (by first | exact rLssT rfl rfl rfl (by omega) | exact rLssF rfl rfl rfl (by omega) | exact rLss rfl rfl rfl) ?_
      refine WL_nil ?_
      refine W_seq ?_
      refine W_cond false rfl ?_
      refine W_exit ?_
      exact ⟨⟨rfl, rfl, trivial⟩, hI.d0⟩
  clear hI
  rintro ρ w ⟨hH, hI⟩
  obtain ⟨σ, rfl⟩ := hH.open
  have hvl1 := viTo_lt (wait := s1.wait) (tx := tx) hrl rl.length (Nat.le_refl _)
  have hself : (tx : Int) ≤ viTo s1.wait tx rl rl.length := viTo_ge hx (by rw [hrle]; exact hx)
  have hvv : viTo s1.wait tx rl rl.length = ((vicF s1 tx : Nat) : Int) := by unfold vicF; rw [hrle]; omega
  rw [hvv]
  have hvn : vicF s1 tx < n := by omega
  obtain ⟨vv, hvve⟩ : ∃ vv, vicF s1 tx = vv := ⟨_, rfl⟩
  rw [hvve] at hvn
  rw [hvve]
  unfold rpt at hI
  dsimp only at hI
  rw [hvi] at hI
  replace hI := hI.pull 8 rfl
  refine W_seq ?_
  refine W_region ?_
  refine WL_val rfl rfl rfl (by first | exact rMoveP rfl rfl | exact rMove rfl) ?_
  refine WL_val rfl rfl rfl (by first | exact rMoveP rfl rfl | exact rMove rfl) ?_
  refine WL_val rfl rfl rfl (rNilChk rfl rfl) ?_
  refine WL_val rfl rfl rfl (by first | exact rFldN (off := 12) rfl (by kernel_rfl) rfl | exact rFld (off := 12) rfl (by kernel_rfl) rfl) ?_
  refine WL_val rfl rfl rfl (by first | exact rFldN (off := 2) rfl (by kernel_rfl) rfl | exact rFld (off := 2) rfl (by kernel_rfl) rfl) ?_
  refine WL_val rfl rfl rfl (by first | exact rLd (v := .slice _ _ _) rfl (by kernel_rfl) rfl (by first | exact hI.c0 rfl | exact hI.c1 rfl) | exact rLd rfl (by kernel_rfl) rfl (by first | exact hI.c0 rfl | exact hI.c1 rfl)) ?_
  refine WL_val rfl rfl rfl (by first | exact rMoveI rfl rfl | exact rMove rfl) ?_
  refine WL_lit (vs := [_]) (qs := [(0, .int .i64 _)]) [.int .i64 0] [0] hI rfl rfl rfl rfl rfl rfl Tryd.underlying24 (fun _ => by kernel_rfl) ?_
  clear hI; rintro b55 w - - hI
  first | refine WL_app1 (z := .int .i64 0) (by_ := 8) hI rfl rfl rfl rfl rfl rfl Tryd.underlying24 (by kernel_rfl) rfl (by omega) (by rfl) hI.lit0 (by first | rfl | simp [i64s, Value.oneCell']) (by omega) (by omega) (by first | exact Nat.zero_le _ | (have := hI.chg.size; omega)) ?_
  clear hI; rintro A56 c56 w hA56 hc56 hI
  replace hI := hI.d0
  refine WL_val rfl rfl rfl (rNilChk rfl rfl) ?_
  refine WL_val rfl rfl rfl (by first | exact rFldN (off := 12) rfl (by kernel_rfl) rfl | exact rFld (off := 12) rfl (by kernel_rfl) rfl) ?_
  refine WL_val rfl rfl rfl (by first | exact rFldN (off := 2) rfl (by kernel_rfl) rfl | exact rFld (off := 2) rfl (by kernel_rfl) rfl) ?_
  refine WL_st1 (u := .slice _ _ _) (j := 14) (cs' := runC mo (vsR pv ab ob wm wb n DA s1.done.length dc A56 (s.vict.length + 1) c56)) hI rfl rfl rfl rfl rfl rfl (by kernel_rfl) rfl rfl rfl ?_
  clear hI; intro w hI
  refine WL_nil ?_
  replace hI := hI.back 8
  have hvl2 : (s1.vict ++ [vv]).length = s.vict.length + 1 := by rw [List.length_append, hvi]; rfl
  replace hI : Inv S w0 w (rpt ⟨b, mo, pv, ab, ob, wm, wb, n, DA, dc, A56, c56, WA', WC'⟩ { s1 with vict := s1.vict ++ [vv] }) := by
    unfold rpt
    dsimp only
    rw [hvl2]
    have e3 : natV (s1.vict ++ [vv]) = natV s.vict ++ [.int .i64 (vv : Int)] := by rw [hvi]; simp [natV]
    rw [e3]
    exact hI
  obtain ⟨s2, hs2⟩ : ∃ s2, ({ s1 with vict := s1.vict ++ [vv] } : Rn) = s2 := ⟨_, rfl⟩
  have hdl2 : s2.done.length ≤ 2000 := by rw [← hs2]; exact hdl
  have hol2 : s2.over.length = n := by rw [← hs2]; exact hol
  have hho2 : HOk s2.held mo := by rw [← hs2]; exact hho
  rw [hs2] at hI
  rw [hs2]
  have hJ0 : Inv S w0 w (rpt ⟨b, mo, pv, ab, ob, wm, wb, n, DA, dc, A56, c56, WA', WC'⟩ s2 ++ []) := by rw [List.append_nil]; exact hI
  have hcall := end_any ⟨b, mo, pv, ab, ob, wm, wb, n, DA, dc, A56, c56, WA', WC'⟩ s2 vv 4 _ w (Inv.from hJ0) h8 hdl2 hol2 hho2 hvn
  clear hI
  refine W_region ?_
  refine WL_val rfl rfl rfl (by first | exact rMoveP rfl rfl | exact rMove rfl) ?_
  refine WL_val rfl rfl rfl (by first | exact rMoveI rfl rfl | exact rMove rfl) ?_
  refine WL_call rfl rfl rfl (rCall (vs := [.pointer _, .int .i64 _, .int .i64 _]) rfl Tryd.func21 rfl rfl rfl) ?_
  refine hcall.mono ?_
  rintro e w1 ⟨DA', dc', rfl, hJ⟩
  refine ⟨_, rfl, ?_⟩
  have hI := Inv.turnL hJ0 hJ
  refine WL_nil ?_
  rw [List.append_nil] at hI
  exact ret0 (.inl rfl) rfl ⟨DA', dc', A56, c56, WA', WC', rfl, hI⟩
end Go.Proofs.YtidnlnlmmnkgoaaDoor
