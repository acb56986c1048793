/- lock: a run; end. -/
import Derived.Test.YtidnlnlmmnkgoaaDoorLck3
namespace Go.Proofs.YtidnlnlmmnkgoaaDoor
open Go.RowKit
set_option linter.unusedVariables false
set_option linter.unusedSimpArgs false
section
variable {S : Nat → Prop} {w0 w : World} {H : List Ent} {e : Ent}
theorem pull_perm : ∀ (H : List Ent) (i : Nat) (e : Ent), H[i]? = some e → H.Perm (e :: H.eraseIdx i)
  | [], i, e, h => by simp at h
  | a :: H, 0, e, h => by
    simp at h
    subst h
    exact .refl _
  | a :: H, i + 1, e, h => by
    have := pull_perm H i e (by simpa using h)
    rw [List.eraseIdx_cons_succ]
    exact (this.cons a).trans (.swap ..)
theorem Inv.pull (h : Inv S w0 w H) (i : Nat) (hi : H[i]? = some e) : Inv S w0 w (e :: H.eraseIdx i) := h.perm (pull_perm H i e hi)
def insA : Nat → List Ent → Ent → List Ent
  | 0, L, e => e :: L
  | _ + 1, [], e => [e]
  | i + 1, a :: L, e => a :: insA i L e
theorem insA_perm : ∀ (i : Nat) (L : List Ent) (e : Ent), (e :: L).Perm (insA i L e)
  | 0, L, e => .refl _
  | i + 1, [], e => .refl _
  | i + 1, a :: L, e => (List.Perm.swap ..).trans ((insA_perm i L e).cons a)
def insAt (L : List Ent) (i : Nat) (e : Ent) : List Ent := insA i L e
theorem insAt_perm (L : List Ent) (i : Nat) (e : Ent) : (e :: L).Perm (insAt L i e) := insA_perm i L e
theorem Inv.back (h : Inv S w0 w (e :: H)) (i : Nat) : Inv S w0 w (insAt H i e) := h.perm (insAt_perm H i e)
end
structure Rn where
  held : Nat → Nat → Nat
  ats : List Nat
  over : List Bool
  wait : Nat → Option (List Nat)
  done : List St
  waits : List Nat
  vict : List Nat
def vsR (pv : Value) (ab ob wm wb n : Nat) (DA : Option Addr) (dl dc : Nat) (VA : Option Addr) (vl vc : Nat) : Nat → Value
  | 8 => pv
  | 9 => .slice (some ⟨ab, 0, none⟩) n n
  | 10 => .slice (some ⟨ob, 0, none⟩) n n
  | 11 => .map (some wm)
  | 12 => .slice DA dl dc
  | 13 => .slice (some ⟨wb, 0, none⟩) n n
  | _ => .slice VA vl vc
def wg (wait : Nat → Option (List Nat)) (WA : Nat → Option Addr) (WC : Nat → Nat) : Int → Option Value := fun a => if 0 ≤ a then (wait a.toNat).map fun l => .slice (WA a.toNat) l.length (WC a.toNat) else none
def waitE (wait : Nat → Option (List Nat)) (WA : Nat → Option Addr) (WC : Nat → Nat) (x : Nat) : Ent := match wait x with
  | some l => Row 0 3 1 (WA x) l.length (WC x) (natV l)
  | none => Ent.nil
def boolV (l : List Bool) : List Value := l.map Value.bool
theorem natV_get {l : List Nat} {k : Nat} (h : k < l.length) : (natV l).toArray[k]? = some (.int .i64 ((l.getD k 0 : Nat) : Int)) := by
  simp [natV, List.getD, h]
theorem natV_set {l : List Nat} {k v : Nat} : (natV l).toArray.setIfInBounds k (.int .i64 (v : Int)) = (natV (l.set k v)).toArray := by
  simp [natV, List.map_set]
theorem boolV_get {l : List Bool} {k : Nat} (h : k < l.length) : (boolV l).toArray[k]? = some (.bool (l.getD k false)) := by
  simp [boolV, List.getD, h]
theorem boolV_set {l : List Bool} {k : Nat} {v : Bool} : (boolV l).toArray.setIfInBounds k (.bool v) = (boolV (l.set k v)).toArray := by
  simp [boolV, List.map_set]
/-- Where a run lies. -/
structure RnL where
  b : Nat
  mo : Nat → Option Nat
  pv : Value
  ab : Nat
  ob : Nat
  wm : Nat
  wb : Nat
  n : Nat
  DA : Option Addr
  dc : Nat
  VA : Option Addr
  vc : Nat
  WA : Nat → Option Addr
  WC : Nat → Nat
def rpt (L : RnL) (s : Rn) : List Ent :=
  [B L.b 52 (runC L.mo (vsR L.pv L.ab L.ob L.wm L.wb L.n L.DA s.done.length L.dc L.VA s.vict.length L.vc)), Many 8 (heldE s.held L.mo), MapE L.wm (wg s.wait L.WA L.WC), Many 8 (waitE s.wait L.WA L.WC),
    B L.ab 3 (natV s.ats).toArray, B L.ob 4 (boolV s.over).toArray, Row 0 40 3 L.DA s.done.length L.dc (s.done.flatMap stV), B L.wb 3 (natV s.waits).toArray, Row 0 3 1 L.VA s.vict.length L.vc (natV s.vict)]
structure RnOk (L : RnL) (s : Rn) (m : Nat) : Prop where
  n8 : L.n ≤ 8
  ats : s.ats.length = L.n
  over : s.over.length = L.n
  waits : s.waits.length = L.n
  hok : HOk s.held L.mo
  two : ∀ k x, s.held k x ≤ 2
  dlen : s.done.length ≤ m
  vlen : s.vict.length ≤ m
  wlt : ∀ x l, s.wait x = some l → l.length ≤ 8 ∧ ∀ y ∈ l, y < L.n
  wkey : ∀ x l, s.wait x = some l → x < L.n
  wvals : ∀ y ∈ s.waits, y ≤ m
def endR (s : Rn) (tx kind : Nat) : Rn := { s with held := freeTo s.held tx 8, over := s.over.set tx true, wait := fun x => if x = tx then none else s.wait x, done := s.done ++ [⟨tx, kind, 0⟩] }
theorem wg_del (wait : Nat → Option (List Nat)) (WA : Nat → Option Addr) (WC : Nat → Nat) (tx : Nat) : (fun j => if j = (tx : Int) then none else wg wait WA WC j) = wg (fun x => if x = tx then none else wait x) WA WC := by
  funext a
  unfold wg
  by_cases ha : a = (tx : Int)
  · subst ha; simp
  · rw [if_neg ha]
    by_cases h0 : 0 ≤ a
    · have : ¬ a.toNat = tx := by omega
      simp [this]
    · simp [h0]
theorem Inv.wdel {S : Nat → Prop} {w0 w : World} {H : List Ent} {wait : Nat → Option (List Nat)} {WA : Nat → Option Addr} {WC : Nat → Nat} {tx : Nat} (h : Inv S w0 w (Many 8 (waitE wait WA WC) :: H)) (ht : tx < 8) : Inv S w0 w (Many 8 (waitE (fun x => if x = tx then none else wait x) WA WC) :: H) := by
  refine (h.many_out ht).d0.many_congr fun i hi => ?_
  by_cases hit : i = tx
  · rw [if_pos hit]; unfold waitE; dsimp only; rw [if_pos hit]
  · rw [if_neg hit]; unfold waitE; dsimp only; rw [if_neg hit]
set_option maxHeartbeats 4000000 in
theorem end_any (L : RnL) (s : Rn) (tx kind : Nat) (S : Nat → Prop) (w0 : World) (hI : Inv S w0 w0 (rpt L s)) (h8 : L.n ≤ 8) (hd : s.done.length ≤ 2000) (hov : s.over.length = L.n) (hok : HOk s.held L.mo) (ht : tx < L.n) :
    Calls Tryd.prog 21 #[.pointer (some ⟨L.b, 0, none⟩), .int .i64 (tx : Int), .int .i64 (kind : Int)] w0 fun en w' => ∃ DA dc, en = .returned (.tuple #[]) ∧ Inv S w0 w' (rpt { L with DA := DA, dc := dc } (endR s tx kind)) := by
  obtain ⟨b, mo, pv, ab, ob, wm, wb, n, DA, dc, VA, vc, WA, WC⟩ := L
  obtain ⟨held, ats, over, wait, done, waits, vict⟩ := s
  dsimp only at *
  unfold rpt at hI
  dsimp only at hI
  refine calls_of_W (N := Tryd.f21.ntmps) Tryd.func21 rfl rfl rfl ?_
  replace hI := hI.pull 6 rfl
  refine W_seq ?_
  refine W_region ?_
  refine WL_val rfl rfl rfl (by first | exact rMoveP rfl rfl | exact rMove rfl) ?_
  refine WL_val rfl rfl rfl (by first | exact rMoveP rfl rfl | exact rMove rfl) ?_
  refine WL_val rfl rfl rfl (rNilChk rfl rfl) ?_
  refine WL_val rfl rfl rfl (by first | exact rFldN (off := 12) rfl (by kernel_rfl) rfl | exact rFld (off := 12) rfl (by kernel_rfl) rfl) ?_
  refine WL_val rfl rfl rfl (by first | exact rFldN (off := 0) rfl (by kernel_rfl) rfl | exact rFld0 rfl (by kernel_rfl) rfl) ?_
  refine WL_val rfl rfl rfl (by first | exact rLd (v := .slice _ _ _) rfl (by kernel_rfl) rfl (by first | exact hI.c0 rfl | exact hI.c1 rfl) | exact rLd rfl (by kernel_rfl) rfl (by first | exact hI.c0 rfl | exact hI.c1 rfl)) ?_
  refine WL_val rfl rfl rfl (by first | exact rMoveI rfl rfl | exact rMove rfl) ?_
  refine WL_val rfl rfl rfl (by first | exact rMoveI rfl rfl | exact rMove rfl) ?_
  refine WL_val rfl rfl rfl (rBuild (qs := [(0, .int .i64 _), (1, .int .i64 _)]) (vs := [_, _, _]) [.int .i64 0, .int .i64 0, .int .i64 0] [0, 1] rfl rfl rfl (fun _ => by kernel_rfl)) ?_
  refine WL_litA (e := 40) (size := 3) [[.int .i64 (tx : Int), .int .i64 (kind : Int), .int .i64 0]] hI rfl rfl rfl rfl rfl Tryd.underlying25 (by kernel_rfl) (by kernel_rfl) rfl (by simp) (by omega) ?_
  clear hI; rintro b91 w - - hI
  first | refine WL_app1 (z := .agg #[.int .i64 0, .int .i64 0, .int .i64 0]) (by_ := 24) hI rfl rfl rfl rfl rfl rfl Tryd.underlying25 (by kernel_rfl) rfl (by omega) (by rfl) hI.lit0 (by first | rfl | simp [i64s, Value.oneCell']) (by omega) (by omega) (by first | exact Nat.zero_le _ | (have := hI.chg.size; omega)) ?_
  clear hI; rintro A16 c16 w hA16 hc16 hI
  replace hI := hI.d0
  refine WL_val rfl rfl rfl (rNilChk rfl rfl) ?_
  refine WL_val rfl rfl rfl (by first | exact rFldN (off := 12) rfl (by kernel_rfl) rfl | exact rFld (off := 12) rfl (by kernel_rfl) rfl) ?_
  refine WL_val rfl rfl rfl (by first | exact rFldN (off := 0) rfl (by kernel_rfl) rfl | exact rFld0 rfl (by kernel_rfl) rfl) ?_
  refine WL_st1 (u := .slice _ _ _) (j := 12) (cs' := runC mo (vsR pv ab ob wm wb n A16 (done.length + 1) c16 VA vict.length vc)) hI rfl rfl rfl rfl rfl rfl (by kernel_rfl) rfl rfl rfl ?_
  clear hI; intro w hI
  refine WL_nil ?_
  replace hI := (hI.back 6).pull 5 rfl
  refine W_seq ?_
  refine W_region ?_
  refine WL_val rfl rfl rfl (by first | exact rMoveP rfl rfl | exact rMove rfl) ?_
  refine WL_val rfl rfl rfl (rNilChk rfl rfl) ?_
  refine WL_val rfl rfl rfl (by first | exact rFldN (off := 10) rfl (by kernel_rfl) rfl | exact rFld (off := 10) rfl (by kernel_rfl) rfl) ?_
  refine WL_val rfl rfl rfl (by first | exact rLd (v := .slice _ _ _) rfl (by kernel_rfl) rfl (by first | exact hI.c0 rfl | exact hI.c1 rfl) | exact rLd rfl (by kernel_rfl) rfl (by first | exact hI.c0 rfl | exact hI.c1 rfl)) ?_
  refine WL_val rfl rfl rfl (by first | exact rMoveI rfl rfl | exact rMove rfl) ?_
  refine WL_val rfl rfl rfl (by first | exact rIdx0 rfl Tryd.underlying45 (by kernel_rfl) rfl rfl rfl (by omega) | exact rIdx1 rfl Tryd.underlying45 (by kernel_rfl) rfl rfl (by omega)) ?_
  refine WL_st0 (u := .bool true) (j := tx) (cs' := (boolV (over.set tx true)).toArray) hI rfl rfl rfl rfl rfl rfl (by kernel_rfl) rfl (by simp [Nat.blt, boolV]; omega) boolV_set ?_
  clear hI; intro w hI
  refine WL_nil ?_
  replace hI := (hI.back 5).pull 2 rfl
  refine W_seq ?_
  refine W_region ?_
  refine WL_val rfl rfl rfl (by first | exact rMoveP rfl rfl | exact rMove rfl) ?_
  refine WL_val rfl rfl rfl (rNilChk rfl rfl) ?_
  refine WL_val rfl rfl rfl (by first | exact rFldN (off := 11) rfl (by kernel_rfl) rfl | exact rFld (off := 11) rfl (by kernel_rfl) rfl) ?_
  refine WL_val rfl rfl rfl (by first | exact rLd (v := .map _) rfl (by kernel_rfl) rfl (by first | exact hI.c0 rfl | exact hI.c1 rfl) | exact rLd rfl (by kernel_rfl) rfl (by first | exact hI.c0 rfl | exact hI.c1 rfl)) ?_
  refine WL_val rfl rfl rfl (by first | exact rMoveI rfl rfl | exact rMove rfl) ?_
  refine WL_mapDel 0 rfl hI rfl rfl rfl Tryd.underlying46 Tryd.underlying3 rfl rfl ?_
  clear hI; intro w hI
  refine WL_nil ?_
  simp only [List.set_cons_zero] at hI
  rw [wg_del] at hI
  replace hI := ((((hI.back 2).pull 3 rfl).wdel (tx := tx) (by omega)).back 3)
  refine W_region ?_
  refine WL_val rfl rfl rfl (by first | exact rMoveP rfl rfl | exact rMove rfl) ?_
  refine WL_val rfl rfl rfl (rNilChk rfl rfl) ?_
  refine WL_val rfl rfl rfl (by first | exact rFldN (off := 0) rfl (by kernel_rfl) rfl | exact rFld0 rfl (by kernel_rfl) rfl) ?_
  refine WL_val rfl rfl rfl (by first | exact rMoveI rfl rfl | exact rMove rfl) ?_
  refine WL_call rfl rfl rfl (rCall (vs := [.pointer _, .int .i64 _]) rfl Tryd.func37 rfl rfl rfl) ?_
  refine (free_any b tx mo _ held _ _ (Inv.from (l := [_, _]) hI) hok).mono ?_
  rintro e w1 ⟨rfl, hJ⟩
  refine ⟨_, rfl, ?_⟩
  replace hI := Inv.turnL (l := [_, _]) hI hJ
  refine WL_nil ?_
  refine ret0 (.inl rfl) rfl ⟨A16, c16, rfl, ?_⟩
  have e1 : (done ++ [(⟨tx, kind, 0⟩ : St)]).length = done.length + 1 := by simp
  have e2 : (done ++ [(⟨tx, kind, 0⟩ : St)]).flatMap stV = done.flatMap stV ++ [.int .i64 (tx : Int), .int .i64 (kind : Int), .int .i64 0] := by rw [List.flatMap_append]; rfl
  unfold rpt endR
  dsimp only
  rw [e1, e2]
  exact hI
end Go.Proofs.YtidnlnlmmnkgoaaDoor
