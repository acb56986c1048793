/- lock: for whom one waits, over others. -/
import Derived.Test.YtidnlnlmmnkgoaaDoorLck4
import Derived.Test.YtidnlnlmmnkgoaaDoorSlI
namespace Go.Proofs.YtidnlnlmmnkgoaaDoor
open Go.RowKit
set_option linter.unusedVariables false
set_option linter.unusedSimpArgs false
def intN (l : List Nat) : List Int := l.map fun x => ((x : Nat) : Int)
theorem natV_int (l : List Nat) : natV l = (intN l).map (Value.int .i64) := by simp [natV, intN]
theorem intN_len (l : List Nat) : (intN l).length = l.length := by simp [intN]
theorem intN_mem {l : List Nat} {x : Nat} : ((x : Nat) : Int) ∈ intN l ↔ x ∈ l := by
  unfold intN
  rw [List.mem_map]
  constructor
  · rintro ⟨y, hy, e⟩
    rw [show x = y by omega]; exact hy
  · intro h; exact ⟨x, h, rfl⟩
def wl (wait : Nat → Option (List Nat)) (x : Nat) : List Nat := (wait x).getD []
def wvA (wait : Nat → Option (List Nat)) (WA : Nat → Option Addr) (x : Nat) : Option Addr := if (wait x).isSome then WA x else none
def wvC (wait : Nat → Option (List Nat)) (WC : Nat → Nat) (x : Nat) : Nat := if (wait x).isSome then WC x else 0
def reachN : Nat → (Nat → List Nat) → List Nat → List Nat → List Nat
  | 0, _, out, _ => out
  | _ + 1, _, out, [] => out
  | n + 1, w, out, x :: l => if x ∈ out then reachN n w out l else reachN n w (out ++ [x]) (l ++ w x)
def reachF (wait : Nat → Option (List Nat)) (x : Nat) : List Nat := reachN 200 (wl wait) [] (wl wait x)
structure WaitAt (w : World) (b wm : Nat) (wait : Nat → Option (List Nat)) (WA : Nat → Option Addr) (WC : Nat → Nat) : Prop where
  cell : w.cell? ⟨b, 11, none⟩ = some (.map (some wm))
  map : MapIs w wm (wg wait WA WC)
  rows : ∀ x l, wait x = some l → Ints w (fun _ => True) (.slice (WA x) l.length (WC x)) (intN l)
  len : ∀ x l, wait x = some l → l.length ≤ 8 ∧ ∀ y ∈ l, y < 8
theorem WaitAt.pure {w w' : World} {b wm : Nat} {wait : Nat → Option (List Nat)} {WA : Nat → Option Addr} {WC : Nat → Nat} (h : WaitAt w b wm wait WA WC) (hp : Pure w w') : WaitAt w' b wm wait WA WC where
  cell := (Inv.start (fun _ => False) w |>.pure hp).oldp h.cell
  map := h.map.pure hp
  rows := fun x l hl => Rd.chg (h.rows x l hl) (hp.chg (fun _ => False)) fun _ _ h => h
  len := h.len
section
variable {w : World} {b wm : Nat} {wait : Nat → Option (List Nat)} {WA : Nat → Option Addr} {WC : Nat → Nat}
theorem WaitAt.wl (h : WaitAt w b wm wait WA WC) (x : Nat) : Ints w (fun _ => True) (.slice (wvA wait WA x) (wl wait x).length (wvC wait WC x)) (intN (wl wait x)) ∧ (Go.Proofs.YtidnlnlmmnkgoaaDoor.wl wait x).length ≤ 8 ∧ ∀ y ∈ Go.Proofs.YtidnlnlmmnkgoaaDoor.wl wait x, y < 8 := by
  unfold wvA wvC Go.Proofs.YtidnlnlmmnkgoaaDoor.wl
  cases hx : wait x with
  | none => exact ⟨⟨none, 0, rfl, Nat.le_refl _, by omega, rfl, fun h => absurd h (Nat.lt_irrefl _)⟩, Nat.zero_le _, fun y hy => by cases hy⟩
  | some l => exact ⟨h.rows x l hx, h.len x l hx⟩
theorem rLookW {P : Program} {ρ : Env} {o : Oper} {x y : Operand} {t kt et : Nat} {q : IntKind} {k : Nat} (h : WaitAt w b wm wait WA WC) (ho : o.op = .lookup t x y false) (ht : P.underlying t = some (.map kt et)) (hk : P.underlying kt = some (.int q)) (hz : (P.info? et).bind (·.zero) = some (.slice none 0 0)) (hx : ev ρ x = .map (some wm)) (hy : ev ρ y = .int .i64 (k : Int)) :
    Runs P ρ o w (.slice (wvA wait WA k) (wl wait k).length (wvC wait WC k)) := by
  have := rLook1 ho ht hk hz hx hy h.map
  have e : (wg wait WA WC (k : Int)).getD (.slice none 0 0) = .slice (wvA wait WA k) (Go.Proofs.YtidnlnlmmnkgoaaDoor.wl wait k).length (wvC wait WC k) := by
    unfold wg wvA wvC Go.Proofs.YtidnlnlmmnkgoaaDoor.wl
    cases hw : wait k with
    | none => simp [hw]
    | some l => simp [hw]
  rw [e] at this
  exact this
end
theorem src_of_ints {P : Program} {w : World} {D : Nat → Prop} {A : Option Addr} {n c t e' : Nat} {l : List Int} (ht : P.underlying t = some (.slice e')) (h : Ints w D (.slice A n c) l) : Src P 1 t (.slice A n c) n (l.map (Value.int .i64)) w := by
  obtain ⟨A', c', hv, h1, h2, h3, h4⟩ := h
  injection hv with e1 e2 e3
  subst e1 e2 e3
  cases A with
  | none =>
    have : l = [] := by
      rcases Nat.eq_zero_or_pos l.length with h0 | h0
      · exact List.eq_nil_of_length_eq_zero h0
      · obtain ⟨b, o, hb, _⟩ := h4 h0; cases hb
    subst this
    exact Src.ofNil _ ht c
  | some a =>
    refine Src.ofSlice _ ht a l.length c _ (by simp) (fun j u hj => ?_) (fun u hu => ?_)
    · have hl : 0 < l.length := by have := (List.getElem?_eq_some_iff.1 hj).1; simp at this; omega
      obtain ⟨b, o, hb, _, hc⟩ := h4 hl
      injection hb with hb
      subst hb
      rw [Addr.add_lit]
      exact hc j u hj
    · obtain ⟨z, _, rfl⟩ := List.mem_map.1 hu
      rfl
theorem nodupL {α : Type} [BEq α] [LawfulBEq α] : ∀ (l r : List α), l.Nodup → (∀ x ∈ l, x ∈ r) → l.length ≤ r.length
  | [], _, _, _ => Nat.zero_le _
  | a :: l, r, hnd, hs => by
    obtain ⟨h1, h2⟩ := List.nodup_cons.1 hnd
    have ha := hs a (List.mem_cons_self ..)
    have := nodupL l (r.erase a) h2 (fun x hx => (List.mem_erase_of_ne (show x ≠ a from fun e => h1 (e ▸ hx))).2 (hs x (List.mem_cons_of_mem _ hx)))
    rw [List.length_erase_of_mem ha] at this
    have hp := List.length_pos_of_mem ha
    simp only [List.length_cons]
    omega
theorem ints_true {w : World} {base e c n : Nat} {A : Option Addr} {l : List Nat} (h : w.ownsRow base e 1 (.slice A n c) n (natV l)) (hn : l.length = n) : Ints w (fun _ => True) (.slice A n c) (intN l) := by
  subst hn
  have := Rd.of_own (D := fun _ => True) h (fun _ _ _ => trivial)
  unfold Ints
  rw [intN_len, ← natV_int]
  exact this
theorem Inv.winGet' {S : Nat → Prop} {w0 w : World} {H : List Ent} {e n c g o : Nat} {xs : List Value} {j : Nat} {u : Value} (hI : Inv S w0 w (Win e 1 (some ⟨g, o, none⟩) n c xs :: H)) (hj : xs[j]? = some u) : w.cell? ⟨g, o + j, none⟩ = some u := by
  obtain ⟨g', o', he, h⟩ := hI.winGet hj
  injection he with he
  injection he with h1 h2
  subst h1 h2
  exact h
set_option maxHeartbeats 4000000 in
theorem reached_any (b wm tx : Nat) (wait : Nat → Option (List Nat)) (WA : Nat → Option Addr) (WC : Nat → Nat) (w0 : World) (hWt : WaitAt w0 b wm wait WA WC) :
    Calls Tryd.prog 38 #[.pointer (some ⟨b, 0, none⟩), .int .i64 (tx : Int)] w0 fun en w' => ∃ A c, en = .returned (.slice A (reachF wait tx).length c) ∧ Inv (fun _ => False) w0 w' [Row 0 3 1 A (reachF wait tx).length c (natV (reachF wait tx))] := by
  have hI := Inv.start (fun _ => False) w0
  have hcell := hWt.cell
  obtain ⟨hw1, hw2, hw3⟩ := hWt.wl tx
  refine calls_of_W (N := Tryd.f38.ntmps) Tryd.func38 rfl rfl rfl ?_
  refine W_seq ?_
  refine W_region ?_
  refine WL_val rfl rfl rfl (by first | exact rAsgnS rfl rfl | exact rAsgn rfl) ?_
  refine WL_nil ?_
  refine W_seq ?_
  refine W_region ?_
  refine WL_val rfl rfl rfl (by first | exact rAsgnS rfl rfl | exact rAsgn rfl) ?_
  refine WL_nil ?_
  refine W_seq ?_
  refine W_seq ?_
  refine W_region ?_
  refine WL_val rfl rfl rfl (by first | exact rMoveP rfl rfl | exact rMove rfl) ?_
  refine WL_val rfl rfl rfl (rNilChk rfl rfl) ?_
  refine WL_val rfl rfl rfl (by first | exact rFldN (off := 11) rfl (by kernel_rfl) rfl | exact rFld (off := 11) rfl (by kernel_rfl) rfl) ?_
  refine WL_val rfl rfl rfl (by first | exact rLd (v := .map _) rfl (by kernel_rfl) rfl (by first | exact hI.c0 rfl | exact hI.oldp hcell | exact hcell) | exact rLd rfl (by kernel_rfl) rfl (by first | exact hI.c0 rfl | exact hI.oldp hcell | exact hcell)) ?_
  refine WL_val rfl rfl rfl (by first | exact rMoveI rfl rfl | exact rMove rfl) ?_
  refine WL_val rfl rfl rfl (rLookW hWt rfl Tryd.underlying46 Tryd.underlying3 (by kernel_rfl) rfl rfl) ?_
  refine WL_call rfl rfl rfl (rCall (vs := [.slice _ _ _]) rfl Tryd.func44 rfl rfl rfl) ?_
  refine (cloneI_any _ _ _ _ _ _ hw1 (by rw [intN_len]; omega)).mono ?_
  rintro e w1 ⟨A', c', rfl, hJ⟩
  refine ⟨_, rfl, ?_⟩
  replace hI := hI.app1 hJ
  refine WL_val rfl rfl rfl (by first | exact rAsgnS rfl rfl | exact rAsgn rfl) ?_
  refine WL_nil ?_
  rw [← natV_int] at hI
  replace hI := (Inv.fresh hI.winOf (Pure.refl _) (Row.nil _ 0 3 1) (fun k hk => by simp [Row] at hk)).sw0
  refine W_block ?_
  refine W_loopN (fun mu ρ w => ∃ (out l : List Nat) (A : Option Addr) (c : Nat) (A2 : Option Addr) (c2 : Nat), reachN mu (wl wait) out l = reachF wait tx ∧ (8 - out.length) * 9 + l.length < mu ∧ mu ≤ 200 ∧ out.Nodup ∧ (∀ y ∈ out, y < 8) ∧ (∀ y ∈ l, y < 8) ∧
    Has ρ [(0, .pointer (some ⟨b, 0, none⟩)), (5, .slice A out.length c), (6, .slice A2 l.length c2)] ∧ Inv (fun _ => False) w0 w [Win 3 1 A2 l.length c2 (natV l), Row 0 3 1 A out.length c (natV out)]) 200
    ⟨[], wl wait tx, none, 0, _, _, rfl, by simp; omega, by omega, .nil, by simp, hw3, ⟨rfl, rfl, rfl, trivial⟩, hI⟩ ?_
  clear hI
  rintro mu ρ w ⟨out, l, A, c, A2, c2, hre, hmu, hmu2, hnd, ho8, hl8, hH, hI⟩
  obtain ⟨σ, rfl⟩ := hH.open
  cases l with
  | nil =>
    refine W_seq ?_
    refine W_seq ?_
    refine W_region ?_
    refine WL_val rfl rfl rfl (by first | exact rMoveS rfl rfl | exact rMove rfl) ?_
    refine WL_val rfl rfl rfl (rLen rfl Tryd.underlying24 rfl) ?_
    refine WL_val rfl rfl rfl (by first | exact rGtrT rfl rfl rfl (by omega) | exact rGtrF rfl rfl rfl (by omega) | exact rGtr rfl rfl rfl) ?_
    refine WL_nil ?_
    refine W_cond false rfl ?_
    refine W_exit ?_
    refine W_seq ?_
    refine W_region ?_
    refine WL_val rfl rfl rfl (by first | exact rMoveS rfl rfl | exact rMove rfl) ?_
    refine WL_val rfl rfl rfl (by first | exact rAsgnS rfl rfl | exact rAsgn rfl) ?_
    refine WL_nil ?_
    refine W_ret ?_
    have e1 : out = reachF wait tx := by
      rw [← hre]
      cases mu <;> rfl
    rw [← e1]
    exact ret1 4 (.inr rfl) rfl ⟨A, c, rfl, hI.d0⟩
  | cons x l =>
    have hll : (x :: l).length = l.length + 1 := rfl
    obtain ⟨g, o, rfl, q0⟩ := hI.winGet (j := 0) (u := .int .i64 (x : Int)) rfl
    obtain ⟨hx1, hx2, hx3⟩ := (hWt.pure hI.pu).wl x
    have hx8 : x < 8 := hl8 x (by simp)
    obtain ⟨m, rfl⟩ : ∃ m, mu = m + 1 := ⟨mu - 1, by omega⟩
    have hol : out.length ≤ 8 := by
      have := nodupL out (List.range 8) hnd (fun y hy => List.mem_range.2 (ho8 y hy))
      simpa using this
    have hints : Ints w (fun _ => True) (.slice A out.length c) (intN out) := ints_true hI.g1 rfl
    rw [hll]
    refine W_seq ?_
    refine W_seq ?_
    refine W_region ?_
    refine WL_val rfl rfl rfl (by first | exact rMoveS rfl rfl | exact rMove rfl) ?_
    refine WL_val rfl rfl rfl (rLen rfl Tryd.underlying24 rfl) ?_
    refine WL_val rfl rfl rfl (by first | exact rGtrT rfl rfl rfl (by omega) | exact rGtrF rfl rfl rfl (by omega) | exact rGtr rfl rfl rfl) ?_
    refine WL_nil ?_
    refine W_cond true rfl ?_
    refine W_skip ?_
    refine W_seq ?_
    refine W_block ?_
    by_cases hxo : x ∈ out
    · refine W_seq ?_
      refine W_region ?_
      refine WL_val rfl rfl rfl (by first | exact rMoveS rfl rfl | exact rMove rfl) ?_
      refine WL_val rfl rfl rfl (by first | exact rMoveS rfl rfl | exact rMove rfl) ?_
      refine WL_val rfl rfl rfl (by first | exact rIdx0 (i := 0) rfl Tryd.underlying24 (by kernel_rfl) rfl rfl rfl (by omega) | exact rIdx1 (i := 0) rfl Tryd.underlying24 (by kernel_rfl) rfl rfl (by omega)) ?_
      refine WL_val rfl rfl rfl (by first | exact rLd (v := .int .i64 _) rfl (by kernel_rfl) rfl (by first | exact hI.c0 rfl | exact hI.oldp q0 | exact q0) | exact rLd rfl (by kernel_rfl) rfl (by first | exact hI.c0 rfl | exact hI.oldp q0 | exact q0)) ?_
      refine WL_call rfl rfl rfl (rCall (vs := [.slice _ _ _, .int .i64 _]) rfl Tryd.func17 rfl rfl rfl) ?_
      refine (conI_any A out.length c (intN out) (x : Int) _ _ hints).mono ?_
      rintro e w1 ⟨rfl, hp⟩
      rw [decide_eq_true (intN_mem.2 hxo)]
      refine ⟨_, rfl, ?_⟩
      replace hI := hI.pure hp
      refine WL_val rfl rfl rfl (by first | exact rNotT rfl rfl | exact rNotF rfl rfl | exact rNot rfl rfl) ?_
      refine WL_nil ?_
      refine W_cond false rfl ?_
      refine W_skip ?_
      refine W_region ?_
      refine WL_val rfl rfl rfl (by first | exact rMoveS rfl rfl | exact rMove rfl) ?_
      refine WL_val rfl rfl rfl (by first | exact rSliceFrom (sz := 1) (i := 1) rfl Tryd.underlying24 (by kernel_rfl) rfl rfl (by omega) (by omega) | exact rSliceFromG (sz := 1) (i := 1) rfl Tryd.underlying24 (by kernel_rfl) rfl rfl (by omega)) ?_
      refine WL_val rfl rfl rfl (by first | exact rAsgnS rfl rfl | exact rAsgn rfl) ?_
      refine WL_nil ?_
      rw [reachN, if_pos hxo] at hre
      have hln : (x :: l).length - 1 = l.length := rfl
      refine ⟨m, by omega, out, l, A, c, _, _, hre, by rw [hll] at hmu; omega, by omega, hnd, ho8, fun y hy => hl8 y (by simp [hy]), ⟨rfl, rfl, rfl, trivial⟩, hI.winTail⟩
    · have hpg : out.length + 1 ≤ 8 := by
        have := nodupL (x :: out) (List.range 8) (List.nodup_cons.2 ⟨hxo, hnd⟩) (fun y hy => List.mem_range.2 (by
          rcases List.mem_cons.1 hy with rfl | hy
          · exact hx8
          · exact ho8 y hy))
        simpa using this
      refine W_seq ?_
      refine W_region ?_
      refine WL_val rfl rfl rfl (by first | exact rMoveS rfl rfl | exact rMove rfl) ?_
      refine WL_val rfl rfl rfl (by first | exact rMoveS rfl rfl | exact rMove rfl) ?_
      refine WL_val rfl rfl rfl (by first | exact rIdx0 (i := 0) rfl Tryd.underlying24 (by kernel_rfl) rfl rfl rfl (by omega) | exact rIdx1 (i := 0) rfl Tryd.underlying24 (by kernel_rfl) rfl rfl (by omega)) ?_
      refine WL_val rfl rfl rfl (by first | exact rLd (v := .int .i64 _) rfl (by kernel_rfl) rfl (by first | exact hI.c0 rfl | exact hI.oldp q0 | exact q0) | exact rLd rfl (by kernel_rfl) rfl (by first | exact hI.c0 rfl | exact hI.oldp q0 | exact q0)) ?_
      refine WL_call rfl rfl rfl (rCall (vs := [.slice _ _ _, .int .i64 _]) rfl Tryd.func17 rfl rfl rfl) ?_
      refine (conI_any A out.length c (intN out) (x : Int) _ _ hints).mono ?_
      rintro e w1 ⟨rfl, hp⟩
      rw [decide_eq_false (fun h => hxo (intN_mem.1 h))]
      refine ⟨_, rfl, ?_⟩
      replace hI := hI.pure hp
      refine WL_val rfl rfl rfl (by first | exact rNotT rfl rfl | exact rNotF rfl rfl | exact rNot rfl rfl) ?_
      refine WL_nil ?_
      refine W_cond true rfl ?_
      refine W_seq ?_
      refine W_region ?_
      refine WL_val rfl rfl rfl (by first | exact rMoveS rfl rfl | exact rMove rfl) ?_
      refine WL_val rfl rfl rfl (by first | exact rMoveS rfl rfl | exact rMove rfl) ?_
      refine WL_val rfl rfl rfl (by first | exact rIdx0 (i := 0) rfl Tryd.underlying24 (by kernel_rfl) rfl rfl rfl (by omega) | exact rIdx1 (i := 0) rfl Tryd.underlying24 (by kernel_rfl) rfl rfl (by omega)) ?_
      refine WL_val rfl rfl rfl (by first | exact rLd (v := .int .i64 _) rfl (by kernel_rfl) rfl (by first | exact hI.c0 rfl | exact (Inv.winGet' (j := 0) hI rfl)) | exact rLd rfl (by kernel_rfl) rfl (by first | exact hI.c0 rfl | exact (Inv.winGet' (j := 0) hI rfl))) ?_
      refine WL_lit (vs := [_]) (qs := [(0, .int .i64 _)]) [.int .i64 0] [0] hI rfl rfl rfl rfl rfl rfl Tryd.underlying24 (fun _ => by kernel_rfl) ?_
      clear hI; rintro b29 w - - hI
      first | refine WL_app2 (z := .int .i64 0) (by_ := 8) hI rfl rfl rfl rfl rfl rfl Tryd.underlying24 (by kernel_rfl) rfl (by omega) (by rfl) hI.lit0 (by first | rfl | simp [i64s, Value.oneCell']) (by omega) (by omega) (by first | exact Nat.zero_le _ | (have := hI.chg.size; omega)) ?_
      clear hI; rintro A30 c30 w hA30 hc30 hI
      replace hI := hI.d0
      refine WL_val rfl rfl rfl (by first | exact rAsgnS rfl rfl | exact rAsgn rfl) ?_
      refine WL_nil ?_
      refine W_draw (by kernel_rfl) ?_
      refine WA_inv (T := [9]) hI.drew ?_
      intro Sx hSx hXS
      replace hI := hI.drew
      refine WT_take 0 rfl rfl (by kernel_rfl) (hXS _ hI) rfl (fun W hW => have hI := hSx W hW; (by first | exact rMoveS rfl rfl | exact rMove rfl)) ?_
      refine WT_take 1 rfl rfl (by kernel_rfl) (hXS _ hI) rfl (fun W hW => have hI := hSx W hW; (by first | exact rMoveP rfl rfl | exact rMove rfl)) ?_
      refine WT_take 2 rfl rfl (by kernel_rfl) (hXS _ hI) rfl (fun W hW => have hI := hSx W hW; (rNilChk rfl rfl)) ?_
      refine WT_take 3 rfl rfl (by kernel_rfl) (hXS _ hI) rfl (fun W hW => have hI := hSx W hW; (by first | exact rFldN (off := 11) rfl (by kernel_rfl) rfl | exact rFld (off := 11) rfl (by kernel_rfl) rfl)) ?_
      refine WT_take 4 rfl rfl (by kernel_rfl) (hXS _ hI) rfl (fun W hW => have hI := hSx W hW; (by first | exact rLd (v := .map _) rfl (by kernel_rfl) rfl (by first | exact hI.c0 rfl | exact hI.oldp hcell | exact hcell | exact (Inv.winGet' (j := 0) hI rfl)) | exact rLd rfl (by kernel_rfl) rfl (by first | exact hI.c0 rfl | exact hI.oldp hcell | exact hcell | exact (Inv.winGet' (j := 0) hI rfl)))) ?_
      refine WT_take 5 rfl rfl (by kernel_rfl) (hXS _ hI) rfl (fun W hW => have hI := hSx W hW; (by first | exact rMoveS rfl rfl | exact rMove rfl)) ?_
      refine WT_take 6 rfl rfl (by kernel_rfl) (hXS _ hI) rfl (fun W hW => have hI := hSx W hW; (by first | exact rIdx0 (i := 0) rfl Tryd.underlying24 (by kernel_rfl) rfl rfl rfl (by omega) | exact rIdx1 (i := 0) rfl Tryd.underlying24 (by kernel_rfl) rfl rfl (by omega))) ?_
      refine WT_take 7 rfl rfl (by kernel_rfl) (hXS _ hI) rfl (fun W hW => have hI := hSx W hW; (by first | exact rLd (v := .int .i64 _) rfl (by kernel_rfl) rfl (by first | exact hI.c0 rfl | exact hI.oldp hcell | exact hcell | exact (Inv.winGet' (j := 0) hI rfl)) | exact rLd rfl (by kernel_rfl) rfl (by first | exact hI.c0 rfl | exact hI.oldp hcell | exact hcell | exact (Inv.winGet' (j := 0) hI rfl)))) ?_
      refine WT_take 8 rfl rfl (by kernel_rfl) (hXS _ hI) rfl (fun W hW => have hI := hSx W hW; (rLookW (hWt.pure hI.pu) rfl Tryd.underlying46 Tryd.underlying3 (by kernel_rfl) rfl rfl)) ?_
      refine WT_A (by kernel_rfl) ?_
      clear hXS hSx
      refine WA_one 9 rfl (by kernel_rfl) ?_
      refine WL_appW (z := .int .i64 0) (by_ := 8) _ hI rfl rfl rfl rfl rfl rfl Tryd.underlying24 (by kernel_rfl) rfl (by omega) (src_of_ints Tryd.underlying24 ((hWt.pure hI.pu).wl x).1) (by omega) (by omega) ?_
      clear hI; rintro A40 c40 w hA hC hI
      refine WL_nil ?_
      refine WA_one 10 rfl (by kernel_rfl) ?_
      refine WL_val rfl rfl rfl (by first | exact rAsgnS rfl rfl | exact rAsgn rfl) ?_
      refine WL_nil ?_
      refine WA_end (by kernel_rfl) ?_
      have e1 : natV (x :: l) ++ (intN (wl wait x)).map (Value.int .i64) = .int .i64 (x : Int) :: natV (l ++ wl wait x) := by simp [natV, intN, Function.comp_def]
      have e2 : l.length + 1 + (wl wait x).length = (l ++ wl wait x).length + 1 := by rw [List.length_append]; omega
      rw [e1] at hI
      rw [hll, e2] at hI
      refine W_region ?_
      refine WL_val rfl rfl rfl (by first | exact rMoveS rfl rfl | exact rMove rfl) ?_
      refine WL_val rfl rfl rfl (by first | exact rSliceFrom (sz := 1) (i := 1) rfl Tryd.underlying24 (by kernel_rfl) rfl rfl (by omega) (by omega) | exact rSliceFromG (sz := 1) (i := 1) rfl Tryd.underlying24 (by kernel_rfl) rfl rfl (by omega)) ?_
      refine WL_val rfl rfl rfl (by first | exact rAsgnS rfl rfl | exact rAsgn rfl) ?_
      refine WL_nil ?_
      rw [reachN, if_neg hxo] at hre
      refine ⟨m, by omega, out ++ [x], l ++ wl wait x, A30, c30, (if c40 = 1 then A40 else A40.map (·.add (1 * 1))), c40 - 1, hre, by rw [hll] at hmu; simp; omega, by omega, List.nodup_append.2 ⟨hnd, by simp, fun y hy z hz => by rw [List.mem_singleton.1 hz]; exact fun e => hxo (e ▸ hy)⟩, fun y hy => ?_, fun y hy => ?_, ⟨rfl, by rw [List.length_append]; rfl, ?_, trivial⟩, ?_⟩
      · rcases List.mem_append.1 hy with hy | hy
        · exact ho8 y hy
        · rw [List.mem_singleton.1 hy]; exact hx8
      · rcases List.mem_append.1 hy with hy | hy
        · exact hl8 y (by simp [hy])
        · exact hx3 y hy
      · show Value.slice _ _ _ = Value.slice _ _ _
        congr 1
        rw [List.length_append]
        omega
      · have h9 := hI.winTail
        rw [show (out ++ [x]).length = out.length + 1 by simp]
        have e3 : natV (out ++ [x]) = natV out ++ [.int .i64 (x : Int)] := by simp [natV]
        rw [e3]
        exact h9
end Go.Proofs.YtidnlnlmmnkgoaaDoor
