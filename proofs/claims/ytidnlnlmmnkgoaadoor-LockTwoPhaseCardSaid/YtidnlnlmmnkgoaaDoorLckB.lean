/- lock: Play. -/
import Derived.Test.YtidnlnlmmnkgoaaDoorLckA
namespace Go.Proofs.YtidnlnlmmnkgoaaDoor
open Go.RowKit
set_option linter.unusedVariables false
set_option linter.unusedSimpArgs false
def roundsR (p : List (List St)) : Nat → Rn → Rn
  | 0, s => s
  | k + 1, s => roundR p (roundsR p k s)
def picksR (p : List (List St)) (picks : List Int) : Rn := picks.foldl (pickR p) (initR p.length)
def nils : Value := .agg #[.slice none 0 0, .slice none 0 0, .slice none 0 0]
/-- A run as it begins. -/
theorem Inv.run0 {S : Nat → Prop} {w0 w : World} {H : List Ent} {b ab ob wm wb n : Nat} {pv : Value} (h : Inv S w0 w ([B b 52 (runC (fun _ => none) (vsR pv ab ob wm wb n none 0 0 none 0 0)), MapE wm (fun _ => none), B ab 3 (rep (.int .i64 0) n), B ob 4 (rep (.bool false) n), B wb 3 (rep (.int .i64 0) n)] ++ H)) :
    Inv S w0 w (rpt ⟨b, fun _ => none, pv, ab, ob, wm, wb, n, none, 0, none, 0, fun _ => none, fun _ => 0⟩ (initR n) ++ H) := by
  have hn : ∀ (es : Nat → Ent) {H : List Ent}, (∀ i, es i = Ent.nil) → Inv S w0 w H → Inv S w0 w (Many 8 es :: H) := fun es H he hI =>
    hI.fresh (Pure.refl _) (Many.ok (fun i _ => by rw [he]; exact Ent.nil_ok _) (fun i j _ _ _ k hk => by rw [he] at hk; exact hk.elim)) (fun k ⟨i, _, hk⟩ => by rw [he] at hk; exact hk.elim)
  have h1 := hn (heldE (fun _ _ => 0) (fun _ => none)) (fun i => rfl) h
  have h2 := (h1.back 1)
  have h3 := (hn (waitE (fun _ => none) (fun _ => none) (fun _ => 0)) (fun i => rfl) h2).back 3
  have h4 := (h3.fresh (Pure.refl _) (Row.nil _ 0 40 3) (fun k hk => by simp [Row] at hk)).back 6
  have h5 := (h4.fresh (Pure.refl _) (Row.nil _ 0 3 1) (fun k hk => by simp [Row] at hk)).back 8
  have e1 : wg (fun _ => none) (fun _ => none) (fun _ => 0) = fun _ => none := by funext a; simp [wg]
  have e2 : (natV (List.replicate n 0)).toArray = rep (.int .i64 0) n := by simp [natV, rep]
  have e3 : (boolV (List.replicate n false)).toArray = rep (.bool false) n := by simp [boolV, rep]
  unfold rpt initR
  dsimp only
  rw [e1, e2, e3]
  exact h5
theorem over_bools {w : World} {ob n : Nat} {l : List Bool} (h : Blk w ob 4 (boolV l).toArray) (hl : l.length = n) (h8 : n ≤ 8) : Bools w (fun _ => True) (.slice (some ⟨ob, 0, none⟩) n n) l := by
  subst hl
  refine ⟨some ⟨ob, 0, none⟩, l.length, rfl, Nat.le_refl _, ?_, by simp, fun _ => ⟨ob, 0, rfl, trivial, fun j u hj => ?_⟩⟩
  · omega
  · rw [Nat.zero_add, h.cell]
    simpa [boolV] using hj
def RunI (w0 w : World) (b ab ob wm wb n : Nat) (pv : Value) (H : List Ent) (s : Rn) : Prop := ∃ mo DA dc VA vc WA WC, HOk s.held mo ∧ Inv (fun _ => False) w0 w (rpt ⟨b, mo, pv, ab, ob, wm, wb, n, DA, dc, VA, vc, WA, WC⟩ s ++ H)
theorem RunI.pure {w0 w w' : World} {b ab ob wm wb n : Nat} {pv : Value} {H : List Ent} {s : Rn} (h : RunI w0 w b ab ob wm wb n pv H s) (hp : Pure w w') : RunI w0 w' b ab ob wm wb n pv H s := by
  obtain ⟨mo, DA, dc, VA, vc, WA, WC, hO, hI⟩ := h
  exact ⟨mo, DA, dc, VA, vc, WA, WC, hO, hI.pure hp⟩
theorem RunI.over {w0 w : World} {b ab ob wm wb n : Nat} {pv : Value} {H : List Ent} {s : Rn} (h : RunI w0 w b ab ob wm wb n pv H s) (hl : s.over.length = n) (h8 : n ≤ 8) : w.cell? ⟨b, 10, none⟩ = some (.slice (some ⟨ob, 0, none⟩) n n) ∧ Bools w (fun _ => True) (.slice (some ⟨ob, 0, none⟩) n n) s.over := by
  obtain ⟨mo, DA, dc, VA, vc, WA, WC, hO, hI⟩ := h
  exact ⟨hI.c0 rfl, over_bools (hI.ok _ (List.mem_of_getElem? (i := 5) rfl)).1 hl h8⟩
theorem go_step (b ab ob wm wb n : Nat) (PA : Option Addr) (pc : Nat) (H : List Ent) (s : Rn) (p : List (List St)) (D : Nat → Prop) (w0 w : World) (m tx : Nat) (hR : RunI w0 w b ab ob wm wb n (.slice PA n pc) H s) (hPO : POk n p s m) (hm : m ≤ 2000) (ht : tx < n) (hpn : p.length = n) (hok : PlanOk p)
    (h : PlanAt w0 D (.slice PA n pc) p) (hD : ∀ k, D k → k < w0.heap.size) :
    Calls Tryd.prog 9 #[.pointer (some ⟨b, 0, none⟩), .int .i64 (tx : Int)] w fun en w' => en = .returned (.tuple #[]) ∧ RunI w0 w' b ab ob wm wb n (.slice PA n pc) H (goR p s tx) := by
  obtain ⟨mo, DA, dc, VA, vc, WA, WC, hO, hI⟩ := hR
  refine (goOn_any ⟨b, mo, .slice PA n pc, ab, ob, wm, wb, n, DA, dc, VA, vc, WA, WC⟩ s tx p PA pc D _ w (Inv.from hI) m hm (hPO.rn rfl (by have := hok.1; omega) hO) ht hpn hok rfl (h.chg (hI.pu.chg (fun _ => False)) (fun _ _ h => h)) (fun k hk ⟨e, he, hk2⟩ => ?_) (hPO.hat tx ht) (fun j y hy => ?_)).mono ?_
  · have h1 := (hI.own e (List.mem_append_left _ he) k hk2).resolve_left id
    have := hD k hk
    omega
  · rcases hy with hy | hy <;> exact hPO.sup j y (agTo_mem hy).1
  · rintro en w' ⟨mo', DA', dc', VA', vc', WA', WC', rfl, hO', hJ⟩
    exact ⟨rfl, mo', DA', dc', VA', vc', WA', WC', hO', Inv.turnL hI hJ⟩
def picksTo (p : List (List St)) (picks : List Int) (k : Nat) : Rn := (picks.take k).foldl (pickR p) (initR p.length)
theorem picksTo_succ (p : List (List St)) {picks : List Int} {k : Nat} {z : Int} (h : picks[k]? = some z) : picksTo p picks (k + 1) = pickR p (picksTo p picks k) z := by
  unfold picksTo
  rw [List.take_add_one, h]
  simp
theorem picksTo_ok {p : List (List St)} (hp : PlanOk p) (picks : List Int) : ∀ k, k ≤ picks.length → POk p.length p (picksTo p picks k) (2 * k)
  | 0, _ => POk.init p p.length
  | k + 1, hk => by
    have ih := picksTo_ok hp picks k (by omega)
    have hg : picks[k]? = some picks[k] := List.getElem?_eq_getElem (by omega)
    rw [picksTo_succ p hg]
    unfold pickR
    split
    · rename_i hz
      exact ih.go (by omega) rfl hp
    · exact ⟨ih.ats, ih.over, ih.waits, ih.two, ih.sup, by have := ih.dlen; omega, by have := ih.vlen; omega, ih.wlt, ih.wkey, fun y hy => by have := ih.wvals y hy; omega, ih.hat⟩
theorem fold_ok {p : List (List St)} (hp : PlanOk p) {s : Rn} {m : Nat} (h : POk p.length p s m) : ∀ j, j ≤ p.length → POk p.length p ((List.range j).foldl (goR p) s) (m + 2 * j)
  | 0, _ => h
  | j + 1, hj => by
    have ih := fold_ok hp h j (by omega)
    rw [List.range_succ, List.foldl_append]
    exact ih.go (by omega) rfl hp
theorem rounds_ok {p : List (List St)} (hp : PlanOk p) {s : Rn} {m : Nat} (h : POk p.length p s m) : ∀ k, POk p.length p (roundsR p k s) (m + 16 * k)
  | 0 => h
  | k + 1 => by
    have ih := fold_ok hp (rounds_ok hp h k) p.length (Nat.le_refl _)
    have h8 := hp.1
    exact ⟨ih.ats, ih.over, ih.waits, ih.two, ih.sup, by have := ih.dlen; show _ ≤ _; unfold roundsR roundR; omega, by have := ih.vlen; show _ ≤ _; unfold roundsR roundR; omega, ih.wlt, ih.wkey, fun y hy => by have := ih.wvals y hy; omega, ih.hat⟩
set_option maxHeartbeats 4000000 in
theorem play_any (PA : Option Addr) (n pc : Nat) (p : List (List St)) (KA : Option Addr) (kn kc : Nat) (picks : List Int) (D : Nat → Prop) (w0 : World) (h : PlanAt w0 D (.slice PA n pc) p) (hn : p.length = n) (hD : ∀ k, D k → k < w0.heap.size) (hK : Ints w0 (fun _ => True) (.slice KA kn kc) picks) (hsum : n ≤ 8 → n + sumTo p n ≤ 4611686018427387904)
    (N : Nat) (hN : PlanFits p → picks.length ≤ 200 → (∀ k, k < N → false ∈ (roundsR p k (picksR p picks)).over) ∧ false ∉ (roundsR p N (picksR p picks)).over ∧ 2 * (picks.length + 8 * N) ≤ 2000) :
    Calls Tryd.prog 4 #[.slice PA n pc, .slice KA kn kc] w0 fun en w' => ((¬ PlanFits p ∨ 200 < picks.length) ∧ ∃ v, ErrK v ∧ en = .returned (.tuple #[nils, v]) ∧ Pure w0 w') ∨
      (PlanFits p ∧ picks.length ≤ 200 ∧ ∃ DA dc wb VA vc, en = .returned (.tuple #[.agg #[.slice DA (roundsR p N (picksR p picks)).done.length dc, .slice (some ⟨wb, 0, none⟩) n n, .slice VA (roundsR p N (picksR p picks)).vict.length vc], .nilIface]) ∧
        Inv (fun _ => False) w0 w' [Row 0 40 3 DA (roundsR p N (picksR p picks)).done.length dc ((roundsR p N (picksR p picks)).done.flatMap stV), B wb 3 (natV (roundsR p N (picksR p picks)).waits).toArray, Row 0 3 1 VA (roundsR p N (picksR p picks)).vict.length vc (natV (roundsR p N (picksR p picks)).vict)]) := by
  subst hn
  have hI := Inv.start (fun _ => False) w0
  obtain ⟨hkn, hk1, hk2⟩ := hK.len
  subst hkn
  refine calls_of_W (N := Tryd.f4.ntmps) Tryd.func4 rfl rfl rfl ?_
  refine W_seq ?_
  refine W_region ?_
  refine WL_alloc (u := .agg #[.slice none 0 0, .slice none 0 0, .slice none 0 0]) (vs := #[.slice none 0 0, .slice none 0 0, .slice none 0 0]) hI rfl rfl rfl rfl (by kernel_rfl) rfl ?_
  clear hI; rintro b4 w - - hI
  refine WL_val rfl rfl rfl (by first | exact rAsgnN rfl rfl | exact rAsgnE rfl rfl | exact rAsgn rfl) ?_
  refine WL_nil ?_
  refine W_seq ?_
  refine W_seq ?_
  refine W_region ?_
  refine WL_val rfl rfl rfl (by first | exact rMoveS rfl rfl | exact rMove rfl) ?_
  refine WL_call rfl rfl rfl (rCall (vs := [.slice _ _ _]) rfl Tryd.func8 rfl rfl rfl) ?_
  refine (pcheck_any PA p.length pc p D _ (h.chg (hI.pu.chg (fun _ => False)) (fun _ _ h => h)) rfl hsum).mono ?_
  rintro e w1 ⟨⟨v, rfl, hv⟩, hp⟩
  refine ⟨_, rfl, ?_⟩
  replace hI := hI.pure hp
  refine WL_val rfl rfl rfl (by first | exact rAsgnN rfl rfl | exact rAsgnE rfl rfl | exact rAsgn rfl) ?_
  refine WL_nil ?_
  rcases hv with ⟨rfl, hfit⟩ | ⟨⟨cc, rfl⟩, hnf⟩
  rotate_left
  · refine W_seq ?_
    refine W_region ?_
    refine WL_val rfl rfl rfl (by first | exact rMoveN rfl rfl | exact rMoveE rfl rfl | exact rMove rfl) ?_
    refine WL_val rfl rfl rfl (by first | exact rIfaceNe rfl Tryd.underlying29 rfl rfl | exact rNilNe rfl Tryd.underlying29 rfl) ?_
    refine WL_nil ?_
    refine W_cond true rfl ?_
    refine W_seq ?_
    refine W_region ?_
    refine WL_val rfl rfl rfl (rBuild (qs := []) (vs := [_, _, _]) [.slice none 0 0, .slice none 0 0, .slice none 0 0] [] rfl rfl rfl (fun _ => by kernel_rfl)) ?_
    refine WL_val rfl rfl rfl (by first | exact rMoveN rfl rfl | exact rMoveE rfl rfl | exact rMove rfl) ?_
    first | refine WL_stw0 (u := .agg _) (vs := #[_, _, _]) (n := 3) hI rfl rfl rfl rfl rfl rfl (by kernel_rfl) rfl rfl rfl ?_ | refine WL_stw1 (u := .agg _) (vs := #[_, _, _]) (n := 3) hI rfl rfl rfl rfl rfl rfl (by kernel_rfl) rfl rfl rfl ?_ | refine WL_stw2 (u := .agg _) (vs := #[_, _, _]) (n := 3) hI rfl rfl rfl rfl rfl rfl (by kernel_rfl) rfl rfl rfl ?_ | refine WL_stw3 (u := .agg _) (vs := #[_, _, _]) (n := 3) hI rfl rfl rfl rfl rfl rfl (by kernel_rfl) rfl rfl rfl ?_ | refine WL_stw4 (u := .agg _) (vs := #[_, _, _]) (n := 3) hI rfl rfl rfl rfl rfl rfl (by kernel_rfl) rfl rfl rfl ?_ | refine WL_stw5 (u := .agg _) (vs := #[_, _, _]) (n := 3) hI rfl rfl rfl rfl rfl rfl (by kernel_rfl) rfl rfl rfl ?_
    clear hI; intro w hI
    refine WL_val rfl rfl rfl (by first | exact rAsgnN rfl rfl | exact rAsgnE rfl rfl | exact rAsgn rfl) ?_
    refine WL_nil ?_
    refine W_ret ?_
    refine retC2 (n := 3) (t := 27) (.inr rfl) rfl rfl (by kernel_rfl) (by kernel_rfl) rfl hI.g0 ?_
    exact .inl ⟨.inl hnf, _, ⟨cc, rfl⟩, rfl, hI.pu⟩
  obtain ⟨hp8, hps⟩ := hfit.2
  by_cases hk200 : 200 < picks.length
  · refine W_seq ?_
    refine W_region ?_
    refine WL_val rfl rfl rfl (by first | exact rMoveN rfl rfl | exact rMoveE rfl rfl | exact rMove rfl) ?_
    refine WL_val rfl rfl rfl (by first | exact rIfaceNe rfl Tryd.underlying29 rfl rfl | exact rNilNe rfl Tryd.underlying29 rfl) ?_
    refine WL_nil ?_
    refine W_cond false rfl ?_
    refine W_skip ?_
    refine W_seq ?_
    refine W_seq ?_
    refine W_region ?_
    refine WL_val rfl rfl rfl (by first | exact rMoveS rfl rfl | exact rMove rfl) ?_
    refine WL_val rfl rfl rfl (rLen rfl Tryd.underlying24 rfl) ?_
    refine WL_val rfl rfl rfl (by first | exact rGtrT rfl rfl rfl (by omega) | exact rGtrF rfl rfl rfl (by omega) | exact rGtr rfl rfl rfl) ?_
    refine WL_nil ?_
    refine W_cond true rfl ?_
    refine W_seq ?_
    refine W_region ?_
    refine WL_val rfl rfl rfl (rBuild (qs := []) (vs := [_, _, _]) [.slice none 0 0, .slice none 0 0, .slice none 0 0] [] rfl rfl rfl (fun _ => by kernel_rfl)) ?_
    refine WL_val rfl rfl rfl (rIface rfl Tryd.underlying43 rfl rfl) ?_
    first | refine WL_stw0 (u := .agg _) (vs := #[_, _, _]) (n := 3) hI rfl rfl rfl rfl rfl rfl (by kernel_rfl) rfl rfl rfl ?_ | refine WL_stw1 (u := .agg _) (vs := #[_, _, _]) (n := 3) hI rfl rfl rfl rfl rfl rfl (by kernel_rfl) rfl rfl rfl ?_ | refine WL_stw2 (u := .agg _) (vs := #[_, _, _]) (n := 3) hI rfl rfl rfl rfl rfl rfl (by kernel_rfl) rfl rfl rfl ?_ | refine WL_stw3 (u := .agg _) (vs := #[_, _, _]) (n := 3) hI rfl rfl rfl rfl rfl rfl (by kernel_rfl) rfl rfl rfl ?_ | refine WL_stw4 (u := .agg _) (vs := #[_, _, _]) (n := 3) hI rfl rfl rfl rfl rfl rfl (by kernel_rfl) rfl rfl rfl ?_ | refine WL_stw5 (u := .agg _) (vs := #[_, _, _]) (n := 3) hI rfl rfl rfl rfl rfl rfl (by kernel_rfl) rfl rfl rfl ?_
    clear hI; intro w hI
    refine WL_val rfl rfl rfl (by first | exact rAsgnN rfl rfl | exact rAsgnE rfl rfl | exact rAsgn rfl) ?_
    refine WL_nil ?_
    refine W_ret ?_
    refine retC2 (n := 3) (t := 27) (.inr rfl) rfl rfl (by kernel_rfl) (by kernel_rfl) rfl hI.g0 ?_
    exact .inl ⟨.inr (by omega), _, ⟨4, rfl⟩, rfl, hI.pu⟩
  refine W_seq ?_
  refine W_region ?_
  refine WL_val rfl rfl rfl (by first | exact rMoveN rfl rfl | exact rMoveE rfl rfl | exact rMove rfl) ?_
  refine WL_val rfl rfl rfl (by first | exact rIfaceNe rfl Tryd.underlying29 rfl rfl | exact rNilNe rfl Tryd.underlying29 rfl) ?_
  refine WL_nil ?_
  refine W_cond false rfl ?_
  refine W_skip ?_
  refine W_seq ?_
  refine W_seq ?_
  refine W_region ?_
  refine WL_val rfl rfl rfl (by first | exact rMoveS rfl rfl | exact rMove rfl) ?_
  refine WL_val rfl rfl rfl (rLen rfl Tryd.underlying24 rfl) ?_
  refine WL_val rfl rfl rfl (by first | exact rGtrT rfl rfl rfl (by omega) | exact rGtrF rfl rfl rfl (by omega) | exact rGtr rfl rfl rfl) ?_
  refine WL_nil ?_
  refine W_cond false rfl ?_
  refine W_skip ?_
  have hn60 : p.length ≤ 8 := by omega
  refine W_seq_cut (fun ρ w => ∃ b ab ob wm, Has ρ [(0, .slice PA p.length pc), (1, .slice KA picks.length kc), (4, .pointer (some ⟨b4, 0, none⟩)), (7, .pointer (some ⟨b, 0, none⟩))] ∧ Inv (fun _ => False) w0 w [B b 52 #[.map none, .map none, .map none, .map none, .map none, .map none, .map none, .map none, .slice PA p.length pc, .slice (some ⟨ab, 0, none⟩) p.length p.length, .slice (some ⟨ob, 0, none⟩) p.length p.length, .map (some wm), .slice none 0 0, .slice none 0 0, .slice none 0 0], MapE wm (fun _ => none), B ab 3 (rep (.int .i64 0) p.length), B ob 4 (rep (.bool false) p.length), B b4 27 #[.slice none 0 0, .slice none 0 0, .slice none 0 0]]) ?_ ?_
  · refine W_draw (by kernel_rfl) ?_
    refine WA_inv (T := []) hI.drew ?_
    intro Sx hSx hXS
    replace hI := hI.drew
    refine WT_take 0 rfl rfl (by kernel_rfl) (hXS _ hI) rfl (fun W hW => have hI := hSx W hW; (by first | exact rMoveS rfl rfl | exact rMove rfl)) ?_
    refine WT_take 1 rfl rfl (by kernel_rfl) (hXS _ hI) rfl (fun W hW => have hI := hSx W hW; (by first | exact rMoveS rfl rfl | exact rMove rfl)) ?_
    refine WT_take 2 rfl rfl (by kernel_rfl) (hXS _ hI) rfl (fun W hW => have hI := hSx W hW; (rLen rfl Tryd.underlying23 rfl)) ?_
    refine WT_take 4 rfl rfl (by kernel_rfl) (hXS _ hI) rfl (fun W hW => have hI := hSx W hW; (by first | exact rMoveS rfl rfl | exact rMove rfl)) ?_
    refine WT_take 5 rfl rfl (by kernel_rfl) (hXS _ hI) rfl (fun W hW => have hI := hSx W hW; (rLen rfl Tryd.underlying23 rfl)) ?_
    refine WT_three 3 6 7 rfl rfl rfl (by kernel_rfl) rfl rfl rfl ?_ ?_ ?_
    · refine WL_mk (by_ := 8) (z := .int .i64 0) hI rfl rfl rfl rfl rfl rfl Tryd.underlying24 (by kernel_rfl) rfl (by omega) (by omega) ?_
      clear hI; rintro b25 w - - hI
      refine WL_nil ⟨hXS _ hI.d0, ?_⟩
      refine WT_two 6 7 rfl rfl (by kernel_rfl) rfl rfl ?_ ?_
      · refine WL_mk (by_ := 1) (z := .bool false) hI rfl rfl rfl rfl rfl rfl Tryd.underlying45 (by kernel_rfl) rfl (by omega) (by omega) ?_
        clear hI; rintro b28 w - - hI
        refine WL_nil ⟨hXS _ hI.d0.d0, ?_⟩
        refine WT_one 7 rfl (by kernel_rfl) rfl ?_
        refine WL_mkMap hI rfl rfl rfl rfl ?_
        clear hI; rintro b29 w hI
        refine WL_nil ⟨hXS _ hI.d0.d0.d0, ?_⟩
        refine WT_take 8 rfl rfl (by kernel_rfl) (hXS _ hI.d0.d0.d0) rfl (fun W hW => have hI := hSx W hW; (rBuild (qs := [(1, .slice _ _ _), (2, .slice _ _ _), (3, .slice _ _ _), (4, .map _)]) (vs := [_, _, _, _, _, _, _, _, _, _, _, _, _, _, _]) [.map none, .map none, .map none, .map none, .map none, .map none, .map none, .map none, .slice none 0 0, .slice none 0 0, .slice none 0 0, .map none, .slice none 0 0, .slice none 0 0, .slice none 0 0] [8, 9, 10, 11] rfl rfl rfl (fun _ => by kernel_rfl))) ?_
        refine WT_one 9 rfl (by kernel_rfl) rfl ?_
        refine WL_box (u := .agg _) (vs := _) hI rfl rfl rfl rfl rfl rfl ?_
        clear hI; rintro b31 w - - hI
        refine WL_nil ⟨hXS _ hI.d0.d0.d0.d0, ?_⟩
        refine WT_take 10 rfl rfl (by kernel_rfl) (hXS _ hI.d0.d0.d0.d0) rfl (fun W hW => have hI := hSx W hW; (by first | exact rAsgnP rfl rfl | exact rAsgn rfl)) ?_
        refine WT_end (by kernel_rfl) ?_
        exact ⟨b31, b25, b28, b29, ⟨rfl, rfl, rfl, rfl, trivial⟩, by first | exact hI | exact hI.sw1 | exact hI.sw2 | exact hI.sw1.sw2 | exact hI.sw2.sw1 | exact hI.sw1.sw2.sw1⟩
      · refine WL_mkMap hI rfl rfl rfl rfl ?_
        clear hI; rintro b29 w hI
        refine WL_nil ⟨hXS _ hI.d0.d0, ?_⟩
        refine WT_one 6 rfl (by kernel_rfl) rfl ?_
        refine WL_mk (by_ := 1) (z := .bool false) hI rfl rfl rfl rfl rfl rfl Tryd.underlying45 (by kernel_rfl) rfl (by omega) (by omega) ?_
        clear hI; rintro b28 w - - hI
        refine WL_nil ⟨hXS _ hI.d0.d0.d0, ?_⟩
        refine WT_take 8 rfl rfl (by kernel_rfl) (hXS _ hI.d0.d0.d0) rfl (fun W hW => have hI := hSx W hW; (rBuild (qs := [(1, .slice _ _ _), (2, .slice _ _ _), (3, .slice _ _ _), (4, .map _)]) (vs := [_, _, _, _, _, _, _, _, _, _, _, _, _, _, _]) [.map none, .map none, .map none, .map none, .map none, .map none, .map none, .map none, .slice none 0 0, .slice none 0 0, .slice none 0 0, .map none, .slice none 0 0, .slice none 0 0, .slice none 0 0] [8, 9, 10, 11] rfl rfl rfl (fun _ => by kernel_rfl))) ?_
        refine WT_one 9 rfl (by kernel_rfl) rfl ?_
        refine WL_box (u := .agg _) (vs := _) hI rfl rfl rfl rfl rfl rfl ?_
        clear hI; rintro b31 w - - hI
        refine WL_nil ⟨hXS _ hI.d0.d0.d0.d0, ?_⟩
        refine WT_take 10 rfl rfl (by kernel_rfl) (hXS _ hI.d0.d0.d0.d0) rfl (fun W hW => have hI := hSx W hW; (by first | exact rAsgnP rfl rfl | exact rAsgn rfl)) ?_
        refine WT_end (by kernel_rfl) ?_
        exact ⟨b31, b25, b28, b29, ⟨rfl, rfl, rfl, rfl, trivial⟩, by first | exact hI | exact hI.sw1 | exact hI.sw2 | exact hI.sw1.sw2 | exact hI.sw2.sw1 | exact hI.sw1.sw2.sw1⟩
    · refine WL_mk (by_ := 1) (z := .bool false) hI rfl rfl rfl rfl rfl rfl Tryd.underlying45 (by kernel_rfl) rfl (by omega) (by omega) ?_
      clear hI; rintro b28 w - - hI
      refine WL_nil ⟨hXS _ hI.d0, ?_⟩
      refine WT_two 3 7 rfl rfl (by kernel_rfl) rfl rfl ?_ ?_
      · refine WL_mk (by_ := 8) (z := .int .i64 0) hI rfl rfl rfl rfl rfl rfl Tryd.underlying24 (by kernel_rfl) rfl (by omega) (by omega) ?_
        clear hI; rintro b25 w - - hI
        refine WL_nil ⟨hXS _ hI.d0.d0, ?_⟩
        refine WT_one 7 rfl (by kernel_rfl) rfl ?_
        refine WL_mkMap hI rfl rfl rfl rfl ?_
        clear hI; rintro b29 w hI
        refine WL_nil ⟨hXS _ hI.d0.d0.d0, ?_⟩
        refine WT_take 8 rfl rfl (by kernel_rfl) (hXS _ hI.d0.d0.d0) rfl (fun W hW => have hI := hSx W hW; (rBuild (qs := [(1, .slice _ _ _), (2, .slice _ _ _), (3, .slice _ _ _), (4, .map _)]) (vs := [_, _, _, _, _, _, _, _, _, _, _, _, _, _, _]) [.map none, .map none, .map none, .map none, .map none, .map none, .map none, .map none, .slice none 0 0, .slice none 0 0, .slice none 0 0, .map none, .slice none 0 0, .slice none 0 0, .slice none 0 0] [8, 9, 10, 11] rfl rfl rfl (fun _ => by kernel_rfl))) ?_
        refine WT_one 9 rfl (by kernel_rfl) rfl ?_
        refine WL_box (u := .agg _) (vs := _) hI rfl rfl rfl rfl rfl rfl ?_
        clear hI; rintro b31 w - - hI
        refine WL_nil ⟨hXS _ hI.d0.d0.d0.d0, ?_⟩
        refine WT_take 10 rfl rfl (by kernel_rfl) (hXS _ hI.d0.d0.d0.d0) rfl (fun W hW => have hI := hSx W hW; (by first | exact rAsgnP rfl rfl | exact rAsgn rfl)) ?_
        refine WT_end (by kernel_rfl) ?_
        exact ⟨b31, b25, b28, b29, ⟨rfl, rfl, rfl, rfl, trivial⟩, by first | exact hI | exact hI.sw1 | exact hI.sw2 | exact hI.sw1.sw2 | exact hI.sw2.sw1 | exact hI.sw1.sw2.sw1⟩
      · refine WL_mkMap hI rfl rfl rfl rfl ?_
        clear hI; rintro b29 w hI
        refine WL_nil ⟨hXS _ hI.d0.d0, ?_⟩
        refine WT_one 3 rfl (by kernel_rfl) rfl ?_
        refine WL_mk (by_ := 8) (z := .int .i64 0) hI rfl rfl rfl rfl rfl rfl Tryd.underlying24 (by kernel_rfl) rfl (by omega) (by omega) ?_
        clear hI; rintro b25 w - - hI
        refine WL_nil ⟨hXS _ hI.d0.d0.d0, ?_⟩
        refine WT_take 8 rfl rfl (by kernel_rfl) (hXS _ hI.d0.d0.d0) rfl (fun W hW => have hI := hSx W hW; (rBuild (qs := [(1, .slice _ _ _), (2, .slice _ _ _), (3, .slice _ _ _), (4, .map _)]) (vs := [_, _, _, _, _, _, _, _, _, _, _, _, _, _, _]) [.map none, .map none, .map none, .map none, .map none, .map none, .map none, .map none, .slice none 0 0, .slice none 0 0, .slice none 0 0, .map none, .slice none 0 0, .slice none 0 0, .slice none 0 0] [8, 9, 10, 11] rfl rfl rfl (fun _ => by kernel_rfl))) ?_
        refine WT_one 9 rfl (by kernel_rfl) rfl ?_
        refine WL_box (u := .agg _) (vs := _) hI rfl rfl rfl rfl rfl rfl ?_
        clear hI; rintro b31 w - - hI
        refine WL_nil ⟨hXS _ hI.d0.d0.d0.d0, ?_⟩
        refine WT_take 10 rfl rfl (by kernel_rfl) (hXS _ hI.d0.d0.d0.d0) rfl (fun W hW => have hI := hSx W hW; (by first | exact rAsgnP rfl rfl | exact rAsgn rfl)) ?_
        refine WT_end (by kernel_rfl) ?_
        exact ⟨b31, b25, b28, b29, ⟨rfl, rfl, rfl, rfl, trivial⟩, by first | exact hI | exact hI.sw1 | exact hI.sw2 | exact hI.sw1.sw2 | exact hI.sw2.sw1 | exact hI.sw1.sw2.sw1⟩
    · refine WL_mkMap hI rfl rfl rfl rfl ?_
      clear hI; rintro b29 w hI
      refine WL_nil ⟨hXS _ hI.d0, ?_⟩
      refine WT_two 3 6 rfl rfl (by kernel_rfl) rfl rfl ?_ ?_
      · refine WL_mk (by_ := 8) (z := .int .i64 0) hI rfl rfl rfl rfl rfl rfl Tryd.underlying24 (by kernel_rfl) rfl (by omega) (by omega) ?_
        clear hI; rintro b25 w - - hI
        refine WL_nil ⟨hXS _ hI.d0.d0, ?_⟩
        refine WT_one 6 rfl (by kernel_rfl) rfl ?_
        refine WL_mk (by_ := 1) (z := .bool false) hI rfl rfl rfl rfl rfl rfl Tryd.underlying45 (by kernel_rfl) rfl (by omega) (by omega) ?_
        clear hI; rintro b28 w - - hI
        refine WL_nil ⟨hXS _ hI.d0.d0.d0, ?_⟩
        refine WT_take 8 rfl rfl (by kernel_rfl) (hXS _ hI.d0.d0.d0) rfl (fun W hW => have hI := hSx W hW; (rBuild (qs := [(1, .slice _ _ _), (2, .slice _ _ _), (3, .slice _ _ _), (4, .map _)]) (vs := [_, _, _, _, _, _, _, _, _, _, _, _, _, _, _]) [.map none, .map none, .map none, .map none, .map none, .map none, .map none, .map none, .slice none 0 0, .slice none 0 0, .slice none 0 0, .map none, .slice none 0 0, .slice none 0 0, .slice none 0 0] [8, 9, 10, 11] rfl rfl rfl (fun _ => by kernel_rfl))) ?_
        refine WT_one 9 rfl (by kernel_rfl) rfl ?_
        refine WL_box (u := .agg _) (vs := _) hI rfl rfl rfl rfl rfl rfl ?_
        clear hI; rintro b31 w - - hI
        refine WL_nil ⟨hXS _ hI.d0.d0.d0.d0, ?_⟩
        refine WT_take 10 rfl rfl (by kernel_rfl) (hXS _ hI.d0.d0.d0.d0) rfl (fun W hW => have hI := hSx W hW; (by first | exact rAsgnP rfl rfl | exact rAsgn rfl)) ?_
        refine WT_end (by kernel_rfl) ?_
        exact ⟨b31, b25, b28, b29, ⟨rfl, rfl, rfl, rfl, trivial⟩, by first | exact hI | exact hI.sw1 | exact hI.sw2 | exact hI.sw1.sw2 | exact hI.sw2.sw1 | exact hI.sw1.sw2.sw1⟩
      · refine WL_mk (by_ := 1) (z := .bool false) hI rfl rfl rfl rfl rfl rfl Tryd.underlying45 (by kernel_rfl) rfl (by omega) (by omega) ?_
        clear hI; rintro b28 w - - hI
        refine WL_nil ⟨hXS _ hI.d0.d0, ?_⟩
        refine WT_one 3 rfl (by kernel_rfl) rfl ?_
        refine WL_mk (by_ := 8) (z := .int .i64 0) hI rfl rfl rfl rfl rfl rfl Tryd.underlying24 (by kernel_rfl) rfl (by omega) (by omega) ?_
        clear hI; rintro b25 w - - hI
        refine WL_nil ⟨hXS _ hI.d0.d0.d0, ?_⟩
        refine WT_take 8 rfl rfl (by kernel_rfl) (hXS _ hI.d0.d0.d0) rfl (fun W hW => have hI := hSx W hW; (rBuild (qs := [(1, .slice _ _ _), (2, .slice _ _ _), (3, .slice _ _ _), (4, .map _)]) (vs := [_, _, _, _, _, _, _, _, _, _, _, _, _, _, _]) [.map none, .map none, .map none, .map none, .map none, .map none, .map none, .map none, .slice none 0 0, .slice none 0 0, .slice none 0 0, .map none, .slice none 0 0, .slice none 0 0, .slice none 0 0] [8, 9, 10, 11] rfl rfl rfl (fun _ => by kernel_rfl))) ?_
        refine WT_one 9 rfl (by kernel_rfl) rfl ?_
        refine WL_box (u := .agg _) (vs := _) hI rfl rfl rfl rfl rfl rfl ?_
        clear hI; rintro b31 w - - hI
        refine WL_nil ⟨hXS _ hI.d0.d0.d0.d0, ?_⟩
        refine WT_take 10 rfl rfl (by kernel_rfl) (hXS _ hI.d0.d0.d0.d0) rfl (fun W hW => have hI := hSx W hW; (by first | exact rAsgnP rfl rfl | exact rAsgn rfl)) ?_
        refine WT_end (by kernel_rfl) ?_
        exact ⟨b31, b25, b28, b29, ⟨rfl, rfl, rfl, rfl, trivial⟩, by first | exact hI | exact hI.sw1 | exact hI.sw2 | exact hI.sw1.sw2 | exact hI.sw2.sw1 | exact hI.sw1.sw2.sw1⟩
  clear hI
  rintro ρ w ⟨b, ab, ob, wm, hH, hI⟩
  obtain ⟨σ, rfl⟩ := hH.open
  refine W_seq ?_
  refine W_region ?_
  refine WL_val rfl rfl rfl (by first | exact rMoveP rfl rfl | exact rMove rfl) ?_
  refine WL_val rfl rfl rfl (by first | exact rMoveS rfl rfl | exact rMove rfl) ?_
  refine WL_val rfl rfl rfl (rLen rfl Tryd.underlying23 rfl) ?_
  refine WL_mk (by_ := 8) (z := .int .i64 0) hI rfl rfl rfl rfl rfl rfl Tryd.underlying24 (by kernel_rfl) rfl (by omega) (by omega) ?_
  clear hI; rintro b35 w - - hI
  refine WL_val rfl rfl rfl (rNilChk rfl rfl) ?_
  refine WL_val rfl rfl rfl (by first | exact rFldN (off := 12) rfl (by kernel_rfl) rfl | exact rFld (off := 12) rfl (by kernel_rfl) rfl) ?_
  refine WL_val rfl rfl rfl (by first | exact rFldN (off := 1) rfl (by kernel_rfl) rfl | exact rFld (off := 1) rfl (by kernel_rfl) rfl) ?_
  refine WL_st1 (u := .slice _ _ _) (j := 13) hI rfl rfl rfl rfl rfl rfl (by kernel_rfl) rfl rfl rfl ?_
  clear hI; intro w hI
  refine WL_nil ?_
  replace hI := Inv.run0 (H := [B b4 27 #[.slice none 0 0, .slice none 0 0, .slice none 0 0]]) (hI.back 4)
  have hpok := hfit.ok
  obtain ⟨hN1, hN2, hN3⟩ := hN hfit (by omega)
  have hRI : RunI w0 w b ab ob wm b35 p.length (.slice PA p.length pc) [B b4 27 #[.slice none 0 0, .slice none 0 0, .slice none 0 0]] (picksTo p picks 0) := ⟨_, _, _, _, _, _, _, fun _ _ _ _ => rfl, hI⟩
  clear hI
  refine W_seq_cut (fun ρ w => Has ρ [(0, .slice PA p.length pc), (4, .pointer (some ⟨b4, 0, none⟩)), (7, .pointer (some ⟨b, 0, none⟩))] ∧ RunI w0 w b ab ob wm b35 p.length (.slice PA p.length pc) [B b4 27 #[.slice none 0 0, .slice none 0 0, .slice none 0 0]] (picksR p picks)) ?_ ?_
  · refine W_seq ?_
    refine W_region ?_
    refine WL_val rfl rfl rfl (by first | exact rMoveS rfl rfl | exact rMove rfl) ?_
    refine WL_val rfl rfl rfl (rLen rfl Tryd.underlying24 rfl) ?_
    refine WL_val rfl rfl rfl (by first | exact rMoveI rfl rfl | exact rMove rfl) ?_
    refine WL_nil ?_
    refine W_block ?_
    refine W_loop (fun ρ w => ∃ k : Nat, k ≤ picks.length ∧ Has ρ [(41, .int .i64 ((k : Nat) : Int)), (40, .int .i64 (picks.length : Int)), (39, .slice KA picks.length kc), (0, .slice PA p.length pc), (4, .pointer (some ⟨b4, 0, none⟩)), (7, .pointer (some ⟨b, 0, none⟩))] ∧ RunI w0 w b ab ob wm b35 p.length (.slice PA p.length pc) [B b4 27 #[.slice none 0 0, .slice none 0 0, .slice none 0 0]] (picksTo p picks k)) (fun ρ _ => picks.length - cnt (ρ 41))
      ⟨0, by omega, ⟨rfl, rfl, rfl, rfl, rfl, rfl, trivial⟩, hRI⟩ ?_
    clear hRI
    rintro ρ w ⟨k, hk, hH, hRI⟩
    obtain ⟨σ, rfl⟩ := hH.open
    by_cases hkl : k < picks.length
    · have hpu : Pure w0 w := by obtain ⟨_, _, _, _, _, _, _, _, hI⟩ := hRI; exact hI.pu
      have hI := (Inv.start (fun _ => False) w0).pure hpu
      obtain ⟨kb, ko, rfl, q0⟩ := hK.at hkl
      have hg : picks[k]? = some (picks.getD k 0) := by simp [List.getD, hkl]
      have hps := picksTo_succ p hg
      have hpk := picksTo_ok hpok picks k (by omega)
      obtain ⟨z, hz⟩ : ∃ z, picks.getD k 0 = z := ⟨_, rfl⟩
      rw [hz] at q0 hps
      refine W_seq ?_
      refine W_region ?_
      refine WL_val rfl rfl rfl (by first | exact rLssT rfl rfl rfl (by omega) | exact rLssF rfl rfl rfl (by omega) | exact rLss rfl rfl rfl) ?_
      refine WL_nil ?_
      refine W_seq ?_
      refine W_cond true rfl ?_
      refine W_skip ?_
      refine W_seq ?_
      refine W_block ?_
      refine W_seq ?_
      refine W_region ?_
      refine WL_val rfl rfl rfl (by first | exact rIdx0 rfl Tryd.underlying24 (by kernel_rfl) rfl rfl rfl (by omega) | exact rIdx1 rfl Tryd.underlying24 (by kernel_rfl) rfl rfl (by omega)) ?_
      refine WL_val rfl rfl rfl (by first | exact rLd (v := .int .i64 _) rfl (by kernel_rfl) rfl (by first | exact hI.c0 rfl | exact hI.oldp q0 | exact q0) | exact rLd rfl (by kernel_rfl) rfl (by first | exact hI.c0 rfl | exact hI.oldp q0 | exact q0)) ?_
      refine WL_val rfl rfl rfl (by first | exact rAsgnI rfl rfl | exact rAsgn rfl) ?_
      refine WL_nil ?_
      by_cases hz0 : 0 ≤ z
      · by_cases hzn : z < p.length
        · refine W_seq ?_
          refine W_region ?_
          refine WL_val rfl rfl rfl (by first | exact rMoveI rfl rfl | exact rMove rfl) ?_
          refine WL_val rfl rfl rfl (by first | exact rGeqT rfl rfl rfl (by omega) | exact rGeqF rfl rfl rfl (by omega) | exact rGeq rfl rfl rfl) ?_
          refine WL_val rfl rfl rfl (by first | exact rMoveB rfl rfl | exact rMove rfl) ?_
          first | refine WL_val rfl rfl rfl (by first | exact rMoveI rfl rfl | exact rMove rfl) ?_ | refine WL_skip rfl rfl rfl ?_
          first | refine WL_val rfl rfl rfl (by first | exact rMoveS rfl rfl | exact rMove rfl) ?_ | refine WL_skip rfl rfl rfl ?_
          first | refine WL_val rfl rfl rfl (rLen rfl Tryd.underlying23 rfl) ?_ | refine WL_skip rfl rfl rfl ?_
          first | refine WL_val rfl rfl rfl (by first | exact rLssT rfl rfl rfl (by omega) | exact rLssF rfl rfl rfl (by omega) | exact rLss rfl rfl rfl) ?_ | refine WL_skip rfl rfl rfl ?_
          refine WL_val rfl rfl rfl (by first | exact rPickTB rfl rfl rfl | exact rPickFB rfl rfl rfl | exact rPickB rfl rfl rfl rfl) ?_
          refine WL_nil ?_
          refine W_cond true rfl ?_
          obtain ⟨tx, rfl⟩ : ∃ tx : Nat, z = (tx : Int) := ⟨z.toNat, by omega⟩
          have hpe : pickR p (picksTo p picks k) (tx : Int) = goR p (picksTo p picks k) tx := by unfold pickR; rw [if_pos ⟨hz0, hzn⟩]; rfl
          refine W_region ?_
          refine WL_val rfl rfl rfl (by first | exact rMoveP rfl rfl | exact rMove rfl) ?_
          refine WL_val rfl rfl rfl (by first | exact rMoveI rfl rfl | exact rMove rfl) ?_
          refine WL_call rfl rfl rfl (rCall (vs := [.pointer _, .int .i64 _]) rfl Tryd.func9 rfl rfl rfl) ?_
          refine (go_step b ab ob wm b35 p.length PA pc _ _ p D w0 _ (2 * k) tx hRI hpk (by omega) (by omega) rfl hpok h hD).mono ?_
          rintro e w1 ⟨rfl, hRI2⟩
          refine ⟨_, rfl, ?_⟩
          refine WL_nil ?_
          refine W_region ?_
          refine WL_val rfl rfl rfl (by first | exact rInc rfl rfl rfl (by omega) | exact rAdd rfl rfl rfl (by omega) | exact rAddW rfl rfl rfl) ?_
          refine WL_val rfl rfl rfl (by first | exact rMoveI rfl rfl | exact rMove rfl) ?_
          refine WL_nil ?_
          exact ⟨⟨k + 1, by omega, ⟨rfl, rfl, rfl, rfl, rfl, rfl, trivial⟩, by rw [hps, hpe]; exact hRI2⟩, by show picks.length - ((k + 1 : Nat) : Int).toNat < picks.length - (k : Int).toNat; omega⟩
        · refine W_seq ?_
          refine W_region ?_
          refine WL_val rfl rfl rfl (by first | exact rMoveI rfl rfl | exact rMove rfl) ?_
          refine WL_val rfl rfl rfl (by first | exact rGeqT rfl rfl rfl (by omega) | exact rGeqF rfl rfl rfl (by omega) | exact rGeq rfl rfl rfl) ?_
          refine WL_val rfl rfl rfl (by first | exact rMoveB rfl rfl | exact rMove rfl) ?_
          first | refine WL_val rfl rfl rfl (by first | exact rMoveI rfl rfl | exact rMove rfl) ?_ | refine WL_skip rfl rfl rfl ?_
          first | refine WL_val rfl rfl rfl (by first | exact rMoveS rfl rfl | exact rMove rfl) ?_ | refine WL_skip rfl rfl rfl ?_
          first | refine WL_val rfl rfl rfl (rLen rfl Tryd.underlying23 rfl) ?_ | refine WL_skip rfl rfl rfl ?_
          first | refine WL_val rfl rfl rfl (by first | exact rLssT rfl rfl rfl (by omega) | exact rLssF rfl rfl rfl (by omega) | exact rLss rfl rfl rfl) ?_ | refine WL_skip rfl rfl rfl ?_
          refine WL_val rfl rfl rfl (by first | exact rPickTB rfl rfl rfl | exact rPickFB rfl rfl rfl | exact rPickB rfl rfl rfl rfl) ?_
          refine WL_nil ?_
          refine W_cond false rfl ?_
          refine W_skip ?_
          have hpe : pickR p (picksTo p picks k) z = picksTo p picks k := by unfold pickR; rw [if_neg (fun h => hzn h.2)]
          refine W_region ?_
          refine WL_val rfl rfl rfl (by first | exact rInc rfl rfl rfl (by omega) | exact rAdd rfl rfl rfl (by omega) | exact rAddW rfl rfl rfl) ?_
          refine WL_val rfl rfl rfl (by first | exact rMoveI rfl rfl | exact rMove rfl) ?_
          refine WL_nil ?_
          exact ⟨⟨k + 1, by omega, ⟨rfl, rfl, rfl, rfl, rfl, rfl, trivial⟩, by rw [hps, hpe]; exact hRI⟩, by show picks.length - ((k + 1 : Nat) : Int).toNat < picks.length - (k : Int).toNat; omega⟩
      · refine W_seq ?_
        refine W_region ?_
        refine WL_val rfl rfl rfl (by first | exact rMoveI rfl rfl | exact rMove rfl) ?_
        refine WL_val rfl rfl rfl (by first | exact rGeqT rfl rfl rfl (by omega) | exact rGeqF rfl rfl rfl (by omega) | exact rGeq rfl rfl rfl) ?_
        refine WL_val rfl rfl rfl (by first | exact rMoveB rfl rfl | exact rMove rfl) ?_
        refine WL_skip rfl rfl rfl ?_
        refine WL_skip rfl rfl rfl ?_
        refine WL_skip rfl rfl rfl ?_
        refine WL_skip rfl rfl rfl ?_
        refine WL_val rfl rfl rfl (by first | exact rPickTB rfl rfl rfl | exact rPickFB rfl rfl rfl | exact rPickB rfl rfl rfl rfl) ?_
        refine WL_nil ?_
        refine W_cond false rfl ?_
        refine W_skip ?_
        have hpe : pickR p (picksTo p picks k) z = picksTo p picks k := by unfold pickR; rw [if_neg (fun h => hz0 h.1)]
        refine W_region ?_
        refine WL_val rfl rfl rfl (by first | exact rInc rfl rfl rfl (by omega) | exact rAdd rfl rfl rfl (by omega) | exact rAddW rfl rfl rfl) ?_
        refine WL_val rfl rfl rfl (by first | exact rMoveI rfl rfl | exact rMove rfl) ?_
        refine WL_nil ?_
        exact ⟨⟨k + 1, by omega, ⟨rfl, rfl, rfl, rfl, rfl, rfl, trivial⟩, by rw [hps, hpe]; exact hRI⟩, by show picks.length - ((k + 1 : Nat) : Int).toNat < picks.length - (k : Int).toNat; omega⟩
    · obtain rfl : k = picks.length := by omega
      have hI := Inv.start (fun _ => False) w
      refine W_seq ?_
      refine W_region ?_
      refine WL_val rfl rfl rfl (by first | exact rLssT rfl rfl rfl (by omega) | exact rLssF rfl rfl rfl (by omega) | exact rLss rfl rfl rfl) ?_
      refine WL_nil ?_
      refine W_seq ?_
      refine W_cond false rfl ?_
      refine W_exit ?_
      refine ⟨⟨rfl, rfl, rfl, trivial⟩, ?_⟩
      unfold picksTo at hRI
      rw [List.take_length] at hRI
      exact hRI
  clear hRI
  rintro ρ w ⟨hH, hRI⟩
  obtain ⟨σ, rfl⟩ := hH.open
  have hpk := picksTo_ok hpok picks picks.length (Nat.le_refl _)
  have hpe : picksTo p picks picks.length = picksR p picks := by unfold picksTo picksR; rw [List.take_length]
  rw [hpe] at hpk
  refine W_seq_cut (fun ρ w => Has ρ [(4, .pointer (some ⟨b4, 0, none⟩)), (7, .pointer (some ⟨b, 0, none⟩))] ∧ RunI w0 w b ab ob wm b35 p.length (.slice PA p.length pc) [B b4 27 #[.slice none 0 0, .slice none 0 0, .slice none 0 0]] (roundsR p N (picksR p picks))) ?_ ?_
  · refine W_block ?_
    refine W_loopN (fun mu ρ w => ∃ k : Nat, k ≤ N ∧ mu = N - k ∧ Has ρ [(0, .slice PA p.length pc), (4, .pointer (some ⟨b4, 0, none⟩)), (7, .pointer (some ⟨b, 0, none⟩))] ∧ RunI w0 w b ab ob wm b35 p.length (.slice PA p.length pc) [B b4 27 #[.slice none 0 0, .slice none 0 0, .slice none 0 0]] (roundsR p k (picksR p picks))) N
      ⟨0, by omega, rfl, ⟨rfl, rfl, rfl, trivial⟩, hRI⟩ ?_
    clear hRI
    rintro mu ρ w ⟨k, hk, rfl, hH, hRI⟩
    obtain ⟨σ, rfl⟩ := hH.open
    have hrk := rounds_ok hpok hpk k
    obtain ⟨q10, hbo⟩ := hRI.over hrk.over hn60
    by_cases hf : false ∈ (roundsR p k (picksR p picks)).over
    · have hkN : k < N := by
        rcases Nat.lt_or_ge k N with h1 | h1
        · exact h1
        · have : k = N := by omega
          subst this
          exact absurd hf hN2
      refine W_seq ?_
      refine W_seq ?_
      refine W_region ?_
      refine WL_val rfl rfl rfl (by first | exact rMoveP rfl rfl | exact rMove rfl) ?_
      refine WL_val rfl rfl rfl (rNilChk rfl rfl) ?_
      refine WL_val rfl rfl rfl (by first | exact rFldN (off := 10) rfl (by kernel_rfl) rfl | exact rFld (off := 10) rfl (by kernel_rfl) rfl) ?_
      refine WL_val rfl rfl rfl (by first | exact rLd (v := .slice _ _ _) rfl (by kernel_rfl) rfl (by first | exact hI.c0 rfl | exact q10) | exact rLd rfl (by kernel_rfl) rfl (by first | exact hI.c0 rfl | exact q10)) ?_
      refine WL_call rfl rfl rfl (rCall (vs := [.slice _ _ _, .bool _]) rfl Tryd.func10 rfl rfl rfl) ?_
      refine (conB_any _ _ _ _ false _ _ hbo).mono ?_
      rintro e w1 ⟨rfl, hp⟩
      rw [decide_eq_true hf]
      refine ⟨_, rfl, ?_⟩
      replace hRI := hRI.pure hp
      refine WL_nil ?_
      refine W_cond true rfl ?_
      refine W_skip ?_
      refine W_block ?_
      refine W_seq ?_
      refine W_region ?_
      refine WL_val rfl rfl rfl (by first | exact rMoveS rfl rfl | exact rMove rfl) ?_
      refine WL_val rfl rfl rfl (rLen rfl Tryd.underlying23 rfl) ?_
      refine WL_val rfl rfl rfl (by first | exact rMoveI rfl rfl | exact rMove rfl) ?_
      refine WL_nil ?_
      refine W_block ?_
      refine W_loop (fun ρ w => ∃ j : Nat, j ≤ p.length ∧ Has ρ [(64, .int .i64 ((j : Nat) : Int)), (63, .int .i64 (p.length : Int)), (0, .slice PA p.length pc), (4, .pointer (some ⟨b4, 0, none⟩)), (7, .pointer (some ⟨b, 0, none⟩))] ∧ RunI w0 w b ab ob wm b35 p.length (.slice PA p.length pc) [B b4 27 #[.slice none 0 0, .slice none 0 0, .slice none 0 0]] ((List.range j).foldl (goR p) (roundsR p k (picksR p picks)))) (fun ρ _ => p.length - cnt (ρ 64))
        ⟨0, by omega, ⟨rfl, rfl, rfl, rfl, rfl, trivial⟩, hRI⟩ ?_
      clear hRI
      rintro ρ w ⟨j, hj, hH, hRI⟩
      obtain ⟨σ, rfl⟩ := hH.open
      by_cases hjn : j < p.length
      · have hfk := fold_ok hpok hrk j hj
        refine W_seq ?_
        refine W_region ?_
        refine WL_val rfl rfl rfl (by first | exact rLssT rfl rfl rfl (by omega) | exact rLssF rfl rfl rfl (by omega) | exact rLss rfl rfl rfl) ?_
        refine WL_nil ?_
        refine W_seq ?_
        refine W_cond true rfl ?_
        refine W_skip ?_
        refine W_seq ?_
        refine W_block ?_
        refine W_seq ?_
        refine W_region ?_
        refine WL_val rfl rfl rfl (by first | exact rMoveI rfl rfl | exact rMove rfl) ?_
        refine WL_val rfl rfl rfl (by first | exact rAsgnI rfl rfl | exact rAsgn rfl) ?_
        refine WL_nil ?_
        refine W_region ?_
        refine WL_val rfl rfl rfl (by first | exact rMoveP rfl rfl | exact rMove rfl) ?_
        refine WL_val rfl rfl rfl (by first | exact rMoveI rfl rfl | exact rMove rfl) ?_
        refine WL_call rfl rfl rfl (rCall (vs := [.pointer _, .int .i64 _]) rfl Tryd.func9 rfl rfl rfl) ?_
        refine (go_step b ab ob wm b35 p.length PA pc _ _ p D w0 _ _ j hRI hfk (by omega) hjn rfl hpok h hD).mono ?_
        rintro e w1 ⟨rfl, hRI2⟩
        refine ⟨_, rfl, ?_⟩
        refine WL_nil ?_
        refine W_region ?_
        refine WL_val rfl rfl rfl (by first | exact rInc rfl rfl rfl (by omega) | exact rAdd rfl rfl rfl (by omega) | exact rAddW rfl rfl rfl) ?_
        refine WL_val rfl rfl rfl (by first | exact rMoveI rfl rfl | exact rMove rfl) ?_
        refine WL_nil ?_
        refine ⟨⟨j + 1, by omega, ⟨rfl, rfl, rfl, rfl, rfl, trivial⟩, ?_⟩, by show p.length - ((j + 1 : Nat) : Int).toNat < p.length - (j : Int).toNat; omega⟩
        rw [List.range_succ, List.foldl_append]
        exact hRI2
      · obtain rfl : j = p.length := by omega
        refine W_seq ?_
        refine W_region ?_
        refine WL_val rfl rfl rfl (by first | exact rLssT rfl rfl rfl (by omega) | exact rLssF rfl rfl rfl (by omega) | exact rLss rfl rfl rfl) ?_
        refine WL_nil ?_
        refine W_seq ?_
        refine W_cond false rfl ?_
        refine W_exit ?_
        exact ⟨N - (k + 1), by omega, k + 1, by omega, rfl, ⟨rfl, rfl, rfl, trivial⟩, hRI⟩
    · have hkN : k = N := by
        rcases Nat.lt_or_ge k N with h1 | h1
        · exact absurd (hN1 k h1) hf
        · omega
      subst hkN
      refine W_seq ?_
      refine W_seq ?_
      refine W_region ?_
      refine WL_val rfl rfl rfl (by first | exact rMoveP rfl rfl | exact rMove rfl) ?_
      refine WL_val rfl rfl rfl (rNilChk rfl rfl) ?_
      refine WL_val rfl rfl rfl (by first | exact rFldN (off := 10) rfl (by kernel_rfl) rfl | exact rFld (off := 10) rfl (by kernel_rfl) rfl) ?_
      refine WL_val rfl rfl rfl (by first | exact rLd (v := .slice _ _ _) rfl (by kernel_rfl) rfl (by first | exact hI.c0 rfl | exact q10) | exact rLd rfl (by kernel_rfl) rfl (by first | exact hI.c0 rfl | exact q10)) ?_
      refine WL_call rfl rfl rfl (rCall (vs := [.slice _ _ _, .bool _]) rfl Tryd.func10 rfl rfl rfl) ?_
      refine (conB_any _ _ _ _ false _ _ hbo).mono ?_
      rintro e w1 ⟨rfl, hp⟩
      rw [decide_eq_false hf]
      refine ⟨_, rfl, ?_⟩
      replace hRI := hRI.pure hp
      refine WL_nil ?_
      refine W_cond false rfl ?_
      refine W_exit ?_
      exact ⟨⟨rfl, rfl, trivial⟩, hRI⟩
  clear hRI
  rintro ρ w ⟨hH, mo, DA, dc, VA, vc, WA, WC, hO, hI⟩
  obtain ⟨σ, rfl⟩ := hH.open
  obtain ⟨sf, hsf⟩ : ∃ sf, roundsR p N (picksR p picks) = sf := ⟨_, rfl⟩
  rw [hsf] at hI
  rw [hsf]
  unfold rpt at hI
  dsimp only at hI
  replace hI := hI.pull 9 rfl
  refine W_seq ?_
  refine W_region ?_
  refine WL_val rfl rfl rfl (by first | exact rMoveP rfl rfl | exact rMove rfl) ?_
  refine WL_val rfl rfl rfl (rNilChk rfl rfl) ?_
  refine WL_val rfl rfl rfl (by first | exact rFldN (off := 12) rfl (by kernel_rfl) rfl | exact rFld (off := 12) rfl (by kernel_rfl) rfl) ?_
  refine WL_val rfl rfl rfl (by first | exact rLdB (n := 3) rfl (by kernel_rfl) (by kernel_rfl) rfl rfl hI.g0 | exact rLdB (n := 3) rfl (by kernel_rfl) (by kernel_rfl) rfl rfl hI.g1 | exact rLd3 rfl (by kernel_rfl) (by kernel_rfl) rfl (by first | exact hI.c0 rfl | exact hI.c1 rfl) (by first | exact hI.c0 rfl | exact hI.c1 rfl) (by first | exact hI.c0 rfl | exact hI.c1 rfl)) ?_
  first | refine WL_stw0 (u := .agg _) (vs := #[_, _, _]) (n := 3) hI rfl rfl rfl rfl rfl rfl (by kernel_rfl) rfl rfl rfl ?_ | refine WL_stw1 (u := .agg _) (vs := #[_, _, _]) (n := 3) hI rfl rfl rfl rfl rfl rfl (by kernel_rfl) rfl rfl rfl ?_
  clear hI; intro w hI
  refine WL_val rfl rfl rfl (by first | exact rAsgnN rfl rfl | exact rAsgnE rfl rfl | exact rAsgn rfl) ?_
  refine WL_nil ?_
  refine W_ret ?_
  refine retC2 (n := 3) (t := 27) (.inr rfl) rfl rfl (by kernel_rfl) (by kernel_rfl) rfl hI.g0 ?_
  exact .inr ⟨hfit, by omega, DA, dc, b35, VA, vc, rfl, ((((((hI.erase 0).erase 0).erase 0).erase 0).erase 0).erase 0).erase 0⟩
end Go.Proofs.YtidnlnlmmnkgoaaDoor
