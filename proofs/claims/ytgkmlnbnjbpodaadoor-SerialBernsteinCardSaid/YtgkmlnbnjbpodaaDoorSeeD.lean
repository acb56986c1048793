/- serial.Sees where an order is found. -/
import Derived.Test.YtgkmlnbnjbpodaaDoorSeeC
import Derived.Test.YtgkmlnbnjbpodaaDoorSxX
namespace Go.Proofs.YtgkmlnbnjbpodaaDoor
open Go.RowKit
set_option linter.unusedVariables false
set_option linter.unusedSimpArgs false
def stpF (d : List St) (k : Nat) (tx : Nat) : List Nat := (List.range k).filter fun i => decide ((sAt d i).tx = (tx : Int))
theorem stpF_succ (d : List St) (k tx : Nat) : stpF d (k + 1) tx = if (sAt d k).tx = (tx : Int) then stpF d k tx ++ [k] else stpF d k tx := by
  unfold stpF
  rw [List.range_succ, List.filter_append]
  by_cases h : (sAt d k).tx = (tx : Int)
  · rw [if_pos h, List.filter_cons_of_pos (by exact decide_eq_true h)]; rfl
  · rw [if_neg h, List.filter_cons_of_neg (by rw [decide_eq_false h]; exact Bool.false_ne_true)]; simp
theorem stpF_len (d : List St) (k tx : Nat) : (stpF d k tx).length ≤ k := Nat.le_trans (List.length_filter_le _ _) (by simp)
theorem stpF_lt {d : List St} {k tx x : Nat} (h : x ∈ stpF d k tx) : x < k := List.mem_range.1 (List.mem_filter.1 h).1
def mgS (f : Nat → List Nat) (A : Nat → Option Addr) (C : Nat → Nat) : Int → Option Value := fun a => if 0 ≤ a ∧ f a.toNat ≠ [] then some (.slice (A a.toNat) (f a.toNat).length (C a.toNat)) else none
theorem mgS_set (f : Nat → List Nat) (A : Nat → Option Addr) (C : Nat → Nat) (tx n : Nat) (l : List Nat) (B : Option Addr) (c : Nat) (hl : l ≠ []) (hn : n = l.length) :
    (fun j => if j = (tx : Int) then some (Value.slice B n c) else mgS f A C j) = mgS (fun x => if x = tx then l else f x) (fun x => if x = tx then B else A x) (fun x => if x = tx then c else C x) := by
  subst hn
  funext a
  unfold mgS
  by_cases ha : a = (tx : Int)
  · subst ha; simp [hl]
  · rw [if_neg ha]
    by_cases h0 : 0 ≤ a
    · have : ¬ a.toNat = tx := by omega
      simp [this]
    · simp [h0]
theorem mgS_get {f : Nat → List Nat} {A : Nat → Option Addr} {C : Nat → Nat} (h : ∀ x, f x = [] → A x = none ∧ C x = 0) (tx : Nat) : (mgS f A C (tx : Int)).getD (.slice none 0 0) = .slice (A tx) (f tx).length (C tx) := by
  unfold mgS
  by_cases hl : f tx = []
  · obtain ⟨h1, h2⟩ := h tx hl
    simp [hl, h1, h2]
  · simp [hl]
def stE (f : Nat → List Nat) (A : Nat → Option Addr) (C : Nat → Nat) (x : Nat) : Ent := Row 0 3 1 (A x) (f x).length (C x) (natV (f x))
theorem Inv.stset {S : Nat → Prop} {w0 w : World} {H : List Ent} {f : Nat → List Nat} {A : Nat → Option Addr} {C : Nat → Nat} {tx n c : Nat} {l : List Nat} {B : Option Addr}
    (h : Inv S w0 w (Row 0 3 1 B n c (natV l) :: Many 8 (fun j => if j = tx then Ent.nil else stE f A C j) :: H)) (ht : tx < 8) (hn : n = l.length) :
    Inv S w0 w (Many 8 (stE (fun x => if x = tx then l else f x) (fun x => if x = tx then B else A x) (fun x => if x = tx then c else C x)) :: H) := by
  subst hn
  refine (h.many_in ht (if_pos rfl)).many_congr fun i hi => ?_
  by_cases hit : i = tx
  · rw [if_pos hit]; unfold stE; dsimp only; rw [if_pos hit, if_pos hit, if_pos hit]
  · rw [if_neg hit, if_neg hit]; unfold stE; dsimp only; rw [if_neg hit, if_neg hit, if_neg hit]
def seesOk (l : List St) : Prop := commitsF l ≠ [] → tryF (doneF l) (commitsF l) (stpF (doneF l) (doneF l).length) (seeF (doneF l) (List.range (doneF l).length)) (commitsF l).length [] [] ≠ none
theorem natV_snoc (l : List Nat) (x : Nat) : natV (l ++ [x]) = natV l ++ [.int .i64 (x : Int)] := by simp [natV]
set_option maxHeartbeats 4000000 in
theorem sees_any (A : Option Addr) (n c : Nat) (l : List St) (D : Nat → Prop) (w0 : World) (h : Sts w0 D (.slice A n c) l) (hg : GlobOk w0) (hok : OkSteps l) (h6 : (commitsF l).length ≤ 6) (hfind : seesOk l) (htx : ∀ s ∈ doneF l, 0 ≤ s.tx ∧ s.tx < 8) :
    Calls Tryd.prog 11 #[.slice A n c] w0 fun en w' => (∃ A m c, en = .returned (.tuple #[.slice A m c, .nilIface])) ∧ Pure w0 w' := by
  have hI := Inv.start (fun _ => False) w0
  obtain ⟨hn, hc1, hc2⟩ := h.len
  have hl60 := hok.1
  have hdl : (doneF l).length ≤ 60 := Nat.le_trans (List.length_filter_le _ _) hl60
  unfold seesOk at hfind
  obtain ⟨d, hd⟩ : ∃ d, doneF l = d := ⟨_, rfl⟩
  obtain ⟨al, hal⟩ : ∃ al, commitsF l = al := ⟨_, rfl⟩
  rw [hd] at hdl hfind htx
  rw [hal] at h6 hfind
  refine calls_of_W (N := Tryd.f11.ntmps) Tryd.func11 rfl rfl rfl ?_
  refine W_seq ?_
  refine W_region ?_
  refine WL_val rfl rfl rfl (by first | exact rAsgnS rfl rfl | exact rAsgn rfl) ?_
  refine WL_val rfl rfl rfl (by first | exact rAsgnN rfl rfl | exact rAsgnE rfl rfl | exact rAsgn rfl) ?_
  refine WL_nil ?_
  refine W_seq ?_
  refine W_seq ?_
  refine W_region ?_
  refine WL_val rfl rfl rfl (by first | exact rMoveS rfl rfl | exact rMove rfl) ?_
  refine WL_call rfl rfl rfl (rCall (vs := [.slice _ _ _]) rfl Tryd.func21 rfl rfl rfl) ?_
  refine (check_any A n c l D _ (h.pure hI.pu) (hI.oldp hg)).mono ?_
  rintro e w1 ⟨⟨_, rfl⟩ | ⟨hbad, _⟩, hp⟩
  rotate_left
  · exact absurd hok hbad
  refine ⟨_, rfl, ?_⟩
  replace hI := hI.pure hp
  refine WL_val rfl rfl rfl (by first | exact rAsgnN rfl rfl | exact rAsgnE rfl rfl | exact rAsgn rfl) ?_
  refine WL_nil ?_
  refine W_seq ?_
  refine W_region ?_
  refine WL_val rfl rfl rfl (by first | exact rMoveN rfl rfl | exact rMoveE rfl rfl | exact rMove rfl) ?_
  refine WL_val rfl rfl rfl (by first | exact rIfaceNe rfl Tryd.underlying25 rfl rfl | exact rNilNe rfl Tryd.underlying25 rfl) ?_
  refine WL_nil ?_
  refine W_cond false rfl ?_
  refine W_skip ?_
  refine W_seq ?_
  refine W_region ?_
  refine WL_val rfl rfl rfl (by first | exact rMoveS rfl rfl | exact rMove rfl) ?_
  refine WL_call rfl rfl rfl (rCall (vs := [.slice _ _ _]) rfl Tryd.func15 rfl rfl rfl) ?_
  refine (commits_any A n c l D _ (h.pure hI.pu)).mono ?_
  rintro e w1 ⟨⟨v, rfl, CA, cc, rfl, hown⟩, hp⟩
  rw [hal] at hown ⊢
  refine ⟨_, rfl, ?_⟩
  replace hI := hI.freshR hp hown
  refine WL_alloc (u := .slice none 0 0) (vs := #[.slice none 0 0]) hI rfl rfl rfl rfl (by kernel_rfl) rfl ?_
  clear hI; rintro b5 w - - hI
  first | refine WL_stw0 (u := .slice _ _ _) (vs := #[_]) (n := 1) hI rfl rfl rfl rfl rfl rfl (by kernel_rfl) rfl rfl rfl ?_ | refine WL_stw1 (u := .slice _ _ _) (vs := #[_]) (n := 1) hI rfl rfl rfl rfl rfl rfl (by kernel_rfl) rfl rfl rfl ?_ | refine WL_stw2 (u := .slice _ _ _) (vs := #[_]) (n := 1) hI rfl rfl rfl rfl rfl rfl (by kernel_rfl) rfl rfl rfl ?_ | refine WL_stw3 (u := .slice _ _ _) (vs := #[_]) (n := 1) hI rfl rfl rfl rfl rfl rfl (by kernel_rfl) rfl rfl rfl ?_ | refine WL_stw4 (u := .slice _ _ _) (vs := #[_]) (n := 1) hI rfl rfl rfl rfl rfl rfl (by kernel_rfl) rfl rfl rfl ?_ | refine WL_stw5 (u := .slice _ _ _) (vs := #[_]) (n := 1) hI rfl rfl rfl rfl rfl rfl (by kernel_rfl) rfl rfl rfl ?_ | refine WL_st0 (u := .slice _ _ _) hI rfl rfl rfl rfl rfl rfl (by kernel_rfl) rfl rfl rfl ?_ | refine WL_st1 (u := .slice _ _ _) hI rfl rfl rfl rfl rfl rfl (by kernel_rfl) rfl rfl rfl ?_ | refine WL_st2 (u := .slice _ _ _) hI rfl rfl rfl rfl rfl rfl (by kernel_rfl) rfl rfl rfl ?_ | refine WL_st3 (u := .slice _ _ _) hI rfl rfl rfl rfl rfl rfl (by kernel_rfl) rfl rfl rfl ?_ | refine WL_st4 (u := .slice _ _ _) hI rfl rfl rfl rfl rfl rfl (by kernel_rfl) rfl rfl rfl ?_ | refine WL_st5 (u := .slice _ _ _) hI rfl rfl rfl rfl rfl rfl (by kernel_rfl) rfl rfl rfl ?_
  clear hI; intro w hI
  refine WL_nil ?_
  refine W_seq ?_
  refine W_seq ?_
  refine W_region ?_
  refine WL_val rfl rfl rfl (by first | exact rLd (v := .slice _ _ _) rfl (by kernel_rfl) rfl (by first | exact hI.c0 rfl | exact hI.c1 rfl | exact hI.c2 rfl | exact hI.c3 rfl | exact hI.c4 rfl | exact hI.c5 rfl) | exact rLd rfl (by kernel_rfl) rfl (by first | exact hI.c0 rfl | exact hI.c1 rfl | exact hI.c2 rfl | exact hI.c3 rfl | exact hI.c4 rfl | exact hI.c5 rfl)) ?_
  refine WL_val rfl rfl rfl (rLen rfl Tryd.underlying23 rfl) ?_
  refine WL_val rfl rfl rfl (by first | exact rGtrT rfl rfl rfl (by omega) | exact rGtrF rfl rfl rfl (by omega) | exact rGtr rfl rfl rfl) ?_
  refine WL_nil ?_
  refine W_cond false rfl ?_
  refine W_skip ?_
  refine W_seq ?_
  refine W_region ?_
  refine WL_val rfl rfl rfl (by first | exact rMoveS rfl rfl | exact rMove rfl) ?_
  refine WL_call rfl rfl rfl (rCall (vs := [.slice _ _ _]) rfl Tryd.func20 rfl rfl rfl) ?_
  refine (done_any A n c l D _ (h.pure hI.pu) (by omega)).mono ?_
  rintro e w1 ⟨⟨v, rfl, DA, dc, rfl, hown⟩, hp⟩
  rw [hd] at hown ⊢
  refine ⟨_, rfl, ?_⟩
  replace hI := hI.freshR hp hown
  refine WL_alloc (u := .slice none 0 0) (vs := #[.slice none 0 0]) hI rfl rfl rfl rfl (by kernel_rfl) rfl ?_
  clear hI; rintro b6 w - - hI
  first | refine WL_stw0 (u := .slice _ _ _) (vs := #[_]) (n := 1) hI rfl rfl rfl rfl rfl rfl (by kernel_rfl) rfl rfl rfl ?_ | refine WL_stw1 (u := .slice _ _ _) (vs := #[_]) (n := 1) hI rfl rfl rfl rfl rfl rfl (by kernel_rfl) rfl rfl rfl ?_ | refine WL_stw2 (u := .slice _ _ _) (vs := #[_]) (n := 1) hI rfl rfl rfl rfl rfl rfl (by kernel_rfl) rfl rfl rfl ?_ | refine WL_stw3 (u := .slice _ _ _) (vs := #[_]) (n := 1) hI rfl rfl rfl rfl rfl rfl (by kernel_rfl) rfl rfl rfl ?_ | refine WL_stw4 (u := .slice _ _ _) (vs := #[_]) (n := 1) hI rfl rfl rfl rfl rfl rfl (by kernel_rfl) rfl rfl rfl ?_ | refine WL_stw5 (u := .slice _ _ _) (vs := #[_]) (n := 1) hI rfl rfl rfl rfl rfl rfl (by kernel_rfl) rfl rfl rfl ?_ | refine WL_st0 (u := .slice _ _ _) hI rfl rfl rfl rfl rfl rfl (by kernel_rfl) rfl rfl rfl ?_ | refine WL_st1 (u := .slice _ _ _) hI rfl rfl rfl rfl rfl rfl (by kernel_rfl) rfl rfl rfl ?_ | refine WL_st2 (u := .slice _ _ _) hI rfl rfl rfl rfl rfl rfl (by kernel_rfl) rfl rfl rfl ?_ | refine WL_st3 (u := .slice _ _ _) hI rfl rfl rfl rfl rfl rfl (by kernel_rfl) rfl rfl rfl ?_ | refine WL_st4 (u := .slice _ _ _) hI rfl rfl rfl rfl rfl rfl (by kernel_rfl) rfl rfl rfl ?_ | refine WL_st5 (u := .slice _ _ _) hI rfl rfl rfl rfl rfl rfl (by kernel_rfl) rfl rfl rfl ?_
  clear hI; intro w hI
  refine WL_nil ?_
  refine W_seq ?_
  refine W_region ?_
  refine WL_val rfl rfl rfl (by first | exact rAsgnS rfl rfl | exact rAsgn rfl) ?_
  refine WL_nil ?_
  refine W_seq ?_
  refine W_region ?_
  refine WL_mkMap hI rfl rfl rfl rfl ?_
  clear hI; rintro wm w hI
  refine WL_alloc (u := .map none) (vs := #[.map none]) hI rfl rfl rfl rfl (by kernel_rfl) rfl ?_
  clear hI; rintro b8 w - - hI
  first | refine WL_stw0 (u := .map _) (vs := #[_]) (n := 1) hI rfl rfl rfl rfl rfl rfl (by kernel_rfl) rfl rfl rfl ?_ | refine WL_stw1 (u := .map _) (vs := #[_]) (n := 1) hI rfl rfl rfl rfl rfl rfl (by kernel_rfl) rfl rfl rfl ?_ | refine WL_stw2 (u := .map _) (vs := #[_]) (n := 1) hI rfl rfl rfl rfl rfl rfl (by kernel_rfl) rfl rfl rfl ?_ | refine WL_stw3 (u := .map _) (vs := #[_]) (n := 1) hI rfl rfl rfl rfl rfl rfl (by kernel_rfl) rfl rfl rfl ?_ | refine WL_stw4 (u := .map _) (vs := #[_]) (n := 1) hI rfl rfl rfl rfl rfl rfl (by kernel_rfl) rfl rfl rfl ?_ | refine WL_stw5 (u := .map _) (vs := #[_]) (n := 1) hI rfl rfl rfl rfl rfl rfl (by kernel_rfl) rfl rfl rfl ?_ | refine WL_st0 (u := .map _) hI rfl rfl rfl rfl rfl rfl (by kernel_rfl) rfl rfl rfl ?_ | refine WL_st1 (u := .map _) hI rfl rfl rfl rfl rfl rfl (by kernel_rfl) rfl rfl rfl ?_ | refine WL_st2 (u := .map _) hI rfl rfl rfl rfl rfl rfl (by kernel_rfl) rfl rfl rfl ?_ | refine WL_st3 (u := .map _) hI rfl rfl rfl rfl rfl rfl (by kernel_rfl) rfl rfl rfl ?_ | refine WL_st4 (u := .map _) hI rfl rfl rfl rfl rfl rfl (by kernel_rfl) rfl rfl rfl ?_ | refine WL_st5 (u := .map _) hI rfl rfl rfl rfl rfl rfl (by kernel_rfl) rfl rfl rfl ?_
  clear hI; intro w hI
  refine WL_nil ?_
  replace hI := hI.manyNil 8 0 3 1
  replace hI := hI.fresh (Pure.refl _) (Row.nil _ 0 3 1) (fun k hk => by simp [Row] at hk)
  refine W_seq_cut (fun ρ w => ∃ GA gc Ax Cx, Has ρ [(7, .slice GA d.length gc), (5, .pointer (some ⟨b5, 0, none⟩)), (6, .pointer (some ⟨b6, 0, none⟩)), (8, .pointer (some ⟨b8, 0, none⟩))] ∧ (∀ x, stpF d d.length x = [] → Ax x = none ∧ Cx x = 0) ∧
      Inv (fun _ => False) w0 w [Row 0 3 1 GA d.length gc (natV (List.range d.length)), Many 8 (stE (stpF d d.length) Ax Cx), B b8 59 #[.map (some wm)], MapE wm (mgS (stpF d d.length) Ax Cx), B b6 22 #[.slice DA d.length dc], Row 0 43 3 DA d.length dc (d.flatMap stV), B b5 23 #[.slice CA al.length cc], Row 0 3 1 CA al.length cc (natV al)]) ?_ ?_
  · refine W_seq ?_
    refine W_region ?_
    refine WL_val rfl rfl rfl (by first | exact rLd (v := .slice _ _ _) rfl (by kernel_rfl) rfl (by first | exact hI.c0 rfl | exact hI.c1 rfl | exact hI.c2 rfl | exact hI.c3 rfl | exact hI.c4 rfl | exact hI.c5 rfl) | exact rLd rfl (by kernel_rfl) rfl (by first | exact hI.c0 rfl | exact hI.c1 rfl | exact hI.c2 rfl | exact hI.c3 rfl | exact hI.c4 rfl | exact hI.c5 rfl)) ?_
    refine WL_val rfl rfl rfl (rLen rfl Tryd.underlying22 rfl) ?_
    refine WL_val rfl rfl rfl (by first | exact rMoveI rfl rfl | exact rMove rfl) ?_
    refine WL_nil ?_
    refine W_block ?_
    refine W_loop (fun ρ w => ∃ (k : Nat) (GA : Option Addr) (gc : Nat) (Ax : Nat → Option Addr) (Cx : Nat → Nat), k ≤ d.length ∧ Has ρ [(30, .int .i64 (k : Int)), (29, .int .i64 (d.length : Int)), (28, .slice DA d.length dc), (7, .slice GA k gc), (5, .pointer (some ⟨b5, 0, none⟩)), (6, .pointer (some ⟨b6, 0, none⟩)), (8, .pointer (some ⟨b8, 0, none⟩))] ∧ (∀ x, stpF d k x = [] → Ax x = none ∧ Cx x = 0) ∧
      Inv (fun _ => False) w0 w [Row 0 3 1 GA k gc (natV (List.range k)), Many 8 (stE (stpF d k) Ax Cx), B b8 59 #[.map (some wm)], MapE wm (mgS (stpF d k) Ax Cx), B b6 22 #[.slice DA d.length dc], Row 0 43 3 DA d.length dc (d.flatMap stV), B b5 23 #[.slice CA al.length cc], Row 0 3 1 CA al.length cc (natV al)]) (fun ρ _ => d.length - cnt (ρ 30))
      ⟨0, none, 0, fun _ => none, fun _ => 0, by omega, ⟨rfl, rfl, rfl, rfl, rfl, rfl, rfl, trivial⟩, fun _ _ => ⟨rfl, rfl⟩, by
        have e1 : mgS (stpF d 0) (fun _ => none) (fun _ => 0) = fun _ => none := by funext a; unfold mgS; rw [if_neg]; rintro ⟨_, h⟩; exact h rfl
        rw [e1]; exact hI⟩ ?_
    clear hI
    rintro ρ w ⟨k, GA, gc, Ax, Cx, hk, hH, hnil, hI⟩
    obtain ⟨σ, rfl⟩ := hH.open
    by_cases hkl : k < d.length
    · have hS : Sts w (fun _ => True) (.slice DA d.length dc) d := Rd.of_own (hI.ok _ (List.mem_of_getElem? (i := 5) rfl)).1 (fun _ _ _ => trivial)
      obtain ⟨b, o, hDA, y0, y1, y2⟩ := hS.at hkl
      subst hDA
      have hmem : sAt d k ∈ d := by unfold sAt; rw [List.getD_eq_getElem?_getD, List.getElem?_eq_getElem hkl]; exact List.getElem_mem _
      obtain ⟨ht0, ht8⟩ := htx _ hmem
      obtain ⟨st, hst⟩ : ∃ st, d.getD k ⟨0, 0, 0⟩ = st := ⟨_, rfl⟩
      have hst' : sAt d k = st := hst
      rw [hst'] at ht0 ht8
      rw [hst] at y0 y1 y2
      obtain ⟨tx, htx'⟩ : ∃ tx : Nat, st.tx = (tx : Int) := ⟨st.tx.toNat, by omega⟩
      have hstp : stpF d (k + 1) = fun x => if x = tx then stpF d k tx ++ [k] else stpF d k x := by
        funext x
        rw [stpF_succ, hst', htx']
        by_cases hx : x = tx
        · subst hx; rw [if_pos rfl, if_pos rfl]
        · rw [if_neg hx, if_neg (by omega)]
      have hsl := stpF_len d k tx
      obtain ⟨sx, sk, sy⟩ := st
      dsimp only at htx' ht0 ht8 y0 y1 y2
      subst htx'
      refine W_seq ?_
      refine W_region ?_
      refine WL_val rfl rfl rfl (by first | exact rLssT rfl rfl rfl (by omega) | exact rLssF rfl rfl rfl (by omega) | exact rLss rfl rfl rfl) ?_
      refine WL_nil ?_
      refine W_seq ?_
      refine W_cond true rfl ?_
      refine W_skip ?_
      refine W_seq ?_
      refine W_block ?_
      refine W_seq ?_
      refine W_region ?_
      refine WL_val rfl rfl rfl (by first | exact rMoveI rfl rfl | exact rMove rfl) ?_
      refine WL_val rfl rfl rfl (rIdx (sz := 3) rfl Tryd.underlying22 (by kernel_rfl) rfl rfl (by omega)) ?_
      refine WL_val rfl rfl rfl (by first | exact rLdB (n := 3) rfl (by kernel_rfl) (by kernel_rfl) rfl rfl hI.g0 | exact rLd3 rfl (by kernel_rfl) (by kernel_rfl) rfl (by first | exact hI.c0 rfl | exact hI.oldp y0 | exact y0 | exact hI.oldp y1 | exact y1 | exact hI.oldp y2 | exact y2) (by first | exact hI.c0 rfl | exact hI.oldp y0 | exact y0 | exact hI.oldp y1 | exact y1 | exact hI.oldp y2 | exact y2) (by first | exact hI.c0 rfl | exact hI.oldp y0 | exact y0 | exact hI.oldp y1 | exact y1 | exact hI.oldp y2 | exact y2)) ?_
      refine WL_alloc (u := .agg #[.int .i64 0, .int .i64 0, .int .i64 0]) (vs := #[.int .i64 0, .int .i64 0, .int .i64 0]) hI rfl rfl rfl rfl (by kernel_rfl) rfl ?_
      clear hI; rintro b10 w - - hI
      refine WL_val rfl rfl rfl (by first | exact rAsgnI rfl rfl | exact rAsgn rfl) ?_
      first | refine WL_stw0 (u := .agg _) (vs := #[_, _, _]) (n := 3) hI rfl rfl rfl rfl rfl rfl (by kernel_rfl) rfl rfl rfl ?_
      clear hI; intro w hI
      refine WL_nil ?_
      refine W_seq ?_
      refine W_region ?_
      refine WL_val rfl rfl rfl (by first | exact rMoveS rfl rfl | exact rMove rfl) ?_
      refine WL_val rfl rfl rfl (by first | exact rMoveI rfl rfl | exact rMove rfl) ?_
      refine WL_lit (vs := [_]) (qs := [(0, .int .i64 _)]) [.int .i64 0] [0] hI rfl rfl rfl rfl rfl rfl Tryd.underlying23 (fun _ => by kernel_rfl) ?_
      clear hI; rintro b37 w - - hI
      first | refine WL_app1 (z := .int .i64 0) (by_ := 8) hI rfl rfl rfl rfl rfl rfl Tryd.underlying23 (by kernel_rfl) rfl (by omega) (by rfl) hI.lit0 (by first | rfl | simp [i64s, Value.oneCell']) (by omega) (by omega) (by first | exact Nat.zero_le _ | (have := hI.chg.size; omega)) ?_ | refine WL_app2 (z := .int .i64 0) (by_ := 8) hI rfl rfl rfl rfl rfl rfl Tryd.underlying23 (by kernel_rfl) rfl (by omega) (by rfl) hI.lit0 (by first | rfl | simp [i64s, Value.oneCell']) (by omega) (by omega) (by first | exact Nat.zero_le _ | (have := hI.chg.size; omega)) ?_ | refine WL_app3 (z := .int .i64 0) (by_ := 8) hI rfl rfl rfl rfl rfl rfl Tryd.underlying23 (by kernel_rfl) rfl (by omega) (by rfl) hI.lit0 (by first | rfl | simp [i64s, Value.oneCell']) (by omega) (by omega) (by first | exact Nat.zero_le _ | (have := hI.chg.size; omega)) ?_ | refine WL_app4 (z := .int .i64 0) (by_ := 8) hI rfl rfl rfl rfl rfl rfl Tryd.underlying23 (by kernel_rfl) rfl (by omega) (by rfl) hI.lit0 (by first | rfl | simp [i64s, Value.oneCell']) (by omega) (by omega) (by first | exact Nat.zero_le _ | (have := hI.chg.size; omega)) ?_ | refine WL_app5 (z := .int .i64 0) (by_ := 8) hI rfl rfl rfl rfl rfl rfl Tryd.underlying23 (by kernel_rfl) rfl (by omega) (by rfl) hI.lit0 (by first | rfl | simp [i64s, Value.oneCell']) (by omega) (by omega) (by first | exact Nat.zero_le _ | (have := hI.chg.size; omega)) ?_
      clear hI; rintro A38 c38 w hA38 hc38 hI
      replace hI := hI.d0
      refine WL_val rfl rfl rfl (by first | exact rAsgnS rfl rfl | exact rAsgn rfl) ?_
      refine WL_nil ?_
      replace hI := (hI.pull 2 rfl).many_out (i := tx) (by omega)
      replace hI : Inv (fun _ => False) w0 w [Row 0 3 1 (Ax tx) (stpF d k tx).length (Cx tx) (natV (stpF d k tx)), Many 8 (fun j => if j = tx then Ent.nil else stE (stpF d k) Ax Cx j), B b10 43 (stV ⟨(tx : Int), sk, sy⟩).toArray, Row 0 3 1 A38 (k + 1) c38 (natV (List.range k) ++ [.int .i64 (k : Int)]), B b8 59 #[.map (some wm)], MapE wm (mgS (stpF d k) Ax Cx), B b6 22 #[.slice (some ⟨b, o, none⟩) d.length dc], Row 0 43 3 (some ⟨b, o, none⟩) d.length dc (d.flatMap stV), B b5 23 #[.slice CA al.length cc], Row 0 3 1 CA al.length cc (natV al)] := hI
      refine W_draw (by kernel_rfl) ?_
      refine WA_inv (T := [10]) hI.d0.drew ?_
      intro Sx hSx hXS
      replace hI := hI.drew
      refine WT_take 0 rfl rfl (by kernel_rfl) (hXS _ hI.d0) rfl (fun W hW => have hI := hSx W hW; (by first | exact rLd (v := .map _) rfl (by kernel_rfl) rfl (by first | exact hI.c0 rfl | exact hI.c1 rfl | exact hI.c2 rfl | exact hI.c3 rfl | exact hI.c4 rfl) | exact rLd rfl (by kernel_rfl) rfl (by first | exact hI.c0 rfl | exact hI.c1 rfl | exact hI.c2 rfl | exact hI.c3 rfl | exact hI.c4 rfl))) ?_
      refine WT_take 1 rfl rfl (by kernel_rfl) (hXS _ hI.d0) rfl (fun W hW => have hI := hSx W hW; (by first | exact rFldN (off := 0) rfl (by kernel_rfl) rfl | exact rFld0 rfl (by kernel_rfl) rfl)) ?_
      refine WT_take 2 rfl rfl (by kernel_rfl) (hXS _ hI.d0) rfl (fun W hW => have hI := hSx W hW; (by first | exact rLd (v := .int .i64 _) rfl (by kernel_rfl) rfl (by first | exact hI.c0 rfl | exact hI.c1 rfl | exact hI.c2 rfl | exact hI.c3 rfl | exact hI.c4 rfl) | exact rLd rfl (by kernel_rfl) rfl (by first | exact hI.c0 rfl | exact hI.c1 rfl | exact hI.c2 rfl | exact hI.c3 rfl | exact hI.c4 rfl))) ?_
      refine WT_take 3 rfl rfl (by kernel_rfl) (hXS _ hI.d0) rfl (fun W hW => have hI := hSx W hW; (by first | exact rLd (v := .map _) rfl (by kernel_rfl) rfl (by first | exact hI.c0 rfl | exact hI.c1 rfl | exact hI.c2 rfl | exact hI.c3 rfl | exact hI.c4 rfl) | exact rLd rfl (by kernel_rfl) rfl (by first | exact hI.c0 rfl | exact hI.c1 rfl | exact hI.c2 rfl | exact hI.c3 rfl | exact hI.c4 rfl))) ?_
      refine WT_take 4 rfl rfl (by kernel_rfl) (hXS _ hI.d0) rfl (fun W hW => have hI := hSx W hW; (by first | exact rFldN (off := 0) rfl (by kernel_rfl) rfl | exact rFld0 rfl (by kernel_rfl) rfl)) ?_
      refine WT_take 5 rfl rfl (by kernel_rfl) (hXS _ hI.d0) rfl (fun W hW => have hI := hSx W hW; (by first | exact rLd (v := .int .i64 _) rfl (by kernel_rfl) rfl (by first | exact hI.c0 rfl | exact hI.c1 rfl | exact hI.c2 rfl | exact hI.c3 rfl | exact hI.c4 rfl) | exact rLd rfl (by kernel_rfl) rfl (by first | exact hI.c0 rfl | exact hI.c1 rfl | exact hI.c2 rfl | exact hI.c3 rfl | exact hI.c4 rfl))) ?_
      refine WT_take 6 rfl rfl (by kernel_rfl) (hXS _ hI.d0) rfl (fun W hW => have hI := hSx W hW; (rLookSl (hI.ok _ (List.mem_of_getElem? (i := 4) rfl)).1 (mgS_get hnil tx) rfl Tryd.underlying59 Tryd.underlying3 (by kernel_rfl) rfl rfl)) ?_
      refine WT_take 7 rfl rfl (by kernel_rfl) (hXS _ hI.d0) rfl (fun W hW => have hI := hSx W hW; (by first | exact rMoveI rfl rfl | exact rMove rfl)) ?_
      refine WT_one 8 rfl (by kernel_rfl) rfl ?_
      refine WL_lit (vs := [_]) (qs := [(0, .int .i64 _)]) [.int .i64 0] [0] hI rfl rfl rfl rfl rfl rfl Tryd.underlying23 (fun _ => by kernel_rfl) ?_
      clear hI; rintro b47 w - - hI
      refine WL_nil ⟨hXS _ hI.d0.d0, ?_⟩
      refine WT_one 9 rfl (by kernel_rfl) rfl ?_
      first | refine WL_app1 (z := .int .i64 0) (by_ := 8) hI rfl rfl rfl rfl rfl rfl Tryd.underlying23 (by kernel_rfl) rfl (by omega) (by rfl) hI.lit0 (by first | rfl | simp [i64s, Value.oneCell']) (by omega) (by omega) (by first | exact Nat.zero_le _ | (have := hI.chg.size; omega)) ?_ | refine WL_app2 (z := .int .i64 0) (by_ := 8) hI rfl rfl rfl rfl rfl rfl Tryd.underlying23 (by kernel_rfl) rfl (by omega) (by rfl) hI.lit0 (by first | rfl | simp [i64s, Value.oneCell']) (by omega) (by omega) (by first | exact Nat.zero_le _ | (have := hI.chg.size; omega)) ?_ | refine WL_app3 (z := .int .i64 0) (by_ := 8) hI rfl rfl rfl rfl rfl rfl Tryd.underlying23 (by kernel_rfl) rfl (by omega) (by rfl) hI.lit0 (by first | rfl | simp [i64s, Value.oneCell']) (by omega) (by omega) (by first | exact Nat.zero_le _ | (have := hI.chg.size; omega)) ?_ | refine WL_app4 (z := .int .i64 0) (by_ := 8) hI rfl rfl rfl rfl rfl rfl Tryd.underlying23 (by kernel_rfl) rfl (by omega) (by rfl) hI.lit0 (by first | rfl | simp [i64s, Value.oneCell']) (by omega) (by omega) (by first | exact Nat.zero_le _ | (have := hI.chg.size; omega)) ?_ | refine WL_app5 (z := .int .i64 0) (by_ := 8) hI rfl rfl rfl rfl rfl rfl Tryd.underlying23 (by kernel_rfl) rfl (by omega) (by rfl) hI.lit0 (by first | rfl | simp [i64s, Value.oneCell']) (by omega) (by omega) (by first | exact Nat.zero_le _ | (have := hI.chg.size; omega)) ?_
      clear hI; rintro A48 c48 w hA48 hc48 hI
      replace hI := hI.d0
      refine WL_nil ⟨hXS _ hI.d0, ?_⟩
      refine WT_A (by kernel_rfl) ?_
      clear hXS hSx
      refine WA_one 10 rfl (by kernel_rfl) ?_
      refine WL_mapSet 5 (v := .slice A48 ((stpF d k tx).length + 1) c48) rfl hI rfl rfl rfl Tryd.underlying59 Tryd.underlying3 rfl rfl rfl ?_
      clear hI; intro w hI
      simp only [List.set_cons_succ, List.set_cons_zero, ← natV_snoc] at hI
      rw [mgS_set _ _ _ tx _ (stpF d k tx ++ [k]) A48 c48 (by simp) (by simp)] at hI
      replace hI := (hI.stset (tx := tx) (by omega) (by simp)).d1.sw0
      refine WL_nil ?_
      refine WA_end (by kernel_rfl) ?_
      refine W_region ?_
      refine WL_val rfl rfl rfl (by first | exact rInc rfl rfl rfl (by omega) | exact rAdd rfl rfl rfl (by omega) | exact rAddW rfl rfl rfl) ?_
      refine WL_val rfl rfl rfl (by first | exact rMoveI rfl rfl | exact rMove rfl) ?_
      refine WL_nil ?_
      rw [← hstp, ← List.range_succ] at hI
      refine ⟨⟨k + 1, _, _, _, _, by omega, ⟨rfl, rfl, rfl, rfl, rfl, rfl, rfl, trivial⟩, ?_, hI⟩, by show d.length - ((k + 1 : Nat) : Int).toNat < d.length - (k : Int).toNat; omega⟩
      intro x hx
      rw [hstp] at hx
      dsimp only at hx
      by_cases hxt : x = tx
      · rw [if_pos hxt] at hx; simp at hx
      · rw [if_neg hxt] at hx
        rw [if_neg hxt, if_neg hxt]
        exact hnil x hx
    · obtain rfl : k = d.length := by omega
      refine W_seq ?_
      refine W_region ?_
      refine WL_val rfl rfl rfl (by first | exact rLssT rfl rfl rfl (by omega) | exact rLssF rfl rfl rfl (by omega) | exact rLss rfl rfl rfl) ?_
      refine WL_nil ?_
      refine W_seq ?_
      refine W_cond false rfl ?_
      refine W_exit ?_
      exact ⟨GA, gc, Ax, Cx, ⟨rfl, rfl, rfl, rfl, trivial⟩, hnil, hI⟩
  clear hI
  rintro ρ w ⟨GA, gc, Ax, Cx, hH, hnil, hI⟩
  obtain ⟨σ, rfl⟩ := hH.open
  obtain ⟨want, hwant⟩ : ∃ want, seeF d (List.range d.length) = want := ⟨_, rfl⟩
  rw [hwant] at hfind
  refine W_seq ?_
  refine W_region ?_
  refine WL_val rfl rfl rfl (by first | exact rLd (v := .slice _ _ _) rfl (by kernel_rfl) rfl (by first | exact hI.c0 rfl | exact hI.c1 rfl | exact hI.c2 rfl | exact hI.c3 rfl | exact hI.c4 rfl | exact hI.c5 rfl) | exact rLd rfl (by kernel_rfl) rfl (by first | exact hI.c0 rfl | exact hI.c1 rfl | exact hI.c2 rfl | exact hI.c3 rfl | exact hI.c4 rfl | exact hI.c5 rfl)) ?_
  refine WL_val rfl rfl rfl (by first | exact rMoveS rfl rfl | exact rMove rfl) ?_
  refine WL_call rfl rfl rfl (rCall (vs := [.slice _ _ _, .slice _ _ _]) rfl Tryd.func23 rfl rfl rfl) ?_
  refine (see_any DA d.length dc d GA d.length gc (List.range d.length) (fun _ => True) (fun _ => True) _ (Rd.of_own (hI.ok _ (List.mem_of_getElem? (i := 5) rfl)).1 (fun _ _ _ => trivial)) (ints_row hI.g0 (by simp) (natV_map _)) hdl (fun x hx => List.mem_range.1 hx)).mono ?_
  rintro e w1 ⟨rfl, hp⟩
  rw [hwant]
  refine ⟨_, rfl, ?_⟩
  replace hI := hI.pure hp
  refine WL_alloc (u := .agg (intC 68 fun _ => 0)) (vs := intC 68 fun _ => 0) hI rfl rfl rfl rfl (by kernel_rfl) rfl ?_
  clear hI; rintro b11 w - - hI
  refine WL_stw0 (u := .agg (intC 68 want)) (vs := intC 68 want) (n := 68) hI rfl rfl rfl rfl rfl rfl (by kernel_rfl) (intC_size _ _) (intC_size _ _) (by simp [intC, Value.oneCell']) ?_
  clear hI; intro w hI
  refine WL_nil ?_
  refine W_seq ?_
  refine W_region ?_
  refine WL_alloc (u := .nilFunc) (vs := #[.nilFunc]) hI rfl rfl rfl rfl (by kernel_rfl) rfl ?_
  clear hI; rintro b12 w - - hI
  refine WL_nil ?_
  refine W_seq ?_
  refine W_region ?_
  refine WL_val rfl rfl rfl (rFunc (l := []) (m := [_, _, _, _, _]) rfl rfl rfl) ?_
  first | refine WL_stw0 (u := .func _ _ _) (vs := #[_]) (n := 1) hI rfl rfl rfl rfl rfl rfl (by kernel_rfl) rfl rfl rfl ?_ | refine WL_stw1 (u := .func _ _ _) (vs := #[_]) (n := 1) hI rfl rfl rfl rfl rfl rfl (by kernel_rfl) rfl rfl rfl ?_ | refine WL_stw2 (u := .func _ _ _) (vs := #[_]) (n := 1) hI rfl rfl rfl rfl rfl rfl (by kernel_rfl) rfl rfl rfl ?_ | refine WL_stw3 (u := .func _ _ _) (vs := #[_]) (n := 1) hI rfl rfl rfl rfl rfl rfl (by kernel_rfl) rfl rfl rfl ?_ | refine WL_stw4 (u := .func _ _ _) (vs := #[_]) (n := 1) hI rfl rfl rfl rfl rfl rfl (by kernel_rfl) rfl rfl rfl ?_ | refine WL_stw5 (u := .func _ _ _) (vs := #[_]) (n := 1) hI rfl rfl rfl rfl rfl rfl (by kernel_rfl) rfl rfl rfl ?_ | refine WL_st0 (u := .func _ _ _) hI rfl rfl rfl rfl rfl rfl (by kernel_rfl) rfl rfl rfl ?_ | refine WL_st1 (u := .func _ _ _) hI rfl rfl rfl rfl rfl rfl (by kernel_rfl) rfl rfl rfl ?_ | refine WL_st2 (u := .func _ _ _) hI rfl rfl rfl rfl rfl rfl (by kernel_rfl) rfl rfl rfl ?_ | refine WL_st3 (u := .func _ _ _) hI rfl rfl rfl rfl rfl rfl (by kernel_rfl) rfl rfl rfl ?_ | refine WL_st4 (u := .func _ _ _) hI rfl rfl rfl rfl rfl rfl (by kernel_rfl) rfl rfl rfl ?_ | refine WL_st5 (u := .func _ _ _) hI rfl rfl rfl rfl rfl rfl (by kernel_rfl) rfl rfl rfl ?_
  clear hI; intro w hI
  refine WL_nil ?_
  have hT : TryAt w b5 b6 b11 b12 b8 d al (stpF d d.length) want := by
    refine ⟨⟨CA, cc, hI.cell 8 rfl rfl, ints_row (hI.ok _ (List.mem_of_getElem? (i := 9) rfl)).1 (by simp) (natV_map _)⟩, ⟨DA, dc, hI.cell 6 rfl rfl, Rd.of_own (hI.ok _ (List.mem_of_getElem? (i := 7) rfl)).1 (fun _ _ _ => trivial)⟩, hI.g1, hI.c0 rfl, ⟨wm, _, hI.cell 4 rfl rfl, (hI.ok _ (List.mem_of_getElem? (i := 5) rfl)).1, fun tx ht => ?_⟩⟩
    have ht8 : tx < 8 := by
      rw [← hal] at ht
      exact List.mem_range.1 (List.mem_filter.1 ht).1
    have hr := (hI.ok _ (List.mem_of_getElem? (i := 3) rfl)).1.1 tx ht8
    exact ⟨_, _, mgS_get hnil tx, ints_row hr.1 (by simp) (natV_map _)⟩
  by_cases hl0 : al.length = 0
  · refine W_seq ?_
    refine W_seq ?_
    refine W_region ?_
    refine WL_val rfl rfl rfl (by first | exact rLd (v := .slice _ _ _) rfl (by kernel_rfl) rfl (by first | exact hI.c0 rfl | exact hI.c1 rfl | exact hI.c2 rfl | exact hI.c3 rfl | exact hI.c4 rfl | exact hI.c5 rfl | exact hI.c6 rfl | exact hI.c7 rfl | exact hI.c8 rfl) | exact rLd rfl (by kernel_rfl) rfl (by first | exact hI.c0 rfl | exact hI.c1 rfl | exact hI.c2 rfl | exact hI.c3 rfl | exact hI.c4 rfl | exact hI.c5 rfl | exact hI.c6 rfl | exact hI.c7 rfl | exact hI.c8 rfl)) ?_
    refine WL_val rfl rfl rfl (rLen rfl Tryd.underlying23 rfl) ?_
    refine WL_val rfl rfl rfl (by first | exact rEqlT rfl rfl rfl (by omega) | exact rEqlF rfl rfl rfl (by omega) | exact rEql rfl rfl rfl) ?_
    refine WL_nil ?_
    refine W_cond true rfl ?_
    refine W_seq ?_
    refine W_region ?_
    refine WL_val rfl rfl rfl (by first | exact rAsgnS rfl rfl | exact rAsgn rfl) ?_
    refine WL_val rfl rfl rfl (by first | exact rAsgnN rfl rfl | exact rAsgnE rfl rfl | exact rAsgn rfl) ?_
    refine WL_nil ?_
    refine W_ret ?_
    exact ret2 2 3 (.inr rfl) rfl ⟨⟨none, 0, 0, rfl⟩, hI.pu⟩
  · have hne : al ≠ [] := fun e => hl0 (by rw [e]; rfl)
    have hf := hfind hne
    refine W_seq ?_
    refine W_seq ?_
    refine W_region ?_
    refine WL_val rfl rfl rfl (by first | exact rLd (v := .slice _ _ _) rfl (by kernel_rfl) rfl (by first | exact hI.c0 rfl | exact hI.c1 rfl | exact hI.c2 rfl | exact hI.c3 rfl | exact hI.c4 rfl | exact hI.c5 rfl | exact hI.c6 rfl | exact hI.c7 rfl | exact hI.c8 rfl) | exact rLd rfl (by kernel_rfl) rfl (by first | exact hI.c0 rfl | exact hI.c1 rfl | exact hI.c2 rfl | exact hI.c3 rfl | exact hI.c4 rfl | exact hI.c5 rfl | exact hI.c6 rfl | exact hI.c7 rfl | exact hI.c8 rfl)) ?_
    refine WL_val rfl rfl rfl (rLen rfl Tryd.underlying23 rfl) ?_
    refine WL_val rfl rfl rfl (by first | exact rEqlT rfl rfl rfl (by omega) | exact rEqlF rfl rfl rfl (by omega) | exact rEql rfl rfl rfl) ?_
    refine WL_nil ?_
    refine W_cond false rfl ?_
    refine W_skip ?_
    refine W_seq ?_
    refine W_seq ?_
    refine W_region ?_
    refine WL_val rfl rfl rfl (by first | exact rLd (v := .func _ _ _) rfl (by kernel_rfl) rfl (by first | exact hI.c0 rfl | exact hI.c1 rfl | exact hI.c2 rfl | exact hI.c3 rfl | exact hI.c4 rfl | exact hI.c5 rfl) | exact rLd rfl (by kernel_rfl) rfl (by first | exact hI.c0 rfl | exact hI.c1 rfl | exact hI.c2 rfl | exact hI.c3 rfl | exact hI.c4 rfl | exact hI.c5 rfl)) ?_
    refine WL_call rfl rfl rfl (rCallF (first := []) (cap := [_, _, _, _, _]) (vs := [_, _, _, _, _, _, _]) rfl rfl Tryd.func24 rfl rfl rfl) ?_
    refine (try_any b5 b6 b11 b12 b8 d al (stpF d d.length) want hdl (by omega) (by omega) (fun tx _ => ⟨Nat.le_trans (stpF_len d _ tx) hdl, fun x hx => stpF_lt hx⟩) al.length [] [] none none 0 0 _ hT (by simp) ⟨none, 0, rfl, by simp, by simp, by simp, by simp⟩ ⟨none, 0, rfl, by simp, by simp, by simp, by simp⟩ (by simp) (by simp)).mono ?_
    rintro e w1 ⟨⟨A5, m5, c5, rfl, hA5⟩, hp⟩
    refine ⟨_, rfl, ?_⟩
    replace hI := hI.pure hp
    refine WL_val rfl rfl rfl (by first | exact rAsgnS rfl rfl | exact rAsgn rfl) ?_
    refine WL_nil ?_
    obtain ⟨p5, rfl⟩ : ∃ p, A5 = some p := by
      cases A5 with
      | none => exact absurd (hA5.1 rfl) hf
      | some p => exact ⟨p, rfl⟩
    refine W_seq ?_
    refine W_region ?_
    refine WL_val rfl rfl rfl (by first | exact rMoveS rfl rfl | exact rMove rfl) ?_
    refine WL_val rfl rfl rfl (rSlNeqT rfl Tryd.underlying23 rfl) ?_
    refine WL_nil ?_
    refine W_cond true rfl ?_
    refine W_seq ?_
    refine W_region ?_
    refine WL_val rfl rfl rfl (by first | exact rMoveS rfl rfl | exact rMove rfl) ?_
    refine WL_val rfl rfl rfl (by first | exact rAsgnS rfl rfl | exact rAsgn rfl) ?_
    refine WL_val rfl rfl rfl (by first | exact rAsgnN rfl rfl | exact rAsgnE rfl rfl | exact rAsgn rfl) ?_
    refine WL_nil ?_
    refine W_ret ?_
    exact ret2 2 3 (.inr rfl) rfl ⟨⟨_, _, _, rfl⟩, hI.pu⟩
end Go.Proofs.YtgkmlnbnjbpodaaDoor
