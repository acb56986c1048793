/- text: event.Parse of what Text wrote. -/
import Derived.Test.YtgppljdfhhgkiaaGreatDoorTxt3
import Derived.Test.YtgppljdfhhgkiaaGreatDoorTxt5
namespace Go.Proofs.YtgppljdfhhgkiaaGreatDoor
open Go.RowKit
set_option linter.unusedVariables false
set_option linter.unusedSimpArgs false
theorem ret2P {P : Program} {ρ : Env} {w : World} {g g' t u : Nat} {v v' : Value} {fn : Func} {R : Ending → World → Prop} {e : Exit} {a s : Tmp} (he : e = .normal ∨ e = .ret) (hr : fn.results = #[.cell a t, .cell s u]) (ha : ρ a = .pointer (some ⟨g, 0, none⟩)) (hs : ρ s = .pointer (some ⟨g', 0, none⟩)) (ht : plainB P t = true) (hu : plainB P u = true)
    (h1 : w.cell? ⟨g, 0, none⟩ = some v) (h2 : w.cell? ⟨g', 0, none⟩ = some v') (h : R (.returned (.tuple #[v, v'])) w) : retQ P fn R e ρ w := by
  refine retQ_intro he fun b hb' => ⟨_, ?_, h⟩
  have h3 := hb'.get a
  have h4 := hb'.get s
  rw [ha] at h3
  rw [hs] at h4
  simp only [Array.getD_eq_getD_getElem?] at h3 h4
  simp [results, hr, h3, h4, asAddr, loadVar, run_isAgg_plain ht, run_isAgg_plain hu, h1, h2]
theorem Inv.notX {S : Nat → Prop} {w V V' : World} {H : List Ent} {n : Nat} {X : Nat → Prop} (h : Inv S w V H) (hc : Chg (notX n X) V V') (hn : w.heap.size ≤ n) (hD : ∀ e ∈ H, ∀ k, e.D k → k < n ∨ X k) : Inv S w V' H :=
  ⟨h.chg.trans' hc (fun k hk hx => by have := hx.1; omega), fun e he => (h.ok e he).chg hc (fun k hk hx => by
    rcases hD e he k hk with h1 | h1
    · have := hx.1; omega
    · exact hx.2 h1), h.own, h.apart⟩
/-- What Parse has read after k lines. -/
def ParI (l : List Ev) (b4 : Nat) (w1 : World) (k : Nat) (X : Nat → Prop) (V : World) : Prop :=
  X b4 ∧ b4 < w1.heap.size ∧ ∃ (A' : Option Addr) (c' : Nat), (∀ p, A' = some p → X p.block) ∧ Inv (fun x => x = b4) w1 V [Row 0 31 7 A' k c' ((l.take k).flatMap evL), B b4 22 #[.slice A' k c']]
theorem ParI.notX {l : List Ev} {b4 : Nat} {w1 : World} : ∀ k X V V', ParI l b4 w1 k X V → Chg (notX w1.heap.size X) V V' → ParI l b4 w1 k X V' := by
  rintro k X V V' ⟨h1, h2, A', c', h3, h4⟩ hc
  refine ⟨h1, h2, A', c', h3, h4.notX hc (Nat.le_refl _) fun e he k hk => ?_⟩
  rcases List.mem_cons.1 he with rfl | he
  · have hk : A'.map (·.block) = some k := hk
    cases A' with
    | none => cases hk
    | some p => injection hk with hk; subst hk; exact .inr (h3 p rfl)
  · rw [List.mem_singleton.1 he] at hk
    have hk : k = b4 := hk
    exact .inl (by omega)
set_option maxHeartbeats 4000000 in
theorem parseL_any (l : List Ev) (hl : l.length ≤ 120) (hev : l.all evOkB = true) (w0 : World) (hG : TxG w0) (hM : MaxOk w0) :
    Calls Tryz.prog 6 #[strV (textE l)] w0 fun en w' => ∃ A' c', en = .returned (.tuple #[.slice A' l.length c', .nilIface]) ∧ Inv (fun _ => False) w0 w' [Row 0 31 7 A' l.length c' (l.flatMap evL)] := by
  have h := evOk_all hev
  have htl := textE_len l h
  have hI := Inv.start (fun _ => False) w0
  refine calls_of_WX (N := Tryz.f6.ntmps) Tryz.func6 rfl rfl rfl ?_
  refine WX_seqW ?_
  refine W_region ?_
  refine WL_alloc (u := .slice none 0 0) (vs := #[.slice none 0 0]) hI rfl rfl rfl rfl (by kernel_rfl) rfl ?_
  clear hI; rintro b2 w - - hI
  refine WL_alloc (u := .nilIface) (vs := #[.nilIface]) hI rfl rfl rfl rfl (by kernel_rfl) rfl ?_
  clear hI; rintro b3 w - - hI
  refine WL_nil ?_
  refine WX_seqW ?_
  refine W_seq ?_
  refine W_region ?_
  refine WL_val rfl rfl rfl (by first | exact rMoveStr rfl rfl | exact rMove rfl) ?_
  refine WL_val rfl rfl rfl (rStrLen rfl Tryz.underlying9 rfl) ?_
  refine WL_val rfl rfl rfl (by first | exact rGtrT rfl rfl rfl (by omega) | exact rGtrF rfl rfl rfl (by omega) | exact rGtr rfl rfl rfl) ?_
  refine WL_nil ?_
  refine W_cond false rfl ?_
  refine W_skip ?_
  refine WX_seqW ?_
  refine W_region ?_
  refine WL_alloc (u := .slice none 0 0) (vs := #[.slice none 0 0]) hI rfl rfl rfl rfl (by kernel_rfl) rfl ?_
  clear hI; rintro b4 w - - hI
  refine WL_nil ?_
  refine WX_seq ?_
  refine WX_seqW ?_
  refine W_region ?_
  refine WL_val rfl rfl rfl (by first | exact rMoveStr rfl rfl | exact rMove rfl) ?_
  refine WL_call rfl rfl rfl (rCall (vs := [.string _]) rfl Tryz.func15 rfl rfl rfl) ?_
  refine (lines_any (textE l) _).mono ?_
  rintro e w1 ⟨g1, rfl, hT⟩
  refine ⟨_, rfl, ?_⟩
  replace hI := hI.app1 hT
  refine WL_nil ?_
  have hpu := hI.pu
  have hM1 := hM.pure hpu
  have hB4 : Blk w1 b4 22 #[.slice none 0 0] := hI.g1
  have hb4 : w0.heap.size ≤ b4 := (hI.own _ (List.mem_of_getElem? (i := 1) rfl) b4 rfl).resolve_left id
  have kg : w1.cell? ⟨g1, 0, none⟩ = some (strV (textE l)) := hI.c0 rfl
  have k2 : w1.cell? ⟨b2, 0, none⟩ = some (.slice none 0 0) := hI.c3 rfl
  have k3 : w1.cell? ⟨b3, 0, none⟩ = some .nilIface := hI.c2 rfl
  have n41 : ¬ b4 = g1 := hI.disj (i := 1) (j := 0) rfl rfl (by decide) b4 rfl
  have n42 : ¬ b4 = b2 := hI.disj (i := 1) (j := 3) rfl rfl (by decide) b4 rfl
  have n43 : ¬ b4 = b3 := hI.disj (i := 1) (j := 2) rfl rfl (by decide) b4 rfl
  have n23 : ¬ b2 = b3 := hI.disj (i := 3) (j := 2) rfl rfl (by decide) b2 rfl
  have o2 : w0.heap.size ≤ b2 := (hI.own _ (List.mem_of_getElem? (i := 3) rfl) b2 rfl).resolve_left id
  have o3 : w0.heap.size ≤ b3 := (hI.own _ (List.mem_of_getElem? (i := 2) rfl) b3 rfl).resolve_left id
  have lt4 : b4 < w1.heap.size := hB4.lt
  have lt1 : g1 < w1.heap.size := hI.lt
  have hB2 : Blk w1 b2 22 #[.slice none 0 0] := hI.g3
  have hB3 : Blk w1 b3 24 #[.nilIface] := hI.g2
  clear hI
  refine WX_block ?_
  refine WX_rangeRel (A := LinA l) (n := l.length) (M := fun k => k = g1) (w0 := w1) rfl (enters_of Tryz.func27 rfl rfl)
    (Rd.lines_seq l hl h g1 w1 kg hM1) (Pure.refl _) (fun x => x = b4)
    (fun x hx => by subst hx; exact ⟨n41, lt4⟩)
    (fun x hx => by subst hx; exact lt1)
    LinA.keep (ParI l b4 w1) ParI.notX
    ⟨rfl, lt4, none, 0, (fun p hp => by cases hp), (Inv.own1 hB4).fresh (Pure.refl _) (Row.nil _ 0 31 7) (fun k hk => by simp [Row] at hk)⟩
    (fun k args V ⟨z, A, c, h1, _⟩ => by subst h1; rfl) (by decide) ?_ ?_
  · rintro k X args V hkl hA - hsV
    obtain ⟨z, Aw, cw, rfl, -⟩ := hA
    have hevk : evOkB (evAt l k) = true := List.all_eq_true.1 hev _ (List.mem_of_getElem? (evAt_get hkl))
    have htk : (l.take (k + 1)).flatMap evL = (l.take k).flatMap evL ++ evL (evAt l k) := by
      have := evAt_get hkl
      rw [List.take_add_one, this, List.flatMap_append]; simp
    --@rd
    refine Rd.W_seq ?_
    refine Rd.W_region ?_
    refine WL_val rfl rfl rfl (by first | exact rAsgnI rfl rfl | exact rAsgn rfl) ?_
    refine WL_nil ?_
    refine Rd.W_region ?_
    refine WL_val rfl rfl rfl (by first | exact rAsgnS rfl rfl | exact rAsgn rfl) ?_
    refine WL_nil ?_
    refine ⟨rfl, rfl, fun V2 hA2 hI2 hs2 => ?_⟩
    obtain ⟨z2, Aw2, cw2, he2, hR⟩ := hA2
    obtain ⟨rfl, rfl, rfl⟩ : z = z2 ∧ Aw = Aw2 ∧ cw = cw2 := by simpa using he2
    obtain ⟨hXb, -, A', c', hXA, hIV⟩ := hI2
    have hI : Inv (DL [Row 0 31 7 A' k c' ((l.take k).flatMap evL), B b4 22 #[.slice A' k c']]) V2 V2 [Row 0 31 7 A' k c' ((l.take k).flatMap evL), B b4 22 #[.slice A' k c']] := Inv.from (H := []) hIV
    have hpV : Pure w0 V2 := (Chg.trans' (hpu.chg (fun _ => False)) hIV.chg (fun i hi h => by have h : i = b4 := h; omega)).toPure
    have hGV := hG.pure hpV
    have hpar := parse_any (evAt l k) hevk Aw cw _ V2 hR hGV
    generalize evAt l k = pk at hpar hevk htk
    obtain ⟨e0, e1, e2, e3, e4, e5, e6⟩ := pk
    refine Rd.W_block ?_
    refine Rd.W_seq ?_
    refine Rd.W_region ?_
    refine WL_val rfl rfl rfl (by first | exact rMoveS rfl rfl | exact rMove rfl) ?_
    refine WL_call rfl rfl rfl (rCall (vs := [.slice _ _ _]) rfl Tryz.func16 rfl rfl rfl) ?_
    refine hpar.mono ?_
    rintro e w2 ⟨rfl, hp2⟩
    refine ⟨_, rfl, ?_⟩
    replace hI := hI.pure hp2
    refine WL_val rfl rfl rfl (by first | exact rMoveT rfl rfl | exact rMove rfl) ?_
    refine WL_val rfl rfl rfl (rExtr rfl rfl rfl) ?_
    refine WL_val rfl rfl rfl (rExtr rfl rfl rfl) ?_
    refine WL_alloc (u := .agg #[.int .i64 0, .int .i64 0, .int .i64 0, .int .i64 0, .int .i64 0, .int .i64 0, .int .i64 0]) (vs := #[.int .i64 0, .int .i64 0, .int .i64 0, .int .i64 0, .int .i64 0, .int .i64 0, .int .i64 0]) hI rfl rfl rfl rfl (by kernel_rfl) rfl ?_
    clear hI; rintro b7 w - - hI
    first | refine WL_stw0 (u := .agg _) (vs := #[_, _, _, _, _, _, _]) (n := 7) hI rfl rfl rfl rfl rfl rfl (by kernel_rfl) rfl rfl rfl ?_
    clear hI; intro w hI
    refine WL_val rfl rfl rfl (by first | exact rAsgnN rfl rfl | exact rAsgnE rfl rfl | exact rAsgn rfl) ?_
    refine WL_nil ?_
    replace hI : Inv _ V2 _ [B b7 31 #[.int .i64 e0, .int .i64 e1, .int .i64 e2, .int .i64 e3, .int .i64 e4, .int .i64 e5, .int .i64 e6], Row 0 31 7 A' k c' ((l.take k).flatMap evL), B b4 22 #[.slice A' k c']] := hI
    refine Rd.W_seq ?_
    refine Rd.W_seq ?_
    refine Rd.W_region ?_
    refine WL_val rfl rfl rfl (by first | exact rMoveN rfl rfl | exact rMoveE rfl rfl | exact rMove rfl) ?_
    refine WL_val rfl rfl rfl (by first | exact rIfaceEq rfl Tryz.underlying24 rfl rfl | exact rNilEq rfl Tryz.underlying24 rfl) ?_
    refine WL_val rfl rfl rfl (by first | exact rMoveB rfl rfl | exact rMove rfl) ?_
    first | refine WL_val rfl rfl rfl (by first | exact rLd (v := .slice _ _ _) rfl (by kernel_rfl) rfl (by first | exact hI.c0 rfl | exact hI.c1 rfl | exact hI.c2 rfl | exact hI.c3 rfl | exact hI.c4 rfl | exact hI.c5 rfl | exact (hI.c2 rfl)) | exact rLd rfl (by kernel_rfl) rfl (by first | exact hI.c0 rfl | exact hI.c1 rfl | exact hI.c2 rfl | exact hI.c3 rfl | exact hI.c4 rfl | exact hI.c5 rfl | exact (hI.c2 rfl))) ?_ | refine WL_skip rfl rfl rfl ?_
    first | refine WL_val rfl rfl rfl (rLen rfl Tryz.underlying22 rfl) ?_ | refine WL_skip rfl rfl rfl ?_
    first | refine WL_val rfl rfl rfl (by first | exact rEqlT rfl rfl rfl (by omega) | exact rEqlF rfl rfl rfl (by omega) | exact rEql rfl rfl rfl) ?_ | refine WL_skip rfl rfl rfl ?_
    refine WL_val rfl rfl rfl (by first | exact rPickTB rfl rfl rfl | exact rPickFB rfl rfl rfl | exact rPickB rfl rfl rfl rfl) ?_
    refine WL_nil ?_
    refine Rd.W_cond false rfl ?_
    refine Rd.W_skip ?_
    refine Rd.W_seq ?_
    refine Rd.W_seq ?_
    refine Rd.W_region ?_
    refine WL_val rfl rfl rfl (by first | exact rMoveN rfl rfl | exact rMoveE rfl rfl | exact rMove rfl) ?_
    refine WL_val rfl rfl rfl (by first | exact rIfaceNe rfl Tryz.underlying24 rfl rfl | exact rNilNe rfl Tryz.underlying24 rfl) ?_
    refine WL_nil ?_
    refine Rd.W_cond false rfl ?_
    refine Rd.W_skip ?_
    refine Rd.W_region ?_
    refine WL_val rfl rfl rfl (by first | exact rLd (v := .slice _ _ _) rfl (by kernel_rfl) rfl (by first | exact hI.c0 rfl | exact hI.c1 rfl | exact hI.c2 rfl | exact hI.c3 rfl | exact (hI.c2 rfl)) | exact rLd rfl (by kernel_rfl) rfl (by first | exact hI.c0 rfl | exact hI.c1 rfl | exact hI.c2 rfl | exact hI.c3 rfl | exact (hI.c2 rfl))) ?_
    refine WL_val rfl rfl rfl (by first | exact rLdB (n := 7) rfl (by kernel_rfl) (by kernel_rfl) rfl rfl hI.g0 | exact rLdB (n := 7) rfl (by kernel_rfl) (by kernel_rfl) rfl rfl hI.g1 | exact rLdB (n := 7) rfl (by kernel_rfl) (by kernel_rfl) rfl rfl hI.g2 | exact rLdB (n := 7) rfl (by kernel_rfl) (by kernel_rfl) rfl rfl hI.g3) ?_
    refine WL_lit (vs := [_, _, _, _, _, _, _]) (qs := [(0, .agg #[_, _, _, _, _, _, _])]) [.int .i64 0, .int .i64 0, .int .i64 0, .int .i64 0, .int .i64 0, .int .i64 0, .int .i64 0] [0] hI rfl rfl rfl rfl rfl rfl Tryz.underlying22 (fun _ => by kernel_rfl) ?_
    clear hI; rintro b37 w - - hI
    first | refine WL_app2 (z := .agg #[.int .i64 0, .int .i64 0, .int .i64 0, .int .i64 0, .int .i64 0, .int .i64 0, .int .i64 0]) (by_ := 56) hI rfl rfl rfl rfl rfl rfl Tryz.underlying22 (by kernel_rfl) rfl (by omega) (by rfl) hI.lit0 (by first | rfl | simp [i64s, Value.oneCell']) (by omega) (by omega) (by first | exact Nat.zero_le _ | (have := hI.chg.size; omega)) ?_
    clear hI; rintro A38 c38 w hA38 hc38 hI
    replace hI := hI.d0
    first | refine WL_stw0 (u := .slice _ _ _) (vs := #[_]) (n := 1) hI rfl rfl rfl rfl rfl rfl (by kernel_rfl) rfl rfl rfl ?_ | refine WL_stw1 (u := .slice _ _ _) (vs := #[_]) (n := 1) hI rfl rfl rfl rfl rfl rfl (by kernel_rfl) rfl rfl rfl ?_ | refine WL_stw2 (u := .slice _ _ _) (vs := #[_]) (n := 1) hI rfl rfl rfl rfl rfl rfl (by kernel_rfl) rfl rfl rfl ?_ | refine WL_stw3 (u := .slice _ _ _) (vs := #[_]) (n := 1) hI rfl rfl rfl rfl rfl rfl (by kernel_rfl) rfl rfl rfl ?_ | refine WL_st0 (u := .slice _ _ _) hI rfl rfl rfl rfl rfl rfl (by kernel_rfl) rfl rfl rfl ?_ | refine WL_st1 (u := .slice _ _ _) hI rfl rfl rfl rfl rfl rfl (by kernel_rfl) rfl rfl rfl ?_ | refine WL_st2 (u := .slice _ _ _) hI rfl rfl rfl rfl rfl rfl (by kernel_rfl) rfl rfl rfl ?_ | refine WL_st3 (u := .slice _ _ _) hI rfl rfl rfl rfl rfl rfl (by kernel_rfl) rfl rfl rfl ?_
    clear hI; intro w hI
    refine WL_nil ?_
    have hDX : ∀ kk, DL [Row 0 31 7 A' k c' ((l.take k).flatMap evL), B b4 22 #[.slice A' k c']] kk → X kk := by
      rintro kk ⟨e, he, hk⟩
      rcases List.mem_cons.1 he with rfl | he
      · have hk : A'.map (·.block) = some kk := hk
        cases A' with
        | none => cases hk
        | some p => injection hk with hk; subst hk; exact hXA p rfl
      · rw [List.mem_singleton.1 he] at hk
        have hk : kk = b4 := hk
        subst hk; exact hXb
    replace hI := hI.d0
    refine ⟨hI.chg.mono fun kk _ hk => hDX kk hk, .inl hXb, lt4, A38, c38, fun p hp => ?_, ?_⟩
    · rcases hI.own _ (List.mem_cons_self ..) p.block (by rw [hp]; rfl) with hk | hk
      · exact .inl (hDX _ hk)
      · exact .inr ⟨hk, (hI.ok _ (List.mem_cons_self ..)).2.1 p.block (by rw [hp]; rfl)⟩
    · have := Inv.turnL (H := []) hIV hI
      rw [htk]; exact this
    --@dr
  · rintro X V ⟨hXb, -, A', c', hXA, hIV⟩ hD9 a ha
    rw [List.take_length] at hIV
    refine (WX_R (?_ : Rd.W none _ _ _ _ (fun e ρ w => ∀ a, Fit Tryz.f6.ntmps ρ a → bodyPostM Fence.wide 0 Tryz.prog Tryz.f6 _ e (wd (markD w1.heap.size) a) w) _ _) (fun e ρ' a w' ha q => q a ha)) a ha
    have hDn : ∀ (b : Nat), b < w1.heap.size → ¬ b4 = b → ∀ x ∈ [Row 0 31 7 A' l.length c' (l.flatMap evL), B b4 22 #[.slice A' l.length c']], ¬ x.D b := by
      intro b hb hbn x hx hk
      rcases hIV.own x hx b hk with h1 | h1
      · exact hbn h1.symm
      · omega
    have hfin : Inv (fun _ => False) w0 V [B b3 24 #[.nilIface], B b2 22 #[.slice none 0 0], Row 0 31 7 A' l.length c' (l.flatMap evL), B b4 22 #[.slice A' l.length c']] := by
      have h0 : Inv (fun _ => False) w0 V [Row 0 31 7 A' l.length c' (l.flatMap evL), B b4 22 #[.slice A' l.length c']] :=
        ⟨Chg.trans' (hpu.chg (fun _ => False)) hIV.chg (fun i hi h => by have h : i = b4 := h; omega), hIV.ok, fun e he k hk => by
          rcases hIV.own e he k hk with h | h
          · have h : k = b4 := h
            exact .inr (by omega)
          · exact .inr (by have := hpu.size; omega), hIV.apart⟩
      refine ((h0.cons (e := B b2 22 #[.slice none 0 0]) (B.ok (Blk.chg hB2 hIV.chg (fun h => n42 h.symm))) (fun k hk => ?_) (fun x hx k hk => ?_)).cons (e := B b3 24 #[.nilIface]) (B.ok (Blk.chg hB3 hIV.chg (fun h => n43 h.symm))) (fun k hk => ?_) (fun x hx k hk => ?_))
      · have hk : k = b2 := hk
        exact .inr (by omega)
      · have hk : k = b2 := hk
        subst hk; exact hDn _ hB2.lt n42 x hx
      · have hk : k = b3 := hk
        exact .inr (by omega)
      · have hk : k = b3 := hk
        subst hk
        rcases List.mem_cons.1 hx with rfl | hx
        · exact fun h => n23 h.symm
        · exact hDn _ hB3.lt n43 x hx
    have hI : Inv (DL [B b3 24 #[.nilIface], B b2 22 #[.slice none 0 0], Row 0 31 7 A' l.length c' (l.flatMap evL), B b4 22 #[.slice A' l.length c']]) V V [B b3 24 #[.nilIface], B b2 22 #[.slice none 0 0], Row 0 31 7 A' l.length c' (l.flatMap evL), B b4 22 #[.slice A' l.length c']] := Inv.from (H := []) hfin
    have hcl : ∀ e ∈ [B b3 24 #[.nilIface], B b2 22 #[.slice none 0 0], Row 0 31 7 A' l.length c' (l.flatMap evL), B b4 22 #[.slice A' l.length c']], cellsE V e := fun e he => by
      simp only [List.mem_cons, List.not_mem_nil, or_false] at he
      rcases he with rfl | rfl | rfl | rfl
      · exact B.cells (hfin.ok _ (by simp))
      · exact B.cells (hfin.ok _ (by simp))
      · exact Row.cells (hfin.ok _ (by simp))
      · exact B.cells (hfin.ok _ (by simp))
    have hDd : ¬ DL [B b3 24 #[.nilIface], B b2 22 #[.slice none 0 0], Row 0 31 7 A' l.length c' (l.flatMap evL), B b4 22 #[.slice A' l.length c']] w1.heap.size := by
      rintro ⟨e, he, hk⟩
      obtain ⟨o, h1, h2⟩ := hcl e he _ hk
      rw [hD9] at h1
      injection h1 with h1
      subst h1
      cases h2
    --@rd
    refine Rd.W_seq ?_
    refine Rd.W_region ?_
    refine WL_val rfl rfl rfl (by first | exact rLd (v := .slice _ _ _) rfl (by kernel_rfl) rfl (by first | exact hI.c0 rfl | exact hI.c1 rfl | exact hI.c2 rfl | exact hI.c3 rfl) | exact rLd rfl (by kernel_rfl) rfl (by first | exact hI.c0 rfl | exact hI.c1 rfl | exact hI.c2 rfl | exact hI.c3 rfl)) ?_
    first | refine WL_stw0 (u := .slice _ _ _) (vs := #[_]) (n := 1) hI rfl rfl rfl rfl rfl rfl (by kernel_rfl) rfl rfl rfl ?_ | refine WL_stw1 (u := .slice _ _ _) (vs := #[_]) (n := 1) hI rfl rfl rfl rfl rfl rfl (by kernel_rfl) rfl rfl rfl ?_ | refine WL_stw2 (u := .slice _ _ _) (vs := #[_]) (n := 1) hI rfl rfl rfl rfl rfl rfl (by kernel_rfl) rfl rfl rfl ?_ | refine WL_stw3 (u := .slice _ _ _) (vs := #[_]) (n := 1) hI rfl rfl rfl rfl rfl rfl (by kernel_rfl) rfl rfl rfl ?_ | refine WL_st0 (u := .slice _ _ _) hI rfl rfl rfl rfl rfl rfl (by kernel_rfl) rfl rfl rfl ?_ | refine WL_st1 (u := .slice _ _ _) hI rfl rfl rfl rfl rfl rfl (by kernel_rfl) rfl rfl rfl ?_ | refine WL_st2 (u := .slice _ _ _) hI rfl rfl rfl rfl rfl rfl (by kernel_rfl) rfl rfl rfl ?_ | refine WL_st3 (u := .slice _ _ _) hI rfl rfl rfl rfl rfl rfl (by kernel_rfl) rfl rfl rfl ?_
    clear hI; intro w hI
    first | refine WL_stw0 (u := _) (vs := #[_]) (n := 1) hI rfl rfl rfl rfl rfl rfl (by kernel_rfl) rfl rfl rfl ?_ | refine WL_stw1 (u := _) (vs := #[_]) (n := 1) hI rfl rfl rfl rfl rfl rfl (by kernel_rfl) rfl rfl rfl ?_ | refine WL_stw2 (u := _) (vs := #[_]) (n := 1) hI rfl rfl rfl rfl rfl rfl (by kernel_rfl) rfl rfl rfl ?_ | refine WL_stw3 (u := _) (vs := #[_]) (n := 1) hI rfl rfl rfl rfl rfl rfl (by kernel_rfl) rfl rfl rfl ?_ | refine WL_st0 (u := _) hI rfl rfl rfl rfl rfl rfl (by kernel_rfl) rfl rfl rfl ?_ | refine WL_st1 (u := _) hI rfl rfl rfl rfl rfl rfl (by kernel_rfl) rfl rfl rfl ?_ | refine WL_st2 (u := _) hI rfl rfl rfl rfl rfl rfl (by kernel_rfl) rfl rfl rfl ?_ | refine WL_st3 (u := _) hI rfl rfl rfl rfl rfl rfl (by kernel_rfl) rfl rfl rfl ?_
    clear hI; intro w hI
    refine WL_nil ?_
    refine Rd.W_ret ?_
    intro a ha
    replace hI : Inv (DL [B b3 24 #[.nilIface], B b2 22 #[.slice none 0 0], Row 0 31 7 A' l.length c' (l.flatMap evL), B b4 22 #[.slice A' l.length c']]) V _ [B b3 24 #[.nilIface], B b2 22 #[.slice A' l.length c'], Row 0 31 7 A' l.length c' (l.flatMap evL), B b4 22 #[.slice A' l.length c']] := hI
    have hend := Inv.turnL (H := []) hfin hI
    have hD8 := (hI.chg.block _ (Array.getElem?_eq_some_iff.1 hD9).1 hDd).trans hD9
    have has := Aside.put (n := w1.heap.size) (.deferred none) (Nat.le_refl _) hD8 rfl
    have hce : ∀ e ∈ [B b3 24 #[.nilIface], B b2 22 #[.slice A' l.length c'], Row 0 31 7 A' l.length c' (l.flatMap evL), B b4 22 #[.slice A' l.length c']], cellsE _ e := fun e he => by
      simp only [List.mem_cons, List.not_mem_nil, or_false] at he
      rcases he with rfl | rfl | rfl | rfl
      · exact B.cells (hend.ok _ (by simp))
      · exact B.cells (hend.ok _ (by simp))
      · exact Row.cells (hend.ok _ (by simp))
      · exact B.cells (hend.ok _ (by simp))
    refine leaves_retQ ha hD8 (ret2P (.inr rfl) rfl rfl rfl (by kernel_rfl) (by kernel_rfl) (has.cell (hI.c1 rfl)) (has.cell (hI.c0 rfl)) ⟨A', c', rfl, ?_⟩)
    exact (hend.aside has (by have := hpu.size; omega) hce).d0.d0.d1
    --@dr
end Go.Proofs.YtgppljdfhhgkiaaGreatDoor
