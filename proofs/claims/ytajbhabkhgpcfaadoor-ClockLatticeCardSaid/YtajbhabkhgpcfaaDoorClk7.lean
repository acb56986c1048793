/- clock.Vectors. -/
import Derived.Test.YtajbhabkhgpcfaaDoorClk6
import Derived.Test.YtajbhabkhgpcfaaDoorSxs
namespace Go.Proofs.YtajbhabkhgpcfaaDoor
open Go.RowKit
set_option linter.unusedVariables false
set_option linter.unusedSimpArgs false
/-- A vector as a list of numbers. -/
def vl (f : Nat → Nat) : List Int := (List.range 8).map fun q => ((f q : Nat) : Int)
theorem vl_len (f : Nat → Nat) : (vl f).length = 8 := by simp [vl]
theorem vl_getD {f : Nat → Nat} {q : Nat} (h : q < 8) : (vl f).getD q 0 = ((f q : Nat) : Int) := by simp [vl, List.getD, h]
theorem vl_get {f : Nat → Nat} {q : Nat} (h : q < 8) : (i64s (vl f))[q]? = some (.int .i64 ((f q : Nat) : Int)) := by simp [vl, i64s, h]
theorem vl_getA {f : Nat → Nat} {q : Nat} (h : q < 8) : (i64s (vl f)).toArray[q]? = some (.int .i64 ((f q : Nat) : Int)) := by simp [vl, i64s, h]
theorem vl_set {f : Nat → Nat} {p : Nat} (k : Nat) : (vl f).set p ((k : Nat) : Int) = vl (fun q => if q = p then k else f q) := by
  refine List.ext_getElem (by simp [vl]) (fun i h1 h2 => ?_)
  simp only [vl, List.getElem_set, List.getElem_map, List.getElem_range]
  by_cases h : p = i
  · subst h; simp
  · rw [if_neg h, if_neg (Ne.symm h)]
theorem vl_join (f g : Nat → Nat) : joinV (vl f) (vl g) = vl (fun q => max (f q) (g q)) := by
  refine List.ext_getElem (by simp [joinV, jv, vl]) (fun i h1 h2 => ?_)
  have hi : i < 8 := by simpa [vl] using h2
  simp only [joinV, jv, List.getElem_map, List.getElem_range, if_pos hi, vl_getD hi]
  simp only [vl, List.getElem_map, List.getElem_range]
  omega
theorem vl_congr {f g : Nat → Nat} (h : ∀ q, q < 8 → f q = g q) : vl f = vl g := by
  unfold vl
  exact List.map_congr_left fun q hq => by rw [h q (List.mem_range.1 hq)]
theorem vl_inj {f g : Nat → Nat} (h : vl f = vl g) {q : Nat} (hq : q < 8) : f q = g q := by
  have h1 := vl_getD (f := f) hq
  rw [h, vl_getD hq] at h1
  omega
def vgr (n : Nat) (F : Nat → Nat → Nat) : Array Value := grd n 8 (fun i q => .int .i64 ((F i q : Nat) : Int))
theorem vgr_row {w : World} {b : Nat} {n i : Nat} {F : Nat → Nat → Nat} {t : Nat} (h : Blk w b t (vgr n F)) (hi : i < n) : ∀ (j : Nat) (u : Value), (i64s (vl (F i)))[j]? = some u → w.cell? ⟨b, 0 + i * 8 + j, none⟩ = some u := by
  intro j u hu
  have hj : j < 8 := by
    have := (List.getElem?_eq_some_iff.1 hu).1
    simpa [i64s, vl] using this
  rw [vl_get hj] at hu
  injection hu with hu
  subst hu
  rw [Nat.zero_add, h.cell]
  exact grd_cell _ hi hj
theorem vgr_set {n k : Nat} {F : Nat → Nat → Nat} {f : Nat → Nat} (hk : k < n) : splice (vgr n F) (0 + k * 8) (i64s (vl f)).toArray.toList = vgr n (fun i q => if i = k then f q else F i q) := by
  rw [Nat.zero_add]
  unfold vgr
  rw [grd_splice _ (fun q => .int .i64 ((f q : Nat) : Int)) (by omega) hk (by simp [i64s, vl]) (fun q hq => vl_get hq)]
  congr 1
  funext i q
  by_cases h : i = k
  · simp only [if_pos h]
  · simp only [if_neg h]
theorem vgr_zero (n : Nat) : rep (.int .i64 0) (n * 8) = vgr n (fun _ _ => 0) := grd_rep n 8 _
theorem vgr_congr {n : Nat} {F G : Nat → Nat → Nat} (h : ∀ i, i < n → F i = G i) : vgr n F = vgr n G := by
  unfold vgr grd
  congr 1
  refine List.map_congr_left fun c hc => ?_
  have : c / 8 < n := by have := List.mem_range.1 hc; omega
  simp only [h _ this]
theorem v_le {p : Nat → Nat} {fr : Nat → Option Nat} : ∀ k, (∀ r q, (vTo p fr k).1 r q ≤ k) ∧ (∀ i q, (vTo p fr k).2 i q ≤ k)
  | 0 => ⟨fun _ _ => Nat.le_refl _, fun _ _ => Nat.le_refl _⟩
  | k + 1 => by
    obtain ⟨h1, h2⟩ := v_le (p := p) (fr := fr) k
    have hn : ∀ q, vNew p fr (vTo p fr k) k q ≤ k + 1 := by
      intro q
      unfold vNew
      have := h1 (p k) q
      cases fr k with
      | none => simp only; split <;> omega
      | some m => have := h2 m q; simp only; split <;> omega
    refine ⟨fun r q => ?_, fun i q => ?_⟩
    · show (if r = p k then _ else _) ≤ k + 1
      split
      · exact hn q
      · have := h1 r q; omega
    · show (if i = k then _ else _) ≤ k + 1
      split
      · exact hn q
      · have := h2 i q; omega
def VectorsPost (l : List Ck) (w0 : World) (en : Ending) (w' : World) : Prop :=
  ((OkClk l ∧ ∃ ob, en = .returned (.tuple #[.slice (some ⟨ob, 0, none⟩) l.length l.length, .nilIface]) ∧ (B ob 37 (vgr l.length (vecF (prc l) (fromF l)))).ok w' ∧ w0.heap.size ≤ ob) ∨
    (¬ OkClk l ∧ ∃ e n, en = .returned (.tuple #[.slice none 0 0, e]) ∧ IsE w' e n)) ∧ Pure w0 w'
set_option maxHeartbeats 2000000 in
theorem vectors_any (A : Option Addr) (n c : Nat) (l : List Ck) (D : Nat → Prop) (w0 : World) (h : Cks w0 D (.slice A n c) l) (hg : GlobOk w0) :
    Calls Tryd.prog 6 #[.slice A n c] w0 (VectorsPost l w0) := by
  obtain ⟨hn, hc1, hc2⟩ := h.len
  have hI := Inv.start (fun _ => False) w0
  refine calls_of_W (N := Tryd.f6.ntmps) Tryd.func6 rfl rfl rfl ?_
  refine W_seq ?_
  refine W_region ?_
  refine WL_val rfl rfl rfl (by first | exact rAsgnS rfl rfl | exact rAsgn rfl) ?_
  refine WL_val rfl rfl rfl (by first | exact rAsgnN rfl rfl | exact rAsgnE rfl rfl | exact rAsgn rfl) ?_
  refine WL_nil ?_
  by_cases hok : OkClk l
  rotate_left
  · refine W_seq ?_
    refine W_region ?_
    refine WL_val rfl rfl rfl (by first | exact rMoveS rfl rfl | exact rMove rfl) ?_
    refine WL_call rfl rfl rfl (rCall (vs := [.slice _ _ _]) rfl Tryd.func15 rfl rfl rfl) ?_
    refine (senders_any A n c l D _ h hg).mono ?_
    rintro e w1 ⟨⟨hok', _⟩ | ⟨_, e', m, rfl, hE, _⟩, hp⟩
    · exact absurd hok' hok
    obtain ⟨t, u, rfl⟩ := hE.form
    refine ⟨_, rfl, ?_⟩
    replace hI := hI.pure hp
    refine WL_val rfl rfl rfl (by first | exact rMoveT rfl rfl | exact rMove rfl) ?_
    refine WL_val rfl rfl rfl (rExtr rfl rfl rfl) ?_
    refine WL_val rfl rfl rfl (rExtr rfl rfl rfl) ?_
    refine WL_val rfl rfl rfl (by first | exact rAsgnS rfl rfl | exact rAsgn rfl) ?_
    refine WL_val rfl rfl rfl (by first | exact rAsgnN rfl rfl | exact rAsgnE rfl rfl | exact rAsgn rfl) ?_
    refine WL_nil ?_
    refine W_seq ?_
    refine W_seq ?_
    refine W_region ?_
    refine WL_val rfl rfl rfl (by first | exact rMoveN rfl rfl | exact rMoveE rfl rfl | exact rMove rfl) ?_
    refine WL_val rfl rfl rfl (by first | exact rIfaceNe rfl Tryd.underlying25 rfl rfl | exact rNilNe rfl Tryd.underlying25 rfl) ?_
    refine WL_nil ?_
    refine W_cond true rfl ?_
    refine W_seq ?_
    refine W_region ?_
    refine WL_val rfl rfl rfl (by first | exact rMoveN rfl rfl | exact rMoveE rfl rfl | exact rMove rfl) ?_
    refine WL_val rfl rfl rfl (by first | exact rAsgnS rfl rfl | exact rAsgn rfl) ?_
    refine WL_val rfl rfl rfl (by first | exact rAsgnN rfl rfl | exact rAsgnE rfl rfl | exact rAsgn rfl) ?_
    refine WL_nil ?_
    refine W_ret ?_
    exact ret2 2 3 (.inr rfl) rfl ⟨.inr ⟨hok, _, m, rfl, hE⟩, hI.pu⟩
  have h40 : n ≤ 40 := by have := hok.1; omega
  refine W_seq ?_
  refine W_region ?_
  refine WL_val rfl rfl rfl (by first | exact rMoveS rfl rfl | exact rMove rfl) ?_
  refine WL_call rfl rfl rfl (rCall (vs := [.slice _ _ _]) rfl Tryd.func15 rfl rfl rfl) ?_
  refine (senders_any A n c l D _ h hg).mono ?_
  rintro e w1 ⟨⟨_, Af, cf, rfl, hown⟩ | ⟨hbad, _⟩, hp⟩
  rotate_left
  · exact absurd hok hbad
  rw [← hn] at hown
  refine ⟨.tuple #[.slice Af n cf, .nilIface], by rw [hn], ?_⟩
  replace hI := hI.freshR hp hown
  refine WL_val rfl rfl rfl (by first | exact rMoveT rfl rfl | exact rMove rfl) ?_
  refine WL_val rfl rfl rfl (rExtr rfl rfl rfl) ?_
  refine WL_val rfl rfl rfl (rExtr rfl rfl rfl) ?_
  refine WL_val rfl rfl rfl (by first | exact rAsgnS rfl rfl | exact rAsgn rfl) ?_
  refine WL_val rfl rfl rfl (by first | exact rAsgnN rfl rfl | exact rAsgnE rfl rfl | exact rAsgn rfl) ?_
  refine WL_nil ?_
  refine W_seq ?_
  refine W_seq ?_
  refine W_region ?_
  refine WL_val rfl rfl rfl (by first | exact rMoveN rfl rfl | exact rMoveE rfl rfl | exact rMove rfl) ?_
  refine WL_val rfl rfl rfl (by first | exact rIfaceNe rfl Tryd.underlying25 rfl rfl | exact rNilNe rfl Tryd.underlying25 rfl) ?_
  refine WL_nil ?_
  refine W_cond false rfl ?_
  refine W_skip ?_
  refine W_seq ?_
  refine W_region ?_
  refine WL_alloc (u := .agg #[.int .i64 0, .int .i64 0, .int .i64 0, .int .i64 0, .int .i64 0, .int .i64 0, .int .i64 0, .int .i64 0, .int .i64 0, .int .i64 0, .int .i64 0, .int .i64 0, .int .i64 0, .int .i64 0, .int .i64 0, .int .i64 0, .int .i64 0, .int .i64 0, .int .i64 0, .int .i64 0, .int .i64 0, .int .i64 0, .int .i64 0, .int .i64 0, .int .i64 0, .int .i64 0, .int .i64 0, .int .i64 0, .int .i64 0, .int .i64 0, .int .i64 0, .int .i64 0, .int .i64 0, .int .i64 0, .int .i64 0, .int .i64 0, .int .i64 0, .int .i64 0, .int .i64 0, .int .i64 0, .int .i64 0, .int .i64 0, .int .i64 0, .int .i64 0, .int .i64 0, .int .i64 0, .int .i64 0, .int .i64 0, .int .i64 0, .int .i64 0, .int .i64 0, .int .i64 0, .int .i64 0, .int .i64 0, .int .i64 0, .int .i64 0, .int .i64 0, .int .i64 0, .int .i64 0, .int .i64 0, .int .i64 0, .int .i64 0, .int .i64 0, .int .i64 0]) (vs := #[.int .i64 0, .int .i64 0, .int .i64 0, .int .i64 0, .int .i64 0, .int .i64 0, .int .i64 0, .int .i64 0, .int .i64 0, .int .i64 0, .int .i64 0, .int .i64 0, .int .i64 0, .int .i64 0, .int .i64 0, .int .i64 0, .int .i64 0, .int .i64 0, .int .i64 0, .int .i64 0, .int .i64 0, .int .i64 0, .int .i64 0, .int .i64 0, .int .i64 0, .int .i64 0, .int .i64 0, .int .i64 0, .int .i64 0, .int .i64 0, .int .i64 0, .int .i64 0, .int .i64 0, .int .i64 0, .int .i64 0, .int .i64 0, .int .i64 0, .int .i64 0, .int .i64 0, .int .i64 0, .int .i64 0, .int .i64 0, .int .i64 0, .int .i64 0, .int .i64 0, .int .i64 0, .int .i64 0, .int .i64 0, .int .i64 0, .int .i64 0, .int .i64 0, .int .i64 0, .int .i64 0, .int .i64 0, .int .i64 0, .int .i64 0, .int .i64 0, .int .i64 0, .int .i64 0, .int .i64 0, .int .i64 0, .int .i64 0, .int .i64 0, .int .i64 0]) hI rfl rfl rfl rfl (by kernel_rfl) rfl ?_
  clear hI; rintro b6 w - - hI
  refine WL_nil ?_
  refine W_seq ?_
  refine W_region ?_
  refine WL_val rfl rfl rfl (by first | exact rMoveS rfl rfl | exact rMove rfl) ?_
  refine WL_val rfl rfl rfl (rLen rfl Tryd.underlying22 rfl) ?_
  refine WL_mkN (m := 8) (by_ := 64) (z := .agg #[.int .i64 0, .int .i64 0, .int .i64 0, .int .i64 0, .int .i64 0, .int .i64 0, .int .i64 0, .int .i64 0]) (.int .i64 0) hI rfl rfl rfl rfl rfl rfl Tryd.underlying23 (by kernel_rfl) rfl (by omega) (by omega) (by omega) ?_
  clear hI; rintro b21 w - - hI
  refine WL_val rfl rfl rfl (by first | exact rAsgnS rfl rfl | exact rAsgn rfl) ?_
  refine WL_nil ?_
  refine W_seq ?_
  refine W_seq ?_
  refine W_region ?_
  refine WL_val rfl rfl rfl (by first | exact rMoveS rfl rfl | exact rMove rfl) ?_
  refine WL_val rfl rfl rfl (rLen rfl Tryd.underlying22 rfl) ?_
  refine WL_val rfl rfl rfl (by first | exact rMoveI rfl rfl | exact rMove rfl) ?_
  refine WL_nil ?_
  have hob : w0.heap.size ≤ b21 := (hI.own _ (List.mem_of_getElem? (i := 0) rfl) b21 rfl).resolve_left (fun h => h)
  replace hI : Inv (fun _ => False) w0 w [B b21 37 (vgr n (vTo (prc l) (fromF l) 0).2), B b6 48 (vgr 8 (vTo (prc l) (fromF l) 0).1), Row 0 3 1 Af n cf (fromsV l n)] := by
    have e1 := vgr_zero n
    have e2 := vgr_zero 8
    show Inv _ _ _ [B b21 37 (vgr n (fun _ _ => 0)), B b6 48 (vgr 8 (fun _ _ => 0)), _]
    rw [← e1, ← e2]; exact hI
  refine W_block ?_
  refine W_loop (fun ρ w => ∃ k : Nat, k ≤ n ∧ Has ρ [(24, .int .i64 (k : Int)), (23, .int .i64 (n : Int)), (22, .slice A n c), (4, .slice Af n cf), (6, .pointer (some ⟨b6, 0, none⟩)), (7, .slice (some ⟨b21, 0, none⟩) n n)] ∧ Inv (fun _ => False) w0 w [B b21 37 (vgr n (vTo (prc l) (fromF l) k).2), B b6 48 (vgr 8 (vTo (prc l) (fromF l) k).1), Row 0 3 1 Af n cf (fromsV l n)]) (fun ρ _ => n - cnt (ρ 24))
    ⟨0, by omega, ⟨rfl, rfl, rfl, rfl, rfl, rfl, trivial⟩, hI⟩ ?_
  clear hI
  rintro ρ w ⟨k, hk, hH, hI⟩
  obtain ⟨σ, rfl⟩ := hH.open
  by_cases hkn : k < n
  rotate_left
  · obtain rfl : k = n := by omega
    refine W_seq ?_
    refine W_region ?_
    refine WL_val rfl rfl rfl (by first | exact rLssT rfl rfl rfl (by omega) | exact rLssF rfl rfl rfl (by omega) | exact rLss rfl rfl rfl) ?_
    refine WL_nil ?_
    refine W_seq ?_
    refine W_cond false rfl ?_
    refine W_exit ?_
    refine W_seq ?_
    refine W_region ?_
    refine WL_val rfl rfl rfl (by first | exact rMoveS rfl rfl | exact rMove rfl) ?_
    refine WL_val rfl rfl rfl (by first | exact rAsgnS rfl rfl | exact rAsgn rfl) ?_
    refine WL_val rfl rfl rfl (by first | exact rAsgnN rfl rfl | exact rAsgnE rfl rfl | exact rAsgn rfl) ?_
    refine WL_nil ?_
    refine W_ret ?_
    refine ret2 2 3 (.inr rfl) rfl ⟨.inl ⟨hok, b21, by rw [← hn]; rfl, ?_, hob⟩, hI.pu⟩
    have := hI.ok _ (List.mem_of_getElem? (i := 0) rfl)
    rw [vgr_congr (fun i hi => out_vec hi)] at this
    rw [← hn]; exact this
  obtain ⟨bA, oA, rfl, q0, q1, q2⟩ := h.at (show k < l.length by omega)
  obtain ⟨fb, fo, rfl⟩ := row_addr hI.g2 (by omega)
  have hcn := ckE_none (hok.2 k (by omega))
  obtain ⟨pn, hpn⟩ : ∃ pn : Nat, (cAt l k).proc = (pn : Int) := ⟨(cAt l k).proc.toNat, by omega⟩
  have hpn8 : pn < 8 := by omega
  have hpt : prc l k = pn := by show (cAt l k).proc.toNat = pn; omega
  have e1 := froms_at (l := l) hkn
  have hb := v_le (p := prc l) (fr := fromF l) k
  have hb1 := hb.1 pn pn
  refine W_seq ?_
  refine W_region ?_
  refine WL_val rfl rfl rfl (by first | exact rLssT rfl rfl rfl (by omega) | exact rLssF rfl rfl rfl (by omega) | exact rLss rfl rfl rfl) ?_
  refine WL_nil ?_
  refine W_seq ?_
  refine W_cond true rfl ?_
  refine W_skip ?_
  refine W_seq ?_
  refine W_block ?_
  refine W_seq ?_
  refine W_region ?_
  refine WL_val rfl rfl rfl (by first | exact rMoveI rfl rfl | exact rMove rfl) ?_
  refine WL_val rfl rfl rfl (rIdx (sz := 3) rfl Tryd.underlying22 (by kernel_rfl) rfl rfl (by omega)) ?_
  refine WL_val rfl rfl rfl (by first | exact rLdB (n := 3) rfl (by kernel_rfl) (by kernel_rfl) rfl rfl hI.g0 | exact rLd3 rfl (by kernel_rfl) (by kernel_rfl) rfl (by first | exact hI.c0 rfl | exact hI.oldp q0 | exact q0 | exact hI.oldp q1 | exact q1 | exact hI.oldp q2 | exact q2) (by first | exact hI.c0 rfl | exact hI.oldp q0 | exact q0 | exact hI.oldp q1 | exact q1 | exact hI.oldp q2 | exact q2) (by first | exact hI.c0 rfl | exact hI.oldp q0 | exact q0 | exact hI.oldp q1 | exact q1 | exact hI.oldp q2 | exact q2)) ?_
  refine WL_alloc (u := .agg #[.int .i64 0, .int .i64 0, .int .i64 0]) (vs := #[.int .i64 0, .int .i64 0, .int .i64 0]) hI rfl rfl rfl rfl (by kernel_rfl) rfl ?_
  clear hI; rintro b9 w - - hI
  refine WL_val rfl rfl rfl (by first | exact rAsgnI rfl rfl | exact rAsgn rfl) ?_
  first | refine WL_stw0 (u := .agg _) (vs := #[_, _, _]) (n := 3) hI rfl rfl rfl rfl rfl rfl (by kernel_rfl) rfl rfl rfl ?_
  clear hI; intro w hI
  refine WL_nil ?_
  refine W_seq ?_
  refine W_region ?_
  refine WL_val rfl rfl rfl (by first | exact rFldN (off := 0) rfl (by kernel_rfl) rfl | exact rFld0 rfl (by kernel_rfl) rfl) ?_
  refine WL_val rfl rfl rfl (by first | exact rLd (v := .int .i64 _) rfl (by kernel_rfl) rfl (by first | exact hI.c0 rfl) | exact rLd rfl (by kernel_rfl) rfl (by first | exact hI.c0 rfl)) ?_
  refine WL_val rfl rfl rfl (rIdxArr (sz := 8) (i := pn) rfl Tryd.underlying48 (by kernel_rfl) rfl rfl hpn hpn8) ?_
  refine WL_val rfl rfl rfl (by first | exact rLdB (n := 8) rfl (by kernel_rfl) (by kernel_rfl) rfl (by first | rfl | (simp only [i64s, Value.cells, List.size_toArray, List.length_map]; omega)) hI.g0 | exact rLdA (n := 8) rfl (by kernel_rfl) (by kernel_rfl) rfl (by rfl) (fun k u hk => hI.oldp ((vgr_row hI.g2 hpn8) k u hk)) | exact rLdA (n := 8) rfl (by kernel_rfl) (by kernel_rfl) rfl (by rfl) (vgr_row hI.g2 hpn8)) ?_
  refine WL_alloc (u := .agg #[.int .i64 0, .int .i64 0, .int .i64 0, .int .i64 0, .int .i64 0, .int .i64 0, .int .i64 0, .int .i64 0]) (vs := #[.int .i64 0, .int .i64 0, .int .i64 0, .int .i64 0, .int .i64 0, .int .i64 0, .int .i64 0, .int .i64 0]) hI rfl rfl rfl rfl (by kernel_rfl) rfl ?_
  clear hI; rintro b10 w - - hI
  first | refine WL_stw0 (u := .agg _) (vs := _) (n := 8) hI rfl rfl rfl rfl rfl rfl (by kernel_rfl) (by first | rfl | (simp only [i64s, Value.cells, List.size_toArray, List.length_map]; omega)) (by first | rfl | (simp only [i64s, Value.cells, List.size_toArray, List.length_map]; omega)) (by first | rfl | simp [i64s, Value.cells, Value.oneCell']) ?_
  clear hI; intro w hI
  refine WL_nil ?_
  cases hf : fromF l k with
  | none =>
      rw [hf] at e1
      refine W_seq ?_
      refine W_seq ?_
      refine W_region ?_
      refine WL_val rfl rfl rfl (by first | exact rMoveS rfl rfl | exact rMove rfl) ?_
      refine WL_val rfl rfl rfl (by first | exact rMoveI rfl rfl | exact rMove rfl) ?_
      refine WL_val rfl rfl rfl (by first | exact rIdx0 rfl Tryd.underlying28 (by kernel_rfl) rfl rfl rfl (by omega) | exact rIdx1 rfl Tryd.underlying28 (by kernel_rfl) rfl rfl (by omega)) ?_
      refine WL_val rfl rfl rfl (by first | exact rLd (v := .int .i64 _) rfl (by kernel_rfl) rfl (by first | exact (row_cell hI.g4 e1)) | exact rLd rfl (by kernel_rfl) rfl (by first | exact (row_cell hI.g4 e1))) ?_
      refine WL_val rfl rfl rfl (rGeqF (a := -1) rfl rfl rfl (by omega)) ?_
      refine WL_nil ?_
      refine W_cond false rfl ?_
      refine W_skip ?_
      simp only [Value.cells] at hI
      refine W_seq ?_
      refine W_region ?_
      refine WL_val rfl rfl rfl (by first | exact rFldN (off := 0) rfl (by kernel_rfl) rfl | exact rFld0 rfl (by kernel_rfl) rfl) ?_
      refine WL_val rfl rfl rfl (by first | exact rLd (v := .int .i64 _) rfl (by kernel_rfl) rfl (by first | exact hI.c0 rfl | exact hI.c1 rfl | exact (at_mul (hI.c0 (vl_getA hpn8)))) | exact rLd rfl (by kernel_rfl) rfl (by first | exact hI.c0 rfl | exact hI.c1 rfl | exact (at_mul (hI.c0 (vl_getA hpn8))))) ?_
      refine WL_val rfl rfl rfl (rIdxArr (sz := 1) (i := pn) rfl Tryd.underlying37 (by kernel_rfl) rfl rfl hpn hpn8) ?_
      refine WL_val rfl rfl rfl (by first | exact rLd (v := .int .i64 _) rfl (by kernel_rfl) rfl (by first | exact hI.c0 rfl | exact hI.c1 rfl | exact (at_mul (hI.c0 (vl_getA hpn8)))) | exact rLd rfl (by kernel_rfl) rfl (by first | exact hI.c0 rfl | exact hI.c1 rfl | exact (at_mul (hI.c0 (vl_getA hpn8))))) ?_
      refine WL_val rfl rfl rfl (by first | exact rInc rfl rfl rfl (by omega) | exact rAdd rfl rfl rfl (by omega) | exact rAddW rfl rfl rfl) ?_
      refine WL_val rfl rfl rfl (rIdxArr (sz := 1) (i := pn) rfl Tryd.underlying37 (by kernel_rfl) rfl rfl hpn hpn8) ?_
      refine WL_st0 (u := .int .i64 _) (j := 0 + pn * 1) hI rfl rfl rfl rfl rfl rfl (by kernel_rfl) rfl (by simp [Nat.blt, i64s, vl]; omega) rfl ?_
      rw [Nat.zero_add, Nat.mul_one, i64s_set, vl_set]
      clear hI; intro w hI
      refine WL_nil ?_
      refine W_draw (by kernel_rfl) ?_
      refine WA_inv (T := [9]) hI.d2.d2.drew ?_
      intro Sx hSx hXS
      replace hI := hI.drew
      refine WT_take 0 rfl rfl (by kernel_rfl) (hXS _ hI.d2.d2) rfl (fun W hW => have hI := hSx W hW; (by first | exact rMoveS rfl rfl | exact rMove rfl)) ?_
      refine WT_take 1 rfl rfl (by kernel_rfl) (hXS _ hI.d2.d2) rfl (fun W hW => have hI := hSx W hW; (by first | exact rMoveI rfl rfl | exact rMove rfl)) ?_
      refine WT_take 2 rfl rfl (by kernel_rfl) (hXS _ hI.d2.d2) rfl (fun W hW => have hI := hSx W hW; (by first | exact rFldN (off := 0) rfl (by kernel_rfl) rfl | exact rFld0 rfl (by kernel_rfl) rfl)) ?_
      refine WT_take 3 rfl rfl (by kernel_rfl) (hXS _ hI.d2.d2) rfl (fun W hW => have hI := hSx W hW; (by first | exact rLd (v := .int .i64 _) rfl (by kernel_rfl) rfl (by first | exact hI.c0 rfl | exact hI.c1 rfl) | exact rLd rfl (by kernel_rfl) rfl (by first | exact hI.c0 rfl | exact hI.c1 rfl))) ?_
      refine WT_take 4 rfl rfl (by kernel_rfl) (hXS _ hI.d2.d2) rfl (fun W hW => have hI := hSx W hW; (by first | exact rLdB (n := 8) rfl (by kernel_rfl) (by kernel_rfl) rfl (by first | rfl | (simp only [i64s, Value.cells, List.size_toArray, List.length_map]; omega)) hI.g0 | exact rLdB (n := 8) rfl (by kernel_rfl) (by kernel_rfl) rfl (by first | rfl | (simp only [i64s, Value.cells, List.size_toArray, List.length_map]; omega)) hI.g1)) ?_
      refine WT_take 5 rfl rfl (by kernel_rfl) (hXS _ hI.d2.d2) rfl (fun W hW => have hI := hSx W hW; (by first | exact rLdB (n := 8) rfl (by kernel_rfl) (by kernel_rfl) rfl (by first | rfl | (simp only [i64s, Value.cells, List.size_toArray, List.length_map]; omega)) hI.g0 | exact rLdB (n := 8) rfl (by kernel_rfl) (by kernel_rfl) rfl (by first | rfl | (simp only [i64s, Value.cells, List.size_toArray, List.length_map]; omega)) hI.g1)) ?_
      refine WT_take 6 rfl rfl (by kernel_rfl) (hXS _ hI.d2.d2) rfl (fun W hW => have hI := hSx W hW; (rIdx (sz := 8) rfl Tryd.underlying23 (by kernel_rfl) rfl rfl (by omega))) ?_
      refine WT_one 7 rfl (by kernel_rfl) rfl ?_
      refine WL_stA (u := .agg (i64s (vl _)).toArray) (vs := (i64s (vl _)).toArray) (n := 8) 2 rfl hI rfl rfl rfl rfl rfl rfl (by kernel_rfl) (by simp [i64s, vl]) (by unfold vgr; rw [grd_size]; omega) (by simp [i64s, Value.oneCell']) (vgr_set hkn) ?_
      clear hI; intro w hI
      refine WL_nil ⟨hXS _ hI.d2.d2, ?_⟩
      refine WT_take 8 rfl rfl (by kernel_rfl) (hXS _ hI.d2.d2) rfl (fun W hW => have hI := hSx W hW; (rIdxArr (sz := 8) (i := pn) rfl Tryd.underlying48 (by kernel_rfl) rfl rfl hpn hpn8)) ?_
      refine WT_A (by kernel_rfl) ?_
      clear hXS hSx
      refine WA_one 9 rfl (by kernel_rfl) ?_
      refine WL_stA (u := .agg (i64s (vl _)).toArray) (vs := (i64s (vl _)).toArray) (n := 8) 3 rfl hI rfl rfl rfl rfl rfl rfl (by kernel_rfl) (by simp [i64s, vl]) (by unfold vgr; rw [grd_size]; omega) (by simp [i64s, Value.oneCell']) (vgr_set hpn8) ?_
      clear hI; intro w hI
      refine WL_nil ?_
      refine WA_end (by kernel_rfl) ?_
      replace hI := hI.d0.d0
      refine W_region ?_
      refine WL_val rfl rfl rfl (by first | exact rInc rfl rfl rfl (by omega) | exact rAdd rfl rfl rfl (by omega) | exact rAddW rfl rfl rfl) ?_
      refine WL_val rfl rfl rfl (by first | exact rMoveI rfl rfl | exact rMove rfl) ?_
      refine WL_nil ?_
      refine ⟨⟨k + 1, by omega, ⟨rfl, rfl, rfl, rfl, rfl, rfl, trivial⟩, ?_⟩, by show n - ((k + 1 : Nat) : Int).toNat < n - (k : Int).toNat; omega⟩
      have ht : vTo (prc l) (fromF l) (k + 1) = (fun r q => if r = pn then (if q = pn then (vTo (prc l) (fromF l) k).1 pn pn + 1 else (vTo (prc l) (fromF l) k).1 pn q) else (vTo (prc l) (fromF l) k).1 r q, fun i q => if i = k then (if q = pn then (vTo (prc l) (fromF l) k).1 pn pn + 1 else (vTo (prc l) (fromF l) k).1 pn q) else (vTo (prc l) (fromF l) k).2 i q) := by
        rw [vTo]; unfold vNew; simp only [hf, hpt]
        refine Prod.ext ?_ ?_
        · funext r q
          by_cases h1 : r = pn <;> by_cases h2 : q = pn <;> simp [h1, h2]
        · funext r q
          by_cases h1 : r = k <;> by_cases h2 : q = pn <;> simp [h1, h2]
      rw [ht]
      exact hI
  | some m =>
      have hmk := from_lt hf
      rw [hf] at e1
      refine W_seq ?_
      refine W_seq ?_
      refine W_region ?_
      refine WL_val rfl rfl rfl (by first | exact rMoveS rfl rfl | exact rMove rfl) ?_
      refine WL_val rfl rfl rfl (by first | exact rMoveI rfl rfl | exact rMove rfl) ?_
      refine WL_val rfl rfl rfl (by first | exact rIdx0 rfl Tryd.underlying28 (by kernel_rfl) rfl rfl rfl (by omega) | exact rIdx1 rfl Tryd.underlying28 (by kernel_rfl) rfl rfl (by omega)) ?_
      refine WL_val rfl rfl rfl (by first | exact rLd (v := .int .i64 _) rfl (by kernel_rfl) rfl (by first | exact (row_cell hI.g4 e1)) | exact rLd rfl (by kernel_rfl) rfl (by first | exact (row_cell hI.g4 e1))) ?_
      refine WL_val rfl rfl rfl (rGeqT (a := ((m : Nat) : Int)) rfl rfl rfl (by omega)) ?_
      refine WL_nil ?_
      refine W_cond true rfl ?_
      refine W_draw (by kernel_rfl) ?_
      refine WA_inv (T := [9]) hI.drew ?_
      intro Sx hSx hXS
      replace hI := hI.drew
      refine WT_take 0 rfl rfl (by kernel_rfl) (hXS _ hI) rfl (fun W hW => have hI := hSx W hW; (by first | exact rLdB (n := 8) rfl (by kernel_rfl) (by kernel_rfl) rfl (by first | rfl | (simp only [i64s, Value.cells, List.size_toArray, List.length_map]; omega)) hI.g0 | exact rLdA (n := 8) rfl (by kernel_rfl) (by kernel_rfl) rfl (by rfl) (fun k u hk => hI.oldp ((vgr_row hI.g2 (show m < n by omega)) k u hk)) | exact rLdA (n := 8) rfl (by kernel_rfl) (by kernel_rfl) rfl (by rfl) (vgr_row hI.g2 (show m < n by omega)))) ?_
      refine WT_take 1 rfl rfl (by kernel_rfl) (hXS _ hI) rfl (fun W hW => have hI := hSx W hW; (by first | exact rMoveS rfl rfl | exact rMove rfl)) ?_
      refine WT_take 2 rfl rfl (by kernel_rfl) (hXS _ hI) rfl (fun W hW => have hI := hSx W hW; (by first | exact rMoveS rfl rfl | exact rMove rfl)) ?_
      refine WT_take 3 rfl rfl (by kernel_rfl) (hXS _ hI) rfl (fun W hW => have hI := hSx W hW; (by first | exact rMoveI rfl rfl | exact rMove rfl)) ?_
      refine WT_take 4 rfl rfl (by kernel_rfl) (hXS _ hI) rfl (fun W hW => have hI := hSx W hW; (by first | exact rIdx0 rfl Tryd.underlying28 (by kernel_rfl) rfl rfl rfl (by omega) | exact rIdx1 rfl Tryd.underlying28 (by kernel_rfl) rfl rfl (by omega))) ?_
      refine WT_take 5 rfl rfl (by kernel_rfl) (hXS _ hI) rfl (fun W hW => have hI := hSx W hW; (by first | exact rLd (v := .int .i64 _) rfl (by kernel_rfl) rfl (by first | exact hI.c0 rfl | exact (row_cell hI.g4 e1)) | exact rLd rfl (by kernel_rfl) rfl (by first | exact hI.c0 rfl | exact (row_cell hI.g4 e1)))) ?_
      refine WT_take 6 rfl rfl (by kernel_rfl) (hXS _ hI) rfl (fun W hW => have hI := hSx W hW; (rIdx (sz := 8) (i := m) rfl Tryd.underlying23 (by kernel_rfl) rfl rfl (by omega))) ?_
      refine WT_take 7 rfl rfl (by kernel_rfl) (hXS _ hI) rfl (fun W hW => have hI := hSx W hW; (by first | exact rLdB (n := 8) rfl (by kernel_rfl) (by kernel_rfl) rfl (by first | rfl | (simp only [i64s, Value.cells, List.size_toArray, List.length_map]; omega)) hI.g0 | exact rLdA (n := 8) rfl (by kernel_rfl) (by kernel_rfl) rfl (by rfl) (fun k u hk => hI.oldp ((vgr_row hI.g2 (show m < n by omega)) k u hk)) | exact rLdA (n := 8) rfl (by kernel_rfl) (by kernel_rfl) rfl (by rfl) (vgr_row hI.g2 (show m < n by omega)))) ?_
      refine WT_one 8 rfl (by kernel_rfl) rfl ?_
      refine WL_call rfl rfl rfl (rCall (vs := [.agg _, .agg _]) rfl Tryd.func16 rfl rfl rfl) ?_
      refine (joinV_any _ _ _ (vl_len _) (vl_len _)).mono ?_
      rintro e w1 ⟨rfl, hp⟩
      refine ⟨_, rfl, ?_⟩
      replace hI := hI.pure hp
      refine WL_nil ⟨hXS _ hI, ?_⟩
      refine WT_A (by kernel_rfl) ?_
      clear hXS hSx
      refine WA_one 9 rfl (by kernel_rfl) ?_
      first | refine WL_stw0 (u := .agg _) (vs := _) (n := 8) hI rfl rfl rfl rfl rfl rfl (by kernel_rfl) (by first | rfl | (simp only [i64s, Value.cells, List.size_toArray, List.length_map]; omega)) (by first | rfl | (simp only [i64s, Value.cells, List.size_toArray, List.length_map]; omega)) (by first | rfl | simp [i64s, Value.cells, Value.oneCell']) ?_
      clear hI; intro w hI
      refine WL_nil ?_
      refine WA_end (by kernel_rfl) ?_
      rw [vl_join] at hI
      have hb2 := hb.2 m pn
      simp only [Value.cells] at hI
      refine W_seq ?_
      refine W_region ?_
      refine WL_val rfl rfl rfl (by first | exact rFldN (off := 0) rfl (by kernel_rfl) rfl | exact rFld0 rfl (by kernel_rfl) rfl) ?_
      refine WL_val rfl rfl rfl (by first | exact rLd (v := .int .i64 _) rfl (by kernel_rfl) rfl (by first | exact hI.c0 rfl | exact hI.c1 rfl | exact (at_mul (hI.c0 (vl_getA hpn8)))) | exact rLd rfl (by kernel_rfl) rfl (by first | exact hI.c0 rfl | exact hI.c1 rfl | exact (at_mul (hI.c0 (vl_getA hpn8))))) ?_
      refine WL_val rfl rfl rfl (rIdxArr (sz := 1) (i := pn) rfl Tryd.underlying37 (by kernel_rfl) rfl rfl hpn hpn8) ?_
      refine WL_val rfl rfl rfl (by first | exact rLd (v := .int .i64 _) rfl (by kernel_rfl) rfl (by first | exact hI.c0 rfl | exact hI.c1 rfl | exact (at_mul (hI.c0 (vl_getA hpn8)))) | exact rLd rfl (by kernel_rfl) rfl (by first | exact hI.c0 rfl | exact hI.c1 rfl | exact (at_mul (hI.c0 (vl_getA hpn8))))) ?_
      refine WL_val rfl rfl rfl (by first | exact rInc rfl rfl rfl (by omega) | exact rAdd rfl rfl rfl (by omega) | exact rAddW rfl rfl rfl) ?_
      refine WL_val rfl rfl rfl (rIdxArr (sz := 1) (i := pn) rfl Tryd.underlying37 (by kernel_rfl) rfl rfl hpn hpn8) ?_
      refine WL_st0 (u := .int .i64 _) (j := 0 + pn * 1) hI rfl rfl rfl rfl rfl rfl (by kernel_rfl) rfl (by simp [Nat.blt, i64s, vl]; omega) rfl ?_
      rw [Nat.zero_add, Nat.mul_one, i64s_set, vl_set]
      clear hI; intro w hI
      refine WL_nil ?_
      refine W_draw (by kernel_rfl) ?_
      refine WA_inv (T := [9]) hI.d2.d2.drew ?_
      intro Sx hSx hXS
      replace hI := hI.drew
      refine WT_take 0 rfl rfl (by kernel_rfl) (hXS _ hI.d2.d2) rfl (fun W hW => have hI := hSx W hW; (by first | exact rMoveS rfl rfl | exact rMove rfl)) ?_
      refine WT_take 1 rfl rfl (by kernel_rfl) (hXS _ hI.d2.d2) rfl (fun W hW => have hI := hSx W hW; (by first | exact rMoveI rfl rfl | exact rMove rfl)) ?_
      refine WT_take 2 rfl rfl (by kernel_rfl) (hXS _ hI.d2.d2) rfl (fun W hW => have hI := hSx W hW; (by first | exact rFldN (off := 0) rfl (by kernel_rfl) rfl | exact rFld0 rfl (by kernel_rfl) rfl)) ?_
      refine WT_take 3 rfl rfl (by kernel_rfl) (hXS _ hI.d2.d2) rfl (fun W hW => have hI := hSx W hW; (by first | exact rLd (v := .int .i64 _) rfl (by kernel_rfl) rfl (by first | exact hI.c0 rfl | exact hI.c1 rfl) | exact rLd rfl (by kernel_rfl) rfl (by first | exact hI.c0 rfl | exact hI.c1 rfl))) ?_
      refine WT_take 4 rfl rfl (by kernel_rfl) (hXS _ hI.d2.d2) rfl (fun W hW => have hI := hSx W hW; (by first | exact rLdB (n := 8) rfl (by kernel_rfl) (by kernel_rfl) rfl (by first | rfl | (simp only [i64s, Value.cells, List.size_toArray, List.length_map]; omega)) hI.g0 | exact rLdB (n := 8) rfl (by kernel_rfl) (by kernel_rfl) rfl (by first | rfl | (simp only [i64s, Value.cells, List.size_toArray, List.length_map]; omega)) hI.g1)) ?_
      refine WT_take 5 rfl rfl (by kernel_rfl) (hXS _ hI.d2.d2) rfl (fun W hW => have hI := hSx W hW; (by first | exact rLdB (n := 8) rfl (by kernel_rfl) (by kernel_rfl) rfl (by first | rfl | (simp only [i64s, Value.cells, List.size_toArray, List.length_map]; omega)) hI.g0 | exact rLdB (n := 8) rfl (by kernel_rfl) (by kernel_rfl) rfl (by first | rfl | (simp only [i64s, Value.cells, List.size_toArray, List.length_map]; omega)) hI.g1)) ?_
      refine WT_take 6 rfl rfl (by kernel_rfl) (hXS _ hI.d2.d2) rfl (fun W hW => have hI := hSx W hW; (rIdx (sz := 8) rfl Tryd.underlying23 (by kernel_rfl) rfl rfl (by omega))) ?_
      refine WT_one 7 rfl (by kernel_rfl) rfl ?_
      refine WL_stA (u := .agg (i64s (vl _)).toArray) (vs := (i64s (vl _)).toArray) (n := 8) 2 rfl hI rfl rfl rfl rfl rfl rfl (by kernel_rfl) (by simp [i64s, vl]) (by unfold vgr; rw [grd_size]; omega) (by simp [i64s, Value.oneCell']) (vgr_set hkn) ?_
      clear hI; intro w hI
      refine WL_nil ⟨hXS _ hI.d2.d2, ?_⟩
      refine WT_take 8 rfl rfl (by kernel_rfl) (hXS _ hI.d2.d2) rfl (fun W hW => have hI := hSx W hW; (rIdxArr (sz := 8) (i := pn) rfl Tryd.underlying48 (by kernel_rfl) rfl rfl hpn hpn8)) ?_
      refine WT_A (by kernel_rfl) ?_
      clear hXS hSx
      refine WA_one 9 rfl (by kernel_rfl) ?_
      refine WL_stA (u := .agg (i64s (vl _)).toArray) (vs := (i64s (vl _)).toArray) (n := 8) 3 rfl hI rfl rfl rfl rfl rfl rfl (by kernel_rfl) (by simp [i64s, vl]) (by unfold vgr; rw [grd_size]; omega) (by simp [i64s, Value.oneCell']) (vgr_set hpn8) ?_
      clear hI; intro w hI
      refine WL_nil ?_
      refine WA_end (by kernel_rfl) ?_
      replace hI := hI.d0.d0
      refine W_region ?_
      refine WL_val rfl rfl rfl (by first | exact rInc rfl rfl rfl (by omega) | exact rAdd rfl rfl rfl (by omega) | exact rAddW rfl rfl rfl) ?_
      refine WL_val rfl rfl rfl (by first | exact rMoveI rfl rfl | exact rMove rfl) ?_
      refine WL_nil ?_
      refine ⟨⟨k + 1, by omega, ⟨rfl, rfl, rfl, rfl, rfl, rfl, trivial⟩, ?_⟩, by show n - ((k + 1 : Nat) : Int).toNat < n - (k : Int).toNat; omega⟩
      have ht : vTo (prc l) (fromF l) (k + 1) = (fun r q => if r = pn then (if q = pn then max ((vTo (prc l) (fromF l) k).1 pn pn) ((vTo (prc l) (fromF l) k).2 m pn) + 1 else max ((vTo (prc l) (fromF l) k).1 pn q) ((vTo (prc l) (fromF l) k).2 m q)) else (vTo (prc l) (fromF l) k).1 r q, fun i q => if i = k then (if q = pn then max ((vTo (prc l) (fromF l) k).1 pn pn) ((vTo (prc l) (fromF l) k).2 m pn) + 1 else max ((vTo (prc l) (fromF l) k).1 pn q) ((vTo (prc l) (fromF l) k).2 m q)) else (vTo (prc l) (fromF l) k).2 i q) := by
        rw [vTo]; unfold vNew; simp only [hf, hpt]
        refine Prod.ext ?_ ?_
        · funext r q
          by_cases h1 : r = pn <;> by_cases h2 : q = pn <;> simp [h1, h2]
        · funext r q
          by_cases h1 : r = k <;> by_cases h2 : q = pn <;> simp [h1, h2]
      rw [ht]
      exact hI
end Go.Proofs.YtajbhabkhgpcfaaDoor
