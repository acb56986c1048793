/- testimonykeep: take, made, sameCalls. -/
import Derived.Test.YtlhmldjgmbcocaaDoorGen4
import Derived.Test.YtlhmldjgmbcocaaDoorGen9
namespace Go.Proofs.YtlhmldjgmbcocaaDoor
open Go.RowKit
set_option linter.unusedVariables false
set_option linter.unusedSimpArgs false
/-- What take gives of a text. -/
def takenF (bs : List UInt8) (nums : List Int) (most : Nat) (cs : List Ca) : Prop := ∃ g g' u', parsedT bs = some g ∧ Tk nums g 0 most cs g' u'
set_option maxHeartbeats 1000000 in
theorem ktake_any (bs : List UInt8) (A : Option Addr) (len cp : Nat) (nums : List Int) (D : Nat → Prop) (most : Nat) (w0 : World) (hG : NumG w0) (hN : Ints w0 D (.slice A len cp) nums) (hb : bs.length ≤ 9000000000000000000) (hm : most ≤ 1000) :
    Calls Tryd.prog 6 #[strV bs, .slice A len cp, .int .i64 (most : Int)] w0 fun e w' => (∃ cs A' c', takenF bs nums most cs ∧ e = .returned (.tuple #[.slice A' cs.length c', .bool true]) ∧ Inv (fun _ => False) w0 w' [Row 0 45 3 A' cs.length c' (cs.flatMap caL)]) ∨
      (parsedT bs = none ∧ e = .returned (.tuple #[.slice none 0 0, .bool false]) ∧ Pure w0 w') := by
  have hI := Inv.start (fun _ => False) w0
  refine calls_of_W (N := Tryd.f6.ntmps) Tryd.func6 rfl rfl rfl ?_
  refine W_seq ?_
  refine W_region ?_
  refine WL_val rfl rfl rfl (by first | exact rAsgnS rfl rfl | exact rAsgn rfl) ?_
  refine WL_val rfl rfl rfl (by first | exact rAsgnB rfl rfl | exact rAsgn rfl) ?_
  refine WL_nil ?_
  cases hx : parsedT bs with
  | none =>
    refine W_seq ?_
    refine W_region ?_
    refine WL_val rfl rfl rfl (by first | exact rMoveStr rfl rfl | exact rMove rfl) ?_
    refine WL_call rfl rfl rfl (rCall (vs := [.string _]) rfl Tryd.func10 rfl rfl rfl) ?_
    refine (parse_any bs _ hG hb).mono ?_
    rintro e w1 (⟨g, v, L, h, -⟩ | ⟨-, ⟨U, u, rfl⟩, hp⟩)
    · rw [hx] at h; cases h
    refine ⟨_, rfl, ?_⟩
    replace hI := hI.pure hp
    refine WL_val rfl rfl rfl (by first | exact rMoveT rfl rfl | exact rMove rfl) ?_
    refine WL_val rfl rfl rfl (rExtr rfl rfl rfl) ?_
    refine WL_val rfl rfl rfl (rExtr rfl rfl rfl) ?_
    refine WL_val rfl rfl rfl (by first | exact rAsgnN rfl rfl | exact rAsgnE rfl rfl | exact rAsgn rfl) ?_
    refine WL_val rfl rfl rfl (by first | exact rAsgnN rfl rfl | exact rAsgnE rfl rfl | exact rAsgn rfl) ?_
    refine WL_nil ?_
    refine W_seq ?_
    refine W_seq ?_
    refine W_region ?_
    refine WL_val rfl rfl rfl (by first | exact rMoveN rfl rfl | exact rMoveE rfl rfl | exact rMove rfl) ?_
    refine WL_val rfl rfl rfl (by first | exact rIfaceNe rfl Tryd.underlying35 rfl rfl | exact rNilNe rfl Tryd.underlying35 rfl) ?_
    refine WL_val rfl rfl rfl (by first | exact rMoveB rfl rfl | exact rMove rfl) ?_
    refine WL_skip rfl rfl rfl ?_
    refine WL_skip rfl rfl rfl ?_
    refine WL_val rfl rfl rfl (by first | exact rPickTB rfl rfl rfl | exact rPickFB rfl rfl rfl | exact rPickB rfl rfl rfl rfl) ?_
    refine WL_nil ?_
    refine W_cond true rfl ?_
    refine W_seq ?_
    refine W_region ?_
    refine WL_val rfl rfl rfl (by first | exact rAsgnS rfl rfl | exact rAsgn rfl) ?_
    refine WL_val rfl rfl rfl (by first | exact rAsgnB rfl rfl | exact rAsgn rfl) ?_
    refine WL_nil ?_
    refine W_ret ?_
    exact ret2 6 7 (.inr rfl) rfl (.inr ⟨rfl, rfl, hI.pu⟩)
  | some g =>
    have hgz : g.sz ≤ 2000 := by
      unfold parsedT at hx
      split at hx
      · have := parsed_sz hx; omega
      · cases hx
    refine W_seq ?_
    refine W_region ?_
    refine WL_val rfl rfl rfl (by first | exact rMoveStr rfl rfl | exact rMove rfl) ?_
    refine WL_call rfl rfl rfl (rCall (vs := [.string _]) rfl Tryd.func10 rfl rfl rfl) ?_
    refine (parse_any bs _ hG hb).mono ?_
    rintro e w1 (⟨g', v, L, h, rfl, hR, hJ⟩ | ⟨h, -⟩)
    rotate_left
    · rw [hx] at h; cases h
    rw [hx] at h
    cases h
    obtain ⟨Tv, bv, rfl⟩ := hR.val
    refine ⟨_, rfl, ?_⟩
    replace hI := hI.app hJ
    refine WL_val rfl rfl rfl (by first | exact rMoveT rfl rfl | exact rMove rfl) ?_
    refine WL_val rfl rfl rfl (rExtr rfl rfl rfl) ?_
    refine WL_val rfl rfl rfl (rExtr rfl rfl rfl) ?_
    refine WL_val rfl rfl rfl (by first | exact rAsgnN rfl rfl | exact rAsgnE rfl rfl | exact rAsgn rfl) ?_
    refine WL_val rfl rfl rfl (by first | exact rAsgnN rfl rfl | exact rAsgnE rfl rfl | exact rAsgn rfl) ?_
    refine WL_nil ?_
    refine W_seq ?_
    refine W_seq ?_
    refine W_region ?_
    refine WL_val rfl rfl rfl (by first | exact rMoveN rfl rfl | exact rMoveE rfl rfl | exact rMove rfl) ?_
    refine WL_val rfl rfl rfl (by first | exact rIfaceNe rfl Tryd.underlying35 rfl rfl | exact rNilNe rfl Tryd.underlying35 rfl) ?_
    refine WL_val rfl rfl rfl (by first | exact rMoveB rfl rfl | exact rMove rfl) ?_
    first | refine WL_val rfl rfl rfl (by first | exact rMoveN rfl rfl | exact rMoveE rfl rfl | exact rMove rfl) ?_ | refine WL_skip rfl rfl rfl ?_
    first | refine WL_val rfl rfl rfl (by first | exact rIfaceEq rfl Tryd.underlying33 rfl rfl | exact rNilEq rfl Tryd.underlying33 rfl) ?_ | refine WL_skip rfl rfl rfl ?_
    refine WL_val rfl rfl rfl (by first | exact rPickTB rfl rfl rfl | exact rPickFB rfl rfl rfl | exact rPickB rfl rfl rfl rfl) ?_
    refine WL_nil ?_
    refine W_cond false rfl ?_
    refine W_skip ?_
    refine W_seq ?_
    refine W_region ?_
    refine WL_val rfl rfl rfl (by first | exact rMoveN rfl rfl | exact rMoveE rfl rfl | exact rMove rfl) ?_
    refine WL_val rfl rfl rfl (by first | exact rMoveS rfl rfl | exact rMove rfl) ?_
    refine WL_val rfl rfl rfl (rBuild (qs := [(0, .slice _ _ _)]) (vs := [_, _]) [.slice none 0 0, .int .i64 0] [0] rfl rfl rfl (fun _ => by kernel_rfl)) ?_
    refine WL_box (u := .agg _) (vs := #[_, _]) hI rfl rfl rfl rfl rfl rfl ?_
    clear hI; rintro b26 w - - hI
    refine WL_val rfl rfl rfl (by first | exact rMoveI rfl rfl | exact rMove rfl) ?_
    refine WL_call rfl rfl rfl (rCall (vs := [_, .pointer _, .int .i64 _]) rfl Tryd.func11 rfl rfl rfl) ?_
    refine (take_any (fun _ => False) D w0 _ [] _ g _ b26 0 A len cp nums most hR hI hN (fun _ _ h => h) hm (by have : most * g.sz ≤ 1000 * 2000 := Nat.mul_le_mul hm hgz; omega) (by omega)).mono ?_
    rintro e w2 ⟨cs, g', L', u', A', c', hT, hR', rfl, hI2⟩
    refine ⟨_, rfl, ?_⟩
    replace hI := hI2
    clear hI2
    refine WL_val rfl rfl rfl (by first | exact rMoveT rfl rfl | exact rMove rfl) ?_
    refine WL_val rfl rfl rfl (rExtr rfl rfl rfl) ?_
    refine WL_val rfl rfl rfl (rExtr rfl rfl rfl) ?_
    refine WL_val rfl rfl rfl (by first | exact rAsgnS rfl rfl | exact rAsgn rfl) ?_
    refine WL_val rfl rfl rfl (by first | exact rAsgnN rfl rfl | exact rAsgnE rfl rfl | exact rAsgn rfl) ?_
    refine WL_nil ?_
    refine W_seq ?_
    refine W_draw (by kernel_rfl) ?_
    refine WA_inv (T := []) hI.drew ?_
    intro Sx hSx hXS
    replace hI := hI.drew
    refine WT_take 0 rfl rfl (by kernel_rfl) (hXS _ hI) rfl (fun W hW => have hI := hSx W hW; (by first | exact rMoveS rfl rfl | exact rMove rfl)) ?_
    refine WT_take 1 rfl rfl (by kernel_rfl) (hXS _ hI) rfl (fun W hW => have hI := hSx W hW; (by first | exact rMoveN rfl rfl | exact rMoveE rfl rfl | exact rMove rfl)) ?_
    refine WT_take 2 rfl rfl (by kernel_rfl) (hXS _ hI) rfl (fun W hW => have hI := hSx W hW; (by first | exact rIfaceEq rfl Tryd.underlying35 rfl rfl | exact rNilEq rfl Tryd.underlying35 rfl)) ?_
    refine WT_take 3 rfl rfl (by kernel_rfl) (hXS _ hI) rfl (fun W hW => have hI := hSx W hW; (by first | exact rAsgnS rfl rfl | exact rAsgn rfl)) ?_
    refine WT_take 4 rfl rfl (by kernel_rfl) (hXS _ hI) rfl (fun W hW => have hI := hSx W hW; (by first | exact rAsgnB rfl rfl | exact rAsgn rfl)) ?_
    refine WT_end (by kernel_rfl) ?_
    refine W_ret ?_
    exact ret2 6 7 (.inr rfl) rfl (.inl ⟨cs, A', c', ⟨g, g', u', hx, hT⟩, rfl, hI.sub ((List.nil_sublist _).cons_cons _)⟩)
def madeT : List UInt8 := [108, 105, 109, 105, 116, 32, 50, 32, 114, 101, 97, 100, 32, 51]
theorem madeT_parsed : parsedT madeT = some (.lim 2 (.rd 3)) := by
  kernel_rfl
theorem madeT_take : Tk [] (.lim 2 (.rd 3)) 0 5 [(false, 3, 0), (false, 3, 0)] (.lim 0 (.rd 3)) 0 := .step (.lim .rd) (.step (.lim .rd) (.stop .lim0))
theorem ca_cell {w : World} {base n c g o : Nat} {cs : List Ca} (h : w.ownsRow base 45 3 (.slice (some ⟨g, o, none⟩) n c) n (cs.flatMap caL)) (hn : 0 < n) {i j : Nat} {x : Ca} {u : Value} (hi : cs[i]? = some x) (hj : (caL x)[j]? = some u) : w.cell? ⟨g, o + (i * 3 + j), none⟩ = some u :=
  row_cellS h (by rw [flat_get caL_len cs i j x hi (by have := (List.getElem?_eq_some_iff.1 hj).1; rwa [caL_len] at this)]; exact hj) hn
set_option maxHeartbeats 1000000 in
theorem made_any (w0 : World) (hG : NumG w0) : Calls Tryd.prog 8 #[] w0 fun e w' => e = .returned (.bool true) ∧ Pure w0 w' := by
  have hI := Inv.start (fun _ => False) w0
  refine calls_of_W (N := Tryd.f8.ntmps) Tryd.func8 rfl rfl rfl ?_
  refine W_seq ?_
  refine W_region ?_
  refine WL_val rfl rfl rfl (by first | exact rAsgnB rfl rfl | exact rAsgn rfl) ?_
  refine WL_nil ?_
  refine W_seq ?_
  refine W_region ?_
  refine WL_call rfl rfl rfl (rCall (vs := [.string _]) rfl Tryd.func10 rfl rfl rfl) ?_
  refine (parse_any madeT _ hG (by decide)).mono ?_
  rw [madeT_parsed]
  rintro e w1 (⟨g', v, L, h, rfl, hR, hJ⟩ | ⟨h, -⟩)
  rotate_left
  · cases h
  cases h
  obtain ⟨Tv, bv, rfl⟩ := hR.val
  refine ⟨_, rfl, ?_⟩
  replace hI := hI.app hJ
  refine WL_val rfl rfl rfl (by first | exact rMoveT rfl rfl | exact rMove rfl) ?_
  refine WL_val rfl rfl rfl (rExtr rfl rfl rfl) ?_
  refine WL_val rfl rfl rfl (rExtr rfl rfl rfl) ?_
  refine WL_val rfl rfl rfl (by first | exact rAsgnN rfl rfl | exact rAsgnE rfl rfl | exact rAsgn rfl) ?_
  refine WL_val rfl rfl rfl (by first | exact rAsgnN rfl rfl | exact rAsgnE rfl rfl | exact rAsgn rfl) ?_
  refine WL_nil ?_
  refine W_seq ?_
  refine W_seq ?_
  refine W_region ?_
  refine WL_val rfl rfl rfl (by first | exact rMoveN rfl rfl | exact rMoveE rfl rfl | exact rMove rfl) ?_
  refine WL_val rfl rfl rfl (by first | exact rIfaceNe rfl Tryd.underlying35 rfl rfl | exact rNilNe rfl Tryd.underlying35 rfl) ?_
  refine WL_val rfl rfl rfl (by first | exact rMoveB rfl rfl | exact rMove rfl) ?_
  first | refine WL_val rfl rfl rfl (by first | exact rMoveN rfl rfl | exact rMoveE rfl rfl | exact rMove rfl) ?_ | refine WL_skip rfl rfl rfl ?_
  first | refine WL_val rfl rfl rfl (by first | exact rIfaceEq rfl Tryd.underlying33 rfl rfl | exact rNilEq rfl Tryd.underlying33 rfl) ?_ | refine WL_skip rfl rfl rfl ?_
  refine WL_val rfl rfl rfl (by first | exact rPickTB rfl rfl rfl | exact rPickFB rfl rfl rfl | exact rPickB rfl rfl rfl rfl) ?_
  refine WL_nil ?_
  refine W_cond false rfl ?_
  refine W_skip ?_
  refine W_seq ?_
  refine W_region ?_
  refine WL_val rfl rfl rfl (by first | exact rMoveN rfl rfl | exact rMoveE rfl rfl | exact rMove rfl) ?_
  refine WL_val rfl rfl rfl (rBuild (qs := []) (vs := [_, _]) [.slice none 0 0, .int .i64 0] [] rfl rfl rfl (fun _ => by kernel_rfl)) ?_
  refine WL_box (u := .agg _) (vs := #[_, _]) hI rfl rfl rfl rfl rfl rfl ?_
  clear hI; rintro b17 w - - hI
  refine WL_call rfl rfl rfl (rCall (vs := [_, .pointer _, .int .i64 _]) rfl Tryd.func11 rfl rfl rfl) ?_
  refine (take_any (fun _ => False) (fun _ => False) w0 _ [] _ _ _ b17 0 none 0 0 [] 5 hR hI ⟨none, 0, rfl, Nat.le_refl _, by omega, rfl, fun h => by simp at h⟩ (fun _ _ h => h) (by omega) (by simp only [Ge.sz]; omega) (by simp only [Ge.sz]; omega)).mono ?_
  rintro e w2 ⟨cs, g', L', u', A', c', hT, hR', he, hI2⟩
  obtain ⟨rfl, -, -⟩ := hT.det madeT_take
  replace he : e = .returned (.tuple #[.slice A' 2 c', .nilIface]) := he
  subst he
  refine ⟨_, rfl, ?_⟩
  replace hI : Inv (fun _ => False) w0 w2 [Row 0 45 3 A' 2 c' ([((false, 3, 0) : Ca), (false, 3, 0)].flatMap caL)] := hI2.sub ((List.nil_sublist _).cons_cons _)
  clear hI2
  refine WL_val rfl rfl rfl (by first | exact rMoveT rfl rfl | exact rMove rfl) ?_
  refine WL_val rfl rfl rfl (rExtr rfl rfl rfl) ?_
  refine WL_val rfl rfl rfl (rExtr rfl rfl rfl) ?_
  refine WL_val rfl rfl rfl (by first | exact rAsgnS rfl rfl | exact rAsgn rfl) ?_
  refine WL_val rfl rfl rfl (by first | exact rAsgnN rfl rfl | exact rAsgnE rfl rfl | exact rAsgn rfl) ?_
  refine WL_nil ?_
  obtain ⟨bA, oA, rfl⟩ := row_addrS hI.g0 (by decide) (by decide)
  have hc0 := ca_cell hI.g0 (by decide) (i := 0) (j := 0) rfl rfl
  have hc1 := ca_cell hI.g0 (by decide) (i := 0) (j := 1) rfl rfl
  refine W_seq ?_
  refine W_region ?_
  refine WL_val rfl rfl rfl (by first | exact rMoveN rfl rfl | exact rMoveE rfl rfl | exact rMove rfl) ?_
  refine WL_val rfl rfl rfl (by first | exact rIfaceEq rfl Tryd.underlying35 rfl rfl | exact rNilEq rfl Tryd.underlying35 rfl) ?_
  refine WL_val rfl rfl rfl (by first | exact rMoveB rfl rfl | exact rMove rfl) ?_
  first | refine WL_val rfl rfl rfl (by first | exact rMoveS rfl rfl | exact rMove rfl) ?_ | refine WL_skip rfl rfl rfl ?_
  first | refine WL_val rfl rfl rfl (rLen rfl Tryd.underlying24 rfl) ?_ | refine WL_skip rfl rfl rfl ?_
  first | refine WL_val rfl rfl rfl (by first | exact rEqlT rfl rfl rfl (by omega) | exact rEqlF rfl rfl rfl (by omega) | exact rEql rfl rfl rfl) ?_ | refine WL_skip rfl rfl rfl ?_
  refine WL_val rfl rfl rfl (by first | exact rPickTB rfl rfl rfl | exact rPickFB rfl rfl rfl | exact rPickB rfl rfl rfl rfl) ?_
  refine WL_val rfl rfl rfl (by first | exact rMoveB rfl rfl | exact rMove rfl) ?_
  first | refine WL_val rfl rfl rfl (by first | exact rMoveS rfl rfl | exact rMove rfl) ?_ | refine WL_skip rfl rfl rfl ?_
  first | refine WL_val rfl rfl rfl (rIdx (sz := 3) (i := 0) rfl Tryd.underlying24 (by kernel_rfl) rfl rfl (by omega)) ?_ | refine WL_skip rfl rfl rfl ?_
  first | refine WL_val rfl rfl rfl (by first | exact rFldN (off := 1) rfl (by kernel_rfl) rfl | exact rFld (off := 1) rfl (by kernel_rfl) rfl) ?_ | refine WL_skip rfl rfl rfl ?_
  first | refine WL_val rfl rfl rfl (by first | exact rLd (v := .int .i64 _) rfl (by kernel_rfl) rfl (by first | exact hc0 | exact hc1) | exact rLd rfl (by kernel_rfl) rfl (by first | exact hc0 | exact hc1)) ?_ | refine WL_skip rfl rfl rfl ?_
  first | refine WL_val rfl rfl rfl (by first | exact rEqlT rfl rfl rfl (by omega) | exact rEqlF rfl rfl rfl (by omega) | exact rEql rfl rfl rfl) ?_ | refine WL_skip rfl rfl rfl ?_
  refine WL_val rfl rfl rfl (by first | exact rPickTB rfl rfl rfl | exact rPickFB rfl rfl rfl | exact rPickB rfl rfl rfl rfl) ?_
  refine WL_val rfl rfl rfl (by first | exact rMoveB rfl rfl | exact rMove rfl) ?_
  first | refine WL_val rfl rfl rfl (by first | exact rMoveS rfl rfl | exact rMove rfl) ?_ | refine WL_skip rfl rfl rfl ?_
  first | refine WL_val rfl rfl rfl (rIdx (sz := 3) (i := 0) rfl Tryd.underlying24 (by kernel_rfl) rfl rfl (by omega)) ?_ | refine WL_skip rfl rfl rfl ?_
  first | refine WL_val rfl rfl rfl (by first | exact rFldN (off := 0) rfl (by kernel_rfl) rfl | exact rFld0 rfl (by kernel_rfl) rfl) ?_ | refine WL_skip rfl rfl rfl ?_
  first | refine WL_val rfl rfl rfl (by first | exact rLd (v := .bool _) rfl (by kernel_rfl) rfl (by first | exact hc0 | exact hc1) | exact rLd rfl (by kernel_rfl) rfl (by first | exact hc0 | exact hc1)) ?_ | refine WL_skip rfl rfl rfl ?_
  first | refine WL_val rfl rfl rfl (by first | exact rNotT rfl rfl | exact rNotF rfl rfl | exact rNot rfl rfl) ?_ | refine WL_skip rfl rfl rfl ?_
  refine WL_val rfl rfl rfl (by first | exact rPickTB rfl rfl rfl | exact rPickFB rfl rfl rfl | exact rPickB rfl rfl rfl rfl) ?_
  refine WL_val rfl rfl rfl (by first | exact rAsgnB rfl rfl | exact rAsgn rfl) ?_
  refine WL_nil ?_
  refine W_ret ?_
  exact ret1 0 (.inr rfl) rfl ⟨rfl, hI.pu⟩
theorem parsedT_some {bs : List UInt8} {g : Ge} (h : parsedT bs = some g) : parsed bs = some g := by
  unfold parsedT at h
  split at h
  · exact h
  · cases h
/-! ### the same calls -/
theorem callFs : ∃ fs : List Field, (Tryd.prog.fieldsOf 45).toList = fs ∧ Tryd.prog.underlying 45 = some (.struct (Tryd.prog.fieldsOf 45)) ∧ Tryd.prog.stoodInHeld 45 = false ∧ Tryd.prog.eqGuardType Tryd.prog.depth 45 = false ∧
    fs.map (fun f => (f.name != "_", f.type, f.offset)) = [(true, 4, 0), (true, 3, 1), (true, 3, 2)] := ⟨_, rfl, by kernel_rfl, by kernel_rfl, by kernel_rfl, by kernel_rfl⟩
set_option maxRecDepth 100000 in
theorem run_equal_call (x y : Ca) (w : World) : (Op.equalIn 10000 45 (.agg (caL x).toArray) (.agg (caL y).toArray)).run Tryd.prog w = .ok (decide (x = y)) w := by
  obtain ⟨fs, h1, h2, h3, -, h4⟩ := callFs
  rw [run_equalIn_struct w 9999 45 _ _ h2 h3, h1]
  obtain ⟨x1, x2, x3⟩ := x
  obtain ⟨y1, y2, y3⟩ := y
  match fs, h4 with
  | [f0, f1, f2], h4 =>
    simp only [List.map_cons, List.map_nil, List.cons.injEq, Prod.mk.injEq, bne_iff_ne, and_true] at h4
    obtain ⟨⟨n0, t0, o0⟩, ⟨n1, t1, o1⟩, ⟨n2, t2, o2⟩⟩ := h4
    have pB : plainB Tryd.prog 4 = true := by kernel_rfl
    have pI : plainB Tryd.prog 3 = true := by kernel_rfl
    have hp : ∀ (t : TypeId) (cs : List Value) (k : Nat) (v : Value), plainB Tryd.prog t = true → cs[k]? = some v → (part t cs.toArray k).run Tryd.prog w = .ok v w := fun t cs k v ht hv => by
      simp [part, run_isAgg_plain ht, hv]
    have e0 := run_equalIn_bool' (P := Tryd.prog) w 9998 4 x1 y1 Tryd.underlying4
    have e1 := run_equalIn_int (P := Tryd.prog) w 9998 3 .i64 .i64 x2 y2 Tryd.underlying3
    have e2 := run_equalIn_int (P := Tryd.prog) w 9998 3 .i64 .i64 x3 y3 Tryd.underlying3
    have a0 := hp 4 (caL (x1, x2, x3)) 0 _ pB rfl
    have b0 := hp 4 (caL (y1, y2, y3)) 0 _ pB rfl
    have a1 := hp 3 (caL (x1, x2, x3)) 1 _ pI rfl
    have b1 := hp 3 (caL (y1, y2, y3)) 1 _ pI rfl
    have a2 := hp 3 (caL (x1, x2, x3)) 2 _ pI rfl
    have b2 := hp 3 (caL (y1, y2, y3)) 2 _ pI rfl
    simp only [Op.eqFields, n0, n1, n2, ne_eq, not_false_eq_true, if_true, t0, o0, t1, o1, t2, o2, Sem.run_bind, a0, b0, a1, b1, a2, b2, e0, e1, e2, Result.andThen_ok]
    by_cases q0 : x1 = y1
    · subst q0
      by_cases q1 : x2 = y2
      · subst q1
        by_cases q2 : x3 = y3
        · subst q2
          simp [a1, a2, e1, e2]
        · simp [a1, a2, b1, b2, e1, e2, q2]
      · simp [a1, b1, e1, q1]
    · simp [q0]
theorem rNeCa {ρ : Env} {o : Oper} {w : World} {x y : Operand} {t' : TypeId} {a b : Ca} (ho : o.op = .binOp .neq 45 x y t') (hx : ev ρ x = .agg (caL a).toArray) (hy : ev ρ y = .agg (caL b).toArray) : Runs Tryd.prog ρ o w (.bool (!decide (a = b))) := by
  obtain ⟨fs, -, -, -, hg, -⟩ := callFs
  have h1 := run_eqGuard_agg (P := Tryd.prog) w .neq 45 x y (caL a).toArray (caL b).toArray hg
  have h2 := run_neq_struct (P := Tryd.prog) w 45 (caL a).toArray (caL b).toArray
  rw [run_equal_call a b] at h2
  simp [Runs, execOp, ho, hx, hy, h1, h2]
theorem rNeCaT {ρ : Env} {o : Oper} {w : World} {x y : Operand} {t' : TypeId} {a b : Ca} (ho : o.op = .binOp .neq 45 x y t') (hx : ev ρ x = .agg (caL a).toArray) (hy : ev ρ y = .agg (caL b).toArray) (h : a ≠ b) : Runs Tryd.prog ρ o w (.bool true) := by
  have := rNeCa (w := w) ho hx hy
  rwa [decide_eq_false h] at this
theorem rNeCaF {ρ : Env} {o : Oper} {w : World} {x y : Operand} {t' : TypeId} {a b : Ca} (ho : o.op = .binOp .neq 45 x y t') (hx : ev ρ x = .agg (caL a).toArray) (hy : ev ρ y = .agg (caL b).toArray) (h : a = b) : Runs Tryd.prog ρ o w (.bool false) := by
  have := rNeCa (w := w) ho hx hy
  rwa [decide_eq_true h] at this
/-- Calls that lie in a row. -/
def CasA (w : World) (A : Option Addr) (n c : Nat) (cs : List Ca) : Prop := Rd w (fun _ => True) 3 (.slice A n c) n (cs.flatMap caL)
theorem CasA.of_row {S : Nat → Prop} {w0 w : World} {H : List Ent} {A : Option Addr} {n c : Nat} {cs : List Ca} (hI : Inv S w0 w (Row 0 45 3 A n c (cs.flatMap caL) :: H)) : CasA w A n c cs := Rd.of_own hI.g0 (fun _ _ _ => trivial)
theorem CasA.at_ {w : World} {A : Option Addr} {n c i : Nat} {cs : List Ca} {x : Ca} (h : CasA w A n c cs) (hi : cs[i]? = some x) (hn : 0 < n) : ∃ b o, A = some ⟨b, o, none⟩ ∧ ∀ j u, (caL x)[j]? = some u → w.cell? ⟨b, o + i * 3 + j, none⟩ = some u := by
  have hcell : ∀ j u, (caL x)[j]? = some u → (cs.flatMap caL)[i * 3 + j]? = some u := fun j u hj => by rw [flat_get caL_len cs i j x hi (by have := (List.getElem?_eq_some_iff.1 hj).1; rwa [caL_len] at this)]; exact hj
  obtain ⟨b, o, hA, -, -, -⟩ := Rd.get h (hcell 0 _ rfl) hn
  refine ⟨b, o, hA, fun j u hj => ?_⟩
  obtain ⟨b', o', hA', -, -, hc⟩ := Rd.get h (hcell j u hj) hn
  rw [hA] at hA'
  injection hA' with hA'
  injection hA' with h1 h2
  subst h1 h2
  rw [Nat.add_assoc]
  exact hc
set_option maxHeartbeats 1000000 in
theorem same_any (A A' : Option Addr) (n m c c' : Nat) (xs ys : List Ca) (w0 : World) (hA : CasA w0 A n c xs) (hB : CasA w0 A' m c' ys) (hn : n = xs.length) (hm : m = ys.length) :
    Calls Tryd.prog 9 #[.slice A n c, .slice A' m c'] w0 fun e w' => e = .returned (.bool (decide (xs = ys))) ∧ Pure w0 w' := by
  subst hn hm
  have hI := Inv.start (fun _ => False) w0
  obtain ⟨_, _, hv, hl1, hl2⟩ := hA.form
  injection hv with _ _ hv
  subst hv
  refine calls_of_W (N := Tryd.f9.ntmps) Tryd.func9 rfl rfl rfl ?_
  refine W_seq ?_
  refine W_region ?_
  refine WL_val rfl rfl rfl (by first | exact rAsgnB rfl rfl | exact rAsgn rfl) ?_
  refine WL_nil ?_
  by_cases hl : xs.length = ys.length
  rotate_left
  · refine W_seq ?_
    refine W_seq ?_
    refine W_region ?_
    refine WL_val rfl rfl rfl (by first | exact rMoveS rfl rfl | exact rMove rfl) ?_
    refine WL_val rfl rfl rfl (rLen rfl Tryd.underlying24 rfl) ?_
    refine WL_val rfl rfl rfl (by first | exact rMoveS rfl rfl | exact rMove rfl) ?_
    refine WL_val rfl rfl rfl (rLen rfl Tryd.underlying24 rfl) ?_
    refine WL_val rfl rfl rfl (by first | exact rNeqT rfl rfl rfl (by omega) | exact rNeqF rfl rfl rfl (by omega) | exact rNeq rfl rfl rfl) ?_
    refine WL_nil ?_
    refine W_cond true rfl ?_
    refine W_seq ?_
    refine W_region ?_
    refine WL_val rfl rfl rfl (by first | exact rAsgnB rfl rfl | exact rAsgn rfl) ?_
    refine WL_nil ?_
    refine W_ret ?_
    refine ret1 4 (.inr rfl) rfl ⟨?_, hI.pu⟩
    rw [decide_eq_false (fun h => hl (by rw [h]))]; rfl
  refine W_seq ?_
  refine W_seq ?_
  refine W_region ?_
  refine WL_val rfl rfl rfl (by first | exact rMoveS rfl rfl | exact rMove rfl) ?_
  refine WL_val rfl rfl rfl (rLen rfl Tryd.underlying24 rfl) ?_
  refine WL_val rfl rfl rfl (by first | exact rMoveS rfl rfl | exact rMove rfl) ?_
  refine WL_val rfl rfl rfl (rLen rfl Tryd.underlying24 rfl) ?_
  refine WL_val rfl rfl rfl (by first | exact rNeqT rfl rfl rfl (by omega) | exact rNeqF rfl rfl rfl (by omega) | exact rNeq rfl rfl rfl) ?_
  refine WL_nil ?_
  refine W_cond false rfl ?_
  refine W_skip ?_
  refine W_seq ?_
  refine W_seq ?_
  refine W_region ?_
  refine WL_val rfl rfl rfl (by first | exact rAsgnI rfl rfl | exact rAsgn rfl) ?_
  refine WL_nil ?_
  refine W_block ?_
  refine W_loopN (fun mu ρ w => ∃ i : Nat, mu = xs.length - i ∧ i ≤ xs.length ∧ (∀ j, j < i → xs[j]? = ys[j]?) ∧ Has ρ [(0, .slice A xs.length c), (1, .slice A' ys.length c'), (5, .int .i64 (i : Int))] ∧ Inv (fun _ => False) w0 w []) xs.length
    ⟨0, rfl, Nat.zero_le _, fun j hj => by omega, ⟨rfl, rfl, rfl, trivial⟩, hI⟩ ?_
  clear hI
  rintro mu ρ w ⟨i, rfl, hi, hall, hH, hI⟩
  obtain ⟨σ, rfl⟩ := hH.open
  by_cases hil : i < xs.length
  rotate_left
  · refine W_seq ?_
    refine W_seq ?_
    refine W_region ?_
    refine WL_val rfl rfl rfl (by first | exact rMoveI rfl rfl | exact rMove rfl) ?_
    refine WL_val rfl rfl rfl (by first | exact rMoveS rfl rfl | exact rMove rfl) ?_
    refine WL_val rfl rfl rfl (rLen rfl Tryd.underlying24 rfl) ?_
    refine WL_val rfl rfl rfl (by first | exact rLssT rfl rfl rfl (by omega) | exact rLssF rfl rfl rfl (by omega) | exact rLss rfl rfl rfl) ?_
    refine WL_nil ?_
    refine W_cond false rfl ?_
    refine W_exit ?_
    refine W_seq ?_
    refine W_region ?_
    refine WL_val rfl rfl rfl (by first | exact rAsgnB rfl rfl | exact rAsgn rfl) ?_
    refine WL_nil ?_
    refine W_ret ?_
    refine ret1 4 (.inr rfl) rfl ⟨?_, hI.pu⟩
    have : xs = ys := List.ext_getElem? fun j => by
      rcases Nat.lt_or_ge j i with h | h
      · exact hall j h
      · rw [List.getElem?_eq_none (by omega), List.getElem?_eq_none (by omega)]
    rw [decide_eq_true this]; rfl
  obtain ⟨x, hx⟩ : ∃ x, xs[i]? = some x := ⟨xs[i], List.getElem?_eq_getElem hil⟩
  obtain ⟨y, hy⟩ : ∃ y, ys[i]? = some y := ⟨ys[i], List.getElem?_eq_getElem (by omega)⟩
  obtain ⟨ba, oa, rfl, hca⟩ := hA.at_ hx (by omega)
  obtain ⟨bb, ob, rfl, hcb⟩ := hB.at_ hy (by omega)
  refine W_seq ?_
  refine W_seq ?_
  refine W_region ?_
  refine WL_val rfl rfl rfl (by first | exact rMoveI rfl rfl | exact rMove rfl) ?_
  refine WL_val rfl rfl rfl (by first | exact rMoveS rfl rfl | exact rMove rfl) ?_
  refine WL_val rfl rfl rfl (rLen rfl Tryd.underlying24 rfl) ?_
  refine WL_val rfl rfl rfl (by first | exact rLssT rfl rfl rfl (by omega) | exact rLssF rfl rfl rfl (by omega) | exact rLss rfl rfl rfl) ?_
  refine WL_nil ?_
  refine W_cond true rfl ?_
  refine W_skip ?_
  refine W_seq ?_
  refine W_block ?_
  by_cases hxy : x = y
  · refine W_seq ?_
    refine W_draw (by kernel_rfl) ?_
    refine WA_inv (T := []) hI.drew ?_
    intro Sx hSx hXS
    replace hI := hI.drew
    refine WT_take 0 rfl rfl (by kernel_rfl) (hXS _ hI) rfl (fun W hW => have hI := hSx W hW; (by first | exact rMoveS rfl rfl | exact rMove rfl)) ?_
    refine WT_take 1 rfl rfl (by kernel_rfl) (hXS _ hI) rfl (fun W hW => have hI := hSx W hW; (by first | exact rMoveI rfl rfl | exact rMove rfl)) ?_
    refine WT_take 2 rfl rfl (by kernel_rfl) (hXS _ hI) rfl (fun W hW => have hI := hSx W hW; (rIdx (sz := 3) rfl Tryd.underlying24 (by kernel_rfl) rfl rfl (by omega))) ?_
    refine WT_take 3 rfl rfl (by kernel_rfl) (hXS _ hI) rfl (fun W hW => have hI := hSx W hW; (by first | exact rLdB (n := 3) rfl (by kernel_rfl) (by kernel_rfl) rfl rfl hI.g0 | exact rLdA (n := 3) rfl (by kernel_rfl) (by kernel_rfl) rfl (by rfl) (fun k u hk => hI.oldp (hca k u hk)) | exact rLdA (n := 3) rfl (by kernel_rfl) (by kernel_rfl) rfl (by rfl) hca | exact rLdA (n := 3) rfl (by kernel_rfl) (by kernel_rfl) rfl (by rfl) (fun k u hk => hI.oldp (hcb k u hk)) | exact rLdA (n := 3) rfl (by kernel_rfl) (by kernel_rfl) rfl (by rfl) hcb | exact rLd3 rfl (by kernel_rfl) (by kernel_rfl) rfl (by first | exact hI.c0 rfl) (by first | exact hI.c0 rfl) (by first | exact hI.c0 rfl))) ?_
    refine WT_take 4 rfl rfl (by kernel_rfl) (hXS _ hI) rfl (fun W hW => have hI := hSx W hW; (by first | exact rMoveS rfl rfl | exact rMove rfl)) ?_
    refine WT_take 5 rfl rfl (by kernel_rfl) (hXS _ hI) rfl (fun W hW => have hI := hSx W hW; (by first | exact rMoveI rfl rfl | exact rMove rfl)) ?_
    refine WT_take 6 rfl rfl (by kernel_rfl) (hXS _ hI) rfl (fun W hW => have hI := hSx W hW; (rIdx (sz := 3) rfl Tryd.underlying24 (by kernel_rfl) rfl rfl (by omega))) ?_
    refine WT_take 7 rfl rfl (by kernel_rfl) (hXS _ hI) rfl (fun W hW => have hI := hSx W hW; (by first | exact rLdB (n := 3) rfl (by kernel_rfl) (by kernel_rfl) rfl rfl hI.g0 | exact rLdA (n := 3) rfl (by kernel_rfl) (by kernel_rfl) rfl (by rfl) (fun k u hk => hI.oldp (hca k u hk)) | exact rLdA (n := 3) rfl (by kernel_rfl) (by kernel_rfl) rfl (by rfl) hca | exact rLdA (n := 3) rfl (by kernel_rfl) (by kernel_rfl) rfl (by rfl) (fun k u hk => hI.oldp (hcb k u hk)) | exact rLdA (n := 3) rfl (by kernel_rfl) (by kernel_rfl) rfl (by rfl) hcb | exact rLd3 rfl (by kernel_rfl) (by kernel_rfl) rfl (by first | exact hI.c0 rfl) (by first | exact hI.c0 rfl) (by first | exact hI.c0 rfl))) ?_
    refine WT_take 8 rfl rfl (by kernel_rfl) (hXS _ hI) rfl (fun W hW => have hI := hSx W hW; (rNeCaF rfl rfl rfl hxy)) ?_
    refine WT_end (by kernel_rfl) ?_
    refine W_cond false rfl ?_
    refine W_skip ?_
    refine W_region ?_
    refine WL_val rfl rfl rfl (by first | exact rMoveI rfl rfl | exact rMove rfl) ?_
    refine WL_val rfl rfl rfl (by first | exact rInc rfl rfl rfl (by omega) | exact rAdd rfl rfl rfl (by omega) | exact rAddW rfl rfl rfl) ?_
    refine WL_val rfl rfl rfl (by first | exact rAsgnI rfl rfl | exact rAsgn rfl) ?_
    refine WL_nil ?_
    refine ⟨xs.length - (i + 1), by omega, i + 1, rfl, by omega, fun j hj => ?_, ⟨rfl, rfl, rfl, trivial⟩, hI⟩
    rcases Nat.lt_or_ge j i with h | h
    · exact hall j h
    · obtain rfl : j = i := by omega
      rw [hx, hy, hxy]
  · refine W_seq ?_
    refine W_draw (by kernel_rfl) ?_
    refine WA_inv (T := []) hI.drew ?_
    intro Sx hSx hXS
    replace hI := hI.drew
    refine WT_take 0 rfl rfl (by kernel_rfl) (hXS _ hI) rfl (fun W hW => have hI := hSx W hW; (by first | exact rMoveS rfl rfl | exact rMove rfl)) ?_
    refine WT_take 1 rfl rfl (by kernel_rfl) (hXS _ hI) rfl (fun W hW => have hI := hSx W hW; (by first | exact rMoveI rfl rfl | exact rMove rfl)) ?_
    refine WT_take 2 rfl rfl (by kernel_rfl) (hXS _ hI) rfl (fun W hW => have hI := hSx W hW; (rIdx (sz := 3) rfl Tryd.underlying24 (by kernel_rfl) rfl rfl (by omega))) ?_
    refine WT_take 3 rfl rfl (by kernel_rfl) (hXS _ hI) rfl (fun W hW => have hI := hSx W hW; (by first | exact rLdB (n := 3) rfl (by kernel_rfl) (by kernel_rfl) rfl rfl hI.g0 | exact rLdA (n := 3) rfl (by kernel_rfl) (by kernel_rfl) rfl (by rfl) (fun k u hk => hI.oldp (hca k u hk)) | exact rLdA (n := 3) rfl (by kernel_rfl) (by kernel_rfl) rfl (by rfl) hca | exact rLdA (n := 3) rfl (by kernel_rfl) (by kernel_rfl) rfl (by rfl) (fun k u hk => hI.oldp (hcb k u hk)) | exact rLdA (n := 3) rfl (by kernel_rfl) (by kernel_rfl) rfl (by rfl) hcb | exact rLd3 rfl (by kernel_rfl) (by kernel_rfl) rfl (by first | exact hI.c0 rfl) (by first | exact hI.c0 rfl) (by first | exact hI.c0 rfl))) ?_
    refine WT_take 4 rfl rfl (by kernel_rfl) (hXS _ hI) rfl (fun W hW => have hI := hSx W hW; (by first | exact rMoveS rfl rfl | exact rMove rfl)) ?_
    refine WT_take 5 rfl rfl (by kernel_rfl) (hXS _ hI) rfl (fun W hW => have hI := hSx W hW; (by first | exact rMoveI rfl rfl | exact rMove rfl)) ?_
    refine WT_take 6 rfl rfl (by kernel_rfl) (hXS _ hI) rfl (fun W hW => have hI := hSx W hW; (rIdx (sz := 3) rfl Tryd.underlying24 (by kernel_rfl) rfl rfl (by omega))) ?_
    refine WT_take 7 rfl rfl (by kernel_rfl) (hXS _ hI) rfl (fun W hW => have hI := hSx W hW; (by first | exact rLdB (n := 3) rfl (by kernel_rfl) (by kernel_rfl) rfl rfl hI.g0 | exact rLdA (n := 3) rfl (by kernel_rfl) (by kernel_rfl) rfl (by rfl) (fun k u hk => hI.oldp (hca k u hk)) | exact rLdA (n := 3) rfl (by kernel_rfl) (by kernel_rfl) rfl (by rfl) hca | exact rLdA (n := 3) rfl (by kernel_rfl) (by kernel_rfl) rfl (by rfl) (fun k u hk => hI.oldp (hcb k u hk)) | exact rLdA (n := 3) rfl (by kernel_rfl) (by kernel_rfl) rfl (by rfl) hcb | exact rLd3 rfl (by kernel_rfl) (by kernel_rfl) rfl (by first | exact hI.c0 rfl) (by first | exact hI.c0 rfl) (by first | exact hI.c0 rfl))) ?_
    refine WT_take 8 rfl rfl (by kernel_rfl) (hXS _ hI) rfl (fun W hW => have hI := hSx W hW; (rNeCaT rfl rfl rfl hxy)) ?_
    refine WT_end (by kernel_rfl) ?_
    refine W_cond true rfl ?_
    refine W_seq ?_
    refine W_region ?_
    refine WL_val rfl rfl rfl (by first | exact rAsgnB rfl rfl | exact rAsgn rfl) ?_
    refine WL_nil ?_
    refine W_ret ?_
    refine ret1 4 (.inr rfl) rfl ⟨?_, hI.pu⟩
    have : xs ≠ ys := fun h => by
      rw [h, hy] at hx
      exact hxy (Option.some.inj hx).symm
    rw [decide_eq_false this]; rfl
end Go.Proofs.YtlhmldjgmbcocaaDoor
