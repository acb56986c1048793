/- ModelBack: the walk. -/
import Derived.Test.YtlmpolmalgpodaaDoorMod6
import Derived.Test.YtlmpolmalgpodaaDoorModLaw3
import Derived.Test.YtlmpolmalgpodaaDoorPick
namespace Go.Proofs.YtlmpolmalgpodaaDoor
open Go.RowKit
set_option linter.unusedVariables false
set_option linter.unusedSimpArgs false
set_option maxHeartbeats 1000000 in
theorem stepped_any (w0 : World) (hk : KnOk w0) : Calls Tryd.prog 14 #[] w0 fun en w' => en = .returned (.bool true) ∧ Pure w0 w' := by
  have hI := Inv.start (fun _ => False) w0
  refine calls_of_W (N := Tryd.f14.ntmps) Tryd.func14 rfl rfl rfl ?_
  refine W_seq ?_
  refine W_region ?_
  refine WL_val rfl rfl rfl (by first | exact rAsgnB rfl rfl | exact rAsgn rfl) ?_
  refine WL_nil ?_
  refine W_seq ?_
  refine W_region ?_
  refine WL_call rfl rfl rfl (rCall (vs := [.int .i64 _]) rfl Tryd.func11 rfl rfl rfl) ?_
  refine (start_any 1 _).mono ?_
  rintro e1 w1 ⟨A1, c1, rfl, hT⟩
  refine ⟨_, rfl, ?_⟩
  replace hI := hI.app1 hT
  refine WL_call rfl rfl rfl (rCall (vs := [.int .i64 _, .slice _ _ _, .int .i64 _, .int .i64 _, .int .i64 _]) rfl Tryd.func13 rfl rfl rfl) ?_
  refine (step_any 1 A1 c1 (startF 1) 2 5 0 _ _ (Row_rd hI.g0) (okSt_start 1) (by decide) (hk.pure hI.pu)).mono ?_
  rintro e1 w1 hpost
  unfold StepPost at hpost
  rw [show stepF 1 (startF 1) 2 5 0 = some ([5], 0) from by decide +kernel] at hpost
  obtain ⟨A2, c2, rfl, hT⟩ := hpost
  refine ⟨.tuple #[.slice A2 1 c2, .int .i64 0, .bool true], rfl, ?_⟩
  replace hI : Inv (fun _ => False) w0 w1 (StE A2 c2 [5] :: _) := hI.app1 hT
  refine WL_val rfl rfl rfl (by first | exact rMoveT rfl rfl | exact rMove rfl) ?_
  refine WL_val rfl rfl rfl (rExtr rfl rfl rfl) ?_
  refine WL_val rfl rfl rfl (rExtr rfl rfl rfl) ?_
  refine WL_val rfl rfl rfl (rExtr rfl rfl rfl) ?_
  refine WL_val rfl rfl rfl (by first | exact rAsgnS rfl rfl | exact rAsgn rfl) ?_
  refine WL_val rfl rfl rfl (by first | exact rAsgnI rfl rfl | exact rAsgn rfl) ?_
  refine WL_val rfl rfl rfl (by first | exact rAsgnB rfl rfl | exact rAsgn rfl) ?_
  refine WL_nil ?_
  obtain ⟨ab, ao, rfl⟩ := row_addrS hI.g0 (by simp) (by omega)
  have hc : w1.cell? ⟨ab, ao, none⟩ = some (.int .i64 5) := row_cellS hI.g0 (i := 0) rfl (by simp)
  refine W_seq ?_
  refine W_region ?_
  refine WL_val rfl rfl rfl (by first | exact rMoveB rfl rfl | exact rMove rfl) ?_
  refine WL_val rfl rfl rfl (by first | exact rMoveB rfl rfl | exact rMove rfl) ?_
  first | refine WL_val rfl rfl rfl (by first | exact rMoveI rfl rfl | exact rMove rfl) ?_ | refine WL_skip rfl rfl rfl ?_
  first | refine WL_val rfl rfl rfl (by first | exact rEqlT rfl rfl rfl (by omega) | exact rEqlF rfl rfl rfl (by omega) | exact rEql rfl rfl rfl) ?_ | refine WL_skip rfl rfl rfl ?_
  refine WL_val rfl rfl rfl (by first | exact rPickTB rfl rfl rfl | exact rPickFB rfl rfl rfl | exact rPickB rfl rfl rfl rfl) ?_
  refine WL_val rfl rfl rfl (by first | exact rMoveB rfl rfl | exact rMove rfl) ?_
  first | refine WL_val rfl rfl rfl (by first | exact rMoveS rfl rfl | exact rMove rfl) ?_ | refine WL_skip rfl rfl rfl ?_
  first | refine WL_val rfl rfl rfl (rLen rfl Tryd.underlying22 rfl) ?_ | refine WL_skip rfl rfl rfl ?_
  first | refine WL_val rfl rfl rfl (by first | exact rEqlT rfl rfl rfl (by omega) | exact rEqlF rfl rfl rfl (by omega) | exact rEql rfl rfl rfl) ?_ | refine WL_skip rfl rfl rfl ?_
  refine WL_val rfl rfl rfl (by first | exact rPickTB rfl rfl rfl | exact rPickFB rfl rfl rfl | exact rPickB rfl rfl rfl rfl) ?_
  refine WL_val rfl rfl rfl (by first | exact rMoveB rfl rfl | exact rMove rfl) ?_
  first | refine WL_val rfl rfl rfl (by first | exact rMoveS rfl rfl | exact rMove rfl) ?_ | refine WL_skip rfl rfl rfl ?_
  first | refine WL_val rfl rfl rfl (by first | exact rIdx0 (i := 0) rfl Tryd.underlying22 (by kernel_rfl) rfl rfl rfl (by omega) | exact rIdx1 (i := 0) rfl Tryd.underlying22 (by kernel_rfl) rfl rfl (by omega)) ?_ | refine WL_skip rfl rfl rfl ?_
  first | refine WL_val rfl rfl rfl (by first | exact rLd (v := .int .i64 _) rfl (by kernel_rfl) rfl (by first | exact hc) | exact rLd rfl (by kernel_rfl) rfl (by first | exact hc)) ?_ | refine WL_skip rfl rfl rfl ?_
  first | refine WL_val rfl rfl rfl (by first | exact rEqlT rfl rfl rfl (by omega) | exact rEqlF rfl rfl rfl (by omega) | exact rEql rfl rfl rfl) ?_ | refine WL_skip rfl rfl rfl ?_
  refine WL_val rfl rfl rfl (by first | exact rPickTB rfl rfl rfl | exact rPickFB rfl rfl rfl | exact rPickB rfl rfl rfl rfl) ?_
  refine WL_val rfl rfl rfl (by first | exact rAsgnB rfl rfl | exact rAsgn rfl) ?_
  refine WL_nil ?_
  refine W_ret ?_
  exact ret1 0 (.inr rfl) rfl ⟨rfl, hI.pu⟩
theorem Chain.key {o : Int} : ∀ {st : List Int} {l : List Op8} {st' : List Int}, Chain o st l st' → ∀ i, i < l.length → (oAt l i).key = 0
  | st, [], st', h, i, hi => by simp at hi
  | st, q :: l, st', h, i, hi => by
    obtain ⟨h1, h2, s, h3, h4⟩ := h
    cases i with
    | zero => exact h1
    | succ i => exact h4.key i (by simpa using hi)
abbrev OrdE (A : Option Addr) (c n : Nat) : Ent := Row 0 3 1 A n c (i64s (ordF n))
abbrev OpsE (A : Option Addr) (c : Nat) (ops : List Op8) : Ent := Row 0 29 8 A ops.length c (ops.flatMap opV)
theorem ordF_succ (n : Nat) : i64s (ordF (n + 1)) = i64s (ordF n) ++ [.int .i64 ((n : Nat) : Int)] := by simp [i64s, ordF, List.range_succ]
theorem OpsE_rd {w : World} {A : Option Addr} {c : Nat} {l : List Op8} (h : (OpsE A c l).Φ w) : OpsR w (fun _ => True) (.slice A l.length c) l := Rd.of_own (D := fun _ => True) h (fun _ _ _ => trivial)
theorem OrdE_rd {w : World} {A : Option Addr} {c n : Nat} (h : (OrdE A c n).Φ w) : Rd w (fun _ => True) 1 (.slice A (ordF n).length c) (ordF n).length (i64s (ordF n)) := by
  have e : (ordF n).length = n := by simp [ordF]
  rw [e]; exact Rd.of_own (D := fun _ => True) h (fun _ _ _ => trivial)
theorem wrap_ne (r : Int) : IntKind.i64.wrap (r + 1) ≠ r := by
  simp [IntKind.wrap, IntKind.signed, IntKind.bits]; omega
theorem Chain.last {o : Int} : ∀ {st : List Int} {l : List Op8} {st' : List Int}, Chain o st l st' → ∀ i, i < l.length → (oAt l i).key = 0 ∧ 0 ≤ (oAt l i).ret
  | st, [], st', h, i, hi => by simp at hi
  | st, q :: l, st', h, i, hi => by
    obtain ⟨h1, h2, s, h3, h4⟩ := h
    cases i with
    | zero => exact ⟨h1, h2⟩
    | succ i => exact h4.last i (by simpa using hi)
theorem at_off {w : World} {b k : Nat} {v : Value} (h : w.cell? ⟨b, k * 8 + 5, none⟩ = some v) : w.cell? ⟨b, 0 + k * 8 + 5, none⟩ = some v := by rwa [Nat.zero_add]
theorem row_openS {w : World} {e n c s : Nat} {A : Option Addr} {xs : List Value} (h : w.ownsRow 0 e s (.slice A n c) n xs) (hn : 0 < n) : ∃ g cur, A = some ⟨g, 0, none⟩ ∧ Blk w g e cur ∧ n ≤ c ∧ c ≤ 9223372036854775807 ∧ cur.size = c * s ∧ cur.toList.take (n * s) = xs := by
  obtain ⟨hl, ⟨hv, hn0⟩ | ⟨g, cap, cur, hv, _, hb, h1, h2, h3, h4⟩⟩ := h
  · omega
  · injection hv with e1 e2 e3
    subst e1 e3
    exact ⟨g, cur, rfl, hb, h1, by simpa [maxLen] using h2, h3, h4⟩
theorem row_closeS {w : World} {e g n c s : Nat} {cur : Array Value} {xs : List Value} (hb : Blk w g e cur) (h1 : n ≤ c) (h2 : c ≤ 9223372036854775807) (h3 : cur.size = c * s) (h4 : cur.toList.take (n * s) = xs) : (Row 0 e s (some ⟨g, 0, none⟩) n c xs).ok w :=
  Row.ok ⟨by rw [← h4, List.length_take, Array.length_toList, h3]; exact Nat.min_eq_left (Nat.mul_le_mul_right s h1), .inr ⟨g, c, cur, rfl, Nat.zero_le _, hb, h1, by simpa [maxLen] using h2, h3, h4⟩⟩
theorem flat_set {z : Int} {lo : Op8} : ∀ {l : List Op8} {k : Nat}, l[k]? = some lo → (l.set k { lo with res := z }).flatMap opV = (l.flatMap opV).set (k * 8 + 5) (.int .i64 z)
  | [], k, h => by simp at h
  | q :: r, 0, h => by
    simp at h; subst h
    simp [opV]
  | q :: r, k + 1, h => by
    have ih := flat_set (z := z) (l := r) (k := k) (by simpa using h)
    rw [List.set_cons_succ, List.flatMap_cons, List.flatMap_cons, ih, List.set_append_right _ _ (by simp [opV]; omega)]
    congr 2
    simp [opV]; omega
set_option maxHeartbeats 4000000 in
theorem modelBack_any (o : Int) (A : Option Addr) (c : Nat) (ks : List Int) (A' : Option Addr) (c' : Nat) (vs : List Int) (D D' : Nat → Prop) (w0 : World) (h : Rd w0 D 1 (.slice A ks.length c) ks.length (i64s ks)) (h' : Rd w0 D' 1 (.slice A' vs.length c') vs.length (i64s vs)) (hk : KnOk w0) :
    Calls Tryd.prog 3 #[.int .i64 o, .slice A ks.length c, .slice A' vs.length c'] w0 fun en w' => en = .returned (.bool true) ∧ Pure w0 w' := by
  have hI := Inv.start (fun _ => False) w0
  refine calls_of_W (N := Tryd.f3.ntmps) Tryd.func3 rfl rfl rfl ?_
  refine W_seq ?_
  refine W_region ?_
  refine WL_val rfl rfl rfl (by first | exact rAsgnB rfl rfl | exact rAsgn rfl) ?_
  refine WL_nil ?_
  by_cases h30 : 30 < ks.length
  · refine W_seq ?_
    refine W_seq ?_
    refine W_region ?_
    refine WL_val rfl rfl rfl (by first | exact rMoveS rfl rfl | exact rMove rfl) ?_
    refine WL_val rfl rfl rfl (rLen rfl Tryd.underlying22 rfl) ?_
    refine WL_val rfl rfl rfl (by first | exact rGtrT rfl rfl rfl (by omega) | exact rGtrF rfl rfl rfl (by omega) | exact rGtr rfl rfl rfl) ?_
    refine WL_val rfl rfl rfl (by first | exact rMoveB rfl rfl | exact rMove rfl) ?_
    first | refine WL_val rfl rfl rfl (by first | exact rMoveS rfl rfl | exact rMove rfl) ?_ | refine WL_skip rfl rfl rfl ?_
    first | refine WL_val rfl rfl rfl (rLen rfl Tryd.underlying22 rfl) ?_ | refine WL_skip rfl rfl rfl ?_
    first | refine WL_val rfl rfl rfl (by first | exact rMoveS rfl rfl | exact rMove rfl) ?_ | refine WL_skip rfl rfl rfl ?_
    first | refine WL_val rfl rfl rfl (rLen rfl Tryd.underlying22 rfl) ?_ | refine WL_skip rfl rfl rfl ?_
    first | refine WL_val rfl rfl rfl (by first | exact rLssT rfl rfl rfl (by omega) | exact rLssF rfl rfl rfl (by omega) | exact rLss rfl rfl rfl) ?_ | refine WL_skip rfl rfl rfl ?_
    refine WL_val rfl rfl rfl (by first | exact rPickTB rfl rfl rfl | exact rPickFB rfl rfl rfl | exact rPickB rfl rfl rfl rfl) ?_
    refine WL_nil ?_
    refine W_cond true rfl ?_
    refine W_seq ?_
    refine W_region ?_
    refine WL_val rfl rfl rfl (by first | exact rAsgnB rfl rfl | exact rAsgn rfl) ?_
    refine WL_nil ?_
    refine W_ret ?_
    exact ret1 6 (.inr rfl) rfl ⟨rfl, hI.pu⟩
  by_cases hvk : vs.length < ks.length
  · refine W_seq ?_
    refine W_seq ?_
    refine W_region ?_
    refine WL_val rfl rfl rfl (by first | exact rMoveS rfl rfl | exact rMove rfl) ?_
    refine WL_val rfl rfl rfl (rLen rfl Tryd.underlying22 rfl) ?_
    refine WL_val rfl rfl rfl (by first | exact rGtrT rfl rfl rfl (by omega) | exact rGtrF rfl rfl rfl (by omega) | exact rGtr rfl rfl rfl) ?_
    refine WL_val rfl rfl rfl (by first | exact rMoveB rfl rfl | exact rMove rfl) ?_
    first | refine WL_val rfl rfl rfl (by first | exact rMoveS rfl rfl | exact rMove rfl) ?_ | refine WL_skip rfl rfl rfl ?_
    first | refine WL_val rfl rfl rfl (rLen rfl Tryd.underlying22 rfl) ?_ | refine WL_skip rfl rfl rfl ?_
    first | refine WL_val rfl rfl rfl (by first | exact rMoveS rfl rfl | exact rMove rfl) ?_ | refine WL_skip rfl rfl rfl ?_
    first | refine WL_val rfl rfl rfl (rLen rfl Tryd.underlying22 rfl) ?_ | refine WL_skip rfl rfl rfl ?_
    first | refine WL_val rfl rfl rfl (by first | exact rLssT rfl rfl rfl (by omega) | exact rLssF rfl rfl rfl (by omega) | exact rLss rfl rfl rfl) ?_ | refine WL_skip rfl rfl rfl ?_
    refine WL_val rfl rfl rfl (by first | exact rPickTB rfl rfl rfl | exact rPickFB rfl rfl rfl | exact rPickB rfl rfl rfl rfl) ?_
    refine WL_nil ?_
    refine W_cond true rfl ?_
    refine W_seq ?_
    refine W_region ?_
    refine WL_val rfl rfl rfl (by first | exact rAsgnB rfl rfl | exact rAsgn rfl) ?_
    refine WL_nil ?_
    refine W_ret ?_
    exact ret1 6 (.inr rfl) rfl ⟨rfl, hI.pu⟩
  refine W_seq ?_
  refine W_seq ?_
  refine W_region ?_
  refine WL_val rfl rfl rfl (by first | exact rMoveS rfl rfl | exact rMove rfl) ?_
  refine WL_val rfl rfl rfl (rLen rfl Tryd.underlying22 rfl) ?_
  refine WL_val rfl rfl rfl (by first | exact rGtrT rfl rfl rfl (by omega) | exact rGtrF rfl rfl rfl (by omega) | exact rGtr rfl rfl rfl) ?_
  refine WL_val rfl rfl rfl (by first | exact rMoveB rfl rfl | exact rMove rfl) ?_
  first | refine WL_val rfl rfl rfl (by first | exact rMoveS rfl rfl | exact rMove rfl) ?_ | refine WL_skip rfl rfl rfl ?_
  first | refine WL_val rfl rfl rfl (rLen rfl Tryd.underlying22 rfl) ?_ | refine WL_skip rfl rfl rfl ?_
  first | refine WL_val rfl rfl rfl (by first | exact rMoveS rfl rfl | exact rMove rfl) ?_ | refine WL_skip rfl rfl rfl ?_
  first | refine WL_val rfl rfl rfl (rLen rfl Tryd.underlying22 rfl) ?_ | refine WL_skip rfl rfl rfl ?_
  first | refine WL_val rfl rfl rfl (by first | exact rLssT rfl rfl rfl (by omega) | exact rLssF rfl rfl rfl (by omega) | exact rLss rfl rfl rfl) ?_ | refine WL_skip rfl rfl rfl ?_
  refine WL_val rfl rfl rfl (by first | exact rPickTB rfl rfl rfl | exact rPickFB rfl rfl rfl | exact rPickB rfl rfl rfl rfl) ?_
  refine WL_nil ?_
  refine W_cond false rfl ?_
  refine W_skip ?_
  refine W_seq ?_
  refine W_region ?_
  refine WL_val rfl rfl rfl (by first | exact rMoveI rfl rfl | exact rMove rfl) ?_
  refine WL_call rfl rfl rfl (rCall (vs := [.int .i64 _]) rfl Tryd.func11 rfl rfl rfl) ?_
  refine (start_any o _).mono ?_
  rintro e1 w1 ⟨A1, c1, rfl, hT⟩
  refine ⟨_, rfl, ?_⟩
  replace hI := hI.app1 hT
  refine WL_val rfl rfl rfl (by first | exact rAsgnS rfl rfl | exact rAsgn rfl) ?_
  refine WL_nil ?_
  refine W_seq ?_
  refine W_region ?_
  refine WL_val rfl rfl rfl (by first | exact rAsgnS rfl rfl | exact rAsgn rfl) ?_
  refine WL_nil ?_
  refine W_seq ?_
  refine W_region ?_
  refine WL_val rfl rfl rfl (by first | exact rAsgnS rfl rfl | exact rAsgn rfl) ?_
  refine WL_nil ?_
  have hsl := startF_len o
  replace hI : Inv (fun _ => False) w0 w1 [StE A1 c1 (startF o), OrdE none 0 0, OpsE none 0 []] :=
    ((hI.fresh (Pure.refl _) (Row.nil _ 0 29 8) (fun k hk => by simp [Row] at hk)).fresh (Pure.refl _) (Row.nil _ 0 3 1) (fun k hk => by simp [Row] at hk)).up2
  refine W_seq_cut (fun ρ w => ∃ (ops : List Op8) (st : List Int) (Ao Ar : Option Addr) (co cr : Nat), Chain o (startF o) ops st ∧ ops.length ≤ 30 ∧ Has ρ [(0, .int .i64 o), (8, .slice Ao ops.length co), (9, .slice Ar ops.length cr)] ∧ Inv (fun _ => False) w0 w [OrdE Ar cr ops.length, OpsE Ao co ops]) ?_ ?_
  · refine W_seq ?_
    refine W_region ?_
    refine WL_val rfl rfl rfl (by first | exact rAsgnI rfl rfl | exact rAsgn rfl) ?_
    refine WL_nil ?_
    refine W_block ?_
    refine W_loopN (fun mu ρ w => ∃ (i : Nat) (ops : List Op8) (st : List Int) (As Ao Ar : Option Addr) (cs co cr : Nat), mu = ks.length - i ∧ i ≤ ks.length ∧ Chain o (startF o) ops st ∧ okSt o st ∧ st.length ≤ i + 1 ∧ ops.length ≤ i ∧ Has ρ [(10, .int .i64 (i : Int)), (0, .int .i64 o), (1, .slice A ks.length c), (2, .slice A' vs.length c'), (7, .slice As st.length cs), (8, .slice Ao ops.length co), (9, .slice Ar ops.length cr)] ∧ Inv (fun _ => False) w0 w [StE As cs st, OrdE Ar cr ops.length, OpsE Ao co ops]) ks.length
      ⟨0, [], startF o, A1, none, none, c1, 0, 0, rfl, by omega, rfl, okSt_start o, by omega, by simp, ⟨rfl, rfl, rfl, rfl, rfl, rfl, rfl, trivial⟩, hI⟩ ?_
    clear hI
    rintro mu ρ w ⟨i, ops, st, As, Ao, Ar, cs, co, cr, rfl, hi, hch, hos, hsl2, hol, hH, hI⟩
    obtain ⟨σ, rfl⟩ := hH.open
    by_cases hil : i < ks.length
    rotate_left
    · obtain rfl : i = ks.length := by omega
      refine W_seq ?_
      refine W_seq ?_
      refine W_region ?_
      refine WL_val rfl rfl rfl (by first | exact rMoveI rfl rfl | exact rMove rfl) ?_
      refine WL_val rfl rfl rfl (by first | exact rMoveS rfl rfl | exact rMove rfl) ?_
      refine WL_val rfl rfl rfl (rLen rfl Tryd.underlying22 rfl) ?_
      refine WL_val rfl rfl rfl (by first | exact rLssT rfl rfl rfl (by omega) | exact rLssF rfl rfl rfl (by omega) | exact rLss rfl rfl rfl) ?_
      refine WL_nil ?_
      refine W_cond false rfl ?_
      refine W_exit ?_
      exact ⟨ops, st, Ao, Ar, co, cr, hch, by omega, ⟨rfl, rfl, rfl, trivial⟩, hI.d0⟩
    have hk0 : (i64s ks)[i]? = some (.int .i64 (ks[i]'hil)) := by simp [i64s, hil]
    have hv0 : (i64s vs)[i]? = some (.int .i64 (vs[i]'(by omega))) := by simp [i64s, show i < vs.length by omega]
    obtain ⟨kb, ko, rfl, _, _, kc⟩ := h.get hk0 (by omega)
    obtain ⟨vb, vo, rfl, _, _, vc⟩ := h'.get hv0 (by omega)
    generalize ks[i]'hil = kv at kc
    generalize vs[i]'(by omega) = vv at vc
    have hkl := pickN_lt kv (n := 12) (by omega)
    refine W_seq ?_
    refine W_seq ?_
    refine W_region ?_
    refine WL_val rfl rfl rfl (by first | exact rMoveI rfl rfl | exact rMove rfl) ?_
    refine WL_val rfl rfl rfl (by first | exact rMoveS rfl rfl | exact rMove rfl) ?_
    refine WL_val rfl rfl rfl (rLen rfl Tryd.underlying22 rfl) ?_
    refine WL_val rfl rfl rfl (by first | exact rLssT rfl rfl rfl (by omega) | exact rLssF rfl rfl rfl (by omega) | exact rLss rfl rfl rfl) ?_
    refine WL_nil ?_
    refine W_cond true rfl ?_
    refine W_skip ?_
    refine W_seq_cut (fun ρ w => ∃ (ops : List Op8) (st : List Int) (As Ao Ar : Option Addr) (cs co cr : Nat), Chain o (startF o) ops st ∧ okSt o st ∧ st.length ≤ i + 1 + 1 ∧ ops.length ≤ i + 1 ∧ Has ρ [(10, .int .i64 (i : Int)), (0, .int .i64 o), (1, .slice (some ⟨kb, ko, none⟩) ks.length c), (2, .slice (some ⟨vb, vo, none⟩) vs.length c'), (7, .slice As st.length cs), (8, .slice Ao ops.length co), (9, .slice Ar ops.length cr)] ∧ Inv (fun _ => False) w0 w [StE As cs st, OrdE Ar cr ops.length, OpsE Ao co ops]) ?_ ?_
    rotate_left
    · clear hI hch hos hsl2 hol
      rintro ρ w ⟨ops, st, As, Ao, Ar, cs, co, cr, hch, hos, hsl2, hol, hH, hI⟩
      obtain ⟨σ, rfl⟩ := hH.open
      refine W_region ?_
      refine WL_val rfl rfl rfl (by first | exact rMoveI rfl rfl | exact rMove rfl) ?_
      refine WL_val rfl rfl rfl (by first | exact rInc rfl rfl rfl (by omega) | exact rAdd rfl rfl rfl (by omega) | exact rAddW rfl rfl rfl) ?_
      refine WL_val rfl rfl rfl (by first | exact rAsgnI rfl rfl | exact rAsgn rfl) ?_
      refine WL_nil ?_
      exact ⟨ks.length - (i + 1), by omega, i + 1, ops, st, As, Ao, Ar, cs, co, cr, rfl, by omega, hch, hos, hsl2, hol, ⟨rfl, rfl, rfl, rfl, rfl, rfl, rfl, trivial⟩, hI⟩
    refine W_block ?_
    refine W_seq ?_
    refine W_region ?_
    refine WL_val rfl rfl rfl (by first | exact rMoveS rfl rfl | exact rMove rfl) ?_
    refine WL_val rfl rfl rfl (by first | exact rMoveI rfl rfl | exact rMove rfl) ?_
    refine WL_val rfl rfl rfl (by first | exact rIdx0 rfl Tryd.underlying22 (by kernel_rfl) rfl rfl rfl (by omega) | exact rIdx1 rfl Tryd.underlying22 (by kernel_rfl) rfl rfl (by omega)) ?_
    refine WL_val rfl rfl rfl (by first | exact rLd (v := .int .i64 _) rfl (by kernel_rfl) rfl (by first | exact hI.oldp kc | exact kc) | exact rLd rfl (by kernel_rfl) rfl (by first | exact hI.oldp kc | exact kc)) ?_
    refine WL_call rfl rfl rfl (rCall (vs := [.int .i64 _, .int .i64 _]) rfl Tryd.func12 rfl rfl rfl) ?_
    refine (pick_any kv 12 _ (by omega) (by omega)).mono ?_
    rintro e1 w1 ⟨rfl, rfl⟩
    refine ⟨_, rfl, ?_⟩
    refine WL_val rfl rfl rfl (by first | exact rInc rfl rfl rfl (by omega) | exact rAdd rfl rfl rfl (by omega) | exact rAddW rfl rfl rfl) ?_
    refine WL_val rfl rfl rfl (by first | exact rAsgnI rfl rfl | exact rAsgn rfl) ?_
    refine WL_nil ?_
    refine W_seq ?_
    refine W_draw (by kernel_rfl) ?_
    refine WA_inv (T := []) hI.drew ?_
    intro Sx hSx hXS
    replace hI := hI.drew
    refine WT_take 0 rfl rfl (by kernel_rfl) (hXS _ hI) rfl (fun W hW => have hI := hSx W hW; (by first | exact rMoveS rfl rfl | exact rMove rfl)) ?_
    refine WT_take 1 rfl rfl (by kernel_rfl) (hXS _ hI) rfl (fun W hW => have hI := hSx W hW; (by first | exact rMoveI rfl rfl | exact rMove rfl)) ?_
    refine WT_take 2 rfl rfl (by kernel_rfl) (hXS _ hI) rfl (fun W hW => have hI := hSx W hW; (by first | exact rIdx0 rfl Tryd.underlying22 (by kernel_rfl) rfl rfl rfl (by omega) | exact rIdx1 rfl Tryd.underlying22 (by kernel_rfl) rfl rfl (by omega))) ?_
    refine WT_take 3 rfl rfl (by kernel_rfl) (hXS _ hI) rfl (fun W hW => have hI := hSx W hW; (by first | exact rLd (v := .int .i64 _) rfl (by kernel_rfl) rfl (by first | exact hI.oldp vc | exact vc) | exact rLd rfl (by kernel_rfl) rfl (by first | exact hI.oldp vc | exact vc))) ?_
    refine WT_take 5 rfl rfl (by kernel_rfl) (hXS _ hI) rfl (fun W hW => have hI := hSx W hW; (by first | exact rMoveS rfl rfl | exact rMove rfl)) ?_
    refine WT_take 6 rfl rfl (by kernel_rfl) (hXS _ hI) rfl (fun W hW => have hI := hSx W hW; (by first | exact rMoveI rfl rfl | exact rMove rfl)) ?_
    refine WT_take 7 rfl rfl (by kernel_rfl) (hXS _ hI) rfl (fun W hW => have hI := hSx W hW; (by first | exact rIdx0 rfl Tryd.underlying22 (by kernel_rfl) rfl rfl rfl (by omega) | exact rIdx1 rfl Tryd.underlying22 (by kernel_rfl) rfl rfl (by omega))) ?_
    refine WT_take 8 rfl rfl (by kernel_rfl) (hXS _ hI) rfl (fun W hW => have hI := hSx W hW; (by first | exact rLd (v := .int .i64 _) rfl (by kernel_rfl) rfl (by first | exact hI.oldp vc | exact vc) | exact rLd rfl (by kernel_rfl) rfl (by first | exact hI.oldp vc | exact vc))) ?_
    refine WT_take 9 rfl rfl (by kernel_rfl) (hXS _ hI) rfl (fun W hW => have hI := hSx W hW; (rQuoW rfl rfl rfl (by omega))) ?_
    refine WT_one 4 rfl (by kernel_rfl) rfl ?_
    refine WL_call rfl rfl rfl (rCall (vs := [.int .i64 _, .int .i64 _]) rfl Tryd.func12 rfl rfl rfl) ?_
    refine (pick_any vv 4 _ (by omega) (by omega)).mono ?_
    rintro e1 w1 ⟨rfl, rfl⟩
    refine ⟨_, rfl, ?_⟩
    refine WL_nil ⟨hXS _ hI, ?_⟩
    refine WT_one 10 rfl (by kernel_rfl) rfl ?_
    refine WL_call rfl rfl rfl (rCall (vs := [.int .i64 _, .int .i64 _]) rfl Tryd.func12 rfl rfl rfl) ?_
    refine (pick_any (IntKind.i64.wrap (vv.tdiv 4)) 4 _ (by omega) (by omega)).mono ?_
    rintro e1 w1 ⟨rfl, rfl⟩
    refine ⟨_, rfl, ?_⟩
    refine WL_nil ⟨hXS _ hI, ?_⟩
    refine WT_take 11 rfl rfl (by kernel_rfl) (hXS _ hI) rfl (fun W hW => have hI := hSx W hW; (by first | exact rAsgnI rfl rfl | exact rAsgn rfl)) ?_
    refine WT_take 12 rfl rfl (by kernel_rfl) (hXS _ hI) rfl (fun W hW => have hI := hSx W hW; (by first | exact rAsgnI rfl rfl | exact rAsgn rfl)) ?_
    refine WT_end (by kernel_rfl) ?_
    generalize hKK : (1 : Int) + ((pickN kv 12 : Nat) : Int) = KK
    generalize hAA : ((pickN vv 4 : Nat) : Int) = AA
    generalize hBB : ((pickN (IntKind.i64.wrap (vv.tdiv 4)) 4 : Nat) : Int) = BB
    cases hs : stepF o st KK AA BB with
    | none =>
      refine W_seq ?_
      refine W_region ?_
      refine WL_val rfl rfl rfl (by first | exact rMoveI rfl rfl | exact rMove rfl) ?_
      refine WL_val rfl rfl rfl (by first | exact rMoveS rfl rfl | exact rMove rfl) ?_
      refine WL_val rfl rfl rfl (by first | exact rMoveI rfl rfl | exact rMove rfl) ?_
      refine WL_val rfl rfl rfl (by first | exact rMoveI rfl rfl | exact rMove rfl) ?_
      refine WL_val rfl rfl rfl (by first | exact rMoveI rfl rfl | exact rMove rfl) ?_
      refine WL_call rfl rfl rfl (rCall (vs := [.int .i64 _, .slice _ _ _, .int .i64 _, .int .i64 _, .int .i64 _]) rfl Tryd.func13 rfl rfl rfl) ?_
      refine (step_any o As cs st KK AA BB _ _ (Row_rd hI.g0) hos (by omega) (hk.pure hI.pu)).mono ?_
      rintro e1 w1 hpost
      unfold StepPost at hpost
      rw [hs] at hpost
      obtain ⟨rfl, hp1⟩ := hpost
      refine ⟨_, rfl, ?_⟩
      replace hI := hI.pure hp1
      refine WL_val rfl rfl rfl (by first | exact rMoveT rfl rfl | exact rMove rfl) ?_
      refine WL_val rfl rfl rfl (rExtr rfl rfl rfl) ?_
      refine WL_val rfl rfl rfl (rExtr rfl rfl rfl) ?_
      refine WL_val rfl rfl rfl (rExtr rfl rfl rfl) ?_
      refine WL_val rfl rfl rfl (by first | exact rAsgnS rfl rfl | exact rAsgn rfl) ?_
      refine WL_val rfl rfl rfl (by first | exact rAsgnI rfl rfl | exact rAsgn rfl) ?_
      refine WL_val rfl rfl rfl (by first | exact rAsgnB rfl rfl | exact rAsgn rfl) ?_
      refine WL_nil ?_
      refine W_seq ?_
      refine W_seq ?_
      refine W_region ?_
      refine WL_val rfl rfl rfl (by first | exact rMoveB rfl rfl | exact rMove rfl) ?_
      refine WL_val rfl rfl rfl (by first | exact rNotT rfl rfl | exact rNotF rfl rfl | exact rNot rfl rfl) ?_
      refine WL_nil ?_
      refine W_cond true rfl ?_
      refine W_exit ?_
      exact ⟨ops, st, As, Ao, Ar, cs, co, cr, hch, hos, by omega, by omega, ⟨rfl, rfl, rfl, rfl, rfl, rfl, rfl, trivial⟩, hI⟩
    | some q =>
      obtain ⟨st', r⟩ := q
      refine W_seq ?_
      refine W_region ?_
      refine WL_val rfl rfl rfl (by first | exact rMoveI rfl rfl | exact rMove rfl) ?_
      refine WL_val rfl rfl rfl (by first | exact rMoveS rfl rfl | exact rMove rfl) ?_
      refine WL_val rfl rfl rfl (by first | exact rMoveI rfl rfl | exact rMove rfl) ?_
      refine WL_val rfl rfl rfl (by first | exact rMoveI rfl rfl | exact rMove rfl) ?_
      refine WL_val rfl rfl rfl (by first | exact rMoveI rfl rfl | exact rMove rfl) ?_
      refine WL_call rfl rfl rfl (rCall (vs := [.int .i64 _, .slice _ _ _, .int .i64 _, .int .i64 _, .int .i64 _]) rfl Tryd.func13 rfl rfl rfl) ?_
      refine (step_any o As cs st KK AA BB _ _ (Row_rd hI.g0) hos (by omega) (hk.pure hI.pu)).mono ?_
      rintro e1 w1 hpost
      unfold StepPost at hpost
      rw [hs] at hpost
      obtain ⟨A2, c2, rfl, hT⟩ := hpost
      refine ⟨_, rfl, ?_⟩
      replace hI := (hI.app1 hT).d1
      refine WL_val rfl rfl rfl (by first | exact rMoveT rfl rfl | exact rMove rfl) ?_
      refine WL_val rfl rfl rfl (rExtr rfl rfl rfl) ?_
      refine WL_val rfl rfl rfl (rExtr rfl rfl rfl) ?_
      refine WL_val rfl rfl rfl (rExtr rfl rfl rfl) ?_
      refine WL_val rfl rfl rfl (by first | exact rAsgnS rfl rfl | exact rAsgn rfl) ?_
      refine WL_val rfl rfl rfl (by first | exact rAsgnI rfl rfl | exact rAsgn rfl) ?_
      refine WL_val rfl rfl rfl (by first | exact rAsgnB rfl rfl | exact rAsgn rfl) ?_
      refine WL_nil ?_
      have hsl3 := stepF_len hs
      refine W_seq ?_
      refine W_seq ?_
      refine W_region ?_
      refine WL_val rfl rfl rfl (by first | exact rMoveB rfl rfl | exact rMove rfl) ?_
      refine WL_val rfl rfl rfl (by first | exact rNotT rfl rfl | exact rNotF rfl rfl | exact rNot rfl rfl) ?_
      refine WL_nil ?_
      refine W_cond false rfl ?_
      refine W_skip ?_
      refine W_seq ?_
      refine W_region ?_
      refine WL_val rfl rfl rfl (by first | exact rMoveS rfl rfl | exact rMove rfl) ?_
      refine WL_val rfl rfl rfl (by first | exact rMoveS rfl rfl | exact rMove rfl) ?_
      refine WL_val rfl rfl rfl (rLen rfl Tryd.underlying24 rfl) ?_
      refine WL_lit (vs := [_]) (qs := [(0, .int .i64 _)]) [.int .i64 0] [0] hI rfl rfl rfl rfl rfl rfl Tryd.underlying22 (fun _ => by kernel_rfl) ?_
      clear hI; rintro b67 w - - hI
      first | refine WL_app2 (z := .int .i64 0) (by_ := 8) hI rfl rfl rfl rfl rfl rfl Tryd.underlying22 (by kernel_rfl) rfl (by omega) (by rfl) hI.lit0 (by first | rfl | simp [i64s, Value.oneCell']) (by omega) (by omega) (by first | exact Nat.zero_le _ | (have := hI.chg.size; omega)) ?_
      clear hI; rintro A68 c68 w hA68 hc68 hI
      replace hI := hI.d0
      refine WL_val rfl rfl rfl (by first | exact rAsgnS rfl rfl | exact rAsgn rfl) ?_
      refine WL_nil ?_
      replace hI : Inv (fun _ => False) w0 w [StE A2 c2 st', OrdE A68 c68 (ops.length + 1), OpsE Ao co ops] := by
        show Inv (fun _ => False) w0 w [_, Row 0 3 1 A68 (ops.length + 1) c68 (i64s (ordF (ops.length + 1))), _]
        rw [ordF_succ]; exact hI
      refine W_seq ?_
      refine W_region ?_
      refine WL_val rfl rfl rfl (by first | exact rMoveS rfl rfl | exact rMove rfl) ?_
      refine WL_val rfl rfl rfl (by first | exact rMoveI rfl rfl | exact rMove rfl) ?_
      refine WL_val rfl rfl rfl (by first | exact rMoveI rfl rfl | exact rMove rfl) ?_
      refine WL_val rfl rfl rfl (by first | exact rMoveI rfl rfl | exact rMove rfl) ?_
      refine WL_val rfl rfl rfl (by first | exact rMoveI rfl rfl | exact rMove rfl) ?_
      refine WL_val rfl rfl rfl (by first | exact rMoveI rfl rfl | exact rMove rfl) ?_
      refine WL_val rfl rfl rfl (by first | exact rMul rfl rfl rfl (by omega) | exact rMulW rfl rfl rfl) ?_
      refine WL_val rfl rfl rfl (by first | exact rMoveI rfl rfl | exact rMove rfl) ?_
      refine WL_val rfl rfl rfl (by first | exact rMul rfl rfl rfl (by omega) | exact rMulW rfl rfl rfl) ?_
      refine WL_val rfl rfl rfl (by first | exact rInc rfl rfl rfl (by omega) | exact rAdd rfl rfl rfl (by omega) | exact rAddW rfl rfl rfl) ?_
      refine WL_val rfl rfl rfl (rBuild (qs := [(2, .int .i64 _), (3, .int .i64 _), (4, .int .i64 _), (5, .int .i64 _), (6, .int .i64 _), (7, .int .i64 _)]) (vs := [_, _, _, _, _, _, _, _]) [.int .i64 0, .int .i64 0, .int .i64 0, .int .i64 0, .int .i64 0, .int .i64 0, .int .i64 0, .int .i64 0] [2, 3, 4, 5, 6, 7] rfl rfl rfl (fun _ => by kernel_rfl)) ?_
      refine WL_lit (vs := [_, _, _, _, _, _, _, _]) (qs := [(0, .agg #[_, _, _, _, _, _, _, _])]) [.int .i64 0, .int .i64 0, .int .i64 0, .int .i64 0, .int .i64 0, .int .i64 0, .int .i64 0, .int .i64 0] [0] hI rfl rfl rfl rfl rfl rfl Tryd.underlying24 (fun _ => by kernel_rfl) ?_
      clear hI; rintro b80 w - - hI
      first | refine WL_app3 (z := .agg #[.int .i64 0, .int .i64 0, .int .i64 0, .int .i64 0, .int .i64 0, .int .i64 0, .int .i64 0, .int .i64 0]) (by_ := 64) hI rfl rfl rfl rfl rfl rfl Tryd.underlying24 (by kernel_rfl) rfl (by omega) (by rfl) hI.lit0 (by first | rfl | simp [i64s, Value.oneCell']) (by omega) (by omega) (by first | exact Nat.zero_le _ | (have := hI.chg.size; omega)) ?_
      clear hI; rintro A81 c81 w hA81 hc81 hI
      replace hI := hI.d0
      refine WL_val rfl rfl rfl (by first | exact rAsgnS rfl rfl | exact rAsgn rfl) ?_
      refine WL_nil ?_
      obtain ⟨nop, hnop⟩ : ∃ q : Op8, q = ⟨0, 0, KK, AA, BB, r, 2 * (i : Int), 2 * (i : Int) + 1⟩ := ⟨_, rfl⟩
      have hlen : (ops ++ [nop]).length = ops.length + 1 := by simp
      replace hI : Inv (fun _ => False) w0 w [StE A2 c2 st', OrdE A68 c68 (ops ++ [nop]).length, OpsE A81 c81 (ops ++ [nop])] := by
        show Inv (fun _ => False) w0 w [_, OrdE A68 c68 (ops ++ [nop]).length, Row 0 29 8 A81 (ops ++ [nop]).length c81 ((ops ++ [nop]).flatMap opV)]
        rw [hlen, List.flatMap_append, show List.flatMap opV [nop] = opV nop from by simp, hnop]
        exact hI
      refine W_region ?_
      refine WL_val rfl rfl rfl (by first | exact rMoveS rfl rfl | exact rMove rfl) ?_
      refine WL_val rfl rfl rfl (by first | exact rAsgnS rfl rfl | exact rAsgn rfl) ?_
      refine WL_nil ?_
      refine ⟨ops ++ [nop], st', A2, A81, A68, c2, c81, c68, hch.snoc (by rw [hnop]) (by rw [hnop]; show 0 ≤ 2 * (i : Int) + 1; omega) (by rw [hnop]; exact hs), stepF_ok hs hos, by omega, by rw [hlen]; omega, ?_, hI⟩
      rw [hlen]
      exact ⟨rfl, rfl, rfl, rfl, rfl, rfl, rfl, trivial⟩
  clear hI
  rintro ρ w ⟨ops, st, Ao, Ar, co, cr, hch, hol, hH, hI⟩
  obtain ⟨σ, rfl⟩ := hH.open
  have hol' : (ordF ops.length).length = ops.length := by simp [ordF]
  have hrun : runF o ops (ordF ops.length) = -1 := by
    have := run_chain (o := o) (ops := ops) (st' := st) ops.length 0 (fun _ => none) (startF o) (by omega) (by omega) rfl (by simpa using hch)
    simpa [runF] using this
  refine W_seq ?_
  refine W_seq ?_
  refine W_region ?_
  refine WL_call rfl rfl rfl (rCall (vs := []) rfl Tryd.func14 rfl rfl rfl) ?_
  refine (stepped_any _ (hk.pure hI.pu)).mono ?_
  rintro e1 w1 ⟨rfl, hp1⟩
  refine ⟨_, rfl, ?_⟩
  replace hI := hI.pure hp1
  refine WL_val rfl rfl rfl (by first | exact rNotT rfl rfl | exact rNotF rfl rfl | exact rNot rfl rfl) ?_
  refine WL_val rfl rfl rfl (by first | exact rMoveB rfl rfl | exact rMove rfl) ?_
  first | refine WL_val rfl rfl rfl (by first | exact rMoveI rfl rfl | exact rMove rfl) ?_ | refine WL_skip rfl rfl rfl ?_
  first | refine WL_val rfl rfl rfl (by first | exact rMoveS rfl rfl | exact rMove rfl) ?_ | refine WL_skip rfl rfl rfl ?_
  first | refine WL_val rfl rfl rfl (by first | exact rMoveS rfl rfl | exact rMove rfl) ?_ | refine WL_skip rfl rfl rfl ?_
  refine WL_call rfl rfl rfl (rCall (vs := [.int .i64 _, .slice _ _ _, .slice _ _ _]) rfl Tryd.func15 rfl rfl rfl) ?_
  have hrr := run_any o Ao ops.length co ops Ar cr (ordF ops.length) _ _ _ (OpsE_rd hI.g1) (OrdE_rd hI.g0) (fun i hi => by rw [hch.key i hi]; omega) (by omega) (hk.pure hI.pu)
  rw [hol'] at hrr
  refine hrr.mono ?_
  rw [hrun]
  rintro e1 w1 ⟨rfl, hp1⟩
  refine ⟨_, rfl, ?_⟩
  replace hI := hI.pure hp1
  first | refine WL_val rfl rfl rfl (by first | exact rNeqT rfl rfl rfl (by omega) | exact rNeqF rfl rfl rfl (by omega) | exact rNeq rfl rfl rfl) ?_ | refine WL_skip rfl rfl rfl ?_
  refine WL_val rfl rfl rfl (by first | exact rPickTB rfl rfl rfl | exact rPickFB rfl rfl rfl | exact rPickB rfl rfl rfl rfl) ?_
  refine WL_nil ?_
  refine W_cond false rfl ?_
  refine W_skip ?_
  by_cases h0 : ops.length = 0
  · refine W_seq ?_
    refine W_seq ?_
    refine W_region ?_
    refine WL_val rfl rfl rfl (by first | exact rMoveS rfl rfl | exact rMove rfl) ?_
    refine WL_val rfl rfl rfl (rLen rfl Tryd.underlying24 rfl) ?_
    refine WL_val rfl rfl rfl (by first | exact rEqlT rfl rfl rfl (by omega) | exact rEqlF rfl rfl rfl (by omega) | exact rEql rfl rfl rfl) ?_
    refine WL_nil ?_
    refine W_cond true rfl ?_
    refine W_seq ?_
    refine W_region ?_
    refine WL_val rfl rfl rfl (by first | exact rAsgnB rfl rfl | exact rAsgn rfl) ?_
    refine WL_nil ?_
    refine W_ret ?_
    exact ret1 6 (.inr rfl) rfl ⟨rfl, hI.pu⟩
  refine W_seq ?_
  refine W_seq ?_
  refine W_region ?_
  refine WL_val rfl rfl rfl (by first | exact rMoveS rfl rfl | exact rMove rfl) ?_
  refine WL_val rfl rfl rfl (rLen rfl Tryd.underlying24 rfl) ?_
  refine WL_val rfl rfl rfl (by first | exact rEqlT rfl rfl rfl (by omega) | exact rEqlF rfl rfl rfl (by omega) | exact rEql rfl rfl rfl) ?_
  refine WL_nil ?_
  refine W_cond false rfl ?_
  refine W_skip ?_
  obtain ⟨g, cur, rfl, hB, hcc, hcm, hsz, htk⟩ := row_openS hI.g1 (by omega)
  have hn1 : ops.length - 1 < ops.length := by omega
  have hcellO : (ops.flatMap opV)[(ops.length - 1) * 8 + 5]? = some (.int .i64 (oAt ops (ops.length - 1)).res) := by
    rw [flatN (f := opV) (fun a => rfl) ops (ops.length - 1) (oAt ops (ops.length - 1)) (by unfold oAt; rw [List.getD_eq_getElem?_getD, List.getElem?_eq_getElem hn1]; rfl) 5 (by omega)]; rfl
  have hcur : cur[(ops.length - 1) * 8 + 5]? = some (.int .i64 (oAt ops (ops.length - 1)).res) := by
    rw [get_of_take htk (by omega)]; exact hcellO
  have hlast : (oAt ops (ops.length - 1)).key = 0 ∧ 0 ≤ (oAt ops (ops.length - 1)).ret := hch.last _ hn1
  replace hI := hI.u1 (e' := B g 29 cur) (Chg.refl _ _) (B.ok hB) (fun k hk => .inl (by have : k = g := hk; subst this; rfl))
  refine W_seq ?_
  refine W_region ?_
  refine WL_val rfl rfl rfl (by first | exact rMoveS rfl rfl | exact rMove rfl) ?_
  refine WL_val rfl rfl rfl (by first | exact rMoveS rfl rfl | exact rMove rfl) ?_
  refine WL_val rfl rfl rfl (rLen rfl Tryd.underlying24 rfl) ?_
  refine WL_val rfl rfl rfl (rDecN (a := ops.length) (b := 1) rfl rfl rfl (by omega) (by omega)) ?_
  refine WL_val rfl rfl rfl (rIdx (sz := 8) (i := ops.length - 1) rfl Tryd.underlying24 (by kernel_rfl) rfl rfl (by omega)) ?_
  refine WL_val rfl rfl rfl (by first | exact rFldN (off := 5) rfl (by kernel_rfl) rfl | exact rFld (off := 5) rfl (by kernel_rfl) rfl) ?_
  refine WL_val rfl rfl rfl (by first | exact rLd (v := .int .i64 _) rfl (by kernel_rfl) rfl (by first | exact (at_off (hI.c1 hcur))) | exact rLd rfl (by kernel_rfl) rfl (by first | exact (at_off (hI.c1 hcur)))) ?_
  refine WL_val rfl rfl rfl (rAddW rfl rfl rfl) ?_
  refine WL_val rfl rfl rfl (rIdx (sz := 8) (i := ops.length - 1) rfl Tryd.underlying24 (by kernel_rfl) rfl rfl (by omega)) ?_
  refine WL_val rfl rfl rfl (by first | exact rFldN (off := 5) rfl (by kernel_rfl) rfl | exact rFld (off := 5) rfl (by kernel_rfl) rfl) ?_
  refine WL_st1 (u := .int .i64 _) (j := 0 + (ops.length - 1) * 8 + 5) hI rfl rfl rfl rfl rfl rfl (by kernel_rfl) rfl (by simp [Nat.blt]; omega) rfl ?_
  rw [Nat.zero_add]
  clear hI; intro w hI
  refine WL_nil ?_
  generalize hlo : oAt ops (ops.length - 1) = lo at hlast hI
  obtain ⟨ops2, hops2⟩ : ∃ l : List Op8, l = ops.set (ops.length - 1) { lo with res := IntKind.i64.wrap (lo.res + 1) } := ⟨_, rfl⟩
  have hl2 : ops2.length = ops.length := by rw [hops2]; simp
  have hg1 : ops[ops.length - 1]? = some lo := by rw [← hlo]; unfold oAt; rw [List.getD_eq_getElem?_getD, List.getElem?_eq_getElem hn1]; rfl
  replace hI := hI.u1 (e' := OpsE (some ⟨g, 0, none⟩) co ops2) (Chg.refl _ _) (row_closeS hI.g1 (by omega) hcm (by simp [hsz]) (by rw [Array.toList_setIfInBounds, List.take_set, hl2, htk, hops2]; exact (flat_set hg1).symm)) (fun k hk => .inl (by have : some g = some k := hk; injection this with this; exact this.symm))
  have hrun2 : runF o ops2 (ordF ops.length) = ((ops.length - 1 : Nat) : Int) := by
    have := run_last (o := o) (ops := ops) (ops' := ops2) (st' := st) hl2 (fun i hi => by rw [hops2]; unfold oAt; simp [List.getElem?_set, show ops.length - 1 ≠ i by omega]) (fun _ => by
      have e2 : oAt ops2 (ops.length - 1) = { lo with res := IntKind.i64.wrap (lo.res + 1) } := by rw [hops2]; unfold oAt; simp [hn1]
      rw [e2, hlo]
      exact ⟨rfl, rfl, rfl, rfl, hlast.2, fun e => wrap_ne lo.res e.symm⟩) ops.length 0 (fun _ => none) (startF o) (by omega) (by omega) rfl (by simpa using hch)
    simpa [runF] using this
  refine W_seq ?_
  refine W_region ?_
  refine WL_val rfl rfl rfl (by first | exact rMoveI rfl rfl | exact rMove rfl) ?_
  refine WL_val rfl rfl rfl (by first | exact rMoveS rfl rfl | exact rMove rfl) ?_
  refine WL_val rfl rfl rfl (by first | exact rMoveS rfl rfl | exact rMove rfl) ?_
  refine WL_call rfl rfl rfl (rCall (vs := [.int .i64 _, .slice _ _ _, .slice _ _ _]) rfl Tryd.func15 rfl rfl rfl) ?_
  have hrr := run_any o (some ⟨g, 0, none⟩) ops.length co ops2 Ar cr (ordF ops.length) _ _ _ (by have := OpsE_rd hI.g1; rw [hl2] at this; exact this) (OrdE_rd hI.g0) (fun i hi => ?_) (by omega) (hk.pure hI.pu)
  rotate_left
  · rw [hl2] at hi
    rcases Nat.lt_or_ge (i + 1) ops.length with h1 | h1
    · have e2 : oAt ops2 i = oAt ops i := by rw [hops2]; unfold oAt; simp [List.getElem?_set, show ops.length - 1 ≠ i by omega]
      rw [e2, hch.key i hi]; omega
    · obtain rfl : i = ops.length - 1 := by omega
      have e2 : oAt ops2 (ops.length - 1) = { lo with res := IntKind.i64.wrap (lo.res + 1) } := by rw [hops2]; unfold oAt; simp [hn1]
      rw [e2]
      show 0 ≤ lo.key ∧ lo.key < 8
      rw [hlast.1]; omega
  rw [hol'] at hrr
  refine hrr.mono ?_
  rw [hrun2]
  rintro e1 w1 ⟨rfl, hp1⟩
  refine ⟨_, rfl, ?_⟩
  replace hI := hI.pure hp1
  refine WL_val rfl rfl rfl (by first | exact rMoveS rfl rfl | exact rMove rfl) ?_
  refine WL_val rfl rfl rfl (rLen rfl Tryd.underlying24 rfl) ?_
  refine WL_val rfl rfl rfl (rDecN (a := ops.length) (b := 1) rfl rfl rfl (by omega) (by omega)) ?_
  refine WL_val rfl rfl rfl (by first | exact rEqlT rfl rfl rfl (by omega) | exact rEqlF rfl rfl rfl (by omega) | exact rEql rfl rfl rfl) ?_
  refine WL_val rfl rfl rfl (by first | exact rAsgnB rfl rfl | exact rAsgn rfl) ?_
  refine WL_nil ?_
  refine W_ret ?_
  exact ret1 6 (.inr rfl) rfl ⟨rfl, hI.pu⟩
end Go.Proofs.YtlmpolmalgpodaaDoor
