/- clock: sent. -/
import Derived.Test.YtajbhabkhgpcfaaDoorClk8
namespace Go.Proofs.YtajbhabkhgpcfaaDoor
open Go.RowKit
set_option linter.unusedVariables false
set_option linter.unusedSimpArgs false
theorem cks_lit {w : World} {g T n : Nat} {l : List Ck} {cs : Array Value} (hb : Blk w g T cs) (h : cs.toList = l.flatMap ckV) (hn : l.length = n) (hle : n ≤ 1000) : Cks w (fun _ => True) (.slice (some ⟨g, 0, none⟩) n n) l := by
  subst hn
  have hlen : ∀ l : List Ck, (l.flatMap ckV).length = l.length * 3 := by
    intro l
    induction l with
    | nil => rfl
    | cons s l ih => rw [List.flatMap_cons, List.length_append, ih]; simp [ckV]; omega
  refine ⟨_, _, rfl, Nat.le_refl _, by omega, hlen l, fun h0 => ⟨g, 0, rfl, trivial, fun k u hk => ?_⟩⟩
  rw [Nat.zero_add, hb.cell, ← hk, ← h]
  simp
theorem ah_outer {w : World} {ab ao rb ro n c i : Nat} {As : Nat → Option Addr} {cs : Nat → Nat} (h : w.ownsRow 0 35 1 (.slice (some ⟨ab, ao, none⟩) n c) n (ahOut n As cs n)) (hi : i < n) (hA : As i = some ⟨rb, ro, none⟩) : w.cell? ⟨ab, ao + i, none⟩ = some (.slice (some ⟨rb, ro, none⟩) n (cs i)) :=
  row_cell h (by simp [ahOut, hi, hA])
theorem ah_inner {w : World} {rb ro i k : Nat} {l : List Ck} {As : Nat → Option Addr} {cs : Nat → Nat} {b : Bool} (h : (Many l.length (ahRows l As cs)).Φ w) (hi : i < l.length) (hk : k < l.length) (hA : As i = some ⟨rb, ro, none⟩) (hb : ahd l i k = b) : w.cell? ⟨rb, ro + k, none⟩ = some (.bool b) := by
  have h1 : w.ownsRow 0 4 1 (.slice (As i) l.length (cs i)) l.length (ahRow l i l.length) := (h.1 i hi).1
  rw [hA] at h1
  exact row_cell h1 (by simp [ahRow, hk, hb])
theorem ah_addr {w : World} {i : Nat} {l : List Ck} {As : Nat → Option Addr} {cs : Nat → Nat} (h : (Many l.length (ahRows l As cs)).Φ w) (hi : i < l.length) : ∃ rb ro, As i = some ⟨rb, ro, none⟩ := by
  have h1 : w.ownsRow 0 4 1 (.slice (As i) l.length (cs i)) l.length (ahRow l i l.length) := (h.1 i hi).1
  exact row_addr h1 (by omega)
def sentL : List Ck := [⟨0, 2, 5⟩, ⟨1, 3, 5⟩]
theorem sent_ok : OkClk sentL := ⟨by decide, by
  intro k hk
  match k, hk with
  | 0, _ => decide +kernel
  | 1, _ => decide +kernel⟩
theorem sent_time : timeF (prc sentL) (fromF sentL) 1 = 2 := by decide +kernel
theorem sent_ah : ahd sentL 0 1 = true := by decide +kernel
set_option maxHeartbeats 2000000 in
theorem sent_any (w0 : World) (hg : GlobOk w0) : Calls Tryd.prog 9 #[] w0 fun en w' => en = .returned (.bool true) ∧ Pure w0 w' := by
  have hI := Inv.start (fun _ => False) w0
  refine calls_of_W (N := Tryd.f9.ntmps) Tryd.func9 rfl rfl rfl ?_
  refine W_seq ?_
  refine W_region ?_
  refine WL_val rfl rfl rfl (by first | exact rAsgnB rfl rfl | exact rAsgn rfl) ?_
  refine WL_nil ?_
  refine W_seq ?_
  refine W_region ?_
  refine WL_val rfl rfl rfl (rBuild (qs := [(0, .int .i64 _), (1, .int .i64 _), (2, .int .i64 _)]) (vs := [_, _, _]) [.int .i64 0, .int .i64 0, .int .i64 0] [0, 1, 2] rfl rfl rfl (fun _ => by kernel_rfl)) ?_
  refine WL_val rfl rfl rfl (rBuild (qs := [(0, .int .i64 _), (1, .int .i64 _), (2, .int .i64 _)]) (vs := [_, _, _]) [.int .i64 0, .int .i64 0, .int .i64 0] [0, 1, 2] rfl rfl rfl (fun _ => by kernel_rfl)) ?_
  refine WL_lit (vs := [_, _, _, _, _, _]) (qs := [(0, .agg #[_, _, _]), (1, .agg #[_, _, _])]) [.int .i64 0, .int .i64 0, .int .i64 0, .int .i64 0, .int .i64 0, .int .i64 0] [0, 3] hI rfl rfl rfl rfl rfl rfl Tryd.underlying22 (fun _ => by kernel_rfl) ?_
  clear hI; rintro b8 w - - hI
  refine WL_val rfl rfl rfl (by first | exact rAsgnS rfl rfl | exact rAsgn rfl) ?_
  refine WL_nil ?_
  have hS : Cks w (fun _ => True) (.slice (some ⟨b8, 0, none⟩) 2 2) sentL := cks_lit hI.g0 rfl rfl (by omega)
  refine W_seq ?_
  refine W_region ?_
  refine WL_val rfl rfl rfl (by first | exact rMoveS rfl rfl | exact rMove rfl) ?_
  refine WL_call rfl rfl rfl (rCall (vs := [.slice _ _ _]) rfl Tryd.func7 rfl rfl rfl) ?_
  refine (times_any _ 2 2 sentL _ _ hS (hI.oldp hg)).mono ?_
  rintro e w1 ⟨⟨_, ob, rfl, hob, hge⟩ | ⟨hbad, _⟩, hp⟩
  rotate_left
  · exact absurd sent_ok hbad
  refine ⟨.tuple #[.slice (some ⟨ob, 0, none⟩) 2 2, .nilIface], rfl, ?_⟩
  replace hob : (B ob 3 (numC 2 (timeF (prc sentL) (fromF sentL)))).ok w1 := hob
  replace hI := hI.fresh hp hob (fun k hk => by have : k = ob := hk; omega)
  refine WL_val rfl rfl rfl (by first | exact rMoveT rfl rfl | exact rMove rfl) ?_
  refine WL_val rfl rfl rfl (rExtr rfl rfl rfl) ?_
  refine WL_val rfl rfl rfl (rExtr rfl rfl rfl) ?_
  refine WL_val rfl rfl rfl (by first | exact rAsgnS rfl rfl | exact rAsgn rfl) ?_
  refine WL_val rfl rfl rfl (by first | exact rAsgnN rfl rfl | exact rAsgnE rfl rfl | exact rAsgn rfl) ?_
  refine WL_nil ?_
  refine W_seq ?_
  refine W_region ?_
  refine WL_val rfl rfl rfl (by first | exact rMoveS rfl rfl | exact rMove rfl) ?_
  refine WL_call rfl rfl rfl (rCall (vs := [.slice _ _ _]) rfl Tryd.func8 rfl rfl rfl) ?_
  refine (ahead_any _ 2 2 sentL _ _ (hS.pure hp) (hI.oldp hg)).mono ?_
  rintro e w1 (⟨_, Ao, co, As, cs, rfl, hIa⟩ | ⟨hbad, _⟩)
  rotate_left
  · exact absurd sent_ok hbad
  refine ⟨.tuple #[.slice Ao 2 co, .nilIface], rfl, ?_⟩
  replace hIa : Inv (fun _ => False) _ w1 [Row 0 35 1 Ao 2 co (ahOut 2 As cs 2), Many sentL.length (ahRows sentL As cs)] := hIa
  replace hI := hI.app2 hIa
  refine WL_val rfl rfl rfl (by first | exact rMoveT rfl rfl | exact rMove rfl) ?_
  refine WL_val rfl rfl rfl (rExtr rfl rfl rfl) ?_
  refine WL_val rfl rfl rfl (rExtr rfl rfl rfl) ?_
  refine WL_val rfl rfl rfl (by first | exact rAsgnS rfl rfl | exact rAsgn rfl) ?_
  refine WL_val rfl rfl rfl (by first | exact rAsgnN rfl rfl | exact rAsgnE rfl rfl | exact rAsgn rfl) ?_
  refine WL_nil ?_
  obtain ⟨ab, ao, rfl⟩ := row_addr hI.g0 (by omega)
  obtain ⟨rb, ro, hA0⟩ := ah_addr (i := 0) hI.g1 (by decide)
  have t1 : (numC 2 (timeF (prc sentL) (fromF sentL)))[1]? = some (.int .i64 2) := by
    have := numC_get (n := 2) (timeF (prc sentL) (fromF sentL)) (v := 1) (by omega)
    rw [sent_time] at this
    exact this
  refine W_seq ?_
  refine W_region ?_
  refine WL_val rfl rfl rfl (by first | exact rMoveN rfl rfl | exact rMoveE rfl rfl | exact rMove rfl) ?_
  refine WL_val rfl rfl rfl (by first | exact rIfaceEq rfl Tryd.underlying25 rfl rfl | exact rNilEq rfl Tryd.underlying25 rfl) ?_
  refine WL_val rfl rfl rfl (by first | exact rMoveB rfl rfl | exact rMove rfl) ?_
  first | refine WL_val rfl rfl rfl (by first | exact rMoveN rfl rfl | exact rMoveE rfl rfl | exact rMove rfl) ?_ | refine WL_skip rfl rfl rfl ?_
  first | refine WL_val rfl rfl rfl (by first | exact rIfaceEq rfl Tryd.underlying25 rfl rfl | exact rNilEq rfl Tryd.underlying25 rfl) ?_ | refine WL_skip rfl rfl rfl ?_
  refine WL_val rfl rfl rfl (by first | exact rPickTB rfl rfl rfl | exact rPickFB rfl rfl rfl | exact rPickB rfl rfl rfl rfl) ?_
  refine WL_val rfl rfl rfl (by first | exact rMoveB rfl rfl | exact rMove rfl) ?_
  first | refine WL_val rfl rfl rfl (by first | exact rMoveS rfl rfl | exact rMove rfl) ?_ | refine WL_skip rfl rfl rfl ?_
  first | refine WL_val rfl rfl rfl (rLen rfl Tryd.underlying28 rfl) ?_ | refine WL_skip rfl rfl rfl ?_
  first | refine WL_val rfl rfl rfl (by first | exact rEqlT rfl rfl rfl (by omega) | exact rEqlF rfl rfl rfl (by omega) | exact rEql rfl rfl rfl) ?_ | refine WL_skip rfl rfl rfl ?_
  refine WL_val rfl rfl rfl (by first | exact rPickTB rfl rfl rfl | exact rPickFB rfl rfl rfl | exact rPickB rfl rfl rfl rfl) ?_
  refine WL_val rfl rfl rfl (by first | exact rMoveB rfl rfl | exact rMove rfl) ?_
  first | refine WL_val rfl rfl rfl (by first | exact rMoveS rfl rfl | exact rMove rfl) ?_ | refine WL_skip rfl rfl rfl ?_
  first | refine WL_val rfl rfl rfl (by first | exact rIdx0 (i := 1) rfl Tryd.underlying28 (by kernel_rfl) rfl rfl rfl (by omega) | exact rIdx1 (i := 1) rfl Tryd.underlying28 (by kernel_rfl) rfl rfl (by omega)) ?_ | refine WL_skip rfl rfl rfl ?_
  first | refine WL_val rfl rfl rfl (by first | exact rLd (v := .int .i64 _) rfl (by kernel_rfl) rfl (by first | exact (hI.c2 t1) | exact (ah_outer hI.g0 (i := 0) (by omega) hA0) | exact (ah_inner hI.g1 (i := 0) (k := 1) (by decide) (by decide) hA0 sent_ah)) | exact rLd rfl (by kernel_rfl) rfl (by first | exact (hI.c2 t1) | exact (ah_outer hI.g0 (i := 0) (by omega) hA0) | exact (ah_inner hI.g1 (i := 0) (k := 1) (by decide) (by decide) hA0 sent_ah))) ?_ | refine WL_skip rfl rfl rfl ?_
  first | refine WL_val rfl rfl rfl (by first | exact rEqlT rfl rfl rfl (by omega) | exact rEqlF rfl rfl rfl (by omega) | exact rEql rfl rfl rfl) ?_ | refine WL_skip rfl rfl rfl ?_
  refine WL_val rfl rfl rfl (by first | exact rPickTB rfl rfl rfl | exact rPickFB rfl rfl rfl | exact rPickB rfl rfl rfl rfl) ?_
  refine WL_val rfl rfl rfl (by first | exact rMoveB rfl rfl | exact rMove rfl) ?_
  first | refine WL_val rfl rfl rfl (by first | exact rMoveS rfl rfl | exact rMove rfl) ?_ | refine WL_skip rfl rfl rfl ?_
  first | refine WL_val rfl rfl rfl (rLen rfl Tryd.underlying31 rfl) ?_ | refine WL_skip rfl rfl rfl ?_
  first | refine WL_val rfl rfl rfl (by first | exact rEqlT rfl rfl rfl (by omega) | exact rEqlF rfl rfl rfl (by omega) | exact rEql rfl rfl rfl) ?_ | refine WL_skip rfl rfl rfl ?_
  refine WL_val rfl rfl rfl (by first | exact rPickTB rfl rfl rfl | exact rPickFB rfl rfl rfl | exact rPickB rfl rfl rfl rfl) ?_
  refine WL_val rfl rfl rfl (by first | exact rMoveB rfl rfl | exact rMove rfl) ?_
  first | refine WL_val rfl rfl rfl (by first | exact rMoveS rfl rfl | exact rMove rfl) ?_ | refine WL_skip rfl rfl rfl ?_
  first | refine WL_val rfl rfl rfl (by first | exact rIdx0 (i := 0) rfl Tryd.underlying31 (by kernel_rfl) rfl rfl rfl (by omega) | exact rIdx1 (i := 0) rfl Tryd.underlying31 (by kernel_rfl) rfl rfl (by omega)) ?_ | refine WL_skip rfl rfl rfl ?_
  first | refine WL_val rfl rfl rfl (by first | exact rLd (v := .slice _ _ _) rfl (by kernel_rfl) rfl (by first | exact (hI.c2 t1) | exact (ah_outer hI.g0 (i := 0) (by omega) hA0) | exact (ah_inner hI.g1 (i := 0) (k := 1) (by decide) (by decide) hA0 sent_ah)) | exact rLd rfl (by kernel_rfl) rfl (by first | exact (hI.c2 t1) | exact (ah_outer hI.g0 (i := 0) (by omega) hA0) | exact (ah_inner hI.g1 (i := 0) (k := 1) (by decide) (by decide) hA0 sent_ah))) ?_ | refine WL_skip rfl rfl rfl ?_
  first | refine WL_val rfl rfl rfl (rLen rfl Tryd.underlying35 rfl) ?_ | refine WL_skip rfl rfl rfl ?_
  first | refine WL_val rfl rfl rfl (by first | exact rEqlT rfl rfl rfl (by omega) | exact rEqlF rfl rfl rfl (by omega) | exact rEql rfl rfl rfl) ?_ | refine WL_skip rfl rfl rfl ?_
  refine WL_val rfl rfl rfl (by first | exact rPickTB rfl rfl rfl | exact rPickFB rfl rfl rfl | exact rPickB rfl rfl rfl rfl) ?_
  refine WL_val rfl rfl rfl (by first | exact rMoveB rfl rfl | exact rMove rfl) ?_
  first | refine WL_val rfl rfl rfl (by first | exact rMoveS rfl rfl | exact rMove rfl) ?_ | refine WL_skip rfl rfl rfl ?_
  first | refine WL_val rfl rfl rfl (by first | exact rIdx0 (i := 0) rfl Tryd.underlying31 (by kernel_rfl) rfl rfl rfl (by omega) | exact rIdx1 (i := 0) rfl Tryd.underlying31 (by kernel_rfl) rfl rfl (by omega)) ?_ | refine WL_skip rfl rfl rfl ?_
  first | refine WL_val rfl rfl rfl (by first | exact rLd (v := .slice _ _ _) rfl (by kernel_rfl) rfl (by first | exact (hI.c2 t1) | exact (ah_outer hI.g0 (i := 0) (by omega) hA0) | exact (ah_inner hI.g1 (i := 0) (k := 1) (by decide) (by decide) hA0 sent_ah)) | exact rLd rfl (by kernel_rfl) rfl (by first | exact (hI.c2 t1) | exact (ah_outer hI.g0 (i := 0) (by omega) hA0) | exact (ah_inner hI.g1 (i := 0) (k := 1) (by decide) (by decide) hA0 sent_ah))) ?_ | refine WL_skip rfl rfl rfl ?_
  first | refine WL_val rfl rfl rfl (by first | exact rIdx0 (i := 1) rfl Tryd.underlying35 (by kernel_rfl) rfl rfl rfl (by omega) | exact rIdx1 (i := 1) rfl Tryd.underlying35 (by kernel_rfl) rfl rfl (by omega)) ?_ | refine WL_skip rfl rfl rfl ?_
  first | refine WL_val rfl rfl rfl (by first | exact rLd (v := .bool _) rfl (by kernel_rfl) rfl (by first | exact (hI.c2 t1) | exact (ah_outer hI.g0 (i := 0) (by omega) hA0) | exact (ah_inner hI.g1 (i := 0) (k := 1) (by decide) (by decide) hA0 sent_ah)) | exact rLd rfl (by kernel_rfl) rfl (by first | exact (hI.c2 t1) | exact (ah_outer hI.g0 (i := 0) (by omega) hA0) | exact (ah_inner hI.g1 (i := 0) (k := 1) (by decide) (by decide) hA0 sent_ah))) ?_ | refine WL_skip rfl rfl rfl ?_
  refine WL_val rfl rfl rfl (by first | exact rPickTB rfl rfl rfl | exact rPickFB rfl rfl rfl | exact rPickB rfl rfl rfl rfl) ?_
  refine WL_val rfl rfl rfl (by first | exact rAsgnB rfl rfl | exact rAsgn rfl) ?_
  refine WL_nil ?_
  refine W_ret ?_
  exact ret1 0 (.inr rfl) rfl ⟨rfl, hI.pu⟩
end Go.Proofs.YtajbhabkhgpcfaaDoor
