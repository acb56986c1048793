/- net: Whole, Halves, Bridge, Ring, Alone; plain: Links. -/
import Derived.Test.YtglioflpblpmpaaStoM
namespace Go.Proofs.Ytglioflpblpmpaa
open Go.RowKit
set_option linter.unusedVariables false
set_option linter.unusedSimpArgs false
/-- What those give that make links: a grid, or an error. -/
def LinkR (w0 : World) (v0 v1 : Value) (w' : World) : Prop :=
  (v1 = .nilIface ∧ ∃ (g n : Nat) (vals : List Value) (D : Nat → Prop), v0 = .slice (some ⟨g, 0, none⟩) n n ∧ vals.length = n ∧ (1 ≤ n ∧ n ≤ 7) ∧ Inv (fun _ => False) w0 w' [Row 0 66 1 (some ⟨g, 0, none⟩) n n vals, RowsE vals D]) ∨
  (v0 = .slice none 0 0 ∧ (∃ z, v1 = .iface 46 (.int .i64 z)) ∧ Pure w0 w')
theorem links_any (F : Nat) (n : Int) (fn : Func) (cap : List Value) (w0 : World) (hf : Try.prog.funcs[F]? = some fn) (hfn : (fn.name == "runtime.NumGoroutine") = false) (hfb : fn.body.isNone = false) (hC : ∀ m : Nat, n = (m : Int) → m ≤ 7 → CanF F cap w0) :
    Calls Try.prog 46 #[.int .i64 n, .func (.func F) #[] cap.toArray] w0 fun en w' => ∃ v0 v1, en = .returned (.tuple #[v0, v1]) ∧ LinkR w0 v0 v1 w' := by
  by_cases hn : 1 ≤ n ∧ n ≤ 7
  · obtain ⟨m, rfl⟩ : ∃ m : Nat, n = (m : Int) := ⟨n.toNat, by omega⟩
    refine (links_ok F m fn cap w0 hf hfn hfb (by omega) (hC m rfl (by omega))).mono ?_
    rintro en w' ⟨g, vals, D, rfl, hl, hI⟩
    exact ⟨_, _, rfl, .inl ⟨rfl, g, m, vals, D, rfl, hl, by omega, hI⟩⟩
  · refine (links_bad n _ w0 (by omega) ⟨F, cap.toArray, rfl⟩).mono ?_
    rintro en w' ⟨⟨z, rfl⟩, hp⟩
    exact ⟨_, _, rfl, .inr ⟨rfl, ⟨z, rfl⟩, hp⟩⟩
theorem LinkR.box {w0 w w' : World} {v0 v1 : Value} {H : List Ent} (hI : Inv (fun _ => False) w0 w H) (h : LinkR w v0 v1 w') : LinkR w0 v0 v1 w' := by
  rcases h with ⟨h1, g, n, vals, D, h2, h3, h4, h5⟩ | ⟨h1, h2, h3⟩
  · refine .inl ⟨h1, g, n, vals, D, h2, h3, h4, ?_⟩
    have h6 := hI.app2 h5
    exact ⟨h6.chg, fun e he => h6.ok e (by rcases List.mem_cons.1 he with rfl | he; simp; rw [List.mem_singleton.1 he]; simp), fun e he => h6.own e (by rcases List.mem_cons.1 he with rfl | he; simp; rw [List.mem_singleton.1 he]; simp), h5.apart⟩
  · exact .inr ⟨h1, h2, hI.pu.trans h3⟩
set_option maxHeartbeats 1000000 in
theorem whole_any (n : Int) (w0 : World) : Calls Try.prog 39 #[.int .i64 n] w0 fun en w' => ∃ v0 v1, en = .returned (.tuple #[v0, v1]) ∧ LinkR w0 v0 v1 w' := by
  have hI := Inv.start (fun _ => False) w0
  refine calls_of_W (N := Try.f39.ntmps) Try.func39 rfl rfl rfl ?_
  refine W_seq ?_
  refine W_region ?_
  refine WL_val rfl rfl rfl (by first | exact rAsgnS rfl rfl | exact rAsgn rfl) ?_
  refine WL_val rfl rfl rfl (by first | exact rAsgnN rfl rfl | exact rAsgnE rfl rfl | exact rAsgn rfl) ?_
  refine WL_nil ?_
  refine W_seq ?_
  refine W_region ?_
  refine WL_val rfl rfl rfl (by first | exact rMoveI rfl rfl | exact rMove rfl) ?_
  refine WL_call rfl rfl rfl (rCall (vs := [.int .i64 _, .func _ _ _]) rfl Try.func46 rfl rfl rfl) ?_
  refine (links_any 47 n _ [] _ Try.func47 rfl rfl (fun m _ _ => whole1_any _)).mono ?_
  rintro en w1 ⟨v0, v1, rfl, hL⟩
  refine ⟨_, rfl, ?_⟩
  refine WL_val rfl rfl rfl (rExtr rfl rfl rfl) ?_
  refine WL_val rfl rfl rfl (rExtr rfl rfl rfl) ?_
  refine WL_val rfl rfl rfl (by first | exact rAsgnS rfl rfl | exact rAsgn rfl) ?_
  refine WL_val rfl rfl rfl (by first | exact rAsgnN rfl rfl | exact rAsgnE rfl rfl | exact rAsgn rfl) ?_
  refine WL_nil ?_
  refine W_ret ?_
  exact ret2 2 3 (.inr rfl) rfl ⟨v0, v1, rfl, hL⟩
set_option maxHeartbeats 1000000 in
theorem halves_any (n : Int) (w0 : World) : Calls Try.prog 40 #[.int .i64 n] w0 fun en w' => ∃ v0 v1, en = .returned (.tuple #[v0, v1]) ∧ LinkR w0 v0 v1 w' := by
  have hI := Inv.start (fun _ => False) w0
  refine calls_of_W (N := Try.f40.ntmps) Try.func40 rfl rfl rfl ?_
  refine W_seq ?_
  refine W_region ?_
  refine WL_box (u := .int .i64 _) (vs := #[_]) hI rfl rfl rfl rfl rfl rfl ?_
  clear hI; rintro b1 w - - hI
  refine WL_val rfl rfl rfl (by first | exact rAsgnS rfl rfl | exact rAsgn rfl) ?_
  refine WL_val rfl rfl rfl (by first | exact rAsgnN rfl rfl | exact rAsgnE rfl rfl | exact rAsgn rfl) ?_
  refine WL_nil ?_
  refine W_seq ?_
  refine W_region ?_
  refine WL_val rfl rfl rfl (by first | exact rLd (v := .int .i64 _) rfl (by kernel_rfl) rfl (by first | exact hI.c0 rfl) | exact rLd rfl (by kernel_rfl) rfl (by first | exact hI.c0 rfl)) ?_
  refine WL_val rfl rfl rfl (rFunc (l := []) (m := [_]) rfl rfl rfl) ?_
  refine WL_call rfl rfl rfl (rCall (vs := [.int .i64 _, .func _ _ _]) rfl Try.func46 rfl rfl rfl) ?_
  refine (links_any 48 n _ [.pointer (some ⟨b1, 0, none⟩)] _ Try.func48 rfl rfl (fun m hm h7 => halves1_any b1 m _ h7 (by subst hm; exact hI.c0 rfl))).mono ?_
  rintro en w1 ⟨v0, v1, rfl, hL⟩
  refine ⟨_, rfl, ?_⟩
  replace hL := hL.box hI
  refine WL_val rfl rfl rfl (rExtr rfl rfl rfl) ?_
  refine WL_val rfl rfl rfl (rExtr rfl rfl rfl) ?_
  refine WL_val rfl rfl rfl (by first | exact rAsgnS rfl rfl | exact rAsgn rfl) ?_
  refine WL_val rfl rfl rfl (by first | exact rAsgnN rfl rfl | exact rAsgnE rfl rfl | exact rAsgn rfl) ?_
  refine WL_nil ?_
  refine W_ret ?_
  exact ret2 2 3 (.inr rfl) rfl ⟨v0, v1, rfl, hL⟩
set_option maxHeartbeats 1000000 in
theorem bridge_any (n : Int) (w0 : World) : Calls Try.prog 41 #[.int .i64 n] w0 fun en w' => ∃ v0 v1, en = .returned (.tuple #[v0, v1]) ∧ LinkR w0 v0 v1 w' := by
  have hI := Inv.start (fun _ => False) w0
  refine calls_of_W (N := Try.f41.ntmps) Try.func41 rfl rfl rfl ?_
  refine W_seq ?_
  refine W_region ?_
  refine WL_box (u := .int .i64 _) (vs := #[_]) hI rfl rfl rfl rfl rfl rfl ?_
  clear hI; rintro b1 w - - hI
  refine WL_val rfl rfl rfl (by first | exact rAsgnS rfl rfl | exact rAsgn rfl) ?_
  refine WL_val rfl rfl rfl (by first | exact rAsgnN rfl rfl | exact rAsgnE rfl rfl | exact rAsgn rfl) ?_
  refine WL_nil ?_
  refine W_seq ?_
  refine W_region ?_
  refine WL_val rfl rfl rfl (by first | exact rLd (v := .int .i64 _) rfl (by kernel_rfl) rfl (by first | exact hI.c0 rfl) | exact rLd rfl (by kernel_rfl) rfl (by first | exact hI.c0 rfl)) ?_
  refine WL_val rfl rfl rfl (rFunc (l := []) (m := [_]) rfl rfl rfl) ?_
  refine WL_call rfl rfl rfl (rCall (vs := [.int .i64 _, .func _ _ _]) rfl Try.func46 rfl rfl rfl) ?_
  refine (links_any 49 n _ [.pointer (some ⟨b1, 0, none⟩)] _ Try.func49 rfl rfl (fun m hm h7 => bridge1_any b1 m _ h7 (by subst hm; exact hI.c0 rfl))).mono ?_
  rintro en w1 ⟨v0, v1, rfl, hL⟩
  refine ⟨_, rfl, ?_⟩
  replace hL := hL.box hI
  refine WL_val rfl rfl rfl (rExtr rfl rfl rfl) ?_
  refine WL_val rfl rfl rfl (rExtr rfl rfl rfl) ?_
  refine WL_val rfl rfl rfl (by first | exact rAsgnS rfl rfl | exact rAsgn rfl) ?_
  refine WL_val rfl rfl rfl (by first | exact rAsgnN rfl rfl | exact rAsgnE rfl rfl | exact rAsgn rfl) ?_
  refine WL_nil ?_
  refine W_ret ?_
  exact ret2 2 3 (.inr rfl) rfl ⟨v0, v1, rfl, hL⟩
set_option maxHeartbeats 1000000 in
theorem ring_any (n : Int) (w0 : World) : Calls Try.prog 42 #[.int .i64 n] w0 fun en w' => ∃ v0 v1, en = .returned (.tuple #[v0, v1]) ∧ LinkR w0 v0 v1 w' := by
  have hI := Inv.start (fun _ => False) w0
  refine calls_of_W (N := Try.f42.ntmps) Try.func42 rfl rfl rfl ?_
  refine W_seq ?_
  refine W_region ?_
  refine WL_box (u := .int .i64 _) (vs := #[_]) hI rfl rfl rfl rfl rfl rfl ?_
  clear hI; rintro b1 w - - hI
  refine WL_val rfl rfl rfl (by first | exact rAsgnS rfl rfl | exact rAsgn rfl) ?_
  refine WL_val rfl rfl rfl (by first | exact rAsgnN rfl rfl | exact rAsgnE rfl rfl | exact rAsgn rfl) ?_
  refine WL_nil ?_
  refine W_seq ?_
  refine W_region ?_
  refine WL_val rfl rfl rfl (by first | exact rLd (v := .int .i64 _) rfl (by kernel_rfl) rfl (by first | exact hI.c0 rfl) | exact rLd rfl (by kernel_rfl) rfl (by first | exact hI.c0 rfl)) ?_
  refine WL_val rfl rfl rfl (rFunc (l := []) (m := [_]) rfl rfl rfl) ?_
  refine WL_call rfl rfl rfl (rCall (vs := [.int .i64 _, .func _ _ _]) rfl Try.func46 rfl rfl rfl) ?_
  refine (links_any 50 n _ [.pointer (some ⟨b1, 0, none⟩)] _ Try.func50 rfl rfl (fun m hm h7 => ring1_any b1 m _ h7 (by subst hm; exact hI.c0 rfl))).mono ?_
  rintro en w1 ⟨v0, v1, rfl, hL⟩
  refine ⟨_, rfl, ?_⟩
  replace hL := hL.box hI
  refine WL_val rfl rfl rfl (rExtr rfl rfl rfl) ?_
  refine WL_val rfl rfl rfl (rExtr rfl rfl rfl) ?_
  refine WL_val rfl rfl rfl (by first | exact rAsgnS rfl rfl | exact rAsgn rfl) ?_
  refine WL_val rfl rfl rfl (by first | exact rAsgnN rfl rfl | exact rAsgnE rfl rfl | exact rAsgn rfl) ?_
  refine WL_nil ?_
  refine W_ret ?_
  exact ret2 2 3 (.inr rfl) rfl ⟨v0, v1, rfl, hL⟩
theorem LinkR.pure {w0 w' : World} {v0 v1 : Value} (h : LinkR w0 v0 v1 w') : Pure w0 w' := by
  rcases h with ⟨_, g, n, vals, D, _, _, _, h5⟩ | ⟨_, _, h3⟩
  · exact h5.pu
  · exact h3
set_option maxHeartbeats 1000000 in
theorem alone_any (n who : Int) (w0 : World) : Calls Try.prog 43 #[.int .i64 n, .int .i64 who] w0 fun en w' => ∃ v0 v1, en = .returned (.tuple #[v0, v1]) ∧ LinkR w0 v0 v1 w' := by
  have hI := Inv.start (fun _ => False) w0
  refine calls_of_W (N := Try.f43.ntmps) Try.func43 rfl rfl rfl ?_
  refine W_seq ?_
  refine W_region ?_
  refine WL_box (u := .int .i64 _) (vs := #[_]) hI rfl rfl rfl rfl rfl rfl ?_
  clear hI; rintro b3 w - - hI
  refine WL_val rfl rfl rfl (by first | exact rAsgnS rfl rfl | exact rAsgn rfl) ?_
  refine WL_val rfl rfl rfl (by first | exact rAsgnN rfl rfl | exact rAsgnE rfl rfl | exact rAsgn rfl) ?_
  refine WL_nil ?_
  refine W_seq ?_
  refine W_region ?_
  refine WL_val rfl rfl rfl (by first | exact rMoveI rfl rfl | exact rMove rfl) ?_
  refine WL_val rfl rfl rfl (rFunc (l := []) (m := [_]) rfl rfl rfl) ?_
  refine WL_call rfl rfl rfl (rCall (vs := [.int .i64 _, .func _ _ _]) rfl Try.func46 rfl rfl rfl) ?_
  refine (links_any 51 n _ [.pointer (some ⟨b3, 0, none⟩)] _ Try.func51 rfl rfl (fun m hm h7 => alone1_any b3 who _ (hI.c0 rfl))).mono ?_
  rintro en w1 ⟨v0, v1, rfl, hL⟩
  refine ⟨_, rfl, ?_⟩
  have hLb := hL.box hI
  replace hI := hI.pure hL.pure
  have hcs : (v1 = .nilIface ∧ ∃ (g m : Nat), v0 = .slice (some ⟨g, 0, none⟩) m m) ∨ ∃ z, v1 = .iface 46 (.int .i64 z) := by
    rcases hL with ⟨h1, g, m, vals, D, h2, _⟩ | ⟨_, ⟨z, h2⟩, _⟩
    · exact .inl ⟨h1, g, m, h2⟩
    · exact .inr ⟨z, h2⟩
  refine WL_val rfl rfl rfl (by first | exact rMoveT rfl rfl | exact rMove rfl) ?_
  refine WL_val rfl rfl rfl (rExtr rfl rfl rfl) ?_
  refine WL_val rfl rfl rfl (rExtr rfl rfl rfl) ?_
  refine WL_val rfl rfl rfl (by first | exact rAsgnS rfl rfl | exact rAsgn rfl) ?_
  refine WL_val rfl rfl rfl (by first | exact rAsgnN rfl rfl | exact rAsgnE rfl rfl | exact rAsgn rfl) ?_
  refine WL_nil ?_
  rcases hcs with ⟨rfl, g, m, rfl⟩ | ⟨z, rfl⟩
  rotate_left
  · refine W_seq ?_
    refine W_seq ?_
    refine W_region ?_
    refine WL_val rfl rfl rfl (by first | exact rMoveN rfl rfl | exact rMoveE rfl rfl | exact rMove rfl) ?_
    refine WL_val rfl rfl rfl (by first | exact rIfaceEq rfl Try.underlying27 rfl rfl | exact rNilEq rfl Try.underlying27 rfl) ?_
    refine WL_val rfl rfl rfl (by first | exact rMoveB rfl rfl | exact rMove rfl) ?_
    refine WL_skip rfl rfl rfl ?_
    refine WL_skip rfl rfl rfl ?_
    refine WL_skip rfl rfl rfl ?_
    refine WL_skip rfl rfl rfl ?_
    refine WL_skip rfl rfl rfl ?_
    refine WL_skip rfl rfl rfl ?_
    refine WL_skip rfl rfl rfl ?_
    refine WL_val rfl rfl rfl (by first | exact rPickTB rfl rfl rfl | exact rPickFB rfl rfl rfl | exact rPickB rfl rfl rfl rfl) ?_
    refine WL_nil ?_
    refine W_cond false rfl ?_
    refine W_skip ?_
    refine W_seq ?_
    refine W_region ?_
    refine WL_val rfl rfl rfl (by first | exact rMoveS rfl rfl | exact rMove rfl) ?_
    refine WL_val rfl rfl rfl (by first | exact rMoveN rfl rfl | exact rMoveE rfl rfl | exact rMove rfl) ?_
    refine WL_val rfl rfl rfl (by first | exact rAsgnS rfl rfl | exact rAsgn rfl) ?_
    refine WL_val rfl rfl rfl (by first | exact rAsgnN rfl rfl | exact rAsgnE rfl rfl | exact rAsgn rfl) ?_
    refine WL_nil ?_
    refine W_ret ?_
    exact ret2 4 5 (.inr rfl) rfl ⟨_, _, rfl, hLb⟩
  by_cases hw : who < 0 ∨ n ≤ who
  · refine W_seq ?_
    refine W_seq_cut (fun ρ w => ρ 24 = .bool true ∧ Pure w0 w) ?_ ?_
    · by_cases h1 : who < 0
      · refine W_region ?_
        refine WL_val rfl rfl rfl (by first | exact rMoveN rfl rfl | exact rMoveE rfl rfl | exact rMove rfl) ?_
        refine WL_val rfl rfl rfl (by first | exact rIfaceEq rfl Try.underlying27 rfl rfl | exact rNilEq rfl Try.underlying27 rfl) ?_
        refine WL_val rfl rfl rfl (by first | exact rMoveB rfl rfl | exact rMove rfl) ?_
        first | refine WL_val rfl rfl rfl (by first | exact rLd (v := .int .i64 _) rfl (by kernel_rfl) rfl (by first | exact hI.c0 rfl) | exact rLd rfl (by kernel_rfl) rfl (by first | exact hI.c0 rfl)) ?_ | refine WL_skip rfl rfl rfl ?_
        first | refine WL_val rfl rfl rfl (by first | exact rLssT rfl rfl rfl (by omega) | exact rLssF rfl rfl rfl (by omega) | exact rLss rfl rfl rfl) ?_ | refine WL_skip rfl rfl rfl ?_
        first | refine WL_val rfl rfl rfl (by first | exact rMoveB rfl rfl | exact rMove rfl) ?_ | refine WL_skip rfl rfl rfl ?_
        first | refine WL_val rfl rfl rfl (by first | exact rLd (v := .int .i64 _) rfl (by kernel_rfl) rfl (by first | exact hI.c0 rfl) | exact rLd rfl (by kernel_rfl) rfl (by first | exact hI.c0 rfl)) ?_ | refine WL_skip rfl rfl rfl ?_
        first | refine WL_val rfl rfl rfl (by first | exact rMoveI rfl rfl | exact rMove rfl) ?_ | refine WL_skip rfl rfl rfl ?_
        first | refine WL_val rfl rfl rfl (by first | exact rGeqT rfl rfl rfl (by omega) | exact rGeqF rfl rfl rfl (by omega) | exact rGeq rfl rfl rfl) ?_ | refine WL_skip rfl rfl rfl ?_
        first | refine WL_val rfl rfl rfl (by first | exact rPickTB rfl rfl rfl | exact rPickFB rfl rfl rfl | exact rPickB rfl rfl rfl rfl) ?_ | refine WL_skip rfl rfl rfl ?_
        refine WL_val rfl rfl rfl (by first | exact rPickTB rfl rfl rfl | exact rPickFB rfl rfl rfl | exact rPickB rfl rfl rfl rfl) ?_
        refine WL_nil ?_
        exact ⟨rfl, hI.pu⟩
      · have h2 : n ≤ who := by omega
        refine W_region ?_
        refine WL_val rfl rfl rfl (by first | exact rMoveN rfl rfl | exact rMoveE rfl rfl | exact rMove rfl) ?_
        refine WL_val rfl rfl rfl (by first | exact rIfaceEq rfl Try.underlying27 rfl rfl | exact rNilEq rfl Try.underlying27 rfl) ?_
        refine WL_val rfl rfl rfl (by first | exact rMoveB rfl rfl | exact rMove rfl) ?_
        first | refine WL_val rfl rfl rfl (by first | exact rLd (v := .int .i64 _) rfl (by kernel_rfl) rfl (by first | exact hI.c0 rfl) | exact rLd rfl (by kernel_rfl) rfl (by first | exact hI.c0 rfl)) ?_ | refine WL_skip rfl rfl rfl ?_
        first | refine WL_val rfl rfl rfl (by first | exact rLssT rfl rfl rfl (by omega) | exact rLssF rfl rfl rfl (by omega) | exact rLss rfl rfl rfl) ?_ | refine WL_skip rfl rfl rfl ?_
        first | refine WL_val rfl rfl rfl (by first | exact rMoveB rfl rfl | exact rMove rfl) ?_ | refine WL_skip rfl rfl rfl ?_
        first | refine WL_val rfl rfl rfl (by first | exact rLd (v := .int .i64 _) rfl (by kernel_rfl) rfl (by first | exact hI.c0 rfl) | exact rLd rfl (by kernel_rfl) rfl (by first | exact hI.c0 rfl)) ?_ | refine WL_skip rfl rfl rfl ?_
        first | refine WL_val rfl rfl rfl (by first | exact rMoveI rfl rfl | exact rMove rfl) ?_ | refine WL_skip rfl rfl rfl ?_
        first | refine WL_val rfl rfl rfl (by first | exact rGeqT rfl rfl rfl (by omega) | exact rGeqF rfl rfl rfl (by omega) | exact rGeq rfl rfl rfl) ?_ | refine WL_skip rfl rfl rfl ?_
        first | refine WL_val rfl rfl rfl (by first | exact rPickTB rfl rfl rfl | exact rPickFB rfl rfl rfl | exact rPickB rfl rfl rfl rfl) ?_ | refine WL_skip rfl rfl rfl ?_
        refine WL_val rfl rfl rfl (by first | exact rPickTB rfl rfl rfl | exact rPickFB rfl rfl rfl | exact rPickB rfl rfl rfl rfl) ?_
        refine WL_nil ?_
        exact ⟨rfl, hI.pu⟩
    clear hI
    rintro ρ w ⟨h24, hp⟩
    refine W_cond true h24 ?_
    refine W_seq ?_
    refine W_region ?_
    refine WL_val rfl rfl rfl (rIface rfl Try.underlying46 rfl rfl) ?_
    refine WL_val rfl rfl rfl (by first | exact rAsgnS rfl rfl | exact rAsgn rfl) ?_
    refine WL_val rfl rfl rfl (by first | exact rAsgnN rfl rfl | exact rAsgnE rfl rfl | exact rAsgn rfl) ?_
    refine WL_nil ?_
    refine W_ret ?_
    exact ret2 4 5 (.inr rfl) rfl ⟨_, _, rfl, .inr ⟨rfl, ⟨_, rfl⟩, hp⟩⟩
  · refine W_seq ?_
    refine W_seq ?_
    refine W_region ?_
    refine WL_val rfl rfl rfl (by first | exact rMoveN rfl rfl | exact rMoveE rfl rfl | exact rMove rfl) ?_
    refine WL_val rfl rfl rfl (by first | exact rIfaceEq rfl Try.underlying27 rfl rfl | exact rNilEq rfl Try.underlying27 rfl) ?_
    refine WL_val rfl rfl rfl (by first | exact rMoveB rfl rfl | exact rMove rfl) ?_
    first | refine WL_val rfl rfl rfl (by first | exact rLd (v := .int .i64 _) rfl (by kernel_rfl) rfl (by first | exact hI.c0 rfl) | exact rLd rfl (by kernel_rfl) rfl (by first | exact hI.c0 rfl)) ?_ | refine WL_skip rfl rfl rfl ?_
    first | refine WL_val rfl rfl rfl (by first | exact rLssT rfl rfl rfl (by omega) | exact rLssF rfl rfl rfl (by omega) | exact rLss rfl rfl rfl) ?_ | refine WL_skip rfl rfl rfl ?_
    first | refine WL_val rfl rfl rfl (by first | exact rMoveB rfl rfl | exact rMove rfl) ?_ | refine WL_skip rfl rfl rfl ?_
    first | refine WL_val rfl rfl rfl (by first | exact rLd (v := .int .i64 _) rfl (by kernel_rfl) rfl (by first | exact hI.c0 rfl) | exact rLd rfl (by kernel_rfl) rfl (by first | exact hI.c0 rfl)) ?_ | refine WL_skip rfl rfl rfl ?_
    first | refine WL_val rfl rfl rfl (by first | exact rMoveI rfl rfl | exact rMove rfl) ?_ | refine WL_skip rfl rfl rfl ?_
    first | refine WL_val rfl rfl rfl (by first | exact rGeqT rfl rfl rfl (by omega) | exact rGeqF rfl rfl rfl (by omega) | exact rGeq rfl rfl rfl) ?_ | refine WL_skip rfl rfl rfl ?_
    first | refine WL_val rfl rfl rfl (by first | exact rPickTB rfl rfl rfl | exact rPickFB rfl rfl rfl | exact rPickB rfl rfl rfl rfl) ?_ | refine WL_skip rfl rfl rfl ?_
    refine WL_val rfl rfl rfl (by first | exact rPickTB rfl rfl rfl | exact rPickFB rfl rfl rfl | exact rPickB rfl rfl rfl rfl) ?_
    refine WL_nil ?_
    refine W_cond false rfl ?_
    refine W_skip ?_
    refine W_seq ?_
    refine W_region ?_
    refine WL_val rfl rfl rfl (by first | exact rMoveS rfl rfl | exact rMove rfl) ?_
    refine WL_val rfl rfl rfl (by first | exact rMoveN rfl rfl | exact rMoveE rfl rfl | exact rMove rfl) ?_
    refine WL_val rfl rfl rfl (by first | exact rAsgnS rfl rfl | exact rAsgn rfl) ?_
    refine WL_val rfl rfl rfl (by first | exact rAsgnN rfl rfl | exact rAsgnE rfl rfl | exact rAsgn rfl) ?_
    refine WL_nil ?_
    refine W_ret ?_
    exact ret2 4 5 (.inr rfl) rfl ⟨_, _, rfl, hLb⟩
set_option maxHeartbeats 1000000 in
theorem plinks_any (what n who : Int) (w0 : World) : Calls Try.prog 28 #[.int .i64 what, .int .i64 n, .int .i64 who] w0 fun en w' => ∃ v0 v1, en = .returned (.tuple #[v0, v1]) ∧ LinkR w0 v0 v1 w' := by
  have hI := Inv.start (fun _ => False) w0
  refine calls_of_W (N := Try.f28.ntmps) Try.func28 rfl rfl rfl ?_
  refine W_seq ?_
  refine W_region ?_
  refine WL_val rfl rfl rfl (by first | exact rAsgnS rfl rfl | exact rAsgn rfl) ?_
  refine WL_val rfl rfl rfl (by first | exact rAsgnN rfl rfl | exact rAsgnE rfl rfl | exact rAsgn rfl) ?_
  refine WL_nil ?_
  refine W_seq ?_
  refine W_seq ?_
  refine W_region ?_
  refine WL_val rfl rfl rfl (by first | exact rMoveI rfl rfl | exact rMove rfl) ?_
  refine WL_nil ?_
  refine W_block ?_
  by_cases h7 : what = 7
  · refine W_seq ?_
    refine W_region ?_
    refine WL_val rfl rfl rfl (by first | exact rEqlT rfl rfl rfl (by omega) | exact rEqlF rfl rfl rfl (by omega) | exact rEql rfl rfl rfl) ?_
    refine WL_val rfl rfl rfl (by first | exact rAsgnB rfl rfl | exact rAsgn rfl) ?_
    refine WL_nil ?_
    refine W_cond true rfl ?_
    refine W_seq ?_
    refine W_region ?_
    refine WL_val rfl rfl rfl (by first | exact rMoveI rfl rfl | exact rMove rfl) ?_
    refine WL_call rfl rfl rfl (rCall (vs := [.int .i64 _]) rfl Try.func39 rfl rfl rfl) ?_
    refine (whole_any n _).mono ?_
    rintro en w1 ⟨v0, v1, rfl, hL⟩
    refine ⟨_, rfl, ?_⟩
    refine WL_val rfl rfl rfl (rExtr rfl rfl rfl) ?_
    refine WL_val rfl rfl rfl (rExtr rfl rfl rfl) ?_
    refine WL_val rfl rfl rfl (by first | exact rAsgnS rfl rfl | exact rAsgn rfl) ?_
    refine WL_val rfl rfl rfl (by first | exact rAsgnN rfl rfl | exact rAsgnE rfl rfl | exact rAsgn rfl) ?_
    refine WL_nil ?_
    refine W_ret ?_
    exact ret2 6 7 (.inr rfl) rfl ⟨v0, v1, rfl, hL⟩
  refine W_seq ?_
  refine W_region ?_
  refine WL_val rfl rfl rfl (by first | exact rEqlT rfl rfl rfl (by omega) | exact rEqlF rfl rfl rfl (by omega) | exact rEql rfl rfl rfl) ?_
  refine WL_val rfl rfl rfl (by first | exact rAsgnB rfl rfl | exact rAsgn rfl) ?_
  refine WL_nil ?_
  refine W_cond false rfl ?_
  by_cases h8 : what = 8
  · refine W_seq ?_
    refine W_region ?_
    refine WL_val rfl rfl rfl (by first | exact rEqlT rfl rfl rfl (by omega) | exact rEqlF rfl rfl rfl (by omega) | exact rEql rfl rfl rfl) ?_
    refine WL_val rfl rfl rfl (by first | exact rAsgnB rfl rfl | exact rAsgn rfl) ?_
    refine WL_nil ?_
    refine W_cond true rfl ?_
    refine W_seq ?_
    refine W_region ?_
    refine WL_val rfl rfl rfl (by first | exact rMoveI rfl rfl | exact rMove rfl) ?_
    refine WL_call rfl rfl rfl (rCall (vs := [.int .i64 _]) rfl Try.func40 rfl rfl rfl) ?_
    refine (halves_any n _).mono ?_
    rintro en w1 ⟨v0, v1, rfl, hL⟩
    refine ⟨_, rfl, ?_⟩
    refine WL_val rfl rfl rfl (rExtr rfl rfl rfl) ?_
    refine WL_val rfl rfl rfl (rExtr rfl rfl rfl) ?_
    refine WL_val rfl rfl rfl (by first | exact rAsgnS rfl rfl | exact rAsgn rfl) ?_
    refine WL_val rfl rfl rfl (by first | exact rAsgnN rfl rfl | exact rAsgnE rfl rfl | exact rAsgn rfl) ?_
    refine WL_nil ?_
    refine W_ret ?_
    exact ret2 6 7 (.inr rfl) rfl ⟨v0, v1, rfl, hL⟩
  refine W_seq ?_
  refine W_region ?_
  refine WL_val rfl rfl rfl (by first | exact rEqlT rfl rfl rfl (by omega) | exact rEqlF rfl rfl rfl (by omega) | exact rEql rfl rfl rfl) ?_
  refine WL_val rfl rfl rfl (by first | exact rAsgnB rfl rfl | exact rAsgn rfl) ?_
  refine WL_nil ?_
  refine W_cond false rfl ?_
  by_cases h9 : what = 9
  · refine W_seq ?_
    refine W_region ?_
    refine WL_val rfl rfl rfl (by first | exact rEqlT rfl rfl rfl (by omega) | exact rEqlF rfl rfl rfl (by omega) | exact rEql rfl rfl rfl) ?_
    refine WL_val rfl rfl rfl (by first | exact rAsgnB rfl rfl | exact rAsgn rfl) ?_
    refine WL_nil ?_
    refine W_cond true rfl ?_
    refine W_seq ?_
    refine W_region ?_
    refine WL_val rfl rfl rfl (by first | exact rMoveI rfl rfl | exact rMove rfl) ?_
    refine WL_call rfl rfl rfl (rCall (vs := [.int .i64 _]) rfl Try.func41 rfl rfl rfl) ?_
    refine (bridge_any n _).mono ?_
    rintro en w1 ⟨v0, v1, rfl, hL⟩
    refine ⟨_, rfl, ?_⟩
    refine WL_val rfl rfl rfl (rExtr rfl rfl rfl) ?_
    refine WL_val rfl rfl rfl (rExtr rfl rfl rfl) ?_
    refine WL_val rfl rfl rfl (by first | exact rAsgnS rfl rfl | exact rAsgn rfl) ?_
    refine WL_val rfl rfl rfl (by first | exact rAsgnN rfl rfl | exact rAsgnE rfl rfl | exact rAsgn rfl) ?_
    refine WL_nil ?_
    refine W_ret ?_
    exact ret2 6 7 (.inr rfl) rfl ⟨v0, v1, rfl, hL⟩
  refine W_seq ?_
  refine W_region ?_
  refine WL_val rfl rfl rfl (by first | exact rEqlT rfl rfl rfl (by omega) | exact rEqlF rfl rfl rfl (by omega) | exact rEql rfl rfl rfl) ?_
  refine WL_val rfl rfl rfl (by first | exact rAsgnB rfl rfl | exact rAsgn rfl) ?_
  refine WL_nil ?_
  refine W_cond false rfl ?_
  by_cases h10 : what = 10
  · refine W_seq ?_
    refine W_region ?_
    refine WL_val rfl rfl rfl (by first | exact rEqlT rfl rfl rfl (by omega) | exact rEqlF rfl rfl rfl (by omega) | exact rEql rfl rfl rfl) ?_
    refine WL_val rfl rfl rfl (by first | exact rAsgnB rfl rfl | exact rAsgn rfl) ?_
    refine WL_nil ?_
    refine W_cond true rfl ?_
    refine W_seq ?_
    refine W_region ?_
    refine WL_val rfl rfl rfl (by first | exact rMoveI rfl rfl | exact rMove rfl) ?_
    refine WL_call rfl rfl rfl (rCall (vs := [.int .i64 _]) rfl Try.func42 rfl rfl rfl) ?_
    refine (ring_any n _).mono ?_
    rintro en w1 ⟨v0, v1, rfl, hL⟩
    refine ⟨_, rfl, ?_⟩
    refine WL_val rfl rfl rfl (rExtr rfl rfl rfl) ?_
    refine WL_val rfl rfl rfl (rExtr rfl rfl rfl) ?_
    refine WL_val rfl rfl rfl (by first | exact rAsgnS rfl rfl | exact rAsgn rfl) ?_
    refine WL_val rfl rfl rfl (by first | exact rAsgnN rfl rfl | exact rAsgnE rfl rfl | exact rAsgn rfl) ?_
    refine WL_nil ?_
    refine W_ret ?_
    exact ret2 6 7 (.inr rfl) rfl ⟨v0, v1, rfl, hL⟩
  refine W_seq ?_
  refine W_region ?_
  refine WL_val rfl rfl rfl (by first | exact rEqlT rfl rfl rfl (by omega) | exact rEqlF rfl rfl rfl (by omega) | exact rEql rfl rfl rfl) ?_
  refine WL_val rfl rfl rfl (by first | exact rAsgnB rfl rfl | exact rAsgn rfl) ?_
  refine WL_nil ?_
  refine W_cond false rfl ?_
  refine W_skip ?_
  refine W_seq ?_
  refine W_region ?_
  refine WL_val rfl rfl rfl (by first | exact rMoveI rfl rfl | exact rMove rfl) ?_
  refine WL_val rfl rfl rfl (by first | exact rMoveI rfl rfl | exact rMove rfl) ?_
  refine WL_call rfl rfl rfl (rCall (vs := [.int .i64 _, .int .i64 _]) rfl Try.func43 rfl rfl rfl) ?_
  refine (alone_any n who _).mono ?_
  rintro en w1 ⟨v0, v1, rfl, hL⟩
  refine ⟨_, rfl, ?_⟩
  refine WL_val rfl rfl rfl (rExtr rfl rfl rfl) ?_
  refine WL_val rfl rfl rfl (rExtr rfl rfl rfl) ?_
  refine WL_val rfl rfl rfl (by first | exact rAsgnS rfl rfl | exact rAsgn rfl) ?_
  refine WL_val rfl rfl rfl (by first | exact rAsgnN rfl rfl | exact rAsgnE rfl rfl | exact rAsgn rfl) ?_
  refine WL_nil ?_
  refine W_ret ?_
  exact ret2 6 7 (.inr rfl) rfl ⟨v0, v1, rfl, hL⟩
end Go.Proofs.Ytglioflpblpmpaa
