/- graph.Groups; graph.Check, Order, Cycle, Groups at grids that are not square. -/
import Derived.Test.YtmgadfmoaffdiaaDoorGraph4
namespace Go.Proofs.YtmgadfmoaffdiaaDoor
open Go.RowKit
set_option linter.unusedVariables false
set_option linter.unusedSimpArgs false

set_option maxHeartbeats 1000000 in
theorem gcheckB_any (A : Option Addr) (n c : Nat) (g : List (List Bool)) (D : Nat → Prop) (w0 : World) (h : Grid w0 D (.slice A n c) g) (hl : g.length = n) (hn : n ≤ 40) (hbad : ∃ l ∈ g, l.length ≠ n) :
    Calls Tryd.prog 36 #[.slice A n c] w0 fun en w' => en = .returned (.iface 52 (.int .i64 3)) ∧ Pure w0 w' := by
  have hI := Inv.start (fun _ => False) w0
  refine calls_of_W (N := Tryd.f36.ntmps) Tryd.func36 rfl rfl rfl ?_
  refine W_seq ?_
  refine W_region ?_
  refine WL_val rfl rfl rfl (by first | exact rAsgnN rfl rfl | exact rAsgnE rfl rfl | exact rAsgn rfl) ?_
  refine WL_nil ?_
  refine W_seq ?_
  refine W_seq ?_
  refine W_region ?_
  refine WL_val rfl rfl rfl (by first | exact rMoveS rfl rfl | exact rMove rfl) ?_
  refine WL_val rfl rfl rfl (rLen rfl Tryd.underlying29 rfl) ?_
  refine WL_val rfl rfl rfl (by first | exact rGtrT rfl rfl rfl (by omega) | exact rGtrF rfl rfl rfl (by omega) | exact rGtr rfl rfl rfl) ?_
  refine WL_nil ?_
  refine W_cond false rfl ?_
  refine W_skip ?_
  refine W_seq ?_
  refine W_seq ?_
  refine W_region ?_
  refine WL_val rfl rfl rfl (by first | exact rMoveS rfl rfl | exact rMove rfl) ?_
  refine WL_val rfl rfl rfl (rLen rfl Tryd.underlying29 rfl) ?_
  refine WL_val rfl rfl rfl (by first | exact rMoveI rfl rfl | exact rMove rfl) ?_
  refine WL_nil ?_
  refine W_block ?_
  refine W_loop (fun ρ w => ∃ k : Nat, k ≤ n ∧ (∀ (i : Nat) l, i < k → g[i]? = some l → l.length = n) ∧ Has ρ [(11, .int .i64 (k : Int)), (10, .int .i64 (n : Int)), (9, .slice A n c), (0, .slice A n c)] ∧ Inv (fun _ => False) w0 w []) (fun ρ _ => n - cnt (ρ 11))
    ⟨0, by omega, fun i l hi => by omega, ⟨rfl, rfl, rfl, rfl, trivial⟩, hI⟩ ?_
  clear hI
  rintro ρ w ⟨k, hk, hall, hH, hI⟩
  obtain ⟨σ, rfl⟩ := hH.open
  have hkn : k < n := by
    rcases Nat.lt_or_ge k n with h1 | h1
    · exact h1
    · obtain ⟨l, hm, hne⟩ := hbad
      obtain ⟨i, hi⟩ := List.getElem?_of_mem hm
      have := (List.getElem?_eq_some_iff.1 hi).1
      exact absurd (hall i l (by omega) hi) hne
  obtain ⟨b, o, A', c', rfl, _, q1, _, _, _⟩ := h.get (i := k) (by omega)
  refine W_seq ?_
  refine W_region ?_
  refine WL_val rfl rfl rfl (by first | exact rLssT rfl rfl rfl (by omega) | exact rLssF rfl rfl rfl (by omega) | exact rLss rfl rfl rfl) ?_
  refine WL_nil ?_
  refine W_seq ?_
  refine W_cond true rfl ?_
  refine W_skip ?_
  refine W_seq ?_
  refine W_block ?_
  refine W_seq ?_
  refine W_region ?_
  refine WL_val rfl rfl rfl (by first | exact rIdx0 rfl Tryd.underlying29 (by kernel_rfl) rfl rfl rfl (by omega) | exact rIdx1 rfl Tryd.underlying29 (by kernel_rfl) rfl rfl (by omega)) ?_
  refine WL_val rfl rfl rfl (by first | exact rLd (v := .slice _ _ _) rfl (by kernel_rfl) rfl (by first | exact hI.c0 rfl | exact hI.c1 rfl | exact hI.c2 rfl | exact hI.c3 rfl | exact hI.c4 rfl | exact hI.c5 rfl | exact hI.oldp q1 | exact q1) | exact rLd rfl (by kernel_rfl) rfl (by first | exact hI.c0 rfl | exact hI.c1 rfl | exact hI.c2 rfl | exact hI.c3 rfl | exact hI.c4 rfl | exact hI.c5 rfl | exact hI.oldp q1 | exact q1)) ?_
  refine WL_val rfl rfl rfl (by first | exact rAsgnS rfl rfl | exact rAsgn rfl) ?_
  refine WL_nil ?_
  by_cases hlen : (g[k]'(by omega)).length = n
  · refine W_seq ?_
    refine W_region ?_
    refine WL_val rfl rfl rfl (by first | exact rMoveS rfl rfl | exact rMove rfl) ?_
    refine WL_val rfl rfl rfl (rLen rfl Tryd.underlying23 rfl) ?_
    refine WL_val rfl rfl rfl (by first | exact rMoveS rfl rfl | exact rMove rfl) ?_
    refine WL_val rfl rfl rfl (rLen rfl Tryd.underlying29 rfl) ?_
    refine WL_val rfl rfl rfl (by first | exact rNeqT rfl rfl rfl (by omega) | exact rNeqF rfl rfl rfl (by omega) | exact rNeq rfl rfl rfl) ?_
    refine WL_nil ?_
    refine W_cond false rfl ?_
    refine W_skip ?_
    refine W_region ?_
    refine WL_val rfl rfl rfl (by first | exact rInc rfl rfl rfl (by omega) | exact rAdd rfl rfl rfl (by omega) | exact rAddW rfl rfl rfl) ?_
    refine WL_val rfl rfl rfl (by first | exact rMoveI rfl rfl | exact rMove rfl) ?_
    refine WL_nil ?_
    refine ⟨⟨k + 1, by omega, fun i l hi hil => ?_, ⟨rfl, rfl, rfl, rfl, trivial⟩, hI⟩, by show n - ((k + 1 : Nat) : Int).toNat < n - (k : Int).toNat; omega⟩
    rcases Nat.lt_or_ge i k with h1 | h1
    · exact hall i l h1 hil
    · have : i = k := by omega
      subst this
      rw [List.getElem?_eq_getElem (by omega)] at hil
      injection hil with hil
      rw [← hil]; exact hlen
  · refine W_seq ?_
    refine W_region ?_
    refine WL_val rfl rfl rfl (by first | exact rMoveS rfl rfl | exact rMove rfl) ?_
    refine WL_val rfl rfl rfl (rLen rfl Tryd.underlying23 rfl) ?_
    refine WL_val rfl rfl rfl (by first | exact rMoveS rfl rfl | exact rMove rfl) ?_
    refine WL_val rfl rfl rfl (rLen rfl Tryd.underlying29 rfl) ?_
    refine WL_val rfl rfl rfl (by first | exact rNeqT rfl rfl rfl (by omega) | exact rNeqF rfl rfl rfl (by omega) | exact rNeq rfl rfl rfl) ?_
    refine WL_nil ?_
    refine W_cond true rfl ?_
    refine W_seq ?_
    refine W_region ?_
    refine WL_val rfl rfl rfl (rIface rfl Tryd.underlying52 rfl rfl) ?_
    refine WL_val rfl rfl rfl (by first | exact rAsgnN rfl rfl | exact rAsgnE rfl rfl | exact rAsgn rfl) ?_
    refine WL_nil ?_
    refine W_ret ?_
    exact ret1 2 (.inr rfl) rfl ⟨rfl, hI.pu⟩
section
variable (A : Option Addr) (n c : Nat) (g : List (List Bool)) (D : Nat → Prop) (w0 : World) (h : Grid w0 D (.slice A n c) g) (hl : g.length = n) (hn : n ≤ 40) (hbad : ∃ l ∈ g, l.length ≠ n)
include h hl hn hbad
theorem gorderB_any : Calls Tryd.prog 12 #[.slice A n c] w0 fun en w' => en = .returned (.tuple #[.slice none 0 0, .iface 52 (.int .i64 3)]) ∧ Pure w0 w' := by
  have hI := Inv.start (fun _ => False) w0
  refine calls_of_W (N := Tryd.f12.ntmps) Tryd.func12 rfl rfl rfl ?_
  refine W_seq ?_
  refine W_region ?_
  refine WL_val rfl rfl rfl (by first | exact rAsgnS rfl rfl | exact rAsgn rfl) ?_
  refine WL_val rfl rfl rfl (by first | exact rAsgnN rfl rfl | exact rAsgnE rfl rfl | exact rAsgn rfl) ?_
  refine WL_nil ?_
  refine W_seq ?_
  refine W_seq ?_
  refine W_region ?_
  refine WL_val rfl rfl rfl (by first | exact rMoveS rfl rfl | exact rMove rfl) ?_
  refine WL_call rfl rfl rfl (rCall (vs := [.slice _ _ _]) rfl Tryd.func36 rfl rfl rfl) ?_
  refine (gcheckB_any A n c g D _ h hl hn hbad).mono ?_
  rintro e w1 ⟨rfl, hp⟩
  refine ⟨_, rfl, ?_⟩
  replace hI := hI.pure hp
  refine WL_val rfl rfl rfl (by first | exact rAsgnN rfl rfl | exact rAsgnE rfl rfl | exact rAsgn rfl) ?_
  refine WL_nil ?_
  refine W_seq ?_
  refine W_region ?_
  refine WL_val rfl rfl rfl (by first | exact rMoveN rfl rfl | exact rMoveE rfl rfl | exact rMove rfl) ?_
  refine WL_val rfl rfl rfl (by first | exact rIfaceNe rfl Tryd.underlying26 rfl rfl | exact rNilNe rfl Tryd.underlying26 rfl) ?_
  refine WL_nil ?_
  refine W_cond true rfl ?_
  refine W_seq ?_
  refine W_region ?_
  refine WL_val rfl rfl rfl (by first | exact rMoveN rfl rfl | exact rMoveE rfl rfl | exact rMove rfl) ?_
  refine WL_val rfl rfl rfl (by first | exact rAsgnS rfl rfl | exact rAsgn rfl) ?_
  refine WL_val rfl rfl rfl (by first | exact rAsgnN rfl rfl | exact rAsgnE rfl rfl | exact rAsgn rfl) ?_
  refine WL_nil ?_
  refine W_ret ?_
  exact ret2 2 3 (.inr rfl) rfl ⟨rfl, hI.pu⟩
theorem cycleB_any : Calls Tryd.prog 13 #[.slice A n c] w0 fun en w' => en = .returned (.tuple #[.slice none 0 0, .iface 52 (.int .i64 3)]) ∧ Pure w0 w' := by
  have hI := Inv.start (fun _ => False) w0
  refine calls_of_W (N := Tryd.f13.ntmps) Tryd.func13 rfl rfl rfl ?_
  refine W_seq ?_
  refine W_region ?_
  refine WL_val rfl rfl rfl (by first | exact rAsgnS rfl rfl | exact rAsgn rfl) ?_
  refine WL_val rfl rfl rfl (by first | exact rAsgnN rfl rfl | exact rAsgnE rfl rfl | exact rAsgn rfl) ?_
  refine WL_nil ?_
  refine W_seq ?_
  refine W_seq ?_
  refine W_region ?_
  refine WL_val rfl rfl rfl (by first | exact rMoveS rfl rfl | exact rMove rfl) ?_
  refine WL_call rfl rfl rfl (rCall (vs := [.slice _ _ _]) rfl Tryd.func36 rfl rfl rfl) ?_
  refine (gcheckB_any A n c g D _ h hl hn hbad).mono ?_
  rintro e w1 ⟨rfl, hp⟩
  refine ⟨_, rfl, ?_⟩
  replace hI := hI.pure hp
  refine WL_val rfl rfl rfl (by first | exact rAsgnN rfl rfl | exact rAsgnE rfl rfl | exact rAsgn rfl) ?_
  refine WL_nil ?_
  refine W_seq ?_
  refine W_region ?_
  refine WL_val rfl rfl rfl (by first | exact rMoveN rfl rfl | exact rMoveE rfl rfl | exact rMove rfl) ?_
  refine WL_val rfl rfl rfl (by first | exact rIfaceNe rfl Tryd.underlying26 rfl rfl | exact rNilNe rfl Tryd.underlying26 rfl) ?_
  refine WL_nil ?_
  refine W_cond true rfl ?_
  refine W_seq ?_
  refine W_region ?_
  refine WL_val rfl rfl rfl (by first | exact rMoveN rfl rfl | exact rMoveE rfl rfl | exact rMove rfl) ?_
  refine WL_val rfl rfl rfl (by first | exact rAsgnS rfl rfl | exact rAsgn rfl) ?_
  refine WL_val rfl rfl rfl (by first | exact rAsgnN rfl rfl | exact rAsgnE rfl rfl | exact rAsgn rfl) ?_
  refine WL_nil ?_
  refine W_ret ?_
  exact ret2 2 3 (.inr rfl) rfl ⟨rfl, hI.pu⟩
theorem gclosedB_any : Calls Tryd.prog 38 #[.slice A n c] w0 fun en w' => en = .returned (.tuple #[.slice none 0 0, .iface 52 (.int .i64 3)]) ∧ Pure w0 w' := by
  have hI := Inv.start (fun _ => False) w0
  refine calls_of_W (N := Tryd.f38.ntmps) Tryd.func38 rfl rfl rfl ?_
  refine W_seq ?_
  refine W_region ?_
  refine WL_val rfl rfl rfl (by first | exact rAsgnS rfl rfl | exact rAsgn rfl) ?_
  refine WL_val rfl rfl rfl (by first | exact rAsgnN rfl rfl | exact rAsgnE rfl rfl | exact rAsgn rfl) ?_
  refine WL_nil ?_
  refine W_seq ?_
  refine W_seq ?_
  refine W_region ?_
  refine WL_val rfl rfl rfl (by first | exact rMoveS rfl rfl | exact rMove rfl) ?_
  refine WL_call rfl rfl rfl (rCall (vs := [.slice _ _ _]) rfl Tryd.func36 rfl rfl rfl) ?_
  refine (gcheckB_any A n c g D _ h hl hn hbad).mono ?_
  rintro e w1 ⟨rfl, hp⟩
  refine ⟨_, rfl, ?_⟩
  replace hI := hI.pure hp
  refine WL_val rfl rfl rfl (by first | exact rAsgnN rfl rfl | exact rAsgnE rfl rfl | exact rAsgn rfl) ?_
  refine WL_nil ?_
  refine W_seq ?_
  refine W_region ?_
  refine WL_val rfl rfl rfl (by first | exact rMoveN rfl rfl | exact rMoveE rfl rfl | exact rMove rfl) ?_
  refine WL_val rfl rfl rfl (by first | exact rIfaceNe rfl Tryd.underlying26 rfl rfl | exact rNilNe rfl Tryd.underlying26 rfl) ?_
  refine WL_nil ?_
  refine W_cond true rfl ?_
  refine W_seq ?_
  refine W_region ?_
  refine WL_val rfl rfl rfl (by first | exact rMoveN rfl rfl | exact rMoveE rfl rfl | exact rMove rfl) ?_
  refine WL_val rfl rfl rfl (by first | exact rAsgnS rfl rfl | exact rAsgn rfl) ?_
  refine WL_val rfl rfl rfl (by first | exact rAsgnN rfl rfl | exact rAsgnE rfl rfl | exact rAsgn rfl) ?_
  refine WL_nil ?_
  refine W_ret ?_
  exact ret2 2 3 (.inr rfl) rfl ⟨rfl, hI.pu⟩
theorem groupsB_any : Calls Tryd.prog 14 #[.slice A n c] w0 fun en w' => en = .returned (.tuple #[.slice none 0 0, .iface 52 (.int .i64 3)]) ∧ Pure w0 w' := by
  have hI := Inv.start (fun _ => False) w0
  refine calls_of_W (N := Tryd.f14.ntmps) Tryd.func14 rfl rfl rfl ?_
  refine W_seq ?_
  refine W_region ?_
  refine WL_val rfl rfl rfl (by first | exact rAsgnS rfl rfl | exact rAsgn rfl) ?_
  refine WL_val rfl rfl rfl (by first | exact rAsgnN rfl rfl | exact rAsgnE rfl rfl | exact rAsgn rfl) ?_
  refine WL_nil ?_
  refine W_seq ?_
  refine W_region ?_
  refine WL_val rfl rfl rfl (by first | exact rMoveS rfl rfl | exact rMove rfl) ?_
  refine WL_call rfl rfl rfl (rCall (vs := [.slice _ _ _]) rfl Tryd.func38 rfl rfl rfl) ?_
  refine (gclosedB_any A n c g D _ h hl hn hbad).mono ?_
  rintro e w1 ⟨rfl, hp⟩
  refine ⟨_, rfl, ?_⟩
  replace hI := hI.pure hp
  refine WL_val rfl rfl rfl (by first | exact rMoveT rfl rfl | exact rMove rfl) ?_
  refine WL_val rfl rfl rfl (rExtr rfl rfl rfl) ?_
  refine WL_val rfl rfl rfl (rExtr rfl rfl rfl) ?_
  refine WL_val rfl rfl rfl (by first | exact rAsgnS rfl rfl | exact rAsgn rfl) ?_
  refine WL_val rfl rfl rfl (by first | exact rAsgnN rfl rfl | exact rAsgnE rfl rfl | exact rAsgn rfl) ?_
  refine WL_nil ?_
  refine W_seq ?_
  refine W_seq ?_
  refine W_region ?_
  refine WL_val rfl rfl rfl (by first | exact rMoveN rfl rfl | exact rMoveE rfl rfl | exact rMove rfl) ?_
  refine WL_val rfl rfl rfl (by first | exact rIfaceNe rfl Tryd.underlying26 rfl rfl | exact rNilNe rfl Tryd.underlying26 rfl) ?_
  refine WL_nil ?_
  refine W_cond true rfl ?_
  refine W_seq ?_
  refine W_region ?_
  refine WL_val rfl rfl rfl (by first | exact rMoveN rfl rfl | exact rMoveE rfl rfl | exact rMove rfl) ?_
  refine WL_val rfl rfl rfl (by first | exact rAsgnS rfl rfl | exact rAsgn rfl) ?_
  refine WL_val rfl rfl rfl (by first | exact rAsgnN rfl rfl | exact rAsgnE rfl rfl | exact rAsgn rfl) ?_
  refine WL_nil ?_
  refine W_ret ?_
  exact ret2 2 3 (.inr rfl) rfl ⟨rfl, hI.pu⟩
end
def GroupsPost (w : World) (n : Nat) (f : Nat → Nat → Bool) (e : Ending) (w' : World) : Prop :=
  ∃ (gs : List Nat) (A : Option Addr) (c : Nat), gs.length = n ∧ (∀ (v l : Nat), gs[v]? = some l → GroupOf (closF n f) v l) ∧ e = .returned (.tuple #[.slice A n c, .nilIface]) ∧ w'.ownsRow w.heap.size 3 1 (.slice A n c) n (natV gs) ∧ Pure w w'
set_option maxHeartbeats 2000000 in
theorem groups_any (A : Option Addr) (n c : Nat) (f : Nat → Nat → Bool) (D : Nat → Prop) (w0 : World) (hG : SqG w0 D (.slice A n c) n f) (hn : n ≤ 40) :
    Calls Tryd.prog 14 #[.slice A n c] w0 (GroupsPost w0 n f) := by
  have hI := Inv.start (fun _ => False) w0
  refine calls_of_W (N := Tryd.f14.ntmps) Tryd.func14 rfl rfl rfl ?_
  refine W_seq ?_
  refine W_region ?_
  refine WL_val rfl rfl rfl (by first | exact rAsgnS rfl rfl | exact rAsgn rfl) ?_
  refine WL_val rfl rfl rfl (by first | exact rAsgnN rfl rfl | exact rAsgnE rfl rfl | exact rAsgn rfl) ?_
  refine WL_nil ?_
  refine W_seq ?_
  refine W_region ?_
  refine WL_val rfl rfl rfl (by first | exact rMoveS rfl rfl | exact rMove rfl) ?_
  refine WL_call rfl rfl rfl (rCall (vs := [.slice _ _ _]) rfl Tryd.func38 rfl rfl rfl) ?_
  refine (gclosed_any A c n f D _ hG hn).mono ?_
  rintro e w1 ⟨rfl, hM⟩
  refine ⟨_, rfl, ?_⟩
  have hC := hM.toSq (by omega)
  obtain ⟨_, _, _, hp⟩ := hM
  clear hI
  have hI : Inv (fun _ => False) w1 w1 [Row w1.heap.size 3 1 none 0 0 (natV [])] := (Inv.start (fun _ => False) w1).fresh (Pure.refl w1) (Row.nil w1 _ _ _) (fun k hk => by simp [Row] at hk)
  refine WL_val rfl rfl rfl (by first | exact rMoveT rfl rfl | exact rMove rfl) ?_
  refine WL_val rfl rfl rfl (rExtr rfl rfl rfl) ?_
  refine WL_val rfl rfl rfl (rExtr rfl rfl rfl) ?_
  refine WL_val rfl rfl rfl (by first | exact rAsgnS rfl rfl | exact rAsgn rfl) ?_
  refine WL_val rfl rfl rfl (by first | exact rAsgnN rfl rfl | exact rAsgnE rfl rfl | exact rAsgn rfl) ?_
  refine WL_nil ?_
  have hsz1 : w0.heap.size ≤ w1.heap.size := hp.size
  generalize hcf : closF n f = cf at hC
  refine W_seq ?_
  refine W_seq ?_
  refine W_region ?_
  refine WL_val rfl rfl rfl (by first | exact rMoveN rfl rfl | exact rMoveE rfl rfl | exact rMove rfl) ?_
  refine WL_val rfl rfl rfl (by first | exact rIfaceNe rfl Tryd.underlying26 rfl rfl | exact rNilNe rfl Tryd.underlying26 rfl) ?_
  refine WL_nil ?_
  refine W_cond false rfl ?_
  refine W_skip ?_
  refine W_seq ?_
  refine W_region ?_
  refine WL_val rfl rfl rfl (by first | exact rAsgnS rfl rfl | exact rAsgn rfl) ?_
  refine WL_nil ?_
  refine W_seq ?_
  refine W_seq ?_
  refine W_region ?_
  refine WL_val rfl rfl rfl (by first | exact rMoveS rfl rfl | exact rMove rfl) ?_
  refine WL_val rfl rfl rfl (rLen rfl Tryd.underlying29 rfl) ?_
  refine WL_val rfl rfl rfl (by first | exact rMoveI rfl rfl | exact rMove rfl) ?_
  refine WL_nil ?_
  refine W_block ?_
  refine W_loop (fun ρ w => ∃ (k : Nat) (gs : List Nat) (A' : Option Addr) (c' : Nat), k ≤ n ∧ gs.length = k ∧ (∀ (v l : Nat), gs[v]? = some l → GroupOf cf v l) ∧ Has ρ [(19, .int .i64 (k : Int)), (18, .int .i64 (n : Int)), (4, .slice (some ⟨w0.heap.size, 0, none⟩) n n), (6, .slice A' k c')] ∧ Inv (fun _ => False) w1 w [Row w1.heap.size 3 1 A' k c' (natV gs)]) (fun ρ _ => n - cnt (ρ 19))
    ⟨0, [], none, 0, by omega, rfl, fun v l h => by simp at h, ⟨rfl, rfl, rfl, rfl, trivial⟩, hI⟩ ?_
  clear hI
  rintro ρ w ⟨k, gs, A', c', hk, hgl, hgs, hH, hI⟩
  obtain ⟨σ, rfl⟩ := hH.open
  by_cases hkn : k < n
  · refine W_seq ?_
    refine W_region ?_
    refine WL_val rfl rfl rfl (by first | exact rLssT rfl rfl rfl (by omega) | exact rLssF rfl rfl rfl (by omega) | exact rLss rfl rfl rfl) ?_
    refine WL_nil ?_
    refine W_seq ?_
    refine W_cond true rfl ?_
    refine W_skip ?_
    refine W_seq ?_
    refine W_block ?_
    refine W_seq ?_
    refine W_region ?_
    refine WL_val rfl rfl rfl (by first | exact rMoveI rfl rfl | exact rMove rfl) ?_
    refine WL_val rfl rfl rfl (by first | exact rAsgnI rfl rfl | exact rAsgn rfl) ?_
    refine WL_nil ?_
    refine W_seq ?_
    refine W_region ?_
    refine WL_val rfl rfl rfl (by first | exact rAsgnI rfl rfl | exact rAsgn rfl) ?_
    refine WL_nil ?_
    refine W_seq_cut (fun ρ w => ∃ l : Nat, GroupOf cf k l ∧ Has ρ [(8, .int .i64 (l : Int)), (19, .int .i64 (k : Int)), (18, .int .i64 (n : Int)), (4, .slice (some ⟨w0.heap.size, 0, none⟩) n n), (6, .slice A' k c')] ∧ Inv (fun _ => False) w1 w [Row w1.heap.size 3 1 A' k c' (natV gs)]) ?_ ?_
    · refine W_block ?_
      refine W_loop (fun ρ w => ∃ l : Nat, l ≤ k ∧ (∀ u, u < l → mutB cf k u = false) ∧ Has ρ [(8, .int .i64 (l : Int)), (7, .int .i64 (k : Int)), (19, .int .i64 (k : Int)), (18, .int .i64 (n : Int)), (4, .slice (some ⟨w0.heap.size, 0, none⟩) n n), (6, .slice A' k c')] ∧ Inv (fun _ => False) w1 w [Row w1.heap.size 3 1 A' k c' (natV gs)]) (fun ρ _ => k - cnt (ρ 8))
        ⟨0, by omega, fun u hu => by omega, ⟨rfl, rfl, rfl, rfl, rfl, rfl, trivial⟩, hI⟩ ?_
      clear hI
      rintro ρ w ⟨l, hl, hno, hH, hI⟩
      obtain ⟨σ, rfl⟩ := hH.open
      by_cases hlk : l = k
      · refine W_seq ?_
        refine W_seq ?_
        refine W_region ?_
        refine WL_val rfl rfl rfl (by first | exact rMoveI rfl rfl | exact rMove rfl) ?_
        refine WL_val rfl rfl rfl (by first | exact rMoveI rfl rfl | exact rMove rfl) ?_
        refine WL_val rfl rfl rfl (by first | exact rNeqT rfl rfl rfl (by omega) | exact rNeqF rfl rfl rfl (by omega) | exact rNeq rfl rfl rfl) ?_
        refine WL_val rfl rfl rfl (by first | exact rMoveB rfl rfl | exact rMove rfl) ?_
        refine WL_skip rfl rfl rfl ?_
        refine WL_skip rfl rfl rfl ?_
        refine WL_skip rfl rfl rfl ?_
        refine WL_skip rfl rfl rfl ?_
        refine WL_skip rfl rfl rfl ?_
        refine WL_skip rfl rfl rfl ?_
        refine WL_skip rfl rfl rfl ?_
        refine WL_skip rfl rfl rfl ?_
        refine WL_skip rfl rfl rfl ?_
        refine WL_skip rfl rfl rfl ?_
        refine WL_skip rfl rfl rfl ?_
        refine WL_skip rfl rfl rfl ?_
        refine WL_skip rfl rfl rfl ?_
        refine WL_skip rfl rfl rfl ?_
        refine WL_skip rfl rfl rfl ?_
        refine WL_skip rfl rfl rfl ?_
        refine WL_skip rfl rfl rfl ?_
        refine WL_val rfl rfl rfl (by first | exact rPickTB rfl rfl rfl | exact rPickFB rfl rfl rfl | exact rPickB rfl rfl rfl rfl) ?_
        refine WL_nil ?_
        refine W_cond false rfl ?_
        refine W_exit ?_
        exact ⟨l, ⟨hl, .inl hlk, hno⟩, ⟨rfl, rfl, rfl, rfl, rfl, trivial⟩, hI⟩
      · obtain ⟨gb, go, hgo, _, hrow⟩ := hC.get (by omega)
        injection hgo with hgo
        injection hgo with e1 e2
        subst e1 e2
        obtain ⟨rb, ro, c2, q1, _, _, _, q4⟩ := hrow k hkn
        obtain ⟨rb2, ro2, c3, p1, _, _, _, p4⟩ := hrow l (by omega)
        have q5 := q4 l (by omega)
        have p5 := p4 k hkn
        rw [Nat.zero_add] at q1 p1
        cases h1 : cf k l with
        | false =>
          rw [h1] at q5
          refine W_seq ?_
          refine W_seq ?_
          refine W_region ?_
          refine WL_val rfl rfl rfl (by first | exact rMoveI rfl rfl | exact rMove rfl) ?_
          refine WL_val rfl rfl rfl (by first | exact rMoveI rfl rfl | exact rMove rfl) ?_
          refine WL_val rfl rfl rfl (by first | exact rNeqT rfl rfl rfl (by omega) | exact rNeqF rfl rfl rfl (by omega) | exact rNeq rfl rfl rfl) ?_
          refine WL_val rfl rfl rfl (by first | exact rMoveB rfl rfl | exact rMove rfl) ?_
          first | refine WL_val rfl rfl rfl (by first | exact rMoveS rfl rfl | exact rMove rfl) ?_ | refine WL_skip rfl rfl rfl ?_
          first | refine WL_val rfl rfl rfl (by first | exact rMoveI rfl rfl | exact rMove rfl) ?_ | refine WL_skip rfl rfl rfl ?_
          first | refine WL_val rfl rfl rfl (by first | exact rIdx0 rfl Tryd.underlying29 (by kernel_rfl) rfl rfl rfl (by omega) | exact rIdx1 rfl Tryd.underlying29 (by kernel_rfl) rfl rfl (by omega)) ?_ | refine WL_skip rfl rfl rfl ?_
          first | refine WL_val rfl rfl rfl (by first | exact rLd (v := .slice _ _ _) rfl (by kernel_rfl) rfl (by first | exact hI.oldp q1 | exact q1 | exact hI.oldp q5 | exact q5) | exact rLd rfl (by kernel_rfl) rfl (by first | exact hI.oldp q1 | exact q1 | exact hI.oldp q5 | exact q5)) ?_ | refine WL_skip rfl rfl rfl ?_
          first | refine WL_val rfl rfl rfl (by first | exact rMoveI rfl rfl | exact rMove rfl) ?_ | refine WL_skip rfl rfl rfl ?_
          first | refine WL_val rfl rfl rfl (by first | exact rIdx0 rfl Tryd.underlying23 (by kernel_rfl) rfl rfl rfl (by omega) | exact rIdx1 rfl Tryd.underlying23 (by kernel_rfl) rfl rfl (by omega)) ?_ | refine WL_skip rfl rfl rfl ?_
          first | refine WL_val rfl rfl rfl (by first | exact rLd (v := .bool _) rfl (by kernel_rfl) rfl (by first | exact hI.oldp q1 | exact q1 | exact hI.oldp q5 | exact q5) | exact rLd rfl (by kernel_rfl) rfl (by first | exact hI.oldp q1 | exact q1 | exact hI.oldp q5 | exact q5)) ?_ | refine WL_skip rfl rfl rfl ?_
          first | refine WL_val rfl rfl rfl (by first | exact rMoveB rfl rfl | exact rMove rfl) ?_ | refine WL_skip rfl rfl rfl ?_
          refine WL_skip rfl rfl rfl ?_
          refine WL_skip rfl rfl rfl ?_
          refine WL_skip rfl rfl rfl ?_
          refine WL_skip rfl rfl rfl ?_
          refine WL_skip rfl rfl rfl ?_
          refine WL_skip rfl rfl rfl ?_
          refine WL_skip rfl rfl rfl ?_
          first | refine WL_val rfl rfl rfl (by first | exact rPickTB rfl rfl rfl | exact rPickFB rfl rfl rfl | exact rPickB rfl rfl rfl rfl) ?_ | refine WL_skip rfl rfl rfl ?_
          first | refine WL_val rfl rfl rfl (by first | exact rNotT rfl rfl | exact rNotF rfl rfl | exact rNot rfl rfl) ?_ | refine WL_skip rfl rfl rfl ?_
          refine WL_val rfl rfl rfl (by first | exact rPickTB rfl rfl rfl | exact rPickFB rfl rfl rfl | exact rPickB rfl rfl rfl rfl) ?_
          refine WL_nil ?_
          refine W_cond true rfl ?_
          refine W_skip ?_
          refine W_block ?_
          refine W_region ?_
          refine WL_val rfl rfl rfl (by first | exact rMoveI rfl rfl | exact rMove rfl) ?_
          refine WL_val rfl rfl rfl (by first | exact rInc rfl rfl rfl (by omega) | exact rAdd rfl rfl rfl (by omega) | exact rAddW rfl rfl rfl) ?_
          refine WL_val rfl rfl rfl (by first | exact rAsgnI rfl rfl | exact rAsgn rfl) ?_
          refine WL_nil ?_
          refine ⟨⟨l + 1, by omega, fun u hu => ?_, ⟨rfl, rfl, rfl, rfl, rfl, rfl, trivial⟩, hI⟩, by show k - ((l + 1 : Nat) : Int).toNat < k - (l : Int).toNat; omega⟩
          rcases Nat.lt_or_ge u l with h | h
          · exact hno u h
          · have : u = l := by omega
            subst this; simp [mutB, h1]
        | true =>
          rw [h1] at q5
          cases h2 : cf l k with
          | false =>
            rw [h2] at p5
            refine W_seq ?_
            refine W_seq ?_
            refine W_region ?_
            refine WL_val rfl rfl rfl (by first | exact rMoveI rfl rfl | exact rMove rfl) ?_
            refine WL_val rfl rfl rfl (by first | exact rMoveI rfl rfl | exact rMove rfl) ?_
            refine WL_val rfl rfl rfl (by first | exact rNeqT rfl rfl rfl (by omega) | exact rNeqF rfl rfl rfl (by omega) | exact rNeq rfl rfl rfl) ?_
            refine WL_val rfl rfl rfl (by first | exact rMoveB rfl rfl | exact rMove rfl) ?_
            first | refine WL_val rfl rfl rfl (by first | exact rMoveS rfl rfl | exact rMove rfl) ?_ | refine WL_skip rfl rfl rfl ?_
            first | refine WL_val rfl rfl rfl (by first | exact rMoveI rfl rfl | exact rMove rfl) ?_ | refine WL_skip rfl rfl rfl ?_
            first | refine WL_val rfl rfl rfl (by first | exact rIdx0 rfl Tryd.underlying29 (by kernel_rfl) rfl rfl rfl (by omega) | exact rIdx1 rfl Tryd.underlying29 (by kernel_rfl) rfl rfl (by omega)) ?_ | refine WL_skip rfl rfl rfl ?_
            first | refine WL_val rfl rfl rfl (by first | exact rLd (v := .slice _ _ _) rfl (by kernel_rfl) rfl (by first | exact hI.oldp q1 | exact q1 | exact hI.oldp q5 | exact q5 | exact hI.oldp p1 | exact p1 | exact hI.oldp p5 | exact p5) | exact rLd rfl (by kernel_rfl) rfl (by first | exact hI.oldp q1 | exact q1 | exact hI.oldp q5 | exact q5 | exact hI.oldp p1 | exact p1 | exact hI.oldp p5 | exact p5)) ?_ | refine WL_skip rfl rfl rfl ?_
            first | refine WL_val rfl rfl rfl (by first | exact rMoveI rfl rfl | exact rMove rfl) ?_ | refine WL_skip rfl rfl rfl ?_
            first | refine WL_val rfl rfl rfl (by first | exact rIdx0 rfl Tryd.underlying23 (by kernel_rfl) rfl rfl rfl (by omega) | exact rIdx1 rfl Tryd.underlying23 (by kernel_rfl) rfl rfl (by omega)) ?_ | refine WL_skip rfl rfl rfl ?_
            first | refine WL_val rfl rfl rfl (by first | exact rLd (v := .bool _) rfl (by kernel_rfl) rfl (by first | exact hI.oldp q1 | exact q1 | exact hI.oldp q5 | exact q5 | exact hI.oldp p1 | exact p1 | exact hI.oldp p5 | exact p5) | exact rLd rfl (by kernel_rfl) rfl (by first | exact hI.oldp q1 | exact q1 | exact hI.oldp q5 | exact q5 | exact hI.oldp p1 | exact p1 | exact hI.oldp p5 | exact p5)) ?_ | refine WL_skip rfl rfl rfl ?_
            first | refine WL_val rfl rfl rfl (by first | exact rMoveB rfl rfl | exact rMove rfl) ?_ | refine WL_skip rfl rfl rfl ?_
            first | refine WL_val rfl rfl rfl (by first | exact rMoveS rfl rfl | exact rMove rfl) ?_ | refine WL_skip rfl rfl rfl ?_
            first | refine WL_val rfl rfl rfl (by first | exact rMoveI rfl rfl | exact rMove rfl) ?_ | refine WL_skip rfl rfl rfl ?_
            first | refine WL_val rfl rfl rfl (by first | exact rIdx0 rfl Tryd.underlying29 (by kernel_rfl) rfl rfl rfl (by omega) | exact rIdx1 rfl Tryd.underlying29 (by kernel_rfl) rfl rfl (by omega)) ?_ | refine WL_skip rfl rfl rfl ?_
            first | refine WL_val rfl rfl rfl (by first | exact rLd (v := .slice _ _ _) rfl (by kernel_rfl) rfl (by first | exact hI.oldp q1 | exact q1 | exact hI.oldp q5 | exact q5 | exact hI.oldp p1 | exact p1 | exact hI.oldp p5 | exact p5) | exact rLd rfl (by kernel_rfl) rfl (by first | exact hI.oldp q1 | exact q1 | exact hI.oldp q5 | exact q5 | exact hI.oldp p1 | exact p1 | exact hI.oldp p5 | exact p5)) ?_ | refine WL_skip rfl rfl rfl ?_
            first | refine WL_val rfl rfl rfl (by first | exact rMoveI rfl rfl | exact rMove rfl) ?_ | refine WL_skip rfl rfl rfl ?_
            first | refine WL_val rfl rfl rfl (by first | exact rIdx0 rfl Tryd.underlying23 (by kernel_rfl) rfl rfl rfl (by omega) | exact rIdx1 rfl Tryd.underlying23 (by kernel_rfl) rfl rfl (by omega)) ?_ | refine WL_skip rfl rfl rfl ?_
            first | refine WL_val rfl rfl rfl (by first | exact rLd (v := .bool _) rfl (by kernel_rfl) rfl (by first | exact hI.oldp q1 | exact q1 | exact hI.oldp q5 | exact q5 | exact hI.oldp p1 | exact p1 | exact hI.oldp p5 | exact p5) | exact rLd rfl (by kernel_rfl) rfl (by first | exact hI.oldp q1 | exact q1 | exact hI.oldp q5 | exact q5 | exact hI.oldp p1 | exact p1 | exact hI.oldp p5 | exact p5)) ?_ | refine WL_skip rfl rfl rfl ?_
            first | refine WL_val rfl rfl rfl (by first | exact rPickTB rfl rfl rfl | exact rPickFB rfl rfl rfl | exact rPickB rfl rfl rfl rfl) ?_ | refine WL_skip rfl rfl rfl ?_
            first | refine WL_val rfl rfl rfl (by first | exact rNotT rfl rfl | exact rNotF rfl rfl | exact rNot rfl rfl) ?_ | refine WL_skip rfl rfl rfl ?_
            refine WL_val rfl rfl rfl (by first | exact rPickTB rfl rfl rfl | exact rPickFB rfl rfl rfl | exact rPickB rfl rfl rfl rfl) ?_
            refine WL_nil ?_
            refine W_cond true rfl ?_
            refine W_skip ?_
            refine W_block ?_
            refine W_region ?_
            refine WL_val rfl rfl rfl (by first | exact rMoveI rfl rfl | exact rMove rfl) ?_
            refine WL_val rfl rfl rfl (by first | exact rInc rfl rfl rfl (by omega) | exact rAdd rfl rfl rfl (by omega) | exact rAddW rfl rfl rfl) ?_
            refine WL_val rfl rfl rfl (by first | exact rAsgnI rfl rfl | exact rAsgn rfl) ?_
            refine WL_nil ?_
            refine ⟨⟨l + 1, by omega, fun u hu => ?_, ⟨rfl, rfl, rfl, rfl, rfl, rfl, trivial⟩, hI⟩, by show k - ((l + 1 : Nat) : Int).toNat < k - (l : Int).toNat; omega⟩
            rcases Nat.lt_or_ge u l with h | h
            · exact hno u h
            · have : u = l := by omega
              subst this; simp [mutB, h1, h2]
          | true =>
            rw [h2] at p5
            refine W_seq ?_
            refine W_seq ?_
            refine W_region ?_
            refine WL_val rfl rfl rfl (by first | exact rMoveI rfl rfl | exact rMove rfl) ?_
            refine WL_val rfl rfl rfl (by first | exact rMoveI rfl rfl | exact rMove rfl) ?_
            refine WL_val rfl rfl rfl (by first | exact rNeqT rfl rfl rfl (by omega) | exact rNeqF rfl rfl rfl (by omega) | exact rNeq rfl rfl rfl) ?_
            refine WL_val rfl rfl rfl (by first | exact rMoveB rfl rfl | exact rMove rfl) ?_
            first | refine WL_val rfl rfl rfl (by first | exact rMoveS rfl rfl | exact rMove rfl) ?_ | refine WL_skip rfl rfl rfl ?_
            first | refine WL_val rfl rfl rfl (by first | exact rMoveI rfl rfl | exact rMove rfl) ?_ | refine WL_skip rfl rfl rfl ?_
            first | refine WL_val rfl rfl rfl (by first | exact rIdx0 rfl Tryd.underlying29 (by kernel_rfl) rfl rfl rfl (by omega) | exact rIdx1 rfl Tryd.underlying29 (by kernel_rfl) rfl rfl (by omega)) ?_ | refine WL_skip rfl rfl rfl ?_
            first | refine WL_val rfl rfl rfl (by first | exact rLd (v := .slice _ _ _) rfl (by kernel_rfl) rfl (by first | exact hI.oldp q1 | exact q1 | exact hI.oldp q5 | exact q5 | exact hI.oldp p1 | exact p1 | exact hI.oldp p5 | exact p5) | exact rLd rfl (by kernel_rfl) rfl (by first | exact hI.oldp q1 | exact q1 | exact hI.oldp q5 | exact q5 | exact hI.oldp p1 | exact p1 | exact hI.oldp p5 | exact p5)) ?_ | refine WL_skip rfl rfl rfl ?_
            first | refine WL_val rfl rfl rfl (by first | exact rMoveI rfl rfl | exact rMove rfl) ?_ | refine WL_skip rfl rfl rfl ?_
            first | refine WL_val rfl rfl rfl (by first | exact rIdx0 rfl Tryd.underlying23 (by kernel_rfl) rfl rfl rfl (by omega) | exact rIdx1 rfl Tryd.underlying23 (by kernel_rfl) rfl rfl (by omega)) ?_ | refine WL_skip rfl rfl rfl ?_
            first | refine WL_val rfl rfl rfl (by first | exact rLd (v := .bool _) rfl (by kernel_rfl) rfl (by first | exact hI.oldp q1 | exact q1 | exact hI.oldp q5 | exact q5 | exact hI.oldp p1 | exact p1 | exact hI.oldp p5 | exact p5) | exact rLd rfl (by kernel_rfl) rfl (by first | exact hI.oldp q1 | exact q1 | exact hI.oldp q5 | exact q5 | exact hI.oldp p1 | exact p1 | exact hI.oldp p5 | exact p5)) ?_ | refine WL_skip rfl rfl rfl ?_
            first | refine WL_val rfl rfl rfl (by first | exact rMoveB rfl rfl | exact rMove rfl) ?_ | refine WL_skip rfl rfl rfl ?_
            first | refine WL_val rfl rfl rfl (by first | exact rMoveS rfl rfl | exact rMove rfl) ?_ | refine WL_skip rfl rfl rfl ?_
            first | refine WL_val rfl rfl rfl (by first | exact rMoveI rfl rfl | exact rMove rfl) ?_ | refine WL_skip rfl rfl rfl ?_
            first | refine WL_val rfl rfl rfl (by first | exact rIdx0 rfl Tryd.underlying29 (by kernel_rfl) rfl rfl rfl (by omega) | exact rIdx1 rfl Tryd.underlying29 (by kernel_rfl) rfl rfl (by omega)) ?_ | refine WL_skip rfl rfl rfl ?_
            first | refine WL_val rfl rfl rfl (by first | exact rLd (v := .slice _ _ _) rfl (by kernel_rfl) rfl (by first | exact hI.oldp q1 | exact q1 | exact hI.oldp q5 | exact q5 | exact hI.oldp p1 | exact p1 | exact hI.oldp p5 | exact p5) | exact rLd rfl (by kernel_rfl) rfl (by first | exact hI.oldp q1 | exact q1 | exact hI.oldp q5 | exact q5 | exact hI.oldp p1 | exact p1 | exact hI.oldp p5 | exact p5)) ?_ | refine WL_skip rfl rfl rfl ?_
            first | refine WL_val rfl rfl rfl (by first | exact rMoveI rfl rfl | exact rMove rfl) ?_ | refine WL_skip rfl rfl rfl ?_
            first | refine WL_val rfl rfl rfl (by first | exact rIdx0 rfl Tryd.underlying23 (by kernel_rfl) rfl rfl rfl (by omega) | exact rIdx1 rfl Tryd.underlying23 (by kernel_rfl) rfl rfl (by omega)) ?_ | refine WL_skip rfl rfl rfl ?_
            first | refine WL_val rfl rfl rfl (by first | exact rLd (v := .bool _) rfl (by kernel_rfl) rfl (by first | exact hI.oldp q1 | exact q1 | exact hI.oldp q5 | exact q5 | exact hI.oldp p1 | exact p1 | exact hI.oldp p5 | exact p5) | exact rLd rfl (by kernel_rfl) rfl (by first | exact hI.oldp q1 | exact q1 | exact hI.oldp q5 | exact q5 | exact hI.oldp p1 | exact p1 | exact hI.oldp p5 | exact p5)) ?_ | refine WL_skip rfl rfl rfl ?_
            first | refine WL_val rfl rfl rfl (by first | exact rPickTB rfl rfl rfl | exact rPickFB rfl rfl rfl | exact rPickB rfl rfl rfl rfl) ?_ | refine WL_skip rfl rfl rfl ?_
            first | refine WL_val rfl rfl rfl (by first | exact rNotT rfl rfl | exact rNotF rfl rfl | exact rNot rfl rfl) ?_ | refine WL_skip rfl rfl rfl ?_
            refine WL_val rfl rfl rfl (by first | exact rPickTB rfl rfl rfl | exact rPickFB rfl rfl rfl | exact rPickB rfl rfl rfl rfl) ?_
            refine WL_nil ?_
            refine W_cond false rfl ?_
            refine W_exit ?_
            exact ⟨l, ⟨hl, .inr (by simp [mutB, h1, h2]), hno⟩, ⟨rfl, rfl, rfl, rfl, rfl, trivial⟩, hI⟩
    · clear hI
      rintro ρ w ⟨l, hgo, hH, hI⟩
      obtain ⟨σ, rfl⟩ := hH.open
      have hlk := hgo.1
      refine W_region ?_
      refine WL_val rfl rfl rfl (by first | exact rMoveS rfl rfl | exact rMove rfl) ?_
      refine WL_val rfl rfl rfl (by first | exact rMoveI rfl rfl | exact rMove rfl) ?_
      refine WL_lit (vs := [_]) (qs := [(0, .int .i64 _)]) [.int .i64 0] [0] hI rfl rfl rfl rfl rfl rfl Tryd.underlying24 (fun _ => by kernel_rfl) ?_
      clear hI; rintro b48 w - - hI
      -- STOP: call ['Op.call', ('st', {'callee': ['Callee.builtin', 'Builtin.append'], 'args': ('arr', [['Operand.tmp', '46'], ['Operand.tmp', '48']]), 'argTypes': ('arr
      have hsz : w1.heap.size ≤ w.heap.size := hI.chg.size
      refine WL_app1 (z := .int .i64 0) (by_ := 8) (news := [.int .i64 ((l : Nat) : Int)]) hI rfl rfl rfl rfl rfl rfl Tryd.underlying24 (by kernel_rfl) rfl (by omega) rfl (fun i u hi => by match i, hi with | 0, hi => cases hi; exact hI.c0 rfl) rfl (by omega) (by omega) (by omega) ?_
      clear hI; rintro A2 c2 w hc1 hc2 hI
      refine WL_val rfl rfl rfl (by first | exact rAsgnS rfl rfl | exact rAsgn rfl) ?_
      refine WL_nil ?_
      replace hI := hI.d0
      refine W_region ?_
      refine WL_val rfl rfl rfl (by first | exact rInc rfl rfl rfl (by omega) | exact rAdd rfl rfl rfl (by omega) | exact rAddW rfl rfl rfl) ?_
      refine WL_val rfl rfl rfl (by first | exact rMoveI rfl rfl | exact rMove rfl) ?_
      refine WL_nil ?_
      have e2 : natV (gs ++ [l]) = natV gs ++ [.int .i64 ((l : Nat) : Int)] := by simp [natV]
      refine ⟨⟨k + 1, gs ++ [l], A2, c2, by omega, by simp [hgl], fun v x hv => ?_, ⟨rfl, rfl, rfl, rfl, trivial⟩, by rw [e2]; exact hI⟩, by show n - ((k + 1 : Nat) : Int).toNat < n - (k : Int).toNat; omega⟩
      rcases Nat.lt_or_ge v gs.length with h | h
      · rw [List.getElem?_append_left h] at hv
        exact hgs v x hv
      · have hlt := (List.getElem?_eq_some_iff.1 hv).1
        simp at hlt
        have hvk : v = gs.length := by omega
        subst hvk
        rw [List.getElem?_append_right (Nat.le_refl _), Nat.sub_self] at hv
        simp at hv
        subst hv
        rw [hgl]; exact hgo
  · obtain rfl : k = n := by omega
    refine W_seq ?_
    refine W_region ?_
    refine WL_val rfl rfl rfl (by first | exact rLssT rfl rfl rfl (by omega) | exact rLssF rfl rfl rfl (by omega) | exact rLss rfl rfl rfl) ?_
    refine WL_nil ?_
    refine W_seq ?_
    refine W_cond false rfl ?_
    refine W_exit ?_
    refine W_seq ?_
    refine W_region ?_
    refine WL_val rfl rfl rfl (by first | exact rMoveS rfl rfl | exact rMove rfl) ?_
    refine WL_val rfl rfl rfl (by first | exact rAsgnS rfl rfl | exact rAsgn rfl) ?_
    refine WL_val rfl rfl rfl (by first | exact rAsgnN rfl rfl | exact rAsgnE rfl rfl | exact rAsgn rfl) ?_
    refine WL_nil ?_
    refine W_ret ?_
    refine ret2 2 3 (.inr rfl) rfl ⟨gs, A', c', hgl, by rw [hcf]; exact hgs, rfl, own_base hI.g0 hsz1, Pure.trans hp hI.pu⟩
end Go.Proofs.YtmgadfmoaffdiaaDoor
