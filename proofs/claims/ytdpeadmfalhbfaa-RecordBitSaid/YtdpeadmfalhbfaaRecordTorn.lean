/- testimonykeep: RecordTorn. -/
import Derived.Test.YtdpeadmfalhbfaaRec11
namespace Go.Proofs.Ytdpeadmfalhbfaa
open Go.RowKit
set_option linter.unusedVariables false
set_option linter.unusedSimpArgs false

theorem evsV_take : ∀ (es : List Ev) (k : Nat), (evsV es).take (k * 7) = evsV (es.take k)
  | [], k => by simp [evsV]
  | e :: es, 0 => by simp [evsV]
  | e :: es, k + 1 => by
    show (evL e ++ evsV es).take ((k + 1) * 7) = evL e ++ evsV (es.take k)
    have hl : (evL e).length = 7 := rfl
    rw [List.take_append, List.take_of_length_le (by omega), hl, show (k + 1) * 7 - 7 = k * 7 from by omega, evsV_take es k]
theorem Evs.take {w : World} {D : Nat → Prop} {A : Option Addr} {c k : Nat} {es : List Ev} (h : Evs w D (.slice A es.length c) es) (hk : k ≤ es.length) : Evs w D (.slice A k c) (es.take k) := by
  have h1 : es.length ≤ c := by
    obtain ⟨_, _, hv, h1, _⟩ := Rd.form h
    injection hv with _ _ hv
    omega
  have := Rd.take (w := w) (D := D) (size := 7) h hk (c' := c) (by omega) (Nat.le_refl _)
  unfold Evs
  rw [← evsV_take, List.length_take, Nat.min_eq_left hk]
  exact this
theorem frames_take {all : List Ev} {k : Nat} : (frames all).take (frames (all.take k)).length = frames (all.take k) := by
  conv => lhs; arg 2; rw [← List.take_append_drop k all, frames_append]
  rw [List.take_left']
  rfl
theorem frames_take_le (all : List Ev) (k : Nat) : (frames (all.take k)).length ≤ (frames all).length := by
  conv => rhs; rw [← List.take_append_drop k all, frames_append, List.length_append]
  omega
set_option maxHeartbeats 2000000 in
theorem torn_any (A B C : Option Addr) (n c m d q r : Nat) (es : List Ev) (bs : List Bool) (torn : List Nat) (D D' D2 : Nat → Prop) (w0 : World) (h : Evs w0 D (.slice A n c) es) (hn : es.length = n) (h' : Bls w0 D' (.slice B m d) bs) (hm : bs.length = m) (ht : Bts w0 D2 (.slice C q r) torn) (hq : torn.length = q) (htb : ∀ x ∈ torn, x < 256) (hD2 : ∀ k, D2 k → k < w0.heap.size) :
    Calls Try.prog 3 #[.slice A n c, .slice B m d, .slice C q r] w0 fun en w' => en = .returned (.bool true) ∧ Pure w0 w' := by
  subst hn hm hq
  have hI := Inv.start (fun _ => False) w0
  refine calls_of_W (N := Try.f3.ntmps) Try.func3 rfl rfl rfl ?_
  refine W_seq ?_
  refine W_region ?_
  refine WL_val rfl rfl rfl (by first | exact rAsgnB rfl rfl | exact rAsgn rfl) ?_
  refine WL_nil ?_
  by_cases h60 : es.length > 60
  · refine W_seq ?_
    refine W_seq ?_
    refine W_region ?_
    refine WL_val rfl rfl rfl (by first | exact rMoveS rfl rfl | exact rMove rfl) ?_
    refine WL_val rfl rfl rfl (rLen rfl Try.underlying22 rfl) ?_
    refine WL_val rfl rfl rfl (by first | exact rGtrT rfl rfl rfl (by omega) | exact rGtrF rfl rfl rfl (by omega) | exact rGtr rfl rfl rfl) ?_
    refine WL_val rfl rfl rfl (by first | exact rMoveB rfl rfl | exact rMove rfl) ?_
    refine WL_skip rfl rfl rfl ?_
    refine WL_skip rfl rfl rfl ?_
    refine WL_skip rfl rfl rfl ?_
    refine WL_val rfl rfl rfl (by first | exact rPickTB rfl rfl rfl | exact rPickFB rfl rfl rfl | exact rPickB rfl rfl rfl rfl) ?_
    refine WL_nil ?_
    refine W_cond true rfl ?_
    refine W_seq ?_
    refine W_region ?_
    refine WL_val rfl rfl rfl (by first | exact rAsgnB rfl rfl | exact rAsgn rfl) ?_
    refine WL_nil ?_
    refine W_ret ?_
    exact ret1 6 (.inr rfl) rfl ⟨rfl, hI.pu⟩
  by_cases h200 : torn.length > 200
  · refine W_seq ?_
    refine W_seq ?_
    refine W_region ?_
    refine WL_val rfl rfl rfl (by first | exact rMoveS rfl rfl | exact rMove rfl) ?_
    refine WL_val rfl rfl rfl (rLen rfl Try.underlying22 rfl) ?_
    refine WL_val rfl rfl rfl (by first | exact rGtrT rfl rfl rfl (by omega) | exact rGtrF rfl rfl rfl (by omega) | exact rGtr rfl rfl rfl) ?_
    refine WL_val rfl rfl rfl (by first | exact rMoveB rfl rfl | exact rMove rfl) ?_
    first | refine WL_val rfl rfl rfl (by first | exact rMoveS rfl rfl | exact rMove rfl) ?_ | refine WL_skip rfl rfl rfl ?_
    first | refine WL_val rfl rfl rfl (rLen rfl Try.underlying24 rfl) ?_ | refine WL_skip rfl rfl rfl ?_
    first | refine WL_val rfl rfl rfl (by first | exact rGtrT rfl rfl rfl (by omega) | exact rGtrF rfl rfl rfl (by omega) | exact rGtr rfl rfl rfl) ?_ | refine WL_skip rfl rfl rfl ?_
    refine WL_val rfl rfl rfl (by first | exact rPickTB rfl rfl rfl | exact rPickFB rfl rfl rfl | exact rPickB rfl rfl rfl rfl) ?_
    refine WL_nil ?_
    refine W_cond true rfl ?_
    refine W_seq ?_
    refine W_region ?_
    refine WL_val rfl rfl rfl (by first | exact rAsgnB rfl rfl | exact rAsgn rfl) ?_
    refine WL_nil ?_
    refine W_ret ?_
    exact ret1 6 (.inr rfl) rfl ⟨rfl, hI.pu⟩
  refine W_seq ?_
  refine W_seq ?_
  refine W_region ?_
  refine WL_val rfl rfl rfl (by first | exact rMoveS rfl rfl | exact rMove rfl) ?_
  refine WL_val rfl rfl rfl (rLen rfl Try.underlying22 rfl) ?_
  refine WL_val rfl rfl rfl (by first | exact rGtrT rfl rfl rfl (by omega) | exact rGtrF rfl rfl rfl (by omega) | exact rGtr rfl rfl rfl) ?_
  refine WL_val rfl rfl rfl (by first | exact rMoveB rfl rfl | exact rMove rfl) ?_
  first | refine WL_val rfl rfl rfl (by first | exact rMoveS rfl rfl | exact rMove rfl) ?_ | refine WL_skip rfl rfl rfl ?_
  first | refine WL_val rfl rfl rfl (rLen rfl Try.underlying24 rfl) ?_ | refine WL_skip rfl rfl rfl ?_
  first | refine WL_val rfl rfl rfl (by first | exact rGtrT rfl rfl rfl (by omega) | exact rGtrF rfl rfl rfl (by omega) | exact rGtr rfl rfl rfl) ?_ | refine WL_skip rfl rfl rfl ?_
  refine WL_val rfl rfl rfl (by first | exact rPickTB rfl rfl rfl | exact rPickFB rfl rfl rfl | exact rPickB rfl rfl rfl rfl) ?_
  refine WL_nil ?_
  refine W_cond false rfl ?_
  refine W_skip ?_
  refine W_seq ?_
  refine W_region ?_
  refine WL_val rfl rfl rfl (by first | exact rMoveS rfl rfl | exact rMove rfl) ?_
  refine WL_val rfl rfl rfl (by first | exact rMoveS rfl rfl | exact rMove rfl) ?_
  refine WL_call rfl rfl rfl (rCall (vs := [.slice _ _ _, .slice _ _ _]) rfl Try.func8 rfl rfl rfl) ?_
  refine (logged_any A B _ c _ d es bs D D' _ h rfl h' rfl (by omega)).mono ?_
  rintro en w1 ⟨lg, A1, c1, A2, c2, all, sure, rfl, hok, hsu, hal, hc2, hI⟩
  refine ⟨_, rfl, ?_⟩
  have hfl := frames_len all
  have hft := frames_take_le all sure
  refine WL_val rfl rfl rfl (by first | exact rMoveT rfl rfl | exact rMove rfl) ?_
  refine WL_val rfl rfl rfl (rExtr rfl rfl rfl) ?_
  refine WL_val rfl rfl rfl (rExtr rfl rfl rfl) ?_
  refine WL_val rfl rfl rfl (rExtr rfl rfl rfl) ?_
  refine WL_val rfl rfl rfl (by first | exact rAsgnP rfl rfl | exact rAsgn rfl) ?_
  refine WL_val rfl rfl rfl (by first | exact rAsgnS rfl rfl | exact rAsgn rfl) ?_
  refine WL_val rfl rfl rfl (by first | exact rAsgnI rfl rfl | exact rAsgn rfl) ?_
  refine WL_nil ?_
  refine W_seq ?_
  refine W_region ?_
  refine WL_val rfl rfl rfl (by first | exact rMoveP rfl rfl | exact rMove rfl) ?_
  refine WL_val rfl rfl rfl (by first | exact rMoveS rfl rfl | exact rMove rfl) ?_
  refine WL_call rfl rfl rfl (rCall (vs := [.pointer _, .int .i64 _, .slice _ _ _]) rfl Try.func9 rfl rfl rfl) ?_
  refine (crash_any lg A1 c1 (frames all) _ _ 0 C _ r torn D2 _ hI.g1 (by omega) (by omega) (ht.pure hI.pu) rfl (by omega)).mono ?_
  rintro en w2 ⟨v, rfl, hp, A3, c3, rfl, hown⟩
  refine ⟨_, rfl, ?_⟩
  replace hI := hI.pure hp
  rw [Nat.add_zero, frames_take] at *
  have hb := NewB.bts hown
  have hrec := recA_frames (all.take sure) torn (fun e he => hok e (List.mem_of_mem_take he))
  have hXb : ∀ x ∈ frames (all.take sure) ++ torn, x < 256 := by
    intro x hx
    rcases List.mem_append.1 hx with hx | hx
    · exact frames_byte (fun e he => hok e (List.mem_of_mem_take he)) x hx
    · exact htb x hx
  have hXl : (frames (all.take sure) ++ torn).length < 1000000 := by rw [List.length_append]; omega
  generalize frames (all.take sure) ++ torn = X at *
  refine WL_val rfl rfl rfl (by first | exact rMoveT rfl rfl | exact rMove rfl) ?_
  refine WL_val rfl rfl rfl (rExtr rfl rfl rfl) ?_
  refine WL_val rfl rfl rfl (rExtr rfl rfl rfl) ?_
  refine WL_val rfl rfl rfl (by first | exact rAsgnS rfl rfl | exact rAsgn rfl) ?_
  refine WL_val rfl rfl rfl (by first | exact rAsgnN rfl rfl | exact rAsgnE rfl rfl | exact rAsgn rfl) ?_
  refine WL_nil ?_
  refine W_seq ?_
  refine W_region ?_
  refine WL_val rfl rfl rfl (by first | exact rMoveS rfl rfl | exact rMove rfl) ?_
  refine WL_call rfl rfl rfl (rCall (vs := [.slice _ _ _]) rfl Try.func10 rfl rfl rfl) ?_
  refine (recover_any A3 _ c3 X _ _ hb rfl hXb hXl (fun k hk => hk)).mono ?_
  rintro en w3 ⟨hp3, A4, c4, rfl, hes⟩
  refine ⟨_, rfl, ?_⟩
  replace hI := hI.pure hp3
  have hG : (recA X).1 = all.take sure ++ (recA torn).1 := by rw [hrec]
  have hGl : sure ≤ (recA X).1.length := by rw [hG, List.length_append, List.length_take]; omega
  have he : Evs w3 (fun _ => True) (.slice A4 (recA X).1.length c4) (recA X).1 := Rd.of_own hes (fun _ _ _ => trivial)
  have he2 : Evs w3 (fun _ => True) (.slice A2 sure c2) (all.take sure) := Evs.take (Rd.of_own hI.g0 (fun _ _ _ => trivial)) hsu
  generalize (recA X).1 = G at *
  generalize (recA X).2 = at_ at *
  refine WL_val rfl rfl rfl (by first | exact rMoveT rfl rfl | exact rMove rfl) ?_
  refine WL_val rfl rfl rfl (rExtr rfl rfl rfl) ?_
  refine WL_val rfl rfl rfl (rExtr rfl rfl rfl) ?_
  refine WL_val rfl rfl rfl (by first | exact rAsgnS rfl rfl | exact rAsgn rfl) ?_
  refine WL_val rfl rfl rfl (by first | exact rAsgnI rfl rfl | exact rAsgn rfl) ?_
  refine WL_nil ?_
  refine W_seq ?_
  refine W_region ?_
  refine WL_call rfl rfl rfl (rCall (vs := []) rfl Try.func11 rfl rfl rfl) ?_
  refine (kept_any _).mono ?_
  rintro en w4 ⟨rfl, hp4⟩
  refine ⟨_, rfl, ?_⟩
  replace hI := hI.pure hp4
  refine WL_val rfl rfl rfl (by first | exact rMoveB rfl rfl | exact rMove rfl) ?_
  first | refine WL_val rfl rfl rfl (by first | exact rMoveN rfl rfl | exact rMoveE rfl rfl | exact rMove rfl) ?_ | refine WL_skip rfl rfl rfl ?_
  first | refine WL_val rfl rfl rfl (by first | exact rIfaceEq rfl Try.underlying29 rfl rfl | exact rNilEq rfl Try.underlying29 rfl) ?_ | refine WL_skip rfl rfl rfl ?_
  refine WL_val rfl rfl rfl (by first | exact rPickTB rfl rfl rfl | exact rPickFB rfl rfl rfl | exact rPickB rfl rfl rfl rfl) ?_
  refine WL_val rfl rfl rfl (by first | exact rMoveB rfl rfl | exact rMove rfl) ?_
  first | refine WL_val rfl rfl rfl (by first | exact rMoveS rfl rfl | exact rMove rfl) ?_ | refine WL_skip rfl rfl rfl ?_
  first | refine WL_val rfl rfl rfl (rLen rfl Try.underlying22 rfl) ?_ | refine WL_skip rfl rfl rfl ?_
  first | refine WL_val rfl rfl rfl (by first | exact rMoveI rfl rfl | exact rMove rfl) ?_ | refine WL_skip rfl rfl rfl ?_
  first | refine WL_val rfl rfl rfl (by first | exact rGeqT rfl rfl rfl (by omega) | exact rGeqF rfl rfl rfl (by omega) | exact rGeq rfl rfl rfl) ?_ | refine WL_skip rfl rfl rfl ?_
  refine WL_val rfl rfl rfl (by first | exact rPickTB rfl rfl rfl | exact rPickFB rfl rfl rfl | exact rPickB rfl rfl rfl rfl) ?_
  refine WL_val rfl rfl rfl (by first | exact rMoveB rfl rfl | exact rMove rfl) ?_
  first | refine WL_val rfl rfl rfl (by first | exact rMoveS rfl rfl | exact rMove rfl) ?_ | refine WL_skip rfl rfl rfl ?_
  first | refine WL_val rfl rfl rfl (by first | exact rMoveI rfl rfl | exact rMove rfl) ?_ | refine WL_skip rfl rfl rfl ?_
  first | refine WL_val rfl rfl rfl (rSliceTo (sz := 7) rfl Try.underlying22 (by kernel_rfl) rfl rfl (by omega)) ?_ | refine WL_skip rfl rfl rfl ?_
  first | refine WL_val rfl rfl rfl (by first | exact rMoveS rfl rfl | exact rMove rfl) ?_ | refine WL_skip rfl rfl rfl ?_
  refine WL_call rfl rfl rfl (rCall (vs := [.slice _ _ _, .slice _ _ _]) rfl Try.func12 rfl rfl rfl) ?_
  refine (begins_any A2 A4 sure c2 _ c4 (all.take sure) G _ _ _ (he2.pure hp4) (he.pure hp4) (by rw [List.length_take]; omega) rfl (by omega)).mono ?_
  rintro en w5 ⟨rfl, hp5⟩
  refine ⟨_, rfl, ?_⟩
  have hbeg : begF (all.take sure) G = true := decide_eq_true ⟨_, hG.symm⟩
  rw [hbeg]
  replace hI := hI.pure hp5
  refine WL_val rfl rfl rfl (by first | exact rPickTB rfl rfl rfl | exact rPickFB rfl rfl rfl | exact rPickB rfl rfl rfl rfl) ?_
  refine WL_val rfl rfl rfl (by first | exact rAsgnB rfl rfl | exact rAsgn rfl) ?_
  refine WL_nil ?_
  refine W_ret ?_
  exact ret1 6 (.inr rfl) rfl ⟨rfl, hI.pu⟩
end Go.Proofs.Ytdpeadmfalhbfaa
