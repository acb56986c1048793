/- testimonykeep: RecordCrash. -/
import Derived.Test.YtdpeadmfalhbfaaRecordTorn
namespace Go.Proofs.Ytdpeadmfalhbfaa
open Go.RowKit
set_option linter.unusedVariables false
set_option linter.unusedSimpArgs false

set_option maxHeartbeats 2000000 in
theorem crashlaw_any (A B : Option Addr) (n c m d : Nat) (es : List Ev) (bs : List Bool) (keep : Int) (D D' : Nat → Prop) (w0 : World) (h : Evs w0 D (.slice A n c) es) (hn : es.length = n) (h' : Bls w0 D' (.slice B m d) bs) (hm : bs.length = m) :
    Calls Try.prog 6 #[.slice A n c, .slice B m d, .int .i64 keep] w0 fun en w' => en = .returned (.bool true) ∧ Pure w0 w' := by
  subst hn hm
  have hI := Inv.start (fun _ => False) w0
  refine calls_of_W (N := Try.f6.ntmps) Try.func6 rfl rfl rfl ?_
  refine W_seq ?_
  refine W_region ?_
  refine WL_val rfl rfl rfl (by first | exact rAsgnB rfl rfl | exact rAsgn rfl) ?_
  refine WL_nil ?_
  by_cases h60 : es.length > 60
  · refine W_seq ?_
    refine W_seq ?_
    refine W_region ?_
    refine WL_val rfl rfl rfl (by first | exact rMoveS rfl rfl | exact rMove rfl) ?_
    refine WL_val rfl rfl rfl (rLen rfl Try.underlying22 rfl) ?_
    refine WL_val rfl rfl rfl (by first | exact rGtrT rfl rfl rfl (by omega) | exact rGtrF rfl rfl rfl (by omega) | exact rGtr rfl rfl rfl) ?_
    refine WL_nil ?_
    refine W_cond true rfl ?_
    refine W_seq ?_
    refine W_region ?_
    refine WL_val rfl rfl rfl (by first | exact rAsgnB rfl rfl | exact rAsgn rfl) ?_
    refine WL_nil ?_
    refine W_ret ?_
    exact ret1 6 (.inr rfl) rfl ⟨rfl, hI.pu⟩
  refine W_seq ?_
  refine W_seq ?_
  refine W_region ?_
  refine WL_val rfl rfl rfl (by first | exact rMoveS rfl rfl | exact rMove rfl) ?_
  refine WL_val rfl rfl rfl (rLen rfl Try.underlying22 rfl) ?_
  refine WL_val rfl rfl rfl (by first | exact rGtrT rfl rfl rfl (by omega) | exact rGtrF rfl rfl rfl (by omega) | exact rGtr rfl rfl rfl) ?_
  refine WL_nil ?_
  refine W_cond false rfl ?_
  refine W_skip ?_
  refine W_seq ?_
  refine W_region ?_
  refine WL_val rfl rfl rfl (by first | exact rMoveS rfl rfl | exact rMove rfl) ?_
  refine WL_val rfl rfl rfl (by first | exact rMoveS rfl rfl | exact rMove rfl) ?_
  refine WL_call rfl rfl rfl (rCall (vs := [.slice _ _ _, .slice _ _ _]) rfl Try.func8 rfl rfl rfl) ?_
  refine (logged_any A B _ c _ d es bs D D' _ h rfl h' rfl (by omega)).mono ?_
  rintro en w1 ⟨lg, A1, c1, A2, c2, all, sure, rfl, hok, hsu, hal, hc2, hI⟩
  refine ⟨_, rfl, ?_⟩
  have hfl := frames_len all
  have hft := frames_take_le all sure
  refine WL_val rfl rfl rfl (by first | exact rMoveT rfl rfl | exact rMove rfl) ?_
  refine WL_val rfl rfl rfl (rExtr rfl rfl rfl) ?_
  refine WL_val rfl rfl rfl (rExtr rfl rfl rfl) ?_
  refine WL_val rfl rfl rfl (rExtr rfl rfl rfl) ?_
  refine WL_val rfl rfl rfl (by first | exact rAsgnP rfl rfl | exact rAsgn rfl) ?_
  refine WL_val rfl rfl rfl (by first | exact rAsgnS rfl rfl | exact rAsgn rfl) ?_
  refine WL_val rfl rfl rfl (by first | exact rAsgnI rfl rfl | exact rAsgn rfl) ?_
  refine WL_nil ?_
  refine W_seq ?_
  refine W_region ?_
  refine WL_val rfl rfl rfl (by first | exact rMoveP rfl rfl | exact rMove rfl) ?_
  refine WL_call rfl rfl rfl (rCall (vs := [.pointer _]) rfl Try.func17 rfl rfl rfl) ?_
  refine (size_any lg A1 c1 (frames all) _ _ _ hI.g1).mono ?_
  rintro en w2 ⟨rfl, hp⟩
  refine ⟨_, rfl, ?_⟩
  replace hI := hI.pure hp
  refine WL_val rfl rfl rfl (by first | exact rMoveT rfl rfl | exact rMove rfl) ?_
  refine WL_val rfl rfl rfl (rExtr rfl rfl rfl) ?_
  refine WL_val rfl rfl rfl (rExtr rfl rfl rfl) ?_
  refine WL_val rfl rfl rfl (by first | exact rAsgnI rfl rfl | exact rAsgn rfl) ?_
  refine WL_val rfl rfl rfl (by first | exact rAsgnI rfl rfl | exact rAsgn rfl) ?_
  refine WL_nil ?_
  refine W_seq ?_
  refine W_seq ?_
  refine W_region ?_
  refine WL_call rfl rfl rfl (rCall (vs := []) rfl Try.func11 rfl rfl rfl) ?_
  refine (kept_any _).mono ?_
  rintro en w3 ⟨rfl, hp3⟩
  refine ⟨_, rfl, ?_⟩
  replace hI := hI.pure hp3
  refine WL_val rfl rfl rfl (by first | exact rNotT rfl rfl | exact rNotF rfl rfl | exact rNot rfl rfl) ?_
  refine WL_val rfl rfl rfl (by first | exact rMoveB rfl rfl | exact rMove rfl) ?_
  first | refine WL_val rfl rfl rfl (by first | exact rMoveI rfl rfl | exact rMove rfl) ?_ | refine WL_skip rfl rfl rfl ?_
  first | refine WL_val rfl rfl rfl (by first | exact rMoveI rfl rfl | exact rMove rfl) ?_ | refine WL_skip rfl rfl rfl ?_
  first | refine WL_val rfl rfl rfl (by first | exact rLssT rfl rfl rfl (by omega) | exact rLssF rfl rfl rfl (by omega) | exact rLss rfl rfl rfl) ?_ | refine WL_skip rfl rfl rfl ?_
  refine WL_val rfl rfl rfl (by first | exact rPickTB rfl rfl rfl | exact rPickFB rfl rfl rfl | exact rPickB rfl rfl rfl rfl) ?_
  refine WL_val rfl rfl rfl (by first | exact rMoveB rfl rfl | exact rMove rfl) ?_
  first | refine WL_val rfl rfl rfl (by first | exact rMoveI rfl rfl | exact rMove rfl) ?_ | refine WL_skip rfl rfl rfl ?_
  first | refine WL_val rfl rfl rfl (by first | exact rLssT rfl rfl rfl (by omega) | exact rLssF rfl rfl rfl (by omega) | exact rLss rfl rfl rfl) ?_ | refine WL_skip rfl rfl rfl ?_
  refine WL_val rfl rfl rfl (by first | exact rPickTB rfl rfl rfl | exact rPickFB rfl rfl rfl | exact rPickB rfl rfl rfl rfl) ?_
  refine WL_nil ?_
  refine W_cond false rfl ?_
  refine W_skip ?_
  refine W_seq ?_
  refine W_region ?_
  refine WL_val rfl rfl rfl (by first | exact rMoveP rfl rfl | exact rMove rfl) ?_
  refine WL_val rfl rfl rfl (by first | exact rMoveI rfl rfl | exact rMove rfl) ?_
  refine WL_val rfl rfl rfl (by first | exact rMoveI rfl rfl | exact rMove rfl) ?_
  refine WL_val rfl rfl rfl (by first | exact rMoveI rfl rfl | exact rMove rfl) ?_
  refine WL_val rfl rfl rfl (by first | exact rSub rfl rfl rfl (by omega) | exact rSubW rfl rfl rfl) ?_
  refine WL_val rfl rfl rfl (by first | exact rInc rfl rfl rfl (by omega) | exact rAdd rfl rfl rfl (by omega) | exact rAddW rfl rfl rfl) ?_
  refine WL_call rfl rfl rfl (rCall (vs := [.int .i64 _, .int .i64 _]) rfl Try.func16 rfl rfl rfl) ?_
  have hpk := pick_any keep ((frames all).length - (frames (all.take sure)).length + 1) w3 (by omega) (by omega)
  rw [show (((frames all).length - (frames (all.take sure)).length + 1 : Nat) : Int) = ((frames all).length : Int) - ((frames (all.take sure)).length : Int) + 1 from by omega] at hpk
  refine hpk.mono ?_
  rintro en w4 ⟨kp, hkp, rfl, hp4⟩
  refine ⟨_, rfl, ?_⟩
  replace hI := hI.pure hp4
  refine WL_call rfl rfl rfl (rCall (vs := [.pointer _, .int .i64 _, .slice _ _ _]) rfl Try.func9 rfl rfl rfl) ?_
  refine (crash_any lg A1 c1 (frames all) _ _ kp none 0 0 [] (fun _ => True) _ hI.g1 (by omega) (by omega) (Rd.nil _ _ _) rfl (by omega)).mono ?_
  rintro en w5 ⟨v, rfl, hp5, A3, c3, rfl, hown⟩
  refine ⟨_, rfl, ?_⟩
  replace hI := hI.pure hp5
  rw [List.append_nil] at *
  have hb := NewB.bts hown
  obtain ⟨q1, q2, q3, q4⟩ := crash_law (r := []) (k := (frames (all.take sure)).length + kp) hok (by omega) hsu
  have hXb : ∀ x ∈ (frames all).take ((frames (all.take sure)).length + kp), x < 256 := fun x hx => frames_byte hok x (List.mem_of_mem_take hx)
  have hXl : ((frames all).take ((frames (all.take sure)).length + kp)).length < 1000000 := by rw [List.length_take]; omega
  generalize (frames all).take ((frames (all.take sure)).length + kp) = X at *
  refine WL_val rfl rfl rfl (by first | exact rMoveT rfl rfl | exact rMove rfl) ?_
  refine WL_val rfl rfl rfl (rExtr rfl rfl rfl) ?_
  refine WL_val rfl rfl rfl (rExtr rfl rfl rfl) ?_
  refine WL_val rfl rfl rfl (by first | exact rAsgnS rfl rfl | exact rAsgn rfl) ?_
  refine WL_val rfl rfl rfl (by first | exact rAsgnN rfl rfl | exact rAsgnE rfl rfl | exact rAsgn rfl) ?_
  refine WL_nil ?_
  refine W_seq ?_
  refine W_region ?_
  refine WL_val rfl rfl rfl (by first | exact rMoveS rfl rfl | exact rMove rfl) ?_
  refine WL_call rfl rfl rfl (rCall (vs := [.slice _ _ _]) rfl Try.func10 rfl rfl rfl) ?_
  refine (recover_any A3 _ c3 X _ _ hb rfl hXb hXl (fun k hk => hk)).mono ?_
  rintro en w6 ⟨hp6, A4, c4, rfl, hes⟩
  refine ⟨_, rfl, ?_⟩
  replace hI := hI.pure hp6
  have he : Evs w6 (fun _ => True) (.slice A4 (recA X).1.length c4) (recA X).1 := Rd.of_own hes (fun _ _ _ => trivial)
  have he2 : Evs w6 (fun _ => True) (.slice A2 all.length c2) all := Rd.of_own hI.g0 (fun _ _ _ => trivial)
  have hGl : (recA X).1.length ≤ all.length := q3.length_le
  have hb3 : Bts w6 (fun k => k < w5.heap.size) (.slice A3 (recA X).2 c3) (X.take (recA X).2) := by
    obtain ⟨_, _, hv, h1, _⟩ := Rd.form hb
    injection hv with _ _ hv
    exact (hb.pure hp6).take q2 (by omega) (Nat.le_refl _)
  have hcap : X.length ≤ c3 := by
    obtain ⟨_, _, hv, h1, _⟩ := Rd.form hb
    injection hv with _ _ hv
    omega
  have hTl : (X.take (recA X).2).length = (recA X).2 := by rw [List.length_take]; omega
  have hTb : ∀ x ∈ X.take (recA X).2, x < 256 := fun x hx => hXb x (List.mem_of_mem_take hx)
  have q5 : recA (X.take (recA X).2) = ((recA X).1, (recA X).2) := q4
  generalize hG : (recA X).1 = G at *
  generalize hat : (recA X).2 = at_ at *
  refine WL_val rfl rfl rfl (by first | exact rMoveT rfl rfl | exact rMove rfl) ?_
  refine WL_val rfl rfl rfl (rExtr rfl rfl rfl) ?_
  refine WL_val rfl rfl rfl (rExtr rfl rfl rfl) ?_
  refine WL_val rfl rfl rfl (by first | exact rAsgnS rfl rfl | exact rAsgn rfl) ?_
  refine WL_val rfl rfl rfl (by first | exact rAsgnI rfl rfl | exact rAsgn rfl) ?_
  refine WL_nil ?_
  refine W_seq ?_
  refine W_seq ?_
  refine W_region ?_
  refine WL_val rfl rfl rfl (by first | exact rMoveN rfl rfl | exact rMoveE rfl rfl | exact rMove rfl) ?_
  refine WL_val rfl rfl rfl (by first | exact rIfaceNe rfl Try.underlying29 rfl rfl | exact rNilNe rfl Try.underlying29 rfl) ?_
  refine WL_val rfl rfl rfl (by first | exact rMoveB rfl rfl | exact rMove rfl) ?_
  first | refine WL_val rfl rfl rfl (by first | exact rMoveS rfl rfl | exact rMove rfl) ?_ | refine WL_skip rfl rfl rfl ?_
  first | refine WL_val rfl rfl rfl (rLen rfl Try.underlying22 rfl) ?_ | refine WL_skip rfl rfl rfl ?_
  first | refine WL_val rfl rfl rfl (by first | exact rMoveI rfl rfl | exact rMove rfl) ?_ | refine WL_skip rfl rfl rfl ?_
  first | refine WL_val rfl rfl rfl (by first | exact rLssT rfl rfl rfl (by omega) | exact rLssF rfl rfl rfl (by omega) | exact rLss rfl rfl rfl) ?_ | refine WL_skip rfl rfl rfl ?_
  refine WL_val rfl rfl rfl (by first | exact rPickTB rfl rfl rfl | exact rPickFB rfl rfl rfl | exact rPickB rfl rfl rfl rfl) ?_
  refine WL_val rfl rfl rfl (by first | exact rMoveB rfl rfl | exact rMove rfl) ?_
  first | refine WL_val rfl rfl rfl (by first | exact rMoveI rfl rfl | exact rMove rfl) ?_ | refine WL_skip rfl rfl rfl ?_
  first | refine WL_val rfl rfl rfl (by first | exact rMoveS rfl rfl | exact rMove rfl) ?_ | refine WL_skip rfl rfl rfl ?_
  first | refine WL_val rfl rfl rfl (rLen rfl Try.underlying24 rfl) ?_ | refine WL_skip rfl rfl rfl ?_
  first | refine WL_val rfl rfl rfl (by first | exact rGtrT rfl rfl rfl (by omega) | exact rGtrF rfl rfl rfl (by omega) | exact rGtr rfl rfl rfl) ?_ | refine WL_skip rfl rfl rfl ?_
  refine WL_val rfl rfl rfl (by first | exact rPickTB rfl rfl rfl | exact rPickFB rfl rfl rfl | exact rPickB rfl rfl rfl rfl) ?_
  refine WL_val rfl rfl rfl (by first | exact rMoveB rfl rfl | exact rMove rfl) ?_
  first | refine WL_val rfl rfl rfl (by first | exact rMoveS rfl rfl | exact rMove rfl) ?_ | refine WL_skip rfl rfl rfl ?_
  first | refine WL_val rfl rfl rfl (by first | exact rMoveS rfl rfl | exact rMove rfl) ?_ | refine WL_skip rfl rfl rfl ?_
  refine WL_call rfl rfl rfl (rCall (vs := [.slice _ _ _, .slice _ _ _]) rfl Try.func12 rfl rfl rfl) ?_
  refine (begins_any A4 A2 _ c4 _ c2 G all _ _ _ he he2 rfl rfl (by omega)).mono ?_
  rintro en w7 ⟨rfl, hp7⟩
  refine ⟨_, rfl, ?_⟩
  replace hI := hI.pure hp7
  rw [show begF G all = true from decide_eq_true q3]
  first | refine WL_val rfl rfl rfl (by first | exact rNotT rfl rfl | exact rNotF rfl rfl | exact rNot rfl rfl) ?_ | refine WL_skip rfl rfl rfl ?_
  refine WL_val rfl rfl rfl (by first | exact rPickTB rfl rfl rfl | exact rPickFB rfl rfl rfl | exact rPickB rfl rfl rfl rfl) ?_
  refine WL_nil ?_
  refine W_cond false rfl ?_
  refine W_skip ?_
  refine W_seq ?_
  refine W_region ?_
  refine WL_val rfl rfl rfl (by first | exact rMoveS rfl rfl | exact rMove rfl) ?_
  refine WL_val rfl rfl rfl (by first | exact rMoveI rfl rfl | exact rMove rfl) ?_
  refine WL_val rfl rfl rfl (rSliceTo (sz := 1) rfl Try.underlying24 (by kernel_rfl) rfl rfl (by omega)) ?_
  refine WL_call rfl rfl rfl (rCall (vs := [.slice _ _ _]) rfl Try.func10 rfl rfl rfl) ?_
  refine (recover_any A3 _ c3 (X.take at_) _ _ (hb3.pure hp7) hTl hTb (by omega) (fun k hk => Nat.lt_of_lt_of_le hk (Nat.le_trans hp6.size hp7.size))).mono ?_
  rintro en w8 ⟨hp8, A5, c5, rfl, hes2⟩
  refine ⟨_, rfl, ?_⟩
  replace hI := hI.pure hp8
  rw [q5] at hes2
  have hv : Value.tuple #[.slice A5 (recA (X.take at_)).1.length c5, .int .i64 ((recA (X.take at_)).2 : Int)] = .tuple #[.slice A5 G.length c5, .int .i64 (at_ : Int)] := by rw [q5]
  rw [hv]
  have he3 : Evs w8 (fun _ => True) (.slice A5 G.length c5) G := Rd.of_own hes2 (fun _ _ _ => trivial)
  refine WL_val rfl rfl rfl (by first | exact rMoveT rfl rfl | exact rMove rfl) ?_
  refine WL_val rfl rfl rfl (rExtr rfl rfl rfl) ?_
  refine WL_val rfl rfl rfl (rExtr rfl rfl rfl) ?_
  refine WL_val rfl rfl rfl (by first | exact rAsgnS rfl rfl | exact rAsgn rfl) ?_
  refine WL_val rfl rfl rfl (by first | exact rAsgnI rfl rfl | exact rAsgn rfl) ?_
  refine WL_nil ?_
  refine W_seq ?_
  refine W_region ?_
  refine WL_val rfl rfl rfl (by first | exact rMoveI rfl rfl | exact rMove rfl) ?_
  refine WL_val rfl rfl rfl (by first | exact rMoveI rfl rfl | exact rMove rfl) ?_
  refine WL_val rfl rfl rfl (by first | exact rEqlT rfl rfl rfl (by omega) | exact rEqlF rfl rfl rfl (by omega) | exact rEql rfl rfl rfl) ?_
  refine WL_val rfl rfl rfl (by first | exact rMoveB rfl rfl | exact rMove rfl) ?_
  first | refine WL_val rfl rfl rfl (by first | exact rMoveS rfl rfl | exact rMove rfl) ?_ | refine WL_skip rfl rfl rfl ?_
  first | refine WL_val rfl rfl rfl (rLen rfl Try.underlying22 rfl) ?_ | refine WL_skip rfl rfl rfl ?_
  first | refine WL_val rfl rfl rfl (by first | exact rMoveS rfl rfl | exact rMove rfl) ?_ | refine WL_skip rfl rfl rfl ?_
  first | refine WL_val rfl rfl rfl (rLen rfl Try.underlying22 rfl) ?_ | refine WL_skip rfl rfl rfl ?_
  first | refine WL_val rfl rfl rfl (by first | exact rEqlT rfl rfl rfl (by omega) | exact rEqlF rfl rfl rfl (by omega) | exact rEql rfl rfl rfl) ?_ | refine WL_skip rfl rfl rfl ?_
  refine WL_val rfl rfl rfl (by first | exact rPickTB rfl rfl rfl | exact rPickFB rfl rfl rfl | exact rPickB rfl rfl rfl rfl) ?_
  refine WL_val rfl rfl rfl (by first | exact rMoveB rfl rfl | exact rMove rfl) ?_
  first | refine WL_val rfl rfl rfl (by first | exact rMoveS rfl rfl | exact rMove rfl) ?_ | refine WL_skip rfl rfl rfl ?_
  first | refine WL_val rfl rfl rfl (by first | exact rMoveS rfl rfl | exact rMove rfl) ?_ | refine WL_skip rfl rfl rfl ?_
  refine WL_call rfl rfl rfl (rCall (vs := [.slice _ _ _, .slice _ _ _]) rfl Try.func12 rfl rfl rfl) ?_
  refine (begins_any A5 A4 _ c5 _ c4 G G _ _ _ he3 ((he.pure hp7).pure hp8) rfl rfl (by omega)).mono ?_
  rintro en w9 ⟨rfl, hp9⟩
  refine ⟨_, rfl, ?_⟩
  replace hI := hI.pure hp9
  rw [show begF G G = true from decide_eq_true (List.prefix_refl G)]
  refine WL_val rfl rfl rfl (by first | exact rPickTB rfl rfl rfl | exact rPickFB rfl rfl rfl | exact rPickB rfl rfl rfl rfl) ?_
  refine WL_val rfl rfl rfl (by first | exact rAsgnB rfl rfl | exact rAsgn rfl) ?_
  refine WL_nil ?_
  refine W_ret ?_
  exact ret1 6 (.inr rfl) rfl ⟨rfl, hI.pu⟩
end Go.Proofs.Ytdpeadmfalhbfaa
