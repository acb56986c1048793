/- testimonykeep: RecordBit. -/
import Derived.Test.YtdpeadmfalhbfaaRecordTorn
import Derived.Test.YtdpeadmfalhbfaaRecLaw3
namespace Go.Proofs.Ytdpeadmfalhbfaa
open Go.RowKit
set_option linter.unusedVariables false
set_option linter.unusedSimpArgs false

theorem frames_at {all : List Ev} {f : Nat} {e : Ev} (h : all[f]? = some e) : frames all = frames (all.take f) ++ (frameF (enc e) ++ frames (all.drop (f + 1))) := by
  obtain ⟨h1, h2⟩ := List.getElem?_eq_some_iff.1 h
  conv => lhs; rw [← List.take_append_drop f all, List.drop_eq_getElem_cons h1, frames_append, frames_cons, h2]
theorem frames_next {all : List Ev} {f : Nat} {e : Ev} (h : all[f]? = some e) : (frames (all.take (f + 1))).length = (frames (all.take f)).length + (6 + (enc e).length) := by
  rw [take_snoc' h, frames_append, List.length_append]
  simp [frames, frameF_len]
theorem bit_law {all : List Ev} {f at_ to : Nat} {e : Ev} (hok : ∀ e ∈ all, evOkB e = true) (h : all[f]? = some e) (h1 : (frames (all.take f)).length + 2 ≤ at_) (h2 : at_ < (frames (all.take f)).length + (6 + (enc e).length)) (hto : to < 256) (hne : (frames all)[at_]? ≠ some to) :
    recA ((frames all).set at_ to) = (all.take f, (frames (all.take f)).length) := by
  have hfl := frameF_len (enc e)
  have hel := enc_len e
  have hsp := frames_at h
  have hoke : evOkB e = true := hok e (List.mem_of_getElem? h)
  have hY := recStep_turn (r := frames (all.drop (f + 1))) (j := at_ - (frames (all.take f)).length) (enc_byte hoke) (by omega) (by omega) (by omega) hto (by
    intro hh
    apply hne
    rw [hsp, List.getElem?_append_right (by omega), List.getElem?_append_left (by omega)]
    exact hh)
  rw [hsp, List.set_append_right _ _ (by omega), recA_frames (all.take f) _ (fun x hx => hok x (List.mem_of_mem_take hx)), recA_none hY]
  simp
theorem blk_bts {w : World} {g c : Nat} {cs : Array Value} {l : List Nat} (h : Blk w g 5 cs) (ht : cs.toList.take l.length = bytesV l) (h1 : l.length ≤ c) (h2 : c ≤ 9223372036854775807) : Bts w (fun k => k = g) (.slice (some ⟨g, 0, none⟩) l.length c) l := by
  refine ⟨_, _, rfl, h1, h2, by rw [bytesV_len, Nat.mul_one], fun _ => ⟨g, 0, rfl, rfl, fun j u hj => ?_⟩⟩
  rw [Nat.zero_add, h.cell]
  rw [← ht, List.getElem?_take] at hj
  split at hj
  · simpa using hj
  · cases hj
set_option maxHeartbeats 2000000 in
theorem bit_any (A : Option Addr) (n c : Nat) (es : List Ev) (at0 : Int) (to : Nat) (hto : to < 256) (D : Nat → Prop) (w0 : World) (h : Evs w0 D (.slice A n c) es) (hn : es.length = n) :
    Calls Try.prog 5 #[.slice A n c, .int .i64 at0, .int .u8 to] w0 fun en w' => en = .returned (.bool true) ∧ Pure w0 w' := by
  subst hn
  have hI := Inv.start (fun _ => False) w0
  refine calls_of_W (N := Try.f5.ntmps) Try.func5 rfl rfl rfl ?_
  refine W_seq ?_
  refine W_region ?_
  refine WL_val rfl rfl rfl (by first | exact rAsgnB rfl rfl | exact rAsgn rfl) ?_
  refine WL_nil ?_
  by_cases h40 : es.length > 40
  · refine W_seq ?_
    refine W_seq ?_
    refine W_region ?_
    refine WL_val rfl rfl rfl (by first | exact rMoveS rfl rfl | exact rMove rfl) ?_
    refine WL_val rfl rfl rfl (rLen rfl Try.underlying22 rfl) ?_
    refine WL_val rfl rfl rfl (by first | exact rGtrT rfl rfl rfl (by omega) | exact rGtrF rfl rfl rfl (by omega) | exact rGtr rfl rfl rfl) ?_
    refine WL_nil ?_
    refine W_cond true rfl ?_
    refine W_seq ?_
    refine W_region ?_
    refine WL_val rfl rfl rfl (by first | exact rAsgnB rfl rfl | exact rAsgn rfl) ?_
    refine WL_nil ?_
    refine W_ret ?_
    exact ret1 6 (.inr rfl) rfl ⟨rfl, hI.pu⟩
  refine W_seq ?_
  refine W_seq ?_
  refine W_region ?_
  refine WL_val rfl rfl rfl (by first | exact rMoveS rfl rfl | exact rMove rfl) ?_
  refine WL_val rfl rfl rfl (rLen rfl Try.underlying22 rfl) ?_
  refine WL_val rfl rfl rfl (by first | exact rGtrT rfl rfl rfl (by omega) | exact rGtrF rfl rfl rfl (by omega) | exact rGtr rfl rfl rfl) ?_
  refine WL_nil ?_
  refine W_cond false rfl ?_
  refine W_skip ?_
  refine W_seq ?_
  refine W_region ?_
  refine WL_val rfl rfl rfl (by first | exact rMoveS rfl rfl | exact rMove rfl) ?_
  refine WL_call rfl rfl rfl (rCall (vs := [.slice _ _ _, .slice _ _ _]) rfl Try.func8 rfl rfl rfl) ?_
  refine (logged_any A none _ c 0 0 es [] D D _ h rfl (Rd.nil _ _ _) rfl (by omega)).mono ?_
  rintro en w1 ⟨lg, A1, c1, A2, c2, all, sure, rfl, hok, hsu, hal, hc2, hI⟩
  refine ⟨_, rfl, ?_⟩
  have hfl := frames_len all
  refine WL_val rfl rfl rfl (by first | exact rMoveT rfl rfl | exact rMove rfl) ?_
  refine WL_val rfl rfl rfl (rExtr rfl rfl rfl) ?_
  refine WL_val rfl rfl rfl (rExtr rfl rfl rfl) ?_
  refine WL_val rfl rfl rfl (rExtr rfl rfl rfl) ?_
  refine WL_val rfl rfl rfl (by first | exact rAsgnP rfl rfl | exact rAsgn rfl) ?_
  refine WL_val rfl rfl rfl (by first | exact rAsgnS rfl rfl | exact rAsgn rfl) ?_
  refine WL_val rfl rfl rfl (by first | exact rAsgnI rfl rfl | exact rAsgn rfl) ?_
  refine WL_nil ?_
  refine W_seq ?_
  refine W_region ?_
  refine WL_val rfl rfl rfl (by first | exact rMoveP rfl rfl | exact rMove rfl) ?_
  refine WL_call rfl rfl rfl (rCall (vs := [.pointer _]) rfl Try.func15 rfl rfl rfl) ?_
  refine (sync_any lg A1 c1 (frames all) _ _ _ hI.g1).mono ?_
  rintro en w2 ⟨rfl, hc, hΦ⟩
  refine ⟨_, rfl, ?_⟩
  replace hI := hI.u1 (e' := LogE lg A1 c1 (frames all) (frames all).length all.length) hc (LogE.ok hΦ) (fun k hk => .inl hk)
  clear hc hΦ
  refine WL_nil ?_
  refine W_seq ?_
  refine W_region ?_
  refine WL_val rfl rfl rfl (by first | exact rMoveP rfl rfl | exact rMove rfl) ?_
  refine WL_call rfl rfl rfl (rCall (vs := [.pointer _, .int .i64 _, .slice _ _ _]) rfl Try.func9 rfl rfl rfl) ?_
  refine (crash_any lg A1 c1 (frames all) _ _ 0 none 0 0 [] (fun _ => True) _ hI.g1 (by omega) (by omega) (Rd.nil _ _ _) rfl (by omega)).mono ?_
  rintro en w3 ⟨v, rfl, hp, A3, c3, rfl, hown⟩
  refine ⟨_, rfl, ?_⟩
  rw [List.append_nil, Nat.add_zero, List.take_length] at *
  replace hI := hI.fresh hp (Row.ok hown) (fun k hk => Row.lo hown hk)
  clear hown hp
  refine WL_val rfl rfl rfl (by first | exact rMoveT rfl rfl | exact rMove rfl) ?_
  refine WL_val rfl rfl rfl (rExtr rfl rfl rfl) ?_
  refine WL_val rfl rfl rfl (rExtr rfl rfl rfl) ?_
  refine WL_val rfl rfl rfl (by first | exact rAsgnS rfl rfl | exact rAsgn rfl) ?_
  refine WL_val rfl rfl rfl (by first | exact rAsgnN rfl rfl | exact rAsgnE rfl rfl | exact rAsgn rfl) ?_
  refine WL_nil ?_
  refine W_seq ?_
  refine W_seq ?_
  refine W_region ?_
  refine WL_call rfl rfl rfl (rCall (vs := []) rfl Try.func11 rfl rfl rfl) ?_
  refine (kept_any _).mono ?_
  rintro en w4 ⟨rfl, hp4⟩
  refine ⟨_, rfl, ?_⟩
  replace hI := hI.pure hp4
  refine WL_val rfl rfl rfl (by first | exact rNotT rfl rfl | exact rNotF rfl rfl | exact rNot rfl rfl) ?_
  refine WL_val rfl rfl rfl (by first | exact rMoveB rfl rfl | exact rMove rfl) ?_
  first | refine WL_val rfl rfl rfl (by first | exact rMoveN rfl rfl | exact rMoveE rfl rfl | exact rMove rfl) ?_ | refine WL_skip rfl rfl rfl ?_
  first | refine WL_val rfl rfl rfl (by first | exact rIfaceNe rfl Try.underlying29 rfl rfl | exact rNilNe rfl Try.underlying29 rfl) ?_ | refine WL_skip rfl rfl rfl ?_
  refine WL_val rfl rfl rfl (by first | exact rPickTB rfl rfl rfl | exact rPickFB rfl rfl rfl | exact rPickB rfl rfl rfl rfl) ?_
  refine WL_nil ?_
  refine W_cond false rfl ?_
  refine W_skip ?_
  by_cases hL : (frames all).length = 0
  · refine W_seq ?_
    refine W_seq ?_
    refine W_region ?_
    refine WL_val rfl rfl rfl (by first | exact rMoveS rfl rfl | exact rMove rfl) ?_
    refine WL_val rfl rfl rfl (rLen rfl Try.underlying24 rfl) ?_
    refine WL_val rfl rfl rfl (by first | exact rEqlT rfl rfl rfl (by omega) | exact rEqlF rfl rfl rfl (by omega) | exact rEql rfl rfl rfl) ?_
    refine WL_nil ?_
    refine W_cond true rfl ?_
    refine W_seq ?_
    refine W_region ?_
    refine WL_val rfl rfl rfl (by first | exact rAsgnB rfl rfl | exact rAsgn rfl) ?_
    refine WL_nil ?_
    refine W_ret ?_
    exact ret1 6 (.inr rfl) rfl ⟨rfl, hI.pu⟩
  refine W_seq ?_
  refine W_seq ?_
  refine W_region ?_
  refine WL_val rfl rfl rfl (by first | exact rMoveS rfl rfl | exact rMove rfl) ?_
  refine WL_val rfl rfl rfl (rLen rfl Try.underlying24 rfl) ?_
  refine WL_val rfl rfl rfl (by first | exact rEqlT rfl rfl rfl (by omega) | exact rEqlF rfl rfl rfl (by omega) | exact rEql rfl rfl rfl) ?_
  refine WL_nil ?_
  refine W_cond false rfl ?_
  refine W_skip ?_
  refine W_seq ?_
  refine W_region ?_
  refine WL_val rfl rfl rfl (by first | exact rMoveI rfl rfl | exact rMove rfl) ?_
  refine WL_val rfl rfl rfl (by first | exact rMoveS rfl rfl | exact rMove rfl) ?_
  refine WL_val rfl rfl rfl (rLen rfl Try.underlying24 rfl) ?_
  refine WL_call rfl rfl rfl (rCall (vs := [.int .i64 _, .int .i64 _]) rfl Try.func16 rfl rfl rfl) ?_
  refine (pick_any at0 (frames all).length _ (by omega) (by omega)).mono ?_
  rintro en w5 ⟨at_, hat, rfl, hp5⟩
  refine ⟨_, rfl, ?_⟩
  replace hI := hI.pure hp5
  have hb : Bts w5 (fun _ => True) (.slice A3 (frames all).length c3) (frames all) := Rd.of_own hI.g0 (fun _ _ _ => trivial)
  have hal2 : Evs w5 (fun _ => True) (.slice A2 all.length c2) all := Rd.of_own hI.g1 (fun _ _ _ => trivial)
  have hpu := hI.pu
  obtain ⟨g3, rfl⟩ : ∃ g, A3 = some ⟨g, 0, none⟩ := by
    rcases (show _ ∧ _ from hI.g0).2 with ⟨hv, h0⟩ | ⟨g, cap, cur, hv, _⟩
    · omega
    · injection hv with hv; exact ⟨g, hv⟩
  have hXb := frames_byte hok
  clear hI
  have hI := Inv.start (fun _ => False) w5
  refine WL_val rfl rfl rfl (by first | exact rAsgnI rfl rfl | exact rAsgn rfl) ?_
  refine WL_nil ?_
  refine W_seq ?_
  refine W_region ?_
  refine WL_val rfl rfl rfl (by first | exact rAsgnI rfl rfl | exact rAsgn rfl) ?_
  refine WL_val rfl rfl rfl (by first | exact rAsgnI rfl rfl | exact rAsgn rfl) ?_
  refine WL_nil ?_
  refine W_seq ?_
  refine W_block ?_
  refine W_loop (fun ρ w => ∃ (f : Nat), f ≤ all.length ∧ (frames (all.take f)).length ≤ at_ ∧ Has ρ [(13, .int .i64 (frames (all.take f)).length), (12, .int .i64 f), (1, .int .i64 at_), (10, .slice (some ⟨g3, 0, none⟩) (frames all).length c3), (8, .slice A2 all.length c2), (2, .int .u8 to)] ∧ Inv (fun _ => False) w5 w []) (fun ρ _ => all.length - cnt (ρ 12))
    ⟨0, by omega, by simp [frames], ⟨rfl, rfl, rfl, rfl, rfl, rfl, trivial⟩, hI⟩ ?_
  clear hI
  rintro ρ w ⟨f, hf, hbe, hH, hI⟩
  obtain ⟨σ, rfl⟩ := hH.open
  have hfa : f < all.length := by
    rcases Nat.lt_or_ge f all.length with h1 | h1
    · exact h1
    · rw [List.take_of_length_le h1] at hbe
      omega
  obtain ⟨e, he⟩ : ∃ e, all[f]? = some e := ⟨_, List.getElem?_eq_getElem hfa⟩
  have hsp := frames_at he
  have hnx := frames_next he
  have hnl := frames_take_le all (f + 1)
  have hel := enc_len e
  obtain ⟨x, hx, hxe⟩ : ∃ x, (frames all)[(frames (all.take f)).length]? = some x ∧ x = (enc e).length / 256 % 256 := ⟨_, by
    rw [hsp, List.getElem?_append_right (by omega), Nat.sub_self]; rfl, rfl⟩
  obtain ⟨y, hy, hye⟩ : ∃ y, (frames all)[(frames (all.take f)).length + 1]? = some y ∧ y = (enc e).length % 256 := ⟨_, by
    rw [hsp, List.getElem?_append_right (by omega), Nat.add_sub_cancel_left]; rfl, rfl⟩
  obtain ⟨z, hz⟩ : ∃ z, (frames all)[at_]? = some z := ⟨_, List.getElem?_eq_getElem hat⟩
  obtain ⟨_, _, e0, _, q0⟩ := hb.get hx
  obtain ⟨_, _, e1, _, q1⟩ := hb.get hy
  obtain ⟨_, _, e2, _, q2⟩ := hb.get hz
  injection e0 with e0; injection e0 with e01 e02; subst e01 e02
  injection e1 with e1; injection e1 with e11 e12; subst e11 e12
  injection e2 with e2; injection e2 with e21 e22; subst e21 e22
  have hzb := hXb z (List.mem_of_getElem? hz)
  have hbit := fun h1 h2 h3 => bit_law (at_ := at_) (to := to) hok he h1 h2 hto h3
  generalize hB : (frames (all.take f)).length = bg at *
  generalize hne : (enc e).length = ne at *
  rw [Nat.zero_add] at q0 q1 q2
  refine W_block ?_
  refine W_seq ?_
  refine W_seq ?_
  refine W_region ?_
  refine WL_val rfl rfl rfl (by first | exact rMoveI rfl rfl | exact rMove rfl) ?_
  refine WL_val rfl rfl rfl (by first | exact rInc rfl rfl rfl (by omega) | exact rAdd rfl rfl rfl (by omega) | exact rAddW rfl rfl rfl) ?_
  refine WL_val rfl rfl rfl (by first | exact rMoveS rfl rfl | exact rMove rfl) ?_
  refine WL_val rfl rfl rfl (rLen rfl Try.underlying24 rfl) ?_
  refine WL_val rfl rfl rfl (by first | exact rGtrT rfl rfl rfl (by omega) | exact rGtrF rfl rfl rfl (by omega) | exact rGtr rfl rfl rfl) ?_
  refine WL_nil ?_
  refine W_cond false rfl ?_
  refine W_skip ?_
  refine W_seq ?_
  refine W_draw (by kernel_rfl) ?_
  refine WA_inv (T := []) hI.drew ?_
  intro Sx hSx hXS
  replace hI := hI.drew
  refine WT_take 0 rfl rfl (by kernel_rfl) (hXS _ hI) rfl (fun W hW => have hI := hSx W hW; (by first | exact rMoveS rfl rfl | exact rMove rfl)) ?_
  refine WT_take 1 rfl rfl (by kernel_rfl) (hXS _ hI) rfl (fun W hW => have hI := hSx W hW; (by first | exact rMoveI rfl rfl | exact rMove rfl)) ?_
  refine WT_take 2 rfl rfl (by kernel_rfl) (hXS _ hI) rfl (fun W hW => have hI := hSx W hW; (by first | exact rIdx0 rfl Try.underlying24 (by kernel_rfl) rfl rfl rfl (by omega) | exact rIdx1 rfl Try.underlying24 (by kernel_rfl) rfl rfl (by omega))) ?_
  refine WT_take 3 rfl rfl (by kernel_rfl) (hXS _ hI) rfl (fun W hW => have hI := hSx W hW; (by first | exact rLd (v := .int .u8 _) rfl (by kernel_rfl) rfl (by first | exact hI.oldp q0 | exact q0 | exact hI.oldp q1 | exact q1 | exact hI.oldp q2 | exact q2) | exact rLd rfl (by kernel_rfl) rfl (by first | exact hI.oldp q0 | exact q0 | exact hI.oldp q1 | exact q1 | exact hI.oldp q2 | exact q2))) ?_
  refine WT_take 4 rfl rfl (by kernel_rfl) (hXS _ hI) rfl (fun W hW => have hI := hSx W hW; (by first | exact rConv_i64 rfl Try.underlying5 Try.underlying3 rfl (by omega) | exact rConvW rfl Try.underlying5 Try.underlying3 rfl)) ?_
  refine WT_take 5 rfl rfl (by kernel_rfl) (hXS _ hI) rfl (fun W hW => have hI := hSx W hW; (by first | exact rMul rfl rfl rfl (by omega) | exact rMulW rfl rfl rfl)) ?_
  refine WT_take 6 rfl rfl (by kernel_rfl) (hXS _ hI) rfl (fun W hW => have hI := hSx W hW; (by first | exact rMoveS rfl rfl | exact rMove rfl)) ?_
  refine WT_take 7 rfl rfl (by kernel_rfl) (hXS _ hI) rfl (fun W hW => have hI := hSx W hW; (by first | exact rMoveI rfl rfl | exact rMove rfl)) ?_
  refine WT_take 8 rfl rfl (by kernel_rfl) (hXS _ hI) rfl (fun W hW => have hI := hSx W hW; (by first | exact rInc rfl rfl rfl (by omega) | exact rAdd rfl rfl rfl (by omega) | exact rAddW rfl rfl rfl)) ?_
  refine WT_take 9 rfl rfl (by kernel_rfl) (hXS _ hI) rfl (fun W hW => have hI := hSx W hW; (by first | exact rIdx0 rfl Try.underlying24 (by kernel_rfl) rfl rfl rfl (by omega) | exact rIdx1 rfl Try.underlying24 (by kernel_rfl) rfl rfl (by omega))) ?_
  refine WT_take 10 rfl rfl (by kernel_rfl) (hXS _ hI) rfl (fun W hW => have hI := hSx W hW; (by first | exact rLd (v := .int .u8 _) rfl (by kernel_rfl) rfl (by first | exact hI.oldp q0 | exact q0 | exact hI.oldp q1 | exact q1 | exact hI.oldp q2 | exact q2) | exact rLd rfl (by kernel_rfl) rfl (by first | exact hI.oldp q0 | exact q0 | exact hI.oldp q1 | exact q1 | exact hI.oldp q2 | exact q2))) ?_
  refine WT_take 11 rfl rfl (by kernel_rfl) (hXS _ hI) rfl (fun W hW => have hI := hSx W hW; (by first | exact rConv_i64 rfl Try.underlying5 Try.underlying3 rfl (by omega) | exact rConvW rfl Try.underlying5 Try.underlying3 rfl)) ?_
  refine WT_take 12 rfl rfl (by kernel_rfl) (hXS _ hI) rfl (fun W hW => have hI := hSx W hW; (by first | exact rInc rfl rfl rfl (by omega) | exact rAdd rfl rfl rfl (by omega) | exact rAddW rfl rfl rfl)) ?_
  refine WT_take 13 rfl rfl (by kernel_rfl) (hXS _ hI) rfl (fun W hW => have hI := hSx W hW; (by first | exact rAsgnI rfl rfl | exact rAsgn rfl)) ?_
  refine WT_end (by kernel_rfl) ?_
  rw [show (256 : Int) * (x : Int) + (y : Int) = (ne : Int) from by omega]
  by_cases hin : at_ < bg + 6 + ne
  · refine W_seq ?_
    refine W_seq ?_
    refine W_region ?_
    refine WL_val rfl rfl rfl (by first | exact rMoveI rfl rfl | exact rMove rfl) ?_
    refine WL_val rfl rfl rfl (by first | exact rMoveI rfl rfl | exact rMove rfl) ?_
    refine WL_val rfl rfl rfl (by first | exact rInc rfl rfl rfl (by omega) | exact rAdd rfl rfl rfl (by omega) | exact rAddW rfl rfl rfl) ?_
    refine WL_val rfl rfl rfl (by first | exact rMoveI rfl rfl | exact rMove rfl) ?_
    refine WL_val rfl rfl rfl (by first | exact rInc rfl rfl rfl (by omega) | exact rAdd rfl rfl rfl (by omega) | exact rAddW rfl rfl rfl) ?_
    refine WL_val rfl rfl rfl (by first | exact rLssT rfl rfl rfl (by omega) | exact rLssF rfl rfl rfl (by omega) | exact rLss rfl rfl rfl) ?_
    refine WL_nil ?_
    refine W_cond true rfl ?_
    refine W_exit ?_
    by_cases h2 : at_ < bg + 2
    · refine W_seq ?_
      refine W_seq ?_
      refine W_region ?_
      refine WL_val rfl rfl rfl (by first | exact rMoveI rfl rfl | exact rMove rfl) ?_
      refine WL_val rfl rfl rfl (by first | exact rMoveI rfl rfl | exact rMove rfl) ?_
      refine WL_val rfl rfl rfl (by first | exact rInc rfl rfl rfl (by omega) | exact rAdd rfl rfl rfl (by omega) | exact rAddW rfl rfl rfl) ?_
      refine WL_val rfl rfl rfl (by first | exact rLssT rfl rfl rfl (by omega) | exact rLssF rfl rfl rfl (by omega) | exact rLss rfl rfl rfl) ?_
      refine WL_val rfl rfl rfl (by first | exact rMoveB rfl rfl | exact rMove rfl) ?_
      refine WL_skip rfl rfl rfl ?_
      refine WL_skip rfl rfl rfl ?_
      refine WL_skip rfl rfl rfl ?_
      refine WL_skip rfl rfl rfl ?_
      refine WL_skip rfl rfl rfl ?_
      refine WL_skip rfl rfl rfl ?_
      refine WL_val rfl rfl rfl (by first | exact rPickTB rfl rfl rfl | exact rPickFB rfl rfl rfl | exact rPickB rfl rfl rfl rfl) ?_
      refine WL_nil ?_
      refine W_cond true rfl ?_
      refine W_seq ?_
      refine W_region ?_
      refine WL_val rfl rfl rfl (by first | exact rAsgnB rfl rfl | exact rAsgn rfl) ?_
      refine WL_nil ?_
      refine W_ret ?_
      exact ret1 6 (.inr rfl) rfl ⟨rfl, hpu.trans hI.pu⟩
    by_cases hzt : z = to
    · refine W_seq ?_
      refine W_seq ?_
      refine W_region ?_
      refine WL_val rfl rfl rfl (by first | exact rMoveI rfl rfl | exact rMove rfl) ?_
      refine WL_val rfl rfl rfl (by first | exact rMoveI rfl rfl | exact rMove rfl) ?_
      refine WL_val rfl rfl rfl (by first | exact rInc rfl rfl rfl (by omega) | exact rAdd rfl rfl rfl (by omega) | exact rAddW rfl rfl rfl) ?_
      refine WL_val rfl rfl rfl (by first | exact rLssT rfl rfl rfl (by omega) | exact rLssF rfl rfl rfl (by omega) | exact rLss rfl rfl rfl) ?_
      refine WL_val rfl rfl rfl (by first | exact rMoveB rfl rfl | exact rMove rfl) ?_
      first | refine WL_val rfl rfl rfl (by first | exact rMoveS rfl rfl | exact rMove rfl) ?_ | refine WL_skip rfl rfl rfl ?_
      first | refine WL_val rfl rfl rfl (by first | exact rMoveI rfl rfl | exact rMove rfl) ?_ | refine WL_skip rfl rfl rfl ?_
      first | refine WL_val rfl rfl rfl (by first | exact rIdx0 rfl Try.underlying24 (by kernel_rfl) rfl rfl rfl (by omega) | exact rIdx1 rfl Try.underlying24 (by kernel_rfl) rfl rfl (by omega)) ?_ | refine WL_skip rfl rfl rfl ?_
      first | refine WL_val rfl rfl rfl (by first | exact rLd (v := .int .u8 _) rfl (by kernel_rfl) rfl (by first | exact hI.oldp q2 | exact q2) | exact rLd rfl (by kernel_rfl) rfl (by first | exact hI.oldp q2 | exact q2)) ?_ | refine WL_skip rfl rfl rfl ?_
      first | refine WL_val rfl rfl rfl (by first | exact rMoveI rfl rfl | exact rMove rfl) ?_ | refine WL_skip rfl rfl rfl ?_
      first | refine WL_val rfl rfl rfl (by first | exact rEqlT rfl rfl rfl (by omega) | exact rEqlF rfl rfl rfl (by omega) | exact rEql rfl rfl rfl) ?_ | refine WL_skip rfl rfl rfl ?_
      refine WL_val rfl rfl rfl (by first | exact rPickTB rfl rfl rfl | exact rPickFB rfl rfl rfl | exact rPickB rfl rfl rfl rfl) ?_
      refine WL_nil ?_
      refine W_cond true rfl ?_
      refine W_seq ?_
      refine W_region ?_
      refine WL_val rfl rfl rfl (by first | exact rAsgnB rfl rfl | exact rAsgn rfl) ?_
      refine WL_nil ?_
      refine W_ret ?_
      exact ret1 6 (.inr rfl) rfl ⟨rfl, hpu.trans hI.pu⟩
    refine W_seq ?_
    refine W_seq ?_
    refine W_region ?_
    refine WL_val rfl rfl rfl (by first | exact rMoveI rfl rfl | exact rMove rfl) ?_
    refine WL_val rfl rfl rfl (by first | exact rMoveI rfl rfl | exact rMove rfl) ?_
    refine WL_val rfl rfl rfl (by first | exact rInc rfl rfl rfl (by omega) | exact rAdd rfl rfl rfl (by omega) | exact rAddW rfl rfl rfl) ?_
    refine WL_val rfl rfl rfl (by first | exact rLssT rfl rfl rfl (by omega) | exact rLssF rfl rfl rfl (by omega) | exact rLss rfl rfl rfl) ?_
    refine WL_val rfl rfl rfl (by first | exact rMoveB rfl rfl | exact rMove rfl) ?_
    first | refine WL_val rfl rfl rfl (by first | exact rMoveS rfl rfl | exact rMove rfl) ?_ | refine WL_skip rfl rfl rfl ?_
    first | refine WL_val rfl rfl rfl (by first | exact rMoveI rfl rfl | exact rMove rfl) ?_ | refine WL_skip rfl rfl rfl ?_
    first | refine WL_val rfl rfl rfl (by first | exact rIdx0 rfl Try.underlying24 (by kernel_rfl) rfl rfl rfl (by omega) | exact rIdx1 rfl Try.underlying24 (by kernel_rfl) rfl rfl (by omega)) ?_ | refine WL_skip rfl rfl rfl ?_
    first | refine WL_val rfl rfl rfl (by first | exact rLd (v := .int .u8 _) rfl (by kernel_rfl) rfl (by first | exact hI.oldp q2 | exact q2) | exact rLd rfl (by kernel_rfl) rfl (by first | exact hI.oldp q2 | exact q2)) ?_ | refine WL_skip rfl rfl rfl ?_
    first | refine WL_val rfl rfl rfl (by first | exact rMoveI rfl rfl | exact rMove rfl) ?_ | refine WL_skip rfl rfl rfl ?_
    first | refine WL_val rfl rfl rfl (by first | exact rEqlT rfl rfl rfl (by omega) | exact rEqlF rfl rfl rfl (by omega) | exact rEql rfl rfl rfl) ?_ | refine WL_skip rfl rfl rfl ?_
    refine WL_val rfl rfl rfl (by first | exact rPickTB rfl rfl rfl | exact rPickFB rfl rfl rfl | exact rPickB rfl rfl rfl rfl) ?_
    refine WL_nil ?_
    refine W_cond false rfl ?_
    refine W_skip ?_
    have hrec := hbit (by omega) (by omega) (by rw [hz]; intro hh; injection hh with hh; exact hzt hh)
    refine W_seq ?_
    refine W_region ?_
    refine WL_lit (vs := []) (qs := []) [] [] hI rfl rfl rfl rfl rfl rfl Try.underlying24 (fun _ => by kernel_rfl) ?_
    clear hI; rintro b88 w - - hI
    have hlo := (hI.own _ (List.mem_of_getElem? (i := 0) rfl) b88 rfl).resolve_left id
    replace hI := hI.u0 (e' := Row w5.heap.size 5 1 (some ⟨b88, 0, none⟩) 0 0 (bytesV [])) (Chg.refl _ _) (Row.of_blk hI.g0 hlo rfl (by omega)) (fun k hk => .inl (by have : some b88 = some k := hk; injection this with this; exact this.symm))
    have hbw := hb.pure hI.pu
    refine WL_val rfl rfl rfl (by first | exact rMoveS rfl rfl | exact rMove rfl) ?_
    -- STOP: call ['Op.call', ('st', {'callee': ['Callee.builtin', 'Builtin.append'], 'args': ('arr', [['Operand.tmp', '88'], ['Operand.tmp', '89']]), 'argTypes': ('arr
    refine WL_app0 (z := .int .u8 0) (by_ := 1) (news := bytesV (frames all)) hI rfl rfl rfl rfl rfl rfl Try.underlying24 (by kernel_rfl) rfl (by omega) (by rw [bytesV_len, Nat.mul_one]) hbw.cells (bytesV_one _) (by omega) (by omega) hI.pu.size ?_
    clear hI hbw; rintro A4 c4 w hc3 hc4 hI
    refine WL_val rfl rfl rfl (by first | exact rAsgnS rfl rfl | exact rAsgn rfl) ?_
    refine WL_nil ?_
    obtain ⟨g4, cur, rfl, hblk, hcs, htake⟩ : ∃ g4 cur, A4 = some ⟨g4, 0, none⟩ ∧ Blk w g4 5 cur ∧ cur.size = c4 ∧ cur.toList.take (frames all).length = bytesV (frames all) := by
      rcases (show _ ∧ _ from hI.g0).2 with ⟨hv, h0⟩ | ⟨g, cap, cur, hv, _, hblk, _, _, hcs, ht⟩
      · omega
      · injection hv with hv _ hv3
        refine ⟨g, cur, hv, hblk, by omega, ?_⟩
        rw [Nat.mul_one, Nat.zero_add] at ht
        exact ht
    replace hI := hI.u0 (e' := B g4 5 cur) (Chg.refl _ _) (B.ok hblk) (fun k hk => .inl (by have : k = g4 := hk; subst this; rfl))
    have hset : (cur.setIfInBounds at_ (.int .u8 (to : Int))).toList.take ((frames all).set at_ to).length = bytesV ((frames all).set at_ to) := by
      rw [List.length_set, Array.toList_setIfInBounds, List.take_set, htake]
      simp [bytesV, List.map_set]
    rw [Nat.zero_add] at *
    refine W_seq ?_
    refine W_region ?_
    refine WL_val rfl rfl rfl (by first | exact rMoveS rfl rfl | exact rMove rfl) ?_
    refine WL_val rfl rfl rfl (by first | exact rMoveI rfl rfl | exact rMove rfl) ?_
    refine WL_val rfl rfl rfl (by first | exact rMoveI rfl rfl | exact rMove rfl) ?_
    refine WL_val rfl rfl rfl (by first | exact rIdx0 rfl Try.underlying24 (by kernel_rfl) rfl rfl rfl (by omega) | exact rIdx1 rfl Try.underlying24 (by kernel_rfl) rfl rfl (by omega)) ?_
    refine WL_st0 (u := .int .u8 (to : Int)) (j := at_) hI rfl rfl rfl rfl rfl rfl (by kernel_rfl) rfl (by simp [Nat.blt]; omega) rfl ?_
    clear hI; intro w hI
    refine WL_nil ?_
    have hb5 := blk_bts (c := c4) hI.g0 hset (by rw [List.length_set]; omega) hc4
    have hl5 : ((frames all).set at_ to).length = (frames all).length := List.length_set ..
    refine W_seq ?_
    refine W_region ?_
    refine WL_val rfl rfl rfl (by first | exact rMoveS rfl rfl | exact rMove rfl) ?_
    refine WL_call rfl rfl rfl (rCall (vs := [.slice _ _ _]) rfl Try.func10 rfl rfl rfl) ?_
    refine (recover_any _ _ c4 ((frames all).set at_ to) _ _ (hl5 ▸ hb5) hl5 (fun x hx => by
      rcases List.mem_or_eq_of_mem_set hx with hx | rfl
      · exact hXb x hx
      · exact hto) (by omega) (fun k hk => by subst hk; exact hI.lt)).mono ?_
    rintro en w6 ⟨hp6, A6, c6, rfl, hes⟩
    refine ⟨_, rfl, ?_⟩
    replace hI := hI.pure hp6
    rw [hrec] at hes
    have hft : (all.take f).length = f := by rw [List.length_take]; omega
    have hv : Value.tuple #[.slice A6 (recA ((frames all).set at_ to)).1.length c6, .int .i64 ((recA ((frames all).set at_ to)).2 : Int)] = .tuple #[.slice A6 f c6, .int .i64 (bg : Int)] := by rw [hrec, hft]
    rw [hv]
    have he6 : Evs w6 (fun _ => True) (.slice A6 (all.take f).length c6) (all.take f) := Rd.of_own hes (fun _ _ _ => trivial)
    rw [hft] at he6
    refine WL_val rfl rfl rfl (by first | exact rMoveT rfl rfl | exact rMove rfl) ?_
    refine WL_val rfl rfl rfl (rExtr rfl rfl rfl) ?_
    refine WL_val rfl rfl rfl (rExtr rfl rfl rfl) ?_
    refine WL_val rfl rfl rfl (by first | exact rAsgnS rfl rfl | exact rAsgn rfl) ?_
    refine WL_val rfl rfl rfl (by first | exact rAsgnI rfl rfl | exact rAsgn rfl) ?_
    refine WL_nil ?_
    refine W_seq ?_
    refine W_region ?_
    refine WL_val rfl rfl rfl (by first | exact rMoveI rfl rfl | exact rMove rfl) ?_
    refine WL_val rfl rfl rfl (by first | exact rMoveI rfl rfl | exact rMove rfl) ?_
    refine WL_val rfl rfl rfl (by first | exact rEqlT rfl rfl rfl (by omega) | exact rEqlF rfl rfl rfl (by omega) | exact rEql rfl rfl rfl) ?_
    refine WL_val rfl rfl rfl (by first | exact rMoveB rfl rfl | exact rMove rfl) ?_
    first | refine WL_val rfl rfl rfl (by first | exact rMoveS rfl rfl | exact rMove rfl) ?_ | refine WL_skip rfl rfl rfl ?_
    first | refine WL_val rfl rfl rfl (rLen rfl Try.underlying22 rfl) ?_ | refine WL_skip rfl rfl rfl ?_
    first | refine WL_val rfl rfl rfl (by first | exact rMoveI rfl rfl | exact rMove rfl) ?_ | refine WL_skip rfl rfl rfl ?_
    first | refine WL_val rfl rfl rfl (by first | exact rEqlT rfl rfl rfl (by omega) | exact rEqlF rfl rfl rfl (by omega) | exact rEql rfl rfl rfl) ?_ | refine WL_skip rfl rfl rfl ?_
    refine WL_val rfl rfl rfl (by first | exact rPickTB rfl rfl rfl | exact rPickFB rfl rfl rfl | exact rPickB rfl rfl rfl rfl) ?_
    refine WL_val rfl rfl rfl (by first | exact rMoveB rfl rfl | exact rMove rfl) ?_
    first | refine WL_val rfl rfl rfl (by first | exact rMoveS rfl rfl | exact rMove rfl) ?_ | refine WL_skip rfl rfl rfl ?_
    first | refine WL_val rfl rfl rfl (by first | exact rMoveS rfl rfl | exact rMove rfl) ?_ | refine WL_skip rfl rfl rfl ?_
    refine WL_call rfl rfl rfl (rCall (vs := [.slice _ _ _, .slice _ _ _]) rfl Try.func12 rfl rfl rfl) ?_
    refine (begins_any A6 A2 f c6 _ c2 (all.take f) all _ _ _ he6 (hal2.pure hI.pu) hft rfl (by omega)).mono ?_
    rintro en w7 ⟨rfl, hp7⟩
    refine ⟨_, rfl, ?_⟩
    replace hI := hI.pure hp7
    rw [show begF (all.take f) all = true from decide_eq_true (List.take_prefix f all)]
    refine WL_val rfl rfl rfl (by first | exact rPickTB rfl rfl rfl | exact rPickFB rfl rfl rfl | exact rPickB rfl rfl rfl rfl) ?_
    refine WL_val rfl rfl rfl (by first | exact rAsgnB rfl rfl | exact rAsgn rfl) ?_
    refine WL_nil ?_
    refine W_ret ?_
    exact ret1 6 (.inr rfl) rfl ⟨rfl, hpu.trans hI.pu⟩
  · refine W_seq ?_
    refine W_seq ?_
    refine W_region ?_
    refine WL_val rfl rfl rfl (by first | exact rMoveI rfl rfl | exact rMove rfl) ?_
    refine WL_val rfl rfl rfl (by first | exact rMoveI rfl rfl | exact rMove rfl) ?_
    refine WL_val rfl rfl rfl (by first | exact rInc rfl rfl rfl (by omega) | exact rAdd rfl rfl rfl (by omega) | exact rAddW rfl rfl rfl) ?_
    refine WL_val rfl rfl rfl (by first | exact rMoveI rfl rfl | exact rMove rfl) ?_
    refine WL_val rfl rfl rfl (by first | exact rInc rfl rfl rfl (by omega) | exact rAdd rfl rfl rfl (by omega) | exact rAddW rfl rfl rfl) ?_
    refine WL_val rfl rfl rfl (by first | exact rLssT rfl rfl rfl (by omega) | exact rLssF rfl rfl rfl (by omega) | exact rLss rfl rfl rfl) ?_
    refine WL_nil ?_
    refine W_cond false rfl ?_
    refine W_skip ?_
    refine W_seq ?_
    refine W_region ?_
    refine WL_val rfl rfl rfl (by first | exact rMoveI rfl rfl | exact rMove rfl) ?_
    refine WL_val rfl rfl rfl (by first | exact rMoveI rfl rfl | exact rMove rfl) ?_
    refine WL_val rfl rfl rfl (by first | exact rInc rfl rfl rfl (by omega) | exact rAdd rfl rfl rfl (by omega) | exact rAddW rfl rfl rfl) ?_
    refine WL_val rfl rfl rfl (by first | exact rInc rfl rfl rfl (by omega) | exact rAdd rfl rfl rfl (by omega) | exact rAddW rfl rfl rfl) ?_
    refine WL_val rfl rfl rfl (by first | exact rAsgnI rfl rfl | exact rAsgn rfl) ?_
    refine WL_nil ?_
    refine W_region ?_
    refine WL_val rfl rfl rfl (by first | exact rMoveI rfl rfl | exact rMove rfl) ?_
    refine WL_val rfl rfl rfl (by first | exact rInc rfl rfl rfl (by omega) | exact rAdd rfl rfl rfl (by omega) | exact rAddW rfl rfl rfl) ?_
    refine WL_val rfl rfl rfl (by first | exact rAsgnI rfl rfl | exact rAsgn rfl) ?_
    refine WL_nil ?_
    refine ⟨⟨f + 1, by omega, by omega, ⟨?_, rfl, rfl, rfl, rfl, rfl, trivial⟩, hI⟩, by show all.length - ((f + 1 : Nat) : Int).toNat < all.length - (f : Int).toNat; omega⟩
    show Value.int .i64 ((bg : Int) + (6 + (ne : Int))) = _
    congr 1
    omega
end Go.Proofs.Ytdpeadmfalhbfaa
