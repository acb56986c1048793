/- testimonykeep: RecordBack. -/
import Derived.Test.YtdpeadmfalhbfaaRec11
namespace Go.Proofs.Ytdpeadmfalhbfaa
open Go.RowKit
set_option linter.unusedVariables false
set_option linter.unusedSimpArgs false

theorem dec_more {e : Ev} (h : evOkB e = true) (x : Nat) : decF (enc e ++ [x]) = none := by
  cases hd : decF (enc e ++ [x]) with
  | none => rfl
  | some f =>
    obtain ⟨h1, h2⟩ := decF_some hd
    have := enc_inj h1 h (r := []) (s := [x]) (by rw [List.append_nil]; exact h2)
    simp at this
theorem dec_less {e : Ev} (h : evOkB e = true) : decF ((enc e).take ((enc e).length - 1)) = none := by
  cases hd : decF ((enc e).take ((enc e).length - 1)) with
  | none => rfl
  | some f =>
    obtain ⟨h1, h2⟩ := decF_some hd
    have hp := enc_pos e
    have := enc_inj h h1 (r := []) (s := (enc e).drop ((enc e).length - 1)) (by rw [List.append_nil, h2, List.take_append_drop])
    have h3 := congrArg List.length this.2
    rw [List.length_drop] at h3
    simp at h3
    omega
theorem own_bts {w' : World} {base : Nat} {A : Option Addr} {c : Nat} {l : List Nat} (h : w'.ownsRow base 5 1 (.slice A l.length c) l.length (bytesV l)) : Bts w' (fun k => k < w'.heap.size) (.slice A l.length c) l := by
  refine Rd.of_own h (fun k hk _ => ?_)
  rw [ownBlock_slice] at hk
  exact (Row.ok h).2.1 k hk
theorem rSubN {P : Program} {ρ : Env} {o : Oper} {w : World} {x y : Operand} {t t' : TypeId} {a b : Nat} (ho : o.op = .binOp .sub t x y t') (hx : ev ρ x = .int .i64 (a : Int)) (hy : ev ρ y = .int .i64 (b : Int)) (h : b ≤ a) (ha : a ≤ 9223372036854775807) : Runs P ρ o w (.int .i64 ((a - b : Nat) : Int)) := by
  rw [show ((a - b : Nat) : Int) = (a : Int) - (b : Int) from by omega]
  exact rSub ho hx hy (by omega)
theorem rEqlSelf {P : Program} {ρ : Env} {o : Oper} {w : World} {x y : Operand} {t t' : TypeId} {n : Nat} {la : List Int} (ho : o.op = .binOp .eql t x y t') (hB : eqIntsB P t n = true) (hx : ev ρ x = .agg (i64s la).toArray) (hy : ev ρ y = .agg (i64s la).toArray) (ha : la.length = n) : Runs P ρ o w (.bool true) := by
  have := rEqlS (w := w) ho hB hx hy ha ha
  rwa [decide_eq_true rfl] at this
set_option maxHeartbeats 2000000 in
theorem back_any (e : Ev) (more : Nat) (hmore : more < 256) (w0 : World) :
    Calls Try.prog 4 #[.agg (evL e).toArray, .int .u8 more] w0 fun en w' => en = .returned (.bool true) ∧ Pure w0 w' := by
  have hI := Inv.start (fun _ => False) w0
  refine calls_of_W (N := Try.f4.ntmps) Try.func4 rfl rfl rfl ?_
  refine W_seq ?_
  refine W_region ?_
  refine WL_box (u := .agg _) (vs := #[_, _, _, _, _, _, _]) hI rfl rfl rfl rfl rfl rfl ?_
  clear hI; rintro b2 w - - hI
  refine WL_val rfl rfl rfl (by first | exact rAsgnB rfl rfl | exact rAsgn rfl) ?_
  refine WL_nil ?_
  refine W_seq ?_
  refine W_region ?_
  refine WL_val rfl rfl rfl (by first | exact rLdB (n := 7) rfl (by kernel_rfl) (by kernel_rfl) rfl rfl hI.g0 | exact rLdB (n := 7) rfl (by kernel_rfl) (by kernel_rfl) rfl rfl hI.g1 | exact rLdB (n := 7) rfl (by kernel_rfl) (by kernel_rfl) rfl rfl hI.g2 | exact rLdB (n := 7) rfl (by kernel_rfl) (by kernel_rfl) rfl rfl hI.g3 | exact rLdB (n := 7) rfl (by kernel_rfl) (by kernel_rfl) rfl rfl hI.g4 | exact rLdB (n := 7) rfl (by kernel_rfl) (by kernel_rfl) rfl rfl hI.g5) ?_
  refine WL_call rfl rfl rfl (rCall (vs := [.agg _]) rfl Try.func13 rfl rfl rfl) ?_
  refine (encode_any e _).mono ?_
  rintro en w1 ⟨hp, ⟨hok, A, c, rfl, hown⟩ | ⟨hno, x, ⟨u, rfl⟩, rfl⟩⟩
  · refine ⟨_, rfl, ?_⟩
    replace hI := hI.fresh hp (Row.ok hown) (fun k hk => Row.lo hown hk)
    have hb := NewB.bts hown
    have hel := enc_len e
    have hep := enc_pos e
    obtain ⟨g, rfl⟩ : ∃ g, A = some ⟨g, 0, none⟩ := by
      rcases hown.2 with ⟨hv, h0⟩ | ⟨g, cap, cur, hv, _⟩
      · omega
      · injection hv with hv; exact ⟨g, hv⟩
    have hcap : (enc e).length ≤ c := by
      obtain ⟨_, _, hv, h1, _⟩ := Rd.form hb
      injection hv with _ _ hv
      omega
    clear hown hp
    refine WL_val rfl rfl rfl (by first | exact rMoveT rfl rfl | exact rMove rfl) ?_
    refine WL_val rfl rfl rfl (rExtr rfl rfl rfl) ?_
    refine WL_val rfl rfl rfl (rExtr rfl rfl rfl) ?_
    refine WL_val rfl rfl rfl (by first | exact rAsgnS rfl rfl | exact rAsgn rfl) ?_
    refine WL_val rfl rfl rfl (by first | exact rAsgnN rfl rfl | exact rAsgnE rfl rfl | exact rAsgn rfl) ?_
    refine WL_nil ?_
    refine W_seq ?_
    refine W_seq ?_
    refine W_region ?_
    refine WL_call rfl rfl rfl (rCall (vs := []) rfl Try.func11 rfl rfl rfl) ?_
    refine (kept_any _).mono ?_
    rintro en w2 ⟨rfl, hp2⟩
    refine ⟨_, rfl, ?_⟩
    replace hI := hI.pure hp2
    replace hb : Bts w2 (fun k => k < w2.heap.size) _ _ := Rd.mono (hb.pure hp2) (fun k hk => Nat.lt_of_lt_of_le hk hp2.size)
    clear hp2
    refine WL_val rfl rfl rfl (by first | exact rNotT rfl rfl | exact rNotF rfl rfl | exact rNot rfl rfl) ?_
    refine WL_val rfl rfl rfl (by first | exact rMoveB rfl rfl | exact rMove rfl) ?_
    first | refine WL_val rfl rfl rfl (by first | exact rMoveN rfl rfl | exact rMoveE rfl rfl | exact rMove rfl) ?_ | refine WL_skip rfl rfl rfl ?_
    first | refine WL_val rfl rfl rfl (by first | exact rIfaceNe rfl Try.underlying29 rfl rfl | exact rNilNe rfl Try.underlying29 rfl) ?_ | refine WL_skip rfl rfl rfl ?_
    refine WL_val rfl rfl rfl (by first | exact rPickTB rfl rfl rfl | exact rPickFB rfl rfl rfl | exact rPickB rfl rfl rfl rfl) ?_
    refine WL_nil ?_
    refine W_cond false rfl ?_
    refine W_skip ?_
    refine W_seq ?_
    refine W_region ?_
    refine WL_val rfl rfl rfl (by first | exact rMoveS rfl rfl | exact rMove rfl) ?_
    refine WL_call rfl rfl rfl (rCall (vs := [.slice _ _ _]) rfl Try.func14 rfl rfl rfl) ?_
    refine (decode_any _ _ c (enc e) _ _ hb rfl (enc_byte hok) (by omega) (fun k hk => hk)).mono ?_
    rintro en w3 ⟨hp3, ⟨f, hdec, rfl⟩ | ⟨hdec, _⟩⟩
    rotate_left
    · rw [decF_enc hok] at hdec; cases hdec
    rw [decF_enc hok] at hdec
    injection hdec with hdec
    subst hdec
    refine ⟨_, rfl, ?_⟩
    replace hI := hI.pure hp3
    replace hb : Bts w3 (fun k => k < w2.heap.size) _ _ := hb.pure hp3
    refine WL_val rfl rfl rfl (by first | exact rMoveT rfl rfl | exact rMove rfl) ?_
    refine WL_val rfl rfl rfl (rExtr rfl rfl rfl) ?_
    refine WL_val rfl rfl rfl (rExtr rfl rfl rfl) ?_
    refine WL_alloc (u := .agg #[.int .i64 0, .int .i64 0, .int .i64 0, .int .i64 0, .int .i64 0, .int .i64 0, .int .i64 0]) (vs := #[.int .i64 0, .int .i64 0, .int .i64 0, .int .i64 0, .int .i64 0, .int .i64 0, .int .i64 0]) hI rfl rfl rfl rfl (by kernel_rfl) rfl ?_
    clear hI; rintro b7 w - - hI
    first | refine WL_stw0 (u := .agg _) (vs := #[_, _, _, _, _, _, _]) (n := 7) hI rfl rfl rfl rfl rfl rfl (by kernel_rfl) rfl rfl rfl ?_ | refine WL_stw1 (u := .agg _) (vs := #[_, _, _, _, _, _, _]) (n := 7) hI rfl rfl rfl rfl rfl rfl (by kernel_rfl) rfl rfl rfl ?_ | refine WL_stw2 (u := .agg _) (vs := #[_, _, _, _, _, _, _]) (n := 7) hI rfl rfl rfl rfl rfl rfl (by kernel_rfl) rfl rfl rfl ?_ | refine WL_stw3 (u := .agg _) (vs := #[_, _, _, _, _, _, _]) (n := 7) hI rfl rfl rfl rfl rfl rfl (by kernel_rfl) rfl rfl rfl ?_ | refine WL_stw4 (u := .agg _) (vs := #[_, _, _, _, _, _, _]) (n := 7) hI rfl rfl rfl rfl rfl rfl (by kernel_rfl) rfl rfl rfl ?_ | refine WL_stw5 (u := .agg _) (vs := #[_, _, _, _, _, _, _]) (n := 7) hI rfl rfl rfl rfl rfl rfl (by kernel_rfl) rfl rfl rfl ?_
    clear hI; intro w hI
    refine WL_val rfl rfl rfl (by first | exact rAsgnN rfl rfl | exact rAsgnE rfl rfl | exact rAsgn rfl) ?_
    refine WL_nil ?_
    refine W_seq ?_
    refine W_region ?_
    refine WL_lit (vs := []) (qs := []) [] [] hI rfl rfl rfl rfl rfl rfl Try.underlying24 (fun _ => by kernel_rfl) ?_
    clear hI; rintro b36 w - - hI
    have hlo := (hI.own _ (List.mem_of_getElem? (i := 0) rfl) b36 rfl).resolve_left id
    replace hI := hI.u0 (e' := Row w0.heap.size 5 1 (some ⟨b36, 0, none⟩) 0 0 (bytesV [])) (Chg.refl _ _) (Row.of_blk hI.g0 hlo rfl (by omega)) (fun k hk => .inl (by have : some b36 = some k := hk; injection this with this; exact this.symm))
    have hbw := own_bts hI.g2
    refine WL_val rfl rfl rfl (by first | exact rMoveS rfl rfl | exact rMove rfl) ?_
    -- STOP: call ['Op.call', ('st', {'callee': ['Callee.builtin', 'Builtin.append'], 'args': ('arr', [['Operand.tmp', '36'], ['Operand.tmp', '37']]), 'argTypes': ('arr
    refine WL_app0 (z := .int .u8 0) (by_ := 1) (news := bytesV (enc e)) hI rfl rfl rfl rfl rfl rfl Try.underlying24 (by kernel_rfl) rfl (by omega) (by rw [bytesV_len, Nat.mul_one]) hbw.cells (bytesV_one _) (by omega) (by omega) hI.pu.size ?_
    clear hI hbw; rintro A4 c4 w hc3 hc4 hI
    refine WL_val rfl rfl rfl (by first | exact rMoveI rfl rfl | exact rMove rfl) ?_
    refine WL_lit (vs := [_]) (qs := [(0, .int .u8 _)]) [.int .u8 0] [0] hI rfl rfl rfl rfl rfl rfl Try.underlying24 (fun _ => by kernel_rfl) ?_
    clear hI; rintro b40 w - - hI
    -- STOP: call ['Op.call', ('st', {'callee': ['Callee.builtin', 'Builtin.append'], 'args': ('arr', [['Operand.tmp', '38'], ['Operand.tmp', '40']]), 'argTypes': ('arr
    refine WL_app1 (z := .int .u8 0) (by_ := 1) (news := bytesV [more]) hI rfl rfl rfl rfl rfl rfl Try.underlying24 (by kernel_rfl) rfl (by omega) rfl (fun k u hk => by rw [Nat.zero_add]; exact (hI.g0.cell k).trans (by simpa [bytesV] using hk)) rfl (by omega) (by omega) hI.pu.size ?_
    clear hI; rintro A5 c5 w hc5 hc6 hI
    have hm2 : (enc e ++ [more]).length = 0 + (enc e).length + 1 := by rw [List.length_append, Nat.zero_add]; rfl
    have hb2 : Bts w (fun k => k < w.heap.size) (.slice A5 (enc e ++ [more]).length c5) (enc e ++ [more]) := by
      refine own_bts (base := w0.heap.size) ?_
      rw [hm2, bytesV_append]
      exact hI.g1
    rw [← hm2]
    refine WL_call rfl rfl rfl (rCall (vs := [.slice _ _ _]) rfl Try.func14 rfl rfl rfl) ?_
    refine (decode_any _ _ c5 (enc e ++ [more]) _ _ hb2 rfl (fun x hx => by
      rcases List.mem_append.1 hx with hx | hx
      · exact enc_byte hok x hx
      · simp at hx; omega) (by omega) (fun k hk => hk)).mono ?_
    rintro en w4 ⟨hp4, ⟨f, hdec, rfl⟩ | ⟨hdec, x, ⟨u, rfl⟩, rfl⟩⟩
    · rw [dec_more hok] at hdec; cases hdec
    refine ⟨_, rfl, ?_⟩
    replace hI := hI.pure hp4
    clear hb2 hp4
    refine WL_val rfl rfl rfl (by first | exact rMoveT rfl rfl | exact rMove rfl) ?_
    refine WL_val rfl rfl rfl (rExtr rfl rfl rfl) ?_
    refine WL_val rfl rfl rfl (rExtr rfl rfl rfl) ?_
    refine WL_alloc (u := .agg #[.int .i64 0, .int .i64 0, .int .i64 0, .int .i64 0, .int .i64 0, .int .i64 0, .int .i64 0]) (vs := #[.int .i64 0, .int .i64 0, .int .i64 0, .int .i64 0, .int .i64 0, .int .i64 0, .int .i64 0]) hI rfl rfl rfl rfl (by kernel_rfl) rfl ?_
    clear hI; rintro b9 w - - hI
    first | refine WL_stw0 (u := .agg _) (vs := #[_, _, _, _, _, _, _]) (n := 7) hI rfl rfl rfl rfl rfl rfl (by kernel_rfl) rfl rfl rfl ?_ | refine WL_stw1 (u := .agg _) (vs := #[_, _, _, _, _, _, _]) (n := 7) hI rfl rfl rfl rfl rfl rfl (by kernel_rfl) rfl rfl rfl ?_ | refine WL_stw2 (u := .agg _) (vs := #[_, _, _, _, _, _, _]) (n := 7) hI rfl rfl rfl rfl rfl rfl (by kernel_rfl) rfl rfl rfl ?_ | refine WL_stw3 (u := .agg _) (vs := #[_, _, _, _, _, _, _]) (n := 7) hI rfl rfl rfl rfl rfl rfl (by kernel_rfl) rfl rfl rfl ?_ | refine WL_stw4 (u := .agg _) (vs := #[_, _, _, _, _, _, _]) (n := 7) hI rfl rfl rfl rfl rfl rfl (by kernel_rfl) rfl rfl rfl ?_ | refine WL_stw5 (u := .agg _) (vs := #[_, _, _, _, _, _, _]) (n := 7) hI rfl rfl rfl rfl rfl rfl (by kernel_rfl) rfl rfl rfl ?_
    clear hI; intro w hI
    refine WL_val rfl rfl rfl (by first | exact rAsgnN rfl rfl | exact rAsgnE rfl rfl | exact rAsgn rfl) ?_
    refine WL_nil ?_
    replace hI := hI.d0.d0.d0
    have hb3 := (own_bts hI.g1).take (k := (enc e).length - 1) (by omega) (by omega) (Nat.le_refl _)
    refine W_seq ?_
    refine W_region ?_
    refine WL_val rfl rfl rfl (by first | exact rMoveS rfl rfl | exact rMove rfl) ?_
    refine WL_val rfl rfl rfl (by first | exact rMoveS rfl rfl | exact rMove rfl) ?_
    refine WL_val rfl rfl rfl (rLen rfl Try.underlying24 rfl) ?_
    refine WL_val rfl rfl rfl (rSubN (b := 1) rfl rfl rfl (by omega) (by omega)) ?_
    refine WL_val rfl rfl rfl (rSliceTo (sz := 1) rfl Try.underlying24 (by kernel_rfl) rfl rfl (by omega)) ?_
    refine WL_call rfl rfl rfl (rCall (vs := [.slice _ _ _]) rfl Try.func14 rfl rfl rfl) ?_
    refine (decode_any _ _ c ((enc e).take ((enc e).length - 1)) _ _ hb3 (by rw [List.length_take]; omega) (fun x hx => enc_byte hok x (List.mem_of_mem_take hx)) (by omega) (fun k hk => hk)).mono ?_
    rintro en w5 ⟨hp5, ⟨f, hdec, rfl⟩ | ⟨hdec, x, ⟨u, rfl⟩, rfl⟩⟩
    · rw [dec_less hok] at hdec; cases hdec
    refine ⟨_, rfl, ?_⟩
    replace hI := hI.pure hp5
    clear hb3 hp5
    refine WL_val rfl rfl rfl (by first | exact rMoveT rfl rfl | exact rMove rfl) ?_
    refine WL_val rfl rfl rfl (rExtr rfl rfl rfl) ?_
    refine WL_val rfl rfl rfl (rExtr rfl rfl rfl) ?_
    refine WL_alloc (u := .agg #[.int .i64 0, .int .i64 0, .int .i64 0, .int .i64 0, .int .i64 0, .int .i64 0, .int .i64 0]) (vs := #[.int .i64 0, .int .i64 0, .int .i64 0, .int .i64 0, .int .i64 0, .int .i64 0, .int .i64 0]) hI rfl rfl rfl rfl (by kernel_rfl) rfl ?_
    clear hI; rintro b11 w - - hI
    first | refine WL_stw0 (u := .agg _) (vs := #[_, _, _, _, _, _, _]) (n := 7) hI rfl rfl rfl rfl rfl rfl (by kernel_rfl) rfl rfl rfl ?_ | refine WL_stw1 (u := .agg _) (vs := #[_, _, _, _, _, _, _]) (n := 7) hI rfl rfl rfl rfl rfl rfl (by kernel_rfl) rfl rfl rfl ?_ | refine WL_stw2 (u := .agg _) (vs := #[_, _, _, _, _, _, _]) (n := 7) hI rfl rfl rfl rfl rfl rfl (by kernel_rfl) rfl rfl rfl ?_ | refine WL_stw3 (u := .agg _) (vs := #[_, _, _, _, _, _, _]) (n := 7) hI rfl rfl rfl rfl rfl rfl (by kernel_rfl) rfl rfl rfl ?_ | refine WL_stw4 (u := .agg _) (vs := #[_, _, _, _, _, _, _]) (n := 7) hI rfl rfl rfl rfl rfl rfl (by kernel_rfl) rfl rfl rfl ?_ | refine WL_stw5 (u := .agg _) (vs := #[_, _, _, _, _, _, _]) (n := 7) hI rfl rfl rfl rfl rfl rfl (by kernel_rfl) rfl rfl rfl ?_
    clear hI; intro w hI
    refine WL_val rfl rfl rfl (by first | exact rAsgnN rfl rfl | exact rAsgnE rfl rfl | exact rAsgn rfl) ?_
    refine WL_nil ?_
    replace hI := hI.d0
    refine W_seq ?_
    refine W_region ?_
    refine WL_val rfl rfl rfl (by first | exact rMoveN rfl rfl | exact rMoveE rfl rfl | exact rMove rfl) ?_
    refine WL_val rfl rfl rfl (by first | exact rIfaceEq rfl Try.underlying29 rfl rfl | exact rNilEq rfl Try.underlying29 rfl) ?_
    refine WL_val rfl rfl rfl (by first | exact rMoveB rfl rfl | exact rMove rfl) ?_
    first | refine WL_val rfl rfl rfl (by first | exact rLdB (n := 7) rfl (by kernel_rfl) (by kernel_rfl) rfl rfl hI.g0 | exact rLdB (n := 7) rfl (by kernel_rfl) (by kernel_rfl) rfl rfl hI.g1 | exact rLdB (n := 7) rfl (by kernel_rfl) (by kernel_rfl) rfl rfl hI.g2) ?_ | refine WL_skip rfl rfl rfl ?_
    first | refine WL_val rfl rfl rfl (by first | exact rLdB (n := 7) rfl (by kernel_rfl) (by kernel_rfl) rfl rfl hI.g0 | exact rLdB (n := 7) rfl (by kernel_rfl) (by kernel_rfl) rfl rfl hI.g1 | exact rLdB (n := 7) rfl (by kernel_rfl) (by kernel_rfl) rfl rfl hI.g2) ?_ | refine WL_skip rfl rfl rfl ?_
    first | refine WL_val rfl rfl rfl (rEqlSelf (n := 7) (la := evI e) rfl (by kernel_rfl) rfl rfl rfl) ?_ | refine WL_skip rfl rfl rfl ?_
    refine WL_val rfl rfl rfl (by first | exact rPickTB rfl rfl rfl | exact rPickFB rfl rfl rfl | exact rPickB rfl rfl rfl rfl) ?_
    refine WL_val rfl rfl rfl (by first | exact rMoveB rfl rfl | exact rMove rfl) ?_
    first | refine WL_val rfl rfl rfl (by first | exact rMoveN rfl rfl | exact rMoveE rfl rfl | exact rMove rfl) ?_ | refine WL_skip rfl rfl rfl ?_
    first | refine WL_val rfl rfl rfl (by first | exact rIfaceNe rfl Try.underlying29 rfl rfl | exact rNilNe rfl Try.underlying29 rfl) ?_ | refine WL_skip rfl rfl rfl ?_
    refine WL_val rfl rfl rfl (by first | exact rPickTB rfl rfl rfl | exact rPickFB rfl rfl rfl | exact rPickB rfl rfl rfl rfl) ?_
    refine WL_val rfl rfl rfl (by first | exact rMoveB rfl rfl | exact rMove rfl) ?_
    first | refine WL_val rfl rfl rfl (by first | exact rMoveN rfl rfl | exact rMoveE rfl rfl | exact rMove rfl) ?_ | refine WL_skip rfl rfl rfl ?_
    first | refine WL_val rfl rfl rfl (by first | exact rIfaceNe rfl Try.underlying29 rfl rfl | exact rNilNe rfl Try.underlying29 rfl) ?_ | refine WL_skip rfl rfl rfl ?_
    refine WL_val rfl rfl rfl (by first | exact rPickTB rfl rfl rfl | exact rPickFB rfl rfl rfl | exact rPickB rfl rfl rfl rfl) ?_
    refine WL_val rfl rfl rfl (by first | exact rAsgnB rfl rfl | exact rAsgn rfl) ?_
    refine WL_nil ?_
    refine W_ret ?_
    exact ret1 4 (.inr rfl) rfl ⟨rfl, hI.pu⟩
  · refine ⟨_, rfl, ?_⟩
    replace hI := hI.pure hp
    refine WL_val rfl rfl rfl (by first | exact rMoveT rfl rfl | exact rMove rfl) ?_
    refine WL_val rfl rfl rfl (rExtr rfl rfl rfl) ?_
    refine WL_val rfl rfl rfl (rExtr rfl rfl rfl) ?_
    refine WL_val rfl rfl rfl (by first | exact rAsgnS rfl rfl | exact rAsgn rfl) ?_
    refine WL_val rfl rfl rfl (by first | exact rAsgnN rfl rfl | exact rAsgnE rfl rfl | exact rAsgn rfl) ?_
    refine WL_nil ?_
    refine W_seq ?_
    refine W_seq ?_
    refine W_region ?_
    refine WL_call rfl rfl rfl (rCall (vs := []) rfl Try.func11 rfl rfl rfl) ?_
    refine (kept_any _).mono ?_
    rintro en w2 ⟨rfl, hp2⟩
    refine ⟨_, rfl, ?_⟩
    replace hI := hI.pure hp2
    refine WL_val rfl rfl rfl (by first | exact rNotT rfl rfl | exact rNotF rfl rfl | exact rNot rfl rfl) ?_
    refine WL_val rfl rfl rfl (by first | exact rMoveB rfl rfl | exact rMove rfl) ?_
    first | refine WL_val rfl rfl rfl (by first | exact rMoveN rfl rfl | exact rMoveE rfl rfl | exact rMove rfl) ?_ | refine WL_skip rfl rfl rfl ?_
    first | refine WL_val rfl rfl rfl (by first | exact rIfaceNe rfl Try.underlying29 rfl rfl | exact rNilNe rfl Try.underlying29 rfl) ?_ | refine WL_skip rfl rfl rfl ?_
    refine WL_val rfl rfl rfl (by first | exact rPickTB rfl rfl rfl | exact rPickFB rfl rfl rfl | exact rPickB rfl rfl rfl rfl) ?_
    refine WL_nil ?_
    refine W_cond true rfl ?_
    refine W_seq ?_
    refine W_region ?_
    refine WL_call rfl rfl rfl (rCall (vs := []) rfl Try.func11 rfl rfl rfl) ?_
    refine (kept_any _).mono ?_
    rintro en w3 ⟨rfl, hp3⟩
    refine ⟨_, rfl, ?_⟩
    replace hI := hI.pure hp3
    refine WL_val rfl rfl rfl (by first | exact rMoveB rfl rfl | exact rMove rfl) ?_
    first | refine WL_val rfl rfl rfl (by first | exact rMoveS rfl rfl | exact rMove rfl) ?_ | refine WL_skip rfl rfl rfl ?_
    first | refine WL_val rfl rfl rfl (rLen rfl Try.underlying24 rfl) ?_ | refine WL_skip rfl rfl rfl ?_
    first | refine WL_val rfl rfl rfl (by first | exact rEqlT rfl rfl rfl (by omega) | exact rEqlF rfl rfl rfl (by omega) | exact rEql rfl rfl rfl) ?_ | refine WL_skip rfl rfl rfl ?_
    refine WL_val rfl rfl rfl (by first | exact rPickTB rfl rfl rfl | exact rPickFB rfl rfl rfl | exact rPickB rfl rfl rfl rfl) ?_
    refine WL_val rfl rfl rfl (by first | exact rAsgnB rfl rfl | exact rAsgn rfl) ?_
    refine WL_nil ?_
    refine W_ret ?_
    exact ret1 4 (.inr rfl) rfl ⟨rfl, hI.pu⟩
end Go.Proofs.Ytdpeadmfalhbfaa
