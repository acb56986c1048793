/- record: the log: Add, Sync, Size. -/
import Derived.Test.YtfagfkgmibmanaaRec4
namespace Go.Proofs.Ytfagfkgmibmanaa
open Go.RowKit
set_option linter.unusedVariables false
set_option linter.unusedSimpArgs false

/-- A log: its cell and its bytes. -/
def LogE (lg : Nat) (A : Option Addr) (c : Nat) (bs : List Nat) (sure count : Nat) : Ent :=
  ⟨fun k => k = lg ∨ A.map (·.block) = some k, fun w => Blk w lg 47 #[.slice A bs.length c, .int .i64 (sure : Int), .int .i64 (count : Int)] ∧ w.ownsRow 0 5 1 (.slice A bs.length c) bs.length (bytesV bs) ∧ A.map (·.block) ≠ some lg⟩
section
variable {w w' w0 : World} {lg c sure count : Nat} {A : Option Addr} {bs : List Nat}
theorem LogE.ok (h : (LogE lg A c bs sure count).Φ w) : (LogE lg A c bs sure count).ok w := by
  obtain ⟨h1, h2, h3⟩ := h
  refine Ent.mk_ok ⟨h1, h2, h3⟩ (fun k hk => ?_) (fun S w1 w2 hc hS hh => ⟨hh.1.chg hc (hS lg (.inl rfl)), ((Row.ok hh.2.1).2.2 S w1 w2 hc (fun k hk => hS k (.inr hk)) hh.2.1), hh.2.2⟩)
  rcases hk with rfl | hk
  · exact h1.lt
  · exact (Row.ok h2).2.1 k hk
/-- Opened to its parts. -/
theorem LogE.open (h : (LogE lg A c bs sure count).Φ w) : Inv (LogE lg A c bs sure count).D w w [B lg 47 #[.slice A bs.length c, .int .i64 (sure : Int), .int .i64 (count : Int)], Row 0 5 1 A bs.length c (bytesV bs)] := by
  obtain ⟨h1, h2, h3⟩ := h
  refine ⟨Chg.refl _ w, fun e he => ?_, fun e he k hk => ?_, ?_⟩
  · simp only [List.mem_cons, List.not_mem_nil, or_false] at he
    rcases he with rfl | rfl
    · exact B.ok h1
    · exact Row.ok h2
  · simp only [List.mem_cons, List.not_mem_nil, or_false] at he
    rcases he with rfl | rfl
    · exact .inl (.inl hk)
    · exact .inl (.inr hk)
  · simp only [List.pairwise_cons, List.mem_cons, List.not_mem_nil, or_false, forall_eq, List.Pairwise.nil, and_true, false_implies, implies_true]
    intro k hk hk2
    have e1 : k = lg := hk
    subst e1
    exact h3 hk2
theorem LogE.shut {S : Nat → Prop} {H : List Ent} (h : Inv S w0 w (B lg 47 #[.slice A bs.length c, .int .i64 (sure : Int), .int .i64 (count : Int)] :: Row 0 5 1 A bs.length c (bytesV bs) :: H)) :
    (LogE lg A c bs sure count).Φ w ∧ ∀ k, (LogE lg A c bs sure count).D k → S k ∨ w0.heap.size ≤ k := by
  refine ⟨⟨h.g0, h.g1, fun e => ?_⟩, fun k hk => ?_⟩
  · exact h.disj (i := 0) (j := 1) rfl rfl (by omega) lg rfl e
  · rcases hk with rfl | hk
    · exact h.own _ (List.mem_of_getElem? (i := 0) rfl) k rfl
    · exact h.own _ (List.mem_of_getElem? (i := 1) rfl) k hk
theorem LogE.len (h : (LogE lg A c bs sure count).Φ w) : bs.length ≤ c ∧ c ≤ 9223372036854775807 := by
  obtain ⟨_, h2, _⟩ := h
  obtain ⟨_, _, hv, h3, h4⟩ := (Rd.of_own (D := fun _ => True) h2 (fun _ _ _ => trivial)).form
  injection hv with _ _ hv
  subst hv
  exact ⟨h3, h4⟩
theorem LogE.bts (h : (LogE lg A c bs sure count).Φ w) : Bts w (fun _ => True) (.slice A bs.length c) bs := Rd.of_own h.2.1 (fun _ _ _ => trivial)
end

def AddPost (w : World) (lg : Nat) (A : Option Addr) (c : Nat) (bs : List Nat) (sure count : Nat) (e : Ev) (en : Ending) (w' : World) : Prop :=
  (evOkB e = true ∧ count < 120 ∧ en = .returned .nilIface ∧ ∃ A' c', Chg (LogE lg A c bs sure count).D w w' ∧ (LogE lg A' c' (bs ++ frameF (enc e)) sure (count + 1)).Φ w' ∧ ∀ k, (LogE lg A' c' (bs ++ frameF (enc e)) sure (count + 1)).D k → (LogE lg A c bs sure count).D k ∨ w.heap.size ≤ k) ∨
  ((evOkB e = false ∨ 120 ≤ count) ∧ (∃ x, IsErr x ∧ en = .returned x) ∧ Pure w w')

theorem Row.lo {w : World} {base e size n c k : Nat} {A : Option Addr} {xs : List Value} (h : w.ownsRow base e size (.slice A n c) n xs) (hk : A.map (·.block) = some k) : base ≤ k := by
  rcases h.2 with ⟨hv, _⟩ | ⟨g, cap, cur, hv, hg, _⟩
  · injection hv with hv; subst hv; simp at hk
  · injection hv with hv; subst hv; simp at hk; omega
theorem enc_pos (e : Ev) : 0 < (enc e).length := by unfold enc; simp
set_option maxHeartbeats 1000000 in
theorem add_any (lg : Nat) (A : Option Addr) (c : Nat) (bs : List Nat) (sure count : Nat) (e : Ev) (w0 : World) (h : (LogE lg A c bs sure count).Φ w0) (hbs : bs.length ≤ 1000000) (hcnt : count ≤ 1000) :
    Calls Try.prog 10 #[.pointer (some ⟨lg, 0, none⟩), .agg (evL e).toArray] w0 (AddPost w0 lg A c bs sure count e) := by
  obtain ⟨hBk, hRow, hne⟩ := id h
  have hcell2 : w0.cell? ⟨lg, 2, none⟩ = some (.int .i64 (count : Int)) := hBk.cell 2
  by_cases hgood : evOkB e = true ∧ count < 120
  · obtain ⟨hok, hc120⟩ := hgood
    have hI := LogE.open h
    refine calls_of_W (N := Try.f10.ntmps) Try.func10 rfl rfl rfl ?_
    refine W_seq ?_
    refine W_region ?_
    refine WL_box (u := .agg _) (vs := #[_, _, _, _, _, _, _]) hI rfl rfl rfl rfl rfl rfl ?_
    clear hI; rintro b3 w - - hI
    refine WL_val rfl rfl rfl (by first | exact rAsgnN rfl rfl | exact rAsgnE rfl rfl | exact rAsgn rfl) ?_
    refine WL_nil ?_
    refine W_seq ?_
    refine W_region ?_
    refine WL_val rfl rfl rfl (by first | exact rLdB (n := 7) rfl (by kernel_rfl) (by kernel_rfl) rfl rfl hI.g0) ?_
    refine WL_call rfl rfl rfl (rCall (vs := [.agg _]) rfl Try.func16 rfl rfl rfl) ?_
    refine (encode_any e _).mono ?_
    rintro en w1 ⟨hp, ⟨_, A2, c2, rfl, hown⟩ | ⟨hno, _⟩⟩
    rotate_left
    · rw [hok] at hno; cases hno
    refine ⟨_, rfl, ?_⟩
    replace hI := hI.fresh hp (Row.ok hown) (fun k hk => Row.lo hown hk)
    clear hown hp
    refine WL_val rfl rfl rfl (by first | exact rMoveT rfl rfl | exact rMove rfl) ?_
    refine WL_val rfl rfl rfl (rExtr rfl rfl rfl) ?_
    refine WL_val rfl rfl rfl (rExtr rfl rfl rfl) ?_
    refine WL_val rfl rfl rfl (by first | exact rAsgnS rfl rfl | exact rAsgn rfl) ?_
    refine WL_val rfl rfl rfl (by first | exact rAsgnN rfl rfl | exact rAsgnE rfl rfl | exact rAsgn rfl) ?_
    refine WL_nil ?_
    refine W_seq ?_
    refine W_block ?_
    refine W_seq ?_
    refine W_region ?_
    refine WL_val rfl rfl rfl (by first | exact rMoveN rfl rfl | exact rMoveE rfl rfl | exact rMove rfl) ?_
    refine WL_val rfl rfl rfl (by first | exact rIfaceNe rfl Try.underlying32 rfl rfl | exact rNilNe rfl Try.underlying32 rfl) ?_
    refine WL_val rfl rfl rfl (by first | exact rAsgnB rfl rfl | exact rAsgn rfl) ?_
    refine WL_nil ?_
    refine W_cond false rfl ?_
    refine W_seq ?_
    refine W_region ?_
    refine WL_val rfl rfl rfl (by first | exact rMoveP rfl rfl | exact rMove rfl) ?_
    refine WL_val rfl rfl rfl (rNilChk rfl rfl) ?_
    refine WL_val rfl rfl rfl (by first | exact rFldN (off := 2) rfl (by kernel_rfl) rfl | exact rFld (off := 2) rfl (by kernel_rfl) rfl) ?_
    refine WL_val rfl rfl rfl (by first | exact rLd (v := .int .i64 _) rfl (by kernel_rfl) rfl (by first | exact hI.c0 rfl | exact hI.c1 rfl | exact hI.c2 rfl) | exact rLd rfl (by kernel_rfl) rfl (by first | exact hI.c0 rfl | exact hI.c1 rfl | exact hI.c2 rfl)) ?_
    refine WL_val rfl rfl rfl (by first | exact rGeqT rfl rfl rfl (by omega) | exact rGeqF rfl rfl rfl (by omega) | exact rGeq rfl rfl rfl) ?_
    refine WL_val rfl rfl rfl (by first | exact rAsgnB rfl rfl | exact rAsgn rfl) ?_
    refine WL_nil ?_
    refine W_cond false rfl ?_
    refine W_skip ?_
    refine W_seq ?_
    refine W_draw (by kernel_rfl) ?_
    refine WA_inv (T := [10]) hI.d0.d0.d1.drew ?_
    intro Sx hSx hXS
    replace hI := hI.drew
    refine WT_take 0 rfl rfl (by kernel_rfl) (hXS _ hI.d0.d0.d1) rfl (fun W hW => have hI := hSx W hW; (by first | exact rMoveP rfl rfl | exact rMove rfl)) ?_
    refine WT_take 1 rfl rfl (by kernel_rfl) (hXS _ hI.d0.d0.d1) rfl (fun W hW => have hI := hSx W hW; (by first | exact rMoveP rfl rfl | exact rMove rfl)) ?_
    refine WT_take 2 rfl rfl (by kernel_rfl) (hXS _ hI.d0.d0.d1) rfl (fun W hW => have hI := hSx W hW; (rNilChk rfl rfl)) ?_
    refine WT_take 3 rfl rfl (by kernel_rfl) (hXS _ hI.d0.d0.d1) rfl (fun W hW => have hI := hSx W hW; (by first | exact rFldN (off := 0) rfl (by kernel_rfl) rfl | exact rFld0 rfl (by kernel_rfl) rfl)) ?_
    refine WT_take 4 rfl rfl (by kernel_rfl) (hXS _ hI.d0.d0.d1) rfl (fun W hW => have hI := hSx W hW; (by first | exact rLd (v := .slice _ _ _) rfl (by kernel_rfl) rfl (by first | exact hI.c0 rfl) | exact rLd rfl (by kernel_rfl) rfl (by first | exact hI.c0 rfl))) ?_
    refine WT_take 5 rfl rfl (by kernel_rfl) (hXS _ hI.d0.d0.d1) rfl (fun W hW => have hI := hSx W hW; (by first | exact rMoveS rfl rfl | exact rMove rfl)) ?_
    refine WT_one 6 rfl (by kernel_rfl) rfl ?_
    refine WL_call rfl rfl rfl (rCall (vs := [.slice _ _ _]) rfl Try.func17 rfl rfl rfl) ?_
    have henc : Bts _ (fun _ => True) (.slice A2 (enc e).length c2) (enc e) := Rd.of_own hI.g0 (fun _ _ _ => trivial)
    have hel := enc_len e
    have hep := enc_pos e
    refine (frame_any A2 _ c2 (enc e) _ _ henc rfl (enc_byte hok) (by omega) hep).mono ?_
    rintro en w2 ⟨hp2, A3, c3, rfl, hown3⟩
    refine ⟨_, rfl, ?_⟩
    have hfl : (frameF (enc e)).length = 6 + (enc e).length := by unfold frameF; simp [headF]; omega
    obtain ⟨b3, rfl⟩ : ∃ b, A3 = some ⟨b, 0, none⟩ := by
      rcases hown3.2 with ⟨hv, h0⟩ | ⟨g, cap, cur, hv, _⟩
      · omega
      · injection hv with hv; exact ⟨g, hv⟩
    have hfr : Bts _ (fun _ => True) (.slice (some ⟨b3, 0, none⟩) (frameF (enc e)).length c3) (frameF (enc e)) := Rd.of_own hown3 (fun _ _ _ => trivial)
    replace hI := hI.pure hp2
    clear hp2 hown3 henc
    refine WL_nil ⟨hXS _ hI.d0.d0.d1, ?_⟩
    refine WT_one 7 rfl (by kernel_rfl) rfl ?_
    -- STOP: call ['Op.call', ('st', {'callee': ['Callee.builtin', 'Builtin.append'], 'args': ('arr', [['Operand.tmp', '27'], ['Operand.tmp', '29']]), 'argTypes': ('arr
    refine WL_app3 (z := .int .u8 0) (by_ := 1) (news := bytesV (frameF (enc e))) hI rfl rfl rfl rfl rfl rfl Try.underlying45 (by kernel_rfl) rfl (by omega) (by rw [bytesV_len, Nat.mul_one]) hfr.cells (bytesV_one _) (by omega) (by omega) (Nat.zero_le _) ?_
    clear hI hfr; rintro A' c' w hc1 hc2 hI
    refine WL_nil ⟨hXS _ hI.d0.d0.d1, ?_⟩
    refine WT_take 8 rfl rfl (by kernel_rfl) (hXS _ hI.d0.d0.d1) rfl (fun W hW => have hI := hSx W hW; (rNilChk rfl rfl)) ?_
    refine WT_take 9 rfl rfl (by kernel_rfl) (hXS _ hI.d0.d0.d1) rfl (fun W hW => have hI := hSx W hW; (by first | exact rFldN (off := 0) rfl (by kernel_rfl) rfl | exact rFld0 rfl (by kernel_rfl) rfl)) ?_
    refine WT_A (by kernel_rfl) ?_
    clear hXS hSx
    refine WA_one 10 rfl (by kernel_rfl) ?_
    first | refine WL_stw0 (u := .slice _ _ _) (vs := #[_]) (n := 1) hI rfl rfl rfl rfl rfl rfl (by kernel_rfl) rfl rfl rfl ?_ | refine WL_stw1 (u := .slice _ _ _) (vs := #[_]) (n := 1) hI rfl rfl rfl rfl rfl rfl (by kernel_rfl) rfl rfl rfl ?_ | refine WL_stw2 (u := .slice _ _ _) (vs := #[_]) (n := 1) hI rfl rfl rfl rfl rfl rfl (by kernel_rfl) rfl rfl rfl ?_ | refine WL_st0 (u := .slice _ _ _) hI rfl rfl rfl rfl rfl rfl (by kernel_rfl) rfl rfl rfl ?_ | refine WL_st1 (u := .slice _ _ _) hI rfl rfl rfl rfl rfl rfl (by kernel_rfl) rfl rfl rfl ?_ | refine WL_st2 (u := .slice _ _ _) hI rfl rfl rfl rfl rfl rfl (by kernel_rfl) rfl rfl rfl ?_
    clear hI; intro w hI
    refine WL_nil ?_
    refine WA_end (by kernel_rfl) ?_
    refine W_seq ?_
    refine W_region ?_
    refine WL_val rfl rfl rfl (by first | exact rMoveP rfl rfl | exact rMove rfl) ?_
    refine WL_val rfl rfl rfl (rNilChk rfl rfl) ?_
    refine WL_val rfl rfl rfl (by first | exact rFldN (off := 2) rfl (by kernel_rfl) rfl | exact rFld (off := 2) rfl (by kernel_rfl) rfl) ?_
    refine WL_val rfl rfl rfl (by first | exact rLd (v := .int .i64 _) rfl (by kernel_rfl) rfl (by first | exact hI.c0 rfl | exact hI.c1 rfl | exact hI.c2 rfl) | exact rLd rfl (by kernel_rfl) rfl (by first | exact hI.c0 rfl | exact hI.c1 rfl | exact hI.c2 rfl)) ?_
    refine WL_val rfl rfl rfl (by first | exact rInc rfl rfl rfl (by omega) | exact rAdd rfl rfl rfl (by omega) | exact rAddW rfl rfl rfl) ?_
    refine WL_val rfl rfl rfl (rNilChk rfl rfl) ?_
    refine WL_val rfl rfl rfl (by first | exact rFldN (off := 2) rfl (by kernel_rfl) rfl | exact rFld (off := 2) rfl (by kernel_rfl) rfl) ?_
    first | refine WL_stw0 (u := .int .i64 _) (vs := #[_]) (n := 1) hI rfl rfl rfl rfl rfl rfl (by kernel_rfl) rfl rfl rfl ?_ | refine WL_stw1 (u := .int .i64 _) (vs := #[_]) (n := 1) hI rfl rfl rfl rfl rfl rfl (by kernel_rfl) rfl rfl rfl ?_ | refine WL_stw2 (u := .int .i64 _) (vs := #[_]) (n := 1) hI rfl rfl rfl rfl rfl rfl (by kernel_rfl) rfl rfl rfl ?_ | refine WL_st0 (u := .int .i64 _) hI rfl rfl rfl rfl rfl rfl (by kernel_rfl) rfl rfl rfl ?_ | refine WL_st1 (u := .int .i64 _) hI rfl rfl rfl rfl rfl rfl (by kernel_rfl) rfl rfl rfl ?_ | refine WL_st2 (u := .int .i64 _) hI rfl rfl rfl rfl rfl rfl (by kernel_rfl) rfl rfl rfl ?_
    clear hI; intro w hI
    refine WL_nil ?_
    refine W_seq ?_
    refine W_region ?_
    refine WL_val rfl rfl rfl (by first | exact rAsgnN rfl rfl | exact rAsgnE rfl rfl | exact rAsgn rfl) ?_
    refine WL_nil ?_
    refine W_ret ?_
    have hJ : Inv (LogE lg A c bs sure count).D w0 w [B lg 47 #[.slice A' (bs ++ frameF (enc e)).length c', .int .i64 (sure : Int), .int .i64 ((count + 1 : Nat) : Int)], Row 0 5 1 A' (bs ++ frameF (enc e)).length c' (bytesV (bs ++ frameF (enc e)))] := by
      rw [List.length_append, bytesV_append]
      exact hI.d0.d0
    obtain ⟨s1, s2⟩ := LogE.shut hJ
    exact ret1 4 (.inr rfl) rfl (.inl ⟨hok, hc120, rfl, A', c', hI.chg, s1, s2⟩)
  · have hI := Inv.start (fun _ => False) w0
    refine calls_of_W (N := Try.f10.ntmps) Try.func10 rfl rfl rfl ?_
    refine W_seq ?_
    refine W_region ?_
    refine WL_box (u := .agg _) (vs := #[_, _, _, _, _, _, _]) hI rfl rfl rfl rfl rfl rfl ?_
    clear hI; rintro b3 w - - hI
    refine WL_val rfl rfl rfl (by first | exact rAsgnN rfl rfl | exact rAsgnE rfl rfl | exact rAsgn rfl) ?_
    refine WL_nil ?_
    refine W_seq ?_
    refine W_region ?_
    refine WL_val rfl rfl rfl (by first | exact rLdB (n := 7) rfl (by kernel_rfl) (by kernel_rfl) rfl rfl hI.g0) ?_
    refine WL_call rfl rfl rfl (rCall (vs := [.agg _]) rfl Try.func16 rfl rfl rfl) ?_
    refine (encode_any e _).mono ?_
    rintro en w1 ⟨hp, ⟨hok, A2, c2, rfl, hown⟩ | ⟨hno, x, ⟨u, rfl⟩, rfl⟩⟩
    · have hbad : 120 ≤ count := by
        rcases Nat.lt_or_ge count 120 with h1 | h1
        · exact absurd ⟨hok, h1⟩ hgood
        · exact h1
      refine ⟨_, rfl, ?_⟩
      replace hI := hI.pure hp
      refine WL_val rfl rfl rfl (by first | exact rMoveT rfl rfl | exact rMove rfl) ?_
      refine WL_val rfl rfl rfl (rExtr rfl rfl rfl) ?_
      refine WL_val rfl rfl rfl (rExtr rfl rfl rfl) ?_
      refine WL_val rfl rfl rfl (by first | exact rAsgnS rfl rfl | exact rAsgn rfl) ?_
      refine WL_val rfl rfl rfl (by first | exact rAsgnN rfl rfl | exact rAsgnE rfl rfl | exact rAsgn rfl) ?_
      refine WL_nil ?_
      refine W_seq ?_
      refine W_block ?_
      refine W_seq ?_
      refine W_region ?_
      refine WL_val rfl rfl rfl (by first | exact rMoveN rfl rfl | exact rMoveE rfl rfl | exact rMove rfl) ?_
      refine WL_val rfl rfl rfl (by first | exact rIfaceNe rfl Try.underlying32 rfl rfl | exact rNilNe rfl Try.underlying32 rfl) ?_
      refine WL_val rfl rfl rfl (by first | exact rAsgnB rfl rfl | exact rAsgn rfl) ?_
      refine WL_nil ?_
      refine W_cond false rfl ?_
      refine W_seq ?_
      refine W_region ?_
      refine WL_val rfl rfl rfl (by first | exact rMoveP rfl rfl | exact rMove rfl) ?_
      refine WL_val rfl rfl rfl (rNilChk rfl rfl) ?_
      refine WL_val rfl rfl rfl (by first | exact rFldN (off := 2) rfl (by kernel_rfl) rfl | exact rFld (off := 2) rfl (by kernel_rfl) rfl) ?_
      refine WL_val rfl rfl rfl (by first | exact rLd (v := .int .i64 _) rfl (by kernel_rfl) rfl (by first | exact hI.oldp hcell2 | exact hcell2) | exact rLd rfl (by kernel_rfl) rfl (by first | exact hI.oldp hcell2 | exact hcell2)) ?_
      refine WL_val rfl rfl rfl (by first | exact rGeqT rfl rfl rfl (by omega) | exact rGeqF rfl rfl rfl (by omega) | exact rGeq rfl rfl rfl) ?_
      refine WL_val rfl rfl rfl (by first | exact rAsgnB rfl rfl | exact rAsgn rfl) ?_
      refine WL_nil ?_
      refine W_cond true rfl ?_
      refine W_seq ?_
      refine W_region ?_
      refine WL_val rfl rfl rfl (rIface rfl Try.underlying40 rfl rfl) ?_
      refine WL_val rfl rfl rfl (by first | exact rAsgnN rfl rfl | exact rAsgnE rfl rfl | exact rAsgn rfl) ?_
      refine WL_nil ?_
      refine W_ret ?_
      exact ret1 4 (.inr rfl) rfl (.inr ⟨.inr hbad, ⟨_, ⟨_, rfl⟩, rfl⟩, hI.pu⟩)
    · refine ⟨_, rfl, ?_⟩
      replace hI := hI.pure hp
      refine WL_val rfl rfl rfl (by first | exact rMoveT rfl rfl | exact rMove rfl) ?_
      refine WL_val rfl rfl rfl (rExtr rfl rfl rfl) ?_
      refine WL_val rfl rfl rfl (rExtr rfl rfl rfl) ?_
      refine WL_val rfl rfl rfl (by first | exact rAsgnS rfl rfl | exact rAsgn rfl) ?_
      refine WL_val rfl rfl rfl (by first | exact rAsgnN rfl rfl | exact rAsgnE rfl rfl | exact rAsgn rfl) ?_
      refine WL_nil ?_
      refine W_seq ?_
      refine W_block ?_
      refine W_seq ?_
      refine W_region ?_
      refine WL_val rfl rfl rfl (by first | exact rMoveN rfl rfl | exact rMoveE rfl rfl | exact rMove rfl) ?_
      refine WL_val rfl rfl rfl (by first | exact rIfaceNe rfl Try.underlying32 rfl rfl | exact rNilNe rfl Try.underlying32 rfl) ?_
      refine WL_val rfl rfl rfl (by first | exact rAsgnB rfl rfl | exact rAsgn rfl) ?_
      refine WL_nil ?_
      refine W_cond true rfl ?_
      refine W_seq ?_
      refine W_region ?_
      refine WL_val rfl rfl rfl (by first | exact rMoveN rfl rfl | exact rMoveE rfl rfl | exact rMove rfl) ?_
      refine WL_val rfl rfl rfl (by first | exact rAsgnN rfl rfl | exact rAsgnE rfl rfl | exact rAsgn rfl) ?_
      refine WL_nil ?_
      refine W_ret ?_
      exact ret1 4 (.inr rfl) rfl (.inr ⟨.inl hno, ⟨_, ⟨_, rfl⟩, rfl⟩, hI.pu⟩)
theorem sync_any (lg : Nat) (A : Option Addr) (c : Nat) (bs : List Nat) (sure count : Nat) (w0 : World) (h : (LogE lg A c bs sure count).Φ w0) :
    Calls Try.prog 11 #[.pointer (some ⟨lg, 0, none⟩)] w0 fun en w' => en = .returned (.tuple #[]) ∧ Chg (LogE lg A c bs sure count).D w0 w' ∧ (LogE lg A c bs bs.length count).Φ w' := by
  have hI := LogE.open h
  refine calls_of_W (N := Try.f11.ntmps) Try.func11 rfl rfl rfl ?_
  refine W_region ?_
  refine WL_val rfl rfl rfl (by first | exact rMoveP rfl rfl | exact rMove rfl) ?_
  refine WL_val rfl rfl rfl (by first | exact rMoveP rfl rfl | exact rMove rfl) ?_
  refine WL_val rfl rfl rfl (rNilChk rfl rfl) ?_
  refine WL_val rfl rfl rfl (by first | exact rFldN (off := 0) rfl (by kernel_rfl) rfl | exact rFld0 rfl (by kernel_rfl) rfl) ?_
  refine WL_val rfl rfl rfl (by first | exact rLd (v := .slice _ _ _) rfl (by kernel_rfl) rfl (by first | exact hI.c0 rfl) | exact rLd rfl (by kernel_rfl) rfl (by first | exact hI.c0 rfl)) ?_
  refine WL_val rfl rfl rfl (rLen rfl Try.underlying45 rfl) ?_
  refine WL_val rfl rfl rfl (rNilChk rfl rfl) ?_
  refine WL_val rfl rfl rfl (by first | exact rFldN (off := 1) rfl (by kernel_rfl) rfl | exact rFld (off := 1) rfl (by kernel_rfl) rfl) ?_
  first | refine WL_stw0 (u := .int .i64 _) (vs := #[_]) (n := 1) hI rfl rfl rfl rfl rfl rfl (by kernel_rfl) rfl rfl rfl ?_ | refine WL_st0 (u := .int .i64 _) hI rfl rfl rfl rfl rfl rfl (by kernel_rfl) rfl rfl rfl ?_
  clear hI; intro w hI
  refine WL_nil ?_
  have hJ : Inv (LogE lg A c bs sure count).D w0 w [B lg 47 #[.slice A bs.length c, .int .i64 (bs.length : Int), .int .i64 (count : Int)], Row 0 5 1 A bs.length c (bytesV bs)] := hI
  exact ret0 (.inl rfl) rfl ⟨rfl, hI.chg, (LogE.shut hJ).1⟩
end Go.Proofs.Ytfagfkgmibmanaa
