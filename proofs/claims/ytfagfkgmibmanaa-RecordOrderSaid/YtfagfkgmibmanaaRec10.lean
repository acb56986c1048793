/- testimonykeep: kept, logged. -/
import Derived.Test.YtfagfkgmibmanaaRec9
namespace Go.Proofs.Ytfagfkgmibmanaa
open Go.RowKit
set_option linter.unusedVariables false
set_option linter.unusedSimpArgs false

theorem LogE.new {S : Nat → Prop} {w0 w : World} {H : List Ent} {g : Nat} (h : Inv S w0 w (B g 47 #[.slice none 0 0, .int .i64 0, .int .i64 0] :: H)) : Inv S w0 w (LogE g none 0 [] 0 0 :: H) := by
  refine h.u0 (Chg.refl _ _) (LogE.ok ⟨h.g0, World.ownsRow_nil .., by simp⟩) (fun k hk => .inl ?_)
  rcases hk with hk | hk
  · exact hk
  · cases hk
theorem NewB.bts {w w' : World} {A : Option Addr} {c : Nat} {l : List Nat} (h : w'.ownsRow w.heap.size 5 1 (.slice A l.length c) l.length (bytesV l)) : Bts w' (fun k => k < w'.heap.size) (.slice A l.length c) l := by
  refine Rd.of_own h (fun k hk _ => ?_)
  rw [ownBlock_slice] at hk
  exact (Row.ok h).2.1 k hk
theorem frames_byte {es : List Ev} (h : ∀ e ∈ es, evOkB e = true) : ∀ x ∈ frames es, x < 256 := by
  intro x hx
  obtain ⟨e, he, hx⟩ := List.mem_flatMap.1 hx
  exact frameF_byte (enc_byte (h e he)) x hx
theorem frames_len (es : List Ev) : (frames es).length ≤ es.length * 40 := by
  induction es with
  | nil => simp [frames]
  | cons e es ih =>
    rw [frames_cons, List.length_append, frameF_len]
    have := enc_len e
    simp
    omega
def e1 : Ev := ⟨1, 1, 0, 1, 0, 0, 0⟩
theorem e1_ok : evOkB e1 = true := by decide
set_option maxHeartbeats 1000000 in
theorem kept_any (w0 : World) : Calls Try.prog 6 #[] w0 fun en w' => en = .returned (.bool true) ∧ Pure w0 w' := by
  have hI := Inv.start (fun _ => False) w0
  refine calls_of_W (N := Try.f6.ntmps) Try.func6 rfl rfl rfl ?_
  refine W_seq ?_
  refine W_region ?_
  refine WL_val rfl rfl rfl (by first | exact rAsgnB rfl rfl | exact rAsgn rfl) ?_
  refine WL_nil ?_
  refine W_seq ?_
  refine W_region ?_
  refine WL_alloc (u := .agg #[.slice none 0 0, .int .i64 0, .int .i64 0]) (vs := #[.slice none 0 0, .int .i64 0, .int .i64 0]) hI rfl rfl rfl rfl (by kernel_rfl) rfl ?_
  clear hI; rintro b1 w - - hI
  refine WL_nil ?_
  replace hI := LogE.new hI
  refine W_seq ?_
  refine W_seq ?_
  refine W_region ?_
  refine WL_val rfl rfl rfl (rBuild (qs := [(0, .int .i64 _), (1, .int .i64 _), (3, .int .i64 _)]) (vs := [_, _, _, _, _, _, _]) [.int .i64 0, .int .i64 0, .int .i64 0, .int .i64 0, .int .i64 0, .int .i64 0, .int .i64 0] [0, 1, 3] rfl rfl rfl (fun _ => by kernel_rfl)) ?_
  refine WL_call rfl rfl rfl (rCall (vs := [.pointer _, .agg _]) rfl Try.func10 rfl rfl rfl) ?_
  refine (add_any b1 none 0 [] 0 0 e1 _ hI.g0 (by simp) (by omega)).mono ?_
  rintro en w1 (⟨_, _, rfl, A, c, hc, hΦ, hlo⟩ | ⟨hno | hno, _⟩)
  rotate_left
  · rw [e1_ok] at hno; cases hno
  · omega
  refine ⟨_, rfl, ?_⟩
  replace hI := hI.u0 hc (LogE.ok hΦ) hlo
  clear hc hΦ hlo
  have hfl := frameF_len (enc e1)
  have hep := enc_pos e1
  have hel := enc_len e1
  rw [List.nil_append] at hI
  have hfb := frameF_byte (enc_byte e1_ok)
  have hrec : recA (frameF (enc e1)) = ([e1], (frameF (enc e1)).length) := by
    have := recA_frames [e1] [] (by simp [e1_ok])
    simpa [frames, show recA [] = ([], 0) from rfl] using this
  generalize frameF (enc e1) = F at *
  refine WL_val rfl rfl rfl (by first | exact rIfaceNe rfl Try.underlying32 rfl rfl | exact rNilNe rfl Try.underlying32 rfl) ?_
  refine WL_nil ?_
  refine W_cond false rfl ?_
  refine W_skip ?_
  refine W_seq ?_
  refine W_region ?_
  refine WL_call rfl rfl rfl (rCall (vs := [.pointer _]) rfl Try.func11 rfl rfl rfl) ?_
  refine (sync_any b1 A c F 0 _ _ hI.g0).mono ?_
  rintro en w2 ⟨rfl, hc, hΦ⟩
  refine ⟨_, rfl, ?_⟩
  replace hI := hI.u0 (e' := LogE b1 A c F F.length 1) hc (LogE.ok hΦ) (fun k hk => .inl hk)
  clear hc hΦ
  refine WL_nil ?_
  refine W_seq ?_
  refine W_region ?_
  refine WL_call rfl rfl rfl (rCall (vs := [.pointer _, .int .i64 _, .slice _ _ _]) rfl Try.func12 rfl rfl rfl) ?_
  refine (crash_any b1 A c F F.length 1 0 none 0 0 [] (fun _ => True) _ hI.g0 (by omega) (by omega) (Rd.nil _ _ _) rfl (by omega)).mono ?_
  rintro en w3 ⟨v, rfl, hp, A2, c2, rfl, hown⟩
  refine ⟨_, rfl, ?_⟩
  replace hI := hI.d0.pure hp
  rw [List.append_nil, Nat.add_zero, List.take_length] at *
  have hb := NewB.bts hown
  refine WL_val rfl rfl rfl (by first | exact rMoveT rfl rfl | exact rMove rfl) ?_
  refine WL_val rfl rfl rfl (rExtr rfl rfl rfl) ?_
  refine WL_val rfl rfl rfl (rExtr rfl rfl rfl) ?_
  refine WL_val rfl rfl rfl (by first | exact rAsgnS rfl rfl | exact rAsgn rfl) ?_
  refine WL_val rfl rfl rfl (by first | exact rAsgnN rfl rfl | exact rAsgnE rfl rfl | exact rAsgn rfl) ?_
  refine WL_nil ?_
  refine W_seq ?_
  refine W_region ?_
  refine WL_val rfl rfl rfl (by first | exact rMoveS rfl rfl | exact rMove rfl) ?_
  refine WL_call rfl rfl rfl (rCall (vs := [.slice _ _ _]) rfl Try.func13 rfl rfl rfl) ?_
  refine (recover_any A2 _ c2 F _ _ hb rfl hfb (by omega) (fun k hk => hk)).mono ?_
  rintro en w4 ⟨hp, A3, c3, rfl, hes⟩
  refine ⟨_, rfl, ?_⟩
  replace hI := hI.pure hp
  rw [hrec] at hes
  have hv : Value.tuple #[.slice A3 (recA F).1.length c3, .int .i64 ((recA F).2 : Int)] = .tuple #[.slice A3 1 c3, .int .i64 (F.length : Int)] := by rw [hrec]; rfl
  rw [hv]
  have he : Evs w4 (fun _ => True) (.slice A3 1 c3) [e1] := Rd.of_own hes (fun _ _ _ => trivial)
  obtain ⟨g, o, rfl, _, hcell⟩ := he.get (k := 0) rfl
  have hc0 : w4.cell? ⟨g, o + 0 * 7, none⟩ = some (.int .i64 1) := hcell 0 _ rfl
  refine WL_val rfl rfl rfl (by first | exact rMoveT rfl rfl | exact rMove rfl) ?_
  refine WL_val rfl rfl rfl (rExtr rfl rfl rfl) ?_
  refine WL_val rfl rfl rfl (rExtr rfl rfl rfl) ?_
  refine WL_val rfl rfl rfl (by first | exact rAsgnS rfl rfl | exact rAsgn rfl) ?_
  refine WL_val rfl rfl rfl (by first | exact rAsgnI rfl rfl | exact rAsgn rfl) ?_
  refine WL_nil ?_
  refine W_seq ?_
  refine W_region ?_
  refine WL_val rfl rfl rfl (by first | exact rMoveN rfl rfl | exact rMoveE rfl rfl | exact rMove rfl) ?_
  refine WL_val rfl rfl rfl (by first | exact rIfaceEq rfl Try.underlying32 rfl rfl | exact rNilEq rfl Try.underlying32 rfl) ?_
  refine WL_val rfl rfl rfl (by first | exact rMoveB rfl rfl | exact rMove rfl) ?_
  first | refine WL_val rfl rfl rfl (by first | exact rMoveI rfl rfl | exact rMove rfl) ?_ | refine WL_skip rfl rfl rfl ?_
  first | refine WL_val rfl rfl rfl (by first | exact rMoveS rfl rfl | exact rMove rfl) ?_ | refine WL_skip rfl rfl rfl ?_
  first | refine WL_val rfl rfl rfl (rLen rfl Try.underlying45 rfl) ?_ | refine WL_skip rfl rfl rfl ?_
  first | refine WL_val rfl rfl rfl (by first | exact rEqlT rfl rfl rfl (by omega) | exact rEqlF rfl rfl rfl (by omega) | exact rEql rfl rfl rfl) ?_ | refine WL_skip rfl rfl rfl ?_
  refine WL_val rfl rfl rfl (by first | exact rPickTB rfl rfl rfl | exact rPickFB rfl rfl rfl | exact rPickB rfl rfl rfl rfl) ?_
  refine WL_val rfl rfl rfl (by first | exact rMoveB rfl rfl | exact rMove rfl) ?_
  first | refine WL_val rfl rfl rfl (by first | exact rMoveI rfl rfl | exact rMove rfl) ?_ | refine WL_skip rfl rfl rfl ?_
  first | refine WL_val rfl rfl rfl (by first | exact rGtrT rfl rfl rfl (by omega) | exact rGtrF rfl rfl rfl (by omega) | exact rGtr rfl rfl rfl) ?_ | refine WL_skip rfl rfl rfl ?_
  refine WL_val rfl rfl rfl (by first | exact rPickTB rfl rfl rfl | exact rPickFB rfl rfl rfl | exact rPickB rfl rfl rfl rfl) ?_
  refine WL_val rfl rfl rfl (by first | exact rMoveB rfl rfl | exact rMove rfl) ?_
  first | refine WL_val rfl rfl rfl (by first | exact rMoveS rfl rfl | exact rMove rfl) ?_ | refine WL_skip rfl rfl rfl ?_
  first | refine WL_val rfl rfl rfl (rLen rfl Try.underlying22 rfl) ?_ | refine WL_skip rfl rfl rfl ?_
  first | refine WL_val rfl rfl rfl (by first | exact rEqlT rfl rfl rfl (by omega) | exact rEqlF rfl rfl rfl (by omega) | exact rEql rfl rfl rfl) ?_ | refine WL_skip rfl rfl rfl ?_
  refine WL_val rfl rfl rfl (by first | exact rPickTB rfl rfl rfl | exact rPickFB rfl rfl rfl | exact rPickB rfl rfl rfl rfl) ?_
  refine WL_val rfl rfl rfl (by first | exact rMoveB rfl rfl | exact rMove rfl) ?_
  first | refine WL_val rfl rfl rfl (by first | exact rMoveS rfl rfl | exact rMove rfl) ?_ | refine WL_skip rfl rfl rfl ?_
  first | refine WL_val rfl rfl rfl (rIdx (sz := 7) (i := 0) rfl Try.underlying22 (by kernel_rfl) rfl rfl (by omega)) ?_ | refine WL_skip rfl rfl rfl ?_
  first | refine WL_val rfl rfl rfl (by first | exact rFldN (off := 0) rfl (by kernel_rfl) rfl | exact rFld0 rfl (by kernel_rfl) rfl) ?_ | refine WL_skip rfl rfl rfl ?_
  first | refine WL_val rfl rfl rfl (by first | exact rLd (v := .int .i64 _) rfl (by kernel_rfl) rfl (by first | exact hI.oldp hc0 | exact hc0) | exact rLd rfl (by kernel_rfl) rfl (by first | exact hI.oldp hc0 | exact hc0)) ?_ | refine WL_skip rfl rfl rfl ?_
  first | refine WL_val rfl rfl rfl (by first | exact rEqlT rfl rfl rfl (by omega) | exact rEqlF rfl rfl rfl (by omega) | exact rEql rfl rfl rfl) ?_ | refine WL_skip rfl rfl rfl ?_
  refine WL_val rfl rfl rfl (by first | exact rPickTB rfl rfl rfl | exact rPickFB rfl rfl rfl | exact rPickB rfl rfl rfl rfl) ?_
  refine WL_val rfl rfl rfl (by first | exact rAsgnB rfl rfl | exact rAsgn rfl) ?_
  refine WL_nil ?_
  refine W_ret ?_
  exact ret1 0 (.inr rfl) rfl ⟨rfl, hI.pu⟩
end Go.Proofs.Ytfagfkgmibmanaa
