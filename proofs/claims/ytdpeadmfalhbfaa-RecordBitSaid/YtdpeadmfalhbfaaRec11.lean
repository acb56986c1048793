/- testimonykeep: logged. -/
import Derived.Test.YtdpeadmfalhbfaaRec10
namespace Go.Proofs.Ytdpeadmfalhbfaa
open Go.RowKit
set_option linter.unusedVariables false
set_option linter.unusedSimpArgs false

/-- A slice of bools. -/
def Bls (w : World) (D : Nat → Prop) (v : Value) (l : List Bool) : Prop := Rd w D 1 v l.length (l.map Value.bool)
theorem Bls.get {w : World} {D : Nat → Prop} {A : Option Addr} {n c k : Nat} {b : Bool} {l : List Bool} (h : Bls w D (.slice A n c) l) (hk : l[k]? = some b) : ∃ g o, A = some ⟨g, o, none⟩ ∧ D g ∧ w.cell? ⟨g, o + k, none⟩ = some (.bool b) := by
  have hlt := (List.getElem?_eq_some_iff.1 hk).1
  obtain ⟨A', c', hv, h1, h2, h3, h4⟩ := h
  injection hv with e1 e2 e3
  subst e1
  obtain ⟨g, o, hb, hD, hc⟩ := h4 (by omega)
  exact ⟨g, o, hb, hD, hc k _ (by simp [hk])⟩
/-- A log of events, of which some are sure. -/
def LgE (lg : Nat) (A : Option Addr) (c : Nat) (all : List Ev) (sure : Nat) : Ent := LogE lg A c (frames all) (frames (all.take sure)).length all.length
def LdPost (w0 : World) (n : Nat) (en : Ending) (w' : World) : Prop :=
  ∃ (lg : Nat) (A : Option Addr) (c : Nat) (A' : Option Addr) (c' : Nat) (all : List Ev) (sure : Nat), en = .returned (.tuple #[.pointer (some ⟨lg, 0, none⟩), .slice A' all.length c', .int .i64 (sure : Int)]) ∧ (∀ e ∈ all, evOkB e = true) ∧ sure ≤ all.length ∧ all.length ≤ n ∧ all.length ≤ c' ∧
    Inv (fun _ => False) w0 w' [Row 0 38 7 A' all.length c' (evsV all), LgE lg A c all sure]
set_option maxHeartbeats 2000000 in
theorem logged_any (A B : Option Addr) (n c m d : Nat) (es : List Ev) (bs : List Bool) (D D' : Nat → Prop) (w0 : World) (h : Evs w0 D (.slice A n c) es) (hn : es.length = n) (h' : Bls w0 D' (.slice B m d) bs) (hm : bs.length = m) (hn60 : n ≤ 60) :
    Calls Try.prog 8 #[.slice A n c, .slice B m d] w0 (LdPost w0 n) := by
  subst hn hm
  have hI := Inv.start (fun _ => False) w0
  refine calls_of_W (N := Try.f8.ntmps) Try.func8 rfl rfl rfl ?_
  refine W_seq ?_
  refine W_region ?_
  refine WL_val rfl rfl rfl (by first | exact rAsgnP rfl rfl | exact rAsgn rfl) ?_
  refine WL_val rfl rfl rfl (by first | exact rAsgnS rfl rfl | exact rAsgn rfl) ?_
  refine WL_val rfl rfl rfl (by first | exact rAsgnI rfl rfl | exact rAsgn rfl) ?_
  refine WL_nil ?_
  refine W_seq ?_
  refine W_region ?_
  refine WL_val rfl rfl rfl (rBuild (qs := []) (vs := [_, _, _]) [.slice none 0 0, .int .i64 0, .int .i64 0] [] rfl rfl rfl (fun _ => by kernel_rfl)) ?_
  refine WL_box (u := .agg _) (vs := #[_, _, _]) hI rfl rfl rfl rfl rfl rfl ?_
  clear hI; rintro b12 w - - hI
  refine WL_val rfl rfl rfl (by first | exact rAsgnP rfl rfl | exact rAsgn rfl) ?_
  refine WL_nil ?_
  replace hI := LogE.new hI
  refine W_seq ?_
  refine W_region ?_
  refine WL_val rfl rfl rfl (by first | exact rAsgnS rfl rfl | exact rAsgn rfl) ?_
  refine WL_nil ?_
  refine W_seq ?_
  refine W_region ?_
  refine WL_val rfl rfl rfl (by first | exact rAsgnI rfl rfl | exact rAsgn rfl) ?_
  refine WL_nil ?_
  refine W_seq ?_
  refine W_seq ?_
  refine W_region ?_
  refine WL_val rfl rfl rfl (by first | exact rAsgnI rfl rfl | exact rAsgn rfl) ?_
  refine WL_nil ?_
  refine W_block ?_
  replace hI : Inv (fun _ => False) w0 w [Row 0 38 7 none 0 0 (evsV []), LgE b12 none 0 [] 0] := hI.fresh (Pure.refl w) (Row.ok (World.ownsRow_nil ..)) (fun k hk => by cases hk)
  refine W_loop (fun ρ w => ∃ (k : Nat) (A1 A2 : Option Addr) (c1 c2 : Nat) (all : List Ev) (sure : Nat), k ≤ es.length ∧ Has ρ [(10, .int .i64 k), (9, .int .i64 sure), (8, .slice A2 all.length c2), (7, .pointer (some ⟨b12, 0, none⟩)), (0, .slice A es.length c), (1, .slice B bs.length d)] ∧ (∀ e ∈ all, evOkB e = true) ∧ sure ≤ all.length ∧ all.length ≤ k ∧ all.length ≤ c2 ∧
      Inv (fun _ => False) w0 w [Row 0 38 7 A2 all.length c2 (evsV all), LgE b12 A1 c1 all sure]) (fun ρ _ => es.length - cnt (ρ 10))
      ⟨0, none, none, 0, 0, [], 0, by omega, ⟨rfl, rfl, rfl, rfl, rfl, rfl, trivial⟩, by simp, by simp, by simp, by simp, hI⟩ ?_
  clear hI
  rintro ρ w ⟨k, A1, A2, c1, c2, all, sure, hk, hH, hok, hsu, hal, hc2, hI⟩
  obtain ⟨σ, rfl⟩ := hH.open
  by_cases hke : k < es.length
  · obtain ⟨e, he⟩ : ∃ e, es[k]? = some e := ⟨_, List.getElem?_eq_getElem hke⟩
    obtain ⟨g, o, rfl, _, q⟩ := h.get he
    refine W_seq ?_
    refine W_seq ?_
    refine W_region ?_
    refine WL_val rfl rfl rfl (by first | exact rMoveI rfl rfl | exact rMove rfl) ?_
    refine WL_val rfl rfl rfl (by first | exact rMoveS rfl rfl | exact rMove rfl) ?_
    refine WL_val rfl rfl rfl (rLen rfl Try.underlying22 rfl) ?_
    refine WL_val rfl rfl rfl (by first | exact rLssT rfl rfl rfl (by omega) | exact rLssF rfl rfl rfl (by omega) | exact rLss rfl rfl rfl) ?_
    refine WL_nil ?_
    refine W_cond true rfl ?_
    refine W_skip ?_
    refine W_seq ?_
    refine W_block ?_
    refine W_seq_cut (fun ρ w => ∃ (A1 A2 : Option Addr) (c1 c2 : Nat) (all : List Ev) (sure : Nat), Has ρ [(10, .int .i64 k), (9, .int .i64 sure), (8, .slice A2 all.length c2), (7, .pointer (some ⟨b12, 0, none⟩)), (0, .slice (some ⟨g, o, none⟩) es.length c), (1, .slice B bs.length d)] ∧ (∀ e ∈ all, evOkB e = true) ∧ sure ≤ all.length ∧ all.length ≤ k + 1 ∧ all.length ≤ c2 ∧
      Inv (fun _ => False) w0 w [Row 0 38 7 A2 all.length c2 (evsV all), LgE b12 A1 c1 all sure]) ?_ ?_
    · have hfl := frames_len all
      refine W_seq ?_
      refine W_region ?_
      refine WL_val rfl rfl rfl (by first | exact rMoveP rfl rfl | exact rMove rfl) ?_
      refine WL_val rfl rfl rfl (by first | exact rMoveS rfl rfl | exact rMove rfl) ?_
      refine WL_val rfl rfl rfl (by first | exact rMoveI rfl rfl | exact rMove rfl) ?_
      refine WL_val rfl rfl rfl (rIdx (sz := 7) rfl Try.underlying22 (by kernel_rfl) rfl rfl (by omega)) ?_
      refine WL_val rfl rfl rfl (by first | exact rLdA (n := 7) rfl (by kernel_rfl) (by kernel_rfl) rfl (by rfl) (fun k u hk => hI.oldp (q k u hk)) | exact rLdA (n := 7) rfl (by kernel_rfl) (by kernel_rfl) rfl (by rfl) q) ?_
      refine WL_call rfl rfl rfl (rCall (vs := [.pointer _, .agg _]) rfl Try.func19 rfl rfl rfl) ?_
      refine (add_any b12 A1 c1 (frames all) _ all.length e _ hI.g1 (by omega) (by omega)).mono ?_
      rintro en w1 (⟨hokE, _, rfl, A3, c3, hc, hΦ, hlo⟩ | ⟨hno, ⟨x, ⟨u, rfl⟩, rfl⟩, hp⟩)
      · refine ⟨_, rfl, ?_⟩
        replace hI := hI.u1 hc (LogE.ok hΦ) hlo
        clear hc hΦ hlo
        refine WL_val rfl rfl rfl (by first | exact rIfaceEq rfl Try.underlying29 rfl rfl | exact rNilEq rfl Try.underlying29 rfl) ?_
        refine WL_nil ?_
        refine W_cond true rfl ?_
        refine W_region ?_
        refine WL_val rfl rfl rfl (by first | exact rMoveS rfl rfl | exact rMove rfl) ?_
        refine WL_val rfl rfl rfl (by first | exact rMoveS rfl rfl | exact rMove rfl) ?_
        refine WL_val rfl rfl rfl (by first | exact rMoveI rfl rfl | exact rMove rfl) ?_
        refine WL_val rfl rfl rfl (rIdx (sz := 7) rfl Try.underlying22 (by kernel_rfl) rfl rfl (by omega)) ?_
        refine WL_val rfl rfl rfl (by first | exact rLdA (n := 7) rfl (by kernel_rfl) (by kernel_rfl) rfl (by rfl) (fun k u hk => hI.oldp (q k u hk)) | exact rLdA (n := 7) rfl (by kernel_rfl) (by kernel_rfl) rfl (by rfl) q) ?_
        refine WL_lit (vs := [_, _, _, _, _, _, _]) (qs := [(0, .agg #[_, _, _, _, _, _, _])]) [.int .i64 0, .int .i64 0, .int .i64 0, .int .i64 0, .int .i64 0, .int .i64 0, .int .i64 0] [0] hI rfl rfl rfl rfl rfl rfl Try.underlying22 (fun _ => by kernel_rfl) ?_
        clear hI; rintro b31 w - - hI
        -- STOP: call ['Op.call', ('st', {'callee': ['Callee.builtin', 'Builtin.append'], 'args': ('arr', [['Operand.tmp', '26'], ['Operand.tmp', '31']]), 'argTypes': ('arr
        refine WL_app1 (z := .agg #[.int .i64 0, .int .i64 0, .int .i64 0, .int .i64 0, .int .i64 0, .int .i64 0, .int .i64 0]) (by_ := 56) (news := evL e) hI rfl rfl rfl rfl rfl rfl Try.underlying22 (by kernel_rfl) rfl (by omega) rfl (fun k u hk => by rw [Nat.zero_add]; exact (hI.g0.cell k).trans (by simpa [evL] using hk)) rfl (by omega) (by omega) (Nat.zero_le _) ?_
        clear hI; rintro A4 c4 w hc3 hc4 hI
        refine WL_val rfl rfl rfl (by first | exact rAsgnS rfl rfl | exact rAsgn rfl) ?_
        refine WL_nil ?_
        replace hI := hI.d0
        have ef : frames (all ++ [e]) = frames all ++ frameF (enc e) := by rw [frames_append]; simp [frames]
        have et : (all ++ [e]).take sure = all.take sure := List.take_append_of_le_length hsu
        refine ⟨A3, A4, c3, c4, all ++ [e], sure, ⟨rfl, rfl, ?_, rfl, rfl, rfl, trivial⟩, ?_, by simp; omega, by simp; omega, by simp; omega, ?_⟩
        · rw [List.length_append]; rfl
        · intro x hx
          rcases List.mem_append.1 hx with hx | hx
          · exact hok x hx
          · simp at hx; subst hx; exact hokE
        · unfold LgE
          rw [evsV_snoc, List.length_append, ef, et]
          exact hI
      · refine ⟨_, rfl, ?_⟩
        replace hI := hI.pure hp
        refine WL_val rfl rfl rfl (by first | exact rIfaceEq rfl Try.underlying29 rfl rfl | exact rNilEq rfl Try.underlying29 rfl) ?_
        refine WL_nil ?_
        refine W_cond false rfl ?_
        refine W_skip ?_
        exact ⟨A1, A2, c1, c2, all, sure, ⟨rfl, rfl, rfl, rfl, rfl, rfl, trivial⟩, hok, hsu, by omega, hc2, hI⟩
    · clear hI hc2 hal hsu hok hH
      rintro ρ w ⟨A1, A2, c1, c2, all, sure, hH, hok, hsu, hal, hc2, hI⟩
      obtain ⟨σ', rfl⟩ := hH.open
      by_cases hkb : k < bs.length
      · obtain ⟨b, hb⟩ : ∃ b, bs[k]? = some b := ⟨_, List.getElem?_eq_getElem hkb⟩
        obtain ⟨g2, o2, rfl, _, q2⟩ := h'.get hb
        cases b
        · refine W_seq ?_
          refine W_region ?_
          refine WL_val rfl rfl rfl (by first | exact rMoveI rfl rfl | exact rMove rfl) ?_
          refine WL_val rfl rfl rfl (by first | exact rMoveS rfl rfl | exact rMove rfl) ?_
          refine WL_val rfl rfl rfl (rLen rfl Try.underlying23 rfl) ?_
          refine WL_val rfl rfl rfl (by first | exact rLssT rfl rfl rfl (by omega) | exact rLssF rfl rfl rfl (by omega) | exact rLss rfl rfl rfl) ?_
          refine WL_val rfl rfl rfl (by first | exact rMoveB rfl rfl | exact rMove rfl) ?_
          first | refine WL_val rfl rfl rfl (by first | exact rMoveS rfl rfl | exact rMove rfl) ?_ | refine WL_skip rfl rfl rfl ?_
          first | refine WL_val rfl rfl rfl (by first | exact rMoveI rfl rfl | exact rMove rfl) ?_ | refine WL_skip rfl rfl rfl ?_
          first | refine WL_val rfl rfl rfl (by first | exact rIdx0 rfl Try.underlying23 (by kernel_rfl) rfl rfl rfl (by omega) | exact rIdx1 rfl Try.underlying23 (by kernel_rfl) rfl rfl (by omega)) ?_ | refine WL_skip rfl rfl rfl ?_
          first | refine WL_val rfl rfl rfl (by first | exact rLd (v := .bool _) rfl (by kernel_rfl) rfl (by first | exact hI.oldp q2 | exact q2) | exact rLd rfl (by kernel_rfl) rfl (by first | exact hI.oldp q2 | exact q2)) ?_ | refine WL_skip rfl rfl rfl ?_
          refine WL_val rfl rfl rfl (by first | exact rPickTB rfl rfl rfl | exact rPickFB rfl rfl rfl | exact rPickB rfl rfl rfl rfl) ?_
          refine WL_nil ?_
          refine W_cond false rfl ?_
          refine W_skip ?_
          refine W_region ?_
          refine WL_val rfl rfl rfl (by first | exact rMoveI rfl rfl | exact rMove rfl) ?_
          refine WL_val rfl rfl rfl (by first | exact rInc rfl rfl rfl (by omega) | exact rAdd rfl rfl rfl (by omega) | exact rAddW rfl rfl rfl) ?_
          refine WL_val rfl rfl rfl (by first | exact rAsgnI rfl rfl | exact rAsgn rfl) ?_
          refine WL_nil ?_
          exact ⟨⟨k + 1, A1, A2, c1, c2, all, sure, by omega, ⟨rfl, rfl, rfl, rfl, rfl, rfl, trivial⟩, hok, hsu, hal, hc2, hI⟩, by show es.length - ((k + 1 : Nat) : Int).toNat < es.length - (k : Int).toNat; omega⟩
        · refine W_seq ?_
          refine W_region ?_
          refine WL_val rfl rfl rfl (by first | exact rMoveI rfl rfl | exact rMove rfl) ?_
          refine WL_val rfl rfl rfl (by first | exact rMoveS rfl rfl | exact rMove rfl) ?_
          refine WL_val rfl rfl rfl (rLen rfl Try.underlying23 rfl) ?_
          refine WL_val rfl rfl rfl (by first | exact rLssT rfl rfl rfl (by omega) | exact rLssF rfl rfl rfl (by omega) | exact rLss rfl rfl rfl) ?_
          refine WL_val rfl rfl rfl (by first | exact rMoveB rfl rfl | exact rMove rfl) ?_
          first | refine WL_val rfl rfl rfl (by first | exact rMoveS rfl rfl | exact rMove rfl) ?_ | refine WL_skip rfl rfl rfl ?_
          first | refine WL_val rfl rfl rfl (by first | exact rMoveI rfl rfl | exact rMove rfl) ?_ | refine WL_skip rfl rfl rfl ?_
          first | refine WL_val rfl rfl rfl (by first | exact rIdx0 rfl Try.underlying23 (by kernel_rfl) rfl rfl rfl (by omega) | exact rIdx1 rfl Try.underlying23 (by kernel_rfl) rfl rfl (by omega)) ?_ | refine WL_skip rfl rfl rfl ?_
          first | refine WL_val rfl rfl rfl (by first | exact rLd (v := .bool _) rfl (by kernel_rfl) rfl (by first | exact hI.oldp q2 | exact q2) | exact rLd rfl (by kernel_rfl) rfl (by first | exact hI.oldp q2 | exact q2)) ?_ | refine WL_skip rfl rfl rfl ?_
          refine WL_val rfl rfl rfl (by first | exact rPickTB rfl rfl rfl | exact rPickFB rfl rfl rfl | exact rPickB rfl rfl rfl rfl) ?_
          refine WL_nil ?_
          refine W_cond true rfl ?_
          refine W_seq ?_
          refine W_region ?_
          refine WL_val rfl rfl rfl (by first | exact rMoveP rfl rfl | exact rMove rfl) ?_
          refine WL_call rfl rfl rfl (rCall (vs := [.pointer _]) rfl Try.func15 rfl rfl rfl) ?_
          refine (sync_any b12 A1 c1 (frames all) _ _ _ hI.g1).mono ?_
          rintro en w2 ⟨rfl, hc, hΦ⟩
          refine ⟨_, rfl, ?_⟩
          replace hI : Inv (fun _ => False) w0 w2 [Row 0 38 7 A2 all.length c2 (evsV all), LgE b12 A1 c1 all all.length] := by
            unfold LgE
            rw [List.take_length]
            exact hI.u1 (e' := LogE b12 A1 c1 (frames all) (frames all).length all.length) hc (LogE.ok hΦ) (fun k hk => .inl hk)
          refine WL_nil ?_
          refine W_region ?_
          refine WL_val rfl rfl rfl (by first | exact rMoveS rfl rfl | exact rMove rfl) ?_
          refine WL_val rfl rfl rfl (rLen rfl Try.underlying22 rfl) ?_
          refine WL_val rfl rfl rfl (by first | exact rAsgnI rfl rfl | exact rAsgn rfl) ?_
          refine WL_nil ?_
          refine W_region ?_
          refine WL_val rfl rfl rfl (by first | exact rMoveI rfl rfl | exact rMove rfl) ?_
          refine WL_val rfl rfl rfl (by first | exact rInc rfl rfl rfl (by omega) | exact rAdd rfl rfl rfl (by omega) | exact rAddW rfl rfl rfl) ?_
          refine WL_val rfl rfl rfl (by first | exact rAsgnI rfl rfl | exact rAsgn rfl) ?_
          refine WL_nil ?_
          exact ⟨⟨k + 1, A1, A2, c1, c2, all, all.length, by omega, ⟨rfl, rfl, rfl, rfl, rfl, rfl, trivial⟩, hok, by omega, hal, hc2, hI⟩, by show es.length - ((k + 1 : Nat) : Int).toNat < es.length - (k : Int).toNat; omega⟩
      · refine W_seq ?_
        refine W_region ?_
        refine WL_val rfl rfl rfl (by first | exact rMoveI rfl rfl | exact rMove rfl) ?_
        refine WL_val rfl rfl rfl (by first | exact rMoveS rfl rfl | exact rMove rfl) ?_
        refine WL_val rfl rfl rfl (rLen rfl Try.underlying23 rfl) ?_
        refine WL_val rfl rfl rfl (by first | exact rLssT rfl rfl rfl (by omega) | exact rLssF rfl rfl rfl (by omega) | exact rLss rfl rfl rfl) ?_
        refine WL_val rfl rfl rfl (by first | exact rMoveB rfl rfl | exact rMove rfl) ?_
        refine WL_skip rfl rfl rfl ?_
        refine WL_skip rfl rfl rfl ?_
        refine WL_skip rfl rfl rfl ?_
        refine WL_skip rfl rfl rfl ?_
        refine WL_val rfl rfl rfl (by first | exact rPickTB rfl rfl rfl | exact rPickFB rfl rfl rfl | exact rPickB rfl rfl rfl rfl) ?_
        refine WL_nil ?_
        refine W_cond false rfl ?_
        refine W_skip ?_
        refine W_region ?_
        refine WL_val rfl rfl rfl (by first | exact rMoveI rfl rfl | exact rMove rfl) ?_
        refine WL_val rfl rfl rfl (by first | exact rInc rfl rfl rfl (by omega) | exact rAdd rfl rfl rfl (by omega) | exact rAddW rfl rfl rfl) ?_
        refine WL_val rfl rfl rfl (by first | exact rAsgnI rfl rfl | exact rAsgn rfl) ?_
        refine WL_nil ?_
        exact ⟨⟨k + 1, A1, A2, c1, c2, all, sure, by omega, ⟨rfl, rfl, rfl, rfl, rfl, rfl, trivial⟩, hok, hsu, hal, hc2, hI⟩, by show es.length - ((k + 1 : Nat) : Int).toNat < es.length - (k : Int).toNat; omega⟩
  · obtain rfl : k = es.length := by omega
    refine W_seq ?_
    refine W_seq ?_
    refine W_region ?_
    refine WL_val rfl rfl rfl (by first | exact rMoveI rfl rfl | exact rMove rfl) ?_
    refine WL_val rfl rfl rfl (by first | exact rMoveS rfl rfl | exact rMove rfl) ?_
    refine WL_val rfl rfl rfl (rLen rfl Try.underlying22 rfl) ?_
    refine WL_val rfl rfl rfl (by first | exact rLssT rfl rfl rfl (by omega) | exact rLssF rfl rfl rfl (by omega) | exact rLss rfl rfl rfl) ?_
    refine WL_nil ?_
    refine W_cond false rfl ?_
    refine W_exit ?_
    refine W_seq ?_
    refine W_region ?_
    refine WL_val rfl rfl rfl (by first | exact rMoveP rfl rfl | exact rMove rfl) ?_
    refine WL_val rfl rfl rfl (by first | exact rMoveS rfl rfl | exact rMove rfl) ?_
    refine WL_val rfl rfl rfl (by first | exact rMoveI rfl rfl | exact rMove rfl) ?_
    refine WL_val rfl rfl rfl (by first | exact rAsgnP rfl rfl | exact rAsgn rfl) ?_
    refine WL_val rfl rfl rfl (by first | exact rAsgnS rfl rfl | exact rAsgn rfl) ?_
    refine WL_val rfl rfl rfl (by first | exact rAsgnI rfl rfl | exact rAsgn rfl) ?_
    refine WL_nil ?_
    refine W_ret ?_
    exact ret3 4 5 6 (.inr rfl) rfl ⟨b12, A1, c1, A2, c2, all, sure, rfl, hok, hsu, hal, hc2, hI⟩
end Go.Proofs.Ytdpeadmfalhbfaa
