/- gen: Parse. -/
import Derived.Test.YtlhmldjgmbcocaaDoorGen8
namespace Go.Proofs.YtlhmldjgmbcocaaDoor
open Go.RowKit
set_option linter.unusedVariables false
set_option linter.unusedSimpArgs false
def parsedT (bs : List UInt8) : Option Ge := if bs.length ≤ 2000 then parsed bs else none
theorem sgE_of {S : Nat → Prop} {w0 w : World} {H : List Ent} {A : Option Addr} {n c : Nat} {out : List Sg} (hI : Inv S w0 w (Row 0 57 2 A n c (out.flatMap sgL) :: H)) (hn : 0 < n) : ∃ g, A = some ⟨g, 0, none⟩ ∧ n ≤ c ∧ c ≤ 9223372036854775807 ∧ Inv S w0 w (sgE g out :: H) := by
  have h1 : w.ownsRow 0 57 2 (.slice A n c) n (out.flatMap sgL) := (hI.ok _ (List.mem_cons_self ..)).1
  rcases h1.2 with ⟨hv, h0⟩ | ⟨g, cap, cur, hv, hb, hh, hnc, hcm, hcs, htake⟩
  · omega
  · injection hv with q1 q2 q3
    subst q1 q3
    have hB : Blk w g 57 cur := hh
    have hP : ∀ j u, (out.flatMap sgL)[j]? = some u → cur[j]? = some u := fun j u hj => by
      rw [← htake, List.getElem?_take] at hj
      split at hj
      · rwa [Array.getElem?_toList] at hj
      · cases hj
    refine ⟨g, rfl, hnc, hcm, hI.u0 (e' := sgE g out) (Chg.refl _ _) (Ent.mk_ok ⟨_, cur, hB, hP⟩ (fun k hk => ?_) (fun S w1 w2 hc hS h1 => ?_)) (fun k hk => .inl ?_)⟩
    · have : k = g := hk
      subst this
      exact hB.lt
    · obtain ⟨T, cur', hb', hc'⟩ := h1
      exact ⟨T, cur', Blk.chg hb' hc (hS g rfl), hc'⟩
    · have : k = g := hk
      subst this
      rfl
theorem parsed_some {bs : List UInt8} {g : Ge} {r : List Tok} (h : pG 20 (toks bs) = some (g, r)) : parsed bs = if r = [] then some g else none := by
  unfold parsed
  rw [h]
  cases r with
  | nil => rfl
  | cons a r => rfl
theorem parsed_none {bs : List UInt8} (h : pG 20 (toks bs) = none) : parsed bs = none := by
  unfold parsed
  rw [h]
set_option maxHeartbeats 2000000 in
theorem parse_any (bs : List UInt8) (w0 : World) (hG : NumG w0) (hb : bs.length ≤ 9000000000000000000) :
    Calls Tryd.prog 10 #[strV bs] w0 fun e w' => (∃ g v L, parsedT bs = some g ∧ e = .returned (.tuple #[v, .nilIface]) ∧ Rep g v L ∧ Inv (fun _ => False) w0 w' L) ∨
      (parsedT bs = none ∧ (∃ U u, e = .returned (.tuple #[.nilIface, .iface U u])) ∧ Pure w0 w') := by
  have hI := Inv.start (fun _ => False) w0
  unfold parsedT
  refine calls_of_W (N := Tryd.f10.ntmps) Tryd.func10 rfl rfl rfl ?_
  refine W_seq ?_
  refine W_region ?_
  refine WL_val rfl rfl rfl (by first | exact rAsgnN rfl rfl | exact rAsgnE rfl rfl | exact rAsgn rfl) ?_
  refine WL_val rfl rfl rfl (by first | exact rAsgnN rfl rfl | exact rAsgnE rfl rfl | exact rAsgn rfl) ?_
  refine WL_nil ?_
  by_cases hl : bs.length ≤ 2000
  rotate_left
  · refine W_seq ?_
    refine W_seq ?_
    refine W_region ?_
    refine WL_val rfl rfl rfl (by first | exact rMoveStr rfl rfl | exact rMove rfl) ?_
    refine WL_val rfl rfl rfl (rStrLen rfl Tryd.underlying9 rfl) ?_
    refine WL_val rfl rfl rfl (by first | exact rGtrT rfl rfl rfl (by omega) | exact rGtrF rfl rfl rfl (by omega) | exact rGtr rfl rfl rfl) ?_
    refine WL_nil ?_
    refine W_cond true rfl ?_
    refine W_seq ?_
    refine W_region ?_
    refine WL_val rfl rfl rfl (rIface rfl Tryd.underlying46 rfl rfl) ?_
    refine WL_val rfl rfl rfl (by first | exact rAsgnN rfl rfl | exact rAsgnE rfl rfl | exact rAsgn rfl) ?_
    refine WL_val rfl rfl rfl (by first | exact rAsgnN rfl rfl | exact rAsgnE rfl rfl | exact rAsgn rfl) ?_
    refine WL_nil ?_
    refine W_ret ?_
    exact ret2 2 3 (.inr rfl) rfl (.inr ⟨if_neg hl, ⟨_, _, rfl⟩, hI.pu⟩)
  rw [if_pos hl]
  refine W_seq ?_
  refine W_seq ?_
  refine W_region ?_
  refine WL_val rfl rfl rfl (by first | exact rMoveStr rfl rfl | exact rMove rfl) ?_
  refine WL_val rfl rfl rfl (rStrLen rfl Tryd.underlying9 rfl) ?_
  refine WL_val rfl rfl rfl (by first | exact rGtrT rfl rfl rfl (by omega) | exact rGtrF rfl rfl rfl (by omega) | exact rGtr rfl rfl rfl) ?_
  refine WL_nil ?_
  refine W_cond false rfl ?_
  refine W_skip ?_
  refine W_seq ?_
  refine W_region ?_
  refine WL_val rfl rfl rfl (by first | exact rMoveStr rfl rfl | exact rMove rfl) ?_
  refine WL_call rfl rfl rfl (rCall (vs := [.string _]) rfl Tryd.func12 rfl rfl rfl) ?_
  refine (signs_any bs _ (by omega)).mono ?_
  rintro e w1 ⟨A, c, out, rfl, hout, hJ⟩
  refine ⟨_, rfl, ?_⟩
  replace hI := hI.app1 hJ
  have hlen : out.length = (toks bs).length + 1 := by
    have := congrArg List.length hout
    simpa using this
  obtain ⟨g, rfl, hnc, hc63, hI⟩ := sgE_of hI (by omega)
  have hP : Ptx (toks bs) out c := ⟨hout, tg_ne bs [], hnc, hc63, by have := toks_len bs; omega, fun t ht => by have := toks_tok bs t ht; omega⟩
  refine WL_val rfl rfl rfl (rBuild (qs := [(0, .slice _ _ _)]) (vs := [_]) [.slice none 0 0] [0] rfl rfl rfl (fun _ => by kernel_rfl)) ?_
  refine WL_box (u := .agg _) (vs := #[_]) hI rfl rfl rfl rfl rfl rfl ?_
  clear hI; rintro b14 w - - hI
  refine WL_val rfl rfl rfl (by first | exact rAsgnP rfl rfl | exact rAsgn rfl) ?_
  refine WL_nil ?_
  have hI0 : Inv (fun _ => False) w0 w (parE b14 g out c 0 :: sgE g out :: []) := hI
  have hge := gen_any 20 (by omega) 0 (toks bs) out c 0 b14 g (fun _ => False) w0 w [] rfl hP (Nat.zero_le _) hI0 hG NoG.none
  rw [List.drop_zero] at hge
  unfold ReadPost at hge
  cases hx : pG 20 (toks bs) with
  | none =>
    rw [hx] at hge
    refine W_seq ?_
    refine W_region ?_
    refine WL_val rfl rfl rfl (by first | exact rMoveP rfl rfl | exact rMove rfl) ?_
    refine WL_call rfl rfl rfl (rCall (vs := [.pointer _, .int .i64 _]) rfl Tryd.func13 rfl rfl rfl) ?_
    refine hge.mono ?_
    rintro e w2 (⟨ge, v, L, i', h, -⟩ | ⟨-, U, u, i', rfl, hi', hI2⟩)
    · cases h
    refine ⟨_, rfl, ?_⟩
    refine WL_val rfl rfl rfl (by first | exact rMoveT rfl rfl | exact rMove rfl) ?_
    refine WL_val rfl rfl rfl (rExtr rfl rfl rfl) ?_
    refine WL_val rfl rfl rfl (rExtr rfl rfl rfl) ?_
    refine WL_val rfl rfl rfl (by first | exact rAsgnN rfl rfl | exact rAsgnE rfl rfl | exact rAsgn rfl) ?_
    refine WL_val rfl rfl rfl (by first | exact rAsgnN rfl rfl | exact rAsgnE rfl rfl | exact rAsgn rfl) ?_
    refine WL_nil ?_
    refine W_seq ?_
    refine W_seq ?_
    refine W_region ?_
    refine WL_val rfl rfl rfl (by first | exact rMoveN rfl rfl | exact rMoveE rfl rfl | exact rMove rfl) ?_
    refine WL_val rfl rfl rfl (by first | exact rIfaceEq rfl Tryd.underlying35 rfl rfl | exact rNilEq rfl Tryd.underlying35 rfl) ?_
    refine WL_nil ?_
    refine W_cond false rfl ?_
    refine W_skip ?_
    refine W_seq ?_
    refine W_seq ?_
    refine W_region ?_
    refine WL_val rfl rfl rfl (by first | exact rMoveN rfl rfl | exact rMoveE rfl rfl | exact rMove rfl) ?_
    refine WL_val rfl rfl rfl (by first | exact rIfaceNe rfl Tryd.underlying35 rfl rfl | exact rNilNe rfl Tryd.underlying35 rfl) ?_
    refine WL_nil ?_
    refine W_cond true rfl ?_
    refine W_seq ?_
    refine W_region ?_
    refine WL_val rfl rfl rfl (by first | exact rMoveN rfl rfl | exact rMoveE rfl rfl | exact rMove rfl) ?_
    refine WL_val rfl rfl rfl (by first | exact rAsgnN rfl rfl | exact rAsgnE rfl rfl | exact rAsgn rfl) ?_
    refine WL_val rfl rfl rfl (by first | exact rAsgnN rfl rfl | exact rAsgnE rfl rfl | exact rAsgn rfl) ?_
    refine WL_nil ?_
    refine W_ret ?_
    exact ret2 2 3 (.inr rfl) rfl (.inr ⟨parsed_none hx, ⟨U, u, rfl⟩, hI2.pu⟩)
  | some q =>
    obtain ⟨ge, r⟩ := q
    rw [parsed_some hx]
    rw [hx] at hge
    refine W_seq ?_
    refine W_region ?_
    refine WL_val rfl rfl rfl (by first | exact rMoveP rfl rfl | exact rMove rfl) ?_
    refine WL_call rfl rfl rfl (rCall (vs := [.pointer _, .int .i64 _]) rfl Tryd.func13 rfl rfl rfl) ?_
    refine hge.mono ?_
    rintro e w2 (⟨ge', v, L, i', h, rfl, hR, hi', hI2⟩ | ⟨h, -⟩)
    rotate_left
    · cases h
    cases h
    obtain ⟨Tv, bv, rfl⟩ := hR.val
    refine ⟨_, rfl, ?_⟩
    refine WL_val rfl rfl rfl (by first | exact rMoveT rfl rfl | exact rMove rfl) ?_
    refine WL_val rfl rfl rfl (rExtr rfl rfl rfl) ?_
    refine WL_val rfl rfl rfl (rExtr rfl rfl rfl) ?_
    refine WL_val rfl rfl rfl (by first | exact rAsgnN rfl rfl | exact rAsgnE rfl rfl | exact rAsgn rfl) ?_
    refine WL_val rfl rfl rfl (by first | exact rAsgnN rfl rfl | exact rAsgnE rfl rfl | exact rAsgn rfl) ?_
    refine WL_nil ?_
    refine W_seq ?_
    refine W_seq ?_
    refine W_region ?_
    refine WL_val rfl rfl rfl (by first | exact rMoveN rfl rfl | exact rMoveE rfl rfl | exact rMove rfl) ?_
    refine WL_val rfl rfl rfl (by first | exact rIfaceEq rfl Tryd.underlying35 rfl rfl | exact rNilEq rfl Tryd.underlying35 rfl) ?_
    refine WL_nil ?_
    refine W_cond true rfl ?_
    by_cases hr : (toks bs).drop i' = []
    · rw [if_pos hr]
      refine W_region ?_
      refine WL_val rfl rfl rfl (by first | exact rMoveP rfl rfl | exact rMove rfl) ?_
      refine WL_call rfl rfl rfl (rCall (vs := [.pointer _, .string _]) rfl Tryd.func14 rfl rfl rfl) ?_
      refine (expect_any (toks bs) out c i' b14 g _ w0 _ _ [] hP hi' hI2).mono ?_
      rintro e w3 (⟨h, rfl, i4, hi4, hd4, hI3⟩ | ⟨h, -⟩)
      rotate_left
      · exact absurd (by rw [hr]; rfl) h
      refine ⟨_, rfl, ?_⟩
      refine WL_val rfl rfl rfl (by first | exact rAsgnN rfl rfl | exact rAsgnE rfl rfl | exact rAsgn rfl) ?_
      refine WL_nil ?_
      refine W_seq ?_
      refine W_seq ?_
      refine W_region ?_
      refine WL_val rfl rfl rfl (by first | exact rMoveN rfl rfl | exact rMoveE rfl rfl | exact rMove rfl) ?_
      refine WL_val rfl rfl rfl (by first | exact rIfaceNe rfl Tryd.underlying35 rfl rfl | exact rNilNe rfl Tryd.underlying35 rfl) ?_
      refine WL_nil ?_
      refine W_cond false rfl ?_
      refine W_skip ?_
      refine W_seq ?_
      refine W_region ?_
      refine WL_val rfl rfl rfl (by first | exact rMoveN rfl rfl | exact rMoveE rfl rfl | exact rMove rfl) ?_
      refine WL_val rfl rfl rfl (by first | exact rAsgnN rfl rfl | exact rAsgnE rfl rfl | exact rAsgn rfl) ?_
      refine WL_val rfl rfl rfl (by first | exact rAsgnN rfl rfl | exact rAsgnE rfl rfl | exact rAsgn rfl) ?_
      refine WL_nil ?_
      refine W_ret ?_
      exact ret2 2 3 (.inr rfl) rfl (.inl ⟨ge, _, L, rfl, rfl, hR, by have := hI3.d0.d0; rwa [List.append_nil] at this⟩)
    · rw [if_neg hr]
      have hne : headT ((toks bs).drop i') ≠ [] := by
        have hlt : i' < (toks bs).length := Nat.lt_of_not_le fun hn => hr (List.drop_of_length_le hn)
        rw [List.drop_eq_getElem_cons hlt]
        exact hP.ne _ (List.getElem_mem hlt)
      refine W_region ?_
      refine WL_val rfl rfl rfl (by first | exact rMoveP rfl rfl | exact rMove rfl) ?_
      refine WL_call rfl rfl rfl (rCall (vs := [.pointer _, .string _]) rfl Tryd.func14 rfl rfl rfl) ?_
      refine (expect_any (toks bs) out c i' b14 g _ w0 _ _ [] hP hi' hI2).mono ?_
      rintro e w3 (⟨h, -⟩ | ⟨h, ⟨U, u, rfl⟩, hI3⟩)
      · exact absurd h hne
      refine ⟨_, rfl, ?_⟩
      refine WL_val rfl rfl rfl (by first | exact rAsgnN rfl rfl | exact rAsgnE rfl rfl | exact rAsgn rfl) ?_
      refine WL_nil ?_
      refine W_seq ?_
      refine W_seq ?_
      refine W_region ?_
      refine WL_val rfl rfl rfl (by first | exact rMoveN rfl rfl | exact rMoveE rfl rfl | exact rMove rfl) ?_
      refine WL_val rfl rfl rfl (by first | exact rIfaceNe rfl Tryd.underlying35 rfl rfl | exact rNilNe rfl Tryd.underlying35 rfl) ?_
      refine WL_nil ?_
      refine W_cond true rfl ?_
      refine W_seq ?_
      refine W_region ?_
      refine WL_val rfl rfl rfl (by first | exact rMoveN rfl rfl | exact rMoveE rfl rfl | exact rMove rfl) ?_
      refine WL_val rfl rfl rfl (by first | exact rAsgnN rfl rfl | exact rAsgnE rfl rfl | exact rAsgn rfl) ?_
      refine WL_val rfl rfl rfl (by first | exact rAsgnN rfl rfl | exact rAsgnE rfl rfl | exact rAsgn rfl) ?_
      refine WL_nil ?_
      refine W_ret ?_
      exact ret2 2 3 (.inr rfl) rfl (.inr ⟨rfl, ⟨U, u, rfl⟩, hI3.pu⟩)
end Go.Proofs.YtlhmldjgmbcocaaDoor
