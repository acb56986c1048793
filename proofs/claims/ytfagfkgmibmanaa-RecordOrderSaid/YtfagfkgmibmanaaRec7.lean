/- record: Crash. -/
import Derived.Test.YtfagfkgmibmanaaRec6
namespace Go.Proofs.Ytfagfkgmibmanaa
open Go.RowKit
set_option linter.unusedVariables false
set_option linter.unusedSimpArgs false

theorem Row.base {w : World} {base base' size n : Nat} {e : TypeId} {v : Value} {xs : List Value} (h : w.ownsRow base e size v n xs) (hb : base' ≤ base) : w.ownsRow base' e size v n xs := by
  rcases h with ⟨h0, h | ⟨g, cap, cur, h1, h2, h3⟩⟩
  · exact ⟨h0, .inl h⟩
  · exact ⟨h0, .inr ⟨g, cap, cur, h1, Nat.le_trans hb h2, h3⟩⟩
def CrashPost (w : World) (l : List Nat) (en : Ending) (w' : World) : Prop := ∃ v, en = .returned (.tuple #[v, .nilIface]) ∧ NewB w l v w'
set_option maxHeartbeats 1000000 in
theorem crash_any (lg : Nat) (A : Option Addr) (c : Nat) (bs : List Nat) (sure count keep : Nat) (At : Option Addr) (nt ct : Nat) (torn : List Nat) (D : Nat → Prop) (w0 : World) (h : (LogE lg A c bs sure count).Φ w0) (hk : sure + keep ≤ bs.length) (hbs : bs.length ≤ 900000) (ht : Bts w0 D (.slice At nt ct) torn) (hnt : torn.length = nt) (htl : nt ≤ 1000) :
    Calls Try.prog 12 #[.pointer (some ⟨lg, 0, none⟩), .int .i64 keep, .slice At nt ct] w0 (CrashPost w0 (bs.take (sure + keep) ++ torn)) := by
  subst hnt
  obtain ⟨hBk, hRow, hne⟩ := id h
  have hlc := LogE.len h
  have c0 : w0.cell? ⟨lg, 0, none⟩ = some (.slice A bs.length c) := hBk.cell 0
  have c1 : w0.cell? ⟨lg, 1, none⟩ = some (.int .i64 (sure : Int)) := hBk.cell 1
  have hI := Inv.start (fun _ => False) w0
  refine calls_of_W (N := Try.f12.ntmps) Try.func12 rfl rfl rfl ?_
  refine W_seq ?_
  refine W_region ?_
  refine WL_val rfl rfl rfl (by first | exact rAsgnS rfl rfl | exact rAsgn rfl) ?_
  refine WL_val rfl rfl rfl (by first | exact rAsgnN rfl rfl | exact rAsgnE rfl rfl | exact rAsgn rfl) ?_
  refine WL_nil ?_
  refine W_seq ?_
  refine W_seq ?_
  refine W_draw (by kernel_rfl) ?_
  refine WA_inv (T := []) hI.drew ?_
  intro Sx hSx hXS
  replace hI := hI.drew
  refine WT_take 0 rfl rfl (by kernel_rfl) (hXS _ hI) rfl (fun W hW => have hI := hSx W hW; (by first | exact rMoveI rfl rfl | exact rMove rfl)) ?_
  refine WT_take 1 rfl rfl (by kernel_rfl) (hXS _ hI) rfl (fun W hW => have hI := hSx W hW; (by first | exact rLssT rfl rfl rfl (by omega) | exact rLssF rfl rfl rfl (by omega) | exact rLss rfl rfl rfl)) ?_
  refine WT_take 2 rfl rfl (by kernel_rfl) (hXS _ hI) rfl (fun W hW => have hI := hSx W hW; (by first | exact rMoveB rfl rfl | exact rMove rfl)) ?_
  first | refine WT_take 3 rfl rfl (by kernel_rfl) (hXS _ hI) rfl (fun W hW => have hI := hSx W hW; (by first | exact rMoveI rfl rfl | exact rMove rfl)) ?_ | refine WT_skip 3 rfl rfl (by kernel_rfl) (hXS _ hI) rfl ?_
  first | refine WT_take 4 rfl rfl (by kernel_rfl) (hXS _ hI) rfl (fun W hW => have hI := hSx W hW; (by first | exact rMoveP rfl rfl | exact rMove rfl)) ?_ | refine WT_skip 4 rfl rfl (by kernel_rfl) (hXS _ hI) rfl ?_
  first | refine WT_take 5 rfl rfl (by kernel_rfl) (hXS _ hI) rfl (fun W hW => have hI := hSx W hW; (rNilChk rfl rfl)) ?_ | refine WT_skip 5 rfl rfl (by kernel_rfl) (hXS _ hI) rfl ?_
  first | refine WT_take 6 rfl rfl (by kernel_rfl) (hXS _ hI) rfl (fun W hW => have hI := hSx W hW; (by first | exact rFldN (off := 0) rfl (by kernel_rfl) rfl | exact rFld0 rfl (by kernel_rfl) rfl)) ?_ | refine WT_skip 6 rfl rfl (by kernel_rfl) (hXS _ hI) rfl ?_
  first | refine WT_take 7 rfl rfl (by kernel_rfl) (hXS _ hI) rfl (fun W hW => have hI := hSx W hW; (by first | exact rLd (v := .slice _ _ _) rfl (by kernel_rfl) rfl (by first | exact hI.oldp c0 | exact c0 | exact hI.oldp c1 | exact c1) | exact rLd rfl (by kernel_rfl) rfl (by first | exact hI.oldp c0 | exact c0 | exact hI.oldp c1 | exact c1))) ?_ | refine WT_skip 7 rfl rfl (by kernel_rfl) (hXS _ hI) rfl ?_
  first | refine WT_take 8 rfl rfl (by kernel_rfl) (hXS _ hI) rfl (fun W hW => have hI := hSx W hW; (rLen rfl Try.underlying45 rfl)) ?_ | refine WT_skip 8 rfl rfl (by kernel_rfl) (hXS _ hI) rfl ?_
  first | refine WT_take 9 rfl rfl (by kernel_rfl) (hXS _ hI) rfl (fun W hW => have hI := hSx W hW; (by first | exact rMoveP rfl rfl | exact rMove rfl)) ?_ | refine WT_skip 9 rfl rfl (by kernel_rfl) (hXS _ hI) rfl ?_
  first | refine WT_take 10 rfl rfl (by kernel_rfl) (hXS _ hI) rfl (fun W hW => have hI := hSx W hW; (rNilChk rfl rfl)) ?_ | refine WT_skip 10 rfl rfl (by kernel_rfl) (hXS _ hI) rfl ?_
  first | refine WT_take 11 rfl rfl (by kernel_rfl) (hXS _ hI) rfl (fun W hW => have hI := hSx W hW; (by first | exact rFldN (off := 1) rfl (by kernel_rfl) rfl | exact rFld (off := 1) rfl (by kernel_rfl) rfl)) ?_ | refine WT_skip 11 rfl rfl (by kernel_rfl) (hXS _ hI) rfl ?_
  first | refine WT_take 12 rfl rfl (by kernel_rfl) (hXS _ hI) rfl (fun W hW => have hI := hSx W hW; (by first | exact rLd (v := .int .i64 _) rfl (by kernel_rfl) rfl (by first | exact hI.oldp c0 | exact c0 | exact hI.oldp c1 | exact c1) | exact rLd rfl (by kernel_rfl) rfl (by first | exact hI.oldp c0 | exact c0 | exact hI.oldp c1 | exact c1))) ?_ | refine WT_skip 12 rfl rfl (by kernel_rfl) (hXS _ hI) rfl ?_
  first | refine WT_take 13 rfl rfl (by kernel_rfl) (hXS _ hI) rfl (fun W hW => have hI := hSx W hW; (by first | exact rSub rfl rfl rfl (by omega) | exact rSubW rfl rfl rfl)) ?_ | refine WT_skip 13 rfl rfl (by kernel_rfl) (hXS _ hI) rfl ?_
  first | refine WT_take 14 rfl rfl (by kernel_rfl) (hXS _ hI) rfl (fun W hW => have hI := hSx W hW; (by first | exact rGtrT rfl rfl rfl (by omega) | exact rGtrF rfl rfl rfl (by omega) | exact rGtr rfl rfl rfl)) ?_ | refine WT_skip 14 rfl rfl (by kernel_rfl) (hXS _ hI) rfl ?_
  refine WT_take 15 rfl rfl (by kernel_rfl) (hXS _ hI) rfl (fun W hW => have hI := hSx W hW; (by first | exact rPickTB rfl rfl rfl | exact rPickFB rfl rfl rfl | exact rPickB rfl rfl rfl rfl)) ?_
  refine WT_end (by kernel_rfl) ?_
  refine W_cond false rfl ?_
  refine W_skip ?_
  have hlb : Bts w0 (fun _ => True) (.slice A (sure + keep) c) (bs.take (sure + keep)) := (LogE.bts h).take hk (by omega) (Nat.le_refl _)
  have htk : (bs.take (sure + keep)).length = sure + keep := by rw [List.length_take]; omega
  refine W_seq ?_
  refine W_draw (by kernel_rfl) ?_
  refine WA_inv (T := [12]) hI.drew ?_
  intro Sx hSx hXS
  replace hI := hI.drew
  refine WT_take 0 rfl rfl (by kernel_rfl) (hXS _ hI) rfl (fun W hW => have hI := hSx W hW; (by first | exact rMoveP rfl rfl | exact rMove rfl)) ?_
  refine WT_take 1 rfl rfl (by kernel_rfl) (hXS _ hI) rfl (fun W hW => have hI := hSx W hW; (rNilChk rfl rfl)) ?_
  refine WT_take 2 rfl rfl (by kernel_rfl) (hXS _ hI) rfl (fun W hW => have hI := hSx W hW; (by first | exact rFldN (off := 0) rfl (by kernel_rfl) rfl | exact rFld0 rfl (by kernel_rfl) rfl)) ?_
  refine WT_take 3 rfl rfl (by kernel_rfl) (hXS _ hI) rfl (fun W hW => have hI := hSx W hW; (by first | exact rLd (v := .slice _ _ _) rfl (by kernel_rfl) rfl (by first | exact hI.oldp c0 | exact c0 | exact hI.oldp c1 | exact c1) | exact rLd rfl (by kernel_rfl) rfl (by first | exact hI.oldp c0 | exact c0 | exact hI.oldp c1 | exact c1))) ?_
  refine WT_take 4 rfl rfl (by kernel_rfl) (hXS _ hI) rfl (fun W hW => have hI := hSx W hW; (by first | exact rMoveP rfl rfl | exact rMove rfl)) ?_
  refine WT_take 5 rfl rfl (by kernel_rfl) (hXS _ hI) rfl (fun W hW => have hI := hSx W hW; (rNilChk rfl rfl)) ?_
  refine WT_take 6 rfl rfl (by kernel_rfl) (hXS _ hI) rfl (fun W hW => have hI := hSx W hW; (by first | exact rFldN (off := 1) rfl (by kernel_rfl) rfl | exact rFld (off := 1) rfl (by kernel_rfl) rfl)) ?_
  refine WT_take 7 rfl rfl (by kernel_rfl) (hXS _ hI) rfl (fun W hW => have hI := hSx W hW; (by first | exact rLd (v := .int .i64 _) rfl (by kernel_rfl) rfl (by first | exact hI.oldp c0 | exact c0 | exact hI.oldp c1 | exact c1) | exact rLd rfl (by kernel_rfl) rfl (by first | exact hI.oldp c0 | exact c0 | exact hI.oldp c1 | exact c1))) ?_
  refine WT_take 8 rfl rfl (by kernel_rfl) (hXS _ hI) rfl (fun W hW => have hI := hSx W hW; (by first | exact rMoveI rfl rfl | exact rMove rfl)) ?_
  refine WT_take 9 rfl rfl (by kernel_rfl) (hXS _ hI) rfl (fun W hW => have hI := hSx W hW; (by first | exact rInc rfl rfl rfl (by omega) | exact rAdd rfl rfl rfl (by omega) | exact rAddW rfl rfl rfl)) ?_
  refine WT_take 10 rfl rfl (by kernel_rfl) (hXS _ hI) rfl (fun W hW => have hI := hSx W hW; (rSliceTo (sz := 1) rfl Try.underlying45 (by kernel_rfl) rfl rfl (by omega))) ?_
  refine WT_take 11 rfl rfl (by kernel_rfl) (hXS _ hI) rfl (fun W hW => have hI := hSx W hW; (by first | exact rMoveS rfl rfl | exact rMove rfl)) ?_
  refine WT_A (by kernel_rfl) ?_
  clear hXS hSx
  refine WA_one 12 rfl (by kernel_rfl) ?_
  refine WL_lit (vs := [_, _]) (qs := [(0, .slice _ _ _), (1, .slice _ _ _)]) [.slice none 0 0, .slice none 0 0] [0, 1] hI rfl rfl rfl rfl rfl rfl Try.underlying75 (fun _ => by kernel_rfl) ?_
  clear hI; rintro b37 w - - hI
  refine WL_nil ?_
  refine WA_one 13 rfl (by kernel_rfl) ?_
  refine WL_call rfl rfl rfl (rCall (vs := [.slice _ _ _]) rfl Try.func18 rfl rfl rfl) ?_
  refine (concat_any b37 2 [bs.take (sure + keep), torn] (fun _ => True) _ ?_ rfl ?_ (by omega)).mono ?_
  · intro i l hi
    match i, hi with
    | 0, hi =>
      cases hi
      rw [htk]
      exact ⟨A, c, hI.c0 rfl, hlb.pure hI.pu⟩
    | 1, hi =>
      cases hi
      exact ⟨At, ct, hI.c0 rfl, (ht.mono (fun _ _ => trivial)).pure hI.pu⟩
  · simp
    omega
  rintro en w1 ⟨v, rfl, hp, A', c', rfl, hown⟩
  refine ⟨_, rfl, ?_⟩
  have hown2 : w1.ownsRow w0.heap.size 5 1 (.slice A' (bs.take (sure + keep) ++ torn).length c') (bs.take (sure + keep) ++ torn).length (bytesV (bs.take (sure + keep) ++ torn)) := by
    have e : [bs.take (sure + keep), torn].flatten = bs.take (sure + keep) ++ torn := by simp
    rw [← e]
    exact Row.base hown hI.pu.size
  have e : [bs.take (sure + keep), torn].flatten = bs.take (sure + keep) ++ torn := by simp
  rw [e]
  replace hI := hI.fresh hp (Row.ok hown) (fun k hk => Row.lo hown hk)
  refine WL_nil ?_
  refine WA_one 14 rfl (by kernel_rfl) ?_
  refine WL_val rfl rfl rfl (by first | exact rAsgnS rfl rfl | exact rAsgn rfl) ?_
  refine WL_nil ?_
  refine WA_one 15 rfl (by kernel_rfl) ?_
  refine WL_val rfl rfl rfl (by first | exact rAsgnN rfl rfl | exact rAsgnE rfl rfl | exact rAsgn rfl) ?_
  refine WL_nil ?_
  refine WA_end (by kernel_rfl) ?_
  refine W_ret ?_
  exact ret2 6 7 (.inr rfl) rfl ⟨_, rfl, hI.pu, A', c', rfl, hown2⟩
end Go.Proofs.Ytfagfkgmibmanaa
