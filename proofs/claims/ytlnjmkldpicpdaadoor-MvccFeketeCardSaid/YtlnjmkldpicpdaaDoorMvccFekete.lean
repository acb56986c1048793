/- On snapshots what goes round has a pivot: one that reads what another one makes anew, and makes anew what a third one reads, each pair of them at the same time. -/
import Derived.Test.YtlnjmkldpicpdaaDoorMvccFirst
import Derived.Test.YtlnjmkldpicpdaaDoorMvcLaw2
namespace Go.Proofs.YtlnjmkldpicpdaaDoor
open Go.RowKit
set_option linter.unusedVariables false
set_option linter.unusedSimpArgs false
def sameF (s : Bs) (i k : Nat) : Bool := decide ((txAt s k).beg < (txAt s i).com) && decide ((txAt s i).beg < (txAt s k).com)
def inF (s : Bs) (t j : Nat) : Bool := (List.range j).any fun o => anewF (stT s) (stG s) o t && sameF s o t
def outF (s : Bs) (t j : Nat) : Bool := (List.range j).any fun o => anewF (stT s) (stG s) t o && sameF s t o
theorem inF_succ (s : Bs) (t j : Nat) : inF s t (j + 1) = (inF s t j || (anewF (stT s) (stG s) j t && sameF s j t)) := by unfold inF; rw [List.range_succ, List.any_append]; simp
theorem outF_succ (s : Bs) (t j : Nat) : outF s t (j + 1) = (outF s t j || (anewF (stT s) (stG s) t j && sameF s t j)) := by unfold outF; rw [List.range_succ, List.any_append]; simp
set_option maxHeartbeats 2000000 in
theorem same_any (sb i k : Nat) (s : Bs) (A : Option Addr) (c : Nat) (D : Nat → Prop) (w0 : World) (hb : w0.cell? ⟨sb, 0, none⟩ = some (.slice A s.txs.length c)) (h : Rd w0 D 2 (.slice A s.txs.length c) s.txs.length (s.txs.flatMap spanV)) (hi : i < s.txs.length) (hk : k < s.txs.length) :
    Calls Tryd.prog 13 #[.int .i64 (i : Int), .int .i64 (k : Int), .pointer (some ⟨sb, 0, none⟩)] w0 fun en w' => en = .returned (.bool (sameF s i k)) ∧ Pure w0 w' := by
  obtain ⟨b, f, rfl, -, qi0, qi1⟩ := spans_get h (txAt_get hi)
  obtain ⟨_, _, e, -, qk0, qk1⟩ := spans_get h (txAt_get hk)
  injection e with e
  injection e with e1 e2
  subst e1 e2
  have hI := Inv.start (fun _ => False) w0
  unfold sameF
  refine calls_of_W (N := Tryd.f13.ntmps) Tryd.func13 rfl rfl rfl ?_
  refine W_seq ?_
  refine W_region ?_
  refine WL_val rfl rfl rfl (by first | exact rAsgnB rfl rfl | exact rAsgn rfl) ?_
  refine WL_nil ?_
  by_cases h1 : (txAt s k).beg < (txAt s i).com
  · by_cases h2 : (txAt s i).beg < (txAt s k).com
    · rw [decide_eq_true h1, decide_eq_true h2]
      refine W_seq ?_
      refine W_draw (by kernel_rfl) ?_
      refine WA_inv (T := []) hI.drew ?_
      intro Sx hSx hXS
      replace hI := hI.drew
      refine WT_take 0 rfl rfl (by kernel_rfl) (hXS _ hI) rfl (fun W hW => have hI := hSx W hW; (by first | exact rLd (v := .slice _ _ _) rfl (by kernel_rfl) rfl (by first | exact hI.c0 rfl | exact hI.oldp hb | exact hb | exact hI.oldp qi0 | exact qi0 | exact hI.oldp qi1 | exact qi1 | exact hI.oldp qk0 | exact qk0 | exact hI.oldp qk1 | exact qk1) | exact rLd rfl (by kernel_rfl) rfl (by first | exact hI.c0 rfl | exact hI.oldp hb | exact hb | exact hI.oldp qi0 | exact qi0 | exact hI.oldp qi1 | exact qi1 | exact hI.oldp qk0 | exact qk0 | exact hI.oldp qk1 | exact qk1))) ?_
      refine WT_take 1 rfl rfl (by kernel_rfl) (hXS _ hI) rfl (fun W hW => have hI := hSx W hW; (by first | exact rMoveI rfl rfl | exact rMove rfl)) ?_
      refine WT_take 2 rfl rfl (by kernel_rfl) (hXS _ hI) rfl (fun W hW => have hI := hSx W hW; (rIdx (sz := 2) rfl Tryd.underlying31 (by kernel_rfl) rfl rfl (by omega))) ?_
      refine WT_take 3 rfl rfl (by kernel_rfl) (hXS _ hI) rfl (fun W hW => have hI := hSx W hW; (rIdxArr (sz := 1) (i := 1) rfl Tryd.underlying34 (by kernel_rfl) rfl rfl rfl (by omega))) ?_
      refine WT_take 4 rfl rfl (by kernel_rfl) (hXS _ hI) rfl (fun W hW => have hI := hSx W hW; (by first | exact rLd (v := .int .i64 _) rfl (by kernel_rfl) rfl (by first | exact hI.c0 rfl | exact hI.oldp hb | exact hb | exact hI.oldp qi0 | exact qi0 | exact hI.oldp qi1 | exact qi1 | exact hI.oldp qk0 | exact qk0 | exact hI.oldp qk1 | exact qk1) | exact rLd rfl (by kernel_rfl) rfl (by first | exact hI.c0 rfl | exact hI.oldp hb | exact hb | exact hI.oldp qi0 | exact qi0 | exact hI.oldp qi1 | exact qi1 | exact hI.oldp qk0 | exact qk0 | exact hI.oldp qk1 | exact qk1))) ?_
      refine WT_take 5 rfl rfl (by kernel_rfl) (hXS _ hI) rfl (fun W hW => have hI := hSx W hW; (by first | exact rLd (v := .slice _ _ _) rfl (by kernel_rfl) rfl (by first | exact hI.c0 rfl | exact hI.oldp hb | exact hb | exact hI.oldp qi0 | exact qi0 | exact hI.oldp qi1 | exact qi1 | exact hI.oldp qk0 | exact qk0 | exact hI.oldp qk1 | exact qk1) | exact rLd rfl (by kernel_rfl) rfl (by first | exact hI.c0 rfl | exact hI.oldp hb | exact hb | exact hI.oldp qi0 | exact qi0 | exact hI.oldp qi1 | exact qi1 | exact hI.oldp qk0 | exact qk0 | exact hI.oldp qk1 | exact qk1))) ?_
      refine WT_take 6 rfl rfl (by kernel_rfl) (hXS _ hI) rfl (fun W hW => have hI := hSx W hW; (by first | exact rMoveI rfl rfl | exact rMove rfl)) ?_
      refine WT_take 7 rfl rfl (by kernel_rfl) (hXS _ hI) rfl (fun W hW => have hI := hSx W hW; (rIdx (sz := 2) rfl Tryd.underlying31 (by kernel_rfl) rfl rfl (by omega))) ?_
      refine WT_take 8 rfl rfl (by kernel_rfl) (hXS _ hI) rfl (fun W hW => have hI := hSx W hW; (rIdxArr (sz := 1) (i := 0) rfl Tryd.underlying34 (by kernel_rfl) rfl rfl rfl (by omega))) ?_
      refine WT_take 9 rfl rfl (by kernel_rfl) (hXS _ hI) rfl (fun W hW => have hI := hSx W hW; (by first | exact rLd (v := .int .i64 _) rfl (by kernel_rfl) rfl (by first | exact hI.c0 rfl | exact hI.oldp hb | exact hb | exact hI.oldp qi0 | exact qi0 | exact hI.oldp qi1 | exact qi1 | exact hI.oldp qk0 | exact qk0 | exact hI.oldp qk1 | exact qk1) | exact rLd rfl (by kernel_rfl) rfl (by first | exact hI.c0 rfl | exact hI.oldp hb | exact hb | exact hI.oldp qi0 | exact qi0 | exact hI.oldp qi1 | exact qi1 | exact hI.oldp qk0 | exact qk0 | exact hI.oldp qk1 | exact qk1))) ?_
      refine WT_take 10 rfl rfl (by kernel_rfl) (hXS _ hI) rfl (fun W hW => have hI := hSx W hW; (by first | exact rGtrT rfl rfl rfl (by omega) | exact rGtrF rfl rfl rfl (by omega) | exact rGtr rfl rfl rfl)) ?_
      refine WT_take 11 rfl rfl (by kernel_rfl) (hXS _ hI) rfl (fun W hW => have hI := hSx W hW; (by first | exact rMoveB rfl rfl | exact rMove rfl)) ?_
      first | refine WT_take 12 rfl rfl (by kernel_rfl) (hXS _ hI) rfl (fun W hW => have hI := hSx W hW; (by first | exact rLd (v := .slice _ _ _) rfl (by kernel_rfl) rfl (by first | exact hI.c0 rfl | exact hI.oldp hb | exact hb | exact hI.oldp qi0 | exact qi0 | exact hI.oldp qi1 | exact qi1 | exact hI.oldp qk0 | exact qk0 | exact hI.oldp qk1 | exact qk1) | exact rLd rfl (by kernel_rfl) rfl (by first | exact hI.c0 rfl | exact hI.oldp hb | exact hb | exact hI.oldp qi0 | exact qi0 | exact hI.oldp qi1 | exact qi1 | exact hI.oldp qk0 | exact qk0 | exact hI.oldp qk1 | exact qk1))) ?_ | refine WT_skip 12 rfl rfl (by kernel_rfl) (hXS _ hI) rfl ?_
      first | refine WT_take 13 rfl rfl (by kernel_rfl) (hXS _ hI) rfl (fun W hW => have hI := hSx W hW; (by first | exact rMoveI rfl rfl | exact rMove rfl)) ?_ | refine WT_skip 13 rfl rfl (by kernel_rfl) (hXS _ hI) rfl ?_
      first | refine WT_take 14 rfl rfl (by kernel_rfl) (hXS _ hI) rfl (fun W hW => have hI := hSx W hW; (rIdx (sz := 2) rfl Tryd.underlying31 (by kernel_rfl) rfl rfl (by omega))) ?_ | refine WT_skip 14 rfl rfl (by kernel_rfl) (hXS _ hI) rfl ?_
      first | refine WT_take 15 rfl rfl (by kernel_rfl) (hXS _ hI) rfl (fun W hW => have hI := hSx W hW; (rIdxArr (sz := 1) (i := 1) rfl Tryd.underlying34 (by kernel_rfl) rfl rfl rfl (by omega))) ?_ | refine WT_skip 15 rfl rfl (by kernel_rfl) (hXS _ hI) rfl ?_
      first | refine WT_take 16 rfl rfl (by kernel_rfl) (hXS _ hI) rfl (fun W hW => have hI := hSx W hW; (by first | exact rLd (v := .int .i64 _) rfl (by kernel_rfl) rfl (by first | exact hI.c0 rfl | exact hI.oldp hb | exact hb | exact hI.oldp qi0 | exact qi0 | exact hI.oldp qi1 | exact qi1 | exact hI.oldp qk0 | exact qk0 | exact hI.oldp qk1 | exact qk1) | exact rLd rfl (by kernel_rfl) rfl (by first | exact hI.c0 rfl | exact hI.oldp hb | exact hb | exact hI.oldp qi0 | exact qi0 | exact hI.oldp qi1 | exact qi1 | exact hI.oldp qk0 | exact qk0 | exact hI.oldp qk1 | exact qk1))) ?_ | refine WT_skip 16 rfl rfl (by kernel_rfl) (hXS _ hI) rfl ?_
      first | refine WT_take 17 rfl rfl (by kernel_rfl) (hXS _ hI) rfl (fun W hW => have hI := hSx W hW; (by first | exact rLd (v := .slice _ _ _) rfl (by kernel_rfl) rfl (by first | exact hI.c0 rfl | exact hI.oldp hb | exact hb | exact hI.oldp qi0 | exact qi0 | exact hI.oldp qi1 | exact qi1 | exact hI.oldp qk0 | exact qk0 | exact hI.oldp qk1 | exact qk1) | exact rLd rfl (by kernel_rfl) rfl (by first | exact hI.c0 rfl | exact hI.oldp hb | exact hb | exact hI.oldp qi0 | exact qi0 | exact hI.oldp qi1 | exact qi1 | exact hI.oldp qk0 | exact qk0 | exact hI.oldp qk1 | exact qk1))) ?_ | refine WT_skip 17 rfl rfl (by kernel_rfl) (hXS _ hI) rfl ?_
      first | refine WT_take 18 rfl rfl (by kernel_rfl) (hXS _ hI) rfl (fun W hW => have hI := hSx W hW; (by first | exact rMoveI rfl rfl | exact rMove rfl)) ?_ | refine WT_skip 18 rfl rfl (by kernel_rfl) (hXS _ hI) rfl ?_
      first | refine WT_take 19 rfl rfl (by kernel_rfl) (hXS _ hI) rfl (fun W hW => have hI := hSx W hW; (rIdx (sz := 2) rfl Tryd.underlying31 (by kernel_rfl) rfl rfl (by omega))) ?_ | refine WT_skip 19 rfl rfl (by kernel_rfl) (hXS _ hI) rfl ?_
      first | refine WT_take 20 rfl rfl (by kernel_rfl) (hXS _ hI) rfl (fun W hW => have hI := hSx W hW; (rIdxArr (sz := 1) (i := 0) rfl Tryd.underlying34 (by kernel_rfl) rfl rfl rfl (by omega))) ?_ | refine WT_skip 20 rfl rfl (by kernel_rfl) (hXS _ hI) rfl ?_
      first | refine WT_take 21 rfl rfl (by kernel_rfl) (hXS _ hI) rfl (fun W hW => have hI := hSx W hW; (by first | exact rLd (v := .int .i64 _) rfl (by kernel_rfl) rfl (by first | exact hI.c0 rfl | exact hI.oldp hb | exact hb | exact hI.oldp qi0 | exact qi0 | exact hI.oldp qi1 | exact qi1 | exact hI.oldp qk0 | exact qk0 | exact hI.oldp qk1 | exact qk1) | exact rLd rfl (by kernel_rfl) rfl (by first | exact hI.c0 rfl | exact hI.oldp hb | exact hb | exact hI.oldp qi0 | exact qi0 | exact hI.oldp qi1 | exact qi1 | exact hI.oldp qk0 | exact qk0 | exact hI.oldp qk1 | exact qk1))) ?_ | refine WT_skip 21 rfl rfl (by kernel_rfl) (hXS _ hI) rfl ?_
      first | refine WT_take 22 rfl rfl (by kernel_rfl) (hXS _ hI) rfl (fun W hW => have hI := hSx W hW; (by first | exact rGtrT rfl rfl rfl (by omega) | exact rGtrF rfl rfl rfl (by omega) | exact rGtr rfl rfl rfl)) ?_ | refine WT_skip 22 rfl rfl (by kernel_rfl) (hXS _ hI) rfl ?_
      refine WT_take 23 rfl rfl (by kernel_rfl) (hXS _ hI) rfl (fun W hW => have hI := hSx W hW; (by first | exact rPickTB rfl rfl rfl | exact rPickFB rfl rfl rfl | exact rPickB rfl rfl rfl rfl)) ?_
      refine WT_take 24 rfl rfl (by kernel_rfl) (hXS _ hI) rfl (fun W hW => have hI := hSx W hW; (by first | exact rAsgnB rfl rfl | exact rAsgn rfl)) ?_
      refine WT_end (by kernel_rfl) ?_
      refine W_ret ?_
      exact ret1 5 (.inr rfl) rfl ⟨rfl, hI.pu⟩
    · rw [decide_eq_true h1, decide_eq_false h2]
      refine W_seq ?_
      refine W_draw (by kernel_rfl) ?_
      refine WA_inv (T := []) hI.drew ?_
      intro Sx hSx hXS
      replace hI := hI.drew
      refine WT_take 0 rfl rfl (by kernel_rfl) (hXS _ hI) rfl (fun W hW => have hI := hSx W hW; (by first | exact rLd (v := .slice _ _ _) rfl (by kernel_rfl) rfl (by first | exact hI.c0 rfl | exact hI.oldp hb | exact hb | exact hI.oldp qi0 | exact qi0 | exact hI.oldp qi1 | exact qi1 | exact hI.oldp qk0 | exact qk0 | exact hI.oldp qk1 | exact qk1) | exact rLd rfl (by kernel_rfl) rfl (by first | exact hI.c0 rfl | exact hI.oldp hb | exact hb | exact hI.oldp qi0 | exact qi0 | exact hI.oldp qi1 | exact qi1 | exact hI.oldp qk0 | exact qk0 | exact hI.oldp qk1 | exact qk1))) ?_
      refine WT_take 1 rfl rfl (by kernel_rfl) (hXS _ hI) rfl (fun W hW => have hI := hSx W hW; (by first | exact rMoveI rfl rfl | exact rMove rfl)) ?_
      refine WT_take 2 rfl rfl (by kernel_rfl) (hXS _ hI) rfl (fun W hW => have hI := hSx W hW; (rIdx (sz := 2) rfl Tryd.underlying31 (by kernel_rfl) rfl rfl (by omega))) ?_
      refine WT_take 3 rfl rfl (by kernel_rfl) (hXS _ hI) rfl (fun W hW => have hI := hSx W hW; (rIdxArr (sz := 1) (i := 1) rfl Tryd.underlying34 (by kernel_rfl) rfl rfl rfl (by omega))) ?_
      refine WT_take 4 rfl rfl (by kernel_rfl) (hXS _ hI) rfl (fun W hW => have hI := hSx W hW; (by first | exact rLd (v := .int .i64 _) rfl (by kernel_rfl) rfl (by first | exact hI.c0 rfl | exact hI.oldp hb | exact hb | exact hI.oldp qi0 | exact qi0 | exact hI.oldp qi1 | exact qi1 | exact hI.oldp qk0 | exact qk0 | exact hI.oldp qk1 | exact qk1) | exact rLd rfl (by kernel_rfl) rfl (by first | exact hI.c0 rfl | exact hI.oldp hb | exact hb | exact hI.oldp qi0 | exact qi0 | exact hI.oldp qi1 | exact qi1 | exact hI.oldp qk0 | exact qk0 | exact hI.oldp qk1 | exact qk1))) ?_
      refine WT_take 5 rfl rfl (by kernel_rfl) (hXS _ hI) rfl (fun W hW => have hI := hSx W hW; (by first | exact rLd (v := .slice _ _ _) rfl (by kernel_rfl) rfl (by first | exact hI.c0 rfl | exact hI.oldp hb | exact hb | exact hI.oldp qi0 | exact qi0 | exact hI.oldp qi1 | exact qi1 | exact hI.oldp qk0 | exact qk0 | exact hI.oldp qk1 | exact qk1) | exact rLd rfl (by kernel_rfl) rfl (by first | exact hI.c0 rfl | exact hI.oldp hb | exact hb | exact hI.oldp qi0 | exact qi0 | exact hI.oldp qi1 | exact qi1 | exact hI.oldp qk0 | exact qk0 | exact hI.oldp qk1 | exact qk1))) ?_
      refine WT_take 6 rfl rfl (by kernel_rfl) (hXS _ hI) rfl (fun W hW => have hI := hSx W hW; (by first | exact rMoveI rfl rfl | exact rMove rfl)) ?_
      refine WT_take 7 rfl rfl (by kernel_rfl) (hXS _ hI) rfl (fun W hW => have hI := hSx W hW; (rIdx (sz := 2) rfl Tryd.underlying31 (by kernel_rfl) rfl rfl (by omega))) ?_
      refine WT_take 8 rfl rfl (by kernel_rfl) (hXS _ hI) rfl (fun W hW => have hI := hSx W hW; (rIdxArr (sz := 1) (i := 0) rfl Tryd.underlying34 (by kernel_rfl) rfl rfl rfl (by omega))) ?_
      refine WT_take 9 rfl rfl (by kernel_rfl) (hXS _ hI) rfl (fun W hW => have hI := hSx W hW; (by first | exact rLd (v := .int .i64 _) rfl (by kernel_rfl) rfl (by first | exact hI.c0 rfl | exact hI.oldp hb | exact hb | exact hI.oldp qi0 | exact qi0 | exact hI.oldp qi1 | exact qi1 | exact hI.oldp qk0 | exact qk0 | exact hI.oldp qk1 | exact qk1) | exact rLd rfl (by kernel_rfl) rfl (by first | exact hI.c0 rfl | exact hI.oldp hb | exact hb | exact hI.oldp qi0 | exact qi0 | exact hI.oldp qi1 | exact qi1 | exact hI.oldp qk0 | exact qk0 | exact hI.oldp qk1 | exact qk1))) ?_
      refine WT_take 10 rfl rfl (by kernel_rfl) (hXS _ hI) rfl (fun W hW => have hI := hSx W hW; (by first | exact rGtrT rfl rfl rfl (by omega) | exact rGtrF rfl rfl rfl (by omega) | exact rGtr rfl rfl rfl)) ?_
      refine WT_take 11 rfl rfl (by kernel_rfl) (hXS _ hI) rfl (fun W hW => have hI := hSx W hW; (by first | exact rMoveB rfl rfl | exact rMove rfl)) ?_
      first | refine WT_take 12 rfl rfl (by kernel_rfl) (hXS _ hI) rfl (fun W hW => have hI := hSx W hW; (by first | exact rLd (v := .slice _ _ _) rfl (by kernel_rfl) rfl (by first | exact hI.c0 rfl | exact hI.oldp hb | exact hb | exact hI.oldp qi0 | exact qi0 | exact hI.oldp qi1 | exact qi1 | exact hI.oldp qk0 | exact qk0 | exact hI.oldp qk1 | exact qk1) | exact rLd rfl (by kernel_rfl) rfl (by first | exact hI.c0 rfl | exact hI.oldp hb | exact hb | exact hI.oldp qi0 | exact qi0 | exact hI.oldp qi1 | exact qi1 | exact hI.oldp qk0 | exact qk0 | exact hI.oldp qk1 | exact qk1))) ?_ | refine WT_skip 12 rfl rfl (by kernel_rfl) (hXS _ hI) rfl ?_
      first | refine WT_take 13 rfl rfl (by kernel_rfl) (hXS _ hI) rfl (fun W hW => have hI := hSx W hW; (by first | exact rMoveI rfl rfl | exact rMove rfl)) ?_ | refine WT_skip 13 rfl rfl (by kernel_rfl) (hXS _ hI) rfl ?_
      first | refine WT_take 14 rfl rfl (by kernel_rfl) (hXS _ hI) rfl (fun W hW => have hI := hSx W hW; (rIdx (sz := 2) rfl Tryd.underlying31 (by kernel_rfl) rfl rfl (by omega))) ?_ | refine WT_skip 14 rfl rfl (by kernel_rfl) (hXS _ hI) rfl ?_
      first | refine WT_take 15 rfl rfl (by kernel_rfl) (hXS _ hI) rfl (fun W hW => have hI := hSx W hW; (rIdxArr (sz := 1) (i := 1) rfl Tryd.underlying34 (by kernel_rfl) rfl rfl rfl (by omega))) ?_ | refine WT_skip 15 rfl rfl (by kernel_rfl) (hXS _ hI) rfl ?_
      first | refine WT_take 16 rfl rfl (by kernel_rfl) (hXS _ hI) rfl (fun W hW => have hI := hSx W hW; (by first | exact rLd (v := .int .i64 _) rfl (by kernel_rfl) rfl (by first | exact hI.c0 rfl | exact hI.oldp hb | exact hb | exact hI.oldp qi0 | exact qi0 | exact hI.oldp qi1 | exact qi1 | exact hI.oldp qk0 | exact qk0 | exact hI.oldp qk1 | exact qk1) | exact rLd rfl (by kernel_rfl) rfl (by first | exact hI.c0 rfl | exact hI.oldp hb | exact hb | exact hI.oldp qi0 | exact qi0 | exact hI.oldp qi1 | exact qi1 | exact hI.oldp qk0 | exact qk0 | exact hI.oldp qk1 | exact qk1))) ?_ | refine WT_skip 16 rfl rfl (by kernel_rfl) (hXS _ hI) rfl ?_
      first | refine WT_take 17 rfl rfl (by kernel_rfl) (hXS _ hI) rfl (fun W hW => have hI := hSx W hW; (by first | exact rLd (v := .slice _ _ _) rfl (by kernel_rfl) rfl (by first | exact hI.c0 rfl | exact hI.oldp hb | exact hb | exact hI.oldp qi0 | exact qi0 | exact hI.oldp qi1 | exact qi1 | exact hI.oldp qk0 | exact qk0 | exact hI.oldp qk1 | exact qk1) | exact rLd rfl (by kernel_rfl) rfl (by first | exact hI.c0 rfl | exact hI.oldp hb | exact hb | exact hI.oldp qi0 | exact qi0 | exact hI.oldp qi1 | exact qi1 | exact hI.oldp qk0 | exact qk0 | exact hI.oldp qk1 | exact qk1))) ?_ | refine WT_skip 17 rfl rfl (by kernel_rfl) (hXS _ hI) rfl ?_
      first | refine WT_take 18 rfl rfl (by kernel_rfl) (hXS _ hI) rfl (fun W hW => have hI := hSx W hW; (by first | exact rMoveI rfl rfl | exact rMove rfl)) ?_ | refine WT_skip 18 rfl rfl (by kernel_rfl) (hXS _ hI) rfl ?_
      first | refine WT_take 19 rfl rfl (by kernel_rfl) (hXS _ hI) rfl (fun W hW => have hI := hSx W hW; (rIdx (sz := 2) rfl Tryd.underlying31 (by kernel_rfl) rfl rfl (by omega))) ?_ | refine WT_skip 19 rfl rfl (by kernel_rfl) (hXS _ hI) rfl ?_
      first | refine WT_take 20 rfl rfl (by kernel_rfl) (hXS _ hI) rfl (fun W hW => have hI := hSx W hW; (rIdxArr (sz := 1) (i := 0) rfl Tryd.underlying34 (by kernel_rfl) rfl rfl rfl (by omega))) ?_ | refine WT_skip 20 rfl rfl (by kernel_rfl) (hXS _ hI) rfl ?_
      first | refine WT_take 21 rfl rfl (by kernel_rfl) (hXS _ hI) rfl (fun W hW => have hI := hSx W hW; (by first | exact rLd (v := .int .i64 _) rfl (by kernel_rfl) rfl (by first | exact hI.c0 rfl | exact hI.oldp hb | exact hb | exact hI.oldp qi0 | exact qi0 | exact hI.oldp qi1 | exact qi1 | exact hI.oldp qk0 | exact qk0 | exact hI.oldp qk1 | exact qk1) | exact rLd rfl (by kernel_rfl) rfl (by first | exact hI.c0 rfl | exact hI.oldp hb | exact hb | exact hI.oldp qi0 | exact qi0 | exact hI.oldp qi1 | exact qi1 | exact hI.oldp qk0 | exact qk0 | exact hI.oldp qk1 | exact qk1))) ?_ | refine WT_skip 21 rfl rfl (by kernel_rfl) (hXS _ hI) rfl ?_
      first | refine WT_take 22 rfl rfl (by kernel_rfl) (hXS _ hI) rfl (fun W hW => have hI := hSx W hW; (by first | exact rGtrT rfl rfl rfl (by omega) | exact rGtrF rfl rfl rfl (by omega) | exact rGtr rfl rfl rfl)) ?_ | refine WT_skip 22 rfl rfl (by kernel_rfl) (hXS _ hI) rfl ?_
      refine WT_take 23 rfl rfl (by kernel_rfl) (hXS _ hI) rfl (fun W hW => have hI := hSx W hW; (by first | exact rPickTB rfl rfl rfl | exact rPickFB rfl rfl rfl | exact rPickB rfl rfl rfl rfl)) ?_
      refine WT_take 24 rfl rfl (by kernel_rfl) (hXS _ hI) rfl (fun W hW => have hI := hSx W hW; (by first | exact rAsgnB rfl rfl | exact rAsgn rfl)) ?_
      refine WT_end (by kernel_rfl) ?_
      refine W_ret ?_
      exact ret1 5 (.inr rfl) rfl ⟨rfl, hI.pu⟩
  · rw [decide_eq_false h1]
    refine W_seq ?_
    refine W_draw (by kernel_rfl) ?_
    refine WA_inv (T := []) hI.drew ?_
    intro Sx hSx hXS
    replace hI := hI.drew
    refine WT_take 0 rfl rfl (by kernel_rfl) (hXS _ hI) rfl (fun W hW => have hI := hSx W hW; (by first | exact rLd (v := .slice _ _ _) rfl (by kernel_rfl) rfl (by first | exact hI.c0 rfl | exact hI.oldp hb | exact hb | exact hI.oldp qi0 | exact qi0 | exact hI.oldp qi1 | exact qi1 | exact hI.oldp qk0 | exact qk0 | exact hI.oldp qk1 | exact qk1) | exact rLd rfl (by kernel_rfl) rfl (by first | exact hI.c0 rfl | exact hI.oldp hb | exact hb | exact hI.oldp qi0 | exact qi0 | exact hI.oldp qi1 | exact qi1 | exact hI.oldp qk0 | exact qk0 | exact hI.oldp qk1 | exact qk1))) ?_
    refine WT_take 1 rfl rfl (by kernel_rfl) (hXS _ hI) rfl (fun W hW => have hI := hSx W hW; (by first | exact rMoveI rfl rfl | exact rMove rfl)) ?_
    refine WT_take 2 rfl rfl (by kernel_rfl) (hXS _ hI) rfl (fun W hW => have hI := hSx W hW; (rIdx (sz := 2) rfl Tryd.underlying31 (by kernel_rfl) rfl rfl (by omega))) ?_
    refine WT_take 3 rfl rfl (by kernel_rfl) (hXS _ hI) rfl (fun W hW => have hI := hSx W hW; (rIdxArr (sz := 1) (i := 1) rfl Tryd.underlying34 (by kernel_rfl) rfl rfl rfl (by omega))) ?_
    refine WT_take 4 rfl rfl (by kernel_rfl) (hXS _ hI) rfl (fun W hW => have hI := hSx W hW; (by first | exact rLd (v := .int .i64 _) rfl (by kernel_rfl) rfl (by first | exact hI.c0 rfl | exact hI.oldp hb | exact hb | exact hI.oldp qi0 | exact qi0 | exact hI.oldp qi1 | exact qi1 | exact hI.oldp qk0 | exact qk0 | exact hI.oldp qk1 | exact qk1) | exact rLd rfl (by kernel_rfl) rfl (by first | exact hI.c0 rfl | exact hI.oldp hb | exact hb | exact hI.oldp qi0 | exact qi0 | exact hI.oldp qi1 | exact qi1 | exact hI.oldp qk0 | exact qk0 | exact hI.oldp qk1 | exact qk1))) ?_
    refine WT_take 5 rfl rfl (by kernel_rfl) (hXS _ hI) rfl (fun W hW => have hI := hSx W hW; (by first | exact rLd (v := .slice _ _ _) rfl (by kernel_rfl) rfl (by first | exact hI.c0 rfl | exact hI.oldp hb | exact hb | exact hI.oldp qi0 | exact qi0 | exact hI.oldp qi1 | exact qi1 | exact hI.oldp qk0 | exact qk0 | exact hI.oldp qk1 | exact qk1) | exact rLd rfl (by kernel_rfl) rfl (by first | exact hI.c0 rfl | exact hI.oldp hb | exact hb | exact hI.oldp qi0 | exact qi0 | exact hI.oldp qi1 | exact qi1 | exact hI.oldp qk0 | exact qk0 | exact hI.oldp qk1 | exact qk1))) ?_
    refine WT_take 6 rfl rfl (by kernel_rfl) (hXS _ hI) rfl (fun W hW => have hI := hSx W hW; (by first | exact rMoveI rfl rfl | exact rMove rfl)) ?_
    refine WT_take 7 rfl rfl (by kernel_rfl) (hXS _ hI) rfl (fun W hW => have hI := hSx W hW; (rIdx (sz := 2) rfl Tryd.underlying31 (by kernel_rfl) rfl rfl (by omega))) ?_
    refine WT_take 8 rfl rfl (by kernel_rfl) (hXS _ hI) rfl (fun W hW => have hI := hSx W hW; (rIdxArr (sz := 1) (i := 0) rfl Tryd.underlying34 (by kernel_rfl) rfl rfl rfl (by omega))) ?_
    refine WT_take 9 rfl rfl (by kernel_rfl) (hXS _ hI) rfl (fun W hW => have hI := hSx W hW; (by first | exact rLd (v := .int .i64 _) rfl (by kernel_rfl) rfl (by first | exact hI.c0 rfl | exact hI.oldp hb | exact hb | exact hI.oldp qi0 | exact qi0 | exact hI.oldp qi1 | exact qi1 | exact hI.oldp qk0 | exact qk0 | exact hI.oldp qk1 | exact qk1) | exact rLd rfl (by kernel_rfl) rfl (by first | exact hI.c0 rfl | exact hI.oldp hb | exact hb | exact hI.oldp qi0 | exact qi0 | exact hI.oldp qi1 | exact qi1 | exact hI.oldp qk0 | exact qk0 | exact hI.oldp qk1 | exact qk1))) ?_
    refine WT_take 10 rfl rfl (by kernel_rfl) (hXS _ hI) rfl (fun W hW => have hI := hSx W hW; (by first | exact rGtrT rfl rfl rfl (by omega) | exact rGtrF rfl rfl rfl (by omega) | exact rGtr rfl rfl rfl)) ?_
    refine WT_take 11 rfl rfl (by kernel_rfl) (hXS _ hI) rfl (fun W hW => have hI := hSx W hW; (by first | exact rMoveB rfl rfl | exact rMove rfl)) ?_
    first | refine WT_take 12 rfl rfl (by kernel_rfl) (hXS _ hI) rfl (fun W hW => have hI := hSx W hW; (by first | exact rLd (v := .slice _ _ _) rfl (by kernel_rfl) rfl (by first | exact hI.c0 rfl | exact hI.oldp hb | exact hb | exact hI.oldp qi0 | exact qi0 | exact hI.oldp qi1 | exact qi1 | exact hI.oldp qk0 | exact qk0 | exact hI.oldp qk1 | exact qk1) | exact rLd rfl (by kernel_rfl) rfl (by first | exact hI.c0 rfl | exact hI.oldp hb | exact hb | exact hI.oldp qi0 | exact qi0 | exact hI.oldp qi1 | exact qi1 | exact hI.oldp qk0 | exact qk0 | exact hI.oldp qk1 | exact qk1))) ?_ | refine WT_skip 12 rfl rfl (by kernel_rfl) (hXS _ hI) rfl ?_
    first | refine WT_take 13 rfl rfl (by kernel_rfl) (hXS _ hI) rfl (fun W hW => have hI := hSx W hW; (by first | exact rMoveI rfl rfl | exact rMove rfl)) ?_ | refine WT_skip 13 rfl rfl (by kernel_rfl) (hXS _ hI) rfl ?_
    first | refine WT_take 14 rfl rfl (by kernel_rfl) (hXS _ hI) rfl (fun W hW => have hI := hSx W hW; (rIdx (sz := 2) rfl Tryd.underlying31 (by kernel_rfl) rfl rfl (by omega))) ?_ | refine WT_skip 14 rfl rfl (by kernel_rfl) (hXS _ hI) rfl ?_
    first | refine WT_take 15 rfl rfl (by kernel_rfl) (hXS _ hI) rfl (fun W hW => have hI := hSx W hW; (rIdxArr (sz := 1) (i := 1) rfl Tryd.underlying34 (by kernel_rfl) rfl rfl rfl (by omega))) ?_ | refine WT_skip 15 rfl rfl (by kernel_rfl) (hXS _ hI) rfl ?_
    first | refine WT_take 16 rfl rfl (by kernel_rfl) (hXS _ hI) rfl (fun W hW => have hI := hSx W hW; (by first | exact rLd (v := .int .i64 _) rfl (by kernel_rfl) rfl (by first | exact hI.c0 rfl | exact hI.oldp hb | exact hb | exact hI.oldp qi0 | exact qi0 | exact hI.oldp qi1 | exact qi1 | exact hI.oldp qk0 | exact qk0 | exact hI.oldp qk1 | exact qk1) | exact rLd rfl (by kernel_rfl) rfl (by first | exact hI.c0 rfl | exact hI.oldp hb | exact hb | exact hI.oldp qi0 | exact qi0 | exact hI.oldp qi1 | exact qi1 | exact hI.oldp qk0 | exact qk0 | exact hI.oldp qk1 | exact qk1))) ?_ | refine WT_skip 16 rfl rfl (by kernel_rfl) (hXS _ hI) rfl ?_
    first | refine WT_take 17 rfl rfl (by kernel_rfl) (hXS _ hI) rfl (fun W hW => have hI := hSx W hW; (by first | exact rLd (v := .slice _ _ _) rfl (by kernel_rfl) rfl (by first | exact hI.c0 rfl | exact hI.oldp hb | exact hb | exact hI.oldp qi0 | exact qi0 | exact hI.oldp qi1 | exact qi1 | exact hI.oldp qk0 | exact qk0 | exact hI.oldp qk1 | exact qk1) | exact rLd rfl (by kernel_rfl) rfl (by first | exact hI.c0 rfl | exact hI.oldp hb | exact hb | exact hI.oldp qi0 | exact qi0 | exact hI.oldp qi1 | exact qi1 | exact hI.oldp qk0 | exact qk0 | exact hI.oldp qk1 | exact qk1))) ?_ | refine WT_skip 17 rfl rfl (by kernel_rfl) (hXS _ hI) rfl ?_
    first | refine WT_take 18 rfl rfl (by kernel_rfl) (hXS _ hI) rfl (fun W hW => have hI := hSx W hW; (by first | exact rMoveI rfl rfl | exact rMove rfl)) ?_ | refine WT_skip 18 rfl rfl (by kernel_rfl) (hXS _ hI) rfl ?_
    first | refine WT_take 19 rfl rfl (by kernel_rfl) (hXS _ hI) rfl (fun W hW => have hI := hSx W hW; (rIdx (sz := 2) rfl Tryd.underlying31 (by kernel_rfl) rfl rfl (by omega))) ?_ | refine WT_skip 19 rfl rfl (by kernel_rfl) (hXS _ hI) rfl ?_
    first | refine WT_take 20 rfl rfl (by kernel_rfl) (hXS _ hI) rfl (fun W hW => have hI := hSx W hW; (rIdxArr (sz := 1) (i := 0) rfl Tryd.underlying34 (by kernel_rfl) rfl rfl rfl (by omega))) ?_ | refine WT_skip 20 rfl rfl (by kernel_rfl) (hXS _ hI) rfl ?_
    first | refine WT_take 21 rfl rfl (by kernel_rfl) (hXS _ hI) rfl (fun W hW => have hI := hSx W hW; (by first | exact rLd (v := .int .i64 _) rfl (by kernel_rfl) rfl (by first | exact hI.c0 rfl | exact hI.oldp hb | exact hb | exact hI.oldp qi0 | exact qi0 | exact hI.oldp qi1 | exact qi1 | exact hI.oldp qk0 | exact qk0 | exact hI.oldp qk1 | exact qk1) | exact rLd rfl (by kernel_rfl) rfl (by first | exact hI.c0 rfl | exact hI.oldp hb | exact hb | exact hI.oldp qi0 | exact qi0 | exact hI.oldp qi1 | exact qi1 | exact hI.oldp qk0 | exact qk0 | exact hI.oldp qk1 | exact qk1))) ?_ | refine WT_skip 21 rfl rfl (by kernel_rfl) (hXS _ hI) rfl ?_
    first | refine WT_take 22 rfl rfl (by kernel_rfl) (hXS _ hI) rfl (fun W hW => have hI := hSx W hW; (by first | exact rGtrT rfl rfl rfl (by omega) | exact rGtrF rfl rfl rfl (by omega) | exact rGtr rfl rfl rfl)) ?_ | refine WT_skip 22 rfl rfl (by kernel_rfl) (hXS _ hI) rfl ?_
    refine WT_take 23 rfl rfl (by kernel_rfl) (hXS _ hI) rfl (fun W hW => have hI := hSx W hW; (by first | exact rPickTB rfl rfl rfl | exact rPickFB rfl rfl rfl | exact rPickB rfl rfl rfl rfl)) ?_
    refine WT_take 24 rfl rfl (by kernel_rfl) (hXS _ hI) rfl (fun W hW => have hI := hSx W hW; (by first | exact rAsgnB rfl rfl | exact rAsgn rfl)) ?_
    refine WT_end (by kernel_rfl) ?_
    refine W_ret ?_
    exact ret1 5 (.inr rfl) rfl ⟨rfl, hI.pu⟩
set_option maxHeartbeats 2000000 in
theorem fekete_any (A : Option Addr) (n c : Nat) (l : List Ask) (D : Nat → Prop) (w0 : World) (h : asksR w0 D (.slice A n c) l) (hg : w0.cell? ⟨0, 0, none⟩ = some (.iface 120 (.agg #[hdl 37]))) :
    Calls Tryd.prog 4 #[.slice A n c] w0 fun en w' => en = .returned (.bool true) ∧ Pure w0 w' := by
  have hn : n = l.length := by obtain ⟨_, _, hv, _⟩ := h; injection hv
  subst hn
  have hI := Inv.start (fun _ => False) w0
  refine calls_of_W (N := Tryd.f4.ntmps) Tryd.func4 rfl rfl rfl ?_
  refine W_seq ?_
  refine W_region ?_
  refine WL_val rfl rfl rfl (by first | exact rAsgnB rfl rfl | exact rAsgn rfl) ?_
  refine WL_nil ?_
  by_cases hl : 80 < l.length
  · refine W_seq ?_
    refine W_seq ?_
    refine W_region ?_
    refine WL_val rfl rfl rfl (by first | exact rMoveS rfl rfl | exact rMove rfl) ?_
    refine WL_val rfl rfl rfl (rLen rfl Tryd.underlying22 rfl) ?_
    refine WL_val rfl rfl rfl (by first | exact rGtrT rfl rfl rfl (by omega) | exact rGtrF rfl rfl rfl (by omega) | exact rGtr rfl rfl rfl) ?_
    refine WL_nil ?_
    refine W_cond true rfl ?_
    refine W_seq ?_
    refine W_region ?_
    refine WL_val rfl rfl rfl (by first | exact rAsgnB rfl rfl | exact rAsgn rfl) ?_
    refine WL_nil ?_
    refine W_ret ?_
    exact ret1 2 (.inr rfl) rfl ⟨rfl, hI.pu⟩
  refine W_seq ?_
  refine W_seq ?_
  refine W_region ?_
  refine WL_val rfl rfl rfl (by first | exact rMoveS rfl rfl | exact rMove rfl) ?_
  refine WL_val rfl rfl rfl (rLen rfl Tryd.underlying22 rfl) ?_
  refine WL_val rfl rfl rfl (by first | exact rGtrT rfl rfl rfl (by omega) | exact rGtrF rfl rfl rfl (by omega) | exact rGtr rfl rfl rfl) ?_
  refine WL_nil ?_
  refine W_cond false rfl ?_
  refine W_skip ?_
  have hl80 : l.length ≤ 80 := by omega
  refine W_seq ?_
  refine W_region ?_
  refine WL_val rfl rfl rfl (by first | exact rMoveS rfl rfl | exact rMove rfl) ?_
  refine WL_call rfl rfl rfl (rCall (vs := [.bool _, .slice _ _ _]) rfl Tryd.func7 rfl rfl rfl) ?_
  refine (played_any false A _ c l D _ (by exact h) hl80).mono ?_
  rintro e w1 ⟨b, rfl, hb⟩
  refine ⟨_, rfl, ?_⟩
  obtain ⟨D1, hbs, hops, hord⟩ := hb.at
  have hpu : Pure w0 w1 := by obtain ⟨T, cT, A, ca, O, co, rest, hI, hw⟩ := hb; exact hI.pu
  replace hI := hI.pure hpu
  clear hb
  refine WL_val rfl rfl rfl (by first | exact rAsgnP rfl rfl | exact rAsgn rfl) ?_
  refine WL_nil ?_
  have htm := play_time false l hl80
  have hlen := play_len false l
  have hsane := play_sane false l
  obtain ⟨s, hs⟩ : ∃ s, runA (newS 8 false) l = s := ⟨_, rfl⟩
  rw [hs] at hbs hops hord htm hlen hsane
  refine W_seq ?_
  refine W_seq ?_
  refine W_region ?_
  refine WL_call rfl rfl rfl (rCall (vs := []) rfl Tryd.func8 rfl rfl rfl) ?_
  refine (based_any _ (hI.oldp hg)).mono ?_
  rintro e w2 ⟨rfl, hp⟩
  refine ⟨_, rfl, ?_⟩
  replace hI := hI.pure hp
  replace hbs := hbs.pure hp
  refine WL_val rfl rfl rfl (by first | exact rNotT rfl rfl | exact rNotF rfl rfl | exact rNot rfl rfl) ?_
  refine WL_val rfl rfl rfl (by first | exact rMoveB rfl rfl | exact rMove rfl) ?_
  first | refine WL_val rfl rfl rfl (by first | exact rMoveP rfl rfl | exact rMove rfl) ?_ | refine WL_skip rfl rfl rfl ?_
  first | refine WL_val rfl rfl rfl (rPtrEq rfl Tryd.underlying23 rfl rfl) ?_ | refine WL_skip rfl rfl rfl ?_
  refine WL_val rfl rfl rfl (by first | exact rPickTB rfl rfl rfl | exact rPickFB rfl rfl rfl | exact rPickB rfl rfl rfl rfl) ?_
  refine WL_nil ?_
  refine W_cond false rfl ?_
  refine W_skip ?_
  refine W_seq ?_
  refine W_region ?_
  refine WL_val rfl rfl rfl (by first | exact rMoveP rfl rfl | exact rMove rfl) ?_
  refine WL_call rfl rfl rfl (rCall (vs := [.pointer _]) rfl Tryd.func9 rfl rfl rfl) ?_
  refine (story_any b s D1 _ hbs hops (fun k => by have := hord k; omega)).mono ?_
  rintro e w3 ⟨As, cs, g, rfl, hp, htxs, hgr⟩
  refine ⟨_, rfl, ?_⟩
  replace hI := hI.pure hp
  replace hbs := hbs.pure hp
  have hP3 := hI.pu
  replace hI := Inv.start (fun _ => False) w3
  refine WL_alloc (u := .agg #[.slice none 0 0, .slice none 0 0]) (vs := #[.slice none 0 0, .slice none 0 0]) hI rfl rfl rfl rfl (by kernel_rfl) rfl ?_
  clear hI; rintro b4 w - - hI
  first | refine WL_stw0 (u := .agg _) (vs := #[_, _]) (n := 2) hI rfl rfl rfl rfl rfl rfl (by kernel_rfl) rfl rfl rfl ?_ | refine WL_stw1 (u := .agg _) (vs := #[_, _]) (n := 2) hI rfl rfl rfl rfl rfl rfl (by kernel_rfl) rfl rfl rfl ?_ | refine WL_stw2 (u := .agg _) (vs := #[_, _]) (n := 2) hI rfl rfl rfl rfl rfl rfl (by kernel_rfl) rfl rfl rfl ?_ | refine WL_stw3 (u := .agg _) (vs := #[_, _]) (n := 2) hI rfl rfl rfl rfl rfl rfl (by kernel_rfl) rfl rfl rfl ?_ | refine WL_stw4 (u := .agg _) (vs := #[_, _]) (n := 2) hI rfl rfl rfl rfl rfl rfl (by kernel_rfl) rfl rfl rfl ?_ | refine WL_stw5 (u := .agg _) (vs := #[_, _]) (n := 2) hI rfl rfl rfl rfl rfl rfl (by kernel_rfl) rfl rfl rfl ?_
  clear hI; intro w hI
  refine WL_nil ?_
  refine W_seq ?_
  refine W_region ?_
  refine WL_val rfl rfl rfl (by first | exact rMoveP rfl rfl | exact rMove rfl) ?_
  refine WL_call rfl rfl rfl (rCall (vs := [.pointer _]) rfl Tryd.func10 rfl rfl rfl) ?_
  refine (spans_any b s D1 _ (hbs.pure hI.pu)).mono ?_
  rintro e w4 ⟨A2, c2, rfl, hI2⟩
  refine ⟨_, rfl, ?_⟩
  replace hI := hI.app1 hI2
  refine WL_alloc (u := .slice none 0 0) (vs := #[.slice none 0 0]) hI rfl rfl rfl rfl (by kernel_rfl) rfl ?_
  clear hI; rintro b5 w - - hI
  first | refine WL_stw0 (u := .slice _ _ _) (vs := #[_]) (n := 1) hI rfl rfl rfl rfl rfl rfl (by kernel_rfl) rfl rfl rfl ?_ | refine WL_stw1 (u := .slice _ _ _) (vs := #[_]) (n := 1) hI rfl rfl rfl rfl rfl rfl (by kernel_rfl) rfl rfl rfl ?_ | refine WL_stw2 (u := .slice _ _ _) (vs := #[_]) (n := 1) hI rfl rfl rfl rfl rfl rfl (by kernel_rfl) rfl rfl rfl ?_ | refine WL_stw3 (u := .slice _ _ _) (vs := #[_]) (n := 1) hI rfl rfl rfl rfl rfl rfl (by kernel_rfl) rfl rfl rfl ?_ | refine WL_stw4 (u := .slice _ _ _) (vs := #[_]) (n := 1) hI rfl rfl rfl rfl rfl rfl (by kernel_rfl) rfl rfl rfl ?_ | refine WL_stw5 (u := .slice _ _ _) (vs := #[_]) (n := 1) hI rfl rfl rfl rfl rfl rfl (by kernel_rfl) rfl rfl rfl ?_ | refine WL_st0 (u := .slice _ _ _) hI rfl rfl rfl rfl rfl rfl (by kernel_rfl) rfl rfl rfl ?_ | refine WL_st1 (u := .slice _ _ _) hI rfl rfl rfl rfl rfl rfl (by kernel_rfl) rfl rfl rfl ?_ | refine WL_st2 (u := .slice _ _ _) hI rfl rfl rfl rfl rfl rfl (by kernel_rfl) rfl rfl rfl ?_ | refine WL_st3 (u := .slice _ _ _) hI rfl rfl rfl rfl rfl rfl (by kernel_rfl) rfl rfl rfl ?_ | refine WL_st4 (u := .slice _ _ _) hI rfl rfl rfl rfl rfl rfl (by kernel_rfl) rfl rfl rfl ?_ | refine WL_st5 (u := .slice _ _ _) hI rfl rfl rfl rfl rfl rfl (by kernel_rfl) rfl rfl rfl ?_
  clear hI; intro w hI
  refine WL_nil ?_
  have hst := st_ok hsane (by omega) hops
  have hG8 : (stG s).length = 8 := by simp [stG, hsane.olen]
  have hsp := hI.rowRd (base := 0) (e := 34) (size := 2) (n := s.txs.length) (c := c2) (A := A2) (xs := s.txs.flatMap spanV) (by simp)
  have q40 : w.cell? ⟨b4, 0, none⟩ = some (.slice As s.txs.length cs) := by first | exact hI.c0 rfl | exact hI.c1 rfl | exact hI.c2 rfl
  have q41 : w.cell? ⟨b4, 1, none⟩ = some (.slice (some ⟨g, 0, none⟩) 8 8) := by first | exact hI.c0 rfl | exact hI.c1 rfl | exact hI.c2 rfl
  have q5 : w.cell? ⟨b5, 0, none⟩ = some (.slice A2 s.txs.length c2) := by first | exact hI.c0 rfl | exact hI.c1 rfl | exact hI.c2 rfl
  replace htxs := htxs.pure hI.pu
  replace hgr := hgr.pure hI.pu
  have hsz := hI.pu.size
  have hP4 := hP3.trans hI.pu
  replace hI := Inv.start (fun _ => False) w
  refine W_seq ?_
  refine W_region ?_
  refine WL_val rfl rfl rfl (by first | exact rLdB (n := 2) rfl (by kernel_rfl) (by kernel_rfl) rfl rfl hI.g0 | exact rLd2 rfl (by kernel_rfl) (by kernel_rfl) rfl (by first | exact hI.c0 rfl | exact hI.oldp q40 | exact q40 | exact hI.oldp q41 | exact q41) (by first | exact hI.c0 rfl | exact hI.oldp q40 | exact q40 | exact hI.oldp q41 | exact q41)) ?_
  refine WL_call rfl rfl rfl (rCall (vs := [.agg _]) rfl Tryd.func11 rfl rfl rfl) ?_
  refine (iserial_any As s.txs.length cs (some ⟨g, 0, none⟩) 8 8 (stT s) (stG s) _ _ htxs (stT_len s) hgr hG8 (fun k hk => Nat.lt_of_lt_of_le hk.2 hsz)).mono ?_
  rintro e w5 ⟨hp5, hres⟩
  have hres : ∃ sv v, e = .returned (.tuple #[sv, v]) ∧ (v = .nilIface ∨ (IsErr v ∧ orderF s.txs.length (allF (stT s) (stG s)) = none)) := by
    rcases hres with ⟨_, l, _, A, c, e1, _⟩ | ⟨_, e1, x, e2, e3⟩ | ⟨h, _⟩
    · exact ⟨_, _, e1, .inl rfl⟩
    · exact ⟨_, _, e3, .inr ⟨e2, e1⟩⟩
    · exact absurd hst h
  obtain ⟨sv, v, rfl, hv⟩ := hres
  refine ⟨_, rfl, ?_⟩
  replace hI := hI.pure hp5
  refine WL_val rfl rfl rfl (by first | exact rMoveT rfl rfl | exact rMove rfl) ?_
  refine WL_val rfl rfl rfl (rExtr rfl rfl rfl) ?_
  refine WL_val rfl rfl rfl (rExtr rfl rfl rfl) ?_
  refine WL_val rfl rfl rfl (by first | exact rAsgnS rfl rfl | exact rAsgn rfl) ?_
  refine WL_val rfl rfl rfl (by first | exact rAsgnN rfl rfl | exact rAsgnE rfl rfl | exact rAsgn rfl) ?_
  refine WL_nil ?_
  refine W_seq ?_
  refine W_region ?_
  refine WL_val rfl rfl rfl (by first | exact rLdB (n := 2) rfl (by kernel_rfl) (by kernel_rfl) rfl rfl hI.g0 | exact rLd2 rfl (by kernel_rfl) (by kernel_rfl) rfl (by first | exact hI.c0 rfl | exact hI.oldp q40 | exact q40 | exact hI.oldp q41 | exact q41) (by first | exact hI.c0 rfl | exact hI.oldp q40 | exact q40 | exact hI.oldp q41 | exact q41)) ?_
  refine WL_call rfl rfl rfl (rCall (vs := [.agg _]) rfl Tryd.func12 rfl rfl rfl) ?_
  refine (iall_any As s.txs.length cs (some ⟨g, 0, none⟩) 8 8 (stT s) (stG s) _ _ (htxs.pure hI.pu) (stT_len s) (hgr.pure hI.pu) hG8 (fun k hk => Nat.lt_of_lt_of_le hk.2 (Nat.le_trans hsz hI.pu.size))).mono ?_
  rintro e w6 ⟨hp6, ⟨_, o1, o2, o3, rfl, s1, s2, s3⟩ | ⟨h, _⟩⟩
  rotate_left
  · exact absurd hst h
  refine ⟨_, rfl, ?_⟩
  replace hI := hI.pure hp6
  have hP5 := hP4.trans hI.pu
  replace hsp := hsp.pure hI.pu
  have r40 := hI.oldp q40
  have r5 := hI.oldp q5
  replace hI := Inv.start (fun _ => False) w6
  clear q40 q41 q5 s1 s2 htxs hgr hsz hI2 hp6 hbs
  refine WL_val rfl rfl rfl (by first | exact rMoveT rfl rfl | exact rMove rfl) ?_
  refine WL_val rfl rfl rfl (rExtr rfl rfl rfl) ?_
  refine WL_val rfl rfl rfl (rExtr rfl rfl rfl) ?_
  refine WL_alloc (u := .agg #[.slice none 0 0, .slice none 0 0, .slice none 0 0]) (vs := #[.slice none 0 0, .slice none 0 0, .slice none 0 0]) hI rfl rfl rfl rfl (by kernel_rfl) rfl ?_
  clear hI; rintro b8 w - - hI
  first | refine WL_stw0 (u := .agg _) (vs := #[_, _, _]) (n := 3) hI rfl rfl rfl rfl rfl rfl (by kernel_rfl) rfl rfl rfl ?_
  clear hI; intro w hI
  refine WL_val rfl rfl rfl (by first | exact rAsgnN rfl rfl | exact rAsgnE rfl rfl | exact rAsgn rfl) ?_
  refine WL_nil ?_
  have q8 : w.cell? ⟨b8, 2, none⟩ = some (.slice (some ⟨o3, 0, none⟩) s.txs.length s.txs.length) := hI.c0 rfl
  refine W_seq ?_
  refine W_seq ?_
  refine W_region ?_
  refine WL_val rfl rfl rfl (by first | exact rMoveN rfl rfl | exact rMoveE rfl rfl | exact rMove rfl) ?_
  refine WL_val rfl rfl rfl (by first | exact rIfaceNe rfl Tryd.underlying37 rfl rfl | exact rNilNe rfl Tryd.underlying37 rfl) ?_
  refine WL_val rfl rfl rfl (by first | exact rMoveB rfl rfl | exact rMove rfl) ?_
  first | refine WL_val rfl rfl rfl (by first | exact rLd (v := .slice _ _ _) rfl (by kernel_rfl) rfl (by first | exact hI.c0 rfl | exact hI.oldp r40 | exact r40 | exact hI.oldp r5 | exact r5 | exact hI.oldp q8 | exact q8) | exact rLd rfl (by kernel_rfl) rfl (by first | exact hI.c0 rfl | exact hI.oldp r40 | exact r40 | exact hI.oldp r5 | exact r5 | exact hI.oldp q8 | exact q8)) ?_ | refine WL_skip rfl rfl rfl ?_
  first | refine WL_val rfl rfl rfl (rLen rfl Tryd.underlying31 rfl) ?_ | refine WL_skip rfl rfl rfl ?_
  first | refine WL_val rfl rfl rfl (by first | exact rFldN (off := 0) rfl (by kernel_rfl) rfl | exact rFld0 rfl (by kernel_rfl) rfl) ?_ | refine WL_skip rfl rfl rfl ?_
  first | refine WL_val rfl rfl rfl (by first | exact rLd (v := .slice _ _ _) rfl (by kernel_rfl) rfl (by first | exact hI.c0 rfl | exact hI.oldp r40 | exact r40 | exact hI.oldp r5 | exact r5 | exact hI.oldp q8 | exact q8) | exact rLd rfl (by kernel_rfl) rfl (by first | exact hI.c0 rfl | exact hI.oldp r40 | exact r40 | exact hI.oldp r5 | exact r5 | exact hI.oldp q8 | exact q8)) ?_ | refine WL_skip rfl rfl rfl ?_
  first | refine WL_val rfl rfl rfl (rLen rfl Tryd.underlying26 rfl) ?_ | refine WL_skip rfl rfl rfl ?_
  first | refine WL_val rfl rfl rfl (by first | exact rNeqT rfl rfl rfl (by omega) | exact rNeqF rfl rfl rfl (by omega) | exact rNeq rfl rfl rfl) ?_ | refine WL_skip rfl rfl rfl ?_
  refine WL_val rfl rfl rfl (by first | exact rPickTB rfl rfl rfl | exact rPickFB rfl rfl rfl | exact rPickB rfl rfl rfl rfl) ?_
  refine WL_val rfl rfl rfl (by first | exact rMoveB rfl rfl | exact rMove rfl) ?_
  first | refine WL_val rfl rfl rfl (by first | exact rFldN (off := 2) rfl (by kernel_rfl) rfl | exact rFld (off := 2) rfl (by kernel_rfl) rfl) ?_ | refine WL_skip rfl rfl rfl ?_
  first | refine WL_val rfl rfl rfl (by first | exact rLd (v := .slice _ _ _) rfl (by kernel_rfl) rfl (by first | exact hI.c0 rfl | exact hI.oldp r40 | exact r40 | exact hI.oldp r5 | exact r5 | exact hI.oldp q8 | exact q8) | exact rLd rfl (by kernel_rfl) rfl (by first | exact hI.c0 rfl | exact hI.oldp r40 | exact r40 | exact hI.oldp r5 | exact r5 | exact hI.oldp q8 | exact q8)) ?_ | refine WL_skip rfl rfl rfl ?_
  first | refine WL_val rfl rfl rfl (rLen rfl Tryd.underlying41 rfl) ?_ | refine WL_skip rfl rfl rfl ?_
  first | refine WL_val rfl rfl rfl (by first | exact rFldN (off := 0) rfl (by kernel_rfl) rfl | exact rFld0 rfl (by kernel_rfl) rfl) ?_ | refine WL_skip rfl rfl rfl ?_
  first | refine WL_val rfl rfl rfl (by first | exact rLd (v := .slice _ _ _) rfl (by kernel_rfl) rfl (by first | exact hI.c0 rfl | exact hI.oldp r40 | exact r40 | exact hI.oldp r5 | exact r5 | exact hI.oldp q8 | exact q8) | exact rLd rfl (by kernel_rfl) rfl (by first | exact hI.c0 rfl | exact hI.oldp r40 | exact r40 | exact hI.oldp r5 | exact r5 | exact hI.oldp q8 | exact q8)) ?_ | refine WL_skip rfl rfl rfl ?_
  first | refine WL_val rfl rfl rfl (rLen rfl Tryd.underlying26 rfl) ?_ | refine WL_skip rfl rfl rfl ?_
  first | refine WL_val rfl rfl rfl (by first | exact rNeqT rfl rfl rfl (by omega) | exact rNeqF rfl rfl rfl (by omega) | exact rNeq rfl rfl rfl) ?_ | refine WL_skip rfl rfl rfl ?_
  refine WL_val rfl rfl rfl (by first | exact rPickTB rfl rfl rfl | exact rPickFB rfl rfl rfl | exact rPickB rfl rfl rfl rfl) ?_
  refine WL_nil ?_
  refine W_cond false rfl ?_
  refine W_skip ?_
  rcases hv with rfl | ⟨⟨u, rfl⟩, hno⟩
  · refine W_seq ?_
    refine W_seq ?_
    refine W_region ?_
    refine WL_val rfl rfl rfl (by first | exact rMoveN rfl rfl | exact rMoveE rfl rfl | exact rMove rfl) ?_
    refine WL_val rfl rfl rfl (by first | exact rIfaceEq rfl Tryd.underlying37 rfl rfl | exact rNilEq rfl Tryd.underlying37 rfl) ?_
    refine WL_nil ?_
    refine W_cond true rfl ?_
    refine W_seq ?_
    refine W_region ?_
    refine WL_val rfl rfl rfl (by first | exact rAsgnB rfl rfl | exact rAsgn rfl) ?_
    refine WL_nil ?_
    refine W_ret ?_
    exact ret1 2 (.inr rfl) rfl ⟨rfl, hP5.trans hI.pu⟩
  refine W_seq ?_
  refine W_seq ?_
  refine W_region ?_
  refine WL_val rfl rfl rfl (by first | exact rMoveN rfl rfl | exact rMoveE rfl rfl | exact rMove rfl) ?_
  refine WL_val rfl rfl rfl (by first | exact rIfaceEq rfl Tryd.underlying37 rfl rfl | exact rNilEq rfl Tryd.underlying37 rfl) ?_
  refine WL_nil ?_
  refine W_cond false rfl ?_
  refine W_skip ?_
  have s3' := s3.pure hI.pu
  replace hsp := hsp.pure hI.pu
  replace r40 := hI.oldp r40
  replace r5 := hI.oldp r5
  replace hP5 := hP5.trans hI.pu
  obtain ⟨og, oo, hog, hogl, hrow⟩ := s3'.get (by omega)
  injection hog with hog
  injection hog with hog1 hog2
  subst hog1 hog2
  clear s3 s3'
  obtain ⟨W, hW⟩ : ∃ W, w = W := ⟨_, rfl⟩
  subst hW
  replace hI := Inv.start (fun _ => False) w
  refine W_seq ?_
  refine W_region ?_
  refine WL_val rfl rfl rfl (rFunc (l := []) (m := [_]) rfl rfl rfl) ?_
  refine WL_val rfl rfl rfl (by first | exact rAsgnF rfl rfl | exact rAsgn rfl) ?_
  refine WL_nil ?_
  refine W_seq ?_
  refine W_seq ?_
  refine W_region ?_
  refine WL_val rfl rfl rfl (by first | exact rAsgnI rfl rfl | exact rAsgn rfl) ?_
  refine WL_nil ?_
  have hcyc := order_none hno
  obtain ⟨pq, pp, pt, pq1, pp1, pt1, ea, eb, ec, ed, ee, ef, _, _⟩ := round_law hsane hcyc
  have hpiv : (inF s pp s.txs.length && outF s pp s.txs.length) = true := by
    have e1 : inF s pp s.txs.length = true := rangeAny_hit pq1 (by rw [ea]; simp [sameF, ec, ed])
    have e2 : outF s pp s.txs.length = true := rangeAny_hit pt1 (by rw [eb]; simp [sameF, ee, ef])
    rw [e1, e2]; rfl
  clear ea eb ec ed ee ef pq1 pt1
  refine W_block ?_
  refine W_loop (fun ρ W => ∃ t : Nat, t ≤ s.txs.length ∧ (∀ t', t' < t → (inF s t' s.txs.length && outF s t' s.txs.length) = false) ∧ Has ρ [(11, .int .i64 ((t : Nat) : Int)), (4, .pointer (some ⟨b4, 0, none⟩)), (5, .pointer (some ⟨b5, 0, none⟩)), (8, .pointer (some ⟨b8, 0, none⟩)), (10, .func (.func 13) #[] #[.pointer (some ⟨b5, 0, none⟩)])] ∧ Inv (fun _ => False) w W []) (fun ρ _ => s.txs.length - cnt (ρ 11))
    ⟨0, by omega, fun t' h => absurd h (Nat.not_lt_zero t'), ⟨rfl, rfl, rfl, rfl, rfl, trivial⟩, hI⟩ ?_
  clear hI
  rintro ρ W ⟨t, ht, hnot, hH, hI⟩
  obtain ⟨σ, rfl⟩ := hH.open
  by_cases htn : t < s.txs.length
  · obtain ⟨tb, tf, tc, qrb, -, -, -, htrow⟩ := hrow t htn
    rw [Nat.zero_add] at qrb
    refine W_seq ?_
    refine W_seq ?_
    refine W_region ?_
    refine WL_val rfl rfl rfl (by first | exact rMoveI rfl rfl | exact rMove rfl) ?_
    refine WL_val rfl rfl rfl (by first | exact rFldN (off := 0) rfl (by kernel_rfl) rfl | exact rFld0 rfl (by kernel_rfl) rfl) ?_
    refine WL_val rfl rfl rfl (by first | exact rLd (v := .slice _ _ _) rfl (by kernel_rfl) rfl (by first | exact hI.c0 rfl | exact hI.oldp r40 | exact r40) | exact rLd rfl (by kernel_rfl) rfl (by first | exact hI.c0 rfl | exact hI.oldp r40 | exact r40)) ?_
    refine WL_val rfl rfl rfl (rLen rfl Tryd.underlying26 rfl) ?_
    refine WL_val rfl rfl rfl (by first | exact rLssT rfl rfl rfl (by omega) | exact rLssF rfl rfl rfl (by omega) | exact rLss rfl rfl rfl) ?_
    refine WL_nil ?_
    refine W_cond true rfl ?_
    refine W_skip ?_
    refine W_seq ?_
    refine W_block ?_
    refine W_seq ?_
    refine W_region ?_
    refine WL_val rfl rfl rfl (by first | exact rAsgnB rfl rfl | exact rAsgn rfl) ?_
    refine WL_val rfl rfl rfl (by first | exact rAsgnB rfl rfl | exact rAsgn rfl) ?_
    refine WL_nil ?_
    refine W_seq_cut (fun ρ W => Has ρ [(12, .bool (inF s t s.txs.length)), (13, .bool (outF s t s.txs.length)), (11, .int .i64 ((t : Nat) : Int)), (4, .pointer (some ⟨b4, 0, none⟩)), (5, .pointer (some ⟨b5, 0, none⟩)), (8, .pointer (some ⟨b8, 0, none⟩)), (10, .func (.func 13) #[] #[.pointer (some ⟨b5, 0, none⟩)])] ∧ Inv (fun _ => False) w W []) ?_ ?_
    · refine W_seq ?_
      refine W_region ?_
      refine WL_val rfl rfl rfl (by first | exact rAsgnI rfl rfl | exact rAsgn rfl) ?_
      refine WL_nil ?_
      refine W_block ?_
      refine W_loop (fun ρ W => ∃ j : Nat, j ≤ s.txs.length ∧ Has ρ [(14, .int .i64 ((j : Nat) : Int)), (12, .bool (inF s t j)), (13, .bool (outF s t j)), (11, .int .i64 ((t : Nat) : Int)), (4, .pointer (some ⟨b4, 0, none⟩)), (5, .pointer (some ⟨b5, 0, none⟩)), (8, .pointer (some ⟨b8, 0, none⟩)), (10, .func (.func 13) #[] #[.pointer (some ⟨b5, 0, none⟩)])] ∧ Inv (fun _ => False) w W []) (fun ρ _ => s.txs.length - cnt (ρ 14))
        ⟨0, by omega, ⟨rfl, rfl, rfl, rfl, rfl, rfl, rfl, rfl, trivial⟩, hI⟩ ?_
      clear hI
      rintro ρ W ⟨j, hj, hH, hI⟩
      obtain ⟨σ, rfl⟩ := hH.open
      by_cases hjn : j < s.txs.length
      · obtain ⟨jb, jf, jc, qra, -, -, -, hjrow⟩ := hrow j hjn
        rw [Nat.zero_add] at qra
        have qa := hjrow t htn
        have qb := htrow j hjn
        refine W_seq ?_
        refine W_seq ?_
        refine W_region ?_
        refine WL_val rfl rfl rfl (by first | exact rMoveI rfl rfl | exact rMove rfl) ?_
        refine WL_val rfl rfl rfl (by first | exact rFldN (off := 0) rfl (by kernel_rfl) rfl | exact rFld0 rfl (by kernel_rfl) rfl) ?_
        refine WL_val rfl rfl rfl (by first | exact rLd (v := .slice _ _ _) rfl (by kernel_rfl) rfl (by first | exact hI.c0 rfl | exact hI.oldp r40 | exact r40) | exact rLd rfl (by kernel_rfl) rfl (by first | exact hI.c0 rfl | exact hI.oldp r40 | exact r40)) ?_
        refine WL_val rfl rfl rfl (rLen rfl Tryd.underlying26 rfl) ?_
        refine WL_val rfl rfl rfl (by first | exact rLssT rfl rfl rfl (by omega) | exact rLssF rfl rfl rfl (by omega) | exact rLss rfl rfl rfl) ?_
        refine WL_nil ?_
        refine W_cond true rfl ?_
        refine W_skip ?_
        refine W_seq ?_
        refine W_block ?_
        refine W_seq_cut (fun ρ W => Has ρ [(14, .int .i64 ((j : Nat) : Int)), (12, .bool (inF s t (j + 1))), (13, .bool (outF s t j)), (11, .int .i64 ((t : Nat) : Int)), (4, .pointer (some ⟨b4, 0, none⟩)), (5, .pointer (some ⟨b5, 0, none⟩)), (8, .pointer (some ⟨b8, 0, none⟩)), (10, .func (.func 13) #[] #[.pointer (some ⟨b5, 0, none⟩)])] ∧ Inv (fun _ => False) w W []) ?_ ?_
        · rw [inF_succ]
          cases hv : inF s t j with
          | true =>
            refine W_region ?_
            refine WL_val rfl rfl rfl (by first | exact rMoveB rfl rfl | exact rMove rfl) ?_
            refine WL_val rfl rfl rfl (by first | exact rMoveB rfl rfl | exact rMove rfl) ?_
            refine WL_skip rfl rfl rfl ?_
            refine WL_skip rfl rfl rfl ?_
            refine WL_skip rfl rfl rfl ?_
            refine WL_skip rfl rfl rfl ?_
            refine WL_skip rfl rfl rfl ?_
            refine WL_skip rfl rfl rfl ?_
            refine WL_skip rfl rfl rfl ?_
            refine WL_skip rfl rfl rfl ?_
            refine WL_skip rfl rfl rfl ?_
            refine WL_skip rfl rfl rfl ?_
            refine WL_skip rfl rfl rfl ?_
            refine WL_skip rfl rfl rfl ?_
            refine WL_skip rfl rfl rfl ?_
            refine WL_skip rfl rfl rfl ?_
            refine WL_val rfl rfl rfl (by first | exact rPickTB rfl rfl rfl | exact rPickFB rfl rfl rfl | exact rPickB rfl rfl rfl rfl) ?_
            refine WL_val rfl rfl rfl (by first | exact rAsgnB rfl rfl | exact rAsgn rfl) ?_
            refine WL_nil ?_
            exact ⟨⟨rfl, rfl, rfl, rfl, rfl, rfl, rfl, rfl, trivial⟩, hI⟩
          | false =>
            cases he : anewF (stT s) (stG s) j t with
            | false =>
              rw [he] at qa
              refine W_region ?_
              refine WL_val rfl rfl rfl (by first | exact rMoveB rfl rfl | exact rMove rfl) ?_
              refine WL_val rfl rfl rfl (by first | exact rMoveB rfl rfl | exact rMove rfl) ?_
              first | refine WL_val rfl rfl rfl (by first | exact rFldN (off := 2) rfl (by kernel_rfl) rfl | exact rFld (off := 2) rfl (by kernel_rfl) rfl) ?_ | refine WL_skip rfl rfl rfl ?_
              first | refine WL_val rfl rfl rfl (by first | exact rLd (v := .slice _ _ _) rfl (by kernel_rfl) rfl (by first | exact hI.c0 rfl | exact hI.oldp q8 | exact q8 | exact hI.oldp qra | exact qra | exact hI.oldp qa | exact qa) | exact rLd rfl (by kernel_rfl) rfl (by first | exact hI.c0 rfl | exact hI.oldp q8 | exact q8 | exact hI.oldp qra | exact qra | exact hI.oldp qa | exact qa)) ?_ | refine WL_skip rfl rfl rfl ?_
              first | refine WL_val rfl rfl rfl (by first | exact rMoveI rfl rfl | exact rMove rfl) ?_ | refine WL_skip rfl rfl rfl ?_
              first | refine WL_val rfl rfl rfl (by first | exact rIdx0 rfl Tryd.underlying41 (by kernel_rfl) rfl rfl rfl (by omega) | exact rIdx1 rfl Tryd.underlying41 (by kernel_rfl) rfl rfl (by omega)) ?_ | refine WL_skip rfl rfl rfl ?_
              first | refine WL_val rfl rfl rfl (by first | exact rLd (v := .slice _ _ _) rfl (by kernel_rfl) rfl (by first | exact hI.c0 rfl | exact hI.oldp q8 | exact q8 | exact hI.oldp qra | exact qra | exact hI.oldp qa | exact qa) | exact rLd rfl (by kernel_rfl) rfl (by first | exact hI.c0 rfl | exact hI.oldp q8 | exact q8 | exact hI.oldp qra | exact qra | exact hI.oldp qa | exact qa)) ?_ | refine WL_skip rfl rfl rfl ?_
              first | refine WL_val rfl rfl rfl (by first | exact rMoveI rfl rfl | exact rMove rfl) ?_ | refine WL_skip rfl rfl rfl ?_
              first | refine WL_val rfl rfl rfl (by first | exact rIdx0 rfl Tryd.underlying47 (by kernel_rfl) rfl rfl rfl (by omega) | exact rIdx1 rfl Tryd.underlying47 (by kernel_rfl) rfl rfl (by omega)) ?_ | refine WL_skip rfl rfl rfl ?_
              first | refine WL_val rfl rfl rfl (by first | exact rLd (v := .bool _) rfl (by kernel_rfl) rfl (by first | exact hI.c0 rfl | exact hI.oldp q8 | exact q8 | exact hI.oldp qra | exact qra | exact hI.oldp qa | exact qa) | exact rLd rfl (by kernel_rfl) rfl (by first | exact hI.c0 rfl | exact hI.oldp q8 | exact q8 | exact hI.oldp qra | exact qra | exact hI.oldp qa | exact qa)) ?_ | refine WL_skip rfl rfl rfl ?_
              first | refine WL_val rfl rfl rfl (by first | exact rMoveB rfl rfl | exact rMove rfl) ?_ | refine WL_skip rfl rfl rfl ?_
              refine WL_skip rfl rfl rfl ?_
              refine WL_skip rfl rfl rfl ?_
              refine WL_skip rfl rfl rfl ?_
              refine WL_skip rfl rfl rfl ?_
              first | refine WL_val rfl rfl rfl (by first | exact rPickTB rfl rfl rfl | exact rPickFB rfl rfl rfl | exact rPickB rfl rfl rfl rfl) ?_ | refine WL_skip rfl rfl rfl ?_
              refine WL_val rfl rfl rfl (by first | exact rPickTB rfl rfl rfl | exact rPickFB rfl rfl rfl | exact rPickB rfl rfl rfl rfl) ?_
              refine WL_val rfl rfl rfl (by first | exact rAsgnB rfl rfl | exact rAsgn rfl) ?_
              refine WL_nil ?_
              exact ⟨⟨rfl, rfl, rfl, rfl, rfl, rfl, rfl, rfl, trivial⟩, hI⟩
            | true =>
              rw [he] at qa
              refine W_region ?_
              refine WL_val rfl rfl rfl (by first | exact rMoveB rfl rfl | exact rMove rfl) ?_
              refine WL_val rfl rfl rfl (by first | exact rMoveB rfl rfl | exact rMove rfl) ?_
              first | refine WL_val rfl rfl rfl (by first | exact rFldN (off := 2) rfl (by kernel_rfl) rfl | exact rFld (off := 2) rfl (by kernel_rfl) rfl) ?_ | refine WL_skip rfl rfl rfl ?_
              first | refine WL_val rfl rfl rfl (by first | exact rLd (v := .slice _ _ _) rfl (by kernel_rfl) rfl (by first | exact hI.c0 rfl | exact hI.oldp q8 | exact q8 | exact hI.oldp qra | exact qra | exact hI.oldp qa | exact qa) | exact rLd rfl (by kernel_rfl) rfl (by first | exact hI.c0 rfl | exact hI.oldp q8 | exact q8 | exact hI.oldp qra | exact qra | exact hI.oldp qa | exact qa)) ?_ | refine WL_skip rfl rfl rfl ?_
              first | refine WL_val rfl rfl rfl (by first | exact rMoveI rfl rfl | exact rMove rfl) ?_ | refine WL_skip rfl rfl rfl ?_
              first | refine WL_val rfl rfl rfl (by first | exact rIdx0 rfl Tryd.underlying41 (by kernel_rfl) rfl rfl rfl (by omega) | exact rIdx1 rfl Tryd.underlying41 (by kernel_rfl) rfl rfl (by omega)) ?_ | refine WL_skip rfl rfl rfl ?_
              first | refine WL_val rfl rfl rfl (by first | exact rLd (v := .slice _ _ _) rfl (by kernel_rfl) rfl (by first | exact hI.c0 rfl | exact hI.oldp q8 | exact q8 | exact hI.oldp qra | exact qra | exact hI.oldp qa | exact qa) | exact rLd rfl (by kernel_rfl) rfl (by first | exact hI.c0 rfl | exact hI.oldp q8 | exact q8 | exact hI.oldp qra | exact qra | exact hI.oldp qa | exact qa)) ?_ | refine WL_skip rfl rfl rfl ?_
              first | refine WL_val rfl rfl rfl (by first | exact rMoveI rfl rfl | exact rMove rfl) ?_ | refine WL_skip rfl rfl rfl ?_
              first | refine WL_val rfl rfl rfl (by first | exact rIdx0 rfl Tryd.underlying47 (by kernel_rfl) rfl rfl rfl (by omega) | exact rIdx1 rfl Tryd.underlying47 (by kernel_rfl) rfl rfl (by omega)) ?_ | refine WL_skip rfl rfl rfl ?_
              first | refine WL_val rfl rfl rfl (by first | exact rLd (v := .bool _) rfl (by kernel_rfl) rfl (by first | exact hI.c0 rfl | exact hI.oldp q8 | exact q8 | exact hI.oldp qra | exact qra | exact hI.oldp qa | exact qa) | exact rLd rfl (by kernel_rfl) rfl (by first | exact hI.c0 rfl | exact hI.oldp q8 | exact q8 | exact hI.oldp qra | exact qra | exact hI.oldp qa | exact qa)) ?_ | refine WL_skip rfl rfl rfl ?_
              first | refine WL_val rfl rfl rfl (by first | exact rMoveB rfl rfl | exact rMove rfl) ?_ | refine WL_skip rfl rfl rfl ?_
              first | refine WL_val rfl rfl rfl (by first | exact rMoveF rfl rfl | exact rMove rfl) ?_ | refine WL_skip rfl rfl rfl ?_
              first | refine WL_val rfl rfl rfl (by first | exact rMoveI rfl rfl | exact rMove rfl) ?_ | refine WL_skip rfl rfl rfl ?_
              first | refine WL_val rfl rfl rfl (by first | exact rMoveI rfl rfl | exact rMove rfl) ?_ | refine WL_skip rfl rfl rfl ?_
              refine WL_call rfl rfl rfl (rCallF (first := []) (cap := [_]) (vs := [.int .i64 _, .int .i64 _, .pointer _]) rfl rfl Tryd.func13 rfl rfl rfl) ?_
              refine (same_any b5 j t s A2 c2 _ _ (hI.oldp r5) (hsp.pure hI.pu) (by omega) (by omega)).mono ?_
              rintro e w7 ⟨rfl, hp7⟩
              refine ⟨_, rfl, ?_⟩
              replace hI := hI.pure hp7
              first | refine WL_val rfl rfl rfl (by first | exact rPickTB rfl rfl rfl | exact rPickFB rfl rfl rfl | exact rPickB rfl rfl rfl rfl) ?_ | refine WL_skip rfl rfl rfl ?_
              refine WL_val rfl rfl rfl (by first | exact rPickTB rfl rfl rfl | exact rPickFB rfl rfl rfl | exact rPickB rfl rfl rfl rfl) ?_
              refine WL_val rfl rfl rfl (by first | exact rAsgnB rfl rfl | exact rAsgn rfl) ?_
              refine WL_nil ?_
              exact ⟨⟨rfl, rfl, rfl, rfl, rfl, rfl, rfl, rfl, trivial⟩, hI⟩
        clear hI
        rintro ρ W ⟨hH, hI⟩
        obtain ⟨σ, rfl⟩ := hH.open
        cases hv : outF s t j with
        | true =>
          refine W_region ?_
          refine WL_val rfl rfl rfl (by first | exact rMoveB rfl rfl | exact rMove rfl) ?_
          refine WL_val rfl rfl rfl (by first | exact rMoveB rfl rfl | exact rMove rfl) ?_
          refine WL_skip rfl rfl rfl ?_
          refine WL_skip rfl rfl rfl ?_
          refine WL_skip rfl rfl rfl ?_
          refine WL_skip rfl rfl rfl ?_
          refine WL_skip rfl rfl rfl ?_
          refine WL_skip rfl rfl rfl ?_
          refine WL_skip rfl rfl rfl ?_
          refine WL_skip rfl rfl rfl ?_
          refine WL_skip rfl rfl rfl ?_
          refine WL_skip rfl rfl rfl ?_
          refine WL_skip rfl rfl rfl ?_
          refine WL_skip rfl rfl rfl ?_
          refine WL_skip rfl rfl rfl ?_
          refine WL_skip rfl rfl rfl ?_
          refine WL_val rfl rfl rfl (by first | exact rPickTB rfl rfl rfl | exact rPickFB rfl rfl rfl | exact rPickB rfl rfl rfl rfl) ?_
          refine WL_val rfl rfl rfl (by first | exact rAsgnB rfl rfl | exact rAsgn rfl) ?_
          refine WL_nil ?_
          refine W_region ?_
          refine WL_val rfl rfl rfl (by first | exact rMoveI rfl rfl | exact rMove rfl) ?_
          refine WL_val rfl rfl rfl (by first | exact rInc rfl rfl rfl (by omega) | exact rAdd rfl rfl rfl (by omega) | exact rAddW rfl rfl rfl) ?_
          refine WL_val rfl rfl rfl (by first | exact rAsgnI rfl rfl | exact rAsgn rfl) ?_
          refine WL_nil ?_
          exact ⟨⟨j + 1, by omega, ⟨rfl, rfl, by rw [outF_succ, hv]; rfl, rfl, rfl, rfl, rfl, rfl, trivial⟩, hI⟩, by show s.txs.length - ((j + 1 : Nat) : Int).toNat < s.txs.length - (j : Int).toNat; omega⟩
        | false =>
          cases he : anewF (stT s) (stG s) t j with
          | false =>
            rw [he] at qb
            refine W_region ?_
            refine WL_val rfl rfl rfl (by first | exact rMoveB rfl rfl | exact rMove rfl) ?_
            refine WL_val rfl rfl rfl (by first | exact rMoveB rfl rfl | exact rMove rfl) ?_
            first | refine WL_val rfl rfl rfl (by first | exact rFldN (off := 2) rfl (by kernel_rfl) rfl | exact rFld (off := 2) rfl (by kernel_rfl) rfl) ?_ | refine WL_skip rfl rfl rfl ?_
            first | refine WL_val rfl rfl rfl (by first | exact rLd (v := .slice _ _ _) rfl (by kernel_rfl) rfl (by first | exact hI.c0 rfl | exact hI.oldp q8 | exact q8 | exact hI.oldp qrb | exact qrb | exact hI.oldp qb | exact qb) | exact rLd rfl (by kernel_rfl) rfl (by first | exact hI.c0 rfl | exact hI.oldp q8 | exact q8 | exact hI.oldp qrb | exact qrb | exact hI.oldp qb | exact qb)) ?_ | refine WL_skip rfl rfl rfl ?_
            first | refine WL_val rfl rfl rfl (by first | exact rMoveI rfl rfl | exact rMove rfl) ?_ | refine WL_skip rfl rfl rfl ?_
            first | refine WL_val rfl rfl rfl (by first | exact rIdx0 rfl Tryd.underlying41 (by kernel_rfl) rfl rfl rfl (by omega) | exact rIdx1 rfl Tryd.underlying41 (by kernel_rfl) rfl rfl (by omega)) ?_ | refine WL_skip rfl rfl rfl ?_
            first | refine WL_val rfl rfl rfl (by first | exact rLd (v := .slice _ _ _) rfl (by kernel_rfl) rfl (by first | exact hI.c0 rfl | exact hI.oldp q8 | exact q8 | exact hI.oldp qrb | exact qrb | exact hI.oldp qb | exact qb) | exact rLd rfl (by kernel_rfl) rfl (by first | exact hI.c0 rfl | exact hI.oldp q8 | exact q8 | exact hI.oldp qrb | exact qrb | exact hI.oldp qb | exact qb)) ?_ | refine WL_skip rfl rfl rfl ?_
            first | refine WL_val rfl rfl rfl (by first | exact rMoveI rfl rfl | exact rMove rfl) ?_ | refine WL_skip rfl rfl rfl ?_
            first | refine WL_val rfl rfl rfl (by first | exact rIdx0 rfl Tryd.underlying47 (by kernel_rfl) rfl rfl rfl (by omega) | exact rIdx1 rfl Tryd.underlying47 (by kernel_rfl) rfl rfl (by omega)) ?_ | refine WL_skip rfl rfl rfl ?_
            first | refine WL_val rfl rfl rfl (by first | exact rLd (v := .bool _) rfl (by kernel_rfl) rfl (by first | exact hI.c0 rfl | exact hI.oldp q8 | exact q8 | exact hI.oldp qrb | exact qrb | exact hI.oldp qb | exact qb) | exact rLd rfl (by kernel_rfl) rfl (by first | exact hI.c0 rfl | exact hI.oldp q8 | exact q8 | exact hI.oldp qrb | exact qrb | exact hI.oldp qb | exact qb)) ?_ | refine WL_skip rfl rfl rfl ?_
            first | refine WL_val rfl rfl rfl (by first | exact rMoveB rfl rfl | exact rMove rfl) ?_ | refine WL_skip rfl rfl rfl ?_
            refine WL_skip rfl rfl rfl ?_
            refine WL_skip rfl rfl rfl ?_
            refine WL_skip rfl rfl rfl ?_
            refine WL_skip rfl rfl rfl ?_
            first | refine WL_val rfl rfl rfl (by first | exact rPickTB rfl rfl rfl | exact rPickFB rfl rfl rfl | exact rPickB rfl rfl rfl rfl) ?_ | refine WL_skip rfl rfl rfl ?_
            refine WL_val rfl rfl rfl (by first | exact rPickTB rfl rfl rfl | exact rPickFB rfl rfl rfl | exact rPickB rfl rfl rfl rfl) ?_
            refine WL_val rfl rfl rfl (by first | exact rAsgnB rfl rfl | exact rAsgn rfl) ?_
            refine WL_nil ?_
            refine W_region ?_
            refine WL_val rfl rfl rfl (by first | exact rMoveI rfl rfl | exact rMove rfl) ?_
            refine WL_val rfl rfl rfl (by first | exact rInc rfl rfl rfl (by omega) | exact rAdd rfl rfl rfl (by omega) | exact rAddW rfl rfl rfl) ?_
            refine WL_val rfl rfl rfl (by first | exact rAsgnI rfl rfl | exact rAsgn rfl) ?_
            refine WL_nil ?_
            exact ⟨⟨j + 1, by omega, ⟨rfl, rfl, by rw [outF_succ, hv, he]; rfl, rfl, rfl, rfl, rfl, rfl, trivial⟩, hI⟩, by show s.txs.length - ((j + 1 : Nat) : Int).toNat < s.txs.length - (j : Int).toNat; omega⟩
          | true =>
            rw [he] at qb
            refine W_region ?_
            refine WL_val rfl rfl rfl (by first | exact rMoveB rfl rfl | exact rMove rfl) ?_
            refine WL_val rfl rfl rfl (by first | exact rMoveB rfl rfl | exact rMove rfl) ?_
            first | refine WL_val rfl rfl rfl (by first | exact rFldN (off := 2) rfl (by kernel_rfl) rfl | exact rFld (off := 2) rfl (by kernel_rfl) rfl) ?_ | refine WL_skip rfl rfl rfl ?_
            first | refine WL_val rfl rfl rfl (by first | exact rLd (v := .slice _ _ _) rfl (by kernel_rfl) rfl (by first | exact hI.c0 rfl | exact hI.oldp q8 | exact q8 | exact hI.oldp qrb | exact qrb | exact hI.oldp qb | exact qb) | exact rLd rfl (by kernel_rfl) rfl (by first | exact hI.c0 rfl | exact hI.oldp q8 | exact q8 | exact hI.oldp qrb | exact qrb | exact hI.oldp qb | exact qb)) ?_ | refine WL_skip rfl rfl rfl ?_
            first | refine WL_val rfl rfl rfl (by first | exact rMoveI rfl rfl | exact rMove rfl) ?_ | refine WL_skip rfl rfl rfl ?_
            first | refine WL_val rfl rfl rfl (by first | exact rIdx0 rfl Tryd.underlying41 (by kernel_rfl) rfl rfl rfl (by omega) | exact rIdx1 rfl Tryd.underlying41 (by kernel_rfl) rfl rfl (by omega)) ?_ | refine WL_skip rfl rfl rfl ?_
            first | refine WL_val rfl rfl rfl (by first | exact rLd (v := .slice _ _ _) rfl (by kernel_rfl) rfl (by first | exact hI.c0 rfl | exact hI.oldp q8 | exact q8 | exact hI.oldp qrb | exact qrb | exact hI.oldp qb | exact qb) | exact rLd rfl (by kernel_rfl) rfl (by first | exact hI.c0 rfl | exact hI.oldp q8 | exact q8 | exact hI.oldp qrb | exact qrb | exact hI.oldp qb | exact qb)) ?_ | refine WL_skip rfl rfl rfl ?_
            first | refine WL_val rfl rfl rfl (by first | exact rMoveI rfl rfl | exact rMove rfl) ?_ | refine WL_skip rfl rfl rfl ?_
            first | refine WL_val rfl rfl rfl (by first | exact rIdx0 rfl Tryd.underlying47 (by kernel_rfl) rfl rfl rfl (by omega) | exact rIdx1 rfl Tryd.underlying47 (by kernel_rfl) rfl rfl (by omega)) ?_ | refine WL_skip rfl rfl rfl ?_
            first | refine WL_val rfl rfl rfl (by first | exact rLd (v := .bool _) rfl (by kernel_rfl) rfl (by first | exact hI.c0 rfl | exact hI.oldp q8 | exact q8 | exact hI.oldp qrb | exact qrb | exact hI.oldp qb | exact qb) | exact rLd rfl (by kernel_rfl) rfl (by first | exact hI.c0 rfl | exact hI.oldp q8 | exact q8 | exact hI.oldp qrb | exact qrb | exact hI.oldp qb | exact qb)) ?_ | refine WL_skip rfl rfl rfl ?_
            first | refine WL_val rfl rfl rfl (by first | exact rMoveB rfl rfl | exact rMove rfl) ?_ | refine WL_skip rfl rfl rfl ?_
            first | refine WL_val rfl rfl rfl (by first | exact rMoveF rfl rfl | exact rMove rfl) ?_ | refine WL_skip rfl rfl rfl ?_
            first | refine WL_val rfl rfl rfl (by first | exact rMoveI rfl rfl | exact rMove rfl) ?_ | refine WL_skip rfl rfl rfl ?_
            first | refine WL_val rfl rfl rfl (by first | exact rMoveI rfl rfl | exact rMove rfl) ?_ | refine WL_skip rfl rfl rfl ?_
            refine WL_call rfl rfl rfl (rCallF (first := []) (cap := [_]) (vs := [.int .i64 _, .int .i64 _, .pointer _]) rfl rfl Tryd.func13 rfl rfl rfl) ?_
            refine (same_any b5 t j s A2 c2 _ _ (hI.oldp r5) (hsp.pure hI.pu) (by omega) (by omega)).mono ?_
            rintro e w7 ⟨rfl, hp7⟩
            refine ⟨_, rfl, ?_⟩
            replace hI := hI.pure hp7
            first | refine WL_val rfl rfl rfl (by first | exact rPickTB rfl rfl rfl | exact rPickFB rfl rfl rfl | exact rPickB rfl rfl rfl rfl) ?_ | refine WL_skip rfl rfl rfl ?_
            refine WL_val rfl rfl rfl (by first | exact rPickTB rfl rfl rfl | exact rPickFB rfl rfl rfl | exact rPickB rfl rfl rfl rfl) ?_
            refine WL_val rfl rfl rfl (by first | exact rAsgnB rfl rfl | exact rAsgn rfl) ?_
            refine WL_nil ?_
            refine W_region ?_
            refine WL_val rfl rfl rfl (by first | exact rMoveI rfl rfl | exact rMove rfl) ?_
            refine WL_val rfl rfl rfl (by first | exact rInc rfl rfl rfl (by omega) | exact rAdd rfl rfl rfl (by omega) | exact rAddW rfl rfl rfl) ?_
            refine WL_val rfl rfl rfl (by first | exact rAsgnI rfl rfl | exact rAsgn rfl) ?_
            refine WL_nil ?_
            exact ⟨⟨j + 1, by omega, ⟨rfl, rfl, by rw [outF_succ, hv, he]; rfl, rfl, rfl, rfl, rfl, rfl, trivial⟩, hI⟩, by show s.txs.length - ((j + 1 : Nat) : Int).toNat < s.txs.length - (j : Int).toNat; omega⟩
      · obtain rfl : j = s.txs.length := by omega
        refine W_seq ?_
        refine W_seq ?_
        refine W_region ?_
        refine WL_val rfl rfl rfl (by first | exact rMoveI rfl rfl | exact rMove rfl) ?_
        refine WL_val rfl rfl rfl (by first | exact rFldN (off := 0) rfl (by kernel_rfl) rfl | exact rFld0 rfl (by kernel_rfl) rfl) ?_
        refine WL_val rfl rfl rfl (by first | exact rLd (v := .slice _ _ _) rfl (by kernel_rfl) rfl (by first | exact hI.c0 rfl | exact hI.oldp r40 | exact r40) | exact rLd rfl (by kernel_rfl) rfl (by first | exact hI.c0 rfl | exact hI.oldp r40 | exact r40)) ?_
        refine WL_val rfl rfl rfl (rLen rfl Tryd.underlying26 rfl) ?_
        refine WL_val rfl rfl rfl (by first | exact rLssT rfl rfl rfl (by omega) | exact rLssF rfl rfl rfl (by omega) | exact rLss rfl rfl rfl) ?_
        refine WL_nil ?_
        refine W_cond false rfl ?_
        refine W_exit ?_
        exact ⟨⟨rfl, rfl, rfl, rfl, rfl, rfl, rfl, trivial⟩, hI⟩
    clear hI
    rintro ρ W ⟨hH, hI⟩
    obtain ⟨σ, rfl⟩ := hH.open
    cases hvi : inF s t s.txs.length with
    | false =>
      refine W_seq ?_
      refine W_region ?_
      refine WL_val rfl rfl rfl (by first | exact rMoveB rfl rfl | exact rMove rfl) ?_
      refine WL_val rfl rfl rfl (by first | exact rMoveB rfl rfl | exact rMove rfl) ?_
      first | refine WL_val rfl rfl rfl (by first | exact rMoveB rfl rfl | exact rMove rfl) ?_ | refine WL_skip rfl rfl rfl ?_
      refine WL_val rfl rfl rfl (by first | exact rPickTB rfl rfl rfl | exact rPickFB rfl rfl rfl | exact rPickB rfl rfl rfl rfl) ?_
      refine WL_nil ?_
      refine W_cond false rfl ?_
      refine W_skip ?_
      refine W_region ?_
      refine WL_val rfl rfl rfl (by first | exact rMoveI rfl rfl | exact rMove rfl) ?_
      refine WL_val rfl rfl rfl (by first | exact rInc rfl rfl rfl (by omega) | exact rAdd rfl rfl rfl (by omega) | exact rAddW rfl rfl rfl) ?_
      refine WL_val rfl rfl rfl (by first | exact rAsgnI rfl rfl | exact rAsgn rfl) ?_
      refine WL_nil ?_
      exact ⟨⟨t + 1, by omega, fun t' ht' => by rcases Nat.lt_or_eq_of_le (Nat.le_of_lt_succ ht') with q | rfl; exact hnot t' q; rw [hvi]; rfl, ⟨rfl, rfl, rfl, rfl, rfl, trivial⟩, hI⟩, by show s.txs.length - ((t + 1 : Nat) : Int).toNat < s.txs.length - (t : Int).toNat; omega⟩
    | true =>
      cases hvo : outF s t s.txs.length with
      | false =>
        refine W_seq ?_
        refine W_region ?_
        refine WL_val rfl rfl rfl (by first | exact rMoveB rfl rfl | exact rMove rfl) ?_
        refine WL_val rfl rfl rfl (by first | exact rMoveB rfl rfl | exact rMove rfl) ?_
        first | refine WL_val rfl rfl rfl (by first | exact rMoveB rfl rfl | exact rMove rfl) ?_ | refine WL_skip rfl rfl rfl ?_
        refine WL_val rfl rfl rfl (by first | exact rPickTB rfl rfl rfl | exact rPickFB rfl rfl rfl | exact rPickB rfl rfl rfl rfl) ?_
        refine WL_nil ?_
        refine W_cond false rfl ?_
        refine W_skip ?_
        refine W_region ?_
        refine WL_val rfl rfl rfl (by first | exact rMoveI rfl rfl | exact rMove rfl) ?_
        refine WL_val rfl rfl rfl (by first | exact rInc rfl rfl rfl (by omega) | exact rAdd rfl rfl rfl (by omega) | exact rAddW rfl rfl rfl) ?_
        refine WL_val rfl rfl rfl (by first | exact rAsgnI rfl rfl | exact rAsgn rfl) ?_
        refine WL_nil ?_
        exact ⟨⟨t + 1, by omega, fun t' ht' => by rcases Nat.lt_or_eq_of_le (Nat.le_of_lt_succ ht') with q | rfl; exact hnot t' q; rw [hvi, hvo]; rfl, ⟨rfl, rfl, rfl, rfl, rfl, trivial⟩, hI⟩, by show s.txs.length - ((t + 1 : Nat) : Int).toNat < s.txs.length - (t : Int).toNat; omega⟩
      | true =>
        refine W_seq ?_
        refine W_region ?_
        refine WL_val rfl rfl rfl (by first | exact rMoveB rfl rfl | exact rMove rfl) ?_
        refine WL_val rfl rfl rfl (by first | exact rMoveB rfl rfl | exact rMove rfl) ?_
        first | refine WL_val rfl rfl rfl (by first | exact rMoveB rfl rfl | exact rMove rfl) ?_ | refine WL_skip rfl rfl rfl ?_
        refine WL_val rfl rfl rfl (by first | exact rPickTB rfl rfl rfl | exact rPickFB rfl rfl rfl | exact rPickB rfl rfl rfl rfl) ?_
        refine WL_nil ?_
        refine W_cond true rfl ?_
        refine W_seq ?_
        refine W_region ?_
        refine WL_val rfl rfl rfl (by first | exact rAsgnB rfl rfl | exact rAsgn rfl) ?_
        refine WL_nil ?_
        refine W_ret ?_
        exact ret1 2 (.inr rfl) rfl ⟨rfl, hP5.trans hI.pu⟩
  · obtain rfl : t = s.txs.length := by omega
    have := hnot pp pp1
    rw [hpiv] at this
    cases this
end Go.Proofs.YtlnjmkldpicpdaaDoor
