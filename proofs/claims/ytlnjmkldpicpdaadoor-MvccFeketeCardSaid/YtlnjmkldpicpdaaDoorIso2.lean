/- isolate: Level, Serial; slices: IndexFunc, DeleteFunc. -/
import Derived.Test.YtlnjmkldpicpdaaDoorFinds
namespace Go.Proofs.YtlnjmkldpicpdaaDoor
open Go.RowKit
set_option linter.unusedVariables false
set_option linter.unusedSimpArgs false

def levelF : List Bool → Int
  | [d, a, b, r, _, y] => if d then 0 else if a || b || r then 1 else if y then 2 else 3
  | _ => 0
def LevelPost (w : World) (n : Nat) (t : List ITx) (g : List (List Int)) (e : Ending) (w' : World) : Prop :=
  Pure w w' ∧ ((StoryOk t g ∧ e = .returned (.tuple #[.int .i64 (levelF (findsF n t g)), .nilIface])) ∨ (¬ StoryOk t g ∧ ∃ x, IsErr x ∧ e = .returned (.tuple #[.int .i64 0, x])))

set_option maxHeartbeats 1000000 in
theorem ilevel_any (A : Option Addr) (n c : Nat) (A2 : Option Addr) (n2 c2 : Nat) (t : List ITx) (g : List (List Int)) (D : Nat → Prop) (w0 : World) (h : Txs w0 D (.slice A n c) t) (hl : t.length = n) (h2 : IGrid w0 D (.slice A2 n2 c2) g) (hn2 : g.length = n2) (hD : ∀ k, D k → k < w0.heap.size) :
    Calls Tryd.prog 15 #[.agg #[.slice A n c, .slice A2 n2 c2]] w0 (LevelPost w0 n t g) := by
  have hI := Inv.start (fun _ => False) w0
  refine calls_of_W (N := Tryd.f15.ntmps) Tryd.func15 rfl rfl rfl ?_
  refine W_seq ?_
  refine W_region ?_
  refine WL_box (u := .agg _) (vs := #[_, _]) hI rfl rfl rfl rfl rfl rfl ?_
  clear hI; rintro b1 w - - hI
  refine WL_val rfl rfl rfl (by first | exact rAsgnI rfl rfl | exact rAsgn rfl) ?_
  refine WL_val rfl rfl rfl (by first | exact rAsgnN rfl rfl | exact rAsgnE rfl rfl | exact rAsgn rfl) ?_
  refine WL_nil ?_
  refine W_seq ?_
  refine W_region ?_
  refine WL_val rfl rfl rfl (by first | exact rLdB (n := 2) rfl (by kernel_rfl) (by kernel_rfl) rfl rfl hI.g0 | exact rLd2 rfl (by kernel_rfl) (by kernel_rfl) rfl (by first | exact hI.c0 rfl) (by first | exact hI.c0 rfl)) ?_
  refine WL_call rfl rfl rfl (rCall (vs := [.agg _]) rfl Tryd.func14 rfl rfl rfl) ?_
  refine (ifinds_any A n c A2 n2 c2 t g D _ (h.pure hI.pu) hl (h2.pure hI.pu) hn2 (fun k hk => Nat.lt_of_lt_of_le (hD k hk) hI.pu.size)).mono ?_
  rintro e w1 ⟨hp, ⟨hok, ob, hob, rfl, hB⟩ | ⟨hno, x, ⟨u, rfl⟩, rfl⟩⟩
  · obtain ⟨d, a, b, r, s, y, hf⟩ : ∃ d a b r s y, findsF n t g = [d, a, b, r, s, y] := ⟨_, _, _, _, _, _, rfl⟩
    rw [hf] at hB
    refine ⟨_, rfl, ?_⟩
    replace hI := hI.pure hp
    have c0 : w1.cell? ⟨ob, 0, none⟩ = some (.bool d) := hB.cell 0
    have c1 : w1.cell? ⟨ob, 1, none⟩ = some (.bool a) := hB.cell 1
    have c2' : w1.cell? ⟨ob, 2, none⟩ = some (.bool b) := hB.cell 2
    have c3 : w1.cell? ⟨ob, 3, none⟩ = some (.bool r) := hB.cell 3
    have c5 : w1.cell? ⟨ob, 5, none⟩ = some (.bool y) := hB.cell 5
    refine WL_val rfl rfl rfl (by first | exact rMoveT rfl rfl | exact rMove rfl) ?_
    refine WL_val rfl rfl rfl (rExtr rfl rfl rfl) ?_
    refine WL_val rfl rfl rfl (rExtr rfl rfl rfl) ?_
    refine WL_val rfl rfl rfl (by first | exact rAsgnS rfl rfl | exact rAsgn rfl) ?_
    refine WL_val rfl rfl rfl (by first | exact rAsgnN rfl rfl | exact rAsgnE rfl rfl | exact rAsgn rfl) ?_
    refine WL_nil ?_
    refine W_seq ?_
    refine W_block ?_
    refine W_seq ?_
    refine W_region ?_
    refine WL_val rfl rfl rfl (by first | exact rMoveN rfl rfl | exact rMoveE rfl rfl | exact rMove rfl) ?_
    refine WL_val rfl rfl rfl (by first | exact rIfaceNe rfl Tryd.underlying37 rfl rfl | exact rNilNe rfl Tryd.underlying37 rfl) ?_
    refine WL_val rfl rfl rfl (by first | exact rMoveB rfl rfl | exact rMove rfl) ?_
    first | refine WL_val rfl rfl rfl (by first | exact rMoveS rfl rfl | exact rMove rfl) ?_ | refine WL_skip rfl rfl rfl ?_
    first | refine WL_val rfl rfl rfl (by first | exact rIdx0 (i := 0) rfl Tryd.underlying47 (by kernel_rfl) rfl rfl rfl (by omega) | exact rIdx1 (i := 0) rfl Tryd.underlying47 (by kernel_rfl) rfl rfl (by omega)) ?_ | refine WL_skip rfl rfl rfl ?_
    first | refine WL_val rfl rfl rfl (by first | exact rLd (v := .bool _) rfl (by kernel_rfl) rfl (by first | exact hI.oldp c0 | exact c0) | exact rLd rfl (by kernel_rfl) rfl (by first | exact hI.oldp c0 | exact c0)) ?_ | refine WL_skip rfl rfl rfl ?_
    refine WL_val rfl rfl rfl (by first | exact rPickTB rfl rfl rfl | exact rPickFB rfl rfl rfl | exact rPickB rfl rfl rfl rfl) ?_
    refine WL_val rfl rfl rfl (by first | exact rAsgnB rfl rfl | exact rAsgn rfl) ?_
    refine WL_nil ?_
    cases d
    rotate_left
    · refine W_cond true rfl ?_
      refine W_seq ?_
      refine W_region ?_
      refine WL_val rfl rfl rfl (by first | exact rMoveN rfl rfl | exact rMoveE rfl rfl | exact rMove rfl) ?_
      refine WL_val rfl rfl rfl (by first | exact rAsgnI rfl rfl | exact rAsgn rfl) ?_
      refine WL_val rfl rfl rfl (by first | exact rAsgnN rfl rfl | exact rAsgnE rfl rfl | exact rAsgn rfl) ?_
      refine WL_nil ?_
      refine W_ret ?_
      exact ret2 2 3 (.inr rfl) rfl ⟨hI.pu, .inl ⟨hok, by rw [hf]; rfl⟩⟩
    refine W_cond false rfl ?_
    cases a
    rotate_left
    · refine W_seq ?_
      refine W_region ?_
      refine WL_val rfl rfl rfl (by first | exact rMoveS rfl rfl | exact rMove rfl) ?_
      refine WL_val rfl rfl rfl (by first | exact rIdx0 (i := 1) rfl Tryd.underlying47 (by kernel_rfl) rfl rfl rfl (by omega) | exact rIdx1 (i := 1) rfl Tryd.underlying47 (by kernel_rfl) rfl rfl (by omega)) ?_
      refine WL_val rfl rfl rfl (by first | exact rLd (v := .bool _) rfl (by kernel_rfl) rfl (by first | exact hI.oldp c1 | exact c1) | exact rLd rfl (by kernel_rfl) rfl (by first | exact hI.oldp c1 | exact c1)) ?_
      refine WL_val rfl rfl rfl (by first | exact rMoveB rfl rfl | exact rMove rfl) ?_
      refine WL_skip rfl rfl rfl ?_
      refine WL_skip rfl rfl rfl ?_
      refine WL_skip rfl rfl rfl ?_
      refine WL_val rfl rfl rfl (by first | exact rPickTB rfl rfl rfl | exact rPickFB rfl rfl rfl | exact rPickB rfl rfl rfl rfl) ?_
      refine WL_val rfl rfl rfl (by first | exact rMoveB rfl rfl | exact rMove rfl) ?_
      refine WL_skip rfl rfl rfl ?_
      refine WL_skip rfl rfl rfl ?_
      refine WL_skip rfl rfl rfl ?_
      refine WL_val rfl rfl rfl (by first | exact rPickTB rfl rfl rfl | exact rPickFB rfl rfl rfl | exact rPickB rfl rfl rfl rfl) ?_
      refine WL_val rfl rfl rfl (by first | exact rAsgnB rfl rfl | exact rAsgn rfl) ?_
      refine WL_nil ?_
      refine W_cond true rfl ?_
      refine W_seq ?_
      refine W_region ?_
      refine WL_val rfl rfl rfl (by first | exact rAsgnI rfl rfl | exact rAsgn rfl) ?_
      refine WL_val rfl rfl rfl (by first | exact rAsgnN rfl rfl | exact rAsgnE rfl rfl | exact rAsgn rfl) ?_
      refine WL_nil ?_
      refine W_ret ?_
      exact ret2 2 3 (.inr rfl) rfl ⟨hI.pu, .inl ⟨hok, by rw [hf]; rfl⟩⟩
    cases b
    rotate_left
    · refine W_seq ?_
      refine W_region ?_
      refine WL_val rfl rfl rfl (by first | exact rMoveS rfl rfl | exact rMove rfl) ?_
      refine WL_val rfl rfl rfl (by first | exact rIdx0 (i := 1) rfl Tryd.underlying47 (by kernel_rfl) rfl rfl rfl (by omega) | exact rIdx1 (i := 1) rfl Tryd.underlying47 (by kernel_rfl) rfl rfl (by omega)) ?_
      refine WL_val rfl rfl rfl (by first | exact rLd (v := .bool _) rfl (by kernel_rfl) rfl (by first | exact hI.oldp c1 | exact c1 | exact hI.oldp c2' | exact c2') | exact rLd rfl (by kernel_rfl) rfl (by first | exact hI.oldp c1 | exact c1 | exact hI.oldp c2' | exact c2')) ?_
      refine WL_val rfl rfl rfl (by first | exact rMoveB rfl rfl | exact rMove rfl) ?_
      first | refine WL_val rfl rfl rfl (by first | exact rMoveS rfl rfl | exact rMove rfl) ?_ | refine WL_skip rfl rfl rfl ?_
      first | refine WL_val rfl rfl rfl (by first | exact rIdx0 (i := 2) rfl Tryd.underlying47 (by kernel_rfl) rfl rfl rfl (by omega) | exact rIdx1 (i := 2) rfl Tryd.underlying47 (by kernel_rfl) rfl rfl (by omega)) ?_ | refine WL_skip rfl rfl rfl ?_
      first | refine WL_val rfl rfl rfl (by first | exact rLd (v := .bool _) rfl (by kernel_rfl) rfl (by first | exact hI.oldp c1 | exact c1 | exact hI.oldp c2' | exact c2') | exact rLd rfl (by kernel_rfl) rfl (by first | exact hI.oldp c1 | exact c1 | exact hI.oldp c2' | exact c2')) ?_ | refine WL_skip rfl rfl rfl ?_
      refine WL_val rfl rfl rfl (by first | exact rPickTB rfl rfl rfl | exact rPickFB rfl rfl rfl | exact rPickB rfl rfl rfl rfl) ?_
      refine WL_val rfl rfl rfl (by first | exact rMoveB rfl rfl | exact rMove rfl) ?_
      refine WL_skip rfl rfl rfl ?_
      refine WL_skip rfl rfl rfl ?_
      refine WL_skip rfl rfl rfl ?_
      refine WL_val rfl rfl rfl (by first | exact rPickTB rfl rfl rfl | exact rPickFB rfl rfl rfl | exact rPickB rfl rfl rfl rfl) ?_
      refine WL_val rfl rfl rfl (by first | exact rAsgnB rfl rfl | exact rAsgn rfl) ?_
      refine WL_nil ?_
      refine W_cond true rfl ?_
      refine W_seq ?_
      refine W_region ?_
      refine WL_val rfl rfl rfl (by first | exact rAsgnI rfl rfl | exact rAsgn rfl) ?_
      refine WL_val rfl rfl rfl (by first | exact rAsgnN rfl rfl | exact rAsgnE rfl rfl | exact rAsgn rfl) ?_
      refine WL_nil ?_
      refine W_ret ?_
      exact ret2 2 3 (.inr rfl) rfl ⟨hI.pu, .inl ⟨hok, by rw [hf]; rfl⟩⟩
    cases r
    rotate_left
    · refine W_seq ?_
      refine W_region ?_
      refine WL_val rfl rfl rfl (by first | exact rMoveS rfl rfl | exact rMove rfl) ?_
      refine WL_val rfl rfl rfl (by first | exact rIdx0 (i := 1) rfl Tryd.underlying47 (by kernel_rfl) rfl rfl rfl (by omega) | exact rIdx1 (i := 1) rfl Tryd.underlying47 (by kernel_rfl) rfl rfl (by omega)) ?_
      refine WL_val rfl rfl rfl (by first | exact rLd (v := .bool _) rfl (by kernel_rfl) rfl (by first | exact hI.oldp c1 | exact c1 | exact hI.oldp c2' | exact c2' | exact hI.oldp c3 | exact c3) | exact rLd rfl (by kernel_rfl) rfl (by first | exact hI.oldp c1 | exact c1 | exact hI.oldp c2' | exact c2' | exact hI.oldp c3 | exact c3)) ?_
      refine WL_val rfl rfl rfl (by first | exact rMoveB rfl rfl | exact rMove rfl) ?_
      first | refine WL_val rfl rfl rfl (by first | exact rMoveS rfl rfl | exact rMove rfl) ?_ | refine WL_skip rfl rfl rfl ?_
      first | refine WL_val rfl rfl rfl (by first | exact rIdx0 (i := 2) rfl Tryd.underlying47 (by kernel_rfl) rfl rfl rfl (by omega) | exact rIdx1 (i := 2) rfl Tryd.underlying47 (by kernel_rfl) rfl rfl (by omega)) ?_ | refine WL_skip rfl rfl rfl ?_
      first | refine WL_val rfl rfl rfl (by first | exact rLd (v := .bool _) rfl (by kernel_rfl) rfl (by first | exact hI.oldp c1 | exact c1 | exact hI.oldp c2' | exact c2' | exact hI.oldp c3 | exact c3) | exact rLd rfl (by kernel_rfl) rfl (by first | exact hI.oldp c1 | exact c1 | exact hI.oldp c2' | exact c2' | exact hI.oldp c3 | exact c3)) ?_ | refine WL_skip rfl rfl rfl ?_
      refine WL_val rfl rfl rfl (by first | exact rPickTB rfl rfl rfl | exact rPickFB rfl rfl rfl | exact rPickB rfl rfl rfl rfl) ?_
      refine WL_val rfl rfl rfl (by first | exact rMoveB rfl rfl | exact rMove rfl) ?_
      first | refine WL_val rfl rfl rfl (by first | exact rMoveS rfl rfl | exact rMove rfl) ?_ | refine WL_skip rfl rfl rfl ?_
      first | refine WL_val rfl rfl rfl (by first | exact rIdx0 (i := 3) rfl Tryd.underlying47 (by kernel_rfl) rfl rfl rfl (by omega) | exact rIdx1 (i := 3) rfl Tryd.underlying47 (by kernel_rfl) rfl rfl (by omega)) ?_ | refine WL_skip rfl rfl rfl ?_
      first | refine WL_val rfl rfl rfl (by first | exact rLd (v := .bool _) rfl (by kernel_rfl) rfl (by first | exact hI.oldp c1 | exact c1 | exact hI.oldp c2' | exact c2' | exact hI.oldp c3 | exact c3) | exact rLd rfl (by kernel_rfl) rfl (by first | exact hI.oldp c1 | exact c1 | exact hI.oldp c2' | exact c2' | exact hI.oldp c3 | exact c3)) ?_ | refine WL_skip rfl rfl rfl ?_
      refine WL_val rfl rfl rfl (by first | exact rPickTB rfl rfl rfl | exact rPickFB rfl rfl rfl | exact rPickB rfl rfl rfl rfl) ?_
      refine WL_val rfl rfl rfl (by first | exact rAsgnB rfl rfl | exact rAsgn rfl) ?_
      refine WL_nil ?_
      refine W_cond true rfl ?_
      refine W_seq ?_
      refine W_region ?_
      refine WL_val rfl rfl rfl (by first | exact rAsgnI rfl rfl | exact rAsgn rfl) ?_
      refine WL_val rfl rfl rfl (by first | exact rAsgnN rfl rfl | exact rAsgnE rfl rfl | exact rAsgn rfl) ?_
      refine WL_nil ?_
      refine W_ret ?_
      exact ret2 2 3 (.inr rfl) rfl ⟨hI.pu, .inl ⟨hok, by rw [hf]; rfl⟩⟩
    refine W_seq ?_
    refine W_region ?_
    refine WL_val rfl rfl rfl (by first | exact rMoveS rfl rfl | exact rMove rfl) ?_
    refine WL_val rfl rfl rfl (by first | exact rIdx0 (i := 1) rfl Tryd.underlying47 (by kernel_rfl) rfl rfl rfl (by omega) | exact rIdx1 (i := 1) rfl Tryd.underlying47 (by kernel_rfl) rfl rfl (by omega)) ?_
    refine WL_val rfl rfl rfl (by first | exact rLd (v := .bool _) rfl (by kernel_rfl) rfl (by first | exact hI.oldp c1 | exact c1 | exact hI.oldp c2' | exact c2' | exact hI.oldp c3 | exact c3) | exact rLd rfl (by kernel_rfl) rfl (by first | exact hI.oldp c1 | exact c1 | exact hI.oldp c2' | exact c2' | exact hI.oldp c3 | exact c3)) ?_
    refine WL_val rfl rfl rfl (by first | exact rMoveB rfl rfl | exact rMove rfl) ?_
    first | refine WL_val rfl rfl rfl (by first | exact rMoveS rfl rfl | exact rMove rfl) ?_ | refine WL_skip rfl rfl rfl ?_
    first | refine WL_val rfl rfl rfl (by first | exact rIdx0 (i := 2) rfl Tryd.underlying47 (by kernel_rfl) rfl rfl rfl (by omega) | exact rIdx1 (i := 2) rfl Tryd.underlying47 (by kernel_rfl) rfl rfl (by omega)) ?_ | refine WL_skip rfl rfl rfl ?_
    first | refine WL_val rfl rfl rfl (by first | exact rLd (v := .bool _) rfl (by kernel_rfl) rfl (by first | exact hI.oldp c1 | exact c1 | exact hI.oldp c2' | exact c2' | exact hI.oldp c3 | exact c3) | exact rLd rfl (by kernel_rfl) rfl (by first | exact hI.oldp c1 | exact c1 | exact hI.oldp c2' | exact c2' | exact hI.oldp c3 | exact c3)) ?_ | refine WL_skip rfl rfl rfl ?_
    refine WL_val rfl rfl rfl (by first | exact rPickTB rfl rfl rfl | exact rPickFB rfl rfl rfl | exact rPickB rfl rfl rfl rfl) ?_
    refine WL_val rfl rfl rfl (by first | exact rMoveB rfl rfl | exact rMove rfl) ?_
    first | refine WL_val rfl rfl rfl (by first | exact rMoveS rfl rfl | exact rMove rfl) ?_ | refine WL_skip rfl rfl rfl ?_
    first | refine WL_val rfl rfl rfl (by first | exact rIdx0 (i := 3) rfl Tryd.underlying47 (by kernel_rfl) rfl rfl rfl (by omega) | exact rIdx1 (i := 3) rfl Tryd.underlying47 (by kernel_rfl) rfl rfl (by omega)) ?_ | refine WL_skip rfl rfl rfl ?_
    first | refine WL_val rfl rfl rfl (by first | exact rLd (v := .bool _) rfl (by kernel_rfl) rfl (by first | exact hI.oldp c1 | exact c1 | exact hI.oldp c2' | exact c2' | exact hI.oldp c3 | exact c3) | exact rLd rfl (by kernel_rfl) rfl (by first | exact hI.oldp c1 | exact c1 | exact hI.oldp c2' | exact c2' | exact hI.oldp c3 | exact c3)) ?_ | refine WL_skip rfl rfl rfl ?_
    refine WL_val rfl rfl rfl (by first | exact rPickTB rfl rfl rfl | exact rPickFB rfl rfl rfl | exact rPickB rfl rfl rfl rfl) ?_
    refine WL_val rfl rfl rfl (by first | exact rAsgnB rfl rfl | exact rAsgn rfl) ?_
    refine WL_nil ?_
    refine W_cond false rfl ?_
    refine W_seq ?_
    refine W_region ?_
    refine WL_val rfl rfl rfl (by first | exact rMoveS rfl rfl | exact rMove rfl) ?_
    refine WL_val rfl rfl rfl (by first | exact rIdx0 (i := 5) rfl Tryd.underlying47 (by kernel_rfl) rfl rfl rfl (by omega) | exact rIdx1 (i := 5) rfl Tryd.underlying47 (by kernel_rfl) rfl rfl (by omega)) ?_
    refine WL_val rfl rfl rfl (by first | exact rLd (v := .bool _) rfl (by kernel_rfl) rfl (by first | exact hI.oldp c5 | exact c5) | exact rLd rfl (by kernel_rfl) rfl (by first | exact hI.oldp c5 | exact c5)) ?_
    refine WL_val rfl rfl rfl (by first | exact rAsgnB rfl rfl | exact rAsgn rfl) ?_
    refine WL_nil ?_
    cases y
    · refine W_cond false rfl ?_
      refine W_skip ?_
      refine W_seq ?_
      refine W_region ?_
      refine WL_val rfl rfl rfl (by first | exact rAsgnI rfl rfl | exact rAsgn rfl) ?_
      refine WL_val rfl rfl rfl (by first | exact rAsgnN rfl rfl | exact rAsgnE rfl rfl | exact rAsgn rfl) ?_
      refine WL_nil ?_
      refine W_ret ?_
      exact ret2 2 3 (.inr rfl) rfl ⟨hI.pu, .inl ⟨hok, by rw [hf]; rfl⟩⟩
    · refine W_cond true rfl ?_
      refine W_seq ?_
      refine W_region ?_
      refine WL_val rfl rfl rfl (by first | exact rAsgnI rfl rfl | exact rAsgn rfl) ?_
      refine WL_val rfl rfl rfl (by first | exact rAsgnN rfl rfl | exact rAsgnE rfl rfl | exact rAsgn rfl) ?_
      refine WL_nil ?_
      refine W_ret ?_
      exact ret2 2 3 (.inr rfl) rfl ⟨hI.pu, .inl ⟨hok, by rw [hf]; rfl⟩⟩
  · refine ⟨_, rfl, ?_⟩
    replace hI := hI.pure hp
    refine WL_val rfl rfl rfl (by first | exact rMoveT rfl rfl | exact rMove rfl) ?_
    refine WL_val rfl rfl rfl (rExtr rfl rfl rfl) ?_
    refine WL_val rfl rfl rfl (rExtr rfl rfl rfl) ?_
    refine WL_val rfl rfl rfl (by first | exact rAsgnS rfl rfl | exact rAsgn rfl) ?_
    refine WL_val rfl rfl rfl (by first | exact rAsgnN rfl rfl | exact rAsgnE rfl rfl | exact rAsgn rfl) ?_
    refine WL_nil ?_
    refine W_seq ?_
    refine W_block ?_
    refine W_seq ?_
    refine W_region ?_
    refine WL_val rfl rfl rfl (by first | exact rMoveN rfl rfl | exact rMoveE rfl rfl | exact rMove rfl) ?_
    refine WL_val rfl rfl rfl (by first | exact rIfaceNe rfl Tryd.underlying37 rfl rfl | exact rNilNe rfl Tryd.underlying37 rfl) ?_
    refine WL_val rfl rfl rfl (by first | exact rMoveB rfl rfl | exact rMove rfl) ?_
    refine WL_skip rfl rfl rfl ?_
    refine WL_skip rfl rfl rfl ?_
    refine WL_skip rfl rfl rfl ?_
    refine WL_val rfl rfl rfl (by first | exact rPickTB rfl rfl rfl | exact rPickFB rfl rfl rfl | exact rPickB rfl rfl rfl rfl) ?_
    refine WL_val rfl rfl rfl (by first | exact rAsgnB rfl rfl | exact rAsgn rfl) ?_
    refine WL_nil ?_
    refine W_cond true rfl ?_
    refine W_seq ?_
    refine W_region ?_
    refine WL_val rfl rfl rfl (by first | exact rMoveN rfl rfl | exact rMoveE rfl rfl | exact rMove rfl) ?_
    refine WL_val rfl rfl rfl (by first | exact rAsgnI rfl rfl | exact rAsgn rfl) ?_
    refine WL_val rfl rfl rfl (by first | exact rAsgnN rfl rfl | exact rAsgnE rfl rfl | exact rAsgn rfl) ?_
    refine WL_nil ?_
    refine W_ret ?_
    exact ret2 2 3 (.inr rfl) rfl ⟨hI.pu, .inr ⟨hno, _, ⟨_, rfl⟩, rfl⟩⟩

theorem idel_any (sb : Nat) (A : Option Addr) (n c i : Nat) (l : List ITx) (D : Nat → Prop) (w : World) (hs : w.cell? ⟨sb, 0, none⟩ = some (.slice A n c)) (h : Txs w D (.slice A n c) l) (hl : l.length = n) (hi : i < n) :
    Calls Tryd.prog 25 #[.int .i64 i, .pointer (some ⟨sb, 0, none⟩)] w fun e w' => e = .returned (.bool (!comAt l i)) ∧ w = w' := by
  obtain ⟨t, ht⟩ : ∃ t, l[i]? = some t := ⟨_, List.getElem?_eq_getElem (by omega)⟩
  obtain ⟨b, f, A', c', rfl, _, q1, q2, q3, q4, q5⟩ := h.get ht
  have hI := Inv.start (fun _ => False) w
  refine calls_of_W (N := Tryd.f25.ntmps) Tryd.func25 rfl rfl rfl ?_
  refine W_seq ?_
  refine W_region ?_
  refine WL_val rfl rfl rfl (by first | exact rAsgnB rfl rfl | exact rAsgn rfl) ?_
  refine WL_nil ?_
  refine W_seq ?_
  refine W_region ?_
  refine WL_val rfl rfl rfl (by first | exact rFldN (off := 0) rfl (by kernel_rfl) rfl | exact rFld0 rfl (by kernel_rfl) rfl) ?_
  refine WL_val rfl rfl rfl (by first | exact rLd (v := .slice _ _ _) rfl (by kernel_rfl) rfl (by first | exact hI.oldp hs | exact hs | exact hI.oldp q2 | exact q2) | exact rLd rfl (by kernel_rfl) rfl (by first | exact hI.oldp hs | exact hs | exact hI.oldp q2 | exact q2)) ?_
  refine WL_val rfl rfl rfl (by first | exact rMoveI rfl rfl | exact rMove rfl) ?_
  refine WL_val rfl rfl rfl (rIdx (sz := 2) rfl Tryd.underlying26 (by kernel_rfl) rfl rfl (by omega)) ?_
  refine WL_val rfl rfl rfl (by first | exact rFldN (off := 1) rfl (by kernel_rfl) rfl | exact rFld (off := 1) rfl (by kernel_rfl) rfl) ?_
  refine WL_val rfl rfl rfl (by first | exact rLd (v := .bool _) rfl (by kernel_rfl) rfl (by first | exact hI.oldp hs | exact hs | exact hI.oldp q2 | exact q2) | exact rLd rfl (by kernel_rfl) rfl (by first | exact hI.oldp hs | exact hs | exact hI.oldp q2 | exact q2)) ?_
  refine WL_val rfl rfl rfl (by first | exact rNotT rfl rfl | exact rNotF rfl rfl | exact rNot rfl rfl) ?_
  refine WL_val rfl rfl rfl (by first | exact rAsgnB rfl rfl | exact rAsgn rfl) ?_
  refine WL_nil ?_
  refine W_ret ?_
  refine ret1 3 (.inr rfl) rfl ⟨?_, rfl⟩
  exact ret_bool (by simp [comAt, ht])

def IdxPost (w : World) (l : List Nat) (p : Nat → Bool) (e : Ending) (w' : World) : Prop :=
  w = w' ∧ ((∃ k x : Nat, e = .returned (.int .i64 k) ∧ l[k]? = some x ∧ p x = true ∧ ∀ y ∈ l.take k, p y = false) ∨ (e = .returned (.int .i64 (-1)) ∧ ∀ y ∈ l, p y = false))
theorem take_next {α : Type} {l : List α} {k : Nat} {x : α} (h : l[k]? = some x) : l.take (k + 1) = l.take k ++ [x] := by
  obtain ⟨h1, h2⟩ := List.getElem?_eq_some_iff.1 h
  rw [List.take_succ_eq_append_getElem h1, h2]

set_option maxHeartbeats 1000000 in
theorem idxf_any (sb : Nat) (A : Option Addr) (n c : Nat) (t : List ITx) (D : Nat → Prop) (w0 : World) (hs : w0.cell? ⟨sb, 0, none⟩ = some (.slice A n c)) (h : Txs w0 D (.slice A n c) t) (hl : t.length = n)
    (g m cm : Nat) (A' : Option Addr) (l : List Nat) (hm : l.length = m) (hm63 : m < 9223372036854775807) (hn : ∀ x ∈ l, x < n) (hr : ∀ (j x : Nat), l[j]? = some x → A' = some ⟨g, 0, none⟩ ∧ w0.cell? ⟨g, j, none⟩ = some (.int .i64 x)) :
    Calls Tryd.prog 40 #[.slice A' m cm, .func (.func 25) #[] #[.pointer (some ⟨sb, 0, none⟩)]] w0 (IdxPost w0 l (fun x => !comAt t x)) := by
  have hI := Inv.start (fun _ => False) w0
  refine calls_of_W (N := Tryd.f40.ntmps) Tryd.func40 rfl rfl rfl ?_
  refine W_seq ?_
  refine W_region ?_
  refine WL_val rfl rfl rfl (by first | exact rAsgnI rfl rfl | exact rAsgn rfl) ?_
  refine WL_nil ?_
  refine W_seq ?_
  refine W_seq ?_
  refine W_region ?_
  refine WL_val rfl rfl rfl (by first | exact rMoveS rfl rfl | exact rMove rfl) ?_
  refine WL_val rfl rfl rfl (rLen rfl Tryd.underlying33 rfl) ?_
  refine WL_val rfl rfl rfl (by first | exact rMoveI rfl rfl | exact rMove rfl) ?_
  refine WL_nil ?_
  refine W_block ?_
  refine W_loop (fun ρ w => ∃ k : Nat, k ≤ m ∧ Has ρ [(8, .int .i64 k), (7, .int .i64 m), (0, .slice A' m cm), (1, .func (.func 25) #[] #[.pointer (some ⟨sb, 0, none⟩)])] ∧ (∀ y ∈ l.take k, (!comAt t (y : Int)) = false) ∧ w = w0) (fun ρ _ => m - cnt (ρ 8))
    ⟨0, by omega, ⟨rfl, rfl, rfl, rfl, trivial⟩, by simp, rfl⟩ ?_
  rintro ρ w ⟨k, hk, hH, hno, rfl⟩
  obtain ⟨σ, rfl⟩ := hH.open
  by_cases hkm : k < m
  · obtain ⟨x, hx⟩ : ∃ x, l[k]? = some x := ⟨_, List.getElem?_eq_getElem (by omega)⟩
    obtain ⟨rfl, hc⟩ := hr k x hx
    refine W_seq ?_
    refine W_region ?_
    refine WL_val rfl rfl rfl (by first | exact rLssT rfl rfl rfl (by omega) | exact rLssF rfl rfl rfl (by omega) | exact rLss rfl rfl rfl) ?_
    refine WL_nil ?_
    refine W_seq ?_
    refine W_cond true rfl ?_
    refine W_skip ?_
    refine W_seq ?_
    refine W_block ?_
    refine W_seq ?_
    refine W_region ?_
    refine WL_val rfl rfl rfl (by first | exact rMoveI rfl rfl | exact rMove rfl) ?_
    refine WL_val rfl rfl rfl (by first | exact rAsgnI rfl rfl | exact rAsgn rfl) ?_
    refine WL_nil ?_
    refine W_seq ?_
    refine W_region ?_
    refine WL_val rfl rfl rfl (by first | exact rMoveF rfl rfl | exact rMove rfl) ?_
    refine WL_val rfl rfl rfl (by first | exact rMoveS rfl rfl | exact rMove rfl) ?_
    refine WL_val rfl rfl rfl (by first | exact rMoveI rfl rfl | exact rMove rfl) ?_
    refine WL_val rfl rfl rfl (by first | exact rIdx0 rfl Tryd.underlying33 (by kernel_rfl) rfl rfl rfl (by omega) | exact rIdx1 rfl Tryd.underlying33 (by kernel_rfl) rfl rfl (by omega)) ?_
    refine WL_val rfl rfl rfl (by first | exact rLd (v := .int .i64 _) rfl (by kernel_rfl) rfl (by first | exact hI.oldp hc | exact hc) | exact rLd rfl (by kernel_rfl) rfl (by first | exact hI.oldp hc | exact hc)) ?_
    -- STOP: call ['Op.call', ('st', {'callee': ['Callee.value', ['Operand.tmp', '11']], 'args': ('arr', [['Operand.tmp', '15']]), 'argTypes': ('arr', ['3'])})]
    refine WL_call rfl rfl rfl (rCallF (first := []) (cap := [_]) (vs := [.int .i64 _, .pointer _]) rfl rfl Tryd.func25 rfl rfl rfl) ?_
    refine (idel_any sb A n c x t D _ hs h hl (hn x (List.mem_of_getElem? hx))).mono ?_
    rintro e w1 ⟨rfl, rfl⟩
    refine ⟨_, rfl, ?_⟩
    refine WL_nil ?_
    refine W_if rfl (fun hc => ?_) (fun hc => ?_)
    · refine W_seq ?_
      refine W_region ?_
      refine WL_val rfl rfl rfl (by first | exact rMoveI rfl rfl | exact rMove rfl) ?_
      refine WL_val rfl rfl rfl (by first | exact rAsgnI rfl rfl | exact rAsgn rfl) ?_
      refine WL_nil ?_
      refine W_ret ?_
      exact ret1 4 (.inr rfl) rfl ⟨rfl, .inl ⟨k, x, rfl, hx, hc, hno⟩⟩
    · refine W_skip ?_
      refine W_region ?_
      refine WL_val rfl rfl rfl (by first | exact rInc rfl rfl rfl (by omega) | exact rAdd rfl rfl rfl (by omega) | exact rAddW rfl rfl rfl) ?_
      refine WL_val rfl rfl rfl (by first | exact rMoveI rfl rfl | exact rMove rfl) ?_
      refine WL_nil ?_
      refine ⟨⟨k + 1, by omega, ⟨rfl, rfl, rfl, rfl, trivial⟩, ?_, rfl⟩, by show m - ((k + 1 : Nat) : Int).toNat < m - (k : Int).toNat; omega⟩
      rw [take_next hx]
      intro y hy
      rcases List.mem_append.1 hy with hy | hy
      · exact hno y hy
      · rw [List.mem_singleton.1 hy]; exact hc
  · refine W_seq ?_
    refine W_region ?_
    refine WL_val rfl rfl rfl (by first | exact rLssT rfl rfl rfl (by omega) | exact rLssF rfl rfl rfl (by omega) | exact rLss rfl rfl rfl) ?_
    refine WL_nil ?_
    refine W_seq ?_
    refine W_cond false rfl ?_
    refine W_exit ?_
    refine W_seq ?_
    refine W_region ?_
    refine WL_val rfl rfl rfl (by first | exact rAsgnI rfl rfl | exact rAsgn rfl) ?_
    refine WL_nil ?_
    refine W_ret ?_
    refine ret1 4 (.inr rfl) rfl ⟨rfl, .inr ⟨rfl, ?_⟩⟩
    rwa [List.take_of_length_le (by omega)] at hno
end Go.Proofs.YtlnjmkldpicpdaaDoor
