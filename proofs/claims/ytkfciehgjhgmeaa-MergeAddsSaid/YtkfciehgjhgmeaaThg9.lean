/- merge: things made of numbers. -/
import Derived.Test.YtkfciehgjhgmeaaThg3
import Derived.Test.YtkfciehgjhgmeaaMrg4
namespace Go.Proofs.Ytkfciehgjhgmeaa
open Go.RowKit
set_option linter.unusedVariables false
set_option linter.unusedSimpArgs false
/-- Tags of three places, none above m. -/
def Own3 (m : Int) (T : Tag → Option Int) (G : Tag → Bool) : Prop := ∀ k, (T k).isSome = true ∨ G k = true → 0 ≤ k.1 ∧ k.1 < 3 ∧ 1 ≤ k.2 ∧ k.2 ≤ m
theorem Own3.nil : Own3 0 (fun _ => none) (fun _ => false) := fun k hk => by rcases hk with hk | hk <;> simp at hk
theorem Own3.mono {m m' : Int} {T : Tag → Option Int} {G : Tag → Bool} (h : Own3 m T G) (hm : m ≤ m') : Own3 m' T G := fun k hk => by have := h k hk; omega
theorem Own3.drop {m : Int} {T : Tag → Option Int} {G : Tag → Bool} (h : Own3 m T G) (x : Int) : Own3 m (dropT T x) (dropG T G x) := fun k hk => by
  refine h k ?_
  rcases hk with hk | hk
  · unfold dropT at hk
    split at hk
    · cases hk
    · exact .inl hk
  · unfold dropG at hk
    rw [Bool.or_eq_true, decide_eq_true_eq] at hk
    rcases hk with hk | hk
    · exact .inr hk
    · exact .inl (by rw [hk]; rfl)
theorem Own3.put {m n p x : Int} {T : Tag → Option Int} {G : Tag → Bool} (h : Own3 m T G) (hp : 0 ≤ p ∧ p < 3) (h0 : 0 ≤ n) (hn : n ≤ m) : Own3 (m + 1) (putT T (p, n + 1) x) G := fun k hk => by
  by_cases hka : k = (p, n + 1)
  · rw [hka]; exact ⟨hp.1, hp.2, by show 1 ≤ n + 1; omega, by show n + 1 ≤ m + 1; omega⟩
  · have := h k (hk.imp (fun hk => by
      unfold putT at hk
      rw [if_neg hka] at hk
      exact hk) id)
    omega
set_option maxHeartbeats 4000000 in
theorem things_any (A : Option Addr) (n c : Nat) (l : List Int) (D : Nat → Prop) (w0 : World) (h : Ints w0 D (.slice A n c) l) (hl : l.length = n) :
    Calls Try.prog 15 #[.slice A n c] w0 fun en w' => ∃ (A1 B1 : Option Nat) (T : Tag → Option Int) (G : Tag → Bool), en = .returned (thV A1 B1) ∧ Own3 30 T G ∧ Inv (fun _ => False) w0 w' [ThE A1 B1 T G] := by
  have hI := Inv.start (fun _ => False) w0
  refine calls_of_W (N := Try.f15.ntmps) Try.func15 rfl rfl rfl ?_
  refine W_seq ?_
  refine W_region ?_
  refine WL_alloc (u := .agg #[.map none, .map none]) (vs := #[.map none, .map none]) hI rfl rfl rfl rfl (by kernel_rfl) rfl ?_
  clear hI; rintro b2 w - - hI
  refine WL_nil ?_
  refine W_seq ?_
  refine W_region ?_
  refine WL_alloc (u := .agg #[.map none, .map none]) (vs := #[.map none, .map none]) hI rfl rfl rfl rfl (by kernel_rfl) rfl ?_
  clear hI; rintro b3 w - - hI
  refine WL_nil ?_
  refine W_seq ?_
  refine W_seq ?_
  refine W_region ?_
  refine WL_val rfl rfl rfl (by first | exact rAsgnI rfl rfl | exact rAsgn rfl) ?_
  refine WL_nil ?_
  refine W_block ?_
  replace hI := hI.fresh (Pure.refl _) (e := ThE none none (fun _ => none) (fun _ => false)) (Ent.mk_ok ⟨rfl, rfl⟩ (fun k hk => by rcases hk with hk | hk <;> cases hk) (fun _ _ _ _ _ h => ⟨rfl, rfl⟩)) (fun k hk => by rcases hk with hk | hk <;> cases hk)
  refine W_loopN (fun mu ρ w => ∃ (k : Nat) (A1 B1 : Option Nat) (T : Tag → Option Int) (G : Tag → Bool), mu = 30 - k ∧ k ≤ 30 ∧ Own3 (k : Int) T G ∧ Has ρ [(4, .int .i64 (k : Int)), (0, .slice A n c), (2, .pointer (some ⟨b2, 0, none⟩)), (3, .pointer (some ⟨b3, 0, none⟩))] ∧ Inv (fun _ => False) w0 w [ThE A1 B1 T G, B b3 36 #[.map A1, .map B1], B b2 36 #[.map none, .map none]]) 30
    ⟨0, none, none, (fun _ => none), (fun _ => false), rfl, by omega, Own3.nil, ⟨rfl, rfl, rfl, rfl, trivial⟩, hI⟩ ?_
  clear hI
  rintro mu ρ w ⟨k, A1, B1, T, G, rfl, hk, hO, hH, hI⟩
  obtain ⟨σ, rfl⟩ := hH.open
  have hdone : ∀ w, Inv (fun _ => False) w0 w [ThE A1 B1 T G, B b3 36 #[.map A1, .map B1], B b2 36 #[.map A1, .map B1]] → Inv (fun _ => False) w0 w [ThE A1 B1 T G] := fun w h => h.d1.d1
  by_cases hkn : k < n ∧ k < 30
  · obtain ⟨h1, h2⟩ := hkn
    refine W_seq ?_
    refine W_seq ?_
    refine W_region ?_
    refine WL_val rfl rfl rfl (by first | exact rMoveI rfl rfl | exact rMove rfl) ?_
    refine WL_val rfl rfl rfl (by first | exact rMoveS rfl rfl | exact rMove rfl) ?_
    refine WL_val rfl rfl rfl (rLen rfl Try.underlying22 rfl) ?_
    refine WL_val rfl rfl rfl (by first | exact rLssT rfl rfl rfl (by omega) | exact rLssF rfl rfl rfl (by omega) | exact rLss rfl rfl rfl) ?_
    refine WL_val rfl rfl rfl (by first | exact rMoveB rfl rfl | exact rMove rfl) ?_
    first | refine WL_val rfl rfl rfl (by first | exact rMoveI rfl rfl | exact rMove rfl) ?_ | refine WL_skip rfl rfl rfl ?_
    first | refine WL_val rfl rfl rfl (by first | exact rLssT rfl rfl rfl (by omega) | exact rLssF rfl rfl rfl (by omega) | exact rLss rfl rfl rfl) ?_ | refine WL_skip rfl rfl rfl ?_
    refine WL_val rfl rfl rfl (by first | exact rPickTB rfl rfl rfl | exact rPickFB rfl rfl rfl | exact rPickB rfl rfl rfl rfl) ?_
    refine WL_nil ?_
    refine W_cond true rfl ?_
    refine W_skip ?_
    obtain ⟨bA, oA, rfl, hu⟩ := h.at (show k < l.length by omega)
    refine W_seq ?_
    refine W_block ?_
    have hx := pickN_lt (IntKind.i64.wrap ((l.getD k 0).tdiv 16)) (n := 6) (by omega)
    refine W_seq ?_
    refine W_region ?_
    refine WL_val rfl rfl rfl (by first | exact rMoveS rfl rfl | exact rMove rfl) ?_
    refine WL_val rfl rfl rfl (by first | exact rMoveI rfl rfl | exact rMove rfl) ?_
    refine WL_val rfl rfl rfl (by first | exact rIdx0 rfl Try.underlying22 (by kernel_rfl) rfl rfl rfl (by omega) | exact rIdx1 rfl Try.underlying22 (by kernel_rfl) rfl rfl (by omega)) ?_
    refine WL_val rfl rfl rfl (by first | exact rLd (v := .int .i64 _) rfl (by kernel_rfl) rfl (by first | exact hI.c0 rfl | exact hI.c1 rfl | exact hI.c2 rfl | exact hI.oldp hu | exact hu) | exact rLd rfl (by kernel_rfl) rfl (by first | exact hI.c0 rfl | exact hI.c1 rfl | exact hI.c2 rfl | exact hI.oldp hu | exact hu)) ?_
    refine WL_val rfl rfl rfl (rQuoW rfl rfl rfl (by omega)) ?_
    refine WL_call rfl rfl rfl (rCall (vs := [.int .i64 _, .int .i64 _]) rfl Try.func11 rfl rfl rfl) ?_
    refine (pick_any _ 6 _ (by omega) (by omega)).mono ?_
    rintro e w1 ⟨rfl, rfl⟩
    refine ⟨_, rfl, ?_⟩
    refine WL_val rfl rfl rfl (by first | exact rAsgnI rfl rfl | exact rAsgn rfl) ?_
    refine WL_nil ?_
    generalize pickN (IntKind.i64.wrap ((l.getD k 0).tdiv 16)) 6 = x at hx
    obtain ⟨z, hz⟩ : ∃ z, pickN (l.getD k 0) 4 = z := ⟨_, rfl⟩
    by_cases hz0 : z = 0
    · refine W_seq ?_
      refine W_seq ?_
      refine W_region ?_
      refine WL_val rfl rfl rfl (by first | exact rMoveS rfl rfl | exact rMove rfl) ?_
      refine WL_val rfl rfl rfl (by first | exact rMoveI rfl rfl | exact rMove rfl) ?_
      refine WL_val rfl rfl rfl (by first | exact rIdx0 rfl Try.underlying22 (by kernel_rfl) rfl rfl rfl (by omega) | exact rIdx1 rfl Try.underlying22 (by kernel_rfl) rfl rfl (by omega)) ?_
      refine WL_val rfl rfl rfl (by first | exact rLd (v := .int .i64 _) rfl (by kernel_rfl) rfl (by first | exact hI.c0 rfl | exact hI.c1 rfl | exact hI.c2 rfl | exact hI.oldp hu | exact hu) | exact rLd rfl (by kernel_rfl) rfl (by first | exact hI.c0 rfl | exact hI.c1 rfl | exact hI.c2 rfl | exact hI.oldp hu | exact hu)) ?_
      refine WL_call rfl rfl rfl (rCall (vs := [.int .i64 _, .int .i64 _]) rfl Try.func11 rfl rfl rfl) ?_
      refine (pick_any _ 4 _ (by omega) (by omega)).mono ?_
      rintro e w1 ⟨rfl, rfl⟩
      rw [hz]
      refine ⟨_, rfl, ?_⟩
      refine WL_val rfl rfl rfl (by first | exact rEqlT rfl rfl rfl (by omega) | exact rEqlF rfl rfl rfl (by omega) | exact rEql rfl rfl rfl) ?_
      refine WL_nil ?_
      refine W_cond true rfl ?_
      refine W_seq ?_
      refine W_region ?_
      refine WL_val rfl rfl rfl (by first | exact rLdB (n := 2) rfl (by kernel_rfl) (by kernel_rfl) rfl rfl hI.g0 | exact rLdB (n := 2) rfl (by kernel_rfl) (by kernel_rfl) rfl rfl hI.g1 | exact rLdB (n := 2) rfl (by kernel_rfl) (by kernel_rfl) rfl rfl hI.g2 | exact rLd2 rfl (by kernel_rfl) (by kernel_rfl) rfl (by first | exact hI.c0 rfl | exact hI.c1 rfl | exact hI.c2 rfl) (by first | exact hI.c0 rfl | exact hI.c1 rfl | exact hI.c2 rfl)) ?_
      refine WL_val rfl rfl rfl (by first | exact rMoveI rfl rfl | exact rMove rfl) ?_
      refine WL_call rfl rfl rfl (rCall (vs := [.agg _, .int .i64 _]) rfl Try.func12 rfl rfl rfl) ?_
      refine (dropTh_any A1 B1 T G (x : Int) _ hI.g0).mono ?_
      rintro e w1 ⟨A2, B2, rfl, hJ⟩
      refine ⟨_, rfl, ?_⟩
      replace hI := hI.app1 hJ
      first | refine WL_stw0 (u := .agg _) (vs := #[_, _]) (n := 2) hI rfl rfl rfl rfl rfl rfl (by kernel_rfl) rfl rfl rfl ?_ | refine WL_stw1 (u := .agg _) (vs := #[_, _]) (n := 2) hI rfl rfl rfl rfl rfl rfl (by kernel_rfl) rfl rfl rfl ?_ | refine WL_stw2 (u := .agg _) (vs := #[_, _]) (n := 2) hI rfl rfl rfl rfl rfl rfl (by kernel_rfl) rfl rfl rfl ?_
      clear hI; intro w hI
      refine WL_nil ?_
      refine W_exit ?_
      refine W_region ?_
      refine WL_val rfl rfl rfl (by first | exact rMoveI rfl rfl | exact rMove rfl) ?_
      refine WL_val rfl rfl rfl (by first | exact rInc rfl rfl rfl (by omega) | exact rAdd rfl rfl rfl (by omega) | exact rAddW rfl rfl rfl) ?_
      refine WL_val rfl rfl rfl (by first | exact rAsgnI rfl rfl | exact rAsgn rfl) ?_
      refine WL_nil ?_
      exact ⟨30 - (k + 1), by omega, k + 1, A2, B2, dropT T x, dropG T G x, rfl, by omega, (hO.drop x).mono (by omega), ⟨rfl, rfl, rfl, rfl, trivial⟩, hI.d1⟩
    · refine W_seq ?_
      refine W_seq ?_
      refine W_region ?_
      refine WL_val rfl rfl rfl (by first | exact rMoveS rfl rfl | exact rMove rfl) ?_
      refine WL_val rfl rfl rfl (by first | exact rMoveI rfl rfl | exact rMove rfl) ?_
      refine WL_val rfl rfl rfl (by first | exact rIdx0 rfl Try.underlying22 (by kernel_rfl) rfl rfl rfl (by omega) | exact rIdx1 rfl Try.underlying22 (by kernel_rfl) rfl rfl (by omega)) ?_
      refine WL_val rfl rfl rfl (by first | exact rLd (v := .int .i64 _) rfl (by kernel_rfl) rfl (by first | exact hI.c0 rfl | exact hI.c1 rfl | exact hI.c2 rfl | exact hI.oldp hu | exact hu) | exact rLd rfl (by kernel_rfl) rfl (by first | exact hI.c0 rfl | exact hI.c1 rfl | exact hI.c2 rfl | exact hI.oldp hu | exact hu)) ?_
      refine WL_call rfl rfl rfl (rCall (vs := [.int .i64 _, .int .i64 _]) rfl Try.func11 rfl rfl rfl) ?_
      refine (pick_any _ 4 _ (by omega) (by omega)).mono ?_
      rintro e w1 ⟨rfl, rfl⟩
      rw [hz]
      refine ⟨_, rfl, ?_⟩
      refine WL_val rfl rfl rfl (by first | exact rEqlT rfl rfl rfl (by omega) | exact rEqlF rfl rfl rfl (by omega) | exact rEql rfl rfl rfl) ?_
      refine WL_nil ?_
      refine W_cond false rfl ?_
      refine W_skip ?_
      have hp := pickN_lt (IntKind.i64.wrap ((l.getD k 0).tdiv 4)) (n := 3) (by omega)
      obtain ⟨p, hpe⟩ : ∃ p, pickN (IntKind.i64.wrap ((l.getD k 0).tdiv 4)) 3 = p := ⟨_, rfl⟩
      rw [hpe] at hp
      refine W_seq ?_
      refine W_draw (by kernel_rfl) ?_
      refine WA_inv (T := []) hI.drew ?_
      intro Sx hSx hXS
      replace hI := hI.drew
      refine WT_take 0 rfl rfl (by kernel_rfl) (hXS _ hI) rfl (fun W hW => have hI := hSx W hW; (by first | exact rLdB (n := 2) rfl (by kernel_rfl) (by kernel_rfl) rfl rfl hI.g0 | exact rLdB (n := 2) rfl (by kernel_rfl) (by kernel_rfl) rfl rfl hI.g1 | exact rLdB (n := 2) rfl (by kernel_rfl) (by kernel_rfl) rfl rfl hI.g2 | exact rLdB (n := 2) rfl (by kernel_rfl) (by kernel_rfl) rfl rfl hI.g3 | exact rLd2 rfl (by kernel_rfl) (by kernel_rfl) rfl (by first | exact hI.c0 rfl | exact hI.c1 rfl | exact hI.c2 rfl | exact hI.c3 rfl | exact hI.oldp hu | exact hu) (by first | exact hI.c0 rfl | exact hI.c1 rfl | exact hI.c2 rfl | exact hI.c3 rfl | exact hI.oldp hu | exact hu))) ?_
      refine WT_take 1 rfl rfl (by kernel_rfl) (hXS _ hI) rfl (fun W hW => have hI := hSx W hW; (by first | exact rMoveS rfl rfl | exact rMove rfl)) ?_
      refine WT_take 2 rfl rfl (by kernel_rfl) (hXS _ hI) rfl (fun W hW => have hI := hSx W hW; (by first | exact rMoveI rfl rfl | exact rMove rfl)) ?_
      refine WT_take 3 rfl rfl (by kernel_rfl) (hXS _ hI) rfl (fun W hW => have hI := hSx W hW; (by first | exact rIdx0 rfl Try.underlying22 (by kernel_rfl) rfl rfl rfl (by omega) | exact rIdx1 rfl Try.underlying22 (by kernel_rfl) rfl rfl (by omega))) ?_
      refine WT_take 4 rfl rfl (by kernel_rfl) (hXS _ hI) rfl (fun W hW => have hI := hSx W hW; (by first | exact rLd (v := .int .i64 _) rfl (by kernel_rfl) rfl (by first | exact hI.c0 rfl | exact hI.c1 rfl | exact hI.c2 rfl | exact hI.c3 rfl | exact hI.oldp hu | exact hu) | exact rLd rfl (by kernel_rfl) rfl (by first | exact hI.c0 rfl | exact hI.c1 rfl | exact hI.c2 rfl | exact hI.c3 rfl | exact hI.oldp hu | exact hu))) ?_
      refine WT_take 5 rfl rfl (by kernel_rfl) (hXS _ hI) rfl (fun W hW => have hI := hSx W hW; (rQuoW rfl rfl rfl (by omega))) ?_
      refine WT_take 7 rfl rfl (by kernel_rfl) (hXS _ hI) rfl (fun W hW => have hI := hSx W hW; (by first | exact rMoveI rfl rfl | exact rMove rfl)) ?_
      refine WT_two 6 12 rfl rfl (by kernel_rfl) rfl rfl ?_ ?_
      · refine WL_call rfl rfl rfl (rCall (vs := [.int .i64 _, .int .i64 _]) rfl Try.func11 rfl rfl rfl) ?_
        refine (pick_any _ 3 _ (by omega) (by omega)).mono ?_
        rintro e w1 ⟨rfl, rfl⟩
        rw [hpe]
        refine ⟨_, rfl, ?_⟩
        refine WL_nil ⟨hXS _ hI, ?_⟩
        refine WT_two 8 12 rfl rfl (by kernel_rfl) rfl rfl ?_ ?_
        · refine WL_call rfl rfl rfl (rCall (vs := [.agg _, .int .i64 _, .int .i64 _]) rfl Try.func13 rfl rfl rfl) ?_
          refine (putTh_any A1 B1 T G (p : Int) (x : Int) (k : Int) _ (by first | exact hI.g0 | exact hI.g1) ⟨by omega, by omega, by omega, by omega⟩ ⟨by omega, by omega⟩ (fun key hk _ => (hO key hk).2.2.2)).mono ?_
          rintro e w1 ⟨A2, B2, n', hn0, hnm, hall, rfl, hJ⟩
          refine ⟨_, rfl, ?_⟩
          replace hI := hI.app1 hJ
          refine WL_nil ⟨hXS _ hI.d0, ?_⟩
          refine WT_take 9 rfl rfl (by kernel_rfl) (hXS _ hI.d0) rfl (fun W hW => have hI := hSx W hW; (by first | exact rMoveT rfl rfl | exact rMove rfl)) ?_
          refine WT_take 10 rfl rfl (by kernel_rfl) (hXS _ hI.d0) rfl (fun W hW => have hI := hSx W hW; (rExtr rfl rfl rfl)) ?_
          refine WT_take 11 rfl rfl (by kernel_rfl) (hXS _ hI.d0) rfl (fun W hW => have hI := hSx W hW; (rExtr rfl rfl rfl)) ?_
          refine WT_one 12 rfl (by kernel_rfl) rfl ?_
          refine WL_alloc (u := .agg #[.map none, .map none]) (vs := #[.map none, .map none]) hI rfl rfl rfl rfl (by kernel_rfl) rfl ?_
          clear hI; rintro b6 w - - hI
          refine WL_nil ⟨hXS _ hI.d0.d0, ?_⟩
          refine WT_one 13 rfl (by kernel_rfl) rfl ?_
          first | refine WL_stw0 (u := .agg _) (vs := #[_, _]) (n := 2) hI rfl rfl rfl rfl rfl rfl (by kernel_rfl) rfl rfl rfl ?_ | refine WL_stw1 (u := .agg _) (vs := #[_, _]) (n := 2) hI rfl rfl rfl rfl rfl rfl (by kernel_rfl) rfl rfl rfl ?_ | refine WL_stw2 (u := .agg _) (vs := #[_, _]) (n := 2) hI rfl rfl rfl rfl rfl rfl (by kernel_rfl) rfl rfl rfl ?_ | refine WL_stw3 (u := .agg _) (vs := #[_, _]) (n := 2) hI rfl rfl rfl rfl rfl rfl (by kernel_rfl) rfl rfl rfl ?_
          clear hI; intro w hI
          refine WL_nil ⟨hXS _ hI.d0.d0, ?_⟩
          refine WT_take 14 rfl rfl (by kernel_rfl) (hXS _ hI.d0.d0) rfl (fun W hW => have hI := hSx W hW; (by first | exact rAsgnN rfl rfl | exact rAsgnE rfl rfl | exact rAsgn rfl)) ?_
          refine WT_end (by kernel_rfl) ?_
          refine W_seq ?_
          refine W_region ?_
          refine WL_val rfl rfl rfl (by first | exact rMoveN rfl rfl | exact rMoveE rfl rfl | exact rMove rfl) ?_
          refine WL_val rfl rfl rfl (by first | exact rIfaceEq rfl Try.underlying40 rfl rfl | exact rNilEq rfl Try.underlying40 rfl) ?_
          refine WL_nil ?_
          refine W_cond true rfl ?_
          refine W_region ?_
          refine WL_val rfl rfl rfl (by first | exact rLdB (n := 2) rfl (by kernel_rfl) (by kernel_rfl) rfl rfl hI.g0 | exact rLdB (n := 2) rfl (by kernel_rfl) (by kernel_rfl) rfl rfl hI.g1 | exact rLdB (n := 2) rfl (by kernel_rfl) (by kernel_rfl) rfl rfl hI.g2 | exact rLdB (n := 2) rfl (by kernel_rfl) (by kernel_rfl) rfl rfl hI.g3 | exact rLdB (n := 2) rfl (by kernel_rfl) (by kernel_rfl) rfl rfl hI.g4 | exact rLd2 rfl (by kernel_rfl) (by kernel_rfl) rfl (by first | exact hI.c0 rfl | exact hI.c1 rfl | exact hI.c2 rfl | exact hI.c3 rfl | exact hI.c4 rfl) (by first | exact hI.c0 rfl | exact hI.c1 rfl | exact hI.c2 rfl | exact hI.c3 rfl | exact hI.c4 rfl)) ?_
          first | refine WL_stw0 (u := .agg _) (vs := #[_, _]) (n := 2) hI rfl rfl rfl rfl rfl rfl (by kernel_rfl) rfl rfl rfl ?_ | refine WL_stw1 (u := .agg _) (vs := #[_, _]) (n := 2) hI rfl rfl rfl rfl rfl rfl (by kernel_rfl) rfl rfl rfl ?_ | refine WL_stw2 (u := .agg _) (vs := #[_, _]) (n := 2) hI rfl rfl rfl rfl rfl rfl (by kernel_rfl) rfl rfl rfl ?_ | refine WL_stw3 (u := .agg _) (vs := #[_, _]) (n := 2) hI rfl rfl rfl rfl rfl rfl (by kernel_rfl) rfl rfl rfl ?_ | refine WL_stw4 (u := .agg _) (vs := #[_, _]) (n := 2) hI rfl rfl rfl rfl rfl rfl (by kernel_rfl) rfl rfl rfl ?_
          clear hI; intro w hI
          refine WL_nil ?_
          refine W_region ?_
          refine WL_val rfl rfl rfl (by first | exact rMoveI rfl rfl | exact rMove rfl) ?_
          refine WL_val rfl rfl rfl (by first | exact rInc rfl rfl rfl (by omega) | exact rAdd rfl rfl rfl (by omega) | exact rAddW rfl rfl rfl) ?_
          refine WL_val rfl rfl rfl (by first | exact rAsgnI rfl rfl | exact rAsgn rfl) ?_
          refine WL_nil ?_
          exact ⟨30 - (k + 1), by omega, k + 1, A2, B2, putT T ((p : Int), n' + 1) x, G, rfl, by omega, hO.put (by omega) hn0 hnm, ⟨rfl, rfl, rfl, rfl, trivial⟩, by first | exact hI.d0.d1 | exact hI.d1.d1⟩
        · refine WL_alloc (u := .agg #[.map none, .map none]) (vs := #[.map none, .map none]) hI rfl rfl rfl rfl (by kernel_rfl) rfl ?_
          clear hI; rintro b6 w - - hI
          refine WL_nil ⟨hXS _ hI.d0, ?_⟩
          refine WT_one 8 rfl (by kernel_rfl) rfl ?_
          refine WL_call rfl rfl rfl (rCall (vs := [.agg _, .int .i64 _, .int .i64 _]) rfl Try.func13 rfl rfl rfl) ?_
          refine (putTh_any A1 B1 T G (p : Int) (x : Int) (k : Int) _ (by first | exact hI.g0 | exact hI.g1) ⟨by omega, by omega, by omega, by omega⟩ ⟨by omega, by omega⟩ (fun key hk _ => (hO key hk).2.2.2)).mono ?_
          rintro e w1 ⟨A2, B2, n', hn0, hnm, hall, rfl, hJ⟩
          refine ⟨_, rfl, ?_⟩
          replace hI := hI.app1 hJ
          refine WL_nil ⟨hXS _ hI.d0.d0, ?_⟩
          refine WT_take 9 rfl rfl (by kernel_rfl) (hXS _ hI.d0.d0) rfl (fun W hW => have hI := hSx W hW; (by first | exact rMoveT rfl rfl | exact rMove rfl)) ?_
          refine WT_take 10 rfl rfl (by kernel_rfl) (hXS _ hI.d0.d0) rfl (fun W hW => have hI := hSx W hW; (rExtr rfl rfl rfl)) ?_
          refine WT_take 11 rfl rfl (by kernel_rfl) (hXS _ hI.d0.d0) rfl (fun W hW => have hI := hSx W hW; (rExtr rfl rfl rfl)) ?_
          refine WT_one 13 rfl (by kernel_rfl) rfl ?_
          first | refine WL_stw0 (u := .agg _) (vs := #[_, _]) (n := 2) hI rfl rfl rfl rfl rfl rfl (by kernel_rfl) rfl rfl rfl ?_ | refine WL_stw1 (u := .agg _) (vs := #[_, _]) (n := 2) hI rfl rfl rfl rfl rfl rfl (by kernel_rfl) rfl rfl rfl ?_ | refine WL_stw2 (u := .agg _) (vs := #[_, _]) (n := 2) hI rfl rfl rfl rfl rfl rfl (by kernel_rfl) rfl rfl rfl ?_ | refine WL_stw3 (u := .agg _) (vs := #[_, _]) (n := 2) hI rfl rfl rfl rfl rfl rfl (by kernel_rfl) rfl rfl rfl ?_
          clear hI; intro w hI
          refine WL_nil ⟨hXS _ hI.d0.d0, ?_⟩
          refine WT_take 14 rfl rfl (by kernel_rfl) (hXS _ hI.d0.d0) rfl (fun W hW => have hI := hSx W hW; (by first | exact rAsgnN rfl rfl | exact rAsgnE rfl rfl | exact rAsgn rfl)) ?_
          refine WT_end (by kernel_rfl) ?_
          refine W_seq ?_
          refine W_region ?_
          refine WL_val rfl rfl rfl (by first | exact rMoveN rfl rfl | exact rMoveE rfl rfl | exact rMove rfl) ?_
          refine WL_val rfl rfl rfl (by first | exact rIfaceEq rfl Try.underlying40 rfl rfl | exact rNilEq rfl Try.underlying40 rfl) ?_
          refine WL_nil ?_
          refine W_cond true rfl ?_
          refine W_region ?_
          refine WL_val rfl rfl rfl (by first | exact rLdB (n := 2) rfl (by kernel_rfl) (by kernel_rfl) rfl rfl hI.g0 | exact rLdB (n := 2) rfl (by kernel_rfl) (by kernel_rfl) rfl rfl hI.g1 | exact rLdB (n := 2) rfl (by kernel_rfl) (by kernel_rfl) rfl rfl hI.g2 | exact rLdB (n := 2) rfl (by kernel_rfl) (by kernel_rfl) rfl rfl hI.g3 | exact rLdB (n := 2) rfl (by kernel_rfl) (by kernel_rfl) rfl rfl hI.g4 | exact rLd2 rfl (by kernel_rfl) (by kernel_rfl) rfl (by first | exact hI.c0 rfl | exact hI.c1 rfl | exact hI.c2 rfl | exact hI.c3 rfl | exact hI.c4 rfl) (by first | exact hI.c0 rfl | exact hI.c1 rfl | exact hI.c2 rfl | exact hI.c3 rfl | exact hI.c4 rfl)) ?_
          first | refine WL_stw0 (u := .agg _) (vs := #[_, _]) (n := 2) hI rfl rfl rfl rfl rfl rfl (by kernel_rfl) rfl rfl rfl ?_ | refine WL_stw1 (u := .agg _) (vs := #[_, _]) (n := 2) hI rfl rfl rfl rfl rfl rfl (by kernel_rfl) rfl rfl rfl ?_ | refine WL_stw2 (u := .agg _) (vs := #[_, _]) (n := 2) hI rfl rfl rfl rfl rfl rfl (by kernel_rfl) rfl rfl rfl ?_ | refine WL_stw3 (u := .agg _) (vs := #[_, _]) (n := 2) hI rfl rfl rfl rfl rfl rfl (by kernel_rfl) rfl rfl rfl ?_ | refine WL_stw4 (u := .agg _) (vs := #[_, _]) (n := 2) hI rfl rfl rfl rfl rfl rfl (by kernel_rfl) rfl rfl rfl ?_
          clear hI; intro w hI
          refine WL_nil ?_
          refine W_region ?_
          refine WL_val rfl rfl rfl (by first | exact rMoveI rfl rfl | exact rMove rfl) ?_
          refine WL_val rfl rfl rfl (by first | exact rInc rfl rfl rfl (by omega) | exact rAdd rfl rfl rfl (by omega) | exact rAddW rfl rfl rfl) ?_
          refine WL_val rfl rfl rfl (by first | exact rAsgnI rfl rfl | exact rAsgn rfl) ?_
          refine WL_nil ?_
          exact ⟨30 - (k + 1), by omega, k + 1, A2, B2, putT T ((p : Int), n' + 1) x, G, rfl, by omega, hO.put (by omega) hn0 hnm, ⟨rfl, rfl, rfl, rfl, trivial⟩, by first | exact hI.d0.d1 | exact hI.d1.d1⟩
      · refine WL_alloc (u := .agg #[.map none, .map none]) (vs := #[.map none, .map none]) hI rfl rfl rfl rfl (by kernel_rfl) rfl ?_
        clear hI; rintro b6 w - - hI
        refine WL_nil ⟨hXS _ hI.d0, ?_⟩
        refine WT_one 6 rfl (by kernel_rfl) rfl ?_
        refine WL_call rfl rfl rfl (rCall (vs := [.int .i64 _, .int .i64 _]) rfl Try.func11 rfl rfl rfl) ?_
        refine (pick_any _ 3 _ (by omega) (by omega)).mono ?_
        rintro e w1 ⟨rfl, rfl⟩
        rw [hpe]
        refine ⟨_, rfl, ?_⟩
        refine WL_nil ⟨hXS _ hI.d0, ?_⟩
        refine WT_one 8 rfl (by kernel_rfl) rfl ?_
        refine WL_call rfl rfl rfl (rCall (vs := [.agg _, .int .i64 _, .int .i64 _]) rfl Try.func13 rfl rfl rfl) ?_
        refine (putTh_any A1 B1 T G (p : Int) (x : Int) (k : Int) _ (by first | exact hI.g0 | exact hI.g1) ⟨by omega, by omega, by omega, by omega⟩ ⟨by omega, by omega⟩ (fun key hk _ => (hO key hk).2.2.2)).mono ?_
        rintro e w1 ⟨A2, B2, n', hn0, hnm, hall, rfl, hJ⟩
        refine ⟨_, rfl, ?_⟩
        replace hI := hI.app1 hJ
        refine WL_nil ⟨hXS _ hI.d0.d0, ?_⟩
        refine WT_take 9 rfl rfl (by kernel_rfl) (hXS _ hI.d0.d0) rfl (fun W hW => have hI := hSx W hW; (by first | exact rMoveT rfl rfl | exact rMove rfl)) ?_
        refine WT_take 10 rfl rfl (by kernel_rfl) (hXS _ hI.d0.d0) rfl (fun W hW => have hI := hSx W hW; (rExtr rfl rfl rfl)) ?_
        refine WT_take 11 rfl rfl (by kernel_rfl) (hXS _ hI.d0.d0) rfl (fun W hW => have hI := hSx W hW; (rExtr rfl rfl rfl)) ?_
        refine WT_one 13 rfl (by kernel_rfl) rfl ?_
        first | refine WL_stw0 (u := .agg _) (vs := #[_, _]) (n := 2) hI rfl rfl rfl rfl rfl rfl (by kernel_rfl) rfl rfl rfl ?_ | refine WL_stw1 (u := .agg _) (vs := #[_, _]) (n := 2) hI rfl rfl rfl rfl rfl rfl (by kernel_rfl) rfl rfl rfl ?_ | refine WL_stw2 (u := .agg _) (vs := #[_, _]) (n := 2) hI rfl rfl rfl rfl rfl rfl (by kernel_rfl) rfl rfl rfl ?_ | refine WL_stw3 (u := .agg _) (vs := #[_, _]) (n := 2) hI rfl rfl rfl rfl rfl rfl (by kernel_rfl) rfl rfl rfl ?_
        clear hI; intro w hI
        refine WL_nil ⟨hXS _ hI.d0.d0, ?_⟩
        refine WT_take 14 rfl rfl (by kernel_rfl) (hXS _ hI.d0.d0) rfl (fun W hW => have hI := hSx W hW; (by first | exact rAsgnN rfl rfl | exact rAsgnE rfl rfl | exact rAsgn rfl)) ?_
        refine WT_end (by kernel_rfl) ?_
        refine W_seq ?_
        refine W_region ?_
        refine WL_val rfl rfl rfl (by first | exact rMoveN rfl rfl | exact rMoveE rfl rfl | exact rMove rfl) ?_
        refine WL_val rfl rfl rfl (by first | exact rIfaceEq rfl Try.underlying40 rfl rfl | exact rNilEq rfl Try.underlying40 rfl) ?_
        refine WL_nil ?_
        refine W_cond true rfl ?_
        refine W_region ?_
        refine WL_val rfl rfl rfl (by first | exact rLdB (n := 2) rfl (by kernel_rfl) (by kernel_rfl) rfl rfl hI.g0 | exact rLdB (n := 2) rfl (by kernel_rfl) (by kernel_rfl) rfl rfl hI.g1 | exact rLdB (n := 2) rfl (by kernel_rfl) (by kernel_rfl) rfl rfl hI.g2 | exact rLdB (n := 2) rfl (by kernel_rfl) (by kernel_rfl) rfl rfl hI.g3 | exact rLdB (n := 2) rfl (by kernel_rfl) (by kernel_rfl) rfl rfl hI.g4 | exact rLd2 rfl (by kernel_rfl) (by kernel_rfl) rfl (by first | exact hI.c0 rfl | exact hI.c1 rfl | exact hI.c2 rfl | exact hI.c3 rfl | exact hI.c4 rfl) (by first | exact hI.c0 rfl | exact hI.c1 rfl | exact hI.c2 rfl | exact hI.c3 rfl | exact hI.c4 rfl)) ?_
        first | refine WL_stw0 (u := .agg _) (vs := #[_, _]) (n := 2) hI rfl rfl rfl rfl rfl rfl (by kernel_rfl) rfl rfl rfl ?_ | refine WL_stw1 (u := .agg _) (vs := #[_, _]) (n := 2) hI rfl rfl rfl rfl rfl rfl (by kernel_rfl) rfl rfl rfl ?_ | refine WL_stw2 (u := .agg _) (vs := #[_, _]) (n := 2) hI rfl rfl rfl rfl rfl rfl (by kernel_rfl) rfl rfl rfl ?_ | refine WL_stw3 (u := .agg _) (vs := #[_, _]) (n := 2) hI rfl rfl rfl rfl rfl rfl (by kernel_rfl) rfl rfl rfl ?_ | refine WL_stw4 (u := .agg _) (vs := #[_, _]) (n := 2) hI rfl rfl rfl rfl rfl rfl (by kernel_rfl) rfl rfl rfl ?_
        clear hI; intro w hI
        refine WL_nil ?_
        refine W_region ?_
        refine WL_val rfl rfl rfl (by first | exact rMoveI rfl rfl | exact rMove rfl) ?_
        refine WL_val rfl rfl rfl (by first | exact rInc rfl rfl rfl (by omega) | exact rAdd rfl rfl rfl (by omega) | exact rAddW rfl rfl rfl) ?_
        refine WL_val rfl rfl rfl (by first | exact rAsgnI rfl rfl | exact rAsgn rfl) ?_
        refine WL_nil ?_
        exact ⟨30 - (k + 1), by omega, k + 1, A2, B2, putT T ((p : Int), n' + 1) x, G, rfl, by omega, hO.put (by omega) hn0 hnm, ⟨rfl, rfl, rfl, rfl, trivial⟩, by first | exact hI.d0.d1 | exact hI.d1.d1⟩
  · by_cases h1 : k < n
    · have h2 : ¬ k < 30 := fun h => hkn ⟨h1, h⟩
      refine W_seq ?_
      refine W_seq ?_
      refine W_region ?_
      refine WL_val rfl rfl rfl (by first | exact rMoveI rfl rfl | exact rMove rfl) ?_
      refine WL_val rfl rfl rfl (by first | exact rMoveS rfl rfl | exact rMove rfl) ?_
      refine WL_val rfl rfl rfl (rLen rfl Try.underlying22 rfl) ?_
      refine WL_val rfl rfl rfl (by first | exact rLssT rfl rfl rfl (by omega) | exact rLssF rfl rfl rfl (by omega) | exact rLss rfl rfl rfl) ?_
      refine WL_val rfl rfl rfl (by first | exact rMoveB rfl rfl | exact rMove rfl) ?_
      first | refine WL_val rfl rfl rfl (by first | exact rMoveI rfl rfl | exact rMove rfl) ?_ | refine WL_skip rfl rfl rfl ?_
      first | refine WL_val rfl rfl rfl (by first | exact rLssT rfl rfl rfl (by omega) | exact rLssF rfl rfl rfl (by omega) | exact rLss rfl rfl rfl) ?_ | refine WL_skip rfl rfl rfl ?_
      refine WL_val rfl rfl rfl (by first | exact rPickTB rfl rfl rfl | exact rPickFB rfl rfl rfl | exact rPickB rfl rfl rfl rfl) ?_
      refine WL_nil ?_
      refine W_cond false rfl ?_
      refine W_exit ?_
      refine W_seq ?_
      refine W_region ?_
      refine WL_val rfl rfl rfl (by first | exact rLdB (n := 2) rfl (by kernel_rfl) (by kernel_rfl) rfl rfl hI.g0 | exact rLdB (n := 2) rfl (by kernel_rfl) (by kernel_rfl) rfl rfl hI.g1 | exact rLdB (n := 2) rfl (by kernel_rfl) (by kernel_rfl) rfl rfl hI.g2 | exact rLd2 rfl (by kernel_rfl) (by kernel_rfl) rfl (by first | exact hI.c0 rfl | exact hI.c1 rfl | exact hI.c2 rfl) (by first | exact hI.c0 rfl | exact hI.c1 rfl | exact hI.c2 rfl)) ?_
      first | refine WL_stw0 (u := .agg _) (vs := #[_, _]) (n := 2) hI rfl rfl rfl rfl rfl rfl (by kernel_rfl) rfl rfl rfl ?_ | refine WL_stw1 (u := .agg _) (vs := #[_, _]) (n := 2) hI rfl rfl rfl rfl rfl rfl (by kernel_rfl) rfl rfl rfl ?_ | refine WL_stw2 (u := .agg _) (vs := #[_, _]) (n := 2) hI rfl rfl rfl rfl rfl rfl (by kernel_rfl) rfl rfl rfl ?_
      clear hI; intro w hI
      refine WL_nil ?_
      refine W_ret ?_
      exact retC (n := 2) (t := 36) (.inr rfl) rfl rfl (by kernel_rfl) (by kernel_rfl) rfl hI.g2 ⟨A1, B1, T, G, rfl, hO.mono (by omega), hdone _ hI⟩
    · refine W_seq ?_
      refine W_seq ?_
      refine W_region ?_
      refine WL_val rfl rfl rfl (by first | exact rMoveI rfl rfl | exact rMove rfl) ?_
      refine WL_val rfl rfl rfl (by first | exact rMoveS rfl rfl | exact rMove rfl) ?_
      refine WL_val rfl rfl rfl (rLen rfl Try.underlying22 rfl) ?_
      refine WL_val rfl rfl rfl (by first | exact rLssT rfl rfl rfl (by omega) | exact rLssF rfl rfl rfl (by omega) | exact rLss rfl rfl rfl) ?_
      refine WL_val rfl rfl rfl (by first | exact rMoveB rfl rfl | exact rMove rfl) ?_
      refine WL_skip rfl rfl rfl ?_
      refine WL_skip rfl rfl rfl ?_
      refine WL_val rfl rfl rfl (by first | exact rPickTB rfl rfl rfl | exact rPickFB rfl rfl rfl | exact rPickB rfl rfl rfl rfl) ?_
      refine WL_nil ?_
      refine W_cond false rfl ?_
      refine W_exit ?_
      refine W_seq ?_
      refine W_region ?_
      refine WL_val rfl rfl rfl (by first | exact rLdB (n := 2) rfl (by kernel_rfl) (by kernel_rfl) rfl rfl hI.g0 | exact rLdB (n := 2) rfl (by kernel_rfl) (by kernel_rfl) rfl rfl hI.g1 | exact rLdB (n := 2) rfl (by kernel_rfl) (by kernel_rfl) rfl rfl hI.g2 | exact rLd2 rfl (by kernel_rfl) (by kernel_rfl) rfl (by first | exact hI.c0 rfl | exact hI.c1 rfl | exact hI.c2 rfl) (by first | exact hI.c0 rfl | exact hI.c1 rfl | exact hI.c2 rfl)) ?_
      first | refine WL_stw0 (u := .agg _) (vs := #[_, _]) (n := 2) hI rfl rfl rfl rfl rfl rfl (by kernel_rfl) rfl rfl rfl ?_ | refine WL_stw1 (u := .agg _) (vs := #[_, _]) (n := 2) hI rfl rfl rfl rfl rfl rfl (by kernel_rfl) rfl rfl rfl ?_ | refine WL_stw2 (u := .agg _) (vs := #[_, _]) (n := 2) hI rfl rfl rfl rfl rfl rfl (by kernel_rfl) rfl rfl rfl ?_
      clear hI; intro w hI
      refine WL_nil ?_
      refine W_ret ?_
      exact retC (n := 2) (t := 36) (.inr rfl) rfl rfl (by kernel_rfl) (by kernel_rfl) rfl hI.g2 ⟨A1, B1, T, G, rfl, hO.mono (by omega), hdone _ hI⟩
end Go.Proofs.Ytkfciehgjhgmeaa
