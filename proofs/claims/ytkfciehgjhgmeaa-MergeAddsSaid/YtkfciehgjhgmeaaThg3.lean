/- merge: sets: Put, Join. -/
import Derived.Test.YtkfciehgjhgmeaaThg2
namespace Go.Proofs.Ytkfciehgjhgmeaa
open Go.RowKit
set_option linter.unusedVariables false
set_option linter.unusedSimpArgs false
def putT (T : Tag → Option Int) (a : Tag) (x : Int) : Tag → Option Int := fun j => if j = a then some x else T j
def PutPost (T : Tag → Option Int) (G : Tag → Bool) (place x m : Int) (w0 : World) (en : Ending) (w' : World) : Prop :=
  ∃ (A B : Option Nat) (n : Int), 0 ≤ n ∧ n ≤ m ∧ (∀ k, (T k).isSome = true ∨ G k = true → k.1 = place → k.2 ≤ n) ∧
    en = .returned (.tuple #[thV A B, .nilIface]) ∧ Inv (fun _ => False) w0 w' [ThE A B (putT T (place, n + 1) x) G]
set_option maxHeartbeats 4000000 in
theorem putTh_any (ta tg : Option Nat) (T : Tag → Option Int) (G : Tag → Bool) (place x m : Int) (w0 : World) (h : ThR w0 ta tg T G) (hm : 0 ≤ place ∧ place < 7 ∧ -1000000 ≤ x ∧ x ≤ 1000000) (hm0 : 0 ≤ m ∧ m ≤ 1000000) (hmx : ∀ k, (T k).isSome = true ∨ G k = true → k.1 = place → k.2 ≤ m) :
    Calls Try.prog 13 #[thV ta tg, .int .i64 place, .int .i64 x] w0 (PutPost T G place x m w0) := by
  have hI := Inv.start (fun _ => False) w0
  refine calls_of_W (N := Try.f13.ntmps) Try.func13 rfl rfl rfl ?_
  refine W_seq ?_
  refine W_region ?_
  refine WL_box (u := .agg _) (vs := #[_, _]) hI rfl rfl rfl rfl rfl rfl ?_
  clear hI; rintro b3 w - - hI
  refine WL_alloc (u := .agg #[.map none, .map none]) (vs := #[.map none, .map none]) hI rfl rfl rfl rfl (by kernel_rfl) rfl ?_
  clear hI; rintro b6 w - - hI
  refine WL_val rfl rfl rfl (by first | exact rAsgnN rfl rfl | exact rAsgnE rfl rfl | exact rAsgn rfl) ?_
  refine WL_nil ?_
  refine W_seq ?_
  refine W_seq ?_
  refine W_region ?_
  refine WL_val rfl rfl rfl (by first | exact rMoveI rfl rfl | exact rMove rfl) ?_
  refine WL_val rfl rfl rfl (by first | exact rMoveI rfl rfl | exact rMove rfl) ?_
  refine WL_call rfl rfl rfl (rCall (vs := [.int .i64 _, .int .i64 _]) rfl Try.func25 rfl rfl rfl) ?_
  refine (may_any place x _ hm).mono ?_
  rintro e w1 ⟨rfl, hp⟩
  refine ⟨_, rfl, ?_⟩
  replace hI := hI.pure hp
  refine WL_val rfl rfl rfl (by first | exact rNotT rfl rfl | exact rNotF rfl rfl | exact rNot rfl rfl) ?_
  refine WL_nil ?_
  refine W_cond false rfl ?_
  refine W_skip ?_
  refine W_seq ?_
  refine W_region ?_
  refine WL_val rfl rfl rfl (by first | exact rAsgnI rfl rfl | exact rAsgn rfl) ?_
  refine WL_nil ?_
  refine W_seq_cut (fun ρ w => ∃ n : Int, 0 ≤ n ∧ n ≤ m ∧ (∀ k, (T k).isSome = true → k.1 = place → k.2 ≤ n) ∧ Has ρ [(8, .int .i64 n), (1, .int .i64 place), (2, .int .i64 x), (3, .pointer (some ⟨b3, 0, none⟩)), (6, .pointer (some ⟨b6, 0, none⟩))] ∧ Inv (fun _ => False) w0 w [B b6 36 #[.map none, .map none], B b3 36 #[.map ta, .map tg]]) ?_ ?_
  · refine W_seq ?_
    refine W_region ?_
    refine WL_val rfl rfl rfl (by first | exact rFldN (off := 0) rfl (by kernel_rfl) rfl | exact rFld0 rfl (by kernel_rfl) rfl) ?_
    refine WL_val rfl rfl rfl (by first | exact rLd (v := .map _) rfl (by kernel_rfl) rfl (by first | exact hI.c0 rfl | exact hI.c1 rfl | exact hI.c2 rfl) | exact rLd rfl (by kernel_rfl) rfl (by first | exact hI.c0 rfl | exact hI.c1 rfl | exact hI.c2 rfl)) ?_
    have hpw := hI.pu
    refine WL_rangeR (h.1.pure hI.pu) hI rfl rfl rfl rfl Try.underlying33 rfl ?_
    clear hI; intro br cnt w hI
    refine WL_nil ?_
    refine W_block ?_
    refine W_loopN (fun mu ρ w => ∃ (wr : World) (left : Tag → Prop) (cur : Option Tag) (n : Int), Pure w0 wr ∧ 0 ≤ n ∧ n ≤ m ∧ (∀ k, ¬ left k → (T k).isSome = true → k.1 = place → k.2 ≤ n) ∧ Has ρ [(20, .pointer (some ⟨br, 0, none⟩)), (8, .int .i64 n), (1, .int .i64 place), (2, .int .i64 x), (3, .pointer (some ⟨b3, 0, none⟩)), (6, .pointer (some ⟨b6, 0, none⟩))] ∧ Inv (fun _ => False) w0 w [RngR okT kT wr ta br (gT T) left mu cur, B b6 36 #[.map none, .map none], B b3 36 #[.map ta, .map tg]]) cnt
      ⟨_, _, _, 0, hpw, by omega, by omega, fun k hk hs => absurd (by rw [gT_is]; exact hs) hk, ⟨rfl, rfl, rfl, rfl, rfl, rfl, trivial⟩, hI⟩ ?_
    clear hI
    rintro mu ρ w ⟨wr, left, cur, n, hpr, hn0, hnm, hall, hH, hI⟩
    obtain ⟨σ, rfl⟩ := hH.open
    refine W_seq ?_
    refine W_region ?_
    refine WL_nextR 0 rfl hI (oldN hI h.1 hpr) rfl rfl rfl rfl rfl (fun hnone => ?_) ?_
    rotate_left
    · clear hI
      rintro a v w hla hga hmu hI
      simp only [List.set_cons_zero] at hI
      obtain ⟨u, hTa, rfl⟩ := gT_some hga
      obtain ⟨p, q⟩ := a
      have hqm : p = place → q ≤ m := fun e => hmx (p, q) (.inl (by rw [hTa]; rfl)) e
      have hnext : ∀ n' : Int, n ≤ n' → (p = place → q ≤ n') → ∀ k, ¬ (left k ∧ k ≠ (p, q)) → (T k).isSome = true → k.1 = place → k.2 ≤ n' := fun n' h1 h2 k hk hs hp => by
        by_cases hka : k = (p, q)
        · subst hka; exact h2 hp
        · exact Int.le_trans (hall k (fun hl => hk ⟨hl, hka⟩) hs hp) h1
      refine WL_val rfl rfl rfl (rExtr rfl rfl rfl) ?_
      refine WL_nil ?_
      refine W_seq ?_
      refine W_cond true rfl ?_
      refine W_skip ?_
      refine W_block ?_
      refine W_seq ?_
      refine W_region ?_
      refine WL_val rfl rfl rfl (rEntryR hga rfl rfl (oldN hI h.1 hpr) hI.g0) ?_
      refine WL_val rfl rfl rfl (rExtr rfl rfl rfl) ?_
      refine WL_alloc (u := .agg #[.int .i64 0, .int .i64 0]) (vs := #[.int .i64 0, .int .i64 0]) hI rfl rfl rfl rfl (by kernel_rfl) rfl ?_
      clear hI; rintro b9 w - - hI
      first | refine WL_stw0 (u := .agg _) (vs := #[_, _]) (n := 2) hI rfl rfl rfl rfl rfl rfl (by kernel_rfl) rfl rfl rfl ?_ | refine WL_stw1 (u := .agg _) (vs := #[_, _]) (n := 2) hI rfl rfl rfl rfl rfl rfl (by kernel_rfl) rfl rfl rfl ?_ | refine WL_stw2 (u := .agg _) (vs := #[_, _]) (n := 2) hI rfl rfl rfl rfl rfl rfl (by kernel_rfl) rfl rfl rfl ?_ | refine WL_stw3 (u := .agg _) (vs := #[_, _]) (n := 2) hI rfl rfl rfl rfl rfl rfl (by kernel_rfl) rfl rfl rfl ?_ | refine WL_stw4 (u := .agg _) (vs := #[_, _]) (n := 2) hI rfl rfl rfl rfl rfl rfl (by kernel_rfl) rfl rfl rfl ?_ | refine WL_stw5 (u := .agg _) (vs := #[_, _]) (n := 2) hI rfl rfl rfl rfl rfl rfl (by kernel_rfl) rfl rfl rfl ?_
      clear hI; intro w hI
      refine WL_nil ?_
      by_cases hp : p = place
      · refine W_seq ?_
        refine W_region ?_
        refine WL_val rfl rfl rfl (by first | exact rFldN (off := 0) rfl (by kernel_rfl) rfl | exact rFld0 rfl (by kernel_rfl) rfl) ?_
        refine WL_val rfl rfl rfl (by first | exact rLd (v := .int .i64 _) rfl (by kernel_rfl) rfl (by first | exact hI.c0 rfl | exact hI.c1 rfl | exact hI.c2 rfl | exact hI.c3 rfl | exact hI.c4 rfl | exact hI.c5 rfl) | exact rLd rfl (by kernel_rfl) rfl (by first | exact hI.c0 rfl | exact hI.c1 rfl | exact hI.c2 rfl | exact hI.c3 rfl | exact hI.c4 rfl | exact hI.c5 rfl)) ?_
        refine WL_val rfl rfl rfl (by first | exact rMoveI rfl rfl | exact rMove rfl) ?_
        refine WL_val rfl rfl rfl (by first | exact rEqlT rfl rfl rfl (by omega) | exact rEqlF rfl rfl rfl (by omega) | exact rEql rfl rfl rfl) ?_
        refine WL_nil ?_
        refine W_cond true rfl ?_
        refine W_region ?_
        refine WL_val rfl rfl rfl (by first | exact rMoveI rfl rfl | exact rMove rfl) ?_
        refine WL_val rfl rfl rfl (by first | exact rFldN (off := 1) rfl (by kernel_rfl) rfl | exact rFld (off := 1) rfl (by kernel_rfl) rfl) ?_
        refine WL_val rfl rfl rfl (by first | exact rLd (v := .int .i64 _) rfl (by kernel_rfl) rfl (by first | exact hI.c0 rfl | exact hI.c1 rfl | exact hI.c2 rfl | exact hI.c3 rfl | exact hI.c4 rfl | exact hI.c5 rfl) | exact rLd rfl (by kernel_rfl) rfl (by first | exact hI.c0 rfl | exact hI.c1 rfl | exact hI.c2 rfl | exact hI.c3 rfl | exact hI.c4 rfl | exact hI.c5 rfl)) ?_
        refine WL_val rfl rfl rfl (rMax rfl rfl rfl) ?_
        refine WL_val rfl rfl rfl (by first | exact rAsgnI rfl rfl | exact rAsgn rfl) ?_
        refine WL_nil ?_
        have hq := hqm hp
        exact ⟨mu - 1, by omega, _, _, _, max n q, hpr, by omega, by omega, hnext _ (by omega) (fun _ => by omega), ⟨rfl, rfl, rfl, rfl, rfl, rfl, trivial⟩, hI.d0⟩
      · refine W_seq ?_
        refine W_region ?_
        refine WL_val rfl rfl rfl (by first | exact rFldN (off := 0) rfl (by kernel_rfl) rfl | exact rFld0 rfl (by kernel_rfl) rfl) ?_
        refine WL_val rfl rfl rfl (by first | exact rLd (v := .int .i64 _) rfl (by kernel_rfl) rfl (by first | exact hI.c0 rfl | exact hI.c1 rfl | exact hI.c2 rfl | exact hI.c3 rfl | exact hI.c4 rfl | exact hI.c5 rfl) | exact rLd rfl (by kernel_rfl) rfl (by first | exact hI.c0 rfl | exact hI.c1 rfl | exact hI.c2 rfl | exact hI.c3 rfl | exact hI.c4 rfl | exact hI.c5 rfl)) ?_
        refine WL_val rfl rfl rfl (by first | exact rMoveI rfl rfl | exact rMove rfl) ?_
        refine WL_val rfl rfl rfl (by first | exact rEqlT rfl rfl rfl (by omega) | exact rEqlF rfl rfl rfl (by omega) | exact rEql rfl rfl rfl) ?_
        refine WL_nil ?_
        refine W_cond false rfl ?_
        refine W_skip ?_
        exact ⟨mu - 1, by omega, _, _, _, n, hpr, by omega, by omega, hnext _ (by omega) (fun e => absurd e hp), ⟨rfl, rfl, rfl, rfl, rfl, rfl, trivial⟩, hI.d0⟩
    refine WL_val rfl rfl rfl (rExtr rfl rfl rfl) ?_
    refine WL_nil ?_
    refine W_seq ?_
    refine W_cond false rfl ?_
    refine W_exit ?_
    exact ⟨n, hn0, hnm, fun k hs hp => hall k (hnone k) hs hp, ⟨rfl, rfl, rfl, rfl, rfl, trivial⟩, hI.d0⟩
  clear hI
  rintro ρ w ⟨n0, hn00, hn0m, hall0, hH, hI⟩
  obtain ⟨σ, rfl⟩ := hH.open
  refine W_seq_cut (fun ρ w => ∃ n : Int, 0 ≤ n ∧ n ≤ m ∧ (∀ k, (T k).isSome = true ∨ G k = true → k.1 = place → k.2 ≤ n) ∧ Has ρ [(8, .int .i64 n), (1, .int .i64 place), (2, .int .i64 x), (3, .pointer (some ⟨b3, 0, none⟩)), (6, .pointer (some ⟨b6, 0, none⟩))] ∧ Inv (fun _ => False) w0 w [B b6 36 #[.map none, .map none], B b3 36 #[.map ta, .map tg]]) ?_ ?_
  · refine W_seq ?_
    refine W_region ?_
    refine WL_val rfl rfl rfl (by first | exact rFldN (off := 1) rfl (by kernel_rfl) rfl | exact rFld (off := 1) rfl (by kernel_rfl) rfl) ?_
    refine WL_val rfl rfl rfl (by first | exact rLd (v := .map _) rfl (by kernel_rfl) rfl (by first | exact hI.c0 rfl | exact hI.c1 rfl | exact hI.c2 rfl) | exact rLd rfl (by kernel_rfl) rfl (by first | exact hI.c0 rfl | exact hI.c1 rfl | exact hI.c2 rfl)) ?_
    have hpw := hI.pu
    refine WL_rangeR (h.2.pure hI.pu) hI rfl rfl rfl rfl Try.underlying34 rfl ?_
    clear hI; intro br cnt w hI
    refine WL_nil ?_
    refine W_block ?_
    refine W_loopN (fun mu ρ w => ∃ (wr : World) (left : Tag → Prop) (cur : Option Tag) (n : Int), Pure w0 wr ∧ n0 ≤ n ∧ n ≤ m ∧ (∀ k, ¬ left k → G k = true → k.1 = place → k.2 ≤ n) ∧ Has ρ [(35, .pointer (some ⟨br, 0, none⟩)), (8, .int .i64 n), (1, .int .i64 place), (2, .int .i64 x), (3, .pointer (some ⟨b3, 0, none⟩)), (6, .pointer (some ⟨b6, 0, none⟩))] ∧ Inv (fun _ => False) w0 w [RngR okT kT wr tg br (gG G) left mu cur, B b6 36 #[.map none, .map none], B b3 36 #[.map ta, .map tg]]) cnt
      ⟨_, _, _, n0, hpw, by omega, by omega, fun k hk hs => absurd (by rw [gG_is]; exact hs) hk, ⟨rfl, rfl, rfl, rfl, rfl, rfl, trivial⟩, hI⟩ ?_
    clear hI
    rintro mu ρ w ⟨wr, left, cur, n, hpr, hn0, hnm, hall, hH, hI⟩
    obtain ⟨σ, rfl⟩ := hH.open
    refine W_seq ?_
    refine W_region ?_
    refine WL_nextR 0 rfl hI (oldN hI h.2 hpr) rfl rfl rfl rfl rfl (fun hnone => ?_) ?_
    rotate_left
    · clear hI
      rintro a v w hla hga hmu hI
      simp only [List.set_cons_zero] at hI
      obtain ⟨hGa, rfl⟩ := gG_some hga
      obtain ⟨p, q⟩ := a
      have hqm : p = place → q ≤ m := fun e => hmx (p, q) (.inr hGa) e
      have hnext : ∀ n' : Int, n ≤ n' → (p = place → q ≤ n') → ∀ k, ¬ (left k ∧ k ≠ (p, q)) → G k = true → k.1 = place → k.2 ≤ n' := fun n' h1 h2 k hk hs hp => by
        by_cases hka : k = (p, q)
        · subst hka; exact h2 hp
        · exact Int.le_trans (hall k (fun hl => hk ⟨hl, hka⟩) hs hp) h1
      refine WL_val rfl rfl rfl (rExtr rfl rfl rfl) ?_
      refine WL_nil ?_
      refine W_seq ?_
      refine W_cond true rfl ?_
      refine W_skip ?_
      refine W_block ?_
      refine W_seq ?_
      refine W_region ?_
      refine WL_val rfl rfl rfl (rEntryR hga rfl rfl (oldN hI h.2 hpr) hI.g0) ?_
      refine WL_val rfl rfl rfl (rExtr rfl rfl rfl) ?_
      refine WL_alloc (u := .agg #[.int .i64 0, .int .i64 0]) (vs := #[.int .i64 0, .int .i64 0]) hI rfl rfl rfl rfl (by kernel_rfl) rfl ?_
      clear hI; rintro b10 w - - hI
      first | refine WL_stw0 (u := .agg _) (vs := #[_, _]) (n := 2) hI rfl rfl rfl rfl rfl rfl (by kernel_rfl) rfl rfl rfl ?_ | refine WL_stw1 (u := .agg _) (vs := #[_, _]) (n := 2) hI rfl rfl rfl rfl rfl rfl (by kernel_rfl) rfl rfl rfl ?_ | refine WL_stw2 (u := .agg _) (vs := #[_, _]) (n := 2) hI rfl rfl rfl rfl rfl rfl (by kernel_rfl) rfl rfl rfl ?_ | refine WL_stw3 (u := .agg _) (vs := #[_, _]) (n := 2) hI rfl rfl rfl rfl rfl rfl (by kernel_rfl) rfl rfl rfl ?_ | refine WL_stw4 (u := .agg _) (vs := #[_, _]) (n := 2) hI rfl rfl rfl rfl rfl rfl (by kernel_rfl) rfl rfl rfl ?_ | refine WL_stw5 (u := .agg _) (vs := #[_, _]) (n := 2) hI rfl rfl rfl rfl rfl rfl (by kernel_rfl) rfl rfl rfl ?_
      clear hI; intro w hI
      refine WL_nil ?_
      by_cases hp : p = place
      · refine W_seq ?_
        refine W_region ?_
        refine WL_val rfl rfl rfl (by first | exact rFldN (off := 0) rfl (by kernel_rfl) rfl | exact rFld0 rfl (by kernel_rfl) rfl) ?_
        refine WL_val rfl rfl rfl (by first | exact rLd (v := .int .i64 _) rfl (by kernel_rfl) rfl (by first | exact hI.c0 rfl | exact hI.c1 rfl | exact hI.c2 rfl | exact hI.c3 rfl | exact hI.c4 rfl | exact hI.c5 rfl) | exact rLd rfl (by kernel_rfl) rfl (by first | exact hI.c0 rfl | exact hI.c1 rfl | exact hI.c2 rfl | exact hI.c3 rfl | exact hI.c4 rfl | exact hI.c5 rfl)) ?_
        refine WL_val rfl rfl rfl (by first | exact rMoveI rfl rfl | exact rMove rfl) ?_
        refine WL_val rfl rfl rfl (by first | exact rEqlT rfl rfl rfl (by omega) | exact rEqlF rfl rfl rfl (by omega) | exact rEql rfl rfl rfl) ?_
        refine WL_nil ?_
        refine W_cond true rfl ?_
        refine W_region ?_
        refine WL_val rfl rfl rfl (by first | exact rMoveI rfl rfl | exact rMove rfl) ?_
        refine WL_val rfl rfl rfl (by first | exact rFldN (off := 1) rfl (by kernel_rfl) rfl | exact rFld (off := 1) rfl (by kernel_rfl) rfl) ?_
        refine WL_val rfl rfl rfl (by first | exact rLd (v := .int .i64 _) rfl (by kernel_rfl) rfl (by first | exact hI.c0 rfl | exact hI.c1 rfl | exact hI.c2 rfl | exact hI.c3 rfl | exact hI.c4 rfl | exact hI.c5 rfl) | exact rLd rfl (by kernel_rfl) rfl (by first | exact hI.c0 rfl | exact hI.c1 rfl | exact hI.c2 rfl | exact hI.c3 rfl | exact hI.c4 rfl | exact hI.c5 rfl)) ?_
        refine WL_val rfl rfl rfl (rMax rfl rfl rfl) ?_
        refine WL_val rfl rfl rfl (by first | exact rAsgnI rfl rfl | exact rAsgn rfl) ?_
        refine WL_nil ?_
        have hq := hqm hp
        exact ⟨mu - 1, by omega, _, _, _, max n q, hpr, by omega, by omega, hnext _ (by omega) (fun _ => by omega), ⟨rfl, rfl, rfl, rfl, rfl, rfl, trivial⟩, hI.d0⟩
      · refine W_seq ?_
        refine W_region ?_
        refine WL_val rfl rfl rfl (by first | exact rFldN (off := 0) rfl (by kernel_rfl) rfl | exact rFld0 rfl (by kernel_rfl) rfl) ?_
        refine WL_val rfl rfl rfl (by first | exact rLd (v := .int .i64 _) rfl (by kernel_rfl) rfl (by first | exact hI.c0 rfl | exact hI.c1 rfl | exact hI.c2 rfl | exact hI.c3 rfl | exact hI.c4 rfl | exact hI.c5 rfl) | exact rLd rfl (by kernel_rfl) rfl (by first | exact hI.c0 rfl | exact hI.c1 rfl | exact hI.c2 rfl | exact hI.c3 rfl | exact hI.c4 rfl | exact hI.c5 rfl)) ?_
        refine WL_val rfl rfl rfl (by first | exact rMoveI rfl rfl | exact rMove rfl) ?_
        refine WL_val rfl rfl rfl (by first | exact rEqlT rfl rfl rfl (by omega) | exact rEqlF rfl rfl rfl (by omega) | exact rEql rfl rfl rfl) ?_
        refine WL_nil ?_
        refine W_cond false rfl ?_
        refine W_skip ?_
        exact ⟨mu - 1, by omega, _, _, _, n, hpr, by omega, by omega, hnext _ (by omega) (fun e => absurd e hp), ⟨rfl, rfl, rfl, rfl, rfl, rfl, trivial⟩, hI.d0⟩
    refine WL_val rfl rfl rfl (rExtr rfl rfl rfl) ?_
    refine WL_nil ?_
    refine W_seq ?_
    refine W_cond false rfl ?_
    refine W_exit ?_
    exact ⟨n, by omega, hnm, fun k hs hp => hs.elim (fun hs => Int.le_trans (hall0 k hs hp) hn0) (fun hs => hall k (hnone k) hs hp), ⟨rfl, rfl, rfl, rfl, rfl, trivial⟩, hI.d0⟩
  clear hI
  rintro ρ w ⟨n, hn0, hnm, hall, hH, hI⟩
  obtain ⟨σ, rfl⟩ := hH.open
  refine W_seq ?_
  refine W_region ?_
  refine WL_val rfl rfl rfl (by first | exact rLdB (n := 2) rfl (by kernel_rfl) (by kernel_rfl) rfl rfl hI.g0 | exact rLdB (n := 2) rfl (by kernel_rfl) (by kernel_rfl) rfl rfl hI.g1 | exact rLdB (n := 2) rfl (by kernel_rfl) (by kernel_rfl) rfl rfl hI.g2 | exact rLd2 rfl (by kernel_rfl) (by kernel_rfl) rfl (by first | exact hI.c0 rfl | exact hI.c1 rfl | exact hI.c2 rfl) (by first | exact hI.c0 rfl | exact hI.c1 rfl | exact hI.c2 rfl)) ?_
  refine WL_call rfl rfl rfl (rCall (vs := [.agg _]) rfl Try.func24 rfl rfl rfl) ?_
  refine (cloneTh_any ta tg T G _ (h.pure hI.pu)).mono ?_
  rintro e w1 ⟨ma, mb, rfl, hJ⟩
  refine ⟨_, rfl, ?_⟩
  replace hI := hI.app2 hJ
  refine WL_alloc (u := .agg #[.map none, .map none]) (vs := #[.map none, .map none]) hI rfl rfl rfl rfl (by kernel_rfl) rfl ?_
  clear hI; rintro b11 w - - hI
  first | refine WL_stw0 (u := .agg _) (vs := #[_, _]) (n := 2) hI rfl rfl rfl rfl rfl rfl (by kernel_rfl) rfl rfl rfl ?_ | refine WL_stw1 (u := .agg _) (vs := #[_, _]) (n := 2) hI rfl rfl rfl rfl rfl rfl (by kernel_rfl) rfl rfl rfl ?_ | refine WL_stw2 (u := .agg _) (vs := #[_, _]) (n := 2) hI rfl rfl rfl rfl rfl rfl (by kernel_rfl) rfl rfl rfl ?_
  clear hI; intro w hI
  refine WL_nil ?_
  refine W_seq ?_
  refine W_region ?_
  refine WL_val rfl rfl rfl (by first | exact rFldN (off := 0) rfl (by kernel_rfl) rfl | exact rFld0 rfl (by kernel_rfl) rfl) ?_
  refine WL_val rfl rfl rfl (by first | exact rLd (v := .map _) rfl (by kernel_rfl) rfl (by first | exact hI.c0 rfl | exact hI.c1 rfl) | exact rLd rfl (by kernel_rfl) rfl (by first | exact hI.c0 rfl | exact hI.c1 rfl)) ?_
  refine WL_val rfl rfl rfl (by first | exact rMoveI rfl rfl | exact rMove rfl) ?_
  refine WL_val rfl rfl rfl (by first | exact rMoveI rfl rfl | exact rMove rfl) ?_
  refine WL_val rfl rfl rfl (by first | exact rInc rfl rfl rfl (by omega) | exact rAdd rfl rfl rfl (by omega) | exact rAddW rfl rfl rfl) ?_
  refine WL_val rfl rfl rfl (rBuild (qs := [(0, .int .i64 _), (1, .int .i64 _)]) (vs := [_, _]) [.int .i64 0, .int .i64 0] [0, 1] rfl rfl rfl (fun _ => by kernel_rfl)) ?_
  refine WL_val rfl rfl rfl (by first | exact rMoveI rfl rfl | exact rMove rfl) ?_
  refine WL_mapSetK (a := ((place, n + 1) : Tag)) (v := .int .i64 x) keyT 1 rfl hI rfl rfl rfl Try.underlying33 rfl rfl rfl trivial ?_
  clear hI; intro w hI
  simp only [List.set_cons_succ, List.set_cons_zero] at hI
  rw [gT_set] at hI
  refine WL_nil ?_
  refine W_seq ?_
  refine W_region ?_
  refine WL_val rfl rfl rfl (by first | exact rLdB (n := 2) rfl (by kernel_rfl) (by kernel_rfl) rfl rfl hI.g0 | exact rLdB (n := 2) rfl (by kernel_rfl) (by kernel_rfl) rfl rfl hI.g1 | exact rLdB (n := 2) rfl (by kernel_rfl) (by kernel_rfl) rfl rfl hI.g2 | exact rLdB (n := 2) rfl (by kernel_rfl) (by kernel_rfl) rfl rfl hI.g3 | exact rLdB (n := 2) rfl (by kernel_rfl) (by kernel_rfl) rfl rfl hI.g4 | exact rLd2 rfl (by kernel_rfl) (by kernel_rfl) rfl (by first | exact hI.c0 rfl | exact hI.c1 rfl | exact hI.c2 rfl | exact hI.c3 rfl | exact hI.c4 rfl) (by first | exact hI.c0 rfl | exact hI.c1 rfl | exact hI.c2 rfl | exact hI.c3 rfl | exact hI.c4 rfl)) ?_
  first | refine WL_stw0 (u := .agg _) (vs := #[_, _]) (n := 2) hI rfl rfl rfl rfl rfl rfl (by kernel_rfl) rfl rfl rfl ?_ | refine WL_stw1 (u := .agg _) (vs := #[_, _]) (n := 2) hI rfl rfl rfl rfl rfl rfl (by kernel_rfl) rfl rfl rfl ?_ | refine WL_stw2 (u := .agg _) (vs := #[_, _]) (n := 2) hI rfl rfl rfl rfl rfl rfl (by kernel_rfl) rfl rfl rfl ?_ | refine WL_stw3 (u := .agg _) (vs := #[_, _]) (n := 2) hI rfl rfl rfl rfl rfl rfl (by kernel_rfl) rfl rfl rfl ?_ | refine WL_stw4 (u := .agg _) (vs := #[_, _]) (n := 2) hI rfl rfl rfl rfl rfl rfl (by kernel_rfl) rfl rfl rfl ?_
  clear hI; intro w hI
  refine WL_val rfl rfl rfl (by first | exact rAsgnN rfl rfl | exact rAsgnE rfl rfl | exact rAsgn rfl) ?_
  refine WL_nil ?_
  refine W_ret ?_
  refine retC2 (n := 2) (t := 36) (.inr rfl) rfl rfl (by kernel_rfl) (by kernel_rfl) rfl hI.g3 ?_
  exact ⟨some ma, some mb, n, hn0, hnm, hall, rfl, (hI.d0.d2.d2).thing⟩
/-! ### Join -/
def overT (T' T : Tag → Option Int) : Tag → Option Int := fun k => match T' k with | some v => some v | none => T k
def orG (G' G : Tag → Bool) : Tag → Bool := fun k => G' k || G k
def thinT (T : Tag → Option Int) (G : Tag → Bool) : Tag → Option Int := fun k => if G k then none else T k
theorem over_T (T' T : Tag → Option Int) : overG (gT T') (gT T) = gT (overT T' T) := by
  funext k
  unfold overG gT overT
  cases T' k <;> rfl
theorem over_G (G' G : Tag → Bool) : overG (gG G') (gG G) = gG (orG G' G) := by
  funext k
  unfold overG gG orG
  cases G' k <;> simp
def ThinI (T : Tag → Option Int) (G : Tag → Bool) (T' : Tag → Option Int) (left : Tag → Prop) : Prop := (∀ k, left k → T' k = T k) ∧ (∀ k, ¬ left k → T' k = thinT T G k)
theorem ThinI.start (T : Tag → Option Int) (G : Tag → Bool) : ThinI T G T fun k => (gG G k).isSome = true := ⟨fun _ _ => rfl, fun k hk => by
  have hg : G k = false := by
    cases hg : G k with
    | false => rfl
    | true => exact absurd (show (gG G k).isSome = true by rw [gG_is]; exact hg) hk
  unfold thinT
  rw [hg]; rfl⟩
theorem ThinI.next {T : Tag → Option Int} {G : Tag → Bool} {T' : Tag → Option Int} {left : Tag → Prop} {a : Tag} (h : ThinI T G T' left) (ha : G a = true) : ThinI T G (fun j => if j = a then none else T' j) fun k => left k ∧ k ≠ a := by
  refine ⟨fun k hk => ?_, fun k hk => ?_⟩
  · show (if k = a then none else T' k) = _
    rw [if_neg hk.2]; exact h.1 k hk.1
  · show (if k = a then none else T' k) = _
    by_cases hka : k = a
    · subst hka
      rw [if_pos rfl]
      unfold thinT
      rw [if_pos ha]
    · rw [if_neg hka]
      exact h.2 k fun hl => hk ⟨hl, hka⟩
theorem ThinI.done {T : Tag → Option Int} {G : Tag → Bool} {T' : Tag → Option Int} {left : Tag → Prop} (h : ThinI T G T' left) (hl : ∀ k, ¬ left k) : T' = thinT T G := funext fun k => h.2 k (hl k)
def joinT (T : Tag → Option Int) (G : Tag → Bool) (T' : Tag → Option Int) (G' : Tag → Bool) : Tag → Option Int := thinT (overT T' T) (orG G' G)
set_option maxHeartbeats 4000000 in
theorem joinTh_any (ta tg ua ug : Option Nat) (T : Tag → Option Int) (G : Tag → Bool) (U : Tag → Option Int) (F : Tag → Bool) (w0 : World) (h : ThR w0 ta tg T G) (h' : ThR w0 ua ug U F) :
    Calls Try.prog 16 #[thV ta tg, thV ua ug] w0 (ThPost (joinT T G U F) (orG F G) w0) := by
  have hI := Inv.start (fun _ => False) w0
  refine calls_of_W (N := Try.f16.ntmps) Try.func16 rfl rfl rfl ?_
  refine W_seq ?_
  refine W_region ?_
  refine WL_box (u := .agg _) (vs := #[_, _]) hI rfl rfl rfl rfl rfl rfl ?_
  clear hI; rintro b2 w - - hI
  refine WL_box (u := .agg _) (vs := #[_, _]) hI rfl rfl rfl rfl rfl rfl ?_
  clear hI; rintro b3 w - - hI
  refine WL_alloc (u := .agg #[.map none, .map none]) (vs := #[.map none, .map none]) hI rfl rfl rfl rfl (by kernel_rfl) rfl ?_
  clear hI; rintro b4 w - - hI
  refine WL_nil ?_
  refine W_seq ?_
  refine W_region ?_
  refine WL_val rfl rfl rfl (by first | exact rLdB (n := 2) rfl (by kernel_rfl) (by kernel_rfl) rfl rfl hI.g0 | exact rLdB (n := 2) rfl (by kernel_rfl) (by kernel_rfl) rfl rfl hI.g1 | exact rLdB (n := 2) rfl (by kernel_rfl) (by kernel_rfl) rfl rfl hI.g2 | exact rLd2 rfl (by kernel_rfl) (by kernel_rfl) rfl (by first | exact hI.c0 rfl | exact hI.c1 rfl | exact hI.c2 rfl) (by first | exact hI.c0 rfl | exact hI.c1 rfl | exact hI.c2 rfl)) ?_
  refine WL_call rfl rfl rfl (rCall (vs := [.agg _]) rfl Try.func24 rfl rfl rfl) ?_
  refine (cloneTh_any ta tg T G _ (h.pure hI.pu)).mono ?_
  rintro e w1 ⟨ma, mb, rfl, hJ⟩
  refine ⟨_, rfl, ?_⟩
  replace hI := hI.app2 hJ
  refine WL_alloc (u := .agg #[.map none, .map none]) (vs := #[.map none, .map none]) hI rfl rfl rfl rfl (by kernel_rfl) rfl ?_
  clear hI; rintro b5 w - - hI
  first | refine WL_stw0 (u := .agg _) (vs := #[_, _]) (n := 2) hI rfl rfl rfl rfl rfl rfl (by kernel_rfl) rfl rfl rfl ?_ | refine WL_stw1 (u := .agg _) (vs := #[_, _]) (n := 2) hI rfl rfl rfl rfl rfl rfl (by kernel_rfl) rfl rfl rfl ?_ | refine WL_stw2 (u := .agg _) (vs := #[_, _]) (n := 2) hI rfl rfl rfl rfl rfl rfl (by kernel_rfl) rfl rfl rfl ?_
  clear hI; intro w hI
  refine WL_nil ?_
  replace hI := hI.sw0
  refine W_seq ?_
  refine W_region ?_
  refine WL_val rfl rfl rfl (by first | exact rFldN (off := 0) rfl (by kernel_rfl) rfl | exact rFld0 rfl (by kernel_rfl) rfl) ?_
  refine WL_val rfl rfl rfl (by first | exact rLd (v := .map _) rfl (by kernel_rfl) rfl (by first | exact hI.c0 rfl | exact hI.c1 rfl | exact hI.c2 rfl | exact hI.c3 rfl | exact hI.c4 rfl | exact hI.c5 rfl) | exact rLd rfl (by kernel_rfl) rfl (by first | exact hI.c0 rfl | exact hI.c1 rfl | exact hI.c2 rfl | exact hI.c3 rfl | exact hI.c4 rfl | exact hI.c5 rfl)) ?_
  refine WL_val rfl rfl rfl (by first | exact rFldN (off := 0) rfl (by kernel_rfl) rfl | exact rFld0 rfl (by kernel_rfl) rfl) ?_
  refine WL_val rfl rfl rfl (by first | exact rLd (v := .map _) rfl (by kernel_rfl) rfl (by first | exact hI.c0 rfl | exact hI.c1 rfl | exact hI.c2 rfl | exact hI.c3 rfl | exact hI.c4 rfl | exact hI.c5 rfl) | exact rLd rfl (by kernel_rfl) rfl (by first | exact hI.c0 rfl | exact hI.c1 rfl | exact hI.c2 rfl | exact hI.c3 rfl | exact hI.c4 rfl | exact hI.c5 rfl)) ?_
  refine WL_call rfl rfl rfl (rCall (vs := [.map _, .map _]) rfl Try.func27 rfl rfl rfl) ?_
  refine (copyI_any ma _ ua U _ _ (MapRIs.pure h'.1 hI.pu) (newM 0 hI rfl h'.1) (Inv.from (l := [MapKE okT kT ma (gT T)]) hI)).mono ?_
  rintro e w1 ⟨rfl, hJ⟩
  refine ⟨_, rfl, ?_⟩
  replace hI := Inv.turnL (l := [MapKE okT kT ma (gT T)]) hI hJ
  refine WL_nil ?_
  rw [over_T] at hI
  replace hI := Inv.up2 hI
  refine W_seq ?_
  refine W_region ?_
  refine WL_val rfl rfl rfl (by first | exact rFldN (off := 1) rfl (by kernel_rfl) rfl | exact rFld (off := 1) rfl (by kernel_rfl) rfl) ?_
  refine WL_val rfl rfl rfl (by first | exact rLd (v := .map _) rfl (by kernel_rfl) rfl (by first | exact hI.c0 rfl | exact hI.c1 rfl | exact hI.c2 rfl | exact hI.c3 rfl | exact hI.c4 rfl | exact hI.c5 rfl) | exact rLd rfl (by kernel_rfl) rfl (by first | exact hI.c0 rfl | exact hI.c1 rfl | exact hI.c2 rfl | exact hI.c3 rfl | exact hI.c4 rfl | exact hI.c5 rfl)) ?_
  refine WL_val rfl rfl rfl (by first | exact rFldN (off := 1) rfl (by kernel_rfl) rfl | exact rFld (off := 1) rfl (by kernel_rfl) rfl) ?_
  refine WL_val rfl rfl rfl (by first | exact rLd (v := .map _) rfl (by kernel_rfl) rfl (by first | exact hI.c0 rfl | exact hI.c1 rfl | exact hI.c2 rfl | exact hI.c3 rfl | exact hI.c4 rfl | exact hI.c5 rfl) | exact rLd rfl (by kernel_rfl) rfl (by first | exact hI.c0 rfl | exact hI.c1 rfl | exact hI.c2 rfl | exact hI.c3 rfl | exact hI.c4 rfl | exact hI.c5 rfl)) ?_
  refine WL_call rfl rfl rfl (rCall (vs := [.map _, .map _]) rfl Try.func28 rfl rfl rfl) ?_
  refine (copyG_any mb _ ug F _ _ (MapRIs.pure h'.2 hI.pu) (newM 0 hI rfl h'.2) (Inv.from (l := [MapKE okT kT mb (gG G)]) hI)).mono ?_
  rintro e w1 ⟨rfl, hJ⟩
  refine ⟨_, rfl, ?_⟩
  replace hI := Inv.turnL (l := [MapKE okT kT mb (gG G)]) hI hJ
  refine WL_nil ?_
  rw [over_G] at hI
  refine W_seq ?_
  refine W_seq ?_
  refine W_region ?_
  refine WL_val rfl rfl rfl (by first | exact rFldN (off := 1) rfl (by kernel_rfl) rfl | exact rFld (off := 1) rfl (by kernel_rfl) rfl) ?_
  refine WL_val rfl rfl rfl (by first | exact rLd (v := .map _) rfl (by kernel_rfl) rfl (by first | exact hI.c0 rfl | exact hI.c1 rfl | exact hI.c2 rfl | exact hI.c3 rfl | exact hI.c4 rfl | exact hI.c5 rfl) | exact rLd rfl (by kernel_rfl) rfl (by first | exact hI.c0 rfl | exact hI.c1 rfl | exact hI.c2 rfl | exact hI.c3 rfl | exact hI.c4 rfl | exact hI.c5 rfl)) ?_
  refine WL_rangeK 0 rfl hI rfl rfl rfl rfl Try.underlying34 rfl ?_
  clear hI; intro br cnt w hI
  refine WL_nil ?_
  refine W_block ?_
  replace hI : Inv (fun _ => False) w0 w [RngE okT kT mb br (gG (orG F G)) (fun a => (gG (orG F G) a).isSome = true) cnt none, MapKE okT kT ma (gT (overT U T)), B b5 36 #[.map (some ma), .map (some mb)], B b4 36 #[.map none, .map none], B b3 36 #[.map ua, .map ug], B b2 36 #[.map ta, .map tg]] := hI
  refine W_loopN (fun mu ρ w => ∃ (left : Tag → Prop) (cur : Option Tag) (T' : Tag → Option Int), ThinI (overT U T) (orG F G) T' left ∧ Has ρ [(21, .pointer (some ⟨br, 0, none⟩)), (5, .pointer (some ⟨b5, 0, none⟩)), (4, .pointer (some ⟨b4, 0, none⟩))] ∧ Inv (fun _ => False) w0 w [RngE okT kT mb br (gG (orG F G)) left mu cur, MapKE okT kT ma (gT T'), B b5 36 #[.map (some ma), .map (some mb)], B b4 36 #[.map none, .map none]]) cnt
    ⟨_, _, _, ThinI.start _ _, ⟨rfl, rfl, rfl, trivial⟩, hI.d4.d4⟩ ?_
  clear hI
  rintro mu ρ w ⟨left, cur, T', hD, hH, hI⟩
  obtain ⟨σ, rfl⟩ := hH.open
  refine W_seq ?_
  refine W_region ?_
  refine WL_nextK 0 rfl hI rfl rfl rfl rfl rfl (fun hnone => ?_) ?_
  rotate_left
  · clear hI
    rintro a v w hla hga hmu hI
    simp only [List.set_cons_zero] at hI
    obtain ⟨hGa, rfl⟩ := gG_some hga
    obtain ⟨p, q⟩ := a
    refine WL_val rfl rfl rfl (rExtr rfl rfl rfl) ?_
    refine WL_nil ?_
    refine W_seq ?_
    refine W_cond true rfl ?_
    refine W_skip ?_
    refine W_block ?_
    refine W_seq ?_
    refine W_region ?_
    refine WL_val rfl rfl rfl (rEntryK hga rfl rfl hI.g0) ?_
    refine WL_val rfl rfl rfl (rExtr rfl rfl rfl) ?_
    refine WL_alloc (u := .agg #[.int .i64 0, .int .i64 0]) (vs := #[.int .i64 0, .int .i64 0]) hI rfl rfl rfl rfl (by kernel_rfl) rfl ?_
    clear hI; rintro b6 w - - hI
    first | refine WL_stw0 (u := .agg _) (vs := #[_, _]) (n := 2) hI rfl rfl rfl rfl rfl rfl (by kernel_rfl) rfl rfl rfl ?_ | refine WL_stw1 (u := .agg _) (vs := #[_, _]) (n := 2) hI rfl rfl rfl rfl rfl rfl (by kernel_rfl) rfl rfl rfl ?_ | refine WL_stw2 (u := .agg _) (vs := #[_, _]) (n := 2) hI rfl rfl rfl rfl rfl rfl (by kernel_rfl) rfl rfl rfl ?_ | refine WL_stw3 (u := .agg _) (vs := #[_, _]) (n := 2) hI rfl rfl rfl rfl rfl rfl (by kernel_rfl) rfl rfl rfl ?_ | refine WL_stw4 (u := .agg _) (vs := #[_, _]) (n := 2) hI rfl rfl rfl rfl rfl rfl (by kernel_rfl) rfl rfl rfl ?_ | refine WL_stw5 (u := .agg _) (vs := #[_, _]) (n := 2) hI rfl rfl rfl rfl rfl rfl (by kernel_rfl) rfl rfl rfl ?_
    clear hI; intro w hI
    refine WL_nil ?_
    refine W_region ?_
    refine WL_val rfl rfl rfl (by first | exact rFldN (off := 0) rfl (by kernel_rfl) rfl | exact rFld0 rfl (by kernel_rfl) rfl) ?_
    refine WL_val rfl rfl rfl (by first | exact rLd (v := .map _) rfl (by kernel_rfl) rfl (by first | exact hI.c0 rfl | exact hI.c1 rfl | exact hI.c2 rfl | exact hI.c3 rfl) | exact rLd rfl (by kernel_rfl) rfl (by first | exact hI.c0 rfl | exact hI.c1 rfl | exact hI.c2 rfl | exact hI.c3 rfl)) ?_
    refine WL_val rfl rfl rfl (by first | exact rLdB (n := 2) rfl (by kernel_rfl) (by kernel_rfl) rfl rfl hI.g0 | exact rLdB (n := 2) rfl (by kernel_rfl) (by kernel_rfl) rfl rfl hI.g1 | exact rLdB (n := 2) rfl (by kernel_rfl) (by kernel_rfl) rfl rfl hI.g2 | exact rLdB (n := 2) rfl (by kernel_rfl) (by kernel_rfl) rfl rfl hI.g3 | exact rLd2 rfl (by kernel_rfl) (by kernel_rfl) rfl (by first | exact hI.c0 rfl | exact hI.c1 rfl | exact hI.c2 rfl | exact hI.c3 rfl) (by first | exact hI.c0 rfl | exact hI.c1 rfl | exact hI.c2 rfl | exact hI.c3 rfl)) ?_
    refine WL_mapDelK (a := ((p, q) : Tag)) keyT 2 rfl hI rfl rfl rfl Try.underlying33 rfl rfl trivial ?_
    clear hI; intro w hI
    simp only [List.set_cons_succ, List.set_cons_zero] at hI
    rw [gT_del] at hI
    refine WL_nil ?_
    exact ⟨mu - 1, by omega, _, _, _, hD.next hGa, ⟨rfl, rfl, rfl, trivial⟩, hI.d0⟩
  refine WL_val rfl rfl rfl (rExtr rfl rfl rfl) ?_
  refine WL_nil ?_
  refine W_seq ?_
  refine W_cond false rfl ?_
  refine W_exit ?_
  have hTd := hD.done hnone
  subst hTd
  replace hI := hI.rngOff 0 rfl
  replace hI : Inv (fun _ => False) w0 w [MapKE okT kT mb (gG (orG F G)), MapKE okT kT ma (gT (thinT (overT U T) (orG F G))), B b5 36 #[.map (some ma), .map (some mb)], B b4 36 #[.map none, .map none]] := hI
  refine W_seq ?_
  refine W_region ?_
  refine WL_val rfl rfl rfl (by first | exact rLdB (n := 2) rfl (by kernel_rfl) (by kernel_rfl) rfl rfl hI.g0 | exact rLdB (n := 2) rfl (by kernel_rfl) (by kernel_rfl) rfl rfl hI.g1 | exact rLdB (n := 2) rfl (by kernel_rfl) (by kernel_rfl) rfl rfl hI.g2 | exact rLdB (n := 2) rfl (by kernel_rfl) (by kernel_rfl) rfl rfl hI.g3 | exact rLdB (n := 2) rfl (by kernel_rfl) (by kernel_rfl) rfl rfl hI.g4 | exact rLd2 rfl (by kernel_rfl) (by kernel_rfl) rfl (by first | exact hI.c0 rfl | exact hI.c1 rfl | exact hI.c2 rfl | exact hI.c3 rfl | exact hI.c4 rfl) (by first | exact hI.c0 rfl | exact hI.c1 rfl | exact hI.c2 rfl | exact hI.c3 rfl | exact hI.c4 rfl)) ?_
  first | refine WL_stw0 (u := .agg _) (vs := #[_, _]) (n := 2) hI rfl rfl rfl rfl rfl rfl (by kernel_rfl) rfl rfl rfl ?_ | refine WL_stw1 (u := .agg _) (vs := #[_, _]) (n := 2) hI rfl rfl rfl rfl rfl rfl (by kernel_rfl) rfl rfl rfl ?_ | refine WL_stw2 (u := .agg _) (vs := #[_, _]) (n := 2) hI rfl rfl rfl rfl rfl rfl (by kernel_rfl) rfl rfl rfl ?_ | refine WL_stw3 (u := .agg _) (vs := #[_, _]) (n := 2) hI rfl rfl rfl rfl rfl rfl (by kernel_rfl) rfl rfl rfl ?_ | refine WL_stw4 (u := .agg _) (vs := #[_, _]) (n := 2) hI rfl rfl rfl rfl rfl rfl (by kernel_rfl) rfl rfl rfl ?_
  clear hI; intro w hI
  refine WL_nil ?_
  refine W_ret ?_
  exact retC (n := 2) (t := 36) (.inr rfl) rfl rfl (by kernel_rfl) (by kernel_rfl) rfl hI.g3 ⟨some ma, some mb, rfl, (hI.d2.d2.sw0).thing⟩
end Go.Proofs.Ytkfciehgjhgmeaa
