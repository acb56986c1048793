/- merge: sets: maps.Equal, Same. -/
import Derived.Test.YtkfciehgjhgmeaaThg3
namespace Go.Proofs.Ytkfciehgjhgmeaa
open Go.RowKit
set_option linter.unusedVariables false
set_option linter.unusedSimpArgs false
section
variable {P : Program} {ρ : Env} {o : Oper} {w : World} {x y : Operand} {t t' : TypeId}
theorem rNeqU (ho : o.op = .binOp .neq t x y t') (hB : eqIntsB P t 0 = true) (hx : ev ρ x = unitV) (hy : ev ρ y = unitV) : Runs P ρ o w (.bool false) := by
  have := rNeqS (P := P) (ρ := ρ) (o := o) (w := w) (n := 0) (la := []) (lb := []) ho hB hx hy rfl rfl
  simpa using this
end
theorem mapN_ex {w : World} {A : Option Nat} {g : Tag → Option Value} (h : MapRIs okT kT w A g) : ∃ (n : Nat) (ks : List Tag), MapN okT kT w A g n ∧ ks.Nodup ∧ (∀ k, k ∈ ks ↔ (g k).isSome = true) ∧ ks.length = n := by
  cases A with
  | none =>
    have e : g = fun _ => none := h
    exact ⟨0, [], rfl, List.nodup_nil, fun k => by rw [e]; simp, rfl⟩
  | some b =>
    obtain ⟨es, clk, m, h1, _, h3, h4, _, h6⟩ := (show MapKIs okT kT w b g from h).ex
    refine ⟨es.size, m.map (·.1), ⟨es, clk, h1, rfl⟩, h4, fun k => ?_, ?_⟩
    · rw [List.mem_map]
      constructor
      · rintro ⟨⟨a, v⟩, hp, rfl⟩
        rw [(h6 a v).1 hp]; rfl
      · intro hs
        obtain ⟨v, hv⟩ := Option.isSome_iff_exists.1 hs
        exact ⟨(k, v), (h6 k v).2 hv, rfl⟩
    · rw [List.length_map]
      have := h3.len
      simpa using this.symm
theorem mapN_two {w : World} {A B : Option Nat} {g : Tag → Option Value} (hA : MapRIs okT kT w A g) (hB : MapRIs okT kT w B g) : ∃ n, MapN okT kT w A g n ∧ MapN okT kT w B g n := by
  obtain ⟨n, ks, h1, h2, h3, h4⟩ := mapN_ex hA
  obtain ⟨n', ks', h1', h2', h3', h4'⟩ := mapN_ex hB
  have hp : ks.Perm ks' := (List.perm_ext_iff_of_nodup h2 h2').2 fun k => by rw [h3, h3']
  have e : n' = n := by rw [← h4, ← h4', hp.length_eq]
  subst e
  exact ⟨n', h1, h1'⟩
set_option maxHeartbeats 2000000 in
theorem equalI_any (ta ua : Option Nat) (T : Tag → Option Int) (w0 : World) (h1 : MapRIs okT kT w0 ta (gT T)) (h2 : MapRIs okT kT w0 ua (gT T)) :
    Calls Try.prog 79 #[.map ta, .map ua] w0 fun e w' => e = .returned (.bool true) ∧ Pure w0 w' := by
  obtain ⟨n, hn1, hn2⟩ := mapN_two h1 h2
  have hI := Inv.start (fun _ => False) w0
  refine calls_of_W (N := Try.f79.ntmps) Try.func79 rfl rfl rfl ?_
  refine W_seq ?_
  refine W_region ?_
  refine WL_val rfl rfl rfl (by first | exact rAsgnB rfl rfl | exact rAsgn rfl) ?_
  refine WL_nil ?_
  refine W_seq ?_
  refine W_seq ?_
  refine W_region ?_
  refine WL_val rfl rfl rfl (by first | exact rMoveM rfl rfl | exact rMove rfl) ?_
  refine WL_val rfl rfl rfl (rLenMap rfl Try.underlying33 rfl hn1) ?_
  refine WL_val rfl rfl rfl (by first | exact rMoveM rfl rfl | exact rMove rfl) ?_
  refine WL_val rfl rfl rfl (rLenMap rfl Try.underlying33 rfl hn2) ?_
  refine WL_val rfl rfl rfl (by first | exact rNeqT rfl rfl rfl (by omega) | exact rNeqF rfl rfl rfl (by omega) | exact rNeq rfl rfl rfl) ?_
  refine WL_nil ?_
  refine W_cond false rfl ?_
  refine W_skip ?_
  refine W_seq ?_
  refine W_seq ?_
  refine W_region ?_
  refine WL_val rfl rfl rfl (by first | exact rMoveM rfl rfl | exact rMove rfl) ?_
  have hpw := hI.pu
  refine WL_rangeR (h1.pure hI.pu) hI rfl rfl rfl rfl Try.underlying33 rfl ?_
  clear hI; intro br cnt w hI
  refine WL_nil ?_
  refine W_block ?_
  refine W_loopN (fun mu ρ w => ∃ (wr : World) (left : Tag → Prop) (cur : Option Tag), Pure w0 wr ∧ Has ρ [(15, .pointer (some ⟨br, 0, none⟩)), (1, .map ua)] ∧ Inv (fun _ => False) w0 w [RngR okT kT wr ta br (gT T) left mu cur]) cnt
    ⟨_, _, _, hpw, ⟨rfl, rfl, trivial⟩, hI⟩ ?_
  clear hI
  rintro mu ρ w ⟨wr, left, cur, hpr, hH, hI⟩
  obtain ⟨σ, rfl⟩ := hH.open
  refine W_seq ?_
  refine W_region ?_
  refine WL_nextR 0 rfl hI (oldN hI h1 hpr) rfl rfl rfl rfl rfl (fun hnone => ?_) ?_
  rotate_left
  · clear hI
    rintro a v w hla hga hmu hI
    simp only [List.set_cons_zero] at hI
    obtain ⟨u, hTa, rfl⟩ := gT_some hga
    obtain ⟨p, q⟩ := a
    refine WL_val rfl rfl rfl (rExtr rfl rfl rfl) ?_
    refine WL_nil ?_
    refine W_seq ?_
    refine W_cond true rfl ?_
    refine W_skip ?_
    refine W_block ?_
    refine W_seq ?_
    refine W_region ?_
    refine WL_val rfl rfl rfl (rEntryR hga rfl rfl (oldN hI h1 hpr) hI.g0) ?_
    refine WL_val rfl rfl rfl (rExtr rfl rfl rfl) ?_
    refine WL_val rfl rfl rfl (rExtr rfl rfl rfl) ?_
    refine WL_alloc (u := .agg #[.int .i64 0, .int .i64 0]) (vs := #[.int .i64 0, .int .i64 0]) hI rfl rfl rfl rfl (by kernel_rfl) rfl ?_
    clear hI; rintro b5 w - - hI
    first | refine WL_stw0 (u := .agg _) (vs := #[_, _]) (n := 2) hI rfl rfl rfl rfl rfl rfl (by kernel_rfl) rfl rfl rfl ?_ | refine WL_stw1 (u := .agg _) (vs := #[_, _]) (n := 2) hI rfl rfl rfl rfl rfl rfl (by kernel_rfl) rfl rfl rfl ?_ | refine WL_stw2 (u := .agg _) (vs := #[_, _]) (n := 2) hI rfl rfl rfl rfl rfl rfl (by kernel_rfl) rfl rfl rfl ?_ | refine WL_stw3 (u := .agg _) (vs := #[_, _]) (n := 2) hI rfl rfl rfl rfl rfl rfl (by kernel_rfl) rfl rfl rfl ?_ | refine WL_stw4 (u := .agg _) (vs := #[_, _]) (n := 2) hI rfl rfl rfl rfl rfl rfl (by kernel_rfl) rfl rfl rfl ?_ | refine WL_stw5 (u := .agg _) (vs := #[_, _]) (n := 2) hI rfl rfl rfl rfl rfl rfl (by kernel_rfl) rfl rfl rfl ?_
    clear hI; intro w hI
    refine WL_val rfl rfl rfl (by first | exact rAsgnI rfl rfl | exact rAsgn rfl) ?_
    refine WL_nil ?_
    refine W_seq ?_
    refine W_region ?_
    refine WL_val rfl rfl rfl (by first | exact rMoveM rfl rfl | exact rMove rfl) ?_
    refine WL_val rfl rfl rfl (by first | exact rLdB (n := 2) rfl (by kernel_rfl) (by kernel_rfl) rfl rfl hI.g0 | exact rLdB (n := 2) rfl (by kernel_rfl) (by kernel_rfl) rfl rfl hI.g1 | exact rLdB (n := 2) rfl (by kernel_rfl) (by kernel_rfl) rfl rfl hI.g2 | exact rLdB (n := 2) rfl (by kernel_rfl) (by kernel_rfl) rfl rfl hI.g3 | exact rLdB (n := 2) rfl (by kernel_rfl) (by kernel_rfl) rfl rfl hI.g4 | exact rLdB (n := 2) rfl (by kernel_rfl) (by kernel_rfl) rfl rfl hI.g5 | exact rLd2 rfl (by kernel_rfl) (by kernel_rfl) rfl (by first | exact hI.c0 rfl | exact hI.c1 rfl | exact hI.c2 rfl | exact hI.c3 rfl | exact hI.c4 rfl | exact hI.c5 rfl) (by first | exact hI.c0 rfl | exact hI.c1 rfl | exact hI.c2 rfl | exact hI.c3 rfl | exact hI.c4 rfl | exact hI.c5 rfl)) ?_
    refine WL_val rfl rfl rfl (rLookRY (a := ((p,q) : Tag)) keyT hga rfl Try.underlying33 rfl rfl trivial (MapRIs.pure h2 hI.pu)) ?_
    refine WL_val rfl rfl rfl (by first | exact rMoveT rfl rfl | exact rMove rfl) ?_
    refine WL_val rfl rfl rfl (rExtr rfl rfl rfl) ?_
    refine WL_val rfl rfl rfl (rExtr rfl rfl rfl) ?_
    refine WL_val rfl rfl rfl (by first | exact rAsgnI rfl rfl | exact rAsgn rfl) ?_
    refine WL_val rfl rfl rfl (by first | exact rAsgnB rfl rfl | exact rAsgn rfl) ?_
    refine WL_nil ?_
    refine W_seq ?_
    refine W_region ?_
    refine WL_val rfl rfl rfl (by first | exact rMoveB rfl rfl | exact rMove rfl) ?_
    refine WL_val rfl rfl rfl (by first | exact rNotT rfl rfl | exact rNotF rfl rfl | exact rNot rfl rfl) ?_
    refine WL_val rfl rfl rfl (by first | exact rMoveB rfl rfl | exact rMove rfl) ?_
    first | refine WL_val rfl rfl rfl (by first | exact rMoveI rfl rfl | exact rMove rfl) ?_ | refine WL_skip rfl rfl rfl ?_
    first | refine WL_val rfl rfl rfl (by first | exact rMoveI rfl rfl | exact rMove rfl) ?_ | refine WL_skip rfl rfl rfl ?_
    first | refine WL_val rfl rfl rfl (by first | exact rNeqT rfl rfl rfl (by omega) | exact rNeqF rfl rfl rfl (by omega) | exact rNeq rfl rfl rfl) ?_ | refine WL_skip rfl rfl rfl ?_
    refine WL_val rfl rfl rfl (by first | exact rPickTB rfl rfl rfl | exact rPickFB rfl rfl rfl | exact rPickB rfl rfl rfl rfl) ?_
    refine WL_nil ?_
    refine W_cond false rfl ?_
    refine W_skip ?_
    exact ⟨mu - 1, by omega, _, _, _, hpr, ⟨rfl, rfl, trivial⟩, hI.d0⟩
  refine WL_val rfl rfl rfl (rExtr rfl rfl rfl) ?_
  refine WL_nil ?_
  refine W_seq ?_
  refine W_cond false rfl ?_
  refine W_exit ?_
  refine W_seq ?_
  refine W_region ?_
  refine WL_val rfl rfl rfl (by first | exact rAsgnB rfl rfl | exact rAsgn rfl) ?_
  refine WL_nil ?_
  refine W_ret ?_
  exact ret1 4 (.inr rfl) rfl ⟨rfl, hI.pu⟩
set_option maxHeartbeats 2000000 in
theorem equalG_any (ta ua : Option Nat) (G : Tag → Bool) (w0 : World) (h1 : MapRIs okT kT w0 ta (gG G)) (h2 : MapRIs okT kT w0 ua (gG G)) :
    Calls Try.prog 80 #[.map ta, .map ua] w0 fun e w' => e = .returned (.bool true) ∧ Pure w0 w' := by
  obtain ⟨n, hn1, hn2⟩ := mapN_two h1 h2
  have hI := Inv.start (fun _ => False) w0
  refine calls_of_W (N := Try.f80.ntmps) Try.func80 rfl rfl rfl ?_
  refine W_seq ?_
  refine W_region ?_
  refine WL_val rfl rfl rfl (by first | exact rAsgnB rfl rfl | exact rAsgn rfl) ?_
  refine WL_nil ?_
  refine W_seq ?_
  refine W_seq ?_
  refine W_region ?_
  refine WL_val rfl rfl rfl (by first | exact rMoveM rfl rfl | exact rMove rfl) ?_
  refine WL_val rfl rfl rfl (rLenMap rfl Try.underlying34 rfl hn1) ?_
  refine WL_val rfl rfl rfl (by first | exact rMoveM rfl rfl | exact rMove rfl) ?_
  refine WL_val rfl rfl rfl (rLenMap rfl Try.underlying34 rfl hn2) ?_
  refine WL_val rfl rfl rfl (by first | exact rNeqT rfl rfl rfl (by omega) | exact rNeqF rfl rfl rfl (by omega) | exact rNeq rfl rfl rfl) ?_
  refine WL_nil ?_
  refine W_cond false rfl ?_
  refine W_skip ?_
  refine W_seq ?_
  refine W_seq ?_
  refine W_region ?_
  refine WL_val rfl rfl rfl (by first | exact rMoveM rfl rfl | exact rMove rfl) ?_
  have hpw := hI.pu
  refine WL_rangeR (h1.pure hI.pu) hI rfl rfl rfl rfl Try.underlying34 rfl ?_
  clear hI; intro br cnt w hI
  refine WL_nil ?_
  refine W_block ?_
  refine W_loopN (fun mu ρ w => ∃ (wr : World) (left : Tag → Prop) (cur : Option Tag), Pure w0 wr ∧ Has ρ [(15, .pointer (some ⟨br, 0, none⟩)), (1, .map ua)] ∧ Inv (fun _ => False) w0 w [RngR okT kT wr ta br (gG G) left mu cur]) cnt
    ⟨_, _, _, hpw, ⟨rfl, rfl, trivial⟩, hI⟩ ?_
  clear hI
  rintro mu ρ w ⟨wr, left, cur, hpr, hH, hI⟩
  obtain ⟨σ, rfl⟩ := hH.open
  refine W_seq ?_
  refine W_region ?_
  refine WL_nextR 0 rfl hI (oldN hI h1 hpr) rfl rfl rfl rfl rfl (fun hnone => ?_) ?_
  rotate_left
  · clear hI
    rintro a v w hla hga hmu hI
    simp only [List.set_cons_zero] at hI
    obtain ⟨hGa, rfl⟩ := gG_some hga
    obtain ⟨p, q⟩ := a
    refine WL_val rfl rfl rfl (rExtr rfl rfl rfl) ?_
    refine WL_nil ?_
    refine W_seq ?_
    refine W_cond true rfl ?_
    refine W_skip ?_
    refine W_block ?_
    refine W_seq ?_
    refine W_region ?_
    refine WL_val rfl rfl rfl (rEntryR hga rfl rfl (oldN hI h1 hpr) hI.g0) ?_
    refine WL_val rfl rfl rfl (rExtr rfl rfl rfl) ?_
    refine WL_val rfl rfl rfl (rExtr rfl rfl rfl) ?_
    refine WL_alloc (u := .agg #[.int .i64 0, .int .i64 0]) (vs := #[.int .i64 0, .int .i64 0]) hI rfl rfl rfl rfl (by kernel_rfl) rfl ?_
    clear hI; rintro b5 w - - hI
    refine WL_alloc (u := .agg #[]) (vs := #[]) hI rfl rfl rfl rfl (by kernel_rfl) rfl ?_
    clear hI; rintro b6 w - - hI
    first | refine WL_stw0 (u := .agg _) (vs := #[_, _]) (n := 2) hI rfl rfl rfl rfl rfl rfl (by kernel_rfl) rfl rfl rfl ?_ | refine WL_stw1 (u := .agg _) (vs := #[_, _]) (n := 2) hI rfl rfl rfl rfl rfl rfl (by kernel_rfl) rfl rfl rfl ?_ | refine WL_stw2 (u := .agg _) (vs := #[_, _]) (n := 2) hI rfl rfl rfl rfl rfl rfl (by kernel_rfl) rfl rfl rfl ?_ | refine WL_stw3 (u := .agg _) (vs := #[_, _]) (n := 2) hI rfl rfl rfl rfl rfl rfl (by kernel_rfl) rfl rfl rfl ?_ | refine WL_stw4 (u := .agg _) (vs := #[_, _]) (n := 2) hI rfl rfl rfl rfl rfl rfl (by kernel_rfl) rfl rfl rfl ?_ | refine WL_stw5 (u := .agg _) (vs := #[_, _]) (n := 2) hI rfl rfl rfl rfl rfl rfl (by kernel_rfl) rfl rfl rfl ?_
    clear hI; intro w hI
    first | refine WL_stw0 (u := .agg _) (vs := #[]) (n := 0) hI rfl rfl rfl rfl rfl rfl (by kernel_rfl) rfl rfl rfl ?_ | refine WL_stw1 (u := .agg _) (vs := #[]) (n := 0) hI rfl rfl rfl rfl rfl rfl (by kernel_rfl) rfl rfl rfl ?_ | refine WL_stw2 (u := .agg _) (vs := #[]) (n := 0) hI rfl rfl rfl rfl rfl rfl (by kernel_rfl) rfl rfl rfl ?_ | refine WL_stw3 (u := .agg _) (vs := #[]) (n := 0) hI rfl rfl rfl rfl rfl rfl (by kernel_rfl) rfl rfl rfl ?_ | refine WL_stw4 (u := .agg _) (vs := #[]) (n := 0) hI rfl rfl rfl rfl rfl rfl (by kernel_rfl) rfl rfl rfl ?_ | refine WL_stw5 (u := .agg _) (vs := #[]) (n := 0) hI rfl rfl rfl rfl rfl rfl (by kernel_rfl) rfl rfl rfl ?_
    clear hI; intro w hI
    refine WL_nil ?_
    refine W_seq ?_
    refine W_region ?_
    refine WL_val rfl rfl rfl (by first | exact rMoveM rfl rfl | exact rMove rfl) ?_
    refine WL_val rfl rfl rfl (by first | exact rLdB (n := 2) rfl (by kernel_rfl) (by kernel_rfl) rfl rfl hI.g0 | exact rLdB (n := 2) rfl (by kernel_rfl) (by kernel_rfl) rfl rfl hI.g1 | exact rLdB (n := 2) rfl (by kernel_rfl) (by kernel_rfl) rfl rfl hI.g2 | exact rLd2 rfl (by kernel_rfl) (by kernel_rfl) rfl (by first | exact hI.c0 rfl | exact hI.c1 rfl | exact hI.c2 rfl) (by first | exact hI.c0 rfl | exact hI.c1 rfl | exact hI.c2 rfl)) ?_
    refine WL_val rfl rfl rfl (rLookRY (a := ((p,q) : Tag)) keyT hga rfl Try.underlying34 rfl rfl trivial (MapRIs.pure h2 hI.pu)) ?_
    refine WL_val rfl rfl rfl (by first | exact rMoveT rfl rfl | exact rMove rfl) ?_
    refine WL_val rfl rfl rfl (rExtr rfl rfl rfl) ?_
    refine WL_val rfl rfl rfl (rExtr rfl rfl rfl) ?_
    refine WL_alloc (u := .agg #[]) (vs := #[]) hI rfl rfl rfl rfl (by kernel_rfl) rfl ?_
    clear hI; rintro b7 w - - hI
    first | refine WL_stw0 (u := .agg _) (vs := #[]) (n := 0) hI rfl rfl rfl rfl rfl rfl (by kernel_rfl) rfl rfl rfl ?_ | refine WL_stw1 (u := .agg _) (vs := #[]) (n := 0) hI rfl rfl rfl rfl rfl rfl (by kernel_rfl) rfl rfl rfl ?_ | refine WL_stw2 (u := .agg _) (vs := #[]) (n := 0) hI rfl rfl rfl rfl rfl rfl (by kernel_rfl) rfl rfl rfl ?_
    clear hI; intro w hI
    refine WL_val rfl rfl rfl (by first | exact rAsgnB rfl rfl | exact rAsgn rfl) ?_
    refine WL_nil ?_
    refine W_seq ?_
    refine W_region ?_
    refine WL_val rfl rfl rfl (by first | exact rMoveB rfl rfl | exact rMove rfl) ?_
    refine WL_val rfl rfl rfl (by first | exact rNotT rfl rfl | exact rNotF rfl rfl | exact rNot rfl rfl) ?_
    refine WL_val rfl rfl rfl (by first | exact rMoveB rfl rfl | exact rMove rfl) ?_
    first | refine WL_val rfl rfl rfl (by first | exact rLdB (n := 0) rfl (by kernel_rfl) (by kernel_rfl) rfl rfl hI.g0 | exact rLdB (n := 0) rfl (by kernel_rfl) (by kernel_rfl) rfl rfl hI.g1 | exact rLdB (n := 0) rfl (by kernel_rfl) (by kernel_rfl) rfl rfl hI.g2 | exact rLd0 rfl (by kernel_rfl) (by kernel_rfl) rfl ) ?_ | refine WL_skip rfl rfl rfl ?_
    first | refine WL_val rfl rfl rfl (by first | exact rLdB (n := 0) rfl (by kernel_rfl) (by kernel_rfl) rfl rfl hI.g0 | exact rLdB (n := 0) rfl (by kernel_rfl) (by kernel_rfl) rfl rfl hI.g1 | exact rLdB (n := 0) rfl (by kernel_rfl) (by kernel_rfl) rfl rfl hI.g2 | exact rLd0 rfl (by kernel_rfl) (by kernel_rfl) rfl ) ?_ | refine WL_skip rfl rfl rfl ?_
    first | refine WL_val rfl rfl rfl (rNeqU rfl (by kernel_rfl) rfl rfl) ?_ | refine WL_skip rfl rfl rfl ?_
    refine WL_val rfl rfl rfl (by first | exact rPickTB rfl rfl rfl | exact rPickFB rfl rfl rfl | exact rPickB rfl rfl rfl rfl) ?_
    refine WL_nil ?_
    refine W_cond false rfl ?_
    refine W_skip ?_
    exact ⟨mu - 1, by omega, _, _, _, hpr, ⟨rfl, rfl, trivial⟩, hI.d0.d0.d0⟩
  refine WL_val rfl rfl rfl (rExtr rfl rfl rfl) ?_
  refine WL_nil ?_
  refine W_seq ?_
  refine W_cond false rfl ?_
  refine W_exit ?_
  refine W_seq ?_
  refine W_region ?_
  refine WL_val rfl rfl rfl (by first | exact rAsgnB rfl rfl | exact rAsgn rfl) ?_
  refine WL_nil ?_
  refine W_ret ?_
  exact ret1 4 (.inr rfl) rfl ⟨rfl, hI.pu⟩
theorem sameTh_any (ta tg ua ug : Option Nat) (T : Tag → Option Int) (G : Tag → Bool) (w0 : World) (h : ThR w0 ta tg T G) (h' : ThR w0 ua ug T G) :
    Calls Try.prog 78 #[thV ta tg, thV ua ug] w0 fun e w' => e = .returned (.bool true) ∧ Pure w0 w' := by
  have hI := Inv.start (fun _ => False) w0
  refine calls_of_W (N := Try.f78.ntmps) Try.func78 rfl rfl rfl ?_
  refine W_seq ?_
  refine W_region ?_
  refine WL_box (u := .agg _) (vs := #[_, _]) hI rfl rfl rfl rfl rfl rfl ?_
  clear hI; rintro b2 w - - hI
  refine WL_box (u := .agg _) (vs := #[_, _]) hI rfl rfl rfl rfl rfl rfl ?_
  clear hI; rintro b3 w - - hI
  refine WL_val rfl rfl rfl (by first | exact rAsgnB rfl rfl | exact rAsgn rfl) ?_
  refine WL_nil ?_
  refine W_seq ?_
  refine W_region ?_
  refine WL_val rfl rfl rfl (by first | exact rFldN (off := 0) rfl (by kernel_rfl) rfl | exact rFld0 rfl (by kernel_rfl) rfl) ?_
  refine WL_val rfl rfl rfl (by first | exact rLd (v := .map _) rfl (by kernel_rfl) rfl (by first | exact hI.c0 rfl | exact hI.c1 rfl) | exact rLd rfl (by kernel_rfl) rfl (by first | exact hI.c0 rfl | exact hI.c1 rfl)) ?_
  refine WL_val rfl rfl rfl (by first | exact rFldN (off := 0) rfl (by kernel_rfl) rfl | exact rFld0 rfl (by kernel_rfl) rfl) ?_
  refine WL_val rfl rfl rfl (by first | exact rLd (v := .map _) rfl (by kernel_rfl) rfl (by first | exact hI.c0 rfl | exact hI.c1 rfl) | exact rLd rfl (by kernel_rfl) rfl (by first | exact hI.c0 rfl | exact hI.c1 rfl)) ?_
  refine WL_call rfl rfl rfl (rCall (vs := [.map _, .map _]) rfl Try.func79 rfl rfl rfl) ?_
  refine (equalI_any ta ua T _ (MapRIs.pure h.1 hI.pu) (MapRIs.pure h'.1 hI.pu)).mono ?_
  rintro e w1 ⟨rfl, hp⟩
  refine ⟨_, rfl, ?_⟩
  replace hI := hI.pure hp
  refine WL_val rfl rfl rfl (by first | exact rMoveB rfl rfl | exact rMove rfl) ?_
  first | refine WL_val rfl rfl rfl (by first | exact rFldN (off := 1) rfl (by kernel_rfl) rfl | exact rFld (off := 1) rfl (by kernel_rfl) rfl) ?_ | refine WL_skip rfl rfl rfl ?_
  first | refine WL_val rfl rfl rfl (by first | exact rLd (v := .map _) rfl (by kernel_rfl) rfl (by first | exact hI.c0 rfl | exact hI.c1 rfl) | exact rLd rfl (by kernel_rfl) rfl (by first | exact hI.c0 rfl | exact hI.c1 rfl)) ?_ | refine WL_skip rfl rfl rfl ?_
  first | refine WL_val rfl rfl rfl (by first | exact rFldN (off := 1) rfl (by kernel_rfl) rfl | exact rFld (off := 1) rfl (by kernel_rfl) rfl) ?_ | refine WL_skip rfl rfl rfl ?_
  first | refine WL_val rfl rfl rfl (by first | exact rLd (v := .map _) rfl (by kernel_rfl) rfl (by first | exact hI.c0 rfl | exact hI.c1 rfl) | exact rLd rfl (by kernel_rfl) rfl (by first | exact hI.c0 rfl | exact hI.c1 rfl)) ?_ | refine WL_skip rfl rfl rfl ?_
  refine WL_call rfl rfl rfl (rCall (vs := [.map _, .map _]) rfl Try.func80 rfl rfl rfl) ?_
  refine (equalG_any tg ug G _ (MapRIs.pure h.2 hI.pu) (MapRIs.pure h'.2 hI.pu)).mono ?_
  rintro e w1 ⟨rfl, hp⟩
  refine ⟨_, rfl, ?_⟩
  replace hI := hI.pure hp
  refine WL_val rfl rfl rfl (by first | exact rPickTB rfl rfl rfl | exact rPickFB rfl rfl rfl | exact rPickB rfl rfl rfl rfl) ?_
  refine WL_val rfl rfl rfl (by first | exact rAsgnB rfl rfl | exact rAsgn rfl) ?_
  refine WL_nil ?_
  refine W_ret ?_
  exact ret1 4 (.inr rfl) rfl ⟨rfl, hI.pu⟩
end Go.Proofs.Ytkfciehgjhgmeaa
