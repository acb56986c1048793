/- merge: sets: Drop, Put, Join. -/
import Derived.Test.YtkfciehgjhgmeaaThg1
import Derived.Test.YtkfciehgjhgmeaaMrg1
namespace Go.Proofs.Ytkfciehgjhgmeaa
open Go.RowKit
set_option linter.unusedVariables false
set_option linter.unusedSimpArgs false
theorem gT_set (T : Tag → Option Int) (a : Tag) (x : Int) : (fun j => if j = a then some (Value.int .i64 x) else gT T j) = gT (fun j => if j = a then some x else T j) := by
  funext j
  by_cases h : j = a <;> simp [gT, h]
theorem gT_del (T : Tag → Option Int) (a : Tag) : (fun j => if j = a then none else gT T j) = gT (fun j => if j = a then none else T j) := by
  funext j
  by_cases h : j = a <;> simp [gT, h]
theorem gG_set (G : Tag → Bool) (a : Tag) : (fun j => if j = a then some unitV else gG G j) = gG (fun j => if j = a then true else G j) := by
  funext j
  by_cases h : j = a <;> simp [gG, h]
theorem gT_some {T : Tag → Option Int} {a : Tag} {v : Value} (h : gT T a = some v) : ∃ n, T a = some n ∧ v = .int .i64 n := by
  unfold gT at h
  cases hT : T a with
  | none => rw [hT] at h; cases h
  | some n => rw [hT] at h; injection h with h; exact ⟨n, rfl, h.symm⟩
theorem gG_some {G : Tag → Bool} {a : Tag} {v : Value} (h : gG G a = some v) : G a = true ∧ v = unitV := by
  unfold gG at h
  split at h
  · rename_i hg; injection h with h; exact ⟨hg, h.symm⟩
  · cases h
theorem gT_is {T : Tag → Option Int} {k : Tag} : (gT T k).isSome = (T k).isSome := by unfold gT; cases T k <;> rfl
theorem gG_is {G : Tag → Bool} {k : Tag} : (gG G k).isSome = G k := by unfold gG; cases G k <;> rfl
/-- A new map is none that was there. -/
theorem newM {w0 w : World} {H : List Ent} {m : Nat} {g : Tag → Option Value} {A : Option Nat} {gs : Tag → Option Value} (i : Nat) (hI : Inv (fun _ => False) w0 w H) (hi : H[i]? = some (MapKE okT kT m g)) (hM : MapRIs okT kT w0 A gs) : ∀ b, A = some b → ¬ DL [MapKE okT kT m g] b := fun b hb hd => by
  subst hb
  obtain ⟨e, he, hd⟩ := hd
  rw [List.mem_singleton.1 he] at hd
  have hlt := MapKIs.lt hM
  have := (hI.own _ (List.mem_of_getElem? hi) b hd).resolve_left (fun h => h)
  omega
theorem oldN {w0 w wr : World} {H : List Ent} {A : Option Nat} {g : Tag → Option Value} (hI : Inv (fun _ => False) w0 w H) (hM : MapRIs okT kT w0 A g) (hr : Pure w0 wr) : ∀ b, A = some b → w.heap[b]? = wr.heap[b]? := fun b hb =>
  (oldM hI hM (fun _ _ h => h) b hb).trans (oldM (Inv.start (fun _ => False) w0 |>.pure hr) hM (fun _ _ h => h) b hb).symm
/-! ### Drop -/
def dropT (T : Tag → Option Int) (x : Int) : Tag → Option Int := fun k => if T k = some x then none else T k
def dropG (T : Tag → Option Int) (G : Tag → Bool) (x : Int) : Tag → Bool := fun k => G k || decide (T k = some x)
def DropI (T : Tag → Option Int) (G : Tag → Bool) (x : Int) (T' : Tag → Option Int) (G' : Tag → Bool) (left : Tag → Prop) : Prop := (∀ k, left k → T' k = T k ∧ G' k = G k) ∧ (∀ k, ¬ left k → T' k = dropT T x k ∧ G' k = dropG T G x k)
theorem DropI.start (T : Tag → Option Int) (G : Tag → Bool) (x : Int) : DropI T G x T G fun k => (gT T k).isSome = true := ⟨fun _ _ => ⟨rfl, rfl⟩, fun k hk => by
  have hn : T k = none := by
    cases h : T k with
    | none => rfl
    | some n => exact absurd (show (gT T k).isSome = true by rw [gT_is, h]; rfl) hk
  unfold dropT dropG
  rw [hn]
  simp⟩
theorem DropI.hit {T : Tag → Option Int} {G : Tag → Bool} {x : Int} {T' : Tag → Option Int} {G' : Tag → Bool} {left : Tag → Prop} {a : Tag} (h : DropI T G x T' G' left) (ha : T a = some x) :
    DropI T G x (fun j => if j = a then none else T' j) (fun j => if j = a then true else G' j) fun k => left k ∧ k ≠ a := by
  refine ⟨fun k hk => ?_, fun k hk => ?_⟩
  · show (if k = a then none else T' k) = _ ∧ (if k = a then true else G' k) = _
    rw [if_neg hk.2, if_neg hk.2]; exact h.1 k hk.1
  · show (if k = a then none else T' k) = _ ∧ (if k = a then true else G' k) = _
    by_cases hka : k = a
    · subst hka
      rw [if_pos rfl, if_pos rfl]
      unfold dropT dropG
      simp [ha]
    · rw [if_neg hka, if_neg hka]
      exact h.2 k fun hl => hk ⟨hl, hka⟩
theorem DropI.miss {T : Tag → Option Int} {G : Tag → Bool} {x : Int} {T' : Tag → Option Int} {G' : Tag → Bool} {left : Tag → Prop} {a : Tag} (h : DropI T G x T' G' left) (hl : left a) (ha : T a ≠ some x) :
    DropI T G x T' G' fun k => left k ∧ k ≠ a := by
  refine ⟨fun k hk => h.1 k hk.1, fun k hk => ?_⟩
  by_cases hka : k = a
  · subst hka
    obtain ⟨h1, h2⟩ := h.1 k hl
    rw [h1, h2]
    unfold dropT dropG
    rw [if_neg ha, decide_eq_false ha, Bool.or_false]
    exact ⟨rfl, rfl⟩
  · exact h.2 k fun hl => hk ⟨hl, hka⟩
theorem DropI.done {T : Tag → Option Int} {G : Tag → Bool} {x : Int} {T' : Tag → Option Int} {G' : Tag → Bool} {left : Tag → Prop} (h : DropI T G x T' G' left) (hl : ∀ k, ¬ left k) : T' = dropT T x ∧ G' = dropG T G x := ⟨funext fun k => (h.2 k (hl k)).1, funext fun k => (h.2 k (hl k)).2⟩
/-- What is told: a set of its own. -/
def ThPost (T : Tag → Option Int) (G : Tag → Bool) (w0 : World) (en : Ending) (w' : World) : Prop := ∃ A B, en = .returned (thV A B) ∧ Inv (fun _ => False) w0 w' [ThE A B T G]
set_option maxHeartbeats 4000000 in
theorem dropTh_any (ta tg : Option Nat) (T : Tag → Option Int) (G : Tag → Bool) (x : Int) (w0 : World) (h : ThR w0 ta tg T G) :
    Calls Try.prog 12 #[thV ta tg, .int .i64 x] w0 (ThPost (dropT T x) (dropG T G x) w0) := by
  have hI := Inv.start (fun _ => False) w0
  refine calls_of_W (N := Try.f12.ntmps) Try.func12 rfl rfl rfl ?_
  refine W_seq ?_
  refine W_region ?_
  refine WL_box (u := .agg _) (vs := #[_, _]) hI rfl rfl rfl rfl rfl rfl ?_
  clear hI; rintro b2 w - - hI
  refine WL_alloc (u := .agg #[.map none, .map none]) (vs := #[.map none, .map none]) hI rfl rfl rfl rfl (by kernel_rfl) rfl ?_
  clear hI; rintro b4 w - - hI
  refine WL_nil ?_
  refine W_seq ?_
  refine W_region ?_
  refine WL_val rfl rfl rfl (by first | exact rLdB (n := 2) rfl (by kernel_rfl) (by kernel_rfl) rfl rfl hI.g0 | exact rLdB (n := 2) rfl (by kernel_rfl) (by kernel_rfl) rfl rfl hI.g1 | exact rLdB (n := 2) rfl (by kernel_rfl) (by kernel_rfl) rfl rfl hI.g2 | exact rLd2 rfl (by kernel_rfl) (by kernel_rfl) rfl (by first | exact hI.c0 rfl | exact hI.c1 rfl | exact hI.c2 rfl) (by first | exact hI.c0 rfl | exact hI.c1 rfl | exact hI.c2 rfl)) ?_
  refine WL_call rfl rfl rfl (rCall (vs := [.agg _]) rfl Try.func24 rfl rfl rfl) ?_
  refine (cloneTh_any ta tg T G _ (h.pure hI.pu)).mono ?_
  rintro e w1 ⟨ma, mb, rfl, hJ⟩
  refine ⟨_, rfl, ?_⟩
  replace hI := hI.app2 hJ
  refine WL_alloc (u := .agg #[.map none, .map none]) (vs := #[.map none, .map none]) hI rfl rfl rfl rfl (by kernel_rfl) rfl ?_
  clear hI; rintro b5 w - - hI
  first | refine WL_stw0 (u := .agg _) (vs := #[_, _]) (n := 2) hI rfl rfl rfl rfl rfl rfl (by kernel_rfl) rfl rfl rfl ?_ | refine WL_stw1 (u := .agg _) (vs := #[_, _]) (n := 2) hI rfl rfl rfl rfl rfl rfl (by kernel_rfl) rfl rfl rfl ?_ | refine WL_stw2 (u := .agg _) (vs := #[_, _]) (n := 2) hI rfl rfl rfl rfl rfl rfl (by kernel_rfl) rfl rfl rfl ?_
  clear hI; intro w hI
  refine WL_nil ?_
  refine W_seq ?_
  refine W_seq ?_
  refine W_region ?_
  refine WL_val rfl rfl rfl (by first | exact rFldN (off := 0) rfl (by kernel_rfl) rfl | exact rFld0 rfl (by kernel_rfl) rfl) ?_
  refine WL_val rfl rfl rfl (by first | exact rLd (v := .map _) rfl (by kernel_rfl) rfl (by first | exact hI.c0 rfl | exact hI.c1 rfl | exact hI.c2 rfl | exact hI.c3 rfl | exact hI.c4 rfl) | exact rLd rfl (by kernel_rfl) rfl (by first | exact hI.c0 rfl | exact hI.c1 rfl | exact hI.c2 rfl | exact hI.c3 rfl | exact hI.c4 rfl)) ?_
  have hpw := hI.pu
  refine WL_rangeR (h.1.pure hI.pu) hI rfl rfl rfl rfl Try.underlying33 rfl ?_
  clear hI; intro br cnt w hI
  refine WL_nil ?_
  refine W_block ?_
  refine W_loopN (fun mu ρ w => ∃ (wr : World) (left : Tag → Prop) (cur : Option Tag) (T' : Tag → Option Int) (G' : Tag → Bool), Pure w0 wr ∧ DropI T G x T' G' left ∧ Has ρ [(12, .pointer (some ⟨br, 0, none⟩)), (1, .int .i64 x), (5, .pointer (some ⟨b5, 0, none⟩)), (4, .pointer (some ⟨b4, 0, none⟩))] ∧ Inv (fun _ => False) w0 w [RngR okT kT wr ta br (gT T) left mu cur, B b5 36 #[.map (some ma), .map (some mb)], MapKE okT kT ma (gT T'), MapKE okT kT mb (gG G'), B b4 36 #[.map none, .map none]]) cnt
    ⟨_, _, _, _, _, hpw, DropI.start T G x, ⟨rfl, rfl, rfl, rfl, trivial⟩, hI.d5⟩ ?_
  clear hI
  rintro mu ρ w ⟨wr, left, cur, T', G', hpr, hD, hH, hI⟩
  obtain ⟨σ, rfl⟩ := hH.open
  refine W_seq ?_
  refine W_region ?_
  refine WL_nextR 0 rfl hI (oldN hI h.1 hpr) rfl rfl rfl rfl rfl (fun hnone => ?_) ?_
  rotate_left
  · clear hI
    rintro a v w hla hga hmu hI
    simp only [List.set_cons_zero] at hI
    obtain ⟨n, hTa, rfl⟩ := gT_some hga
    obtain ⟨p, q⟩ := a
    refine WL_val rfl rfl rfl (rExtr rfl rfl rfl) ?_
    refine WL_nil ?_
    refine W_seq ?_
    refine W_cond true rfl ?_
    refine W_skip ?_
    refine W_block ?_
    refine W_seq ?_
    refine W_region ?_
    refine WL_val rfl rfl rfl (rEntryR hga rfl rfl (oldN hI h.1 hpr) hI.g0) ?_
    refine WL_val rfl rfl rfl (rExtr rfl rfl rfl) ?_
    refine WL_val rfl rfl rfl (rExtr rfl rfl rfl) ?_
    refine WL_alloc (u := .agg #[.int .i64 0, .int .i64 0]) (vs := #[.int .i64 0, .int .i64 0]) hI rfl rfl rfl rfl (by kernel_rfl) rfl ?_
    clear hI; rintro b6 w - - hI
    first | refine WL_stw0 (u := .agg _) (vs := #[_, _]) (n := 2) hI rfl rfl rfl rfl rfl rfl (by kernel_rfl) rfl rfl rfl ?_ | refine WL_stw1 (u := .agg _) (vs := #[_, _]) (n := 2) hI rfl rfl rfl rfl rfl rfl (by kernel_rfl) rfl rfl rfl ?_ | refine WL_stw2 (u := .agg _) (vs := #[_, _]) (n := 2) hI rfl rfl rfl rfl rfl rfl (by kernel_rfl) rfl rfl rfl ?_ | refine WL_stw3 (u := .agg _) (vs := #[_, _]) (n := 2) hI rfl rfl rfl rfl rfl rfl (by kernel_rfl) rfl rfl rfl ?_ | refine WL_stw4 (u := .agg _) (vs := #[_, _]) (n := 2) hI rfl rfl rfl rfl rfl rfl (by kernel_rfl) rfl rfl rfl ?_ | refine WL_stw5 (u := .agg _) (vs := #[_, _]) (n := 2) hI rfl rfl rfl rfl rfl rfl (by kernel_rfl) rfl rfl rfl ?_
    clear hI; intro w hI
    refine WL_val rfl rfl rfl (by first | exact rAsgnI rfl rfl | exact rAsgn rfl) ?_
    refine WL_nil ?_
    by_cases hn : n = x
    · refine W_seq ?_
      refine W_region ?_
      refine WL_val rfl rfl rfl (by first | exact rMoveI rfl rfl | exact rMove rfl) ?_
      refine WL_val rfl rfl rfl (by first | exact rMoveI rfl rfl | exact rMove rfl) ?_
      refine WL_val rfl rfl rfl (by first | exact rEqlT rfl rfl rfl (by omega) | exact rEqlF rfl rfl rfl (by omega) | exact rEql rfl rfl rfl) ?_
      refine WL_nil ?_
      refine W_cond true rfl ?_
      refine W_seq ?_
      refine W_region ?_
      refine WL_val rfl rfl rfl (by first | exact rFldN (off := 0) rfl (by kernel_rfl) rfl | exact rFld0 rfl (by kernel_rfl) rfl) ?_
      refine WL_val rfl rfl rfl (by first | exact rLd (v := .map _) rfl (by kernel_rfl) rfl (by first | exact hI.c0 rfl | exact hI.c1 rfl | exact hI.c2 rfl | exact hI.c3 rfl) | exact rLd rfl (by kernel_rfl) rfl (by first | exact hI.c0 rfl | exact hI.c1 rfl | exact hI.c2 rfl | exact hI.c3 rfl)) ?_
      refine WL_val rfl rfl rfl (by first | exact rLdB (n := 2) rfl (by kernel_rfl) (by kernel_rfl) rfl rfl hI.g0 | exact rLdB (n := 2) rfl (by kernel_rfl) (by kernel_rfl) rfl rfl hI.g1 | exact rLdB (n := 2) rfl (by kernel_rfl) (by kernel_rfl) rfl rfl hI.g2 | exact rLdB (n := 2) rfl (by kernel_rfl) (by kernel_rfl) rfl rfl hI.g3 | exact rLd2 rfl (by kernel_rfl) (by kernel_rfl) rfl (by first | exact hI.c0 rfl | exact hI.c1 rfl | exact hI.c2 rfl | exact hI.c3 rfl) (by first | exact hI.c0 rfl | exact hI.c1 rfl | exact hI.c2 rfl | exact hI.c3 rfl)) ?_
      refine WL_mapDelK (a := ((p, q) : Tag)) keyT 3 rfl hI rfl rfl rfl Try.underlying33 rfl rfl trivial ?_
      clear hI; intro w hI
      simp only [List.set_cons_succ, List.set_cons_zero] at hI
      rw [gT_del] at hI
      refine WL_nil ?_
      refine W_region ?_
      refine WL_val rfl rfl rfl (by first | exact rFldN (off := 1) rfl (by kernel_rfl) rfl | exact rFld (off := 1) rfl (by kernel_rfl) rfl) ?_
      refine WL_val rfl rfl rfl (by first | exact rLd (v := .map _) rfl (by kernel_rfl) rfl (by first | exact hI.c0 rfl | exact hI.c1 rfl | exact hI.c2 rfl | exact hI.c3 rfl) | exact rLd rfl (by kernel_rfl) rfl (by first | exact hI.c0 rfl | exact hI.c1 rfl | exact hI.c2 rfl | exact hI.c3 rfl)) ?_
      refine WL_val rfl rfl rfl (by first | exact rLdB (n := 2) rfl (by kernel_rfl) (by kernel_rfl) rfl rfl hI.g0 | exact rLdB (n := 2) rfl (by kernel_rfl) (by kernel_rfl) rfl rfl hI.g1 | exact rLdB (n := 2) rfl (by kernel_rfl) (by kernel_rfl) rfl rfl hI.g2 | exact rLdB (n := 2) rfl (by kernel_rfl) (by kernel_rfl) rfl rfl hI.g3 | exact rLd2 rfl (by kernel_rfl) (by kernel_rfl) rfl (by first | exact hI.c0 rfl | exact hI.c1 rfl | exact hI.c2 rfl | exact hI.c3 rfl) (by first | exact hI.c0 rfl | exact hI.c1 rfl | exact hI.c2 rfl | exact hI.c3 rfl)) ?_
      refine WL_val rfl rfl rfl (rBuild (qs := []) (vs := []) [] [] rfl rfl rfl (fun _ => by kernel_rfl)) ?_
      refine WL_mapSetK (a := ((p, q) : Tag)) (v := unitV) keyT 4 rfl hI rfl rfl rfl Try.underlying34 rfl rfl rfl trivial ?_
      clear hI; intro w hI
      simp only [List.set_cons_succ, List.set_cons_zero] at hI
      rw [gG_set] at hI
      refine WL_nil ?_
      exact ⟨mu - 1, by omega, _, _, _, _, _, hpr, hD.hit (by rw [hTa, hn]), ⟨rfl, rfl, rfl, rfl, trivial⟩, hI.d0⟩
    · refine W_seq ?_
      refine W_region ?_
      refine WL_val rfl rfl rfl (by first | exact rMoveI rfl rfl | exact rMove rfl) ?_
      refine WL_val rfl rfl rfl (by first | exact rMoveI rfl rfl | exact rMove rfl) ?_
      refine WL_val rfl rfl rfl (by first | exact rEqlT rfl rfl rfl (by omega) | exact rEqlF rfl rfl rfl (by omega) | exact rEql rfl rfl rfl) ?_
      refine WL_nil ?_
      refine W_cond false rfl ?_
      refine W_skip ?_
      exact ⟨mu - 1, by omega, _, _, _, _, _, hpr, hD.miss hla (by rw [hTa]; intro e; injection e with e; exact hn e), ⟨rfl, rfl, rfl, rfl, trivial⟩, hI.d0⟩
  refine WL_val rfl rfl rfl (rExtr rfl rfl rfl) ?_
  refine WL_nil ?_
  refine W_seq ?_
  refine W_cond false rfl ?_
  refine W_exit ?_
  obtain ⟨e1, e2⟩ := hD.done hnone
  subst e1 e2
  refine W_seq ?_
  refine W_region ?_
  refine WL_val rfl rfl rfl (by first | exact rLdB (n := 2) rfl (by kernel_rfl) (by kernel_rfl) rfl rfl hI.g0 | exact rLdB (n := 2) rfl (by kernel_rfl) (by kernel_rfl) rfl rfl hI.g1 | exact rLdB (n := 2) rfl (by kernel_rfl) (by kernel_rfl) rfl rfl hI.g2 | exact rLdB (n := 2) rfl (by kernel_rfl) (by kernel_rfl) rfl rfl hI.g3 | exact rLdB (n := 2) rfl (by kernel_rfl) (by kernel_rfl) rfl rfl hI.g4 | exact rLd2 rfl (by kernel_rfl) (by kernel_rfl) rfl (by first | exact hI.c0 rfl | exact hI.c1 rfl | exact hI.c2 rfl | exact hI.c3 rfl | exact hI.c4 rfl) (by first | exact hI.c0 rfl | exact hI.c1 rfl | exact hI.c2 rfl | exact hI.c3 rfl | exact hI.c4 rfl)) ?_
  first | refine WL_stw0 (u := .agg _) (vs := #[_, _]) (n := 2) hI rfl rfl rfl rfl rfl rfl (by kernel_rfl) rfl rfl rfl ?_ | refine WL_stw1 (u := .agg _) (vs := #[_, _]) (n := 2) hI rfl rfl rfl rfl rfl rfl (by kernel_rfl) rfl rfl rfl ?_ | refine WL_stw2 (u := .agg _) (vs := #[_, _]) (n := 2) hI rfl rfl rfl rfl rfl rfl (by kernel_rfl) rfl rfl rfl ?_ | refine WL_stw3 (u := .agg _) (vs := #[_, _]) (n := 2) hI rfl rfl rfl rfl rfl rfl (by kernel_rfl) rfl rfl rfl ?_ | refine WL_stw4 (u := .agg _) (vs := #[_, _]) (n := 2) hI rfl rfl rfl rfl rfl rfl (by kernel_rfl) rfl rfl rfl ?_
  clear hI; intro w hI
  refine WL_nil ?_
  refine W_ret ?_
  exact retC (n := 2) (t := 36) (.inr rfl) rfl rfl (by kernel_rfl) (by kernel_rfl) rfl hI.g4 ⟨some ma, some mb, rfl, (hI.d0.d0.d2).thing⟩
end Go.Proofs.Ytkfciehgjhgmeaa
