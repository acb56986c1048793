/- Who puts in wins: what one place puts in, while another one that did not know of it drops it, is in both together; what is dropped by one who knew is gone. -/
import Derived.Test.YtkfciehgjhgmeaaThg8
import Derived.Test.YtkfciehgjhgmeaaThg9
namespace Go.Proofs.Ytkfciehgjhgmeaa
open Go.RowKit
set_option linter.unusedVariables false
set_option linter.unusedSimpArgs false
theorem nodup_le {α : Type} [BEq α] [LawfulBEq α] : ∀ (l r : List α), l.Nodup → (∀ x ∈ l, x ∈ r) → l.length ≤ r.length
  | [], _, _, _ => Nat.zero_le _
  | a :: l, r, hnd, hs => by
    obtain ⟨h1, h2⟩ := List.nodup_cons.1 hnd
    have ha := hs a (List.mem_cons_self ..)
    have := nodup_le l (r.erase a) h2 (fun x hx => (List.mem_erase_of_ne (show x ≠ a from fun e => h1 (e ▸ hx))).2 (hs x (List.mem_cons_of_mem _ hx)))
    rw [List.length_erase_of_mem ha] at this
    have hp := List.length_pos_of_mem ha
    simp only [List.length_cons]
    omega
/-- Tags of four places, none above forty. -/
def Few (T : Tag → Option Int) : Prop := ∀ k, (T k).isSome = true → 0 ≤ k.1 ∧ k.1 < 4 ∧ 0 ≤ k.2 ∧ k.2 < 40
def boxL : List Tag := (List.range 4).flatMap fun (i : Nat) => (List.range 40).map fun (j : Nat) => (((i : Nat) : Int), ((j : Nat) : Int))
theorem Few.len {T : Tag → Option Int} (h : Few T) (ks : List Tag) (hn : ks.Nodup) (hk : ∀ k ∈ ks, (T k).isSome = true) : ks.length ≤ 1000000 := by
  refine Nat.le_trans (nodup_le ks boxL hn fun k hkm => ?_) (by decide +kernel)
  obtain ⟨h1, h2, h3, h4⟩ := h k (hk k hkm)
  refine List.mem_flatMap.2 ⟨k.1.toNat, List.mem_range.2 (by omega), List.mem_map.2 ⟨k.2.toNat, List.mem_range.2 (by omega), ?_⟩⟩
  obtain ⟨a, b⟩ := k
  dsimp only at *
  rw [show ((a.toNat : Nat) : Int) = a by omega, show ((b.toNat : Nat) : Int) = b by omega]
theorem Few.drop {T : Tag → Option Int} (h : Few T) (x : Int) : Few (dropT T x) := fun k hk => by
  refine h k ?_
  unfold dropT at hk
  split at hk
  · cases hk
  · exact hk
theorem Few.join {T U : Tag → Option Int} {G F : Tag → Bool} (h : Few T) (h' : Few U) : Few (joinT T G U F) := fun k hk => by
  unfold joinT thinT at hk
  split at hk
  · cases hk
  · unfold overT at hk
    cases hu : U k with
    | some v => exact h' k (by rw [hu]; rfl)
    | none => rw [hu] at hk; exact h k hk
section
variable {m x : Int} {T : Tag → Option Int} {G : Tag → Bool} {n : Int}
theorem own_few (h : Own3 30 T G) : Few T := fun k hk => by have := h k (.inl hk); omega
theorem put_few (h : Own3 30 T G) (h0 : 0 ≤ n) (hn : n ≤ 30) : Few (putT T (3, n + 1) x) := fun k hk => by
  by_cases hka : k = (3, n + 1)
  · rw [hka]; exact ⟨by show (0 : Int) ≤ 3; omega, by show (3 : Int) < 4; omega, by show 0 ≤ n + 1; omega, by show n + 1 < 40; omega⟩
  · unfold putT at hk
    rw [if_neg hka] at hk
    exact own_few h k hk
theorem adds_put : ∃ k, putT T (3, n + 1) x k = some x := ⟨(3, n + 1), by unfold putT; rw [if_pos rfl]⟩
theorem adds_drop : ¬ ∃ k, dropT T x k = some x := by
  rintro ⟨k, hk⟩
  unfold dropT at hk
  split at hk
  · cases hk
  · rename_i h; exact h hk
theorem adds_join (h : Own3 30 T G) : ∃ k, joinT (putT T (3, n + 1) x) G (dropT T x) (dropG T G x) k = some x := by
  have h3 : T (3, n + 1) = none := by
    cases ht : T (3, n + 1) with
    | none => rfl
    | some v => have := h (3, n + 1) (.inl (by rw [ht]; rfl)); have : (3 : Int) < 3 := this.2.1; omega
  have hg : G (3, n + 1) = false := by
    cases ht : G (3, n + 1) with
    | false => rfl
    | true => have := h (3, n + 1) (.inr ht); have : (3 : Int) < 3 := this.2.1; omega
  refine ⟨(3, n + 1), ?_⟩
  have e1 : (orG (dropG T G x) G) (3, n + 1) = false := by unfold orG dropG; rw [hg, h3]; simp
  unfold joinT thinT
  rw [e1]
  unfold overT
  have e2 : dropT T x (3, n + 1) = none := by unfold dropT; rw [h3]; simp
  rw [e2]
  show putT T (3, n + 1) x (3, n + 1) = some x
  unfold putT; rw [if_pos rfl]
theorem adds_gone (T : Tag → Option Int) (G : Tag → Bool) : ¬ ∃ k, joinT T G (dropT T x) (dropG T G x) k = some x := by
  rintro ⟨k, hk⟩
  unfold joinT thinT at hk
  split at hk
  · cases hk
  · rename_i hg
    unfold overT at hk
    cases hu : dropT T x k with
    | some v => rw [hu] at hk; exact adds_drop ⟨k, hu.trans hk⟩
    | none =>
      rw [hu] at hk
      have hk : T k = some x := hk
      refine hg ?_
      unfold orG dropG
      rw [hk]; simp
end
theorem bool_of {b : Bool} {p : Prop} (h : b = true ↔ p) (hp : p) : b = true := h.2 hp
theorem bool_no {b : Bool} {p : Prop} (h : b = true ↔ p) (hp : ¬ p) : b = false := Bool.eq_false_iff.2 fun e => hp (h.1 e)
set_option maxHeartbeats 4000000 in
theorem adds_any (A : Option Addr) (n c : Nat) (l : List Int) (thing : Int) (D : Nat → Prop) (w0 : World) (h : Ints w0 D (.slice A n c) l) (hl : l.length = n) :
    Calls Try.prog 5 #[.slice A n c, .int .i64 thing] w0 fun en w' => en = .returned (.bool true) ∧ Pure w0 w' := by
  have hI := Inv.start (fun _ => False) w0
  have hx := pickN_lt thing (n := 6) (by omega)
  refine calls_of_W (N := Try.f5.ntmps) Try.func5 rfl rfl rfl ?_
  refine W_seq ?_
  refine W_region ?_
  refine WL_val rfl rfl rfl (by first | exact rAsgnB rfl rfl | exact rAsgn rfl) ?_
  refine WL_nil ?_
  refine W_seq ?_
  refine W_region ?_
  refine WL_val rfl rfl rfl (by first | exact rMoveI rfl rfl | exact rMove rfl) ?_
  refine WL_call rfl rfl rfl (rCall (vs := [.int .i64 _, .int .i64 _]) rfl Try.func11 rfl rfl rfl) ?_
  refine (pick_any _ 6 _ (by omega) (by omega)).mono ?_
  rintro e w1 ⟨rfl, rfl⟩
  refine ⟨_, rfl, ?_⟩
  refine WL_val rfl rfl rfl (by first | exact rAsgnI rfl rfl | exact rAsgn rfl) ?_
  refine WL_nil ?_
  generalize pickN thing 6 = x at hx
  refine W_seq ?_
  refine W_region ?_
  refine WL_val rfl rfl rfl (by first | exact rMoveS rfl rfl | exact rMove rfl) ?_
  refine WL_call rfl rfl rfl (rCall (vs := [.slice _ _ _]) rfl Try.func15 rfl rfl rfl) ?_
  refine (things_any A n c l D _ (h.chg (hI.pu.chg (fun _ => False)) (fun _ _ h => h)) hl).mono ?_
  rintro e w1 ⟨A1, B1, T, G, rfl, hO, hJ⟩
  refine ⟨_, rfl, ?_⟩
  replace hI := hI.app1 hJ
  refine WL_alloc (u := .agg #[.map none, .map none]) (vs := #[.map none, .map none]) hI rfl rfl rfl rfl (by kernel_rfl) rfl ?_
  clear hI; rintro b5 w - - hI
  first | refine WL_stw0 (u := .agg _) (vs := #[_, _]) (n := 2) hI rfl rfl rfl rfl rfl rfl (by kernel_rfl) rfl rfl rfl ?_ | refine WL_stw1 (u := .agg _) (vs := #[_, _]) (n := 2) hI rfl rfl rfl rfl rfl rfl (by kernel_rfl) rfl rfl rfl ?_ | refine WL_stw2 (u := .agg _) (vs := #[_, _]) (n := 2) hI rfl rfl rfl rfl rfl rfl (by kernel_rfl) rfl rfl rfl ?_ | refine WL_stw3 (u := .agg _) (vs := #[_, _]) (n := 2) hI rfl rfl rfl rfl rfl rfl (by kernel_rfl) rfl rfl rfl ?_ | refine WL_stw4 (u := .agg _) (vs := #[_, _]) (n := 2) hI rfl rfl rfl rfl rfl rfl (by kernel_rfl) rfl rfl rfl ?_ | refine WL_stw5 (u := .agg _) (vs := #[_, _]) (n := 2) hI rfl rfl rfl rfl rfl rfl (by kernel_rfl) rfl rfl rfl ?_
  clear hI; intro w hI
  refine WL_nil ?_
  have tt : ThR w A1 B1 T G := by first | exact hI.g0 | exact hI.g1
  have q5 : w.cell? ⟨b5, 0, none⟩ = some (.map A1) := by first | exact hI.c0 rfl | exact hI.c1 rfl
  have q5' : w.cell? ⟨b5, 1, none⟩ = some (.map B1) := by first | exact hI.c0 rfl | exact hI.c1 rfl
  have hP := hI.pu
  replace hI := Inv.start (fun _ => False) w
  refine W_seq ?_
  refine W_region ?_
  refine WL_val rfl rfl rfl (by first | exact rLdB (n := 2) rfl (by kernel_rfl) (by kernel_rfl) rfl rfl hI.g0 | exact rLd2 rfl (by kernel_rfl) (by kernel_rfl) rfl (by first | exact hI.c0 rfl | exact hI.oldp q5 | exact q5 | exact hI.oldp q5' | exact q5') (by first | exact hI.c0 rfl | exact hI.oldp q5 | exact q5 | exact hI.oldp q5' | exact q5')) ?_
  refine WL_val rfl rfl rfl (by first | exact rMoveI rfl rfl | exact rMove rfl) ?_
  refine WL_call rfl rfl rfl (rCall (vs := [.agg _, .int .i64 _, .int .i64 _]) rfl Try.func13 rfl rfl rfl) ?_
  refine (putTh_any A1 B1 T G 3 (x : Int) 30 _ tt ⟨by omega, by omega, by omega, by omega⟩ ⟨by omega, by omega⟩ (fun key hk _ => (hO key hk).2.2.2)).mono ?_
  rintro e w1 ⟨A2, B2, n', hn0, hnm, hall, rfl, hJ⟩
  refine ⟨_, rfl, ?_⟩
  replace hI := hI.app1 hJ
  refine WL_val rfl rfl rfl (by first | exact rMoveT rfl rfl | exact rMove rfl) ?_
  refine WL_val rfl rfl rfl (rExtr rfl rfl rfl) ?_
  refine WL_val rfl rfl rfl (rExtr rfl rfl rfl) ?_
  refine WL_alloc (u := .agg #[.map none, .map none]) (vs := #[.map none, .map none]) hI rfl rfl rfl rfl (by kernel_rfl) rfl ?_
  clear hI; rintro b6 w - - hI
  first | refine WL_stw0 (u := .agg _) (vs := #[_, _]) (n := 2) hI rfl rfl rfl rfl rfl rfl (by kernel_rfl) rfl rfl rfl ?_
  clear hI; intro w hI
  refine WL_val rfl rfl rfl (by first | exact rAsgnN rfl rfl | exact rAsgnE rfl rfl | exact rAsgn rfl) ?_
  refine WL_nil ?_
  have ta : ThR w A2 B2 (putT T (3, n' + 1) x) G := by first | exact hI.g0 | exact hI.g1
  have q6 : w.cell? ⟨b6, 0, none⟩ = some (.map A2) := by first | exact hI.c0 rfl | exact hI.c1 rfl
  have q6' : w.cell? ⟨b6, 1, none⟩ = some (.map B2) := by first | exact hI.c0 rfl | exact hI.c1 rfl
  have r5 := hI.oldp q5
  have r5' := hI.oldp q5'
  replace tt : ThR w A1 B1 T G := ⟨MapRIs.pure tt.1 hI.pu, MapRIs.pure tt.2 hI.pu⟩
  replace hP := hP.trans hI.pu
  replace hI := Inv.start (fun _ => False) w
  clear q5 q5'
  refine W_seq ?_
  refine W_region ?_
  refine WL_val rfl rfl rfl (by first | exact rLdB (n := 2) rfl (by kernel_rfl) (by kernel_rfl) rfl rfl hI.g0 | exact rLd2 rfl (by kernel_rfl) (by kernel_rfl) rfl (by first | exact hI.c0 rfl | exact hI.oldp r5 | exact r5 | exact hI.oldp r5' | exact r5') (by first | exact hI.c0 rfl | exact hI.oldp r5 | exact r5 | exact hI.oldp r5' | exact r5')) ?_
  refine WL_val rfl rfl rfl (by first | exact rMoveI rfl rfl | exact rMove rfl) ?_
  refine WL_call rfl rfl rfl (rCall (vs := [.agg _, .int .i64 _]) rfl Try.func12 rfl rfl rfl) ?_
  refine (dropTh_any A1 B1 T G (x : Int) _ tt).mono ?_
  rintro e w1 ⟨A3, B3, rfl, hJ⟩
  refine ⟨_, rfl, ?_⟩
  replace hI := hI.app1 hJ
  refine WL_alloc (u := .agg #[.map none, .map none]) (vs := #[.map none, .map none]) hI rfl rfl rfl rfl (by kernel_rfl) rfl ?_
  clear hI; rintro b8 w - - hI
  first | refine WL_stw0 (u := .agg _) (vs := #[_, _]) (n := 2) hI rfl rfl rfl rfl rfl rfl (by kernel_rfl) rfl rfl rfl ?_
  clear hI; intro w hI
  refine WL_nil ?_
  have tb : ThR w A3 B3 (dropT T x) (dropG T G x) := by first | exact hI.g0 | exact hI.g1
  have q8 : w.cell? ⟨b8, 0, none⟩ = some (.map A3) := by first | exact hI.c0 rfl | exact hI.c1 rfl
  have q8' : w.cell? ⟨b8, 1, none⟩ = some (.map B3) := by first | exact hI.c0 rfl | exact hI.c1 rfl
  have r6 := hI.oldp q6
  have r6' := hI.oldp q6'
  replace ta : ThR w A2 B2 _ G := ⟨MapRIs.pure ta.1 hI.pu, MapRIs.pure ta.2 hI.pu⟩
  replace hP := hP.trans hI.pu
  replace hI := Inv.start (fun _ => False) w
  clear q6 q6' r5 r5'
  refine W_seq ?_
  refine W_seq ?_
  refine W_region ?_
  refine WL_call rfl rfl rfl (rCall (vs := []) rfl Try.func6 rfl rfl rfl) ?_
  refine (counted_any _).mono ?_
  rintro e w ⟨rfl, hp⟩
  refine ⟨_, rfl, ?_⟩
  replace hI := hI.pure hp
  refine WL_val rfl rfl rfl (by first | exact rNotT rfl rfl | exact rNotF rfl rfl | exact rNot rfl rfl) ?_
  refine WL_val rfl rfl rfl (by first | exact rMoveB rfl rfl | exact rMove rfl) ?_
  first | refine WL_val rfl rfl rfl (by first | exact rMoveN rfl rfl | exact rMoveE rfl rfl | exact rMove rfl) ?_ | refine WL_skip rfl rfl rfl ?_
  first | refine WL_val rfl rfl rfl (by first | exact rIfaceNe rfl Try.underlying40 rfl rfl | exact rNilNe rfl Try.underlying40 rfl) ?_ | refine WL_skip rfl rfl rfl ?_
  refine WL_val rfl rfl rfl (by first | exact rPickTB rfl rfl rfl | exact rPickFB rfl rfl rfl | exact rPickB rfl rfl rfl rfl) ?_
  refine WL_nil ?_
  refine W_cond false rfl ?_
  refine W_skip ?_
  replace tb : ThR w A3 B3 _ _ := ⟨MapRIs.pure tb.1 hI.pu, MapRIs.pure tb.2 hI.pu⟩
  replace ta : ThR w A2 B2 _ G := ⟨MapRIs.pure ta.1 hI.pu, MapRIs.pure ta.2 hI.pu⟩
  have s6 := hI.oldp r6
  have s6' := hI.oldp r6'
  have s8 := hI.oldp q8
  have s8' := hI.oldp q8'
  replace hP := hP.trans hI.pu
  replace hI := Inv.start (fun _ => False) w
  clear r6 r6' q8 q8'
  refine W_seq ?_
  refine W_region ?_
  refine WL_val rfl rfl rfl (by first | exact rLdB (n := 2) rfl (by kernel_rfl) (by kernel_rfl) rfl rfl hI.g0 | exact rLd2 rfl (by kernel_rfl) (by kernel_rfl) rfl (by first | exact hI.c0 rfl | exact hI.oldp s6 | exact s6 | exact hI.oldp s6' | exact s6' | exact hI.oldp s8 | exact s8 | exact hI.oldp s8' | exact s8') (by first | exact hI.c0 rfl | exact hI.oldp s6 | exact s6 | exact hI.oldp s6' | exact s6' | exact hI.oldp s8 | exact s8 | exact hI.oldp s8' | exact s8')) ?_
  refine WL_val rfl rfl rfl (by first | exact rLdB (n := 2) rfl (by kernel_rfl) (by kernel_rfl) rfl rfl hI.g0 | exact rLd2 rfl (by kernel_rfl) (by kernel_rfl) rfl (by first | exact hI.c0 rfl | exact hI.oldp s6 | exact s6 | exact hI.oldp s6' | exact s6' | exact hI.oldp s8 | exact s8 | exact hI.oldp s8' | exact s8') (by first | exact hI.c0 rfl | exact hI.oldp s6 | exact s6 | exact hI.oldp s6' | exact s6' | exact hI.oldp s8 | exact s8 | exact hI.oldp s8' | exact s8')) ?_
  refine WL_call rfl rfl rfl (rCall (vs := [.agg _, .agg _]) rfl Try.func16 rfl rfl rfl) ?_
  refine (joinTh_any A2 B2 A3 B3 _ G _ _ _ ta tb).mono ?_
  rintro e w1 ⟨A4, B4, rfl, hJ⟩
  refine ⟨_, rfl, ?_⟩
  replace hI := hI.app1 hJ
  refine WL_alloc (u := .agg #[.map none, .map none]) (vs := #[.map none, .map none]) hI rfl rfl rfl rfl (by kernel_rfl) rfl ?_
  clear hI; rintro b9 w - - hI
  first | refine WL_stw0 (u := .agg _) (vs := #[_, _]) (n := 2) hI rfl rfl rfl rfl rfl rfl (by kernel_rfl) rfl rfl rfl ?_
  clear hI; intro w hI
  refine WL_nil ?_
  have tj := (by first | exact hI.g0 | exact hI.g1 : ThR w A4 B4 (joinT (putT T (3, n' + 1) x) G (dropT T x) (dropG T G x)) (orG (dropG T G x) G))
  have q9 : w.cell? ⟨b9, 0, none⟩ = some (.map A4) := by first | exact hI.c0 rfl | exact hI.c1 rfl
  have q9' : w.cell? ⟨b9, 1, none⟩ = some (.map B4) := by first | exact hI.c0 rfl | exact hI.c1 rfl
  replace tb : ThR w A3 B3 _ _ := ⟨MapRIs.pure tb.1 hI.pu, MapRIs.pure tb.2 hI.pu⟩
  replace ta : ThR w A2 B2 _ G := ⟨MapRIs.pure ta.1 hI.pu, MapRIs.pure ta.2 hI.pu⟩
  have r6 := hI.oldp s6
  have r6' := hI.oldp s6'
  have r8 := hI.oldp s8
  have r8' := hI.oldp s8'
  replace hP := hP.trans hI.pu
  replace hI := Inv.start (fun _ => False) w
  clear s6 s6' s8 s8'
  have hfa : Few (putT T (3, n' + 1) x) := put_few hO hn0 hnm
  have hfb : Few (dropT T x) := (own_few hO).drop x
  have hfj : Few (joinT (putT T (3, n' + 1) x) G (dropT T x) (dropG T G x)) := hfa.join hfb
  have hyes := adds_join (n := n') (x := x) hO
  refine W_seq_cut (fun ρ w' => ∃ (A6 B6 : Option Nat) (b10 : Nat), Has ρ [(1, .int .i64 (x : Int)), (6, .pointer (some ⟨b6, 0, none⟩)), (8, .pointer (some ⟨b8, 0, none⟩)), (9, .pointer (some ⟨b9, 0, none⟩)), (10, .pointer (some ⟨b10, 0, none⟩))] ∧
    ThR w' A6 B6 (joinT (putT T (3, n' + 1) x) G (dropT (putT T (3, n' + 1) x) x) (dropG (putT T (3, n' + 1) x) G x)) (orG (dropG (putT T (3, n' + 1) x) G x) G) ∧ w'.cell? ⟨b10, 0, none⟩ = some (.map A6) ∧ w'.cell? ⟨b10, 1, none⟩ = some (.map B6) ∧ Pure w w') ?_ ?_
  · refine W_draw (by kernel_rfl) ?_
    refine WA_inv (T := []) hI.drew ?_
    intro Sx hSx hXS
    replace hI := hI.drew
    refine WT_take 0 rfl rfl (by kernel_rfl) (hXS _ hI) rfl (fun W hW => have hI := hSx W hW; (by first | exact rLdB (n := 2) rfl (by kernel_rfl) (by kernel_rfl) rfl rfl hI.g0 | exact rLdB (n := 2) rfl (by kernel_rfl) (by kernel_rfl) rfl rfl hI.g1 | exact rLdB (n := 2) rfl (by kernel_rfl) (by kernel_rfl) rfl rfl hI.g2 | exact rLd2 rfl (by kernel_rfl) (by kernel_rfl) rfl (by first | exact hI.c0 rfl | exact hI.c1 rfl | exact hI.c2 rfl | exact hI.oldp r6 | exact r6 | exact hI.oldp r6' | exact r6') (by first | exact hI.c0 rfl | exact hI.c1 rfl | exact hI.c2 rfl | exact hI.oldp r6 | exact r6 | exact hI.oldp r6' | exact r6'))) ?_
    refine WT_take 1 rfl rfl (by kernel_rfl) (hXS _ hI) rfl (fun W hW => have hI := hSx W hW; (by first | exact rLdB (n := 2) rfl (by kernel_rfl) (by kernel_rfl) rfl rfl hI.g0 | exact rLdB (n := 2) rfl (by kernel_rfl) (by kernel_rfl) rfl rfl hI.g1 | exact rLdB (n := 2) rfl (by kernel_rfl) (by kernel_rfl) rfl rfl hI.g2 | exact rLd2 rfl (by kernel_rfl) (by kernel_rfl) rfl (by first | exact hI.c0 rfl | exact hI.c1 rfl | exact hI.c2 rfl | exact hI.oldp r6 | exact r6 | exact hI.oldp r6' | exact r6') (by first | exact hI.c0 rfl | exact hI.c1 rfl | exact hI.c2 rfl | exact hI.oldp r6 | exact r6 | exact hI.oldp r6' | exact r6'))) ?_
    refine WT_take 2 rfl rfl (by kernel_rfl) (hXS _ hI) rfl (fun W hW => have hI := hSx W hW; (by first | exact rMoveI rfl rfl | exact rMove rfl)) ?_
    refine WT_two 3 5 rfl rfl (by kernel_rfl) rfl rfl ?_ ?_
    · refine WL_call rfl rfl rfl (rCall (vs := [.agg _, .int .i64 _]) rfl Try.func12 rfl rfl rfl) ?_
      refine (dropTh_any A2 B2 _ G (x : Int) _ ⟨MapRIs.pure ta.1 hI.pu, MapRIs.pure ta.2 hI.pu⟩).mono ?_
      rintro e w1 ⟨A5, B5, rfl, hJ⟩
      refine ⟨_, rfl, ?_⟩
      replace hI := hI.app1 hJ
      refine WL_nil ⟨hXS _ hI.d0, ?_⟩
      refine WT_two 4 5 rfl rfl (by kernel_rfl) rfl rfl ?_ ?_
      · refine WL_call rfl rfl rfl (rCall (vs := [.agg _, .agg _]) rfl Try.func16 rfl rfl rfl) ?_
        refine (joinTh_any A2 B2 A5 B5 _ G _ _ _ ⟨MapRIs.pure ta.1 hI.pu, MapRIs.pure ta.2 hI.pu⟩ (by first | exact hI.g0 | exact hI.g1)).mono ?_
        rintro e w1 ⟨A6, B6, rfl, hJ⟩
        refine ⟨_, rfl, ?_⟩
        replace hI := hI.app1 hJ
        refine WL_nil ⟨hXS _ hI.d0.d0, ?_⟩
        refine WT_one 5 rfl (by kernel_rfl) rfl ?_
        refine WL_alloc (u := .agg #[.map none, .map none]) (vs := #[.map none, .map none]) hI rfl rfl rfl rfl (by kernel_rfl) rfl ?_
        clear hI; rintro b10 w - - hI
        refine WL_nil ⟨hXS _ hI.d0.d0.d0, ?_⟩
        refine WT_one 6 rfl (by kernel_rfl) rfl ?_
        first | refine WL_stw0 (u := .agg _) (vs := #[_, _]) (n := 2) hI rfl rfl rfl rfl rfl rfl (by kernel_rfl) rfl rfl rfl ?_ | refine WL_stw1 (u := .agg _) (vs := #[_, _]) (n := 2) hI rfl rfl rfl rfl rfl rfl (by kernel_rfl) rfl rfl rfl ?_ | refine WL_stw2 (u := .agg _) (vs := #[_, _]) (n := 2) hI rfl rfl rfl rfl rfl rfl (by kernel_rfl) rfl rfl rfl ?_
        clear hI; intro w hI
        refine WL_nil ⟨hXS _ hI.d0.d0.d0, ?_⟩
        refine WT_end (by kernel_rfl) ?_
        exact ⟨A6, B6, b10, ⟨rfl, rfl, rfl, rfl, rfl, trivial⟩, by first | exact hI.g0 | exact hI.g1 | exact hI.g2, by first | exact hI.c0 rfl | exact hI.c1 rfl | exact hI.c2 rfl, by first | exact hI.c0 rfl | exact hI.c1 rfl | exact hI.c2 rfl, hI.pu⟩
      · refine WL_alloc (u := .agg #[.map none, .map none]) (vs := #[.map none, .map none]) hI rfl rfl rfl rfl (by kernel_rfl) rfl ?_
        clear hI; rintro b10 w - - hI
        refine WL_nil ⟨hXS _ hI.d0.d0, ?_⟩
        refine WT_one 4 rfl (by kernel_rfl) rfl ?_
        refine WL_call rfl rfl rfl (rCall (vs := [.agg _, .agg _]) rfl Try.func16 rfl rfl rfl) ?_
        refine (joinTh_any A2 B2 A5 B5 _ G _ _ _ ⟨MapRIs.pure ta.1 hI.pu, MapRIs.pure ta.2 hI.pu⟩ (by first | exact hI.g0 | exact hI.g1)).mono ?_
        rintro e w1 ⟨A6, B6, rfl, hJ⟩
        refine ⟨_, rfl, ?_⟩
        replace hI := hI.app1 hJ
        refine WL_nil ⟨hXS _ hI.d0.d0.d0, ?_⟩
        refine WT_one 6 rfl (by kernel_rfl) rfl ?_
        first | refine WL_stw0 (u := .agg _) (vs := #[_, _]) (n := 2) hI rfl rfl rfl rfl rfl rfl (by kernel_rfl) rfl rfl rfl ?_ | refine WL_stw1 (u := .agg _) (vs := #[_, _]) (n := 2) hI rfl rfl rfl rfl rfl rfl (by kernel_rfl) rfl rfl rfl ?_ | refine WL_stw2 (u := .agg _) (vs := #[_, _]) (n := 2) hI rfl rfl rfl rfl rfl rfl (by kernel_rfl) rfl rfl rfl ?_
        clear hI; intro w hI
        refine WL_nil ⟨hXS _ hI.d0.d0.d0, ?_⟩
        refine WT_end (by kernel_rfl) ?_
        exact ⟨A6, B6, b10, ⟨rfl, rfl, rfl, rfl, rfl, trivial⟩, by first | exact hI.g0 | exact hI.g1 | exact hI.g2, by first | exact hI.c0 rfl | exact hI.c1 rfl | exact hI.c2 rfl, by first | exact hI.c0 rfl | exact hI.c1 rfl | exact hI.c2 rfl, hI.pu⟩
    · refine WL_alloc (u := .agg #[.map none, .map none]) (vs := #[.map none, .map none]) hI rfl rfl rfl rfl (by kernel_rfl) rfl ?_
      clear hI; rintro b10 w - - hI
      refine WL_nil ⟨hXS _ hI.d0, ?_⟩
      refine WT_one 3 rfl (by kernel_rfl) rfl ?_
      refine WL_call rfl rfl rfl (rCall (vs := [.agg _, .int .i64 _]) rfl Try.func12 rfl rfl rfl) ?_
      refine (dropTh_any A2 B2 _ G (x : Int) _ ⟨MapRIs.pure ta.1 hI.pu, MapRIs.pure ta.2 hI.pu⟩).mono ?_
      rintro e w1 ⟨A5, B5, rfl, hJ⟩
      refine ⟨_, rfl, ?_⟩
      replace hI := hI.app1 hJ
      refine WL_nil ⟨hXS _ hI.d0.d0, ?_⟩
      refine WT_one 4 rfl (by kernel_rfl) rfl ?_
      refine WL_call rfl rfl rfl (rCall (vs := [.agg _, .agg _]) rfl Try.func16 rfl rfl rfl) ?_
      refine (joinTh_any A2 B2 A5 B5 _ G _ _ _ ⟨MapRIs.pure ta.1 hI.pu, MapRIs.pure ta.2 hI.pu⟩ (by first | exact hI.g0 | exact hI.g1)).mono ?_
      rintro e w1 ⟨A6, B6, rfl, hJ⟩
      refine ⟨_, rfl, ?_⟩
      replace hI := hI.app1 hJ
      refine WL_nil ⟨hXS _ hI.d0.d0.d0, ?_⟩
      refine WT_one 6 rfl (by kernel_rfl) rfl ?_
      first | refine WL_stw0 (u := .agg _) (vs := #[_, _]) (n := 2) hI rfl rfl rfl rfl rfl rfl (by kernel_rfl) rfl rfl rfl ?_ | refine WL_stw1 (u := .agg _) (vs := #[_, _]) (n := 2) hI rfl rfl rfl rfl rfl rfl (by kernel_rfl) rfl rfl rfl ?_ | refine WL_stw2 (u := .agg _) (vs := #[_, _]) (n := 2) hI rfl rfl rfl rfl rfl rfl (by kernel_rfl) rfl rfl rfl ?_
      clear hI; intro w hI
      refine WL_nil ⟨hXS _ hI.d0.d0.d0, ?_⟩
      refine WT_end (by kernel_rfl) ?_
      exact ⟨A6, B6, b10, ⟨rfl, rfl, rfl, rfl, rfl, trivial⟩, by first | exact hI.g0 | exact hI.g1 | exact hI.g2, by first | exact hI.c0 rfl | exact hI.c1 rfl | exact hI.c2 rfl, by first | exact hI.c0 rfl | exact hI.c1 rfl | exact hI.c2 rfl, hI.pu⟩
  clear hI
  rintro ρ w' ⟨A6, B6, b10, hH, tk, q10, q10', hpw⟩
  obtain ⟨σ, rfl⟩ := hH.open
  have tj' : ThR w' A4 B4 _ _ := ⟨MapRIs.pure tj.1 hpw, MapRIs.pure tj.2 hpw⟩
  have tb' : ThR w' A3 B3 _ _ := ⟨MapRIs.pure tb.1 hpw, MapRIs.pure tb.2 hpw⟩
  have ta' : ThR w' A2 B2 _ G := ⟨MapRIs.pure ta.1 hpw, MapRIs.pure ta.2 hpw⟩
  have hfk : Few (joinT (putT T (3, n' + 1) x) G (dropT (putT T (3, n' + 1) x) x) (dropG (putT T (3, n' + 1) x) G x)) := hfa.join (hfa.drop x)
  have hI := Inv.start (fun _ => False) w
  replace hI := hI.pure hpw
  refine W_seq ?_
  refine W_region ?_
  refine WL_val rfl rfl rfl (by first | exact rLdB (n := 2) rfl (by kernel_rfl) (by kernel_rfl) rfl rfl hI.g0 | exact rLd2 rfl (by kernel_rfl) (by kernel_rfl) rfl (by first | exact hI.c0 rfl | exact hI.oldp q9 | exact q9 | exact hI.oldp q9' | exact q9' | exact hI.oldp r8 | exact r8 | exact hI.oldp r8' | exact r8' | exact hI.oldp q10 | exact q10 | exact hI.oldp q10' | exact q10' | exact hI.oldp r6 | exact r6 | exact hI.oldp r6' | exact r6') (by first | exact hI.c0 rfl | exact hI.oldp q9 | exact q9 | exact hI.oldp q9' | exact q9' | exact hI.oldp r8 | exact r8 | exact hI.oldp r8' | exact r8' | exact hI.oldp q10 | exact q10 | exact hI.oldp q10' | exact q10' | exact hI.oldp r6 | exact r6 | exact hI.oldp r6' | exact r6')) ?_
  refine WL_val rfl rfl rfl (by first | exact rMoveI rfl rfl | exact rMove rfl) ?_
  refine WL_call rfl rfl rfl (rCall (vs := [.agg _, .int .i64 _]) rfl Try.func17 rfl rfl rfl) ?_
  refine (has_any A4 B4 _ _ (x : Int) _ tj' hfj.len).mono ?_
  rintro e w1 ⟨⟨bb1, rfl, hb1⟩, hp1⟩
  obtain rfl := hb1.2 hyes
  refine ⟨_, rfl, ?_⟩
  replace hI := hI.pure hp1
  replace q10 := (hp1.chg (fun _ => False)).cell' q10 (fun h => h)
  replace q10' := (hp1.chg (fun _ => False)).cell' q10' (fun h => h)
  clear hb1
  refine WL_val rfl rfl rfl (by first | exact rMoveB rfl rfl | exact rMove rfl) ?_
  first | refine WL_val rfl rfl rfl (by first | exact rLdB (n := 2) rfl (by kernel_rfl) (by kernel_rfl) rfl rfl hI.g0 | exact rLd2 rfl (by kernel_rfl) (by kernel_rfl) rfl (by first | exact hI.c0 rfl | exact hI.oldp q9 | exact q9 | exact hI.oldp q9' | exact q9' | exact hI.oldp r8 | exact r8 | exact hI.oldp r8' | exact r8' | exact hI.oldp q10 | exact q10 | exact hI.oldp q10' | exact q10' | exact hI.oldp r6 | exact r6 | exact hI.oldp r6' | exact r6') (by first | exact hI.c0 rfl | exact hI.oldp q9 | exact q9 | exact hI.oldp q9' | exact q9' | exact hI.oldp r8 | exact r8 | exact hI.oldp r8' | exact r8' | exact hI.oldp q10 | exact q10 | exact hI.oldp q10' | exact q10' | exact hI.oldp r6 | exact r6 | exact hI.oldp r6' | exact r6')) ?_ | refine WL_skip rfl rfl rfl ?_
  first | refine WL_val rfl rfl rfl (by first | exact rMoveI rfl rfl | exact rMove rfl) ?_ | refine WL_skip rfl rfl rfl ?_
  refine WL_call rfl rfl rfl (rCall (vs := [.agg _, .int .i64 _]) rfl Try.func17 rfl rfl rfl) ?_
  refine (has_any A3 B3 _ _ (x : Int) _ ⟨MapRIs.pure tb.1 hI.pu, MapRIs.pure tb.2 hI.pu⟩ hfb.len).mono ?_
  rintro e w2 ⟨⟨bb2, rfl, hb2⟩, hp2⟩
  obtain rfl := bool_no hb2 adds_drop
  refine ⟨_, rfl, ?_⟩
  replace hI := hI.pure hp2
  replace q10 := (hp2.chg (fun _ => False)).cell' q10 (fun h => h)
  replace q10' := (hp2.chg (fun _ => False)).cell' q10' (fun h => h)
  clear hb2
  first | refine WL_val rfl rfl rfl (by first | exact rNotT rfl rfl | exact rNotF rfl rfl | exact rNot rfl rfl) ?_ | refine WL_skip rfl rfl rfl ?_
  refine WL_val rfl rfl rfl (by first | exact rPickTB rfl rfl rfl | exact rPickFB rfl rfl rfl | exact rPickB rfl rfl rfl rfl) ?_
  refine WL_val rfl rfl rfl (by first | exact rMoveB rfl rfl | exact rMove rfl) ?_
  first | refine WL_val rfl rfl rfl (by first | exact rLdB (n := 2) rfl (by kernel_rfl) (by kernel_rfl) rfl rfl hI.g0 | exact rLd2 rfl (by kernel_rfl) (by kernel_rfl) rfl (by first | exact hI.c0 rfl | exact hI.oldp q9 | exact q9 | exact hI.oldp q9' | exact q9' | exact hI.oldp r8 | exact r8 | exact hI.oldp r8' | exact r8' | exact hI.oldp q10 | exact q10 | exact hI.oldp q10' | exact q10' | exact hI.oldp r6 | exact r6 | exact hI.oldp r6' | exact r6') (by first | exact hI.c0 rfl | exact hI.oldp q9 | exact q9 | exact hI.oldp q9' | exact q9' | exact hI.oldp r8 | exact r8 | exact hI.oldp r8' | exact r8' | exact hI.oldp q10 | exact q10 | exact hI.oldp q10' | exact q10' | exact hI.oldp r6 | exact r6 | exact hI.oldp r6' | exact r6')) ?_ | refine WL_skip rfl rfl rfl ?_
  first | refine WL_val rfl rfl rfl (by first | exact rMoveI rfl rfl | exact rMove rfl) ?_ | refine WL_skip rfl rfl rfl ?_
  refine WL_call rfl rfl rfl (rCall (vs := [.agg _, .int .i64 _]) rfl Try.func17 rfl rfl rfl) ?_
  refine (has_any A6 B6 _ _ (x : Int) _ ⟨MapRIs.pure tk.1 (hp1.trans hp2), MapRIs.pure tk.2 (hp1.trans hp2)⟩ hfk.len).mono ?_
  rintro e w3 ⟨⟨bb3, rfl, hb3⟩, hp3⟩
  obtain rfl := bool_no hb3 (adds_gone _ _)
  refine ⟨_, rfl, ?_⟩
  replace hI := hI.pure hp3
  clear hb3
  first | refine WL_val rfl rfl rfl (by first | exact rNotT rfl rfl | exact rNotF rfl rfl | exact rNot rfl rfl) ?_ | refine WL_skip rfl rfl rfl ?_
  refine WL_val rfl rfl rfl (by first | exact rPickTB rfl rfl rfl | exact rPickFB rfl rfl rfl | exact rPickB rfl rfl rfl rfl) ?_
  refine WL_val rfl rfl rfl (by first | exact rMoveB rfl rfl | exact rMove rfl) ?_
  first | refine WL_val rfl rfl rfl (by first | exact rLdB (n := 2) rfl (by kernel_rfl) (by kernel_rfl) rfl rfl hI.g0 | exact rLd2 rfl (by kernel_rfl) (by kernel_rfl) rfl (by first | exact hI.c0 rfl | exact hI.oldp q9 | exact q9 | exact hI.oldp q9' | exact q9' | exact hI.oldp r8 | exact r8 | exact hI.oldp r8' | exact r8' | exact hI.oldp q10 | exact q10 | exact hI.oldp q10' | exact q10' | exact hI.oldp r6 | exact r6 | exact hI.oldp r6' | exact r6') (by first | exact hI.c0 rfl | exact hI.oldp q9 | exact q9 | exact hI.oldp q9' | exact q9' | exact hI.oldp r8 | exact r8 | exact hI.oldp r8' | exact r8' | exact hI.oldp q10 | exact q10 | exact hI.oldp q10' | exact q10' | exact hI.oldp r6 | exact r6 | exact hI.oldp r6' | exact r6')) ?_ | refine WL_skip rfl rfl rfl ?_
  first | refine WL_val rfl rfl rfl (by first | exact rMoveI rfl rfl | exact rMove rfl) ?_ | refine WL_skip rfl rfl rfl ?_
  refine WL_call rfl rfl rfl (rCall (vs := [.agg _, .int .i64 _]) rfl Try.func17 rfl rfl rfl) ?_
  refine (has_any A2 B2 _ _ (x : Int) _ ⟨MapRIs.pure ta.1 hI.pu, MapRIs.pure ta.2 hI.pu⟩ hfa.len).mono ?_
  rintro e w4 ⟨⟨bb4, rfl, hb4⟩, hp4⟩
  obtain rfl := hb4.2 adds_put
  refine ⟨_, rfl, ?_⟩
  replace hI := hI.pure hp4
  clear hb4
  refine WL_val rfl rfl rfl (by first | exact rPickTB rfl rfl rfl | exact rPickFB rfl rfl rfl | exact rPickB rfl rfl rfl rfl) ?_
  refine WL_val rfl rfl rfl (by first | exact rAsgnB rfl rfl | exact rAsgn rfl) ?_
  refine WL_nil ?_
  refine W_ret ?_
  exact ret1 4 (.inr rfl) rfl ⟨rfl, hP.trans hI.pu⟩
end Go.Proofs.Ytkfciehgjhgmeaa
