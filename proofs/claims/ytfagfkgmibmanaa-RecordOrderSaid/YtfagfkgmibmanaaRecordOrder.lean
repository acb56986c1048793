/- RecordOrder: the law's walk. Written by tools/mk_recorder.py. -/
import Derived.Test.YtfagfkgmibmanaaRmC
import Derived.Test.YtfagfkgmibmanaaRec10
namespace Go.Proofs.Ytfagfkgmibmanaa
open Go.RowKit
set_option linter.unusedVariables false
set_option linter.unusedSimpArgs false
def evA (l : List Ev) (i : Nat) : Ev := l.getD i ⟨0, 0, 0, 0, 0, 0, 0⟩
theorem evA_get {l : List Ev} {i : Nat} (h : i < l.length) : l[i]? = some (evA l i) := by
  unfold evA
  rw [List.getD_eq_getElem?_getD, List.getElem?_eq_getElem h]
  rfl
theorem evA_all (l : List Ev) : (List.range l.length).map (evA l) = l := by
  refine List.ext_getElem (by simp) fun i h1 h2 => ?_
  have := evA_get h2
  rw [List.getElem?_eq_getElem h2] at this
  injection this with this
  simp [this]
theorem stOk_of {S : Nat → Prop} {w0 w : World} {H : List Ent} (l : List Ev) (x : St) (hI : Inv S w0 w H) (h1 : Row 0 3 1 x.tA x.ids.length x.tc (x.ids.map fun i : Nat => Value.int .i64 (i : Int)) ∈ H) (h2 : Row 0 30 7 x.eA x.ids.length x.ec (x.ids.flatMap fun i => evL (evA l i)) ∈ H) (hr : x.ids.Pairwise (· < ·)) : StOk w (fun _ => True) (evA l) x := by
  refine ⟨?_, ?_, hr⟩
  · unfold Ints
    rw [List.length_map, List.map_map]
    exact Rd.of_own (hI.ok _ h1).1 (fun _ _ _ => trivial)
  · unfold Evs evsV
    rw [List.length_map, List.flatMap_map]
    exact Rd.of_own (hI.ok _ h2).1 (fun _ _ _ => trivial)
theorem evs_row {w : World} {A : Option Addr} {c : Nat} {l : List Ev} (h : (Row 0 30 7 A l.length c ((List.range l.length).flatMap fun i => evL (evA l i))).Φ w) : Evs w (fun _ => True) (.slice A l.length c) l := by
  have e : l.flatMap evL = (List.range l.length).flatMap fun i => evL (evA l i) := by
    conv => lhs; rw [← evA_all l]
    rw [List.flatMap_map]
  unfold Evs evsV
  rw [e]
  exact Rd.of_own h (fun _ _ _ => trivial)
/-- What has been dealt out. -/
structure Dealt (k : Nat) (x0 x1 x2 x3 : St) : Prop where
  perm : (x0.ids ++ (x1.ids ++ (x2.ids ++ x3.ids))).Perm (List.range k)
  rise : x0.ids.Pairwise (· < ·) ∧ x1.ids.Pairwise (· < ·) ∧ x2.ids.Pairwise (· < ·) ∧ x3.ids.Pairwise (· < ·)
theorem Dealt.lt {k : Nat} {x0 x1 x2 x3 : St} (h : Dealt k x0 x1 x2 x3) : ∀ i ∈ x0.ids ++ (x1.ids ++ (x2.ids ++ x3.ids)), i < k := fun i hi => List.mem_range.1 (h.perm.mem_iff.1 hi)
theorem Dealt.len {k : Nat} {x0 x1 x2 x3 : St} (h : Dealt k x0 x1 x2 x3) : x0.ids.length + (x1.ids.length + (x2.ids.length + x3.ids.length)) = k := by
  have := h.perm.length_eq
  simpa using this
theorem rise_snoc {l : List Nat} {k : Nat} (h : l.Pairwise (· < ·)) (hk : ∀ i ∈ l, i < k) : (l ++ [k]).Pairwise (· < ·) :=
  List.pairwise_append.2 ⟨h, List.pairwise_singleton _ _, fun a ha b hb => by rw [List.mem_singleton.1 hb]; exact hk a ha⟩
theorem perm_in {a b : List Nat} {k n : Nat} (h : (a ++ b).Perm (List.range k)) : ((a ++ [k]) ++ b).Perm (List.range (k + 1)) := by
  rw [List.range_succ, List.append_assoc]
  exact (List.perm_append_comm_assoc a [k] b).trans ((List.perm_append_comm (l₁ := [k])).trans (h.append_right [k]))
theorem Dealt.put0 {k : Nat} {x0 x1 x2 x3 : St} {A A' : Option Addr} {c c' : Nat} (h : Dealt k x0 x1 x2 x3) : Dealt (k + 1) ⟨A, c, A', c', x0.ids ++ [k]⟩ x1 x2 x3 := by
  have hlt := h.lt
  refine ⟨?_, ?_⟩
  · have hp := h.perm
    simp only
    exact perm_in (n := 0) hp
  · exact ⟨rise_snoc h.rise.1 (fun i hi => hlt i (by simp [hi])), h.rise.2.1, h.rise.2.2.1, h.rise.2.2.2⟩
theorem Dealt.put1 {k : Nat} {x0 x1 x2 x3 : St} {A A' : Option Addr} {c c' : Nat} (h : Dealt k x0 x1 x2 x3) : Dealt (k + 1) x0 ⟨A, c, A', c', x1.ids ++ [k]⟩ x2 x3 := by
  have hlt := h.lt
  refine ⟨?_, ?_⟩
  · have hp := h.perm
    simp only
    rw [List.range_succ]
    refine List.perm_iff_count.2 fun a => ?_
    have h1 := List.perm_iff_count.1 hp a
    simp only [List.count_append] at h1 ⊢
    omega
  · exact ⟨h.rise.1, rise_snoc h.rise.2.1 (fun i hi => hlt i (by simp [hi])), h.rise.2.2.1, h.rise.2.2.2⟩
theorem Dealt.put2 {k : Nat} {x0 x1 x2 x3 : St} {A A' : Option Addr} {c c' : Nat} (h : Dealt k x0 x1 x2 x3) : Dealt (k + 1) x0 x1 ⟨A, c, A', c', x2.ids ++ [k]⟩ x3 := by
  have hlt := h.lt
  refine ⟨?_, ?_⟩
  · have hp := h.perm
    simp only
    rw [List.range_succ]
    refine List.perm_iff_count.2 fun a => ?_
    have h1 := List.perm_iff_count.1 hp a
    simp only [List.count_append] at h1 ⊢
    omega
  · exact ⟨h.rise.1, h.rise.2.1, rise_snoc h.rise.2.2.1 (fun i hi => hlt i (by simp [hi])), h.rise.2.2.2⟩
theorem Dealt.put3 {k : Nat} {x0 x1 x2 x3 : St} {A A' : Option Addr} {c c' : Nat} (h : Dealt k x0 x1 x2 x3) : Dealt (k + 1) x0 x1 x2 ⟨A, c, A', c', x3.ids ++ [k]⟩ := by
  have hlt := h.lt
  refine ⟨?_, ?_⟩
  · have hp := h.perm
    simp only
    rw [List.range_succ]
    refine List.perm_iff_count.2 fun a => ?_
    have h1 := List.perm_iff_count.1 hp a
    simp only [List.count_append] at h1 ⊢
    omega
  · exact ⟨h.rise.1, h.rise.2.1, h.rise.2.2.1, rise_snoc h.rise.2.2.2 (fun i hi => hlt i (by simp [hi]))⟩
set_option maxHeartbeats 16000000 in
theorem recordOrder_any (A : Option Addr) (n c : Nat) (l : List Ev) (A' : Option Addr) (m c' : Nat) (ds : List Int) (D D' : Nat → Prop) (w0 : World) (h : Evs w0 D (.slice A n c) l) (hn : l.length = n) (h' : Ints w0 D' (.slice A' m c') ds) (hm : ds.length = m) :
    Calls Try.prog 3 #[.slice A n c, .slice A' m c'] w0 fun en w' => en = .returned (.bool true) ∧ Pure w0 w' := by
  subst hn
  have hI := Inv.start (fun _ => False) w0
  refine calls_of_W (N := Try.f3.ntmps) Try.func3 rfl rfl rfl ?_
  refine W_seq ?_
  refine W_region ?_
  refine WL_val rfl rfl rfl (by first | exact rAsgnB rfl rfl | exact rAsgn rfl) ?_
  refine WL_nil ?_
  by_cases h60 : l.length ≤ 60
  rotate_left
  · refine W_seq ?_
    refine W_seq ?_
    refine W_region ?_
    refine WL_val rfl rfl rfl (by first | exact rMoveS rfl rfl | exact rMove rfl) ?_
    refine WL_val rfl rfl rfl (rLen rfl Try.underlying22 rfl) ?_
    refine WL_val rfl rfl rfl (by first | exact rGtrT rfl rfl rfl (by omega) | exact rGtrF rfl rfl rfl (by omega) | exact rGtr rfl rfl rfl) ?_
    refine WL_val rfl rfl rfl (by first | exact rMoveB rfl rfl | exact rMove rfl) ?_
    refine WL_skip rfl rfl rfl ?_
    refine WL_skip rfl rfl rfl ?_
    refine WL_skip rfl rfl rfl ?_
    refine WL_skip rfl rfl rfl ?_
    refine WL_skip rfl rfl rfl ?_
    refine WL_val rfl rfl rfl (by first | exact rPickTB rfl rfl rfl | exact rPickFB rfl rfl rfl | exact rPickB rfl rfl rfl rfl) ?_
    refine WL_nil ?_
    refine W_cond true rfl ?_
    refine W_seq ?_
    refine W_region ?_
    refine WL_val rfl rfl rfl (by first | exact rAsgnB rfl rfl | exact rAsgn rfl) ?_
    refine WL_nil ?_
    refine W_ret ?_
    exact ret1 4 (.inr rfl) rfl ⟨rfl, hI.pu⟩
  by_cases hlm : l.length ≤ m
  rotate_left
  · refine W_seq ?_
    refine W_seq ?_
    refine W_region ?_
    refine WL_val rfl rfl rfl (by first | exact rMoveS rfl rfl | exact rMove rfl) ?_
    refine WL_val rfl rfl rfl (rLen rfl Try.underlying22 rfl) ?_
    refine WL_val rfl rfl rfl (by first | exact rGtrT rfl rfl rfl (by omega) | exact rGtrF rfl rfl rfl (by omega) | exact rGtr rfl rfl rfl) ?_
    refine WL_val rfl rfl rfl (by first | exact rMoveB rfl rfl | exact rMove rfl) ?_
    first | refine WL_val rfl rfl rfl (by first | exact rMoveS rfl rfl | exact rMove rfl) ?_ | refine WL_skip rfl rfl rfl ?_
    first | refine WL_val rfl rfl rfl (rLen rfl Try.underlying23 rfl) ?_ | refine WL_skip rfl rfl rfl ?_
    first | refine WL_val rfl rfl rfl (by first | exact rMoveS rfl rfl | exact rMove rfl) ?_ | refine WL_skip rfl rfl rfl ?_
    first | refine WL_val rfl rfl rfl (rLen rfl Try.underlying22 rfl) ?_ | refine WL_skip rfl rfl rfl ?_
    first | refine WL_val rfl rfl rfl (by first | exact rLssT rfl rfl rfl (by omega) | exact rLssF rfl rfl rfl (by omega) | exact rLss rfl rfl rfl) ?_ | refine WL_skip rfl rfl rfl ?_
    refine WL_val rfl rfl rfl (by first | exact rPickTB rfl rfl rfl | exact rPickFB rfl rfl rfl | exact rPickB rfl rfl rfl rfl) ?_
    refine WL_nil ?_
    refine W_cond true rfl ?_
    refine W_seq ?_
    refine W_region ?_
    refine WL_val rfl rfl rfl (by first | exact rAsgnB rfl rfl | exact rAsgn rfl) ?_
    refine WL_nil ?_
    refine W_ret ?_
    exact ret1 4 (.inr rfl) rfl ⟨rfl, hI.pu⟩
  refine W_seq ?_
  refine W_seq ?_
  refine W_region ?_
  refine WL_val rfl rfl rfl (by first | exact rMoveS rfl rfl | exact rMove rfl) ?_
  refine WL_val rfl rfl rfl (rLen rfl Try.underlying22 rfl) ?_
  refine WL_val rfl rfl rfl (by first | exact rGtrT rfl rfl rfl (by omega) | exact rGtrF rfl rfl rfl (by omega) | exact rGtr rfl rfl rfl) ?_
  refine WL_val rfl rfl rfl (by first | exact rMoveB rfl rfl | exact rMove rfl) ?_
  first | refine WL_val rfl rfl rfl (by first | exact rMoveS rfl rfl | exact rMove rfl) ?_ | refine WL_skip rfl rfl rfl ?_
  first | refine WL_val rfl rfl rfl (rLen rfl Try.underlying23 rfl) ?_ | refine WL_skip rfl rfl rfl ?_
  first | refine WL_val rfl rfl rfl (by first | exact rMoveS rfl rfl | exact rMove rfl) ?_ | refine WL_skip rfl rfl rfl ?_
  first | refine WL_val rfl rfl rfl (rLen rfl Try.underlying22 rfl) ?_ | refine WL_skip rfl rfl rfl ?_
  first | refine WL_val rfl rfl rfl (by first | exact rLssT rfl rfl rfl (by omega) | exact rLssF rfl rfl rfl (by omega) | exact rLss rfl rfl rfl) ?_ | refine WL_skip rfl rfl rfl ?_
  refine WL_val rfl rfl rfl (by first | exact rPickTB rfl rfl rfl | exact rPickFB rfl rfl rfl | exact rPickB rfl rfl rfl rfl) ?_
  refine WL_nil ?_
  refine W_cond false rfl ?_
  refine W_skip ?_
  refine W_seq ?_
  refine W_region ?_
  refine WL_mkN (n := 4) (m := 2) (by_ := 48) (z := .agg #[.slice none 0 0, .slice none 0 0]) (.slice none 0 0) hI rfl rfl rfl rfl rfl rfl Try.underlying24 (by kernel_rfl) rfl (by omega) (by omega) (by omega) ?_
  clear hI; rintro b20 w - - hI
  refine WL_val rfl rfl rfl (by first | exact rAsgnS rfl rfl | exact rAsgn rfl) ?_
  refine WL_nil ?_
  replace hI : Inv (fun _ => False) w0 w [B b20 27 #[.slice none 0 0, .slice none 0 0, .slice none 0 0, .slice none 0 0, .slice none 0 0, .slice none 0 0, .slice none 0 0, .slice none 0 0]] := hI
  replace hI := hI.fresh (Pure.refl _) (Row.nil _ 0 30 7) (fun k hk => by cases hk)
  replace hI := hI.fresh (Pure.refl _) (Row.nil _ 0 3 1) (fun k hk => by cases hk)
  replace hI := hI.fresh (Pure.refl _) (Row.nil _ 0 30 7) (fun k hk => by cases hk)
  replace hI := hI.fresh (Pure.refl _) (Row.nil _ 0 3 1) (fun k hk => by cases hk)
  replace hI := hI.fresh (Pure.refl _) (Row.nil _ 0 30 7) (fun k hk => by cases hk)
  replace hI := hI.fresh (Pure.refl _) (Row.nil _ 0 3 1) (fun k hk => by cases hk)
  replace hI := hI.fresh (Pure.refl _) (Row.nil _ 0 30 7) (fun k hk => by cases hk)
  replace hI := hI.fresh (Pure.refl _) (Row.nil _ 0 3 1) (fun k hk => by cases hk)
  refine W_seq_cut (fun ρ w => ∃ (x0 x1 x2 x3 : St), Dealt l.length x0 x1 x2 x3 ∧ Has ρ [(5, .slice (some ⟨b20, 0, none⟩) 4 4), (0, .slice A l.length c)] ∧ Inv (fun _ => False) w0 w [Row 0 3 1 x0.tA x0.ids.length x0.tc (x0.ids.map fun i : Nat => Value.int .i64 (i : Int)), Row 0 30 7 x0.eA x0.ids.length x0.ec (x0.ids.flatMap fun i => evL (evA l i)), Row 0 3 1 x1.tA x1.ids.length x1.tc (x1.ids.map fun i : Nat => Value.int .i64 (i : Int)), Row 0 30 7 x1.eA x1.ids.length x1.ec (x1.ids.flatMap fun i => evL (evA l i)), Row 0 3 1 x2.tA x2.ids.length x2.tc (x2.ids.map fun i : Nat => Value.int .i64 (i : Int)), Row 0 30 7 x2.eA x2.ids.length x2.ec (x2.ids.flatMap fun i => evL (evA l i)), Row 0 3 1 x3.tA x3.ids.length x3.tc (x3.ids.map fun i : Nat => Value.int .i64 (i : Int)), Row 0 30 7 x3.eA x3.ids.length x3.ec (x3.ids.flatMap fun i => evL (evA l i)), B b20 27 #[.slice x0.tA x0.ids.length x0.tc, .slice x0.eA x0.ids.length x0.ec, .slice x1.tA x1.ids.length x1.tc, .slice x1.eA x1.ids.length x1.ec, .slice x2.tA x2.ids.length x2.tc, .slice x2.eA x2.ids.length x2.ec, .slice x3.tA x3.ids.length x3.tc, .slice x3.eA x3.ids.length x3.ec]]) ?_ ?_
  · refine W_seq ?_
    refine W_region ?_
    refine WL_val rfl rfl rfl (by first | exact rAsgnI rfl rfl | exact rAsgn rfl) ?_
    refine WL_nil ?_
    refine W_block ?_
    refine W_loopN (fun mu ρ w => ∃ (k : Nat) (x0 x1 x2 x3 : St), mu = l.length - k ∧ k ≤ l.length ∧ Dealt k x0 x1 x2 x3 ∧ Has ρ [(6, .int .i64 (k : Int)), (5, .slice (some ⟨b20, 0, none⟩) 4 4), (0, .slice A l.length c), (1, .slice A' m c')] ∧ Inv (fun _ => False) w0 w [Row 0 3 1 x0.tA x0.ids.length x0.tc (x0.ids.map fun i : Nat => Value.int .i64 (i : Int)), Row 0 30 7 x0.eA x0.ids.length x0.ec (x0.ids.flatMap fun i => evL (evA l i)), Row 0 3 1 x1.tA x1.ids.length x1.tc (x1.ids.map fun i : Nat => Value.int .i64 (i : Int)), Row 0 30 7 x1.eA x1.ids.length x1.ec (x1.ids.flatMap fun i => evL (evA l i)), Row 0 3 1 x2.tA x2.ids.length x2.tc (x2.ids.map fun i : Nat => Value.int .i64 (i : Int)), Row 0 30 7 x2.eA x2.ids.length x2.ec (x2.ids.flatMap fun i => evL (evA l i)), Row 0 3 1 x3.tA x3.ids.length x3.tc (x3.ids.map fun i : Nat => Value.int .i64 (i : Int)), Row 0 30 7 x3.eA x3.ids.length x3.ec (x3.ids.flatMap fun i => evL (evA l i)), B b20 27 #[.slice x0.tA x0.ids.length x0.tc, .slice x0.eA x0.ids.length x0.ec, .slice x1.tA x1.ids.length x1.tc, .slice x1.eA x1.ids.length x1.ec, .slice x2.tA x2.ids.length x2.tc, .slice x2.eA x2.ids.length x2.ec, .slice x3.tA x3.ids.length x3.tc, .slice x3.eA x3.ids.length x3.ec]]) l.length
      ⟨0, ⟨none, 0, none, 0, []⟩, ⟨none, 0, none, 0, []⟩, ⟨none, 0, none, 0, []⟩, ⟨none, 0, none, 0, []⟩, rfl, by omega, ⟨List.Perm.refl _, .nil, .nil, .nil, .nil⟩, ⟨rfl, rfl, rfl, rfl, trivial⟩, hI⟩ ?_
    clear hI
    rintro mu ρ w ⟨k, x0, x1, x2, x3, rfl, hk, hD, hH, hI⟩
    obtain ⟨σ, rfl⟩ := hH.open
    by_cases hkl : k < l.length
    rotate_left
    · obtain rfl : k = l.length := by omega
      refine W_seq ?_
      refine W_seq ?_
      refine W_region ?_
      refine WL_val rfl rfl rfl (by first | exact rMoveI rfl rfl | exact rMove rfl) ?_
      refine WL_val rfl rfl rfl (by first | exact rMoveS rfl rfl | exact rMove rfl) ?_
      refine WL_val rfl rfl rfl (rLen rfl Try.underlying22 rfl) ?_
      refine WL_val rfl rfl rfl (by first | exact rLssT rfl rfl rfl (by omega) | exact rLssF rfl rfl rfl (by omega) | exact rLss rfl rfl rfl) ?_
      refine WL_nil ?_
      refine W_cond false rfl ?_
      refine W_exit ?_
      exact ⟨x0, x1, x2, x3, hD, ⟨rfl, rfl, trivial⟩, hI⟩
    obtain ⟨bd, od, rfl, _, _, hud⟩ := h'.get (k := k) (by omega)
    obtain ⟨be, oe, rfl, _, hue⟩ := h.get (evA_get hkl)
    have hlen := hD.len
    refine W_seq ?_
    refine W_seq ?_
    refine W_region ?_
    refine WL_val rfl rfl rfl (by first | exact rMoveI rfl rfl | exact rMove rfl) ?_
    refine WL_val rfl rfl rfl (by first | exact rMoveS rfl rfl | exact rMove rfl) ?_
    refine WL_val rfl rfl rfl (rLen rfl Try.underlying22 rfl) ?_
    refine WL_val rfl rfl rfl (by first | exact rLssT rfl rfl rfl (by omega) | exact rLssF rfl rfl rfl (by omega) | exact rLss rfl rfl rfl) ?_
    refine WL_nil ?_
    refine W_cond true rfl ?_
    refine W_skip ?_
    refine W_seq ?_
    refine W_block ?_
    refine W_seq_cut (fun ρ w => ∃ q : Nat, q < 4 ∧ Has ρ [(7, .pointer (some ⟨b20, 0 + q * 2, none⟩)), (6, .int .i64 (k : Int)), (5, .slice (some ⟨b20, 0, none⟩) 4 4), (0, .slice (some ⟨be, oe, none⟩) l.length c), (1, .slice (some ⟨bd, od, none⟩) m c')] ∧ Inv (fun _ => False) w0 w [Row 0 3 1 x0.tA x0.ids.length x0.tc (x0.ids.map fun i : Nat => Value.int .i64 (i : Int)), Row 0 30 7 x0.eA x0.ids.length x0.ec (x0.ids.flatMap fun i => evL (evA l i)), Row 0 3 1 x1.tA x1.ids.length x1.tc (x1.ids.map fun i : Nat => Value.int .i64 (i : Int)), Row 0 30 7 x1.eA x1.ids.length x1.ec (x1.ids.flatMap fun i => evL (evA l i)), Row 0 3 1 x2.tA x2.ids.length x2.tc (x2.ids.map fun i : Nat => Value.int .i64 (i : Int)), Row 0 30 7 x2.eA x2.ids.length x2.ec (x2.ids.flatMap fun i => evL (evA l i)), Row 0 3 1 x3.tA x3.ids.length x3.tc (x3.ids.map fun i : Nat => Value.int .i64 (i : Int)), Row 0 30 7 x3.eA x3.ids.length x3.ec (x3.ids.flatMap fun i => evL (evA l i)), B b20 27 #[.slice x0.tA x0.ids.length x0.tc, .slice x0.eA x0.ids.length x0.ec, .slice x1.tA x1.ids.length x1.tc, .slice x1.eA x1.ids.length x1.ec, .slice x2.tA x2.ids.length x2.tc, .slice x2.eA x2.ids.length x2.ec, .slice x3.tA x3.ids.length x3.tc, .slice x3.eA x3.ids.length x3.ec]]) ?_ ?_
    · refine W_region ?_
      refine WL_val rfl rfl rfl (by first | exact rMoveS rfl rfl | exact rMove rfl) ?_
      refine WL_val rfl rfl rfl (by first | exact rMoveS rfl rfl | exact rMove rfl) ?_
      refine WL_val rfl rfl rfl (by first | exact rMoveI rfl rfl | exact rMove rfl) ?_
      refine WL_val rfl rfl rfl (by first | exact rIdx0 rfl Try.underlying23 (by kernel_rfl) rfl rfl rfl (by omega) | exact rIdx1 rfl Try.underlying23 (by kernel_rfl) rfl rfl (by omega)) ?_
      refine WL_val rfl rfl rfl (by first | exact rLd (v := .int .i64 _) rfl (by kernel_rfl) rfl (by first | exact hI.oldp hud | exact hud) | exact rLd rfl (by kernel_rfl) rfl (by first | exact hI.oldp hud | exact hud)) ?_
      refine WL_call rfl rfl rfl (rCall (vs := [.int .i64 _, .int .i64 _]) rfl Try.func4 rfl rfl rfl) ?_
      refine (pick_any _ 4 _ (by omega) (by omega)).mono ?_
      rintro e w1 ⟨q, hq, rfl, hp⟩
      refine ⟨_, rfl, ?_⟩
      replace hI := hI.pure hp
      refine WL_val rfl rfl rfl (rIdx (sz := 2) (i := q) rfl Try.underlying24 (by kernel_rfl) rfl rfl (by omega)) ?_
      refine WL_val rfl rfl rfl (by first | exact rAsgnP rfl rfl | exact rAsgn rfl) ?_
      refine WL_nil ?_
      exact ⟨q, hq, ⟨rfl, rfl, rfl, rfl, rfl, trivial⟩, hI⟩
    clear hI
    rintro ρ w ⟨q, hq, hH, hI⟩
    obtain ⟨σ, rfl⟩ := hH.open
    obtain rfl | rfl | rfl | rfl : q = 0 ∨ q = 1 ∨ q = 2 ∨ q = 3 := by omega
    · refine W_draw (by kernel_rfl) ?_
      refine WA_T (fun _ => True) [] ?_
      refine WT_take 1 rfl rfl (by kernel_rfl) trivial rfl (fun W _ => (by first | exact rMoveP rfl rfl | exact rMove rfl)) ?_
      refine WT_true ?_
      refine WA_inv (T := [21, 24]) hI.d0.d0.d0.d0.d0.d0.d0.d0.drew ?_
      intro Sx hSx hXS
      replace hI := hI.drew
      refine WT_take 0 rfl rfl (by kernel_rfl) (hXS _ hI.d0.d0.d0.d0.d0.d0.d0.d0) rfl (fun W hW => have hI := hSx W hW; (by first | exact rMoveP rfl rfl | exact rMove rfl)) ?_
      refine WT_take 2 rfl rfl (by kernel_rfl) (hXS _ hI.d0.d0.d0.d0.d0.d0.d0.d0) rfl (fun W hW => have hI := hSx W hW; (by first | exact rMoveP rfl rfl | exact rMove rfl)) ?_
      refine WT_take 3 rfl rfl (by kernel_rfl) (hXS _ hI.d0.d0.d0.d0.d0.d0.d0.d0) rfl (fun W hW => have hI := hSx W hW; (rNilChk rfl rfl)) ?_
      refine WT_take 4 rfl rfl (by kernel_rfl) (hXS _ hI.d0.d0.d0.d0.d0.d0.d0.d0) rfl (fun W hW => have hI := hSx W hW; (by first | exact rFldN (off := 0) rfl (by kernel_rfl) rfl | exact rFld0 rfl (by kernel_rfl) rfl)) ?_
      refine WT_take 5 rfl rfl (by kernel_rfl) (hXS _ hI.d0.d0.d0.d0.d0.d0.d0.d0) rfl (fun W hW => have hI := hSx W hW; (by first | exact rLd (v := .slice _ _ _) rfl (by kernel_rfl) rfl (by first | exact hI.c0 rfl) | exact rLd rfl (by kernel_rfl) rfl (by first | exact hI.c0 rfl))) ?_
      refine WT_take 6 rfl rfl (by kernel_rfl) (hXS _ hI.d0.d0.d0.d0.d0.d0.d0.d0) rfl (fun W hW => have hI := hSx W hW; (by first | exact rMoveI rfl rfl | exact rMove rfl)) ?_
      refine WT_take 9 rfl rfl (by kernel_rfl) (hXS _ hI.d0.d0.d0.d0.d0.d0.d0.d0) rfl (fun W hW => have hI := hSx W hW; (by first | exact rMoveP rfl rfl | exact rMove rfl)) ?_
      refine WT_take 10 rfl rfl (by kernel_rfl) (hXS _ hI.d0.d0.d0.d0.d0.d0.d0.d0) rfl (fun W hW => have hI := hSx W hW; (rNilChk rfl rfl)) ?_
      refine WT_take 11 rfl rfl (by kernel_rfl) (hXS _ hI.d0.d0.d0.d0.d0.d0.d0.d0) rfl (fun W hW => have hI := hSx W hW; (by first | exact rFldN (off := 1) rfl (by kernel_rfl) rfl | exact rFld (off := 1) rfl (by kernel_rfl) rfl)) ?_
      refine WT_take 12 rfl rfl (by kernel_rfl) (hXS _ hI.d0.d0.d0.d0.d0.d0.d0.d0) rfl (fun W hW => have hI := hSx W hW; (by first | exact rLd (v := .slice _ _ _) rfl (by kernel_rfl) rfl (by first | exact hI.c0 rfl) | exact rLd rfl (by kernel_rfl) rfl (by first | exact hI.c0 rfl))) ?_
      refine WT_take 13 rfl rfl (by kernel_rfl) (hXS _ hI.d0.d0.d0.d0.d0.d0.d0.d0) rfl (fun W hW => have hI := hSx W hW; (by first | exact rMoveS rfl rfl | exact rMove rfl)) ?_
      refine WT_take 14 rfl rfl (by kernel_rfl) (hXS _ hI.d0.d0.d0.d0.d0.d0.d0.d0) rfl (fun W hW => have hI := hSx W hW; (by first | exact rMoveI rfl rfl | exact rMove rfl)) ?_
      refine WT_take 15 rfl rfl (by kernel_rfl) (hXS _ hI.d0.d0.d0.d0.d0.d0.d0.d0) rfl (fun W hW => have hI := hSx W hW; (rIdx (sz := 7) (i := k) rfl Try.underlying22 (by kernel_rfl) rfl rfl (by omega))) ?_
      refine WT_take 16 rfl rfl (by kernel_rfl) (hXS _ hI.d0.d0.d0.d0.d0.d0.d0.d0) rfl (fun W hW => have hI := hSx W hW; (by first | exact rLdB (n := 7) rfl (by kernel_rfl) (by kernel_rfl) rfl rfl hI.g0 | exact rLdA (n := 7) rfl (by kernel_rfl) (by kernel_rfl) rfl (by rfl) (fun k u hk => hI.oldp (hue k u hk)) | exact rLdA (n := 7) rfl (by kernel_rfl) (by kernel_rfl) rfl (by rfl) hue)) ?_
      refine WT_two 7 17 rfl rfl (by kernel_rfl) rfl rfl ?_ ?_
      · refine WL_lit (vs := [_]) (qs := [(0, .int .i64 _)]) [.int .i64 0] [0] hI rfl rfl rfl rfl rfl rfl Try.underlying23 (fun _ => by kernel_rfl) ?_
        clear hI; rintro b41 w - - hI
        refine WL_nil ⟨hXS _ hI.d0.d0.d0.d0.d0.d0.d0.d0.d0, ?_⟩
        refine WT_two 8 17 rfl rfl (by kernel_rfl) rfl rfl ?_ ?_
        · first | refine WL_app (size := 1) (z := .int .i64 0) (by_ := 8) (news := [.int .i64 (k : Int)]) 1 rfl hI rfl rfl rfl rfl rfl rfl Try.underlying23 (by kernel_rfl) rfl (by omega) rfl hI.lit0 rfl (by omega) (by omega) (Nat.zero_le _) ?_ | refine WL_app (size := 1) (z := .int .i64 0) (by_ := 8) (news := [.int .i64 (k : Int)]) 2 rfl hI rfl rfl rfl rfl rfl rfl Try.underlying23 (by kernel_rfl) rfl (by omega) rfl hI.lit0 rfl (by omega) (by omega) (Nat.zero_le _) ?_ | refine WL_app (size := 1) (z := .int .i64 0) (by_ := 8) (news := [.int .i64 (k : Int)]) 2 rfl hI rfl rfl rfl rfl rfl rfl Try.underlying23 (by kernel_rfl) rfl (by omega) rfl hI.sw0.lit0 rfl (by omega) (by omega) (Nat.zero_le _) ?_
          clear hI; rintro A42 c42 w hA42 hc42 hI
          simp only [List.set_cons_succ, List.set_cons_zero] at hI
          refine WL_nil ⟨hXS _ hI.d0.d0.d0.d0.d0.d0.d0.d0.d0, ?_⟩
          refine WT_one 17 rfl (by kernel_rfl) rfl ?_
          refine WL_lit (vs := [_, _, _, _, _, _, _]) (qs := [(0, .agg #[_, _, _, _, _, _, _])]) [.int .i64 0, .int .i64 0, .int .i64 0, .int .i64 0, .int .i64 0, .int .i64 0, .int .i64 0] [0] hI rfl rfl rfl rfl rfl rfl Try.underlying22 (fun _ => by kernel_rfl) ?_
          clear hI; rintro b51 w - - hI
          refine WL_nil ⟨hXS _ hI.d0.d0.d0.d0.d0.d0.d0.d0.d0.d0, ?_⟩
          refine WT_one 18 rfl (by kernel_rfl) rfl ?_
          first | refine WL_app (size := 7) (z := .agg #[.int .i64 0, .int .i64 0, .int .i64 0, .int .i64 0, .int .i64 0, .int .i64 0, .int .i64 0]) (by_ := 56) (news := (evL (evA l k))) 3 rfl hI rfl rfl rfl rfl rfl rfl Try.underlying22 (by kernel_rfl) rfl (by omega) rfl hI.lit0 rfl (by omega) (by omega) (Nat.zero_le _) ?_ | refine WL_app (size := 7) (z := .agg #[.int .i64 0, .int .i64 0, .int .i64 0, .int .i64 0, .int .i64 0, .int .i64 0, .int .i64 0]) (by_ := 56) (news := (evL (evA l k))) 3 rfl hI rfl rfl rfl rfl rfl rfl Try.underlying22 (by kernel_rfl) rfl (by omega) rfl hI.sw0.lit0 rfl (by omega) (by omega) (Nat.zero_le _) ?_
          clear hI; rintro A52 c52 w hA52 hc52 hI
          simp only [List.set_cons_succ, List.set_cons_zero] at hI
          refine WL_nil ⟨hXS _ hI.d0.d0.d0.d0.d0.d0.d0.d0.d0.d0, ?_⟩
          refine WT_take 19 rfl rfl (by kernel_rfl) (hXS _ hI.d0.d0.d0.d0.d0.d0.d0.d0.d0.d0) rfl (fun W hW => have hI := hSx W hW; (rNilChk rfl rfl)) ?_
          refine WT_take 20 rfl rfl (by kernel_rfl) (hXS _ hI.d0.d0.d0.d0.d0.d0.d0.d0.d0.d0) rfl (fun W hW => have hI := hSx W hW; (by first | exact rFldN (off := 0) rfl (by kernel_rfl) rfl | exact rFld0 rfl (by kernel_rfl) rfl)) ?_
          refine WT_A (by kernel_rfl) ?_
          clear hXS hSx
          refine WA_one 21 rfl (by kernel_rfl) ?_
          refine WL_st 10 rfl (u := .slice A42 (x0.ids.length + 1) c42) (j := 0) hI rfl rfl rfl rfl rfl rfl (by kernel_rfl) rfl (by rfl) rfl ?_
          clear hI; intro w hI
          simp only [List.set_cons_succ, List.set_cons_zero] at hI
          refine WL_nil ?_
          refine WA_one 22 rfl (by kernel_rfl) ?_
          refine WL_val rfl rfl rfl (rNilChk rfl rfl) ?_
          refine WL_nil ?_
          refine WA_one 23 rfl (by kernel_rfl) ?_
          refine WL_val rfl rfl rfl (by first | exact rFldN (off := 1) rfl (by kernel_rfl) rfl | exact rFld (off := 1) rfl (by kernel_rfl) rfl) ?_
          refine WL_nil ?_
          refine WA_one 24 rfl (by kernel_rfl) ?_
          refine WL_st 10 rfl (u := .slice A52 (x0.ids.length + 1) c52) (j := 1) hI rfl rfl rfl rfl rfl rfl (by kernel_rfl) rfl (by rfl) rfl ?_
          clear hI; intro w hI
          simp only [List.set_cons_succ, List.set_cons_zero] at hI
          refine WL_nil ?_
          refine WA_end (by kernel_rfl) ?_
          replace hI := hI.d0.d0
          refine W_region ?_
          refine WL_val rfl rfl rfl (by first | exact rMoveI rfl rfl | exact rMove rfl) ?_
          refine WL_val rfl rfl rfl (by first | exact rInc rfl rfl rfl (by omega) | exact rAdd rfl rfl rfl (by omega) | exact rAddW rfl rfl rfl) ?_
          refine WL_val rfl rfl rfl (by first | exact rAsgnI rfl rfl | exact rAsgn rfl) ?_
          refine WL_nil ?_
          refine ⟨l.length - (k + 1), by omega, k + 1, ⟨A42, c42, A52, c52, x0.ids ++ [k]⟩, x1, x2, x3, rfl, by omega, hD.put0, ⟨rfl, rfl, rfl, rfl, trivial⟩, ?_⟩
          simp only [List.length_append, List.length_singleton, List.map_append, List.map_cons, List.map_nil, List.flatMap_append, List.flatMap_cons, List.flatMap_nil, List.append_nil]
          exact hI
        · refine WL_lit (vs := [_, _, _, _, _, _, _]) (qs := [(0, .agg #[_, _, _, _, _, _, _])]) [.int .i64 0, .int .i64 0, .int .i64 0, .int .i64 0, .int .i64 0, .int .i64 0, .int .i64 0] [0] hI rfl rfl rfl rfl rfl rfl Try.underlying22 (fun _ => by kernel_rfl) ?_
          clear hI; rintro b51 w - - hI
          refine WL_nil ⟨hXS _ hI.d0.d0.d0.d0.d0.d0.d0.d0.d0.d0, ?_⟩
          refine WT_one 8 rfl (by kernel_rfl) rfl ?_
          first | refine WL_app (size := 1) (z := .int .i64 0) (by_ := 8) (news := [.int .i64 (k : Int)]) 1 rfl hI rfl rfl rfl rfl rfl rfl Try.underlying23 (by kernel_rfl) rfl (by omega) rfl hI.lit0 rfl (by omega) (by omega) (Nat.zero_le _) ?_ | refine WL_app (size := 1) (z := .int .i64 0) (by_ := 8) (news := [.int .i64 (k : Int)]) 2 rfl hI rfl rfl rfl rfl rfl rfl Try.underlying23 (by kernel_rfl) rfl (by omega) rfl hI.lit0 rfl (by omega) (by omega) (Nat.zero_le _) ?_ | refine WL_app (size := 1) (z := .int .i64 0) (by_ := 8) (news := [.int .i64 (k : Int)]) 2 rfl hI rfl rfl rfl rfl rfl rfl Try.underlying23 (by kernel_rfl) rfl (by omega) rfl hI.sw0.lit0 rfl (by omega) (by omega) (Nat.zero_le _) ?_
          clear hI; rintro A42 c42 w hA42 hc42 hI
          simp only [List.set_cons_succ, List.set_cons_zero] at hI
          refine WL_nil ⟨hXS _ hI.d0.d0.d0.d0.d0.d0.d0.d0.d0.d0, ?_⟩
          refine WT_one 18 rfl (by kernel_rfl) rfl ?_
          first | refine WL_app (size := 7) (z := .agg #[.int .i64 0, .int .i64 0, .int .i64 0, .int .i64 0, .int .i64 0, .int .i64 0, .int .i64 0]) (by_ := 56) (news := (evL (evA l k))) 3 rfl hI rfl rfl rfl rfl rfl rfl Try.underlying22 (by kernel_rfl) rfl (by omega) rfl hI.lit0 rfl (by omega) (by omega) (Nat.zero_le _) ?_ | refine WL_app (size := 7) (z := .agg #[.int .i64 0, .int .i64 0, .int .i64 0, .int .i64 0, .int .i64 0, .int .i64 0, .int .i64 0]) (by_ := 56) (news := (evL (evA l k))) 3 rfl hI rfl rfl rfl rfl rfl rfl Try.underlying22 (by kernel_rfl) rfl (by omega) rfl hI.sw0.lit0 rfl (by omega) (by omega) (Nat.zero_le _) ?_
          clear hI; rintro A52 c52 w hA52 hc52 hI
          simp only [List.set_cons_succ, List.set_cons_zero] at hI
          refine WL_nil ⟨hXS _ hI.d0.d0.d0.d0.d0.d0.d0.d0.d0.d0, ?_⟩
          refine WT_take 19 rfl rfl (by kernel_rfl) (hXS _ hI.d0.d0.d0.d0.d0.d0.d0.d0.d0.d0) rfl (fun W hW => have hI := hSx W hW; (rNilChk rfl rfl)) ?_
          refine WT_take 20 rfl rfl (by kernel_rfl) (hXS _ hI.d0.d0.d0.d0.d0.d0.d0.d0.d0.d0) rfl (fun W hW => have hI := hSx W hW; (by first | exact rFldN (off := 0) rfl (by kernel_rfl) rfl | exact rFld0 rfl (by kernel_rfl) rfl)) ?_
          refine WT_A (by kernel_rfl) ?_
          clear hXS hSx
          refine WA_one 21 rfl (by kernel_rfl) ?_
          refine WL_st 10 rfl (u := .slice A42 (x0.ids.length + 1) c42) (j := 0) hI rfl rfl rfl rfl rfl rfl (by kernel_rfl) rfl (by rfl) rfl ?_
          clear hI; intro w hI
          simp only [List.set_cons_succ, List.set_cons_zero] at hI
          refine WL_nil ?_
          refine WA_one 22 rfl (by kernel_rfl) ?_
          refine WL_val rfl rfl rfl (rNilChk rfl rfl) ?_
          refine WL_nil ?_
          refine WA_one 23 rfl (by kernel_rfl) ?_
          refine WL_val rfl rfl rfl (by first | exact rFldN (off := 1) rfl (by kernel_rfl) rfl | exact rFld (off := 1) rfl (by kernel_rfl) rfl) ?_
          refine WL_nil ?_
          refine WA_one 24 rfl (by kernel_rfl) ?_
          refine WL_st 10 rfl (u := .slice A52 (x0.ids.length + 1) c52) (j := 1) hI rfl rfl rfl rfl rfl rfl (by kernel_rfl) rfl (by rfl) rfl ?_
          clear hI; intro w hI
          simp only [List.set_cons_succ, List.set_cons_zero] at hI
          refine WL_nil ?_
          refine WA_end (by kernel_rfl) ?_
          replace hI := hI.d0.d0
          refine W_region ?_
          refine WL_val rfl rfl rfl (by first | exact rMoveI rfl rfl | exact rMove rfl) ?_
          refine WL_val rfl rfl rfl (by first | exact rInc rfl rfl rfl (by omega) | exact rAdd rfl rfl rfl (by omega) | exact rAddW rfl rfl rfl) ?_
          refine WL_val rfl rfl rfl (by first | exact rAsgnI rfl rfl | exact rAsgn rfl) ?_
          refine WL_nil ?_
          refine ⟨l.length - (k + 1), by omega, k + 1, ⟨A42, c42, A52, c52, x0.ids ++ [k]⟩, x1, x2, x3, rfl, by omega, hD.put0, ⟨rfl, rfl, rfl, rfl, trivial⟩, ?_⟩
          simp only [List.length_append, List.length_singleton, List.map_append, List.map_cons, List.map_nil, List.flatMap_append, List.flatMap_cons, List.flatMap_nil, List.append_nil]
          exact hI
      · refine WL_lit (vs := [_, _, _, _, _, _, _]) (qs := [(0, .agg #[_, _, _, _, _, _, _])]) [.int .i64 0, .int .i64 0, .int .i64 0, .int .i64 0, .int .i64 0, .int .i64 0, .int .i64 0] [0] hI rfl rfl rfl rfl rfl rfl Try.underlying22 (fun _ => by kernel_rfl) ?_
        clear hI; rintro b51 w - - hI
        refine WL_nil ⟨hXS _ hI.d0.d0.d0.d0.d0.d0.d0.d0.d0, ?_⟩
        refine WT_one 7 rfl (by kernel_rfl) rfl ?_
        refine WL_lit (vs := [_]) (qs := [(0, .int .i64 _)]) [.int .i64 0] [0] hI rfl rfl rfl rfl rfl rfl Try.underlying23 (fun _ => by kernel_rfl) ?_
        clear hI; rintro b41 w - - hI
        refine WL_nil ⟨hXS _ hI.d0.d0.d0.d0.d0.d0.d0.d0.d0.d0, ?_⟩
        refine WT_one 8 rfl (by kernel_rfl) rfl ?_
        first | refine WL_app (size := 1) (z := .int .i64 0) (by_ := 8) (news := [.int .i64 (k : Int)]) 1 rfl hI rfl rfl rfl rfl rfl rfl Try.underlying23 (by kernel_rfl) rfl (by omega) rfl hI.lit0 rfl (by omega) (by omega) (Nat.zero_le _) ?_ | refine WL_app (size := 1) (z := .int .i64 0) (by_ := 8) (news := [.int .i64 (k : Int)]) 2 rfl hI rfl rfl rfl rfl rfl rfl Try.underlying23 (by kernel_rfl) rfl (by omega) rfl hI.lit0 rfl (by omega) (by omega) (Nat.zero_le _) ?_ | refine WL_app (size := 1) (z := .int .i64 0) (by_ := 8) (news := [.int .i64 (k : Int)]) 2 rfl hI rfl rfl rfl rfl rfl rfl Try.underlying23 (by kernel_rfl) rfl (by omega) rfl hI.sw0.lit0 rfl (by omega) (by omega) (Nat.zero_le _) ?_
        clear hI; rintro A42 c42 w hA42 hc42 hI
        simp only [List.set_cons_succ, List.set_cons_zero] at hI
        refine WL_nil ⟨hXS _ hI.d0.d0.d0.d0.d0.d0.d0.d0.d0.d0, ?_⟩
        refine WT_one 18 rfl (by kernel_rfl) rfl ?_
        first | refine WL_app (size := 7) (z := .agg #[.int .i64 0, .int .i64 0, .int .i64 0, .int .i64 0, .int .i64 0, .int .i64 0, .int .i64 0]) (by_ := 56) (news := (evL (evA l k))) 3 rfl hI rfl rfl rfl rfl rfl rfl Try.underlying22 (by kernel_rfl) rfl (by omega) rfl hI.lit0 rfl (by omega) (by omega) (Nat.zero_le _) ?_ | refine WL_app (size := 7) (z := .agg #[.int .i64 0, .int .i64 0, .int .i64 0, .int .i64 0, .int .i64 0, .int .i64 0, .int .i64 0]) (by_ := 56) (news := (evL (evA l k))) 3 rfl hI rfl rfl rfl rfl rfl rfl Try.underlying22 (by kernel_rfl) rfl (by omega) rfl hI.sw0.lit0 rfl (by omega) (by omega) (Nat.zero_le _) ?_
        clear hI; rintro A52 c52 w hA52 hc52 hI
        simp only [List.set_cons_succ, List.set_cons_zero] at hI
        refine WL_nil ⟨hXS _ hI.d0.d0.d0.d0.d0.d0.d0.d0.d0.d0, ?_⟩
        refine WT_take 19 rfl rfl (by kernel_rfl) (hXS _ hI.d0.d0.d0.d0.d0.d0.d0.d0.d0.d0) rfl (fun W hW => have hI := hSx W hW; (rNilChk rfl rfl)) ?_
        refine WT_take 20 rfl rfl (by kernel_rfl) (hXS _ hI.d0.d0.d0.d0.d0.d0.d0.d0.d0.d0) rfl (fun W hW => have hI := hSx W hW; (by first | exact rFldN (off := 0) rfl (by kernel_rfl) rfl | exact rFld0 rfl (by kernel_rfl) rfl)) ?_
        refine WT_A (by kernel_rfl) ?_
        clear hXS hSx
        refine WA_one 21 rfl (by kernel_rfl) ?_
        refine WL_st 10 rfl (u := .slice A42 (x0.ids.length + 1) c42) (j := 0) hI rfl rfl rfl rfl rfl rfl (by kernel_rfl) rfl (by rfl) rfl ?_
        clear hI; intro w hI
        simp only [List.set_cons_succ, List.set_cons_zero] at hI
        refine WL_nil ?_
        refine WA_one 22 rfl (by kernel_rfl) ?_
        refine WL_val rfl rfl rfl (rNilChk rfl rfl) ?_
        refine WL_nil ?_
        refine WA_one 23 rfl (by kernel_rfl) ?_
        refine WL_val rfl rfl rfl (by first | exact rFldN (off := 1) rfl (by kernel_rfl) rfl | exact rFld (off := 1) rfl (by kernel_rfl) rfl) ?_
        refine WL_nil ?_
        refine WA_one 24 rfl (by kernel_rfl) ?_
        refine WL_st 10 rfl (u := .slice A52 (x0.ids.length + 1) c52) (j := 1) hI rfl rfl rfl rfl rfl rfl (by kernel_rfl) rfl (by rfl) rfl ?_
        clear hI; intro w hI
        simp only [List.set_cons_succ, List.set_cons_zero] at hI
        refine WL_nil ?_
        refine WA_end (by kernel_rfl) ?_
        replace hI := hI.d0.d0
        refine W_region ?_
        refine WL_val rfl rfl rfl (by first | exact rMoveI rfl rfl | exact rMove rfl) ?_
        refine WL_val rfl rfl rfl (by first | exact rInc rfl rfl rfl (by omega) | exact rAdd rfl rfl rfl (by omega) | exact rAddW rfl rfl rfl) ?_
        refine WL_val rfl rfl rfl (by first | exact rAsgnI rfl rfl | exact rAsgn rfl) ?_
        refine WL_nil ?_
        refine ⟨l.length - (k + 1), by omega, k + 1, ⟨A42, c42, A52, c52, x0.ids ++ [k]⟩, x1, x2, x3, rfl, by omega, hD.put0, ⟨rfl, rfl, rfl, rfl, trivial⟩, ?_⟩
        simp only [List.length_append, List.length_singleton, List.map_append, List.map_cons, List.map_nil, List.flatMap_append, List.flatMap_cons, List.flatMap_nil, List.append_nil]
        exact hI
    · refine W_draw (by kernel_rfl) ?_
      refine WA_T (fun _ => True) [] ?_
      refine WT_take 1 rfl rfl (by kernel_rfl) trivial rfl (fun W _ => (by first | exact rMoveP rfl rfl | exact rMove rfl)) ?_
      refine WT_true ?_
      refine WA_inv (T := [21, 24]) hI.d0.d0.d0.d0.d0.d0.d0.d0.drew ?_
      intro Sx hSx hXS
      replace hI := hI.drew
      refine WT_take 0 rfl rfl (by kernel_rfl) (hXS _ hI.d0.d0.d0.d0.d0.d0.d0.d0) rfl (fun W hW => have hI := hSx W hW; (by first | exact rMoveP rfl rfl | exact rMove rfl)) ?_
      refine WT_take 2 rfl rfl (by kernel_rfl) (hXS _ hI.d0.d0.d0.d0.d0.d0.d0.d0) rfl (fun W hW => have hI := hSx W hW; (by first | exact rMoveP rfl rfl | exact rMove rfl)) ?_
      refine WT_take 3 rfl rfl (by kernel_rfl) (hXS _ hI.d0.d0.d0.d0.d0.d0.d0.d0) rfl (fun W hW => have hI := hSx W hW; (rNilChk rfl rfl)) ?_
      refine WT_take 4 rfl rfl (by kernel_rfl) (hXS _ hI.d0.d0.d0.d0.d0.d0.d0.d0) rfl (fun W hW => have hI := hSx W hW; (by first | exact rFldN (off := 0) rfl (by kernel_rfl) rfl | exact rFld0 rfl (by kernel_rfl) rfl)) ?_
      refine WT_take 5 rfl rfl (by kernel_rfl) (hXS _ hI.d0.d0.d0.d0.d0.d0.d0.d0) rfl (fun W hW => have hI := hSx W hW; (by first | exact rLd (v := .slice _ _ _) rfl (by kernel_rfl) rfl (by first | exact hI.c0 rfl) | exact rLd rfl (by kernel_rfl) rfl (by first | exact hI.c0 rfl))) ?_
      refine WT_take 6 rfl rfl (by kernel_rfl) (hXS _ hI.d0.d0.d0.d0.d0.d0.d0.d0) rfl (fun W hW => have hI := hSx W hW; (by first | exact rMoveI rfl rfl | exact rMove rfl)) ?_
      refine WT_take 9 rfl rfl (by kernel_rfl) (hXS _ hI.d0.d0.d0.d0.d0.d0.d0.d0) rfl (fun W hW => have hI := hSx W hW; (by first | exact rMoveP rfl rfl | exact rMove rfl)) ?_
      refine WT_take 10 rfl rfl (by kernel_rfl) (hXS _ hI.d0.d0.d0.d0.d0.d0.d0.d0) rfl (fun W hW => have hI := hSx W hW; (rNilChk rfl rfl)) ?_
      refine WT_take 11 rfl rfl (by kernel_rfl) (hXS _ hI.d0.d0.d0.d0.d0.d0.d0.d0) rfl (fun W hW => have hI := hSx W hW; (by first | exact rFldN (off := 1) rfl (by kernel_rfl) rfl | exact rFld (off := 1) rfl (by kernel_rfl) rfl)) ?_
      refine WT_take 12 rfl rfl (by kernel_rfl) (hXS _ hI.d0.d0.d0.d0.d0.d0.d0.d0) rfl (fun W hW => have hI := hSx W hW; (by first | exact rLd (v := .slice _ _ _) rfl (by kernel_rfl) rfl (by first | exact hI.c0 rfl) | exact rLd rfl (by kernel_rfl) rfl (by first | exact hI.c0 rfl))) ?_
      refine WT_take 13 rfl rfl (by kernel_rfl) (hXS _ hI.d0.d0.d0.d0.d0.d0.d0.d0) rfl (fun W hW => have hI := hSx W hW; (by first | exact rMoveS rfl rfl | exact rMove rfl)) ?_
      refine WT_take 14 rfl rfl (by kernel_rfl) (hXS _ hI.d0.d0.d0.d0.d0.d0.d0.d0) rfl (fun W hW => have hI := hSx W hW; (by first | exact rMoveI rfl rfl | exact rMove rfl)) ?_
      refine WT_take 15 rfl rfl (by kernel_rfl) (hXS _ hI.d0.d0.d0.d0.d0.d0.d0.d0) rfl (fun W hW => have hI := hSx W hW; (rIdx (sz := 7) (i := k) rfl Try.underlying22 (by kernel_rfl) rfl rfl (by omega))) ?_
      refine WT_take 16 rfl rfl (by kernel_rfl) (hXS _ hI.d0.d0.d0.d0.d0.d0.d0.d0) rfl (fun W hW => have hI := hSx W hW; (by first | exact rLdB (n := 7) rfl (by kernel_rfl) (by kernel_rfl) rfl rfl hI.g0 | exact rLdA (n := 7) rfl (by kernel_rfl) (by kernel_rfl) rfl (by rfl) (fun k u hk => hI.oldp (hue k u hk)) | exact rLdA (n := 7) rfl (by kernel_rfl) (by kernel_rfl) rfl (by rfl) hue)) ?_
      refine WT_two 7 17 rfl rfl (by kernel_rfl) rfl rfl ?_ ?_
      · refine WL_lit (vs := [_]) (qs := [(0, .int .i64 _)]) [.int .i64 0] [0] hI rfl rfl rfl rfl rfl rfl Try.underlying23 (fun _ => by kernel_rfl) ?_
        clear hI; rintro b41 w - - hI
        refine WL_nil ⟨hXS _ hI.d0.d0.d0.d0.d0.d0.d0.d0.d0, ?_⟩
        refine WT_two 8 17 rfl rfl (by kernel_rfl) rfl rfl ?_ ?_
        · first | refine WL_app (size := 1) (z := .int .i64 0) (by_ := 8) (news := [.int .i64 (k : Int)]) 3 rfl hI rfl rfl rfl rfl rfl rfl Try.underlying23 (by kernel_rfl) rfl (by omega) rfl hI.lit0 rfl (by omega) (by omega) (Nat.zero_le _) ?_ | refine WL_app (size := 1) (z := .int .i64 0) (by_ := 8) (news := [.int .i64 (k : Int)]) 4 rfl hI rfl rfl rfl rfl rfl rfl Try.underlying23 (by kernel_rfl) rfl (by omega) rfl hI.lit0 rfl (by omega) (by omega) (Nat.zero_le _) ?_ | refine WL_app (size := 1) (z := .int .i64 0) (by_ := 8) (news := [.int .i64 (k : Int)]) 4 rfl hI rfl rfl rfl rfl rfl rfl Try.underlying23 (by kernel_rfl) rfl (by omega) rfl hI.sw0.lit0 rfl (by omega) (by omega) (Nat.zero_le _) ?_
          clear hI; rintro A42 c42 w hA42 hc42 hI
          simp only [List.set_cons_succ, List.set_cons_zero] at hI
          refine WL_nil ⟨hXS _ hI.d0.d0.d0.d0.d0.d0.d0.d0.d0, ?_⟩
          refine WT_one 17 rfl (by kernel_rfl) rfl ?_
          refine WL_lit (vs := [_, _, _, _, _, _, _]) (qs := [(0, .agg #[_, _, _, _, _, _, _])]) [.int .i64 0, .int .i64 0, .int .i64 0, .int .i64 0, .int .i64 0, .int .i64 0, .int .i64 0] [0] hI rfl rfl rfl rfl rfl rfl Try.underlying22 (fun _ => by kernel_rfl) ?_
          clear hI; rintro b51 w - - hI
          refine WL_nil ⟨hXS _ hI.d0.d0.d0.d0.d0.d0.d0.d0.d0.d0, ?_⟩
          refine WT_one 18 rfl (by kernel_rfl) rfl ?_
          first | refine WL_app (size := 7) (z := .agg #[.int .i64 0, .int .i64 0, .int .i64 0, .int .i64 0, .int .i64 0, .int .i64 0, .int .i64 0]) (by_ := 56) (news := (evL (evA l k))) 5 rfl hI rfl rfl rfl rfl rfl rfl Try.underlying22 (by kernel_rfl) rfl (by omega) rfl hI.lit0 rfl (by omega) (by omega) (Nat.zero_le _) ?_ | refine WL_app (size := 7) (z := .agg #[.int .i64 0, .int .i64 0, .int .i64 0, .int .i64 0, .int .i64 0, .int .i64 0, .int .i64 0]) (by_ := 56) (news := (evL (evA l k))) 5 rfl hI rfl rfl rfl rfl rfl rfl Try.underlying22 (by kernel_rfl) rfl (by omega) rfl hI.sw0.lit0 rfl (by omega) (by omega) (Nat.zero_le _) ?_
          clear hI; rintro A52 c52 w hA52 hc52 hI
          simp only [List.set_cons_succ, List.set_cons_zero] at hI
          refine WL_nil ⟨hXS _ hI.d0.d0.d0.d0.d0.d0.d0.d0.d0.d0, ?_⟩
          refine WT_take 19 rfl rfl (by kernel_rfl) (hXS _ hI.d0.d0.d0.d0.d0.d0.d0.d0.d0.d0) rfl (fun W hW => have hI := hSx W hW; (rNilChk rfl rfl)) ?_
          refine WT_take 20 rfl rfl (by kernel_rfl) (hXS _ hI.d0.d0.d0.d0.d0.d0.d0.d0.d0.d0) rfl (fun W hW => have hI := hSx W hW; (by first | exact rFldN (off := 0) rfl (by kernel_rfl) rfl | exact rFld0 rfl (by kernel_rfl) rfl)) ?_
          refine WT_A (by kernel_rfl) ?_
          clear hXS hSx
          refine WA_one 21 rfl (by kernel_rfl) ?_
          refine WL_st 10 rfl (u := .slice A42 (x1.ids.length + 1) c42) (j := 2) hI rfl rfl rfl rfl rfl rfl (by kernel_rfl) rfl (by rfl) rfl ?_
          clear hI; intro w hI
          simp only [List.set_cons_succ, List.set_cons_zero] at hI
          refine WL_nil ?_
          refine WA_one 22 rfl (by kernel_rfl) ?_
          refine WL_val rfl rfl rfl (rNilChk rfl rfl) ?_
          refine WL_nil ?_
          refine WA_one 23 rfl (by kernel_rfl) ?_
          refine WL_val rfl rfl rfl (by first | exact rFldN (off := 1) rfl (by kernel_rfl) rfl | exact rFld (off := 1) rfl (by kernel_rfl) rfl) ?_
          refine WL_nil ?_
          refine WA_one 24 rfl (by kernel_rfl) ?_
          refine WL_st 10 rfl (u := .slice A52 (x1.ids.length + 1) c52) (j := 3) hI rfl rfl rfl rfl rfl rfl (by kernel_rfl) rfl (by rfl) rfl ?_
          clear hI; intro w hI
          simp only [List.set_cons_succ, List.set_cons_zero] at hI
          refine WL_nil ?_
          refine WA_end (by kernel_rfl) ?_
          replace hI := hI.d0.d0
          refine W_region ?_
          refine WL_val rfl rfl rfl (by first | exact rMoveI rfl rfl | exact rMove rfl) ?_
          refine WL_val rfl rfl rfl (by first | exact rInc rfl rfl rfl (by omega) | exact rAdd rfl rfl rfl (by omega) | exact rAddW rfl rfl rfl) ?_
          refine WL_val rfl rfl rfl (by first | exact rAsgnI rfl rfl | exact rAsgn rfl) ?_
          refine WL_nil ?_
          refine ⟨l.length - (k + 1), by omega, k + 1, x0, ⟨A42, c42, A52, c52, x1.ids ++ [k]⟩, x2, x3, rfl, by omega, hD.put1, ⟨rfl, rfl, rfl, rfl, trivial⟩, ?_⟩
          simp only [List.length_append, List.length_singleton, List.map_append, List.map_cons, List.map_nil, List.flatMap_append, List.flatMap_cons, List.flatMap_nil, List.append_nil]
          exact hI
        · refine WL_lit (vs := [_, _, _, _, _, _, _]) (qs := [(0, .agg #[_, _, _, _, _, _, _])]) [.int .i64 0, .int .i64 0, .int .i64 0, .int .i64 0, .int .i64 0, .int .i64 0, .int .i64 0] [0] hI rfl rfl rfl rfl rfl rfl Try.underlying22 (fun _ => by kernel_rfl) ?_
          clear hI; rintro b51 w - - hI
          refine WL_nil ⟨hXS _ hI.d0.d0.d0.d0.d0.d0.d0.d0.d0.d0, ?_⟩
          refine WT_one 8 rfl (by kernel_rfl) rfl ?_
          first | refine WL_app (size := 1) (z := .int .i64 0) (by_ := 8) (news := [.int .i64 (k : Int)]) 3 rfl hI rfl rfl rfl rfl rfl rfl Try.underlying23 (by kernel_rfl) rfl (by omega) rfl hI.lit0 rfl (by omega) (by omega) (Nat.zero_le _) ?_ | refine WL_app (size := 1) (z := .int .i64 0) (by_ := 8) (news := [.int .i64 (k : Int)]) 4 rfl hI rfl rfl rfl rfl rfl rfl Try.underlying23 (by kernel_rfl) rfl (by omega) rfl hI.lit0 rfl (by omega) (by omega) (Nat.zero_le _) ?_ | refine WL_app (size := 1) (z := .int .i64 0) (by_ := 8) (news := [.int .i64 (k : Int)]) 4 rfl hI rfl rfl rfl rfl rfl rfl Try.underlying23 (by kernel_rfl) rfl (by omega) rfl hI.sw0.lit0 rfl (by omega) (by omega) (Nat.zero_le _) ?_
          clear hI; rintro A42 c42 w hA42 hc42 hI
          simp only [List.set_cons_succ, List.set_cons_zero] at hI
          refine WL_nil ⟨hXS _ hI.d0.d0.d0.d0.d0.d0.d0.d0.d0.d0, ?_⟩
          refine WT_one 18 rfl (by kernel_rfl) rfl ?_
          first | refine WL_app (size := 7) (z := .agg #[.int .i64 0, .int .i64 0, .int .i64 0, .int .i64 0, .int .i64 0, .int .i64 0, .int .i64 0]) (by_ := 56) (news := (evL (evA l k))) 5 rfl hI rfl rfl rfl rfl rfl rfl Try.underlying22 (by kernel_rfl) rfl (by omega) rfl hI.lit0 rfl (by omega) (by omega) (Nat.zero_le _) ?_ | refine WL_app (size := 7) (z := .agg #[.int .i64 0, .int .i64 0, .int .i64 0, .int .i64 0, .int .i64 0, .int .i64 0, .int .i64 0]) (by_ := 56) (news := (evL (evA l k))) 5 rfl hI rfl rfl rfl rfl rfl rfl Try.underlying22 (by kernel_rfl) rfl (by omega) rfl hI.sw0.lit0 rfl (by omega) (by omega) (Nat.zero_le _) ?_
          clear hI; rintro A52 c52 w hA52 hc52 hI
          simp only [List.set_cons_succ, List.set_cons_zero] at hI
          refine WL_nil ⟨hXS _ hI.d0.d0.d0.d0.d0.d0.d0.d0.d0.d0, ?_⟩
          refine WT_take 19 rfl rfl (by kernel_rfl) (hXS _ hI.d0.d0.d0.d0.d0.d0.d0.d0.d0.d0) rfl (fun W hW => have hI := hSx W hW; (rNilChk rfl rfl)) ?_
          refine WT_take 20 rfl rfl (by kernel_rfl) (hXS _ hI.d0.d0.d0.d0.d0.d0.d0.d0.d0.d0) rfl (fun W hW => have hI := hSx W hW; (by first | exact rFldN (off := 0) rfl (by kernel_rfl) rfl | exact rFld0 rfl (by kernel_rfl) rfl)) ?_
          refine WT_A (by kernel_rfl) ?_
          clear hXS hSx
          refine WA_one 21 rfl (by kernel_rfl) ?_
          refine WL_st 10 rfl (u := .slice A42 (x1.ids.length + 1) c42) (j := 2) hI rfl rfl rfl rfl rfl rfl (by kernel_rfl) rfl (by rfl) rfl ?_
          clear hI; intro w hI
          simp only [List.set_cons_succ, List.set_cons_zero] at hI
          refine WL_nil ?_
          refine WA_one 22 rfl (by kernel_rfl) ?_
          refine WL_val rfl rfl rfl (rNilChk rfl rfl) ?_
          refine WL_nil ?_
          refine WA_one 23 rfl (by kernel_rfl) ?_
          refine WL_val rfl rfl rfl (by first | exact rFldN (off := 1) rfl (by kernel_rfl) rfl | exact rFld (off := 1) rfl (by kernel_rfl) rfl) ?_
          refine WL_nil ?_
          refine WA_one 24 rfl (by kernel_rfl) ?_
          refine WL_st 10 rfl (u := .slice A52 (x1.ids.length + 1) c52) (j := 3) hI rfl rfl rfl rfl rfl rfl (by kernel_rfl) rfl (by rfl) rfl ?_
          clear hI; intro w hI
          simp only [List.set_cons_succ, List.set_cons_zero] at hI
          refine WL_nil ?_
          refine WA_end (by kernel_rfl) ?_
          replace hI := hI.d0.d0
          refine W_region ?_
          refine WL_val rfl rfl rfl (by first | exact rMoveI rfl rfl | exact rMove rfl) ?_
          refine WL_val rfl rfl rfl (by first | exact rInc rfl rfl rfl (by omega) | exact rAdd rfl rfl rfl (by omega) | exact rAddW rfl rfl rfl) ?_
          refine WL_val rfl rfl rfl (by first | exact rAsgnI rfl rfl | exact rAsgn rfl) ?_
          refine WL_nil ?_
          refine ⟨l.length - (k + 1), by omega, k + 1, x0, ⟨A42, c42, A52, c52, x1.ids ++ [k]⟩, x2, x3, rfl, by omega, hD.put1, ⟨rfl, rfl, rfl, rfl, trivial⟩, ?_⟩
          simp only [List.length_append, List.length_singleton, List.map_append, List.map_cons, List.map_nil, List.flatMap_append, List.flatMap_cons, List.flatMap_nil, List.append_nil]
          exact hI
      · refine WL_lit (vs := [_, _, _, _, _, _, _]) (qs := [(0, .agg #[_, _, _, _, _, _, _])]) [.int .i64 0, .int .i64 0, .int .i64 0, .int .i64 0, .int .i64 0, .int .i64 0, .int .i64 0] [0] hI rfl rfl rfl rfl rfl rfl Try.underlying22 (fun _ => by kernel_rfl) ?_
        clear hI; rintro b51 w - - hI
        refine WL_nil ⟨hXS _ hI.d0.d0.d0.d0.d0.d0.d0.d0.d0, ?_⟩
        refine WT_one 7 rfl (by kernel_rfl) rfl ?_
        refine WL_lit (vs := [_]) (qs := [(0, .int .i64 _)]) [.int .i64 0] [0] hI rfl rfl rfl rfl rfl rfl Try.underlying23 (fun _ => by kernel_rfl) ?_
        clear hI; rintro b41 w - - hI
        refine WL_nil ⟨hXS _ hI.d0.d0.d0.d0.d0.d0.d0.d0.d0.d0, ?_⟩
        refine WT_one 8 rfl (by kernel_rfl) rfl ?_
        first | refine WL_app (size := 1) (z := .int .i64 0) (by_ := 8) (news := [.int .i64 (k : Int)]) 3 rfl hI rfl rfl rfl rfl rfl rfl Try.underlying23 (by kernel_rfl) rfl (by omega) rfl hI.lit0 rfl (by omega) (by omega) (Nat.zero_le _) ?_ | refine WL_app (size := 1) (z := .int .i64 0) (by_ := 8) (news := [.int .i64 (k : Int)]) 4 rfl hI rfl rfl rfl rfl rfl rfl Try.underlying23 (by kernel_rfl) rfl (by omega) rfl hI.lit0 rfl (by omega) (by omega) (Nat.zero_le _) ?_ | refine WL_app (size := 1) (z := .int .i64 0) (by_ := 8) (news := [.int .i64 (k : Int)]) 4 rfl hI rfl rfl rfl rfl rfl rfl Try.underlying23 (by kernel_rfl) rfl (by omega) rfl hI.sw0.lit0 rfl (by omega) (by omega) (Nat.zero_le _) ?_
        clear hI; rintro A42 c42 w hA42 hc42 hI
        simp only [List.set_cons_succ, List.set_cons_zero] at hI
        refine WL_nil ⟨hXS _ hI.d0.d0.d0.d0.d0.d0.d0.d0.d0.d0, ?_⟩
        refine WT_one 18 rfl (by kernel_rfl) rfl ?_
        first | refine WL_app (size := 7) (z := .agg #[.int .i64 0, .int .i64 0, .int .i64 0, .int .i64 0, .int .i64 0, .int .i64 0, .int .i64 0]) (by_ := 56) (news := (evL (evA l k))) 5 rfl hI rfl rfl rfl rfl rfl rfl Try.underlying22 (by kernel_rfl) rfl (by omega) rfl hI.lit0 rfl (by omega) (by omega) (Nat.zero_le _) ?_ | refine WL_app (size := 7) (z := .agg #[.int .i64 0, .int .i64 0, .int .i64 0, .int .i64 0, .int .i64 0, .int .i64 0, .int .i64 0]) (by_ := 56) (news := (evL (evA l k))) 5 rfl hI rfl rfl rfl rfl rfl rfl Try.underlying22 (by kernel_rfl) rfl (by omega) rfl hI.sw0.lit0 rfl (by omega) (by omega) (Nat.zero_le _) ?_
        clear hI; rintro A52 c52 w hA52 hc52 hI
        simp only [List.set_cons_succ, List.set_cons_zero] at hI
        refine WL_nil ⟨hXS _ hI.d0.d0.d0.d0.d0.d0.d0.d0.d0.d0, ?_⟩
        refine WT_take 19 rfl rfl (by kernel_rfl) (hXS _ hI.d0.d0.d0.d0.d0.d0.d0.d0.d0.d0) rfl (fun W hW => have hI := hSx W hW; (rNilChk rfl rfl)) ?_
        refine WT_take 20 rfl rfl (by kernel_rfl) (hXS _ hI.d0.d0.d0.d0.d0.d0.d0.d0.d0.d0) rfl (fun W hW => have hI := hSx W hW; (by first | exact rFldN (off := 0) rfl (by kernel_rfl) rfl | exact rFld0 rfl (by kernel_rfl) rfl)) ?_
        refine WT_A (by kernel_rfl) ?_
        clear hXS hSx
        refine WA_one 21 rfl (by kernel_rfl) ?_
        refine WL_st 10 rfl (u := .slice A42 (x1.ids.length + 1) c42) (j := 2) hI rfl rfl rfl rfl rfl rfl (by kernel_rfl) rfl (by rfl) rfl ?_
        clear hI; intro w hI
        simp only [List.set_cons_succ, List.set_cons_zero] at hI
        refine WL_nil ?_
        refine WA_one 22 rfl (by kernel_rfl) ?_
        refine WL_val rfl rfl rfl (rNilChk rfl rfl) ?_
        refine WL_nil ?_
        refine WA_one 23 rfl (by kernel_rfl) ?_
        refine WL_val rfl rfl rfl (by first | exact rFldN (off := 1) rfl (by kernel_rfl) rfl | exact rFld (off := 1) rfl (by kernel_rfl) rfl) ?_
        refine WL_nil ?_
        refine WA_one 24 rfl (by kernel_rfl) ?_
        refine WL_st 10 rfl (u := .slice A52 (x1.ids.length + 1) c52) (j := 3) hI rfl rfl rfl rfl rfl rfl (by kernel_rfl) rfl (by rfl) rfl ?_
        clear hI; intro w hI
        simp only [List.set_cons_succ, List.set_cons_zero] at hI
        refine WL_nil ?_
        refine WA_end (by kernel_rfl) ?_
        replace hI := hI.d0.d0
        refine W_region ?_
        refine WL_val rfl rfl rfl (by first | exact rMoveI rfl rfl | exact rMove rfl) ?_
        refine WL_val rfl rfl rfl (by first | exact rInc rfl rfl rfl (by omega) | exact rAdd rfl rfl rfl (by omega) | exact rAddW rfl rfl rfl) ?_
        refine WL_val rfl rfl rfl (by first | exact rAsgnI rfl rfl | exact rAsgn rfl) ?_
        refine WL_nil ?_
        refine ⟨l.length - (k + 1), by omega, k + 1, x0, ⟨A42, c42, A52, c52, x1.ids ++ [k]⟩, x2, x3, rfl, by omega, hD.put1, ⟨rfl, rfl, rfl, rfl, trivial⟩, ?_⟩
        simp only [List.length_append, List.length_singleton, List.map_append, List.map_cons, List.map_nil, List.flatMap_append, List.flatMap_cons, List.flatMap_nil, List.append_nil]
        exact hI
    · refine W_draw (by kernel_rfl) ?_
      refine WA_T (fun _ => True) [] ?_
      refine WT_take 1 rfl rfl (by kernel_rfl) trivial rfl (fun W _ => (by first | exact rMoveP rfl rfl | exact rMove rfl)) ?_
      refine WT_true ?_
      refine WA_inv (T := [21, 24]) hI.d0.d0.d0.d0.d0.d0.d0.d0.drew ?_
      intro Sx hSx hXS
      replace hI := hI.drew
      refine WT_take 0 rfl rfl (by kernel_rfl) (hXS _ hI.d0.d0.d0.d0.d0.d0.d0.d0) rfl (fun W hW => have hI := hSx W hW; (by first | exact rMoveP rfl rfl | exact rMove rfl)) ?_
      refine WT_take 2 rfl rfl (by kernel_rfl) (hXS _ hI.d0.d0.d0.d0.d0.d0.d0.d0) rfl (fun W hW => have hI := hSx W hW; (by first | exact rMoveP rfl rfl | exact rMove rfl)) ?_
      refine WT_take 3 rfl rfl (by kernel_rfl) (hXS _ hI.d0.d0.d0.d0.d0.d0.d0.d0) rfl (fun W hW => have hI := hSx W hW; (rNilChk rfl rfl)) ?_
      refine WT_take 4 rfl rfl (by kernel_rfl) (hXS _ hI.d0.d0.d0.d0.d0.d0.d0.d0) rfl (fun W hW => have hI := hSx W hW; (by first | exact rFldN (off := 0) rfl (by kernel_rfl) rfl | exact rFld0 rfl (by kernel_rfl) rfl)) ?_
      refine WT_take 5 rfl rfl (by kernel_rfl) (hXS _ hI.d0.d0.d0.d0.d0.d0.d0.d0) rfl (fun W hW => have hI := hSx W hW; (by first | exact rLd (v := .slice _ _ _) rfl (by kernel_rfl) rfl (by first | exact hI.c0 rfl) | exact rLd rfl (by kernel_rfl) rfl (by first | exact hI.c0 rfl))) ?_
      refine WT_take 6 rfl rfl (by kernel_rfl) (hXS _ hI.d0.d0.d0.d0.d0.d0.d0.d0) rfl (fun W hW => have hI := hSx W hW; (by first | exact rMoveI rfl rfl | exact rMove rfl)) ?_
      refine WT_take 9 rfl rfl (by kernel_rfl) (hXS _ hI.d0.d0.d0.d0.d0.d0.d0.d0) rfl (fun W hW => have hI := hSx W hW; (by first | exact rMoveP rfl rfl | exact rMove rfl)) ?_
      refine WT_take 10 rfl rfl (by kernel_rfl) (hXS _ hI.d0.d0.d0.d0.d0.d0.d0.d0) rfl (fun W hW => have hI := hSx W hW; (rNilChk rfl rfl)) ?_
      refine WT_take 11 rfl rfl (by kernel_rfl) (hXS _ hI.d0.d0.d0.d0.d0.d0.d0.d0) rfl (fun W hW => have hI := hSx W hW; (by first | exact rFldN (off := 1) rfl (by kernel_rfl) rfl | exact rFld (off := 1) rfl (by kernel_rfl) rfl)) ?_
      refine WT_take 12 rfl rfl (by kernel_rfl) (hXS _ hI.d0.d0.d0.d0.d0.d0.d0.d0) rfl (fun W hW => have hI := hSx W hW; (by first | exact rLd (v := .slice _ _ _) rfl (by kernel_rfl) rfl (by first | exact hI.c0 rfl) | exact rLd rfl (by kernel_rfl) rfl (by first | exact hI.c0 rfl))) ?_
      refine WT_take 13 rfl rfl (by kernel_rfl) (hXS _ hI.d0.d0.d0.d0.d0.d0.d0.d0) rfl (fun W hW => have hI := hSx W hW; (by first | exact rMoveS rfl rfl | exact rMove rfl)) ?_
      refine WT_take 14 rfl rfl (by kernel_rfl) (hXS _ hI.d0.d0.d0.d0.d0.d0.d0.d0) rfl (fun W hW => have hI := hSx W hW; (by first | exact rMoveI rfl rfl | exact rMove rfl)) ?_
      refine WT_take 15 rfl rfl (by kernel_rfl) (hXS _ hI.d0.d0.d0.d0.d0.d0.d0.d0) rfl (fun W hW => have hI := hSx W hW; (rIdx (sz := 7) (i := k) rfl Try.underlying22 (by kernel_rfl) rfl rfl (by omega))) ?_
      refine WT_take 16 rfl rfl (by kernel_rfl) (hXS _ hI.d0.d0.d0.d0.d0.d0.d0.d0) rfl (fun W hW => have hI := hSx W hW; (by first | exact rLdB (n := 7) rfl (by kernel_rfl) (by kernel_rfl) rfl rfl hI.g0 | exact rLdA (n := 7) rfl (by kernel_rfl) (by kernel_rfl) rfl (by rfl) (fun k u hk => hI.oldp (hue k u hk)) | exact rLdA (n := 7) rfl (by kernel_rfl) (by kernel_rfl) rfl (by rfl) hue)) ?_
      refine WT_two 7 17 rfl rfl (by kernel_rfl) rfl rfl ?_ ?_
      · refine WL_lit (vs := [_]) (qs := [(0, .int .i64 _)]) [.int .i64 0] [0] hI rfl rfl rfl rfl rfl rfl Try.underlying23 (fun _ => by kernel_rfl) ?_
        clear hI; rintro b41 w - - hI
        refine WL_nil ⟨hXS _ hI.d0.d0.d0.d0.d0.d0.d0.d0.d0, ?_⟩
        refine WT_two 8 17 rfl rfl (by kernel_rfl) rfl rfl ?_ ?_
        · first | refine WL_app (size := 1) (z := .int .i64 0) (by_ := 8) (news := [.int .i64 (k : Int)]) 5 rfl hI rfl rfl rfl rfl rfl rfl Try.underlying23 (by kernel_rfl) rfl (by omega) rfl hI.lit0 rfl (by omega) (by omega) (Nat.zero_le _) ?_ | refine WL_app (size := 1) (z := .int .i64 0) (by_ := 8) (news := [.int .i64 (k : Int)]) 6 rfl hI rfl rfl rfl rfl rfl rfl Try.underlying23 (by kernel_rfl) rfl (by omega) rfl hI.lit0 rfl (by omega) (by omega) (Nat.zero_le _) ?_ | refine WL_app (size := 1) (z := .int .i64 0) (by_ := 8) (news := [.int .i64 (k : Int)]) 6 rfl hI rfl rfl rfl rfl rfl rfl Try.underlying23 (by kernel_rfl) rfl (by omega) rfl hI.sw0.lit0 rfl (by omega) (by omega) (Nat.zero_le _) ?_
          clear hI; rintro A42 c42 w hA42 hc42 hI
          simp only [List.set_cons_succ, List.set_cons_zero] at hI
          refine WL_nil ⟨hXS _ hI.d0.d0.d0.d0.d0.d0.d0.d0.d0, ?_⟩
          refine WT_one 17 rfl (by kernel_rfl) rfl ?_
          refine WL_lit (vs := [_, _, _, _, _, _, _]) (qs := [(0, .agg #[_, _, _, _, _, _, _])]) [.int .i64 0, .int .i64 0, .int .i64 0, .int .i64 0, .int .i64 0, .int .i64 0, .int .i64 0] [0] hI rfl rfl rfl rfl rfl rfl Try.underlying22 (fun _ => by kernel_rfl) ?_
          clear hI; rintro b51 w - - hI
          refine WL_nil ⟨hXS _ hI.d0.d0.d0.d0.d0.d0.d0.d0.d0.d0, ?_⟩
          refine WT_one 18 rfl (by kernel_rfl) rfl ?_
          first | refine WL_app (size := 7) (z := .agg #[.int .i64 0, .int .i64 0, .int .i64 0, .int .i64 0, .int .i64 0, .int .i64 0, .int .i64 0]) (by_ := 56) (news := (evL (evA l k))) 7 rfl hI rfl rfl rfl rfl rfl rfl Try.underlying22 (by kernel_rfl) rfl (by omega) rfl hI.lit0 rfl (by omega) (by omega) (Nat.zero_le _) ?_ | refine WL_app (size := 7) (z := .agg #[.int .i64 0, .int .i64 0, .int .i64 0, .int .i64 0, .int .i64 0, .int .i64 0, .int .i64 0]) (by_ := 56) (news := (evL (evA l k))) 7 rfl hI rfl rfl rfl rfl rfl rfl Try.underlying22 (by kernel_rfl) rfl (by omega) rfl hI.sw0.lit0 rfl (by omega) (by omega) (Nat.zero_le _) ?_
          clear hI; rintro A52 c52 w hA52 hc52 hI
          simp only [List.set_cons_succ, List.set_cons_zero] at hI
          refine WL_nil ⟨hXS _ hI.d0.d0.d0.d0.d0.d0.d0.d0.d0.d0, ?_⟩
          refine WT_take 19 rfl rfl (by kernel_rfl) (hXS _ hI.d0.d0.d0.d0.d0.d0.d0.d0.d0.d0) rfl (fun W hW => have hI := hSx W hW; (rNilChk rfl rfl)) ?_
          refine WT_take 20 rfl rfl (by kernel_rfl) (hXS _ hI.d0.d0.d0.d0.d0.d0.d0.d0.d0.d0) rfl (fun W hW => have hI := hSx W hW; (by first | exact rFldN (off := 0) rfl (by kernel_rfl) rfl | exact rFld0 rfl (by kernel_rfl) rfl)) ?_
          refine WT_A (by kernel_rfl) ?_
          clear hXS hSx
          refine WA_one 21 rfl (by kernel_rfl) ?_
          refine WL_st 10 rfl (u := .slice A42 (x2.ids.length + 1) c42) (j := 4) hI rfl rfl rfl rfl rfl rfl (by kernel_rfl) rfl (by rfl) rfl ?_
          clear hI; intro w hI
          simp only [List.set_cons_succ, List.set_cons_zero] at hI
          refine WL_nil ?_
          refine WA_one 22 rfl (by kernel_rfl) ?_
          refine WL_val rfl rfl rfl (rNilChk rfl rfl) ?_
          refine WL_nil ?_
          refine WA_one 23 rfl (by kernel_rfl) ?_
          refine WL_val rfl rfl rfl (by first | exact rFldN (off := 1) rfl (by kernel_rfl) rfl | exact rFld (off := 1) rfl (by kernel_rfl) rfl) ?_
          refine WL_nil ?_
          refine WA_one 24 rfl (by kernel_rfl) ?_
          refine WL_st 10 rfl (u := .slice A52 (x2.ids.length + 1) c52) (j := 5) hI rfl rfl rfl rfl rfl rfl (by kernel_rfl) rfl (by rfl) rfl ?_
          clear hI; intro w hI
          simp only [List.set_cons_succ, List.set_cons_zero] at hI
          refine WL_nil ?_
          refine WA_end (by kernel_rfl) ?_
          replace hI := hI.d0.d0
          refine W_region ?_
          refine WL_val rfl rfl rfl (by first | exact rMoveI rfl rfl | exact rMove rfl) ?_
          refine WL_val rfl rfl rfl (by first | exact rInc rfl rfl rfl (by omega) | exact rAdd rfl rfl rfl (by omega) | exact rAddW rfl rfl rfl) ?_
          refine WL_val rfl rfl rfl (by first | exact rAsgnI rfl rfl | exact rAsgn rfl) ?_
          refine WL_nil ?_
          refine ⟨l.length - (k + 1), by omega, k + 1, x0, x1, ⟨A42, c42, A52, c52, x2.ids ++ [k]⟩, x3, rfl, by omega, hD.put2, ⟨rfl, rfl, rfl, rfl, trivial⟩, ?_⟩
          simp only [List.length_append, List.length_singleton, List.map_append, List.map_cons, List.map_nil, List.flatMap_append, List.flatMap_cons, List.flatMap_nil, List.append_nil]
          exact hI
        · refine WL_lit (vs := [_, _, _, _, _, _, _]) (qs := [(0, .agg #[_, _, _, _, _, _, _])]) [.int .i64 0, .int .i64 0, .int .i64 0, .int .i64 0, .int .i64 0, .int .i64 0, .int .i64 0] [0] hI rfl rfl rfl rfl rfl rfl Try.underlying22 (fun _ => by kernel_rfl) ?_
          clear hI; rintro b51 w - - hI
          refine WL_nil ⟨hXS _ hI.d0.d0.d0.d0.d0.d0.d0.d0.d0.d0, ?_⟩
          refine WT_one 8 rfl (by kernel_rfl) rfl ?_
          first | refine WL_app (size := 1) (z := .int .i64 0) (by_ := 8) (news := [.int .i64 (k : Int)]) 5 rfl hI rfl rfl rfl rfl rfl rfl Try.underlying23 (by kernel_rfl) rfl (by omega) rfl hI.lit0 rfl (by omega) (by omega) (Nat.zero_le _) ?_ | refine WL_app (size := 1) (z := .int .i64 0) (by_ := 8) (news := [.int .i64 (k : Int)]) 6 rfl hI rfl rfl rfl rfl rfl rfl Try.underlying23 (by kernel_rfl) rfl (by omega) rfl hI.lit0 rfl (by omega) (by omega) (Nat.zero_le _) ?_ | refine WL_app (size := 1) (z := .int .i64 0) (by_ := 8) (news := [.int .i64 (k : Int)]) 6 rfl hI rfl rfl rfl rfl rfl rfl Try.underlying23 (by kernel_rfl) rfl (by omega) rfl hI.sw0.lit0 rfl (by omega) (by omega) (Nat.zero_le _) ?_
          clear hI; rintro A42 c42 w hA42 hc42 hI
          simp only [List.set_cons_succ, List.set_cons_zero] at hI
          refine WL_nil ⟨hXS _ hI.d0.d0.d0.d0.d0.d0.d0.d0.d0.d0, ?_⟩
          refine WT_one 18 rfl (by kernel_rfl) rfl ?_
          first | refine WL_app (size := 7) (z := .agg #[.int .i64 0, .int .i64 0, .int .i64 0, .int .i64 0, .int .i64 0, .int .i64 0, .int .i64 0]) (by_ := 56) (news := (evL (evA l k))) 7 rfl hI rfl rfl rfl rfl rfl rfl Try.underlying22 (by kernel_rfl) rfl (by omega) rfl hI.lit0 rfl (by omega) (by omega) (Nat.zero_le _) ?_ | refine WL_app (size := 7) (z := .agg #[.int .i64 0, .int .i64 0, .int .i64 0, .int .i64 0, .int .i64 0, .int .i64 0, .int .i64 0]) (by_ := 56) (news := (evL (evA l k))) 7 rfl hI rfl rfl rfl rfl rfl rfl Try.underlying22 (by kernel_rfl) rfl (by omega) rfl hI.sw0.lit0 rfl (by omega) (by omega) (Nat.zero_le _) ?_
          clear hI; rintro A52 c52 w hA52 hc52 hI
          simp only [List.set_cons_succ, List.set_cons_zero] at hI
          refine WL_nil ⟨hXS _ hI.d0.d0.d0.d0.d0.d0.d0.d0.d0.d0, ?_⟩
          refine WT_take 19 rfl rfl (by kernel_rfl) (hXS _ hI.d0.d0.d0.d0.d0.d0.d0.d0.d0.d0) rfl (fun W hW => have hI := hSx W hW; (rNilChk rfl rfl)) ?_
          refine WT_take 20 rfl rfl (by kernel_rfl) (hXS _ hI.d0.d0.d0.d0.d0.d0.d0.d0.d0.d0) rfl (fun W hW => have hI := hSx W hW; (by first | exact rFldN (off := 0) rfl (by kernel_rfl) rfl | exact rFld0 rfl (by kernel_rfl) rfl)) ?_
          refine WT_A (by kernel_rfl) ?_
          clear hXS hSx
          refine WA_one 21 rfl (by kernel_rfl) ?_
          refine WL_st 10 rfl (u := .slice A42 (x2.ids.length + 1) c42) (j := 4) hI rfl rfl rfl rfl rfl rfl (by kernel_rfl) rfl (by rfl) rfl ?_
          clear hI; intro w hI
          simp only [List.set_cons_succ, List.set_cons_zero] at hI
          refine WL_nil ?_
          refine WA_one 22 rfl (by kernel_rfl) ?_
          refine WL_val rfl rfl rfl (rNilChk rfl rfl) ?_
          refine WL_nil ?_
          refine WA_one 23 rfl (by kernel_rfl) ?_
          refine WL_val rfl rfl rfl (by first | exact rFldN (off := 1) rfl (by kernel_rfl) rfl | exact rFld (off := 1) rfl (by kernel_rfl) rfl) ?_
          refine WL_nil ?_
          refine WA_one 24 rfl (by kernel_rfl) ?_
          refine WL_st 10 rfl (u := .slice A52 (x2.ids.length + 1) c52) (j := 5) hI rfl rfl rfl rfl rfl rfl (by kernel_rfl) rfl (by rfl) rfl ?_
          clear hI; intro w hI
          simp only [List.set_cons_succ, List.set_cons_zero] at hI
          refine WL_nil ?_
          refine WA_end (by kernel_rfl) ?_
          replace hI := hI.d0.d0
          refine W_region ?_
          refine WL_val rfl rfl rfl (by first | exact rMoveI rfl rfl | exact rMove rfl) ?_
          refine WL_val rfl rfl rfl (by first | exact rInc rfl rfl rfl (by omega) | exact rAdd rfl rfl rfl (by omega) | exact rAddW rfl rfl rfl) ?_
          refine WL_val rfl rfl rfl (by first | exact rAsgnI rfl rfl | exact rAsgn rfl) ?_
          refine WL_nil ?_
          refine ⟨l.length - (k + 1), by omega, k + 1, x0, x1, ⟨A42, c42, A52, c52, x2.ids ++ [k]⟩, x3, rfl, by omega, hD.put2, ⟨rfl, rfl, rfl, rfl, trivial⟩, ?_⟩
          simp only [List.length_append, List.length_singleton, List.map_append, List.map_cons, List.map_nil, List.flatMap_append, List.flatMap_cons, List.flatMap_nil, List.append_nil]
          exact hI
      · refine WL_lit (vs := [_, _, _, _, _, _, _]) (qs := [(0, .agg #[_, _, _, _, _, _, _])]) [.int .i64 0, .int .i64 0, .int .i64 0, .int .i64 0, .int .i64 0, .int .i64 0, .int .i64 0] [0] hI rfl rfl rfl rfl rfl rfl Try.underlying22 (fun _ => by kernel_rfl) ?_
        clear hI; rintro b51 w - - hI
        refine WL_nil ⟨hXS _ hI.d0.d0.d0.d0.d0.d0.d0.d0.d0, ?_⟩
        refine WT_one 7 rfl (by kernel_rfl) rfl ?_
        refine WL_lit (vs := [_]) (qs := [(0, .int .i64 _)]) [.int .i64 0] [0] hI rfl rfl rfl rfl rfl rfl Try.underlying23 (fun _ => by kernel_rfl) ?_
        clear hI; rintro b41 w - - hI
        refine WL_nil ⟨hXS _ hI.d0.d0.d0.d0.d0.d0.d0.d0.d0.d0, ?_⟩
        refine WT_one 8 rfl (by kernel_rfl) rfl ?_
        first | refine WL_app (size := 1) (z := .int .i64 0) (by_ := 8) (news := [.int .i64 (k : Int)]) 5 rfl hI rfl rfl rfl rfl rfl rfl Try.underlying23 (by kernel_rfl) rfl (by omega) rfl hI.lit0 rfl (by omega) (by omega) (Nat.zero_le _) ?_ | refine WL_app (size := 1) (z := .int .i64 0) (by_ := 8) (news := [.int .i64 (k : Int)]) 6 rfl hI rfl rfl rfl rfl rfl rfl Try.underlying23 (by kernel_rfl) rfl (by omega) rfl hI.lit0 rfl (by omega) (by omega) (Nat.zero_le _) ?_ | refine WL_app (size := 1) (z := .int .i64 0) (by_ := 8) (news := [.int .i64 (k : Int)]) 6 rfl hI rfl rfl rfl rfl rfl rfl Try.underlying23 (by kernel_rfl) rfl (by omega) rfl hI.sw0.lit0 rfl (by omega) (by omega) (Nat.zero_le _) ?_
        clear hI; rintro A42 c42 w hA42 hc42 hI
        simp only [List.set_cons_succ, List.set_cons_zero] at hI
        refine WL_nil ⟨hXS _ hI.d0.d0.d0.d0.d0.d0.d0.d0.d0.d0, ?_⟩
        refine WT_one 18 rfl (by kernel_rfl) rfl ?_
        first | refine WL_app (size := 7) (z := .agg #[.int .i64 0, .int .i64 0, .int .i64 0, .int .i64 0, .int .i64 0, .int .i64 0, .int .i64 0]) (by_ := 56) (news := (evL (evA l k))) 7 rfl hI rfl rfl rfl rfl rfl rfl Try.underlying22 (by kernel_rfl) rfl (by omega) rfl hI.lit0 rfl (by omega) (by omega) (Nat.zero_le _) ?_ | refine WL_app (size := 7) (z := .agg #[.int .i64 0, .int .i64 0, .int .i64 0, .int .i64 0, .int .i64 0, .int .i64 0, .int .i64 0]) (by_ := 56) (news := (evL (evA l k))) 7 rfl hI rfl rfl rfl rfl rfl rfl Try.underlying22 (by kernel_rfl) rfl (by omega) rfl hI.sw0.lit0 rfl (by omega) (by omega) (Nat.zero_le _) ?_
        clear hI; rintro A52 c52 w hA52 hc52 hI
        simp only [List.set_cons_succ, List.set_cons_zero] at hI
        refine WL_nil ⟨hXS _ hI.d0.d0.d0.d0.d0.d0.d0.d0.d0.d0, ?_⟩
        refine WT_take 19 rfl rfl (by kernel_rfl) (hXS _ hI.d0.d0.d0.d0.d0.d0.d0.d0.d0.d0) rfl (fun W hW => have hI := hSx W hW; (rNilChk rfl rfl)) ?_
        refine WT_take 20 rfl rfl (by kernel_rfl) (hXS _ hI.d0.d0.d0.d0.d0.d0.d0.d0.d0.d0) rfl (fun W hW => have hI := hSx W hW; (by first | exact rFldN (off := 0) rfl (by kernel_rfl) rfl | exact rFld0 rfl (by kernel_rfl) rfl)) ?_
        refine WT_A (by kernel_rfl) ?_
        clear hXS hSx
        refine WA_one 21 rfl (by kernel_rfl) ?_
        refine WL_st 10 rfl (u := .slice A42 (x2.ids.length + 1) c42) (j := 4) hI rfl rfl rfl rfl rfl rfl (by kernel_rfl) rfl (by rfl) rfl ?_
        clear hI; intro w hI
        simp only [List.set_cons_succ, List.set_cons_zero] at hI
        refine WL_nil ?_
        refine WA_one 22 rfl (by kernel_rfl) ?_
        refine WL_val rfl rfl rfl (rNilChk rfl rfl) ?_
        refine WL_nil ?_
        refine WA_one 23 rfl (by kernel_rfl) ?_
        refine WL_val rfl rfl rfl (by first | exact rFldN (off := 1) rfl (by kernel_rfl) rfl | exact rFld (off := 1) rfl (by kernel_rfl) rfl) ?_
        refine WL_nil ?_
        refine WA_one 24 rfl (by kernel_rfl) ?_
        refine WL_st 10 rfl (u := .slice A52 (x2.ids.length + 1) c52) (j := 5) hI rfl rfl rfl rfl rfl rfl (by kernel_rfl) rfl (by rfl) rfl ?_
        clear hI; intro w hI
        simp only [List.set_cons_succ, List.set_cons_zero] at hI
        refine WL_nil ?_
        refine WA_end (by kernel_rfl) ?_
        replace hI := hI.d0.d0
        refine W_region ?_
        refine WL_val rfl rfl rfl (by first | exact rMoveI rfl rfl | exact rMove rfl) ?_
        refine WL_val rfl rfl rfl (by first | exact rInc rfl rfl rfl (by omega) | exact rAdd rfl rfl rfl (by omega) | exact rAddW rfl rfl rfl) ?_
        refine WL_val rfl rfl rfl (by first | exact rAsgnI rfl rfl | exact rAsgn rfl) ?_
        refine WL_nil ?_
        refine ⟨l.length - (k + 1), by omega, k + 1, x0, x1, ⟨A42, c42, A52, c52, x2.ids ++ [k]⟩, x3, rfl, by omega, hD.put2, ⟨rfl, rfl, rfl, rfl, trivial⟩, ?_⟩
        simp only [List.length_append, List.length_singleton, List.map_append, List.map_cons, List.map_nil, List.flatMap_append, List.flatMap_cons, List.flatMap_nil, List.append_nil]
        exact hI
    · refine W_draw (by kernel_rfl) ?_
      refine WA_T (fun _ => True) [] ?_
      refine WT_take 1 rfl rfl (by kernel_rfl) trivial rfl (fun W _ => (by first | exact rMoveP rfl rfl | exact rMove rfl)) ?_
      refine WT_true ?_
      refine WA_inv (T := [21, 24]) hI.d0.d0.d0.d0.d0.d0.d0.d0.drew ?_
      intro Sx hSx hXS
      replace hI := hI.drew
      refine WT_take 0 rfl rfl (by kernel_rfl) (hXS _ hI.d0.d0.d0.d0.d0.d0.d0.d0) rfl (fun W hW => have hI := hSx W hW; (by first | exact rMoveP rfl rfl | exact rMove rfl)) ?_
      refine WT_take 2 rfl rfl (by kernel_rfl) (hXS _ hI.d0.d0.d0.d0.d0.d0.d0.d0) rfl (fun W hW => have hI := hSx W hW; (by first | exact rMoveP rfl rfl | exact rMove rfl)) ?_
      refine WT_take 3 rfl rfl (by kernel_rfl) (hXS _ hI.d0.d0.d0.d0.d0.d0.d0.d0) rfl (fun W hW => have hI := hSx W hW; (rNilChk rfl rfl)) ?_
      refine WT_take 4 rfl rfl (by kernel_rfl) (hXS _ hI.d0.d0.d0.d0.d0.d0.d0.d0) rfl (fun W hW => have hI := hSx W hW; (by first | exact rFldN (off := 0) rfl (by kernel_rfl) rfl | exact rFld0 rfl (by kernel_rfl) rfl)) ?_
      refine WT_take 5 rfl rfl (by kernel_rfl) (hXS _ hI.d0.d0.d0.d0.d0.d0.d0.d0) rfl (fun W hW => have hI := hSx W hW; (by first | exact rLd (v := .slice _ _ _) rfl (by kernel_rfl) rfl (by first | exact hI.c0 rfl) | exact rLd rfl (by kernel_rfl) rfl (by first | exact hI.c0 rfl))) ?_
      refine WT_take 6 rfl rfl (by kernel_rfl) (hXS _ hI.d0.d0.d0.d0.d0.d0.d0.d0) rfl (fun W hW => have hI := hSx W hW; (by first | exact rMoveI rfl rfl | exact rMove rfl)) ?_
      refine WT_take 9 rfl rfl (by kernel_rfl) (hXS _ hI.d0.d0.d0.d0.d0.d0.d0.d0) rfl (fun W hW => have hI := hSx W hW; (by first | exact rMoveP rfl rfl | exact rMove rfl)) ?_
      refine WT_take 10 rfl rfl (by kernel_rfl) (hXS _ hI.d0.d0.d0.d0.d0.d0.d0.d0) rfl (fun W hW => have hI := hSx W hW; (rNilChk rfl rfl)) ?_
      refine WT_take 11 rfl rfl (by kernel_rfl) (hXS _ hI.d0.d0.d0.d0.d0.d0.d0.d0) rfl (fun W hW => have hI := hSx W hW; (by first | exact rFldN (off := 1) rfl (by kernel_rfl) rfl | exact rFld (off := 1) rfl (by kernel_rfl) rfl)) ?_
      refine WT_take 12 rfl rfl (by kernel_rfl) (hXS _ hI.d0.d0.d0.d0.d0.d0.d0.d0) rfl (fun W hW => have hI := hSx W hW; (by first | exact rLd (v := .slice _ _ _) rfl (by kernel_rfl) rfl (by first | exact hI.c0 rfl) | exact rLd rfl (by kernel_rfl) rfl (by first | exact hI.c0 rfl))) ?_
      refine WT_take 13 rfl rfl (by kernel_rfl) (hXS _ hI.d0.d0.d0.d0.d0.d0.d0.d0) rfl (fun W hW => have hI := hSx W hW; (by first | exact rMoveS rfl rfl | exact rMove rfl)) ?_
      refine WT_take 14 rfl rfl (by kernel_rfl) (hXS _ hI.d0.d0.d0.d0.d0.d0.d0.d0) rfl (fun W hW => have hI := hSx W hW; (by first | exact rMoveI rfl rfl | exact rMove rfl)) ?_
      refine WT_take 15 rfl rfl (by kernel_rfl) (hXS _ hI.d0.d0.d0.d0.d0.d0.d0.d0) rfl (fun W hW => have hI := hSx W hW; (rIdx (sz := 7) (i := k) rfl Try.underlying22 (by kernel_rfl) rfl rfl (by omega))) ?_
      refine WT_take 16 rfl rfl (by kernel_rfl) (hXS _ hI.d0.d0.d0.d0.d0.d0.d0.d0) rfl (fun W hW => have hI := hSx W hW; (by first | exact rLdB (n := 7) rfl (by kernel_rfl) (by kernel_rfl) rfl rfl hI.g0 | exact rLdA (n := 7) rfl (by kernel_rfl) (by kernel_rfl) rfl (by rfl) (fun k u hk => hI.oldp (hue k u hk)) | exact rLdA (n := 7) rfl (by kernel_rfl) (by kernel_rfl) rfl (by rfl) hue)) ?_
      refine WT_two 7 17 rfl rfl (by kernel_rfl) rfl rfl ?_ ?_
      · refine WL_lit (vs := [_]) (qs := [(0, .int .i64 _)]) [.int .i64 0] [0] hI rfl rfl rfl rfl rfl rfl Try.underlying23 (fun _ => by kernel_rfl) ?_
        clear hI; rintro b41 w - - hI
        refine WL_nil ⟨hXS _ hI.d0.d0.d0.d0.d0.d0.d0.d0.d0, ?_⟩
        refine WT_two 8 17 rfl rfl (by kernel_rfl) rfl rfl ?_ ?_
        · first | refine WL_app (size := 1) (z := .int .i64 0) (by_ := 8) (news := [.int .i64 (k : Int)]) 7 rfl hI rfl rfl rfl rfl rfl rfl Try.underlying23 (by kernel_rfl) rfl (by omega) rfl hI.lit0 rfl (by omega) (by omega) (Nat.zero_le _) ?_ | refine WL_app (size := 1) (z := .int .i64 0) (by_ := 8) (news := [.int .i64 (k : Int)]) 8 rfl hI rfl rfl rfl rfl rfl rfl Try.underlying23 (by kernel_rfl) rfl (by omega) rfl hI.lit0 rfl (by omega) (by omega) (Nat.zero_le _) ?_ | refine WL_app (size := 1) (z := .int .i64 0) (by_ := 8) (news := [.int .i64 (k : Int)]) 8 rfl hI rfl rfl rfl rfl rfl rfl Try.underlying23 (by kernel_rfl) rfl (by omega) rfl hI.sw0.lit0 rfl (by omega) (by omega) (Nat.zero_le _) ?_
          clear hI; rintro A42 c42 w hA42 hc42 hI
          simp only [List.set_cons_succ, List.set_cons_zero] at hI
          refine WL_nil ⟨hXS _ hI.d0.d0.d0.d0.d0.d0.d0.d0.d0, ?_⟩
          refine WT_one 17 rfl (by kernel_rfl) rfl ?_
          refine WL_lit (vs := [_, _, _, _, _, _, _]) (qs := [(0, .agg #[_, _, _, _, _, _, _])]) [.int .i64 0, .int .i64 0, .int .i64 0, .int .i64 0, .int .i64 0, .int .i64 0, .int .i64 0] [0] hI rfl rfl rfl rfl rfl rfl Try.underlying22 (fun _ => by kernel_rfl) ?_
          clear hI; rintro b51 w - - hI
          refine WL_nil ⟨hXS _ hI.d0.d0.d0.d0.d0.d0.d0.d0.d0.d0, ?_⟩
          refine WT_one 18 rfl (by kernel_rfl) rfl ?_
          first | refine WL_app (size := 7) (z := .agg #[.int .i64 0, .int .i64 0, .int .i64 0, .int .i64 0, .int .i64 0, .int .i64 0, .int .i64 0]) (by_ := 56) (news := (evL (evA l k))) 9 rfl hI rfl rfl rfl rfl rfl rfl Try.underlying22 (by kernel_rfl) rfl (by omega) rfl hI.lit0 rfl (by omega) (by omega) (Nat.zero_le _) ?_ | refine WL_app (size := 7) (z := .agg #[.int .i64 0, .int .i64 0, .int .i64 0, .int .i64 0, .int .i64 0, .int .i64 0, .int .i64 0]) (by_ := 56) (news := (evL (evA l k))) 9 rfl hI rfl rfl rfl rfl rfl rfl Try.underlying22 (by kernel_rfl) rfl (by omega) rfl hI.sw0.lit0 rfl (by omega) (by omega) (Nat.zero_le _) ?_
          clear hI; rintro A52 c52 w hA52 hc52 hI
          simp only [List.set_cons_succ, List.set_cons_zero] at hI
          refine WL_nil ⟨hXS _ hI.d0.d0.d0.d0.d0.d0.d0.d0.d0.d0, ?_⟩
          refine WT_take 19 rfl rfl (by kernel_rfl) (hXS _ hI.d0.d0.d0.d0.d0.d0.d0.d0.d0.d0) rfl (fun W hW => have hI := hSx W hW; (rNilChk rfl rfl)) ?_
          refine WT_take 20 rfl rfl (by kernel_rfl) (hXS _ hI.d0.d0.d0.d0.d0.d0.d0.d0.d0.d0) rfl (fun W hW => have hI := hSx W hW; (by first | exact rFldN (off := 0) rfl (by kernel_rfl) rfl | exact rFld0 rfl (by kernel_rfl) rfl)) ?_
          refine WT_A (by kernel_rfl) ?_
          clear hXS hSx
          refine WA_one 21 rfl (by kernel_rfl) ?_
          refine WL_st 10 rfl (u := .slice A42 (x3.ids.length + 1) c42) (j := 6) hI rfl rfl rfl rfl rfl rfl (by kernel_rfl) rfl (by rfl) rfl ?_
          clear hI; intro w hI
          simp only [List.set_cons_succ, List.set_cons_zero] at hI
          refine WL_nil ?_
          refine WA_one 22 rfl (by kernel_rfl) ?_
          refine WL_val rfl rfl rfl (rNilChk rfl rfl) ?_
          refine WL_nil ?_
          refine WA_one 23 rfl (by kernel_rfl) ?_
          refine WL_val rfl rfl rfl (by first | exact rFldN (off := 1) rfl (by kernel_rfl) rfl | exact rFld (off := 1) rfl (by kernel_rfl) rfl) ?_
          refine WL_nil ?_
          refine WA_one 24 rfl (by kernel_rfl) ?_
          refine WL_st 10 rfl (u := .slice A52 (x3.ids.length + 1) c52) (j := 7) hI rfl rfl rfl rfl rfl rfl (by kernel_rfl) rfl (by rfl) rfl ?_
          clear hI; intro w hI
          simp only [List.set_cons_succ, List.set_cons_zero] at hI
          refine WL_nil ?_
          refine WA_end (by kernel_rfl) ?_
          replace hI := hI.d0.d0
          refine W_region ?_
          refine WL_val rfl rfl rfl (by first | exact rMoveI rfl rfl | exact rMove rfl) ?_
          refine WL_val rfl rfl rfl (by first | exact rInc rfl rfl rfl (by omega) | exact rAdd rfl rfl rfl (by omega) | exact rAddW rfl rfl rfl) ?_
          refine WL_val rfl rfl rfl (by first | exact rAsgnI rfl rfl | exact rAsgn rfl) ?_
          refine WL_nil ?_
          refine ⟨l.length - (k + 1), by omega, k + 1, x0, x1, x2, ⟨A42, c42, A52, c52, x3.ids ++ [k]⟩, rfl, by omega, hD.put3, ⟨rfl, rfl, rfl, rfl, trivial⟩, ?_⟩
          simp only [List.length_append, List.length_singleton, List.map_append, List.map_cons, List.map_nil, List.flatMap_append, List.flatMap_cons, List.flatMap_nil, List.append_nil]
          exact hI
        · refine WL_lit (vs := [_, _, _, _, _, _, _]) (qs := [(0, .agg #[_, _, _, _, _, _, _])]) [.int .i64 0, .int .i64 0, .int .i64 0, .int .i64 0, .int .i64 0, .int .i64 0, .int .i64 0] [0] hI rfl rfl rfl rfl rfl rfl Try.underlying22 (fun _ => by kernel_rfl) ?_
          clear hI; rintro b51 w - - hI
          refine WL_nil ⟨hXS _ hI.d0.d0.d0.d0.d0.d0.d0.d0.d0.d0, ?_⟩
          refine WT_one 8 rfl (by kernel_rfl) rfl ?_
          first | refine WL_app (size := 1) (z := .int .i64 0) (by_ := 8) (news := [.int .i64 (k : Int)]) 7 rfl hI rfl rfl rfl rfl rfl rfl Try.underlying23 (by kernel_rfl) rfl (by omega) rfl hI.lit0 rfl (by omega) (by omega) (Nat.zero_le _) ?_ | refine WL_app (size := 1) (z := .int .i64 0) (by_ := 8) (news := [.int .i64 (k : Int)]) 8 rfl hI rfl rfl rfl rfl rfl rfl Try.underlying23 (by kernel_rfl) rfl (by omega) rfl hI.lit0 rfl (by omega) (by omega) (Nat.zero_le _) ?_ | refine WL_app (size := 1) (z := .int .i64 0) (by_ := 8) (news := [.int .i64 (k : Int)]) 8 rfl hI rfl rfl rfl rfl rfl rfl Try.underlying23 (by kernel_rfl) rfl (by omega) rfl hI.sw0.lit0 rfl (by omega) (by omega) (Nat.zero_le _) ?_
          clear hI; rintro A42 c42 w hA42 hc42 hI
          simp only [List.set_cons_succ, List.set_cons_zero] at hI
          refine WL_nil ⟨hXS _ hI.d0.d0.d0.d0.d0.d0.d0.d0.d0.d0, ?_⟩
          refine WT_one 18 rfl (by kernel_rfl) rfl ?_
          first | refine WL_app (size := 7) (z := .agg #[.int .i64 0, .int .i64 0, .int .i64 0, .int .i64 0, .int .i64 0, .int .i64 0, .int .i64 0]) (by_ := 56) (news := (evL (evA l k))) 9 rfl hI rfl rfl rfl rfl rfl rfl Try.underlying22 (by kernel_rfl) rfl (by omega) rfl hI.lit0 rfl (by omega) (by omega) (Nat.zero_le _) ?_ | refine WL_app (size := 7) (z := .agg #[.int .i64 0, .int .i64 0, .int .i64 0, .int .i64 0, .int .i64 0, .int .i64 0, .int .i64 0]) (by_ := 56) (news := (evL (evA l k))) 9 rfl hI rfl rfl rfl rfl rfl rfl Try.underlying22 (by kernel_rfl) rfl (by omega) rfl hI.sw0.lit0 rfl (by omega) (by omega) (Nat.zero_le _) ?_
          clear hI; rintro A52 c52 w hA52 hc52 hI
          simp only [List.set_cons_succ, List.set_cons_zero] at hI
          refine WL_nil ⟨hXS _ hI.d0.d0.d0.d0.d0.d0.d0.d0.d0.d0, ?_⟩
          refine WT_take 19 rfl rfl (by kernel_rfl) (hXS _ hI.d0.d0.d0.d0.d0.d0.d0.d0.d0.d0) rfl (fun W hW => have hI := hSx W hW; (rNilChk rfl rfl)) ?_
          refine WT_take 20 rfl rfl (by kernel_rfl) (hXS _ hI.d0.d0.d0.d0.d0.d0.d0.d0.d0.d0) rfl (fun W hW => have hI := hSx W hW; (by first | exact rFldN (off := 0) rfl (by kernel_rfl) rfl | exact rFld0 rfl (by kernel_rfl) rfl)) ?_
          refine WT_A (by kernel_rfl) ?_
          clear hXS hSx
          refine WA_one 21 rfl (by kernel_rfl) ?_
          refine WL_st 10 rfl (u := .slice A42 (x3.ids.length + 1) c42) (j := 6) hI rfl rfl rfl rfl rfl rfl (by kernel_rfl) rfl (by rfl) rfl ?_
          clear hI; intro w hI
          simp only [List.set_cons_succ, List.set_cons_zero] at hI
          refine WL_nil ?_
          refine WA_one 22 rfl (by kernel_rfl) ?_
          refine WL_val rfl rfl rfl (rNilChk rfl rfl) ?_
          refine WL_nil ?_
          refine WA_one 23 rfl (by kernel_rfl) ?_
          refine WL_val rfl rfl rfl (by first | exact rFldN (off := 1) rfl (by kernel_rfl) rfl | exact rFld (off := 1) rfl (by kernel_rfl) rfl) ?_
          refine WL_nil ?_
          refine WA_one 24 rfl (by kernel_rfl) ?_
          refine WL_st 10 rfl (u := .slice A52 (x3.ids.length + 1) c52) (j := 7) hI rfl rfl rfl rfl rfl rfl (by kernel_rfl) rfl (by rfl) rfl ?_
          clear hI; intro w hI
          simp only [List.set_cons_succ, List.set_cons_zero] at hI
          refine WL_nil ?_
          refine WA_end (by kernel_rfl) ?_
          replace hI := hI.d0.d0
          refine W_region ?_
          refine WL_val rfl rfl rfl (by first | exact rMoveI rfl rfl | exact rMove rfl) ?_
          refine WL_val rfl rfl rfl (by first | exact rInc rfl rfl rfl (by omega) | exact rAdd rfl rfl rfl (by omega) | exact rAddW rfl rfl rfl) ?_
          refine WL_val rfl rfl rfl (by first | exact rAsgnI rfl rfl | exact rAsgn rfl) ?_
          refine WL_nil ?_
          refine ⟨l.length - (k + 1), by omega, k + 1, x0, x1, x2, ⟨A42, c42, A52, c52, x3.ids ++ [k]⟩, rfl, by omega, hD.put3, ⟨rfl, rfl, rfl, rfl, trivial⟩, ?_⟩
          simp only [List.length_append, List.length_singleton, List.map_append, List.map_cons, List.map_nil, List.flatMap_append, List.flatMap_cons, List.flatMap_nil, List.append_nil]
          exact hI
      · refine WL_lit (vs := [_, _, _, _, _, _, _]) (qs := [(0, .agg #[_, _, _, _, _, _, _])]) [.int .i64 0, .int .i64 0, .int .i64 0, .int .i64 0, .int .i64 0, .int .i64 0, .int .i64 0] [0] hI rfl rfl rfl rfl rfl rfl Try.underlying22 (fun _ => by kernel_rfl) ?_
        clear hI; rintro b51 w - - hI
        refine WL_nil ⟨hXS _ hI.d0.d0.d0.d0.d0.d0.d0.d0.d0, ?_⟩
        refine WT_one 7 rfl (by kernel_rfl) rfl ?_
        refine WL_lit (vs := [_]) (qs := [(0, .int .i64 _)]) [.int .i64 0] [0] hI rfl rfl rfl rfl rfl rfl Try.underlying23 (fun _ => by kernel_rfl) ?_
        clear hI; rintro b41 w - - hI
        refine WL_nil ⟨hXS _ hI.d0.d0.d0.d0.d0.d0.d0.d0.d0.d0, ?_⟩
        refine WT_one 8 rfl (by kernel_rfl) rfl ?_
        first | refine WL_app (size := 1) (z := .int .i64 0) (by_ := 8) (news := [.int .i64 (k : Int)]) 7 rfl hI rfl rfl rfl rfl rfl rfl Try.underlying23 (by kernel_rfl) rfl (by omega) rfl hI.lit0 rfl (by omega) (by omega) (Nat.zero_le _) ?_ | refine WL_app (size := 1) (z := .int .i64 0) (by_ := 8) (news := [.int .i64 (k : Int)]) 8 rfl hI rfl rfl rfl rfl rfl rfl Try.underlying23 (by kernel_rfl) rfl (by omega) rfl hI.lit0 rfl (by omega) (by omega) (Nat.zero_le _) ?_ | refine WL_app (size := 1) (z := .int .i64 0) (by_ := 8) (news := [.int .i64 (k : Int)]) 8 rfl hI rfl rfl rfl rfl rfl rfl Try.underlying23 (by kernel_rfl) rfl (by omega) rfl hI.sw0.lit0 rfl (by omega) (by omega) (Nat.zero_le _) ?_
        clear hI; rintro A42 c42 w hA42 hc42 hI
        simp only [List.set_cons_succ, List.set_cons_zero] at hI
        refine WL_nil ⟨hXS _ hI.d0.d0.d0.d0.d0.d0.d0.d0.d0.d0, ?_⟩
        refine WT_one 18 rfl (by kernel_rfl) rfl ?_
        first | refine WL_app (size := 7) (z := .agg #[.int .i64 0, .int .i64 0, .int .i64 0, .int .i64 0, .int .i64 0, .int .i64 0, .int .i64 0]) (by_ := 56) (news := (evL (evA l k))) 9 rfl hI rfl rfl rfl rfl rfl rfl Try.underlying22 (by kernel_rfl) rfl (by omega) rfl hI.lit0 rfl (by omega) (by omega) (Nat.zero_le _) ?_ | refine WL_app (size := 7) (z := .agg #[.int .i64 0, .int .i64 0, .int .i64 0, .int .i64 0, .int .i64 0, .int .i64 0, .int .i64 0]) (by_ := 56) (news := (evL (evA l k))) 9 rfl hI rfl rfl rfl rfl rfl rfl Try.underlying22 (by kernel_rfl) rfl (by omega) rfl hI.sw0.lit0 rfl (by omega) (by omega) (Nat.zero_le _) ?_
        clear hI; rintro A52 c52 w hA52 hc52 hI
        simp only [List.set_cons_succ, List.set_cons_zero] at hI
        refine WL_nil ⟨hXS _ hI.d0.d0.d0.d0.d0.d0.d0.d0.d0.d0, ?_⟩
        refine WT_take 19 rfl rfl (by kernel_rfl) (hXS _ hI.d0.d0.d0.d0.d0.d0.d0.d0.d0.d0) rfl (fun W hW => have hI := hSx W hW; (rNilChk rfl rfl)) ?_
        refine WT_take 20 rfl rfl (by kernel_rfl) (hXS _ hI.d0.d0.d0.d0.d0.d0.d0.d0.d0.d0) rfl (fun W hW => have hI := hSx W hW; (by first | exact rFldN (off := 0) rfl (by kernel_rfl) rfl | exact rFld0 rfl (by kernel_rfl) rfl)) ?_
        refine WT_A (by kernel_rfl) ?_
        clear hXS hSx
        refine WA_one 21 rfl (by kernel_rfl) ?_
        refine WL_st 10 rfl (u := .slice A42 (x3.ids.length + 1) c42) (j := 6) hI rfl rfl rfl rfl rfl rfl (by kernel_rfl) rfl (by rfl) rfl ?_
        clear hI; intro w hI
        simp only [List.set_cons_succ, List.set_cons_zero] at hI
        refine WL_nil ?_
        refine WA_one 22 rfl (by kernel_rfl) ?_
        refine WL_val rfl rfl rfl (rNilChk rfl rfl) ?_
        refine WL_nil ?_
        refine WA_one 23 rfl (by kernel_rfl) ?_
        refine WL_val rfl rfl rfl (by first | exact rFldN (off := 1) rfl (by kernel_rfl) rfl | exact rFld (off := 1) rfl (by kernel_rfl) rfl) ?_
        refine WL_nil ?_
        refine WA_one 24 rfl (by kernel_rfl) ?_
        refine WL_st 10 rfl (u := .slice A52 (x3.ids.length + 1) c52) (j := 7) hI rfl rfl rfl rfl rfl rfl (by kernel_rfl) rfl (by rfl) rfl ?_
        clear hI; intro w hI
        simp only [List.set_cons_succ, List.set_cons_zero] at hI
        refine WL_nil ?_
        refine WA_end (by kernel_rfl) ?_
        replace hI := hI.d0.d0
        refine W_region ?_
        refine WL_val rfl rfl rfl (by first | exact rMoveI rfl rfl | exact rMove rfl) ?_
        refine WL_val rfl rfl rfl (by first | exact rInc rfl rfl rfl (by omega) | exact rAdd rfl rfl rfl (by omega) | exact rAddW rfl rfl rfl) ?_
        refine WL_val rfl rfl rfl (by first | exact rAsgnI rfl rfl | exact rAsgn rfl) ?_
        refine WL_nil ?_
        refine ⟨l.length - (k + 1), by omega, k + 1, x0, x1, x2, ⟨A42, c42, A52, c52, x3.ids ++ [k]⟩, rfl, by omega, hD.put3, ⟨rfl, rfl, rfl, rfl, trivial⟩, ?_⟩
        simp only [List.length_append, List.length_singleton, List.map_append, List.map_cons, List.map_nil, List.flatMap_append, List.flatMap_cons, List.flatMap_nil, List.append_nil]
        exact hI
  clear hI
  rintro ρ w ⟨x0, x1, x2, x3, hD, hH, hI⟩
  obtain ⟨σ, rfl⟩ := hH.open
  have hB : Blk w b20 27 #[.slice x0.tA x0.ids.length x0.tc, .slice x0.eA x0.ids.length x0.ec, .slice x1.tA x1.ids.length x1.tc, .slice x1.eA x1.ids.length x1.ec, .slice x2.tA x2.ids.length x2.tc, .slice x2.eA x2.ids.length x2.ec, .slice x3.tA x3.ids.length x3.tc, .slice x3.eA x3.ids.length x3.ec] := (hI.ok (B b20 27 #[.slice x0.tA x0.ids.length x0.tc, .slice x0.eA x0.ids.length x0.ec, .slice x1.tA x1.ids.length x1.tc, .slice x1.eA x1.ids.length x1.ec, .slice x2.tA x2.ids.length x2.tc, .slice x2.eA x2.ids.length x2.ec, .slice x3.tA x3.ids.length x3.tc, .slice x3.eA x3.ids.length x3.ec]) (by repeat' first | exact List.Mem.head _ | apply List.Mem.tail)).1
  have hcells : ∀ (i : Nat) x, [x0, x1, x2, x3][i]? = some x → ∀ (j : Nat) u, x.cells[j]? = some u → w.cell? ⟨b20, 0 + i * 2 + j, none⟩ = some u := fun i x hx j u hu => by
    have hj : j < 2 := (List.getElem?_eq_some_iff.1 hu).1
    have hi : i < 4 := (List.getElem?_eq_some_iff.1 hx).1
    rw [Nat.zero_add, hB.cell]
    obtain rfl | rfl | rfl | rfl : i = 0 ∨ i = 1 ∨ i = 2 ∨ i = 3 := by omega
    all_goals
      injection hx with hx
      subst hx
      obtain rfl | rfl : j = 0 ∨ j = 1 := by omega
      · exact hu
      · exact hu
  have hok : ∀ x ∈ [x0, x1, x2, x3], StOk w (fun _ => True) (evA l) x := fun x hx => by
    simp only [List.mem_cons, List.not_mem_nil, or_false] at hx
    rcases hx with rfl | rfl | rfl | rfl
    · exact stOk_of l x hI (by repeat' first | exact List.Mem.head _ | apply List.Mem.tail) (by repeat' first | exact List.Mem.head _ | apply List.Mem.tail) hD.rise.1
    · exact stOk_of l x hI (by repeat' first | exact List.Mem.head _ | apply List.Mem.tail) (by repeat' first | exact List.Mem.head _ | apply List.Mem.tail) hD.rise.2.1
    · exact stOk_of l x hI (by repeat' first | exact List.Mem.head _ | apply List.Mem.tail) (by repeat' first | exact List.Mem.head _ | apply List.Mem.tail) hD.rise.2.2.1
    · exact stOk_of l x hI (by repeat' first | exact List.Mem.head _ | apply List.Mem.tail) (by repeat' first | exact List.Mem.head _ | apply List.Mem.tail) hD.rise.2.2.2
  have hself : begF l l = true := begF_true (Nat.le_refl _) rfl
  refine W_seq ?_
  refine W_region ?_
  refine WL_val rfl rfl rfl (by first | exact rMoveS rfl rfl | exact rMove rfl) ?_
  refine WL_call rfl rfl rfl (rCall (vs := [.slice _ _ _]) rfl Try.func5 rfl rfl rfl) ?_
  refine (merge_any b20 [x0, x1, x2, x3] l.length (evA l) (fun _ => True) _ hok hcells rfl (by simpa using hD.perm) h60).mono ?_
  rintro e w1 ⟨Am, cm, rfl, hJ⟩
  refine ⟨_, rfl, ?_⟩
  replace hI := hI.app1 hJ
  refine WL_val rfl rfl rfl (by first | exact rMoveT rfl rfl | exact rMove rfl) ?_
  refine WL_val rfl rfl rfl (rExtr rfl rfl rfl) ?_
  refine WL_val rfl rfl rfl (rExtr rfl rfl rfl) ?_
  refine WL_val rfl rfl rfl (by first | exact rAsgnS rfl rfl | exact rAsgn rfl) ?_
  refine WL_val rfl rfl rfl (by first | exact rAsgnN rfl rfl | exact rAsgnE rfl rfl | exact rAsgn rfl) ?_
  refine WL_nil ?_
  refine W_seq ?_
  refine W_region ?_
  refine WL_call rfl rfl rfl (rCall (vs := []) rfl Try.func6 rfl rfl rfl) ?_
  refine (kept_any _).mono ?_
  rintro e w2 ⟨rfl, hp⟩
  refine ⟨_, rfl, ?_⟩
  replace hI := hI.pure hp
  refine WL_val rfl rfl rfl (by first | exact rMoveB rfl rfl | exact rMove rfl) ?_
  first | refine WL_val rfl rfl rfl (by first | exact rMoveN rfl rfl | exact rMoveE rfl rfl | exact rMove rfl) ?_ | refine WL_skip rfl rfl rfl ?_
  first | refine WL_val rfl rfl rfl (by first | exact rIfaceEq rfl Try.underlying32 rfl rfl | exact rNilEq rfl Try.underlying32 rfl) ?_ | refine WL_skip rfl rfl rfl ?_
  refine WL_val rfl rfl rfl (by first | exact rPickTB rfl rfl rfl | exact rPickFB rfl rfl rfl | exact rPickB rfl rfl rfl rfl) ?_
  refine WL_val rfl rfl rfl (by first | exact rMoveB rfl rfl | exact rMove rfl) ?_
  first | refine WL_val rfl rfl rfl (by first | exact rMoveS rfl rfl | exact rMove rfl) ?_ | refine WL_skip rfl rfl rfl ?_
  first | refine WL_val rfl rfl rfl (rLen rfl Try.underlying22 rfl) ?_ | refine WL_skip rfl rfl rfl ?_
  first | refine WL_val rfl rfl rfl (by first | exact rMoveS rfl rfl | exact rMove rfl) ?_ | refine WL_skip rfl rfl rfl ?_
  first | refine WL_val rfl rfl rfl (rLen rfl Try.underlying22 rfl) ?_ | refine WL_skip rfl rfl rfl ?_
  first | refine WL_val rfl rfl rfl (by first | exact rEqlT rfl rfl rfl (by omega) | exact rEqlF rfl rfl rfl (by omega) | exact rEql rfl rfl rfl) ?_ | refine WL_skip rfl rfl rfl ?_
  refine WL_val rfl rfl rfl (by first | exact rPickTB rfl rfl rfl | exact rPickFB rfl rfl rfl | exact rPickB rfl rfl rfl rfl) ?_
  refine WL_val rfl rfl rfl (by first | exact rMoveB rfl rfl | exact rMove rfl) ?_
  first | refine WL_val rfl rfl rfl (by first | exact rMoveS rfl rfl | exact rMove rfl) ?_ | refine WL_skip rfl rfl rfl ?_
  first | refine WL_val rfl rfl rfl (by first | exact rMoveS rfl rfl | exact rMove rfl) ?_ | refine WL_skip rfl rfl rfl ?_
  refine WL_call rfl rfl rfl (rCall (vs := [.slice _ _ _, .slice _ _ _]) rfl Try.func7 rfl rfl rfl) ?_
  refine (begins_any Am A l.length cm l.length c l l (fun _ => True) D _ (evs_row hI.g0) (h.pure hI.pu) rfl rfl (by omega)).mono ?_
  rintro e w2 ⟨rfl, hp⟩
  rw [hself]
  refine ⟨_, rfl, ?_⟩
  replace hI := hI.pure hp
  refine WL_val rfl rfl rfl (by first | exact rPickTB rfl rfl rfl | exact rPickFB rfl rfl rfl | exact rPickB rfl rfl rfl rfl) ?_
  refine WL_val rfl rfl rfl (by first | exact rAsgnB rfl rfl | exact rAsgn rfl) ?_
  refine WL_nil ?_
  refine W_ret ?_
  exact ret1 4 (.inr rfl) rfl ⟨rfl, hI.pu⟩
end Go.Proofs.Ytfagfkgmibmanaa
