/- serial.Check. -/
import Derived.Test.YtgkmlnbnjbpodaaDoorSer1
namespace Go.Proofs.YtgkmlnbnjbpodaaDoor
open Go.RowKit
set_option linter.unusedVariables false
set_option linter.unusedSimpArgs false
def boolC (n : Nat) (f : Nat → Bool) : Array Value := ((List.range n).map fun v => Value.bool (f v)).toArray
theorem boolC_get {n : Nat} (f : Nat → Bool) {v : Nat} (hv : v < n) : (boolC n f)[v]? = some (.bool (f v)) := by simp [boolC, hv]
theorem boolC_set {n : Nat} (f : Nat → Bool) (u : Nat) (b : Bool) : (boolC n f).setIfInBounds u (.bool b) = boolC n (fun x => if x = u then b else f x) := by
  apply Array.ext'
  simp only [boolC, Array.toList_setIfInBounds]
  refine List.ext_getElem (by simp) (fun i h1 h2 => ?_)
  simp only [List.getElem_set, List.getElem_map, List.getElem_range]
  by_cases h : u = i
  · subst h; simp
  · rw [if_neg h, if_neg (Ne.symm h)]
abbrev sAt (l : List St) (k : Nat) : St := l.getD k ⟨0, 0, 0⟩
/-- Whose transactions are over, behind k steps. -/
def overTo (l : List St) : Nat → Nat → Bool
  | 0 => fun _ => false
  | k + 1 => fun t => if t = (sAt l k).tx.toNat then decide (3 ≤ (sAt l k).kind) else overTo l k t
def okAt (l : List St) (k : Nat) : Prop := stepE (sAt l k) = none ∧ overTo l k (sAt l k).tx.toNat = false
instance (l : List St) (k : Nat) : Decidable (okAt l k) := inferInstanceAs (Decidable (_ ∧ _))
def OkSteps (l : List St) : Prop := l.length ≤ 60 ∧ ∀ k, k < l.length → okAt l k
theorem stepE_none {s : St} (h : stepE s = none) : 0 ≤ s.tx ∧ s.tx < 8 ∧ 0 ≤ s.key ∧ s.key < 8 ∧ 1 ≤ s.kind ∧ s.kind ≤ 4 ∧ (3 ≤ s.kind → s.key = 0) := by
  unfold stepE at h
  split at h
  · cases h
  · split at h
    · cases h
    · omega
theorem stepE_some {s : St} {n : Int} (h : stepE s = some n) : n = 1 ∨ n = 2 := by
  unfold stepE at h
  split at h
  · injection h with h; omega
  · split at h
    · injection h with h; omega
    · cases h
/-- An error that was made behind a world. -/
def FreshE (w0 : World) (e : Value) : Prop := ∀ b o : Nat, e = .iface 91 (.pointer (some ⟨b, o, none⟩)) → w0.heap.size ≤ b
theorem FreshE.num (w0 : World) (n : Int) : FreshE w0 (.iface 29 (.int .i64 n)) := fun b o h => by injection h with h; exact absurd h (by decide)
theorem FreshE.mk {w0 : World} {b : Nat} (h : w0.heap.size ≤ b) : FreshE w0 (.iface 91 (.pointer (some ⟨b, 0, none⟩))) := fun b' o he => by
  injection he with _ he
  injection he with he
  injection he with he
  injection he with he _
  omega
/-- An error, as a part of memory. -/
def ErrE (e : Value) (n : Int) : Ent := ⟨fun k => ∃ o : Nat, e = .iface 91 (.pointer (some ⟨k, o, none⟩)), fun w => IsE w e n⟩
theorem ErrE.ok {w : World} {e : Value} {n : Int} (h : IsE w e n) : (ErrE e n).ok w := by
  refine Ent.mk_ok h (fun k hk => ?_) (fun S w1 w2 hc hS h1 => ?_)
  · obtain ⟨o, rfl⟩ := hk
    rcases h with h | ⟨b, o', h, hc⟩
    · injection h with h; exact absurd h (by decide)
    · injection h with _ h
      injection h with h
      injection h with h
      injection h with h _
      subst h
      exact World.block_lt_of_cell? w _ hc
  · rcases h1 with h1 | ⟨b, o, h1, hcell⟩
    · exact .inl h1
    · exact .inr ⟨b, o, h1, (World.cell?_of_block (hc.block b (World.block_lt_of_cell? w1 _ hcell) (hS b ⟨o, h1⟩))).trans hcell⟩
def CheckPost (l : List St) (w0 : World) (en : Ending) (w' : World) : Prop :=
  ((OkSteps l ∧ en = .returned .nilIface) ∨ (¬ OkSteps l ∧ ∃ e n, en = .returned e ∧ IsE w' e n ∧ FreshE w0 e ∧ (n = 1 ∨ n = 2 ∨ n = 4 ∨ n = 6))) ∧ Pure w0 w'
theorem c_at1 {w : World} {b k : Nat} {v : Value} (h : w.cell? ⟨b, k, none⟩ = some v) : w.cell? ⟨b, 0 + k * 1, none⟩ = some v := by simpa using h
set_option maxHeartbeats 2000000 in
theorem check_any (A : Option Addr) (n c : Nat) (l : List St) (D : Nat → Prop) (w0 : World) (h : Sts w0 D (.slice A n c) l) (hg : GlobOk w0) :
    Calls Tryd.prog 21 #[.slice A n c] w0 (CheckPost l w0) := by
  have hI := Inv.start (fun _ => False) w0
  obtain ⟨hn, hc1, hc2⟩ := h.len
  refine calls_of_W (N := Tryd.f21.ntmps) Tryd.func21 rfl rfl rfl ?_
  refine W_seq ?_
  refine W_region ?_
  refine WL_val rfl rfl rfl (by first | exact rAsgnN rfl rfl | exact rAsgnE rfl rfl | exact rAsgn rfl) ?_
  refine WL_nil ?_
  by_cases h60 : n ≤ 60
  rotate_left
  · refine W_seq ?_
    refine W_seq ?_
    refine W_region ?_
    refine WL_val rfl rfl rfl (by first | exact rMoveS rfl rfl | exact rMove rfl) ?_
    refine WL_val rfl rfl rfl (rLen rfl Tryd.underlying22 rfl) ?_
    refine WL_val rfl rfl rfl (by first | exact rGtrT rfl rfl rfl (by omega) | exact rGtrF rfl rfl rfl (by omega) | exact rGtr rfl rfl rfl) ?_
    refine WL_nil ?_
    refine W_cond true rfl ?_
    refine W_seq ?_
    refine W_region ?_
    refine WL_val rfl rfl rfl (rIface rfl Tryd.underlying29 rfl rfl) ?_
    refine WL_val rfl rfl rfl (by first | exact rAsgnN rfl rfl | exact rAsgnE rfl rfl | exact rAsgn rfl) ?_
    refine WL_nil ?_
    refine W_ret ?_
    exact ret1 2 (.inr rfl) rfl ⟨.inr ⟨fun h => by have := h.1; omega, _, 4, rfl, .inl rfl, FreshE.num _ _, by omega⟩, hI.pu⟩
  refine W_seq ?_
  refine W_seq ?_
  refine W_region ?_
  refine WL_val rfl rfl rfl (by first | exact rMoveS rfl rfl | exact rMove rfl) ?_
  refine WL_val rfl rfl rfl (rLen rfl Tryd.underlying22 rfl) ?_
  refine WL_val rfl rfl rfl (by first | exact rGtrT rfl rfl rfl (by omega) | exact rGtrF rfl rfl rfl (by omega) | exact rGtr rfl rfl rfl) ?_
  refine WL_nil ?_
  refine W_cond false rfl ?_
  refine W_skip ?_
  refine W_seq ?_
  refine W_region ?_
  refine WL_alloc (u := .agg #[.bool false, .bool false, .bool false, .bool false, .bool false, .bool false, .bool false, .bool false]) (vs := #[.bool false, .bool false, .bool false, .bool false, .bool false, .bool false, .bool false, .bool false]) hI rfl rfl rfl rfl (by kernel_rfl) rfl ?_
  clear hI; rintro b3 w - - hI
  refine WL_nil ?_
  refine W_seq ?_
  refine W_seq ?_
  refine W_region ?_
  refine WL_val rfl rfl rfl (by first | exact rMoveS rfl rfl | exact rMove rfl) ?_
  refine WL_val rfl rfl rfl (rLen rfl Tryd.underlying22 rfl) ?_
  refine WL_val rfl rfl rfl (by first | exact rMoveI rfl rfl | exact rMove rfl) ?_
  refine WL_nil ?_
  refine W_block ?_
  refine W_loop (fun ρ w => ∃ k : Nat, k ≤ n ∧ (∀ j, j < k → okAt l j) ∧ Has ρ [(13, .int .i64 (k : Int)), (12, .int .i64 (n : Int)), (11, .slice A n c), (3, .pointer (some ⟨b3, 0, none⟩))] ∧ Inv (fun _ => False) w0 w [B b3 89 (boolC 8 (overTo l k))]) (fun ρ _ => n - cnt (ρ 13))
    ⟨0, by omega, fun j hj => by omega, ⟨rfl, rfl, rfl, rfl, trivial⟩, hI⟩ ?_
  clear hI
  rintro ρ w ⟨k, hk, hall, hH, hI⟩
  obtain ⟨σ, rfl⟩ := hH.open
  by_cases hkn : k < n
  · obtain ⟨bA, oA, rfl, q0, q1, q2⟩ := h.at (show k < l.length by omega)
    refine W_seq ?_
    refine W_region ?_
    refine WL_val rfl rfl rfl (by first | exact rLssT rfl rfl rfl (by omega) | exact rLssF rfl rfl rfl (by omega) | exact rLss rfl rfl rfl) ?_
    refine WL_nil ?_
    refine W_seq ?_
    refine W_cond true rfl ?_
    refine W_skip ?_
    refine W_seq ?_
    refine W_block ?_
    refine W_seq ?_
    refine W_region ?_
    refine WL_val rfl rfl rfl (by first | exact rMoveI rfl rfl | exact rMove rfl) ?_
    refine WL_val rfl rfl rfl (rIdx (sz := 3) rfl Tryd.underlying22 (by kernel_rfl) rfl rfl (by omega)) ?_
    refine WL_val rfl rfl rfl (by first | exact rLd3 rfl (by kernel_rfl) (by kernel_rfl) rfl (by first | exact hI.oldp q0 | exact q0 | exact hI.oldp q1 | exact q1 | exact hI.oldp q2 | exact q2) (by first | exact hI.oldp q0 | exact q0 | exact hI.oldp q1 | exact q1 | exact hI.oldp q2 | exact q2) (by first | exact hI.oldp q0 | exact q0 | exact hI.oldp q1 | exact q1 | exact hI.oldp q2 | exact q2)) ?_
    refine WL_alloc (u := .agg #[.int .i64 0, .int .i64 0, .int .i64 0]) (vs := #[.int .i64 0, .int .i64 0, .int .i64 0]) hI rfl rfl rfl rfl (by kernel_rfl) rfl ?_
    clear hI; rintro b5 w - - hI
    refine WL_val rfl rfl rfl (by first | exact rAsgnI rfl rfl | exact rAsgn rfl) ?_
    refine WL_stw0 (u := .agg #[_, _, _]) (vs := #[_, _, _]) (n := 3) hI rfl rfl rfl rfl rfl rfl (by kernel_rfl) rfl rfl rfl ?_
    clear hI; intro w hI
    refine WL_nil ?_
    refine W_seq ?_
    refine W_region ?_
    refine WL_val rfl rfl rfl (by first | exact rLdB (n := 3) rfl (by kernel_rfl) (by kernel_rfl) rfl rfl hI.g0 | exact rLd3 rfl (by kernel_rfl) (by kernel_rfl) rfl (by first | exact hI.c0 rfl) (by first | exact hI.c0 rfl) (by first | exact hI.c0 rfl)) ?_
    refine WL_call rfl rfl rfl (rCall (vs := [.agg _]) rfl Tryd.func40 rfl rfl rfl) ?_
    refine (checkStep_any (sAt l k) _).mono ?_
    rintro e w1 ⟨rfl, hp⟩
    refine ⟨_, rfl, ?_⟩
    replace hI := hI.pure hp
    refine WL_val rfl rfl rfl (by first | exact rAsgnN rfl rfl | exact rAsgnE rfl rfl | exact rAsgn rfl) ?_
    refine WL_nil ?_
    have bad : ∀ m : Int, (m = 1 ∨ m = 2 ∨ m = 4 ∨ m = 6) → ¬ okAt l k → ¬ OkSteps l := fun m _ hb ho => hb (ho.2 k (by omega))
    cases hE : stepE (sAt l k) with
    | some m =>
      have hm := stepE_some hE
      refine W_seq ?_
      refine W_seq ?_
      refine W_region ?_
      refine WL_val rfl rfl rfl (by first | exact rMoveN rfl rfl | exact rMoveE rfl rfl | exact rMove rfl) ?_
      refine WL_val rfl rfl rfl (by first | exact rIfaceEq rfl Tryd.underlying25 rfl rfl | exact rNilEq rfl Tryd.underlying25 rfl) ?_
      refine WL_val rfl rfl rfl (by first | exact rMoveB rfl rfl | exact rMove rfl) ?_
      refine WL_skip rfl rfl rfl ?_
      refine WL_skip rfl rfl rfl ?_
      refine WL_skip rfl rfl rfl ?_
      refine WL_skip rfl rfl rfl ?_
      refine WL_val rfl rfl rfl (by first | exact rPickTB rfl rfl rfl | exact rPickFB rfl rfl rfl | exact rPickB rfl rfl rfl rfl) ?_
      refine WL_nil ?_
      refine W_cond false rfl ?_
      refine W_skip ?_
      refine W_seq ?_
      refine W_seq ?_
      refine W_region ?_
      refine WL_val rfl rfl rfl (by first | exact rMoveN rfl rfl | exact rMoveE rfl rfl | exact rMove rfl) ?_
      refine WL_val rfl rfl rfl (by first | exact rIfaceNe rfl Tryd.underlying25 rfl rfl | exact rNilNe rfl Tryd.underlying25 rfl) ?_
      refine WL_nil ?_
      refine W_cond true rfl ?_
      refine W_seq ?_
      refine W_region ?_
      refine WL_val rfl rfl rfl (by first | exact rMoveN rfl rfl | exact rMoveE rfl rfl | exact rMove rfl) ?_
      refine WL_call rfl rfl rfl (rCall (vs := [_]) rfl Tryd.func7 rfl rfl rfl) ?_
      refine (tell_any (.iface 29 (.int .i64 m)) m _ (.inl rfl) (hI.oldp hg)).mono ?_
      rintro e w1 ⟨rfl, hp⟩
      refine ⟨_, rfl, ?_⟩
      replace hI := hI.pure hp
      refine WL_val rfl rfl rfl (by first | exact rMoveI rfl rfl | exact rMove rfl) ?_
      refine WL_val rfl rfl rfl (rBuild (qs := [(0, .int .i64 _), (1, .int .i64 _)]) (vs := [_, _]) [.int .i64 0, .int .i64 0] [0, 1] rfl rfl rfl (fun _ => by kernel_rfl)) ?_
      refine WL_box (u := .agg _) (vs := #[_, _]) hI rfl rfl rfl rfl rfl rfl ?_
      clear hI; rintro b35 w - - hI
      refine WL_val rfl rfl rfl (rIface rfl Tryd.underlying91 rfl rfl) ?_
      refine WL_val rfl rfl rfl (by first | exact rAsgnN rfl rfl | exact rAsgnE rfl rfl | exact rAsgn rfl) ?_
      refine WL_nil ?_
      refine W_ret ?_
      refine ret1 2 (.inr rfl) rfl ⟨.inr ⟨bad m (by omega) (fun ho => by have := ho.1; rw [hE] at this; cases this), _, m, rfl, .inr ⟨b35, 0, rfl, hI.c0 rfl⟩, FreshE.mk ((hI.own _ (List.mem_of_getElem? (i := 0) rfl) b35 rfl).resolve_left (fun h => h)), by omega⟩, hI.pu⟩
    | none =>
      obtain ⟨s1, s2, s3, s4, s5, s6, s7⟩ := stepE_none hE
      obtain ⟨tn, htn⟩ : ∃ tn : Nat, (sAt l k).tx = (tn : Int) := ⟨(sAt l k).tx.toNat, by omega⟩
      have htn8 : tn < 8 := by omega
      have g1 := boolC_get (n := 8) (overTo l k) htn8
      have hto : (sAt l k).tx.toNat = tn := by omega
      cases hov : overTo l k tn with
      | true =>
        rw [hov] at g1
        refine W_seq ?_
        refine W_seq ?_
        refine W_region ?_
        refine WL_val rfl rfl rfl (by first | exact rMoveN rfl rfl | exact rMoveE rfl rfl | exact rMove rfl) ?_
        refine WL_val rfl rfl rfl (by first | exact rIfaceEq rfl Tryd.underlying25 rfl rfl | exact rNilEq rfl Tryd.underlying25 rfl) ?_
        refine WL_val rfl rfl rfl (by first | exact rMoveB rfl rfl | exact rMove rfl) ?_
        first | refine WL_val rfl rfl rfl (by first | exact rFldN (off := 0) rfl (by kernel_rfl) rfl | exact rFld0 rfl (by kernel_rfl) rfl) ?_ | refine WL_skip rfl rfl rfl ?_
        first | refine WL_val rfl rfl rfl (by first | exact rLd (v := .int .i64 _) rfl (by kernel_rfl) rfl (by first | exact hI.c0 rfl | exact (c_at1 (hI.c1 g1))) | exact rLd rfl (by kernel_rfl) rfl (by first | exact hI.c0 rfl | exact (c_at1 (hI.c1 g1)))) ?_ | refine WL_skip rfl rfl rfl ?_
        first | refine WL_val rfl rfl rfl (rIdxArr (sz := 1) (i := tn) rfl Tryd.underlying89 (by kernel_rfl) rfl rfl htn htn8) ?_ | refine WL_skip rfl rfl rfl ?_
        first | refine WL_val rfl rfl rfl (by first | exact rLd (v := .bool _) rfl (by kernel_rfl) rfl (by first | exact hI.c0 rfl | exact (c_at1 (hI.c1 g1))) | exact rLd rfl (by kernel_rfl) rfl (by first | exact hI.c0 rfl | exact (c_at1 (hI.c1 g1)))) ?_ | refine WL_skip rfl rfl rfl ?_
        refine WL_val rfl rfl rfl (by first | exact rPickTB rfl rfl rfl | exact rPickFB rfl rfl rfl | exact rPickB rfl rfl rfl rfl) ?_
        refine WL_nil ?_
        refine W_cond true rfl ?_
        refine W_region ?_
        refine WL_val rfl rfl rfl (rIface rfl Tryd.underlying29 rfl rfl) ?_
        refine WL_val rfl rfl rfl (by first | exact rAsgnN rfl rfl | exact rAsgnE rfl rfl | exact rAsgn rfl) ?_
        refine WL_nil ?_
        refine W_seq ?_
        refine W_seq ?_
        refine W_region ?_
        refine WL_val rfl rfl rfl (by first | exact rMoveN rfl rfl | exact rMoveE rfl rfl | exact rMove rfl) ?_
        refine WL_val rfl rfl rfl (by first | exact rIfaceNe rfl Tryd.underlying25 rfl rfl | exact rNilNe rfl Tryd.underlying25 rfl) ?_
        refine WL_nil ?_
        refine W_cond true rfl ?_
        refine W_seq ?_
        refine W_region ?_
        refine WL_val rfl rfl rfl (by first | exact rMoveN rfl rfl | exact rMoveE rfl rfl | exact rMove rfl) ?_
        refine WL_call rfl rfl rfl (rCall (vs := [_]) rfl Tryd.func7 rfl rfl rfl) ?_
        refine (tell_any (.iface 29 (.int .i64 6)) 6 _ (.inl rfl) (hI.oldp hg)).mono ?_
        rintro e w1 ⟨rfl, hp⟩
        refine ⟨_, rfl, ?_⟩
        replace hI := hI.pure hp
        refine WL_val rfl rfl rfl (by first | exact rMoveI rfl rfl | exact rMove rfl) ?_
        refine WL_val rfl rfl rfl (rBuild (qs := [(0, .int .i64 _), (1, .int .i64 _)]) (vs := [_, _]) [.int .i64 0, .int .i64 0] [0, 1] rfl rfl rfl (fun _ => by kernel_rfl)) ?_
        refine WL_box (u := .agg _) (vs := #[_, _]) hI rfl rfl rfl rfl rfl rfl ?_
        clear hI; rintro b35 w - - hI
        refine WL_val rfl rfl rfl (rIface rfl Tryd.underlying91 rfl rfl) ?_
        refine WL_val rfl rfl rfl (by first | exact rAsgnN rfl rfl | exact rAsgnE rfl rfl | exact rAsgn rfl) ?_
        refine WL_nil ?_
        refine W_ret ?_
        refine ret1 2 (.inr rfl) rfl ⟨.inr ⟨bad 6 (by omega) (fun ho => by have := ho.2; rw [hto, hov] at this; cases this), _, 6, rfl, .inr ⟨b35, 0, rfl, hI.c0 rfl⟩, FreshE.mk ((hI.own _ (List.mem_of_getElem? (i := 0) rfl) b35 rfl).resolve_left (fun h => h)), by omega⟩, hI.pu⟩
      | false =>
        rw [hov] at g1
        have hok : okAt l k := ⟨hE, by rw [hto]; exact hov⟩
        refine W_seq ?_
        refine W_seq ?_
        refine W_region ?_
        refine WL_val rfl rfl rfl (by first | exact rMoveN rfl rfl | exact rMoveE rfl rfl | exact rMove rfl) ?_
        refine WL_val rfl rfl rfl (by first | exact rIfaceEq rfl Tryd.underlying25 rfl rfl | exact rNilEq rfl Tryd.underlying25 rfl) ?_
        refine WL_val rfl rfl rfl (by first | exact rMoveB rfl rfl | exact rMove rfl) ?_
        first | refine WL_val rfl rfl rfl (by first | exact rFldN (off := 0) rfl (by kernel_rfl) rfl | exact rFld0 rfl (by kernel_rfl) rfl) ?_ | refine WL_skip rfl rfl rfl ?_
        first | refine WL_val rfl rfl rfl (by first | exact rLd (v := .int .i64 _) rfl (by kernel_rfl) rfl (by first | exact hI.c0 rfl | exact (c_at1 (hI.c1 g1))) | exact rLd rfl (by kernel_rfl) rfl (by first | exact hI.c0 rfl | exact (c_at1 (hI.c1 g1)))) ?_ | refine WL_skip rfl rfl rfl ?_
        first | refine WL_val rfl rfl rfl (rIdxArr (sz := 1) (i := tn) rfl Tryd.underlying89 (by kernel_rfl) rfl rfl htn htn8) ?_ | refine WL_skip rfl rfl rfl ?_
        first | refine WL_val rfl rfl rfl (by first | exact rLd (v := .bool _) rfl (by kernel_rfl) rfl (by first | exact hI.c0 rfl | exact (c_at1 (hI.c1 g1))) | exact rLd rfl (by kernel_rfl) rfl (by first | exact hI.c0 rfl | exact (c_at1 (hI.c1 g1)))) ?_ | refine WL_skip rfl rfl rfl ?_
        refine WL_val rfl rfl rfl (by first | exact rPickTB rfl rfl rfl | exact rPickFB rfl rfl rfl | exact rPickB rfl rfl rfl rfl) ?_
        refine WL_nil ?_
        refine W_cond false rfl ?_
        refine W_skip ?_
        refine W_seq ?_
        refine W_seq ?_
        refine W_region ?_
        refine WL_val rfl rfl rfl (by first | exact rMoveN rfl rfl | exact rMoveE rfl rfl | exact rMove rfl) ?_
        refine WL_val rfl rfl rfl (by first | exact rIfaceNe rfl Tryd.underlying25 rfl rfl | exact rNilNe rfl Tryd.underlying25 rfl) ?_
        refine WL_nil ?_
        refine W_cond false rfl ?_
        refine W_skip ?_
        refine W_region ?_
        refine WL_val rfl rfl rfl (by first | exact rFldN (off := 0) rfl (by kernel_rfl) rfl | exact rFld0 rfl (by kernel_rfl) rfl) ?_
        refine WL_val rfl rfl rfl (by first | exact rLd (v := .int .i64 _) rfl (by kernel_rfl) rfl (by first | exact hI.c0 rfl) | exact rLd rfl (by kernel_rfl) rfl (by first | exact hI.c0 rfl)) ?_
        refine WL_val rfl rfl rfl (by first | exact rFldN (off := 1) rfl (by kernel_rfl) rfl | exact rFld (off := 1) rfl (by kernel_rfl) rfl) ?_
        refine WL_val rfl rfl rfl (by first | exact rLd (v := .int .i64 _) rfl (by kernel_rfl) rfl (by first | exact hI.c0 rfl) | exact rLd rfl (by kernel_rfl) rfl (by first | exact hI.c0 rfl)) ?_
        refine WL_val rfl rfl rfl (rGeq rfl rfl rfl) ?_
        refine WL_val rfl rfl rfl (rIdxArr (sz := 1) (i := tn) rfl Tryd.underlying89 (by kernel_rfl) rfl rfl htn htn8) ?_
        refine WL_st1 (u := .bool _) (j := 0 + tn * 1) hI rfl rfl rfl rfl rfl rfl (by kernel_rfl) rfl (by simp [Nat.blt, boolC]; omega) rfl ?_
        rw [Nat.zero_add, Nat.mul_one, boolC_set]
        clear hI; intro w hI
        refine WL_nil ?_
        replace hI := hI.d0
        refine W_region ?_
        refine WL_val rfl rfl rfl (by first | exact rInc rfl rfl rfl (by omega) | exact rAdd rfl rfl rfl (by omega) | exact rAddW rfl rfl rfl) ?_
        refine WL_val rfl rfl rfl (by first | exact rMoveI rfl rfl | exact rMove rfl) ?_
        refine WL_nil ?_
        refine ⟨⟨k + 1, by omega, fun j hj => ?_, ⟨rfl, rfl, rfl, rfl, trivial⟩, ?_⟩, by show n - ((k + 1 : Nat) : Int).toNat < n - (k : Int).toNat; omega⟩
        · rcases Nat.lt_or_ge j k with h1 | h1
          · exact hall j h1
          · have : j = k := by omega
            subst this; exact hok
        · have : overTo l (k + 1) = fun x => if x = tn then decide (3 ≤ (sAt l k).kind) else overTo l k x := by
            funext x; show (if x = (sAt l k).tx.toNat then _ else _) = _; rw [hto]
          rw [this]
          exact hI
  · obtain rfl : k = n := by omega
    refine W_seq ?_
    refine W_region ?_
    refine WL_val rfl rfl rfl (by first | exact rLssT rfl rfl rfl (by omega) | exact rLssF rfl rfl rfl (by omega) | exact rLss rfl rfl rfl) ?_
    refine WL_nil ?_
    refine W_seq ?_
    refine W_cond false rfl ?_
    refine W_exit ?_
    refine W_seq ?_
    refine W_region ?_
    refine WL_val rfl rfl rfl (by first | exact rAsgnN rfl rfl | exact rAsgnE rfl rfl | exact rAsgn rfl) ?_
    refine WL_nil ?_
    refine W_ret ?_
    exact ret1 2 (.inr rfl) rfl ⟨.inl ⟨⟨by omega, fun j hj => hall j (by omega)⟩, rfl⟩, hI.pu⟩
end Go.Proofs.YtgkmlnbnjbpodaaDoor
