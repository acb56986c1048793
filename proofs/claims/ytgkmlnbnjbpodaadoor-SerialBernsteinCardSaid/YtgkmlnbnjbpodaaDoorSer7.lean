/- serial: Done, clash, Graph. -/
import Derived.Test.YtgkmlnbnjbpodaaDoorSer6
namespace Go.Proofs.YtgkmlnbnjbpodaaDoor
open Go.RowKit
set_option linter.unusedVariables false
set_option linter.unusedSimpArgs false
theorem own_base' {w : World} {base base' : Nat} {e : TypeId} {size n : Nat} {v : Value} {xs : List Value} (h : w.ownsRow base e size v n xs) (hb : base' ≤ base) : w.ownsRow base' e size v n xs := own_base h hb
theorem Inv.freshR {S : Nat → Prop} {w0 w w' : World} {H : List Ent} {e n c size : Nat} {A : Option Addr} {xs : List Value} (hI : Inv S w0 w H) (hp : Pure w w') (hown : w'.ownsRow w.heap.size e size (.slice A n c) n xs) : Inv S w0 w' (Row 0 e size A n c xs :: H) :=
  hI.fresh hp (Row.ok (own_base' hown (Nat.zero_le _))) (fun k hk => by
    rcases hown.2 with ⟨hv, _⟩ | ⟨g, cap, cur, hv, hge, _⟩
    · injection hv with hv; subst hv; simp [Row] at hk
    · injection hv with hv; subst hv; have : some g = some k := hk; injection this with this; omega)
theorem ints_of_own {w : World} {base e c : Nat} {A : Option Addr} {cs : List Nat} (h : w.ownsRow base e 1 (.slice A cs.length c) cs.length (natV cs)) : Ints w (fun _ => True) (.slice A cs.length c) (cs.map Int.ofNat) := by
  have := Rd.of_own (D := fun _ => True) h (fun _ _ _ => trivial)
  unfold Ints
  rw [List.length_map, List.map_map]
  exact this
theorem sts_of_own {w : World} {base e c : Nat} {A : Option Addr} {l : List St} (h : w.ownsRow base e 3 (.slice A l.length c) l.length (l.flatMap stV)) : Sts w (fun _ => True) (.slice A l.length c) l := Rd.of_own (D := fun _ => True) h (fun _ _ _ => trivial)
def doneB (l : List St) (s : St) : Bool := decide (s.kind < 3) && decide (s.tx ∈ (commitsF l).map Int.ofNat)
def doneTo (l : List St) (k : Nat) : List St := (l.take k).filter (doneB l)
def doneF (l : List St) : List St := l.filter (doneB l)
theorem doneTo_succ (l : List St) {k : Nat} (hk : k < l.length) : doneTo l (k + 1) = if doneB l (sAt l k) then doneTo l k ++ [sAt l k] else doneTo l k := by
  unfold doneTo
  rw [List.take_add_one, List.filter_append]
  have : l[k]?.toList = [sAt l k] := by simp [sAt, List.getD, List.getElem?_eq_getElem hk]
  rw [this]
  cases h : doneB l (sAt l k) <;> simp only [List.filter_cons, List.filter_nil, h, if_true, Bool.false_eq_true, if_false, List.append_nil]
theorem doneTo_len (l : List St) (k : Nat) : (doneTo l k).length ≤ k := by
  have := List.length_filter_le (doneB l) (l.take k)
  simp [doneTo] at *
  omega
def OwnedSts (w0 w' : World) (v : Value) (l : List St) : Prop := ∃ A c, v = .slice A l.length c ∧ w'.ownsRow w0.heap.size 43 3 (.slice A l.length c) l.length (l.flatMap stV)
set_option maxHeartbeats 2000000 in
theorem done_any (A : Option Addr) (n c : Nat) (l : List St) (D : Nat → Prop) (w0 : World) (h : Sts w0 D (.slice A n c) l) (hn60 : n ≤ 200) :
    Calls Tryd.prog 20 #[.slice A n c] w0 fun en w' => (∃ v, en = .returned v ∧ OwnedSts w0 w' v (doneF l)) ∧ Pure w0 w' := by
  obtain ⟨hn, hc1, hc2⟩ := h.len
  have hI : Inv (fun _ => False) w0 w0 [Row w0.heap.size 43 3 none 0 0 []] := (Inv.start (fun _ => False) w0).fresh (Pure.refl w0) (Row.nil w0 _ _ _) (fun k hk => by simp [Row] at hk)
  refine calls_of_W (N := Tryd.f20.ntmps) Tryd.func20 rfl rfl rfl ?_
  refine W_seq ?_
  refine W_region ?_
  refine WL_val rfl rfl rfl (by first | exact rAsgnS rfl rfl | exact rAsgn rfl) ?_
  refine WL_nil ?_
  refine W_seq ?_
  refine W_region ?_
  refine WL_val rfl rfl rfl (by first | exact rMoveS rfl rfl | exact rMove rfl) ?_
  refine WL_call rfl rfl rfl (rCall (vs := [.slice _ _ _]) rfl Tryd.func15 rfl rfl rfl) ?_
  refine (commits_any A n c l D _ (h.pure hI.pu)).mono ?_
  rintro e w1 ⟨⟨v, rfl, Ac, cc, rfl, hown⟩, hp⟩
  refine ⟨_, rfl, ?_⟩
  replace hI := hI.freshR hp hown
  replace hI := hI.sw0
  refine WL_val rfl rfl rfl (by first | exact rAsgnS rfl rfl | exact rAsgn rfl) ?_
  refine WL_nil ?_
  refine W_seq ?_
  refine W_region ?_
  refine WL_val rfl rfl rfl (by first | exact rAsgnS rfl rfl | exact rAsgn rfl) ?_
  refine WL_nil ?_
  refine W_seq ?_
  refine W_seq ?_
  refine W_region ?_
  refine WL_val rfl rfl rfl (by first | exact rMoveS rfl rfl | exact rMove rfl) ?_
  refine WL_val rfl rfl rfl (rLen rfl Tryd.underlying22 rfl) ?_
  refine WL_val rfl rfl rfl (by first | exact rMoveI rfl rfl | exact rMove rfl) ?_
  refine WL_nil ?_
  refine W_block ?_
  refine W_loop (fun ρ w => ∃ (k : Nat) (A' : Option Addr) (c' : Nat), k ≤ n ∧ Has ρ [(11, .int .i64 (k : Int)), (10, .int .i64 (n : Int)), (9, .slice A n c), (3, .slice Ac (commitsF l).length cc), (4, .slice A' (doneTo l k).length c')] ∧ Inv (fun _ => False) w0 w [Row w0.heap.size 43 3 A' (doneTo l k).length c' ((doneTo l k).flatMap stV), Row 0 3 1 Ac (commitsF l).length cc (natV (commitsF l))]) (fun ρ _ => n - cnt (ρ 11))
    ⟨0, none, 0, by omega, ⟨rfl, rfl, rfl, rfl, rfl, trivial⟩, hI⟩ ?_
  clear hI
  rintro ρ w ⟨k, A', c', hk, hH, hI⟩
  obtain ⟨σ, rfl⟩ := hH.open
  have hlen := doneTo_len l k
  by_cases hkn : k < n
  · obtain ⟨bA, oA, rfl, q0, q1, q2⟩ := h.at (show k < l.length by omega)
    have hsu := doneTo_succ l (show k < l.length by omega)
    refine W_seq ?_
    refine W_region ?_
    refine WL_val rfl rfl rfl (by first | exact rLssT rfl rfl rfl (by omega) | exact rLssF rfl rfl rfl (by omega) | exact rLss rfl rfl rfl) ?_
    refine WL_nil ?_
    refine W_seq ?_
    refine W_cond true rfl ?_
    refine W_skip ?_
    refine W_seq ?_
    refine W_block ?_
    refine W_seq ?_
    refine W_region ?_
    refine WL_val rfl rfl rfl (rIdx (sz := 3) rfl Tryd.underlying22 (by kernel_rfl) rfl rfl (by omega)) ?_
    refine WL_val rfl rfl rfl (by first | exact rLd3 rfl (by kernel_rfl) (by kernel_rfl) rfl (by first | exact hI.oldp q0 | exact q0 | exact hI.oldp q1 | exact q1 | exact hI.oldp q2 | exact q2) (by first | exact hI.oldp q0 | exact q0 | exact hI.oldp q1 | exact q1 | exact hI.oldp q2 | exact q2) (by first | exact hI.oldp q0 | exact q0 | exact hI.oldp q1 | exact q1 | exact hI.oldp q2 | exact q2)) ?_
    refine WL_alloc (u := .agg #[.int .i64 0, .int .i64 0, .int .i64 0]) (vs := #[.int .i64 0, .int .i64 0, .int .i64 0]) hI rfl rfl rfl rfl (by kernel_rfl) rfl ?_
    clear hI; rintro b6 w - - hI
    refine WL_stw0 (u := .agg #[_, _, _]) (vs := #[_, _, _]) (n := 3) hI rfl rfl rfl rfl rfl rfl (by kernel_rfl) rfl rfl rfl ?_
    clear hI; intro w hI
    refine WL_nil ?_
    refine W_seq_cut (fun ρ w => ∃ b6, Has ρ [(23, .bool (doneB l (sAt l k))), (6, .pointer (some ⟨b6, 0, none⟩)), (11, .int .i64 (k : Int)), (10, .int .i64 (n : Int)), (9, .slice (some ⟨bA, oA, none⟩) n c), (3, .slice Ac (commitsF l).length cc), (4, .slice A' (doneTo l k).length c')] ∧ Inv (fun _ => False) w0 w [B b6 43 #[.int .i64 (sAt l k).tx, .int .i64 (sAt l k).kind, .int .i64 (sAt l k).key], Row w0.heap.size 43 3 A' (doneTo l k).length c' ((doneTo l k).flatMap stV), Row 0 3 1 Ac (commitsF l).length cc (natV (commitsF l))]) ?_ ?_
    · by_cases hm : (sAt l k).kind < 3
      · refine W_region ?_
        refine WL_val rfl rfl rfl (by first | exact rFldN (off := 1) rfl (by kernel_rfl) rfl | exact rFld (off := 1) rfl (by kernel_rfl) rfl) ?_
        refine WL_val rfl rfl rfl (by first | exact rLd (v := .int .i64 _) rfl (by kernel_rfl) rfl (by first | exact hI.c0 rfl) | exact rLd rfl (by kernel_rfl) rfl (by first | exact hI.c0 rfl)) ?_
        refine WL_val rfl rfl rfl (by first | exact rLssT rfl rfl rfl (by omega) | exact rLssF rfl rfl rfl (by omega) | exact rLss rfl rfl rfl) ?_
        refine WL_val rfl rfl rfl (by first | exact rMoveB rfl rfl | exact rMove rfl) ?_
        first | refine WL_val rfl rfl rfl (by first | exact rMoveS rfl rfl | exact rMove rfl) ?_ | refine WL_skip rfl rfl rfl ?_
        first | refine WL_val rfl rfl rfl (by first | exact rFldN (off := 0) rfl (by kernel_rfl) rfl | exact rFld0 rfl (by kernel_rfl) rfl) ?_ | refine WL_skip rfl rfl rfl ?_
        first | refine WL_val rfl rfl rfl (by first | exact rLd (v := .int .i64 _) rfl (by kernel_rfl) rfl (by first | exact hI.c0 rfl) | exact rLd rfl (by kernel_rfl) rfl (by first | exact hI.c0 rfl)) ?_ | refine WL_skip rfl rfl rfl ?_
        refine WL_call rfl rfl rfl (rCall (vs := [.slice _ _ _, .int .i64 _]) rfl Tryd.func18 rfl rfl rfl) ?_
        refine (conI_any Ac _ cc _ (sAt l k).tx _ _ (ints_of_own hI.g2)).mono ?_
        rintro e w1 ⟨rfl, hp⟩
        refine ⟨_, rfl, ?_⟩
        replace hI := hI.pure hp
        refine WL_val rfl rfl rfl (by first | exact rPickTB rfl rfl rfl | exact rPickFB rfl rfl rfl | exact rPickB rfl rfl rfl rfl) ?_
        refine WL_nil ?_
        exact ⟨b6, ⟨by show Value.bool _ = _; unfold doneB; rw [decide_eq_true hm]; rfl, rfl, rfl, rfl, rfl, rfl, rfl, trivial⟩, hI⟩
      · have hm' : 3 ≤ (sAt l k).kind := by omega
        refine W_region ?_
        refine WL_val rfl rfl rfl (by first | exact rFldN (off := 1) rfl (by kernel_rfl) rfl | exact rFld (off := 1) rfl (by kernel_rfl) rfl) ?_
        refine WL_val rfl rfl rfl (by first | exact rLd (v := .int .i64 _) rfl (by kernel_rfl) rfl (by first | exact hI.c0 rfl) | exact rLd rfl (by kernel_rfl) rfl (by first | exact hI.c0 rfl)) ?_
        refine WL_val rfl rfl rfl (by first | exact rLssT rfl rfl rfl (by omega) | exact rLssF rfl rfl rfl (by omega) | exact rLss rfl rfl rfl) ?_
        refine WL_val rfl rfl rfl (by first | exact rMoveB rfl rfl | exact rMove rfl) ?_
        refine WL_skip rfl rfl rfl ?_
        refine WL_skip rfl rfl rfl ?_
        refine WL_skip rfl rfl rfl ?_
        refine WL_skip rfl rfl rfl ?_
        refine WL_val rfl rfl rfl (by first | exact rPickTB rfl rfl rfl | exact rPickFB rfl rfl rfl | exact rPickB rfl rfl rfl rfl) ?_
        refine WL_nil ?_
        exact ⟨b6, ⟨by show Value.bool _ = _; unfold doneB; rw [decide_eq_false hm]; rfl, rfl, rfl, rfl, rfl, rfl, rfl, trivial⟩, hI⟩
    clear hI
    rintro ρ w ⟨b6, hH, hI⟩
    obtain ⟨σ, rfl⟩ := hH.open
    cases hcb : doneB l (sAt l k) with
    | true =>
      rw [hcb, if_pos rfl] at hsu
      refine W_cond true (by rw [← hcb]; rfl) ?_
      refine W_region ?_
      refine WL_val rfl rfl rfl (by first | exact rMoveS rfl rfl | exact rMove rfl) ?_
      refine WL_val rfl rfl rfl (by first | exact rLdB (n := 3) rfl (by kernel_rfl) (by kernel_rfl) rfl rfl hI.g0 | exact rLd3 rfl (by kernel_rfl) (by kernel_rfl) rfl (by first | exact hI.c0 rfl) (by first | exact hI.c0 rfl) (by first | exact hI.c0 rfl)) ?_
      refine WL_lit (vs := [_, _, _]) (qs := [(0, .agg #[_, _, _])]) [.int .i64 0, .int .i64 0, .int .i64 0] [0] hI rfl rfl rfl rfl rfl rfl Tryd.underlying22 (fun _ => by kernel_rfl) ?_
      clear hI; rintro b26 w - - hI
      first | refine WL_app1 (z := .agg #[.int .i64 0, .int .i64 0, .int .i64 0]) (by_ := 24) hI rfl rfl rfl rfl rfl rfl Tryd.underlying22 (by kernel_rfl) rfl (by omega) (by rfl) hI.lit0 (by first | rfl | simp [i64s, Value.oneCell']) (by omega) (by omega) (by first | exact Nat.zero_le _ | (have := hI.chg.size; omega)) ?_ | refine WL_app2 (z := .agg #[.int .i64 0, .int .i64 0, .int .i64 0]) (by_ := 24) hI rfl rfl rfl rfl rfl rfl Tryd.underlying22 (by kernel_rfl) rfl (by omega) (by rfl) hI.lit0 (by first | rfl | simp [i64s, Value.oneCell']) (by omega) (by omega) (by first | exact Nat.zero_le _ | (have := hI.chg.size; omega)) ?_ | refine WL_app3 (z := .agg #[.int .i64 0, .int .i64 0, .int .i64 0]) (by_ := 24) hI rfl rfl rfl rfl rfl rfl Tryd.underlying22 (by kernel_rfl) rfl (by omega) (by rfl) hI.lit0 (by first | rfl | simp [i64s, Value.oneCell']) (by omega) (by omega) (by first | exact Nat.zero_le _ | (have := hI.chg.size; omega)) ?_ | refine WL_app4 (z := .agg #[.int .i64 0, .int .i64 0, .int .i64 0]) (by_ := 24) hI rfl rfl rfl rfl rfl rfl Tryd.underlying22 (by kernel_rfl) rfl (by omega) (by rfl) hI.lit0 (by first | rfl | simp [i64s, Value.oneCell']) (by omega) (by omega) (by first | exact Nat.zero_le _ | (have := hI.chg.size; omega)) ?_ | refine WL_app5 (z := .agg #[.int .i64 0, .int .i64 0, .int .i64 0]) (by_ := 24) hI rfl rfl rfl rfl rfl rfl Tryd.underlying22 (by kernel_rfl) rfl (by omega) (by rfl) hI.lit0 (by first | rfl | simp [i64s, Value.oneCell']) (by omega) (by omega) (by first | exact Nat.zero_le _ | (have := hI.chg.size; omega)) ?_
      clear hI; rintro A27 c27 w hA27 hc27 hI
      replace hI := hI.d0
      refine WL_val rfl rfl rfl (by first | exact rAsgnS rfl rfl | exact rAsgn rfl) ?_
      refine WL_nil ?_
      replace hI := hI.d0
      refine W_region ?_
      refine WL_val rfl rfl rfl (by first | exact rInc rfl rfl rfl (by omega) | exact rAdd rfl rfl rfl (by omega) | exact rAddW rfl rfl rfl) ?_
      refine WL_val rfl rfl rfl (by first | exact rMoveI rfl rfl | exact rMove rfl) ?_
      refine WL_nil ?_
      have e1 : (doneTo l k ++ [sAt l k]).length = (doneTo l k).length + 1 := by simp
      have e2 : (doneTo l k ++ [sAt l k]).flatMap stV = (doneTo l k).flatMap stV ++ stV (sAt l k) := by simp
      refine ⟨⟨k + 1, A27, c27, by omega, ⟨rfl, rfl, rfl, rfl, by rw [hsu, e1]; rfl, trivial⟩, by rw [hsu, e1, e2]; exact hI⟩, by show n - ((k + 1 : Nat) : Int).toNat < n - (k : Int).toNat; omega⟩
    | false =>
      rw [hcb, if_neg (by simp)] at hsu
      refine W_cond false (by rw [← hcb]; rfl) ?_
      refine W_skip ?_
      replace hI := hI.d0
      refine W_region ?_
      refine WL_val rfl rfl rfl (by first | exact rInc rfl rfl rfl (by omega) | exact rAdd rfl rfl rfl (by omega) | exact rAddW rfl rfl rfl) ?_
      refine WL_val rfl rfl rfl (by first | exact rMoveI rfl rfl | exact rMove rfl) ?_
      refine WL_nil ?_
      refine ⟨⟨k + 1, A', c', by omega, ⟨rfl, rfl, rfl, rfl, by rw [hsu]; rfl, trivial⟩, by rw [hsu]; exact hI⟩, by show n - ((k + 1 : Nat) : Int).toNat < n - (k : Int).toNat; omega⟩
  · have hall : doneTo l k = doneF l := by unfold doneTo doneF; rw [List.take_of_length_le (by omega)]
    rw [hall] at hI hH
    refine W_seq ?_
    refine W_region ?_
    refine WL_val rfl rfl rfl (by first | exact rLssT rfl rfl rfl (by omega) | exact rLssF rfl rfl rfl (by omega) | exact rLss rfl rfl rfl) ?_
    refine WL_nil ?_
    refine W_seq ?_
    refine W_cond false rfl ?_
    refine W_exit ?_
    refine W_seq ?_
    refine W_region ?_
    refine WL_val rfl rfl rfl (by first | exact rMoveS rfl rfl | exact rMove rfl) ?_
    refine WL_val rfl rfl rfl (by first | exact rAsgnS rfl rfl | exact rAsgn rfl) ?_
    refine WL_nil ?_
    refine W_ret ?_
    exact ret1 2 (.inr rfl) rfl ⟨⟨_, rfl, A', c', by rw [← hall]; rfl, hI.g0⟩, hI.pu⟩
def clashB (a b : St) : Bool := decide (a.tx ≠ b.tx) && (decide (a.key = b.key) && (decide (a.kind = 2) || decide (b.kind = 2)))
set_option maxHeartbeats 1000000 in
theorem clash_any (a b : St) (w0 : World) : Calls Tryd.prog 22 #[.agg (stV a).toArray, .agg (stV b).toArray] w0 fun en w' => en = .returned (.bool (clashB a b)) ∧ Pure w0 w' := by
  have hI := Inv.start (fun _ => False) w0
  obtain ⟨x1, x2, x3⟩ := a
  obtain ⟨y1, y2, y3⟩ := b
  refine calls_of_W (N := Tryd.f22.ntmps) Tryd.func22 rfl rfl rfl ?_
  refine W_seq ?_
  refine W_region ?_
  refine WL_box (u := .agg _) (vs := #[_, _, _]) hI rfl rfl rfl rfl rfl rfl ?_
  clear hI; rintro b2 w - - hI
  refine WL_box (u := .agg _) (vs := #[_, _, _]) hI rfl rfl rfl rfl rfl rfl ?_
  clear hI; rintro b3 w - - hI
  refine WL_val rfl rfl rfl (by first | exact rAsgnB rfl rfl | exact rAsgn rfl) ?_
  refine WL_nil ?_
  by_cases h1 : x1 = y1
  · refine W_seq ?_
    refine W_region ?_
    refine WL_val rfl rfl rfl (by first | exact rFldN (off := 0) rfl (by kernel_rfl) rfl | exact rFld0 rfl (by kernel_rfl) rfl) ?_
    refine WL_val rfl rfl rfl (by first | exact rLd (v := .int .i64 _) rfl (by kernel_rfl) rfl (by first | exact hI.c0 rfl | exact hI.c1 rfl) | exact rLd rfl (by kernel_rfl) rfl (by first | exact hI.c0 rfl | exact hI.c1 rfl)) ?_
    refine WL_val rfl rfl rfl (by first | exact rFldN (off := 0) rfl (by kernel_rfl) rfl | exact rFld0 rfl (by kernel_rfl) rfl) ?_
    refine WL_val rfl rfl rfl (by first | exact rLd (v := .int .i64 _) rfl (by kernel_rfl) rfl (by first | exact hI.c0 rfl | exact hI.c1 rfl) | exact rLd rfl (by kernel_rfl) rfl (by first | exact hI.c0 rfl | exact hI.c1 rfl)) ?_
    refine WL_val rfl rfl rfl (by first | exact rNeqT rfl rfl rfl (by omega) | exact rNeqF rfl rfl rfl (by omega) | exact rNeq rfl rfl rfl) ?_
    refine WL_val rfl rfl rfl (by first | exact rMoveB rfl rfl | exact rMove rfl) ?_
    refine WL_skip rfl rfl rfl ?_
    refine WL_skip rfl rfl rfl ?_
    refine WL_skip rfl rfl rfl ?_
    refine WL_skip rfl rfl rfl ?_
    refine WL_skip rfl rfl rfl ?_
    refine WL_val rfl rfl rfl (by first | exact rPickTB rfl rfl rfl | exact rPickFB rfl rfl rfl | exact rPickB rfl rfl rfl rfl) ?_
    refine WL_val rfl rfl rfl (by first | exact rMoveB rfl rfl | exact rMove rfl) ?_
    refine WL_skip rfl rfl rfl ?_
    refine WL_skip rfl rfl rfl ?_
    refine WL_skip rfl rfl rfl ?_
    refine WL_skip rfl rfl rfl ?_
    refine WL_skip rfl rfl rfl ?_
    refine WL_skip rfl rfl rfl ?_
    refine WL_skip rfl rfl rfl ?_
    refine WL_skip rfl rfl rfl ?_
    refine WL_val rfl rfl rfl (by first | exact rPickTB rfl rfl rfl | exact rPickFB rfl rfl rfl | exact rPickB rfl rfl rfl rfl) ?_
    refine WL_val rfl rfl rfl (by first | exact rAsgnB rfl rfl | exact rAsgn rfl) ?_
    refine WL_nil ?_
    refine W_ret ?_
    exact ret1 4 (.inr rfl) rfl ⟨by rw [show clashB ⟨x1, x2, x3⟩ ⟨y1, y2, y3⟩ = false from by simp [clashB, h1]]; rfl, hI.pu⟩
  · by_cases h2 : x3 = y3
    · by_cases h3 : x2 = 2
      · refine W_seq ?_
        refine W_region ?_
        refine WL_val rfl rfl rfl (by first | exact rFldN (off := 0) rfl (by kernel_rfl) rfl | exact rFld0 rfl (by kernel_rfl) rfl) ?_
        refine WL_val rfl rfl rfl (by first | exact rLd (v := .int .i64 _) rfl (by kernel_rfl) rfl (by first | exact hI.c0 rfl | exact hI.c1 rfl) | exact rLd rfl (by kernel_rfl) rfl (by first | exact hI.c0 rfl | exact hI.c1 rfl)) ?_
        refine WL_val rfl rfl rfl (by first | exact rFldN (off := 0) rfl (by kernel_rfl) rfl | exact rFld0 rfl (by kernel_rfl) rfl) ?_
        refine WL_val rfl rfl rfl (by first | exact rLd (v := .int .i64 _) rfl (by kernel_rfl) rfl (by first | exact hI.c0 rfl | exact hI.c1 rfl) | exact rLd rfl (by kernel_rfl) rfl (by first | exact hI.c0 rfl | exact hI.c1 rfl)) ?_
        refine WL_val rfl rfl rfl (by first | exact rNeqT rfl rfl rfl (by omega) | exact rNeqF rfl rfl rfl (by omega) | exact rNeq rfl rfl rfl) ?_
        refine WL_val rfl rfl rfl (by first | exact rMoveB rfl rfl | exact rMove rfl) ?_
        first | refine WL_val rfl rfl rfl (by first | exact rFldN (off := 2) rfl (by kernel_rfl) rfl | exact rFld (off := 2) rfl (by kernel_rfl) rfl) ?_ | refine WL_skip rfl rfl rfl ?_
        first | refine WL_val rfl rfl rfl (by first | exact rLd (v := .int .i64 _) rfl (by kernel_rfl) rfl (by first | exact hI.c0 rfl | exact hI.c1 rfl) | exact rLd rfl (by kernel_rfl) rfl (by first | exact hI.c0 rfl | exact hI.c1 rfl)) ?_ | refine WL_skip rfl rfl rfl ?_
        first | refine WL_val rfl rfl rfl (by first | exact rFldN (off := 2) rfl (by kernel_rfl) rfl | exact rFld (off := 2) rfl (by kernel_rfl) rfl) ?_ | refine WL_skip rfl rfl rfl ?_
        first | refine WL_val rfl rfl rfl (by first | exact rLd (v := .int .i64 _) rfl (by kernel_rfl) rfl (by first | exact hI.c0 rfl | exact hI.c1 rfl) | exact rLd rfl (by kernel_rfl) rfl (by first | exact hI.c0 rfl | exact hI.c1 rfl)) ?_ | refine WL_skip rfl rfl rfl ?_
        first | refine WL_val rfl rfl rfl (by first | exact rEqlT rfl rfl rfl (by omega) | exact rEqlF rfl rfl rfl (by omega) | exact rEql rfl rfl rfl) ?_ | refine WL_skip rfl rfl rfl ?_
        refine WL_val rfl rfl rfl (by first | exact rPickTB rfl rfl rfl | exact rPickFB rfl rfl rfl | exact rPickB rfl rfl rfl rfl) ?_
        refine WL_val rfl rfl rfl (by first | exact rMoveB rfl rfl | exact rMove rfl) ?_
        first | refine WL_val rfl rfl rfl (by first | exact rFldN (off := 1) rfl (by kernel_rfl) rfl | exact rFld (off := 1) rfl (by kernel_rfl) rfl) ?_ | refine WL_skip rfl rfl rfl ?_
        first | refine WL_val rfl rfl rfl (by first | exact rLd (v := .int .i64 _) rfl (by kernel_rfl) rfl (by first | exact hI.c0 rfl | exact hI.c1 rfl) | exact rLd rfl (by kernel_rfl) rfl (by first | exact hI.c0 rfl | exact hI.c1 rfl)) ?_ | refine WL_skip rfl rfl rfl ?_
        first | refine WL_val rfl rfl rfl (by first | exact rEqlT rfl rfl rfl (by omega) | exact rEqlF rfl rfl rfl (by omega) | exact rEql rfl rfl rfl) ?_ | refine WL_skip rfl rfl rfl ?_
        first | refine WL_val rfl rfl rfl (by first | exact rMoveB rfl rfl | exact rMove rfl) ?_ | refine WL_skip rfl rfl rfl ?_
        refine WL_skip rfl rfl rfl ?_
        refine WL_skip rfl rfl rfl ?_
        refine WL_skip rfl rfl rfl ?_
        first | refine WL_val rfl rfl rfl (by first | exact rPickTB rfl rfl rfl | exact rPickFB rfl rfl rfl | exact rPickB rfl rfl rfl rfl) ?_ | refine WL_skip rfl rfl rfl ?_
        refine WL_val rfl rfl rfl (by first | exact rPickTB rfl rfl rfl | exact rPickFB rfl rfl rfl | exact rPickB rfl rfl rfl rfl) ?_
        refine WL_val rfl rfl rfl (by first | exact rAsgnB rfl rfl | exact rAsgn rfl) ?_
        refine WL_nil ?_
        refine W_ret ?_
        exact ret1 4 (.inr rfl) rfl ⟨by rw [show clashB ⟨x1, x2, x3⟩ ⟨y1, y2, y3⟩ = true from by simp [clashB, h1, h2, h3]]; rfl, hI.pu⟩
      · by_cases h4 : y2 = 2
        · refine W_seq ?_
          refine W_region ?_
          refine WL_val rfl rfl rfl (by first | exact rFldN (off := 0) rfl (by kernel_rfl) rfl | exact rFld0 rfl (by kernel_rfl) rfl) ?_
          refine WL_val rfl rfl rfl (by first | exact rLd (v := .int .i64 _) rfl (by kernel_rfl) rfl (by first | exact hI.c0 rfl | exact hI.c1 rfl) | exact rLd rfl (by kernel_rfl) rfl (by first | exact hI.c0 rfl | exact hI.c1 rfl)) ?_
          refine WL_val rfl rfl rfl (by first | exact rFldN (off := 0) rfl (by kernel_rfl) rfl | exact rFld0 rfl (by kernel_rfl) rfl) ?_
          refine WL_val rfl rfl rfl (by first | exact rLd (v := .int .i64 _) rfl (by kernel_rfl) rfl (by first | exact hI.c0 rfl | exact hI.c1 rfl) | exact rLd rfl (by kernel_rfl) rfl (by first | exact hI.c0 rfl | exact hI.c1 rfl)) ?_
          refine WL_val rfl rfl rfl (by first | exact rNeqT rfl rfl rfl (by omega) | exact rNeqF rfl rfl rfl (by omega) | exact rNeq rfl rfl rfl) ?_
          refine WL_val rfl rfl rfl (by first | exact rMoveB rfl rfl | exact rMove rfl) ?_
          first | refine WL_val rfl rfl rfl (by first | exact rFldN (off := 2) rfl (by kernel_rfl) rfl | exact rFld (off := 2) rfl (by kernel_rfl) rfl) ?_ | refine WL_skip rfl rfl rfl ?_
          first | refine WL_val rfl rfl rfl (by first | exact rLd (v := .int .i64 _) rfl (by kernel_rfl) rfl (by first | exact hI.c0 rfl | exact hI.c1 rfl) | exact rLd rfl (by kernel_rfl) rfl (by first | exact hI.c0 rfl | exact hI.c1 rfl)) ?_ | refine WL_skip rfl rfl rfl ?_
          first | refine WL_val rfl rfl rfl (by first | exact rFldN (off := 2) rfl (by kernel_rfl) rfl | exact rFld (off := 2) rfl (by kernel_rfl) rfl) ?_ | refine WL_skip rfl rfl rfl ?_
          first | refine WL_val rfl rfl rfl (by first | exact rLd (v := .int .i64 _) rfl (by kernel_rfl) rfl (by first | exact hI.c0 rfl | exact hI.c1 rfl) | exact rLd rfl (by kernel_rfl) rfl (by first | exact hI.c0 rfl | exact hI.c1 rfl)) ?_ | refine WL_skip rfl rfl rfl ?_
          first | refine WL_val rfl rfl rfl (by first | exact rEqlT rfl rfl rfl (by omega) | exact rEqlF rfl rfl rfl (by omega) | exact rEql rfl rfl rfl) ?_ | refine WL_skip rfl rfl rfl ?_
          refine WL_val rfl rfl rfl (by first | exact rPickTB rfl rfl rfl | exact rPickFB rfl rfl rfl | exact rPickB rfl rfl rfl rfl) ?_
          refine WL_val rfl rfl rfl (by first | exact rMoveB rfl rfl | exact rMove rfl) ?_
          first | refine WL_val rfl rfl rfl (by first | exact rFldN (off := 1) rfl (by kernel_rfl) rfl | exact rFld (off := 1) rfl (by kernel_rfl) rfl) ?_ | refine WL_skip rfl rfl rfl ?_
          first | refine WL_val rfl rfl rfl (by first | exact rLd (v := .int .i64 _) rfl (by kernel_rfl) rfl (by first | exact hI.c0 rfl | exact hI.c1 rfl) | exact rLd rfl (by kernel_rfl) rfl (by first | exact hI.c0 rfl | exact hI.c1 rfl)) ?_ | refine WL_skip rfl rfl rfl ?_
          first | refine WL_val rfl rfl rfl (by first | exact rEqlT rfl rfl rfl (by omega) | exact rEqlF rfl rfl rfl (by omega) | exact rEql rfl rfl rfl) ?_ | refine WL_skip rfl rfl rfl ?_
          first | refine WL_val rfl rfl rfl (by first | exact rMoveB rfl rfl | exact rMove rfl) ?_ | refine WL_skip rfl rfl rfl ?_
          first | refine WL_val rfl rfl rfl (by first | exact rFldN (off := 1) rfl (by kernel_rfl) rfl | exact rFld (off := 1) rfl (by kernel_rfl) rfl) ?_ | refine WL_skip rfl rfl rfl ?_
          first | refine WL_val rfl rfl rfl (by first | exact rLd (v := .int .i64 _) rfl (by kernel_rfl) rfl (by first | exact hI.c0 rfl | exact hI.c1 rfl) | exact rLd rfl (by kernel_rfl) rfl (by first | exact hI.c0 rfl | exact hI.c1 rfl)) ?_ | refine WL_skip rfl rfl rfl ?_
          first | refine WL_val rfl rfl rfl (by first | exact rEqlT rfl rfl rfl (by omega) | exact rEqlF rfl rfl rfl (by omega) | exact rEql rfl rfl rfl) ?_ | refine WL_skip rfl rfl rfl ?_
          first | refine WL_val rfl rfl rfl (by first | exact rPickTB rfl rfl rfl | exact rPickFB rfl rfl rfl | exact rPickB rfl rfl rfl rfl) ?_ | refine WL_skip rfl rfl rfl ?_
          refine WL_val rfl rfl rfl (by first | exact rPickTB rfl rfl rfl | exact rPickFB rfl rfl rfl | exact rPickB rfl rfl rfl rfl) ?_
          refine WL_val rfl rfl rfl (by first | exact rAsgnB rfl rfl | exact rAsgn rfl) ?_
          refine WL_nil ?_
          refine W_ret ?_
          exact ret1 4 (.inr rfl) rfl ⟨by rw [show clashB ⟨x1, x2, x3⟩ ⟨y1, y2, y3⟩ = true from by simp [clashB, h1, h2, h4]]; rfl, hI.pu⟩
        · refine W_seq ?_
          refine W_region ?_
          refine WL_val rfl rfl rfl (by first | exact rFldN (off := 0) rfl (by kernel_rfl) rfl | exact rFld0 rfl (by kernel_rfl) rfl) ?_
          refine WL_val rfl rfl rfl (by first | exact rLd (v := .int .i64 _) rfl (by kernel_rfl) rfl (by first | exact hI.c0 rfl | exact hI.c1 rfl) | exact rLd rfl (by kernel_rfl) rfl (by first | exact hI.c0 rfl | exact hI.c1 rfl)) ?_
          refine WL_val rfl rfl rfl (by first | exact rFldN (off := 0) rfl (by kernel_rfl) rfl | exact rFld0 rfl (by kernel_rfl) rfl) ?_
          refine WL_val rfl rfl rfl (by first | exact rLd (v := .int .i64 _) rfl (by kernel_rfl) rfl (by first | exact hI.c0 rfl | exact hI.c1 rfl) | exact rLd rfl (by kernel_rfl) rfl (by first | exact hI.c0 rfl | exact hI.c1 rfl)) ?_
          refine WL_val rfl rfl rfl (by first | exact rNeqT rfl rfl rfl (by omega) | exact rNeqF rfl rfl rfl (by omega) | exact rNeq rfl rfl rfl) ?_
          refine WL_val rfl rfl rfl (by first | exact rMoveB rfl rfl | exact rMove rfl) ?_
          first | refine WL_val rfl rfl rfl (by first | exact rFldN (off := 2) rfl (by kernel_rfl) rfl | exact rFld (off := 2) rfl (by kernel_rfl) rfl) ?_ | refine WL_skip rfl rfl rfl ?_
          first | refine WL_val rfl rfl rfl (by first | exact rLd (v := .int .i64 _) rfl (by kernel_rfl) rfl (by first | exact hI.c0 rfl | exact hI.c1 rfl) | exact rLd rfl (by kernel_rfl) rfl (by first | exact hI.c0 rfl | exact hI.c1 rfl)) ?_ | refine WL_skip rfl rfl rfl ?_
          first | refine WL_val rfl rfl rfl (by first | exact rFldN (off := 2) rfl (by kernel_rfl) rfl | exact rFld (off := 2) rfl (by kernel_rfl) rfl) ?_ | refine WL_skip rfl rfl rfl ?_
          first | refine WL_val rfl rfl rfl (by first | exact rLd (v := .int .i64 _) rfl (by kernel_rfl) rfl (by first | exact hI.c0 rfl | exact hI.c1 rfl) | exact rLd rfl (by kernel_rfl) rfl (by first | exact hI.c0 rfl | exact hI.c1 rfl)) ?_ | refine WL_skip rfl rfl rfl ?_
          first | refine WL_val rfl rfl rfl (by first | exact rEqlT rfl rfl rfl (by omega) | exact rEqlF rfl rfl rfl (by omega) | exact rEql rfl rfl rfl) ?_ | refine WL_skip rfl rfl rfl ?_
          refine WL_val rfl rfl rfl (by first | exact rPickTB rfl rfl rfl | exact rPickFB rfl rfl rfl | exact rPickB rfl rfl rfl rfl) ?_
          refine WL_val rfl rfl rfl (by first | exact rMoveB rfl rfl | exact rMove rfl) ?_
          first | refine WL_val rfl rfl rfl (by first | exact rFldN (off := 1) rfl (by kernel_rfl) rfl | exact rFld (off := 1) rfl (by kernel_rfl) rfl) ?_ | refine WL_skip rfl rfl rfl ?_
          first | refine WL_val rfl rfl rfl (by first | exact rLd (v := .int .i64 _) rfl (by kernel_rfl) rfl (by first | exact hI.c0 rfl | exact hI.c1 rfl) | exact rLd rfl (by kernel_rfl) rfl (by first | exact hI.c0 rfl | exact hI.c1 rfl)) ?_ | refine WL_skip rfl rfl rfl ?_
          first | refine WL_val rfl rfl rfl (by first | exact rEqlT rfl rfl rfl (by omega) | exact rEqlF rfl rfl rfl (by omega) | exact rEql rfl rfl rfl) ?_ | refine WL_skip rfl rfl rfl ?_
          first | refine WL_val rfl rfl rfl (by first | exact rMoveB rfl rfl | exact rMove rfl) ?_ | refine WL_skip rfl rfl rfl ?_
          first | refine WL_val rfl rfl rfl (by first | exact rFldN (off := 1) rfl (by kernel_rfl) rfl | exact rFld (off := 1) rfl (by kernel_rfl) rfl) ?_ | refine WL_skip rfl rfl rfl ?_
          first | refine WL_val rfl rfl rfl (by first | exact rLd (v := .int .i64 _) rfl (by kernel_rfl) rfl (by first | exact hI.c0 rfl | exact hI.c1 rfl) | exact rLd rfl (by kernel_rfl) rfl (by first | exact hI.c0 rfl | exact hI.c1 rfl)) ?_ | refine WL_skip rfl rfl rfl ?_
          first | refine WL_val rfl rfl rfl (by first | exact rEqlT rfl rfl rfl (by omega) | exact rEqlF rfl rfl rfl (by omega) | exact rEql rfl rfl rfl) ?_ | refine WL_skip rfl rfl rfl ?_
          first | refine WL_val rfl rfl rfl (by first | exact rPickTB rfl rfl rfl | exact rPickFB rfl rfl rfl | exact rPickB rfl rfl rfl rfl) ?_ | refine WL_skip rfl rfl rfl ?_
          refine WL_val rfl rfl rfl (by first | exact rPickTB rfl rfl rfl | exact rPickFB rfl rfl rfl | exact rPickB rfl rfl rfl rfl) ?_
          refine WL_val rfl rfl rfl (by first | exact rAsgnB rfl rfl | exact rAsgn rfl) ?_
          refine WL_nil ?_
          refine W_ret ?_
          exact ret1 4 (.inr rfl) rfl ⟨by rw [show clashB ⟨x1, x2, x3⟩ ⟨y1, y2, y3⟩ = false from by simp [clashB, h3, h4]]; rfl, hI.pu⟩
    · refine W_seq ?_
      refine W_region ?_
      refine WL_val rfl rfl rfl (by first | exact rFldN (off := 0) rfl (by kernel_rfl) rfl | exact rFld0 rfl (by kernel_rfl) rfl) ?_
      refine WL_val rfl rfl rfl (by first | exact rLd (v := .int .i64 _) rfl (by kernel_rfl) rfl (by first | exact hI.c0 rfl | exact hI.c1 rfl) | exact rLd rfl (by kernel_rfl) rfl (by first | exact hI.c0 rfl | exact hI.c1 rfl)) ?_
      refine WL_val rfl rfl rfl (by first | exact rFldN (off := 0) rfl (by kernel_rfl) rfl | exact rFld0 rfl (by kernel_rfl) rfl) ?_
      refine WL_val rfl rfl rfl (by first | exact rLd (v := .int .i64 _) rfl (by kernel_rfl) rfl (by first | exact hI.c0 rfl | exact hI.c1 rfl) | exact rLd rfl (by kernel_rfl) rfl (by first | exact hI.c0 rfl | exact hI.c1 rfl)) ?_
      refine WL_val rfl rfl rfl (by first | exact rNeqT rfl rfl rfl (by omega) | exact rNeqF rfl rfl rfl (by omega) | exact rNeq rfl rfl rfl) ?_
      refine WL_val rfl rfl rfl (by first | exact rMoveB rfl rfl | exact rMove rfl) ?_
      first | refine WL_val rfl rfl rfl (by first | exact rFldN (off := 2) rfl (by kernel_rfl) rfl | exact rFld (off := 2) rfl (by kernel_rfl) rfl) ?_ | refine WL_skip rfl rfl rfl ?_
      first | refine WL_val rfl rfl rfl (by first | exact rLd (v := .int .i64 _) rfl (by kernel_rfl) rfl (by first | exact hI.c0 rfl | exact hI.c1 rfl) | exact rLd rfl (by kernel_rfl) rfl (by first | exact hI.c0 rfl | exact hI.c1 rfl)) ?_ | refine WL_skip rfl rfl rfl ?_
      first | refine WL_val rfl rfl rfl (by first | exact rFldN (off := 2) rfl (by kernel_rfl) rfl | exact rFld (off := 2) rfl (by kernel_rfl) rfl) ?_ | refine WL_skip rfl rfl rfl ?_
      first | refine WL_val rfl rfl rfl (by first | exact rLd (v := .int .i64 _) rfl (by kernel_rfl) rfl (by first | exact hI.c0 rfl | exact hI.c1 rfl) | exact rLd rfl (by kernel_rfl) rfl (by first | exact hI.c0 rfl | exact hI.c1 rfl)) ?_ | refine WL_skip rfl rfl rfl ?_
      first | refine WL_val rfl rfl rfl (by first | exact rEqlT rfl rfl rfl (by omega) | exact rEqlF rfl rfl rfl (by omega) | exact rEql rfl rfl rfl) ?_ | refine WL_skip rfl rfl rfl ?_
      refine WL_val rfl rfl rfl (by first | exact rPickTB rfl rfl rfl | exact rPickFB rfl rfl rfl | exact rPickB rfl rfl rfl rfl) ?_
      refine WL_val rfl rfl rfl (by first | exact rMoveB rfl rfl | exact rMove rfl) ?_
      refine WL_skip rfl rfl rfl ?_
      refine WL_skip rfl rfl rfl ?_
      refine WL_skip rfl rfl rfl ?_
      refine WL_skip rfl rfl rfl ?_
      refine WL_skip rfl rfl rfl ?_
      refine WL_skip rfl rfl rfl ?_
      refine WL_skip rfl rfl rfl ?_
      refine WL_skip rfl rfl rfl ?_
      refine WL_val rfl rfl rfl (by first | exact rPickTB rfl rfl rfl | exact rPickFB rfl rfl rfl | exact rPickB rfl rfl rfl rfl) ?_
      refine WL_val rfl rfl rfl (by first | exact rAsgnB rfl rfl | exact rAsgn rfl) ?_
      refine WL_nil ?_
      refine W_ret ?_
      exact ret1 4 (.inr rfl) rfl ⟨by rw [show clashB ⟨x1, x2, x3⟩ ⟨y1, y2, y3⟩ = false from by simp [clashB, h2]]; rfl, hI.pu⟩
end Go.Proofs.YtgkmlnbnjbpodaaDoor
