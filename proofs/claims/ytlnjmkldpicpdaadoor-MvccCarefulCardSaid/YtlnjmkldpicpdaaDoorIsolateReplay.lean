/- testimonykeep.IsolateReplay. -/
import Derived.Test.YtlnjmkldpicpdaaDoorReplayLaw
namespace Go.Proofs.YtlnjmkldpicpdaaDoor
open Go.RowKit
set_option linter.unusedVariables false
set_option linter.unusedSimpArgs false

def arr8 (f : Nat → Int) : Array Value := ((List.range 8).map fun j => Value.int .i64 (f j)).toArray
theorem arr8_size (f : Nat → Int) : (arr8 f).size = 8 := rfl
theorem arr8_get (f : Nat → Int) {j : Nat} (h : j < 8) : (arr8 f)[j]? = some (.int .i64 (f j)) := by
  unfold arr8
  simp [h]
theorem arr8_set (f : Nat → Int) (j : Nat) (v : Int) : (arr8 f).setIfInBounds j (.int .i64 v) = arr8 (fun i => if i = j then v else f i) := by
  apply Array.ext'
  apply List.ext_getElem?
  intro i
  rw [Array.getElem?_toList, Array.getElem?_toList, Array.getElem?_setIfInBounds]
  by_cases hi : i < 8
  · rw [arr8_get _ hi, arr8_get _ hi, arr8_size]
    by_cases hj : j = i
    · subst hj; simp [hi]
    · rw [if_neg hj, if_neg (Ne.symm hj)]
  · rw [Array.getElem?_eq_none (by rw [arr8_size]; omega), Array.getElem?_eq_none (by rw [arr8_size]; omega)]
    split
    · rw [if_neg (by rw [arr8_size]; omega)]
    · rfl
theorem arr8_congr {f g : Nat → Int} (h : ∀ j, j < 8 → f j = g j) : arr8 f = arr8 g := by
  apply Array.ext'
  apply List.ext_getElem?
  intro i
  rw [Array.getElem?_toList, Array.getElem?_toList]
  by_cases hi : i < 8
  · rw [arr8_get _ hi, arr8_get _ hi, h i hi]
  · rw [Array.getElem?_eq_none (by rw [arr8_size]; omega), Array.getElem?_eq_none (by rw [arr8_size]; omega)]
/-- A list of numbers at the beginning of a block. -/
def Rw (A : Option Addr) (r : List Nat) : Ent := ⟨fun k => A = some ⟨k, 0, none⟩ ∧ r ≠ [], fun w => ∀ (j x : Nat), r[j]? = some x → ∃ b, A = some ⟨b, 0, none⟩ ∧ w.cell? ⟨b, j, none⟩ = some (.int .i64 x)⟩
theorem Rw.ok {w : World} {A : Option Addr} {r : List Nat} (h : ∀ (j x : Nat), r[j]? = some x → ∃ b, A = some ⟨b, 0, none⟩ ∧ w.cell? ⟨b, j, none⟩ = some (.int .i64 x)) : (Rw A r).ok w := by
  refine Ent.mk_ok h (fun k hk => ?_) (fun S w1 w2 hc hS h1 j x hx => ?_)
  · obtain ⟨rfl, hr⟩ := hk
    cases r with
    | nil => exact absurd rfl hr
    | cons a r =>
      obtain ⟨b, hb, hc⟩ := h 0 a rfl
      injection hb with hb
      injection hb with hb
      subst hb
      exact World.block_lt_of_cell? w _ hc
  · obtain ⟨b, rfl, hb⟩ := h1 j x hx
    exact ⟨b, rfl, chg_cell hc (hS b ⟨rfl, fun e => by rw [e] at hx; simp at hx⟩) hb⟩
theorem level3 {d a b r s y : Bool} (h : ¬ levelF [d, a, b, r, s, y] < 3) : d = false ∧ a = false ∧ b = false ∧ r = false ∧ y = false ∧ levelF [d, a, b, r, s, y] = 3 := by
  revert h
  unfold levelF
  cases d <;> cases a <;> cases b <;> cases r <;> cases y <;> simp
def stepV (t : List ITx) (ops : List IOp) (x : Nat) (f : Nat → Int) (j : Nat) : Nat → Int := fun k => if 0 < versF (ops.take j) (k : Int) then (x : Int) else f k

set_option maxHeartbeats 2000000 in
theorem replay_any (A : Option Addr) (n c : Nat) (A2 : Option Addr) (n2 c2 : Nat) (t : List ITx) (g : List (List Int)) (D : Nat → Prop) (w0 : World) (h : Txs w0 D (.slice A n c) t) (hl : t.length = n) (h2 : IGrid w0 D (.slice A2 n2 c2) g) (hn2 : g.length = n2) (hD : ∀ k, D k → k < w0.heap.size) (hn63 : n ≤ 9223372036854775807) :
    Calls Tryd.prog 16 #[.agg #[.slice A n c, .slice A2 n2 c2]] w0 fun e w' => e = .returned (.bool true) ∧ Pure w0 w' := by
  have hI := Inv.start (fun _ => False) w0
  refine calls_of_W (N := Tryd.f16.ntmps) Tryd.func16 rfl rfl rfl ?_
  refine W_seq ?_
  refine W_region ?_
  refine WL_box (u := .agg _) (vs := #[_, _]) hI rfl rfl rfl rfl rfl rfl ?_
  clear hI; rintro b1 w - - hI
  refine WL_val rfl rfl rfl (by first | exact rAsgnB rfl rfl | exact rAsgn rfl) ?_
  refine WL_nil ?_
  refine W_seq ?_
  refine W_seq ?_
  refine W_region ?_
  refine WL_val rfl rfl rfl (by first | exact rLdB (n := 2) rfl (by kernel_rfl) (by kernel_rfl) rfl rfl hI.g0 | exact rLd2 rfl (by kernel_rfl) (by kernel_rfl) rfl (by first | exact hI.c0 rfl) (by first | exact hI.c0 rfl)) ?_
  refine WL_call rfl rfl rfl (rCall (vs := [.agg _, .int .i64 _]) rfl Tryd.func33 rfl rfl rfl) ?_
  refine (long_any A n c A2 n2 c2 t D _ (h.pure hI.pu) hl 60 hn63).mono ?_
  rintro e w1 ⟨b, rfl, hp⟩
  refine ⟨_, rfl, ?_⟩
  replace hI := hI.pure hp
  refine WL_nil ?_
  cases b
  rotate_left
  · refine W_cond true rfl ?_
    refine W_seq ?_
    refine W_region ?_
    refine WL_val rfl rfl rfl (by first | exact rAsgnB rfl rfl | exact rAsgn rfl) ?_
    refine WL_nil ?_
    refine W_ret ?_
    exact ret1 2 (.inr rfl) rfl ⟨rfl, hI.pu⟩
  refine W_cond false rfl ?_
  refine W_skip ?_
  refine W_seq ?_
  refine W_region ?_
  refine WL_val rfl rfl rfl (by first | exact rLdB (n := 2) rfl (by kernel_rfl) (by kernel_rfl) rfl rfl hI.g0 | exact rLd2 rfl (by kernel_rfl) (by kernel_rfl) rfl (by first | exact hI.c0 rfl) (by first | exact hI.c0 rfl)) ?_
  refine WL_call rfl rfl rfl (rCall (vs := [.agg _]) rfl Tryd.func15 rfl rfl rfl) ?_
  refine (ilevel_any A n c A2 n2 c2 t g D _ (h.pure hI.pu) hl (h2.pure hI.pu) hn2 (fun k hk => Nat.lt_of_lt_of_le (hD k hk) hI.pu.size)).mono ?_
  rintro e w2 ⟨hp, ⟨hok, rfl⟩ | ⟨hno, x, ⟨u, rfl⟩, rfl⟩⟩
  · obtain ⟨d, a, b, r, s, y, hf, hdr, hsy, hord⟩ := levels_law n t g
    rw [hf]
    by_cases hlv : levelF [d, a, b, r, s, y] < 3
    · generalize levelF [d, a, b, r, s, y] = lv at *
      refine ⟨_, rfl, ?_⟩
      replace hI := hI.pure hp
      refine WL_val rfl rfl rfl (by first | exact rMoveT rfl rfl | exact rMove rfl) ?_
      refine WL_val rfl rfl rfl (rExtr rfl rfl rfl) ?_
      refine WL_val rfl rfl rfl (rExtr rfl rfl rfl) ?_
      refine WL_val rfl rfl rfl (by first | exact rAsgnI rfl rfl | exact rAsgn rfl) ?_
      refine WL_val rfl rfl rfl (by first | exact rAsgnN rfl rfl | exact rAsgnE rfl rfl | exact rAsgn rfl) ?_
      refine WL_nil ?_
      refine W_seq ?_
      refine W_seq ?_
      refine W_region ?_
      refine WL_call rfl rfl rfl (rCall (vs := []) rfl Tryd.func34 rfl rfl rfl) ?_
      refine (isolates_any _).mono ?_
      rintro e w1 ⟨rfl, hp⟩
      refine ⟨_, rfl, ?_⟩
      replace hI := hI.pure hp
      refine WL_val rfl rfl rfl (by first | exact rNotT rfl rfl | exact rNotF rfl rfl | exact rNot rfl rfl) ?_
      refine WL_val rfl rfl rfl (by first | exact rMoveB rfl rfl | exact rMove rfl) ?_
      first | refine WL_val rfl rfl rfl (by first | exact rMoveN rfl rfl | exact rMoveE rfl rfl | exact rMove rfl) ?_ | refine WL_skip rfl rfl rfl ?_
      first | refine WL_val rfl rfl rfl (by first | exact rIfaceNe rfl Tryd.underlying37 rfl rfl | exact rNilNe rfl Tryd.underlying37 rfl) ?_ | refine WL_skip rfl rfl rfl ?_
      refine WL_val rfl rfl rfl (by first | exact rPickTB rfl rfl rfl | exact rPickFB rfl rfl rfl | exact rPickB rfl rfl rfl rfl) ?_
      refine WL_val rfl rfl rfl (by first | exact rMoveB rfl rfl | exact rMove rfl) ?_
      first | refine WL_val rfl rfl rfl (by first | exact rMoveI rfl rfl | exact rMove rfl) ?_ | refine WL_skip rfl rfl rfl ?_
      first | refine WL_val rfl rfl rfl (by first | exact rLssT rfl rfl rfl (by omega) | exact rLssF rfl rfl rfl (by omega) | exact rLss rfl rfl rfl) ?_ | refine WL_skip rfl rfl rfl ?_
      refine WL_val rfl rfl rfl (by first | exact rPickTB rfl rfl rfl | exact rPickFB rfl rfl rfl | exact rPickB rfl rfl rfl rfl) ?_
      refine WL_nil ?_
      refine W_cond true rfl ?_
      refine W_seq ?_
      refine W_region ?_
      refine WL_call rfl rfl rfl (rCall (vs := []) rfl Tryd.func34 rfl rfl rfl) ?_
      refine (isolates_any _).mono ?_
      rintro e w1 ⟨rfl, hp⟩
      refine ⟨_, rfl, ?_⟩
      replace hI := hI.pure hp
      refine WL_val rfl rfl rfl (by first | exact rAsgnB rfl rfl | exact rAsgn rfl) ?_
      refine WL_nil ?_
      refine W_ret ?_
      exact ret1 2 (.inr rfl) rfl ⟨rfl, hI.pu⟩
    obtain ⟨rfl, rfl, rfl, rfl, rfl, hl3⟩ := level3 hlv
    rw [hl3]
    have hab : abB t (evsTo t t.length 0) = false := by have := congrArg (fun l => l[1]?) hf; rw [hl]; simpa [findsF] using this
    have hbe : beB t (evsTo t t.length 0) = false := by have := congrArg (fun l => l[2]?) hf; rw [hl]; simpa [findsF] using this
    refine ⟨_, rfl, ?_⟩
    replace hI := hI.pure hp
    refine WL_val rfl rfl rfl (by first | exact rMoveT rfl rfl | exact rMove rfl) ?_
    refine WL_val rfl rfl rfl (rExtr rfl rfl rfl) ?_
    refine WL_val rfl rfl rfl (rExtr rfl rfl rfl) ?_
    refine WL_val rfl rfl rfl (by first | exact rAsgnI rfl rfl | exact rAsgn rfl) ?_
    refine WL_val rfl rfl rfl (by first | exact rAsgnN rfl rfl | exact rAsgnE rfl rfl | exact rAsgn rfl) ?_
    refine WL_nil ?_
    refine W_seq ?_
    refine W_seq ?_
    refine W_region ?_
    refine WL_call rfl rfl rfl (rCall (vs := []) rfl Tryd.func34 rfl rfl rfl) ?_
    refine (isolates_any _).mono ?_
    rintro e w1 ⟨rfl, hp⟩
    refine ⟨_, rfl, ?_⟩
    replace hI := hI.pure hp
    refine WL_val rfl rfl rfl (by first | exact rNotT rfl rfl | exact rNotF rfl rfl | exact rNot rfl rfl) ?_
    refine WL_val rfl rfl rfl (by first | exact rMoveB rfl rfl | exact rMove rfl) ?_
    first | refine WL_val rfl rfl rfl (by first | exact rMoveN rfl rfl | exact rMoveE rfl rfl | exact rMove rfl) ?_ | refine WL_skip rfl rfl rfl ?_
    first | refine WL_val rfl rfl rfl (by first | exact rIfaceNe rfl Tryd.underlying37 rfl rfl | exact rNilNe rfl Tryd.underlying37 rfl) ?_ | refine WL_skip rfl rfl rfl ?_
    refine WL_val rfl rfl rfl (by first | exact rPickTB rfl rfl rfl | exact rPickFB rfl rfl rfl | exact rPickB rfl rfl rfl rfl) ?_
    refine WL_val rfl rfl rfl (by first | exact rMoveB rfl rfl | exact rMove rfl) ?_
    first | refine WL_val rfl rfl rfl (by first | exact rMoveI rfl rfl | exact rMove rfl) ?_ | refine WL_skip rfl rfl rfl ?_
    first | refine WL_val rfl rfl rfl (by first | exact rLssT rfl rfl rfl (by omega) | exact rLssF rfl rfl rfl (by omega) | exact rLss rfl rfl rfl) ?_ | refine WL_skip rfl rfl rfl ?_
    refine WL_val rfl rfl rfl (by first | exact rPickTB rfl rfl rfl | exact rPickFB rfl rfl rfl | exact rPickB rfl rfl rfl rfl) ?_
    refine WL_nil ?_
    refine W_cond false rfl ?_
    refine W_skip ?_
    refine W_seq ?_
    refine W_region ?_
    refine WL_val rfl rfl rfl (by first | exact rLdB (n := 2) rfl (by kernel_rfl) (by kernel_rfl) rfl rfl hI.g0 | exact rLd2 rfl (by kernel_rfl) (by kernel_rfl) rfl (by first | exact hI.c0 rfl) (by first | exact hI.c0 rfl)) ?_
    refine WL_call rfl rfl rfl (rCall (vs := [.agg _]) rfl Tryd.func11 rfl rfl rfl) ?_
    refine (iserial_any A n c A2 n2 c2 t g D _ (h.pure hI.pu) hl (h2.pure hI.pu) hn2 (fun k hk => Nat.lt_of_lt_of_le (hD k hk) hI.pu.size)).mono ?_
    rintro e w3 ⟨hp, ⟨_, l, hl1, A', c', rfl, hc', hcells⟩ | ⟨_, hnone, _⟩ | ⟨hno, _⟩⟩
    rotate_left
    · rw [hnone] at hord; simp at hord
    · exact absurd hok hno
    refine ⟨_, rfl, ?_⟩
    have hrn : (keepF t l).length ≤ 8 := by
      have h1 := (orderTo_spec _ l hl1).1
      have h2 := keep_len t l
      have h3 := hok.1
      omega
    have hrt : ∀ x ∈ keepF t l, x < n ∧ comAt t (x : Int) = true := fun x hx => by
      obtain ⟨h1, h2⟩ := List.mem_filter.1 hx
      exact ⟨(orderTo_spec _ l hl1).2.2.1 x h1, h2⟩
    have hlaw : ∀ (i x : Nat) (o : IOp), (keepF t l)[i]? = some x → o ∈ opsAt t (x : Int) → o.write = false → o.src ≠ (x : Int) → o.src = lastV t ((keepF t l).take i) o.key := fun i x o => replay_law hok (by rw [hl]; exact hl1) hab hbe
    generalize keepF t l = r at *
    replace hI := hI.fresh hp (Rw.ok (fun j x hx => by obtain ⟨b, h1, _, h3⟩ := hcells j x hx; exact ⟨b, h1, h3⟩)) (fun k hk => by
      obtain ⟨h1, h2⟩ := hk
      cases r with
      | nil => exact absurd rfl h2
      | cons x r =>
        obtain ⟨b, h3, h4, _⟩ := hcells 0 x rfl
        rw [h1] at h3
        injection h3 with h3
        injection h3 with h3
        omega)
    clear hcells hp
    refine WL_val rfl rfl rfl (by first | exact rMoveT rfl rfl | exact rMove rfl) ?_
    refine WL_val rfl rfl rfl (rExtr rfl rfl rfl) ?_
    refine WL_val rfl rfl rfl (rExtr rfl rfl rfl) ?_
    refine WL_val rfl rfl rfl (by first | exact rAsgnS rfl rfl | exact rAsgn rfl) ?_
    refine WL_val rfl rfl rfl (by first | exact rAsgnN rfl rfl | exact rAsgnE rfl rfl | exact rAsgn rfl) ?_
    refine WL_nil ?_
    refine W_seq ?_
    refine W_seq ?_
    refine W_region ?_
    refine WL_val rfl rfl rfl (by first | exact rMoveN rfl rfl | exact rMoveE rfl rfl | exact rMove rfl) ?_
    refine WL_val rfl rfl rfl (by first | exact rIfaceNe rfl Tryd.underlying37 rfl rfl | exact rNilNe rfl Tryd.underlying37 rfl) ?_
    refine WL_nil ?_
    refine W_cond false rfl ?_
    refine W_skip ?_
    refine W_seq ?_
    refine W_region ?_
    refine WL_mk (n := 8) (by_ := 8) (z := .int .i64 0) hI rfl rfl rfl rfl rfl rfl Tryd.underlying33 (by kernel_rfl) rfl (by omega) (by omega) ?_
    clear hI; rintro b39 w - - hI
    refine WL_val rfl rfl rfl (by first | exact rAsgnS rfl rfl | exact rAsgn rfl) ?_
    refine WL_nil ?_
    refine W_seq ?_
    refine W_seq ?_
    refine W_region ?_
    refine WL_val rfl rfl rfl (by first | exact rAsgnI rfl rfl | exact rAsgn rfl) ?_
    refine WL_nil ?_
    refine W_block ?_
    refine W_loop (fun ρ w => ∃ k : Nat, k ≤ 8 ∧ Has ρ [(7, .int .i64 k), (6, .slice (some ⟨b39, 0, none⟩) (8 : Nat) (8 : Nat)), (5, .slice A' r.length c'), (1, .pointer (some ⟨b1, 0, none⟩))] ∧
      Inv (fun _ => False) w0 w [B b39 3 (arr8 fun j => if j < k then -1 else 0), Rw A' r, B b1 29 #[.slice A n c, .slice A2 n2 c2]]) (fun ρ _ => 8 - cnt (ρ 7))
      ⟨0, by omega, ⟨rfl, rfl, rfl, rfl, trivial⟩, hI⟩ ?_
    clear hI
    rintro ρ w ⟨k, hk, hH, hI⟩
    obtain ⟨σ, rfl⟩ := hH.open
    by_cases hk8 : k < 8
    · refine W_seq ?_
      refine W_seq ?_
      refine W_region ?_
      refine WL_val rfl rfl rfl (by first | exact rMoveI rfl rfl | exact rMove rfl) ?_
      refine WL_val rfl rfl rfl (by first | exact rMoveS rfl rfl | exact rMove rfl) ?_
      refine WL_val rfl rfl rfl (rLen rfl Tryd.underlying33 rfl) ?_
      refine WL_val rfl rfl rfl (by first | exact rLssT rfl rfl rfl (by omega) | exact rLssF rfl rfl rfl (by omega) | exact rLss rfl rfl rfl) ?_
      refine WL_nil ?_
      refine W_cond true rfl ?_
      refine W_skip ?_
      refine W_seq ?_
      refine W_block ?_
      refine W_region ?_
      refine WL_val rfl rfl rfl (by first | exact rMoveS rfl rfl | exact rMove rfl) ?_
      refine WL_val rfl rfl rfl (by first | exact rMoveI rfl rfl | exact rMove rfl) ?_
      refine WL_val rfl rfl rfl (by first | exact rIdx0 rfl Tryd.underlying33 (by kernel_rfl) rfl rfl rfl (by omega) | exact rIdx1 rfl Tryd.underlying33 (by kernel_rfl) rfl rfl (by omega)) ?_
      refine WL_st0 (u := .int .i64 _) (j := k) hI rfl rfl rfl rfl rfl rfl (by kernel_rfl) rfl (by rw [arr8_size]; simp [Nat.blt]; omega) rfl ?_
      clear hI; intro w hI
      refine WL_nil ?_
      refine W_region ?_
      refine WL_val rfl rfl rfl (by first | exact rMoveI rfl rfl | exact rMove rfl) ?_
      refine WL_val rfl rfl rfl (by first | exact rInc rfl rfl rfl (by omega) | exact rAdd rfl rfl rfl (by omega) | exact rAddW rfl rfl rfl) ?_
      refine WL_val rfl rfl rfl (by first | exact rAsgnI rfl rfl | exact rAsgn rfl) ?_
      refine WL_nil ?_
      refine ⟨⟨k + 1, by omega, ⟨rfl, rfl, rfl, rfl, trivial⟩, ?_⟩, by show 8 - ((k + 1 : Nat) : Int).toNat < 8 - (k : Int).toNat; omega⟩
      rw [arr8_set] at hI
      rw [arr8_congr (g := fun i => if i = k then -1 else if i < k then -1 else 0) (fun j _ => by
        by_cases h1 : j = k
        · simp [h1]
        · by_cases h2 : j < k
          · rw [if_pos (by omega), if_neg h1, if_pos h2]
          · rw [if_neg (by omega), if_neg h1, if_neg h2])]
      exact hI
    · refine W_seq ?_
      refine W_seq ?_
      refine W_region ?_
      refine WL_val rfl rfl rfl (by first | exact rMoveI rfl rfl | exact rMove rfl) ?_
      refine WL_val rfl rfl rfl (by first | exact rMoveS rfl rfl | exact rMove rfl) ?_
      refine WL_val rfl rfl rfl (rLen rfl Tryd.underlying33 rfl) ?_
      refine WL_val rfl rfl rfl (by first | exact rLssT rfl rfl rfl (by omega) | exact rLssF rfl rfl rfl (by omega) | exact rLss rfl rfl rfl) ?_
      refine WL_nil ?_
      refine W_cond false rfl ?_
      refine W_exit ?_
      refine W_seq ?_
      refine W_seq ?_
      refine W_region ?_
      refine WL_val rfl rfl rfl (by first | exact rAsgnI rfl rfl | exact rAsgn rfl) ?_
      refine WL_nil ?_
      refine W_block ?_
      refine W_loop (fun ρ w => ∃ i : Nat, i ≤ r.length ∧ Has ρ [(8, .int .i64 i), (6, .slice (some ⟨b39, 0, none⟩) (8 : Nat) (8 : Nat)), (5, .slice A' r.length c'), (1, .pointer (some ⟨b1, 0, none⟩))] ∧
        Inv (fun _ => False) w0 w [B b39 3 (arr8 fun k => lastV t (r.take i) (k : Int)), Rw A' r, B b1 29 #[.slice A n c, .slice A2 n2 c2]]) (fun ρ _ => r.length - cnt (ρ 8))
        ⟨0, by omega, ⟨rfl, rfl, rfl, rfl, trivial⟩, ?_⟩ ?_
      · rw [arr8_congr (g := fun j => if j < k then -1 else 0) (fun j hj => by rw [if_pos (by omega)]; rfl)]
        exact hI
      clear hI
      rintro ρ w ⟨i, hi, hH, hI⟩
      obtain ⟨σ, rfl⟩ := hH.open
      by_cases hir : i < r.length
      · obtain ⟨x, hx⟩ : ∃ x, r[i]? = some x := ⟨_, List.getElem?_eq_getElem hir⟩
        obtain ⟨hxn, hxc⟩ := hrt x (List.mem_of_getElem? hx)
        obtain ⟨gb, rfl, hcx⟩ := hI.g1 i x hx
        obtain ⟨tx, htx⟩ : ∃ tx, t[x]? = some tx := ⟨_, List.getElem?_eq_getElem (by omega)⟩
        obtain ⟨b, f, A3, c3, rfl, p0, p1, p2, p3, p4, p5⟩ := h.get htx
        have hoa : opsAt t (x : Int) = tx.ops := by simp [opsAt, htx]
        have hca : tx.com = true := by simpa [comAt, htx] using hxc
        rw [hca] at p2
        have hTX := hok.2.2.1 tx (List.mem_of_getElem? htx)
        have hm60 := hTX.1
        have hlx : ∀ o ∈ tx.ops, o.write = false → o.src ≠ (x : Int) → o.src = lastV t (r.take i) o.key := fun o ho => hlaw i x o hx (by rw [hoa]; exact ho)
        have hsn : ∀ k : Nat, lastV t (r.take (i + 1)) (k : Int) = if 0 < versF tx.ops (k : Int) then (x : Int) else lastV t (r.take i) (k : Int) := fun k => by
          rw [take_next hx, lastV_snoc]
          unfold writesK
          rw [hoa]
          simp
        generalize hF : (fun k : Nat => lastV t (r.take i) (k : Int)) = F at hI
        refine W_seq ?_
        refine W_seq ?_
        refine W_region ?_
        refine WL_val rfl rfl rfl (by first | exact rMoveI rfl rfl | exact rMove rfl) ?_
        refine WL_val rfl rfl rfl (by first | exact rMoveS rfl rfl | exact rMove rfl) ?_
        refine WL_val rfl rfl rfl (rLen rfl Tryd.underlying33 rfl) ?_
        refine WL_val rfl rfl rfl (by first | exact rLssT rfl rfl rfl (by omega) | exact rLssF rfl rfl rfl (by omega) | exact rLss rfl rfl rfl) ?_
        refine WL_nil ?_
        refine W_cond true rfl ?_
        refine W_skip ?_
        refine W_seq ?_
        refine W_block ?_
        refine W_seq ?_
        refine W_region ?_
        refine WL_val rfl rfl rfl (by first | exact rMoveS rfl rfl | exact rMove rfl) ?_
        refine WL_val rfl rfl rfl (by first | exact rMoveI rfl rfl | exact rMove rfl) ?_
        refine WL_val rfl rfl rfl (by first | exact rIdx0 rfl Tryd.underlying33 (by kernel_rfl) rfl rfl rfl (by omega) | exact rIdx1 rfl Tryd.underlying33 (by kernel_rfl) rfl rfl (by omega)) ?_
        refine WL_val rfl rfl rfl (by first | exact rLd (v := .int .i64 _) rfl (by kernel_rfl) rfl (by first | exact hI.oldp hcx | exact hcx) | exact rLd rfl (by kernel_rfl) rfl (by first | exact hI.oldp hcx | exact hcx)) ?_
        refine WL_val rfl rfl rfl (by first | exact rAsgnI rfl rfl | exact rAsgn rfl) ?_
        refine WL_nil ?_
        refine W_seq ?_
        refine W_seq ?_
        refine W_region ?_
        refine WL_val rfl rfl rfl (by first | exact rMoveI rfl rfl | exact rMove rfl) ?_
        refine WL_val rfl rfl rfl (by first | exact rLssT rfl rfl rfl (by omega) | exact rLssF rfl rfl rfl (by omega) | exact rLss rfl rfl rfl) ?_
        refine WL_val rfl rfl rfl (by first | exact rMoveB rfl rfl | exact rMove rfl) ?_
        first | refine WL_val rfl rfl rfl (by first | exact rMoveI rfl rfl | exact rMove rfl) ?_ | refine WL_skip rfl rfl rfl ?_
        first | refine WL_val rfl rfl rfl (by first | exact rFldN (off := 0) rfl (by kernel_rfl) rfl | exact rFld0 rfl (by kernel_rfl) rfl) ?_ | refine WL_skip rfl rfl rfl ?_
        first | refine WL_val rfl rfl rfl (by first | exact rLd (v := .slice _ _ _) rfl (by kernel_rfl) rfl (by first | exact hI.c0 rfl | exact hI.c1 rfl | exact hI.c2 rfl | exact hI.oldp p2 | exact p2) | exact rLd rfl (by kernel_rfl) rfl (by first | exact hI.c0 rfl | exact hI.c1 rfl | exact hI.c2 rfl | exact hI.oldp p2 | exact p2)) ?_ | refine WL_skip rfl rfl rfl ?_
        first | refine WL_val rfl rfl rfl (rLen rfl Tryd.underlying26 rfl) ?_ | refine WL_skip rfl rfl rfl ?_
        first | refine WL_val rfl rfl rfl (by first | exact rGeqT rfl rfl rfl (by omega) | exact rGeqF rfl rfl rfl (by omega) | exact rGeq rfl rfl rfl) ?_ | refine WL_skip rfl rfl rfl ?_
        refine WL_val rfl rfl rfl (by first | exact rPickTB rfl rfl rfl | exact rPickFB rfl rfl rfl | exact rPickB rfl rfl rfl rfl) ?_
        refine WL_val rfl rfl rfl (by first | exact rMoveB rfl rfl | exact rMove rfl) ?_
        first | refine WL_val rfl rfl rfl (by first | exact rFldN (off := 0) rfl (by kernel_rfl) rfl | exact rFld0 rfl (by kernel_rfl) rfl) ?_ | refine WL_skip rfl rfl rfl ?_
        first | refine WL_val rfl rfl rfl (by first | exact rLd (v := .slice _ _ _) rfl (by kernel_rfl) rfl (by first | exact hI.c0 rfl | exact hI.c1 rfl | exact hI.c2 rfl | exact hI.oldp p2 | exact p2) | exact rLd rfl (by kernel_rfl) rfl (by first | exact hI.c0 rfl | exact hI.c1 rfl | exact hI.c2 rfl | exact hI.oldp p2 | exact p2)) ?_ | refine WL_skip rfl rfl rfl ?_
        first | refine WL_val rfl rfl rfl (by first | exact rMoveI rfl rfl | exact rMove rfl) ?_ | refine WL_skip rfl rfl rfl ?_
        first | refine WL_val rfl rfl rfl (rIdx (sz := 2) rfl Tryd.underlying26 (by kernel_rfl) rfl rfl (by omega)) ?_ | refine WL_skip rfl rfl rfl ?_
        first | refine WL_val rfl rfl rfl (by first | exact rFldN (off := 1) rfl (by kernel_rfl) rfl | exact rFld (off := 1) rfl (by kernel_rfl) rfl) ?_ | refine WL_skip rfl rfl rfl ?_
        first | refine WL_val rfl rfl rfl (by first | exact rLd (v := .bool _) rfl (by kernel_rfl) rfl (by first | exact hI.c0 rfl | exact hI.c1 rfl | exact hI.c2 rfl | exact hI.oldp p2 | exact p2) | exact rLd rfl (by kernel_rfl) rfl (by first | exact hI.c0 rfl | exact hI.c1 rfl | exact hI.c2 rfl | exact hI.oldp p2 | exact p2)) ?_ | refine WL_skip rfl rfl rfl ?_
        first | refine WL_val rfl rfl rfl (by first | exact rNotT rfl rfl | exact rNotF rfl rfl | exact rNot rfl rfl) ?_ | refine WL_skip rfl rfl rfl ?_
        refine WL_val rfl rfl rfl (by first | exact rPickTB rfl rfl rfl | exact rPickFB rfl rfl rfl | exact rPickB rfl rfl rfl rfl) ?_
        refine WL_nil ?_
        refine W_cond false rfl ?_
        refine W_skip ?_
        refine W_seq_cut (fun ρ w => Has ρ [(9, .int .i64 x), (8, .int .i64 i), (6, .slice (some ⟨b39, 0, none⟩) (8 : Nat) (8 : Nat)), (5, .slice (some ⟨gb, 0, none⟩) r.length c'), (1, .pointer (some ⟨b1, 0, none⟩))] ∧ Inv (fun _ => False) w0 w [B b39 3 (arr8 F), Rw (some ⟨gb, 0, none⟩) r, B b1 29 #[.slice (some ⟨b, f, none⟩) n c, .slice A2 n2 c2]]) ?_ ?_
        · refine W_seq ?_
          refine W_region ?_
          refine WL_val rfl rfl rfl (by first | exact rAsgnI rfl rfl | exact rAsgn rfl) ?_
          refine WL_nil ?_
          refine W_block ?_
          refine W_loop (fun ρ w => ∃ j : Nat, j ≤ tx.ops.length ∧ Has ρ ((10, .int .i64 j) :: [(9, .int .i64 x), (8, .int .i64 i), (6, .slice (some ⟨b39, 0, none⟩) (8 : Nat) (8 : Nat)), (5, .slice (some ⟨gb, 0, none⟩) r.length c'), (1, .pointer (some ⟨b1, 0, none⟩))]) ∧ Inv (fun _ => False) w0 w [B b39 3 (arr8 F), Rw (some ⟨gb, 0, none⟩) r, B b1 29 #[.slice (some ⟨b, f, none⟩) n c, .slice A2 n2 c2]]) (fun ρ _ => tx.ops.length - cnt (ρ 10))
            ⟨0, by omega, ⟨rfl, rfl, rfl, rfl, rfl, rfl, trivial⟩, hI⟩ ?_
          clear hI
          rintro ρ w ⟨j, hj, hH, hI⟩
          obtain ⟨σ, rfl⟩ := hH.open
          by_cases hjm : j < tx.ops.length
          · obtain ⟨o, ho⟩ : ∃ o, tx.ops[j]? = some o := ⟨_, List.getElem?_eq_getElem hjm⟩
            obtain ⟨bo, fo, rfl, q0, q1, q2, q3, q4⟩ := p5.get ho
            have hol := hlx o (List.mem_of_getElem? ho)
            have hkb := (hTX.2 o (List.mem_of_getElem? ho)).1
            obtain ⟨ow, ok, os, on⟩ := o
            dsimp only at q1 q2 q3 q4 hol hkb
            obtain ⟨kn, rfl⟩ : ∃ kn : Nat, ok = kn := ⟨ok.toNat, by omega⟩
            have hck := arr8_get F (j := kn) (by omega)
            have hFk : F kn = lastV t (r.take i) (kn : Int) := by rw [← hF]
            rw [← hFk] at hol
            refine W_seq ?_
            refine W_seq ?_
            refine W_region ?_
            refine WL_val rfl rfl rfl (by first | exact rMoveI rfl rfl | exact rMove rfl) ?_
            refine WL_val rfl rfl rfl (by first | exact rFldN (off := 0) rfl (by kernel_rfl) rfl | exact rFld0 rfl (by kernel_rfl) rfl) ?_
            refine WL_val rfl rfl rfl (by first | exact rLd (v := .slice _ _ _) rfl (by kernel_rfl) rfl (by first | exact hI.c0 rfl | exact hI.c1 rfl | exact hI.c2 rfl | exact hI.oldp p1 | exact p1) | exact rLd rfl (by kernel_rfl) rfl (by first | exact hI.c0 rfl | exact hI.c1 rfl | exact hI.c2 rfl | exact hI.oldp p1 | exact p1)) ?_
            refine WL_val rfl rfl rfl (by first | exact rMoveI rfl rfl | exact rMove rfl) ?_
            refine WL_val rfl rfl rfl (rIdx (sz := 2) rfl Tryd.underlying26 (by kernel_rfl) rfl rfl (by omega)) ?_
            refine WL_val rfl rfl rfl (by first | exact rFldN (off := 0) rfl (by kernel_rfl) rfl | exact rFld0 rfl (by kernel_rfl) rfl) ?_
            refine WL_val rfl rfl rfl (by first | exact rLd (v := .slice _ _ _) rfl (by kernel_rfl) rfl (by first | exact hI.c0 rfl | exact hI.c1 rfl | exact hI.c2 rfl | exact hI.oldp p1 | exact p1) | exact rLd rfl (by kernel_rfl) rfl (by first | exact hI.c0 rfl | exact hI.c1 rfl | exact hI.c2 rfl | exact hI.oldp p1 | exact p1)) ?_
            refine WL_val rfl rfl rfl (rLen rfl Tryd.underlying65 rfl) ?_
            refine WL_val rfl rfl rfl (by first | exact rLssT rfl rfl rfl (by omega) | exact rLssF rfl rfl rfl (by omega) | exact rLss rfl rfl rfl) ?_
            refine WL_nil ?_
            refine W_cond true rfl ?_
            refine W_skip ?_
            refine W_seq ?_
            refine W_block ?_
            refine W_seq ?_
            refine W_region ?_
            refine WL_val rfl rfl rfl (by first | exact rFldN (off := 0) rfl (by kernel_rfl) rfl | exact rFld0 rfl (by kernel_rfl) rfl) ?_
            refine WL_val rfl rfl rfl (by first | exact rLd (v := .slice _ _ _) rfl (by kernel_rfl) rfl (by first | exact hI.c0 rfl | exact hI.c1 rfl | exact hI.c2 rfl | exact hI.oldp p1 | exact p1 | exact hI.oldp q1 | exact q1 | exact hI.oldp q2 | exact q2 | exact hI.oldp q3 | exact q3 | exact hI.oldp q4 | exact q4) | exact rLd rfl (by kernel_rfl) rfl (by first | exact hI.c0 rfl | exact hI.c1 rfl | exact hI.c2 rfl | exact hI.oldp p1 | exact p1 | exact hI.oldp q1 | exact q1 | exact hI.oldp q2 | exact q2 | exact hI.oldp q3 | exact q3 | exact hI.oldp q4 | exact q4)) ?_
            refine WL_val rfl rfl rfl (by first | exact rMoveI rfl rfl | exact rMove rfl) ?_
            refine WL_val rfl rfl rfl (rIdx (sz := 2) rfl Tryd.underlying26 (by kernel_rfl) rfl rfl (by omega)) ?_
            refine WL_val rfl rfl rfl (by first | exact rFldN (off := 0) rfl (by kernel_rfl) rfl | exact rFld0 rfl (by kernel_rfl) rfl) ?_
            refine WL_val rfl rfl rfl (by first | exact rLd (v := .slice _ _ _) rfl (by kernel_rfl) rfl (by first | exact hI.c0 rfl | exact hI.c1 rfl | exact hI.c2 rfl | exact hI.oldp p1 | exact p1 | exact hI.oldp q1 | exact q1 | exact hI.oldp q2 | exact q2 | exact hI.oldp q3 | exact q3 | exact hI.oldp q4 | exact q4) | exact rLd rfl (by kernel_rfl) rfl (by first | exact hI.c0 rfl | exact hI.c1 rfl | exact hI.c2 rfl | exact hI.oldp p1 | exact p1 | exact hI.oldp q1 | exact q1 | exact hI.oldp q2 | exact q2 | exact hI.oldp q3 | exact q3 | exact hI.oldp q4 | exact q4)) ?_
            refine WL_val rfl rfl rfl (by first | exact rMoveI rfl rfl | exact rMove rfl) ?_
            refine WL_val rfl rfl rfl (rIdx (sz := 4) rfl Tryd.underlying65 (by kernel_rfl) rfl rfl (by omega)) ?_
            refine WL_val rfl rfl rfl (by first | exact rLdB (n := 4) rfl (by kernel_rfl) (by kernel_rfl) rfl rfl hI.g0 | exact rLdB (n := 4) rfl (by kernel_rfl) (by kernel_rfl) rfl rfl hI.g1 | exact rLdB (n := 4) rfl (by kernel_rfl) (by kernel_rfl) rfl rfl hI.g2 | exact rLd4 rfl (by kernel_rfl) (by kernel_rfl) rfl (by first | exact hI.c0 rfl | exact hI.c1 rfl | exact hI.c2 rfl | exact hI.oldp p1 | exact p1 | exact hI.oldp q1 | exact q1 | exact hI.oldp q2 | exact q2 | exact hI.oldp q3 | exact q3 | exact hI.oldp q4 | exact q4) (by first | exact hI.c0 rfl | exact hI.c1 rfl | exact hI.c2 rfl | exact hI.oldp p1 | exact p1 | exact hI.oldp q1 | exact q1 | exact hI.oldp q2 | exact q2 | exact hI.oldp q3 | exact q3 | exact hI.oldp q4 | exact q4) (by first | exact hI.c0 rfl | exact hI.c1 rfl | exact hI.c2 rfl | exact hI.oldp p1 | exact p1 | exact hI.oldp q1 | exact q1 | exact hI.oldp q2 | exact q2 | exact hI.oldp q3 | exact q3 | exact hI.oldp q4 | exact q4) (by first | exact hI.c0 rfl | exact hI.c1 rfl | exact hI.c2 rfl | exact hI.oldp p1 | exact p1 | exact hI.oldp q1 | exact q1 | exact hI.oldp q2 | exact q2 | exact hI.oldp q3 | exact q3 | exact hI.oldp q4 | exact q4)) ?_
            refine WL_alloc (u := .agg #[.bool false, .int .i64 0, .int .i64 0, .int .i64 0]) (vs := #[.bool false, .int .i64 0, .int .i64 0, .int .i64 0]) hI rfl rfl rfl rfl (by kernel_rfl) rfl ?_
            clear hI; rintro b11 w - - hI
            first | refine WL_stw0 (u := .agg _) (vs := #[_, _, _, _]) (n := 4) hI rfl rfl rfl rfl rfl rfl (by kernel_rfl) rfl rfl rfl ?_ | refine WL_stw1 (u := .agg _) (vs := #[_, _, _, _]) (n := 4) hI rfl rfl rfl rfl rfl rfl (by kernel_rfl) rfl rfl rfl ?_ | refine WL_stw2 (u := .agg _) (vs := #[_, _, _, _]) (n := 4) hI rfl rfl rfl rfl rfl rfl (by kernel_rfl) rfl rfl rfl ?_
            clear hI; intro w hI
            refine WL_nil ?_
            cases ow
            · by_cases hos : os = (x : Int)
              · refine W_seq ?_
                refine W_draw (by kernel_rfl) ?_
                refine WA_inv (T := []) hI.drew ?_
                intro Sx hSx hXS
                replace hI := hI.drew
                refine WT_take 0 rfl rfl (by kernel_rfl) (hXS _ hI) rfl (fun W hW => have hI := hSx W hW; (by first | exact rFldN (off := 0) rfl (by kernel_rfl) rfl | exact rFld0 rfl (by kernel_rfl) rfl)) ?_
                refine WT_take 1 rfl rfl (by kernel_rfl) (hXS _ hI) rfl (fun W hW => have hI := hSx W hW; (by first | exact rLd (v := .bool _) rfl (by kernel_rfl) rfl (by first | exact hI.c0 rfl | exact hI.c1 rfl | exact hI.c2 rfl | exact hI.c3 rfl) | exact rLd rfl (by kernel_rfl) rfl (by first | exact hI.c0 rfl | exact hI.c1 rfl | exact hI.c2 rfl | exact hI.c3 rfl))) ?_
                refine WT_take 2 rfl rfl (by kernel_rfl) (hXS _ hI) rfl (fun W hW => have hI := hSx W hW; (by first | exact rNotT rfl rfl | exact rNotF rfl rfl | exact rNot rfl rfl)) ?_
                refine WT_take 3 rfl rfl (by kernel_rfl) (hXS _ hI) rfl (fun W hW => have hI := hSx W hW; (by first | exact rMoveB rfl rfl | exact rMove rfl)) ?_
                first | refine WT_take 4 rfl rfl (by kernel_rfl) (hXS _ hI) rfl (fun W hW => have hI := hSx W hW; (by first | exact rFldN (off := 2) rfl (by kernel_rfl) rfl | exact rFld (off := 2) rfl (by kernel_rfl) rfl)) ?_ | refine WT_skip 4 rfl rfl (by kernel_rfl) (hXS _ hI) rfl ?_
                first | refine WT_take 5 rfl rfl (by kernel_rfl) (hXS _ hI) rfl (fun W hW => have hI := hSx W hW; (by first | exact rLd (v := .int .i64 _) rfl (by kernel_rfl) rfl (by first | exact hI.c0 rfl | exact hI.c1 rfl | exact hI.c2 rfl | exact hI.c3 rfl) | exact rLd rfl (by kernel_rfl) rfl (by first | exact hI.c0 rfl | exact hI.c1 rfl | exact hI.c2 rfl | exact hI.c3 rfl))) ?_ | refine WT_skip 5 rfl rfl (by kernel_rfl) (hXS _ hI) rfl ?_
                first | refine WT_take 6 rfl rfl (by kernel_rfl) (hXS _ hI) rfl (fun W hW => have hI := hSx W hW; (by first | exact rMoveI rfl rfl | exact rMove rfl)) ?_ | refine WT_skip 6 rfl rfl (by kernel_rfl) (hXS _ hI) rfl ?_
                first | refine WT_take 7 rfl rfl (by kernel_rfl) (hXS _ hI) rfl (fun W hW => have hI := hSx W hW; (by first | exact rNeqT rfl rfl rfl (by omega) | exact rNeqF rfl rfl rfl (by omega) | exact rNeq rfl rfl rfl)) ?_ | refine WT_skip 7 rfl rfl (by kernel_rfl) (hXS _ hI) rfl ?_
                refine WT_take 8 rfl rfl (by kernel_rfl) (hXS _ hI) rfl (fun W hW => have hI := hSx W hW; (by first | exact rPickTB rfl rfl rfl | exact rPickFB rfl rfl rfl | exact rPickB rfl rfl rfl rfl)) ?_
                refine WT_take 9 rfl rfl (by kernel_rfl) (hXS _ hI) rfl (fun W hW => have hI := hSx W hW; (by first | exact rMoveB rfl rfl | exact rMove rfl)) ?_
                refine WT_skip 10 rfl rfl (by kernel_rfl) (hXS _ hI) rfl ?_
                refine WT_skip 11 rfl rfl (by kernel_rfl) (hXS _ hI) rfl ?_
                refine WT_skip 12 rfl rfl (by kernel_rfl) (hXS _ hI) rfl ?_
                refine WT_skip 13 rfl rfl (by kernel_rfl) (hXS _ hI) rfl ?_
                refine WT_skip 14 rfl rfl (by kernel_rfl) (hXS _ hI) rfl ?_
                refine WT_skip 15 rfl rfl (by kernel_rfl) (hXS _ hI) rfl ?_
                refine WT_skip 16 rfl rfl (by kernel_rfl) (hXS _ hI) rfl ?_
                refine WT_skip 17 rfl rfl (by kernel_rfl) (hXS _ hI) rfl ?_
                refine WT_take 18 rfl rfl (by kernel_rfl) (hXS _ hI) rfl (fun W hW => have hI := hSx W hW; (by first | exact rPickTB rfl rfl rfl | exact rPickFB rfl rfl rfl | exact rPickB rfl rfl rfl rfl)) ?_
                refine WT_end (by kernel_rfl) ?_
                refine W_cond false rfl ?_
                refine W_skip ?_
                refine W_region ?_
                refine WL_val rfl rfl rfl (by first | exact rMoveI rfl rfl | exact rMove rfl) ?_
                refine WL_val rfl rfl rfl (by first | exact rInc rfl rfl rfl (by omega) | exact rAdd rfl rfl rfl (by omega) | exact rAddW rfl rfl rfl) ?_
                refine WL_val rfl rfl rfl (by first | exact rAsgnI rfl rfl | exact rAsgn rfl) ?_
                refine WL_nil ?_
                exact ⟨⟨j + 1, by omega, ⟨rfl, rfl, rfl, rfl, rfl, rfl, trivial⟩, hI.d0⟩, by show tx.ops.length - ((j + 1 : Nat) : Int).toNat < tx.ops.length - (j : Int).toNat; omega⟩
              · have hlast := hol rfl hos
                refine W_seq ?_
                refine W_draw (by kernel_rfl) ?_
                refine WA_inv (T := []) hI.drew ?_
                intro Sx hSx hXS
                replace hI := hI.drew
                refine WT_take 0 rfl rfl (by kernel_rfl) (hXS _ hI) rfl (fun W hW => have hI := hSx W hW; (by first | exact rFldN (off := 0) rfl (by kernel_rfl) rfl | exact rFld0 rfl (by kernel_rfl) rfl)) ?_
                refine WT_take 1 rfl rfl (by kernel_rfl) (hXS _ hI) rfl (fun W hW => have hI := hSx W hW; (by first | exact rLd (v := .bool _) rfl (by kernel_rfl) rfl (by first | exact hI.c0 rfl | exact hI.c1 hck) | exact rLd rfl (by kernel_rfl) rfl (by first | exact hI.c0 rfl | exact hI.c1 hck))) ?_
                refine WT_take 2 rfl rfl (by kernel_rfl) (hXS _ hI) rfl (fun W hW => have hI := hSx W hW; (by first | exact rNotT rfl rfl | exact rNotF rfl rfl | exact rNot rfl rfl)) ?_
                refine WT_take 3 rfl rfl (by kernel_rfl) (hXS _ hI) rfl (fun W hW => have hI := hSx W hW; (by first | exact rMoveB rfl rfl | exact rMove rfl)) ?_
                first | refine WT_take 4 rfl rfl (by kernel_rfl) (hXS _ hI) rfl (fun W hW => have hI := hSx W hW; (by first | exact rFldN (off := 2) rfl (by kernel_rfl) rfl | exact rFld (off := 2) rfl (by kernel_rfl) rfl)) ?_ | refine WT_skip 4 rfl rfl (by kernel_rfl) (hXS _ hI) rfl ?_
                first | refine WT_take 5 rfl rfl (by kernel_rfl) (hXS _ hI) rfl (fun W hW => have hI := hSx W hW; (by first | exact rLd (v := .int .i64 _) rfl (by kernel_rfl) rfl (by first | exact hI.c0 rfl | exact hI.c1 hck) | exact rLd rfl (by kernel_rfl) rfl (by first | exact hI.c0 rfl | exact hI.c1 hck))) ?_ | refine WT_skip 5 rfl rfl (by kernel_rfl) (hXS _ hI) rfl ?_
                first | refine WT_take 6 rfl rfl (by kernel_rfl) (hXS _ hI) rfl (fun W hW => have hI := hSx W hW; (by first | exact rMoveI rfl rfl | exact rMove rfl)) ?_ | refine WT_skip 6 rfl rfl (by kernel_rfl) (hXS _ hI) rfl ?_
                first | refine WT_take 7 rfl rfl (by kernel_rfl) (hXS _ hI) rfl (fun W hW => have hI := hSx W hW; (by first | exact rNeqT rfl rfl rfl (by omega) | exact rNeqF rfl rfl rfl (by omega) | exact rNeq rfl rfl rfl)) ?_ | refine WT_skip 7 rfl rfl (by kernel_rfl) (hXS _ hI) rfl ?_
                refine WT_take 8 rfl rfl (by kernel_rfl) (hXS _ hI) rfl (fun W hW => have hI := hSx W hW; (by first | exact rPickTB rfl rfl rfl | exact rPickFB rfl rfl rfl | exact rPickB rfl rfl rfl rfl)) ?_
                refine WT_take 9 rfl rfl (by kernel_rfl) (hXS _ hI) rfl (fun W hW => have hI := hSx W hW; (by first | exact rMoveB rfl rfl | exact rMove rfl)) ?_
                first | refine WT_take 10 rfl rfl (by kernel_rfl) (hXS _ hI) rfl (fun W hW => have hI := hSx W hW; (by first | exact rFldN (off := 2) rfl (by kernel_rfl) rfl | exact rFld (off := 2) rfl (by kernel_rfl) rfl)) ?_ | refine WT_skip 10 rfl rfl (by kernel_rfl) (hXS _ hI) rfl ?_
                first | refine WT_take 11 rfl rfl (by kernel_rfl) (hXS _ hI) rfl (fun W hW => have hI := hSx W hW; (by first | exact rLd (v := .int .i64 _) rfl (by kernel_rfl) rfl (by first | exact hI.c0 rfl | exact hI.c1 hck) | exact rLd rfl (by kernel_rfl) rfl (by first | exact hI.c0 rfl | exact hI.c1 hck))) ?_ | refine WT_skip 11 rfl rfl (by kernel_rfl) (hXS _ hI) rfl ?_
                first | refine WT_take 12 rfl rfl (by kernel_rfl) (hXS _ hI) rfl (fun W hW => have hI := hSx W hW; (by first | exact rMoveS rfl rfl | exact rMove rfl)) ?_ | refine WT_skip 12 rfl rfl (by kernel_rfl) (hXS _ hI) rfl ?_
                first | refine WT_take 13 rfl rfl (by kernel_rfl) (hXS _ hI) rfl (fun W hW => have hI := hSx W hW; (by first | exact rFldN (off := 1) rfl (by kernel_rfl) rfl | exact rFld (off := 1) rfl (by kernel_rfl) rfl)) ?_ | refine WT_skip 13 rfl rfl (by kernel_rfl) (hXS _ hI) rfl ?_
                first | refine WT_take 14 rfl rfl (by kernel_rfl) (hXS _ hI) rfl (fun W hW => have hI := hSx W hW; (by first | exact rLd (v := .int .i64 _) rfl (by kernel_rfl) rfl (by first | exact hI.c0 rfl | exact hI.c1 hck) | exact rLd rfl (by kernel_rfl) rfl (by first | exact hI.c0 rfl | exact hI.c1 hck))) ?_ | refine WT_skip 14 rfl rfl (by kernel_rfl) (hXS _ hI) rfl ?_
                first | refine WT_take 15 rfl rfl (by kernel_rfl) (hXS _ hI) rfl (fun W hW => have hI := hSx W hW; (by first | exact rIdx0 rfl Tryd.underlying33 (by kernel_rfl) rfl rfl rfl (by omega) | exact rIdx1 rfl Tryd.underlying33 (by kernel_rfl) rfl rfl (by omega))) ?_ | refine WT_skip 15 rfl rfl (by kernel_rfl) (hXS _ hI) rfl ?_
                first | refine WT_take 16 rfl rfl (by kernel_rfl) (hXS _ hI) rfl (fun W hW => have hI := hSx W hW; (by first | exact rLd (v := .int .i64 _) rfl (by kernel_rfl) rfl (by first | exact hI.c0 rfl | exact hI.c1 hck) | exact rLd rfl (by kernel_rfl) rfl (by first | exact hI.c0 rfl | exact hI.c1 hck))) ?_ | refine WT_skip 16 rfl rfl (by kernel_rfl) (hXS _ hI) rfl ?_
                first | refine WT_take 17 rfl rfl (by kernel_rfl) (hXS _ hI) rfl (fun W hW => have hI := hSx W hW; (by first | exact rNeqT rfl rfl rfl (by omega) | exact rNeqF rfl rfl rfl (by omega) | exact rNeq rfl rfl rfl)) ?_ | refine WT_skip 17 rfl rfl (by kernel_rfl) (hXS _ hI) rfl ?_
                refine WT_take 18 rfl rfl (by kernel_rfl) (hXS _ hI) rfl (fun W hW => have hI := hSx W hW; (by first | exact rPickTB rfl rfl rfl | exact rPickFB rfl rfl rfl | exact rPickB rfl rfl rfl rfl)) ?_
                refine WT_end (by kernel_rfl) ?_
                refine W_cond false rfl ?_
                refine W_skip ?_
                refine W_region ?_
                refine WL_val rfl rfl rfl (by first | exact rMoveI rfl rfl | exact rMove rfl) ?_
                refine WL_val rfl rfl rfl (by first | exact rInc rfl rfl rfl (by omega) | exact rAdd rfl rfl rfl (by omega) | exact rAddW rfl rfl rfl) ?_
                refine WL_val rfl rfl rfl (by first | exact rAsgnI rfl rfl | exact rAsgn rfl) ?_
                refine WL_nil ?_
                exact ⟨⟨j + 1, by omega, ⟨rfl, rfl, rfl, rfl, rfl, rfl, trivial⟩, hI.d0⟩, by show tx.ops.length - ((j + 1 : Nat) : Int).toNat < tx.ops.length - (j : Int).toNat; omega⟩
            · refine W_seq ?_
              refine W_draw (by kernel_rfl) ?_
              refine WA_inv (T := []) hI.drew ?_
              intro Sx hSx hXS
              replace hI := hI.drew
              refine WT_take 0 rfl rfl (by kernel_rfl) (hXS _ hI) rfl (fun W hW => have hI := hSx W hW; (by first | exact rFldN (off := 0) rfl (by kernel_rfl) rfl | exact rFld0 rfl (by kernel_rfl) rfl)) ?_
              refine WT_take 1 rfl rfl (by kernel_rfl) (hXS _ hI) rfl (fun W hW => have hI := hSx W hW; (by first | exact rLd (v := .bool _) rfl (by kernel_rfl) rfl (by first | exact hI.c0 rfl | exact hI.c1 rfl | exact hI.c2 rfl | exact hI.c3 rfl) | exact rLd rfl (by kernel_rfl) rfl (by first | exact hI.c0 rfl | exact hI.c1 rfl | exact hI.c2 rfl | exact hI.c3 rfl))) ?_
              refine WT_take 2 rfl rfl (by kernel_rfl) (hXS _ hI) rfl (fun W hW => have hI := hSx W hW; (by first | exact rNotT rfl rfl | exact rNotF rfl rfl | exact rNot rfl rfl)) ?_
              refine WT_take 3 rfl rfl (by kernel_rfl) (hXS _ hI) rfl (fun W hW => have hI := hSx W hW; (by first | exact rMoveB rfl rfl | exact rMove rfl)) ?_
              refine WT_skip 4 rfl rfl (by kernel_rfl) (hXS _ hI) rfl ?_
              refine WT_skip 5 rfl rfl (by kernel_rfl) (hXS _ hI) rfl ?_
              refine WT_skip 6 rfl rfl (by kernel_rfl) (hXS _ hI) rfl ?_
              refine WT_skip 7 rfl rfl (by kernel_rfl) (hXS _ hI) rfl ?_
              refine WT_take 8 rfl rfl (by kernel_rfl) (hXS _ hI) rfl (fun W hW => have hI := hSx W hW; (by first | exact rPickTB rfl rfl rfl | exact rPickFB rfl rfl rfl | exact rPickB rfl rfl rfl rfl)) ?_
              refine WT_take 9 rfl rfl (by kernel_rfl) (hXS _ hI) rfl (fun W hW => have hI := hSx W hW; (by first | exact rMoveB rfl rfl | exact rMove rfl)) ?_
              refine WT_skip 10 rfl rfl (by kernel_rfl) (hXS _ hI) rfl ?_
              refine WT_skip 11 rfl rfl (by kernel_rfl) (hXS _ hI) rfl ?_
              refine WT_skip 12 rfl rfl (by kernel_rfl) (hXS _ hI) rfl ?_
              refine WT_skip 13 rfl rfl (by kernel_rfl) (hXS _ hI) rfl ?_
              refine WT_skip 14 rfl rfl (by kernel_rfl) (hXS _ hI) rfl ?_
              refine WT_skip 15 rfl rfl (by kernel_rfl) (hXS _ hI) rfl ?_
              refine WT_skip 16 rfl rfl (by kernel_rfl) (hXS _ hI) rfl ?_
              refine WT_skip 17 rfl rfl (by kernel_rfl) (hXS _ hI) rfl ?_
              refine WT_take 18 rfl rfl (by kernel_rfl) (hXS _ hI) rfl (fun W hW => have hI := hSx W hW; (by first | exact rPickTB rfl rfl rfl | exact rPickFB rfl rfl rfl | exact rPickB rfl rfl rfl rfl)) ?_
              refine WT_end (by kernel_rfl) ?_
              refine W_cond false rfl ?_
              refine W_skip ?_
              refine W_region ?_
              refine WL_val rfl rfl rfl (by first | exact rMoveI rfl rfl | exact rMove rfl) ?_
              refine WL_val rfl rfl rfl (by first | exact rInc rfl rfl rfl (by omega) | exact rAdd rfl rfl rfl (by omega) | exact rAddW rfl rfl rfl) ?_
              refine WL_val rfl rfl rfl (by first | exact rAsgnI rfl rfl | exact rAsgn rfl) ?_
              refine WL_nil ?_
              exact ⟨⟨j + 1, by omega, ⟨rfl, rfl, rfl, rfl, rfl, rfl, trivial⟩, hI.d0⟩, by show tx.ops.length - ((j + 1 : Nat) : Int).toNat < tx.ops.length - (j : Int).toNat; omega⟩
          · refine W_seq ?_
            refine W_seq ?_
            refine W_region ?_
            refine WL_val rfl rfl rfl (by first | exact rMoveI rfl rfl | exact rMove rfl) ?_
            refine WL_val rfl rfl rfl (by first | exact rFldN (off := 0) rfl (by kernel_rfl) rfl | exact rFld0 rfl (by kernel_rfl) rfl) ?_
            refine WL_val rfl rfl rfl (by first | exact rLd (v := .slice _ _ _) rfl (by kernel_rfl) rfl (by first | exact hI.c0 rfl | exact hI.c1 rfl | exact hI.c2 rfl | exact hI.oldp p1 | exact p1) | exact rLd rfl (by kernel_rfl) rfl (by first | exact hI.c0 rfl | exact hI.c1 rfl | exact hI.c2 rfl | exact hI.oldp p1 | exact p1)) ?_
            refine WL_val rfl rfl rfl (by first | exact rMoveI rfl rfl | exact rMove rfl) ?_
            refine WL_val rfl rfl rfl (rIdx (sz := 2) rfl Tryd.underlying26 (by kernel_rfl) rfl rfl (by omega)) ?_
            refine WL_val rfl rfl rfl (by first | exact rFldN (off := 0) rfl (by kernel_rfl) rfl | exact rFld0 rfl (by kernel_rfl) rfl) ?_
            refine WL_val rfl rfl rfl (by first | exact rLd (v := .slice _ _ _) rfl (by kernel_rfl) rfl (by first | exact hI.c0 rfl | exact hI.c1 rfl | exact hI.c2 rfl | exact hI.oldp p1 | exact p1) | exact rLd rfl (by kernel_rfl) rfl (by first | exact hI.c0 rfl | exact hI.c1 rfl | exact hI.c2 rfl | exact hI.oldp p1 | exact p1)) ?_
            refine WL_val rfl rfl rfl (rLen rfl Tryd.underlying65 rfl) ?_
            refine WL_val rfl rfl rfl (by first | exact rLssT rfl rfl rfl (by omega) | exact rLssF rfl rfl rfl (by omega) | exact rLss rfl rfl rfl) ?_
            refine WL_nil ?_
            refine W_cond false rfl ?_
            refine W_exit ?_
            exact ⟨⟨rfl, rfl, rfl, rfl, rfl, trivial⟩, hI⟩
        · clear hI
          rintro ρ w ⟨hH, hI⟩
          obtain ⟨σ, rfl⟩ := hH.open
          refine W_seq ?_
          refine W_region ?_
          refine WL_val rfl rfl rfl (by first | exact rAsgnI rfl rfl | exact rAsgn rfl) ?_
          refine WL_nil ?_
          refine W_block ?_
          refine W_loop (fun ρ w => ∃ j : Nat, j ≤ tx.ops.length ∧ Has ρ ((12, .int .i64 j) :: [(9, .int .i64 x), (8, .int .i64 i), (6, .slice (some ⟨b39, 0, none⟩) (8 : Nat) (8 : Nat)), (5, .slice (some ⟨gb, 0, none⟩) r.length c'), (1, .pointer (some ⟨b1, 0, none⟩))]) ∧ Inv (fun _ => False) w0 w [B b39 3 (arr8 (stepV t tx.ops x F j)), Rw (some ⟨gb, 0, none⟩) r, B b1 29 #[.slice (some ⟨b, f, none⟩) n c, .slice A2 n2 c2]]) (fun ρ _ => tx.ops.length - cnt (ρ 12))
            ⟨0, by omega, ⟨rfl, rfl, rfl, rfl, rfl, rfl, trivial⟩, hI⟩ ?_
          clear hI
          rintro ρ w ⟨j, hj, hH, hI⟩
          obtain ⟨σ, rfl⟩ := hH.open
          by_cases hjm : j < tx.ops.length
          · obtain ⟨o, ho⟩ : ∃ o, tx.ops[j]? = some o := ⟨_, List.getElem?_eq_getElem hjm⟩
            obtain ⟨bo, fo, rfl, q0, q1, q2, q3, q4⟩ := p5.get ho
            have hkb := (hTX.2 o (List.mem_of_getElem? ho)).1
            have hvt := fun key => versF_take ho key
            obtain ⟨ow, ok, os, on⟩ := o
            dsimp only at q1 q2 q3 q4 hkb hvt
            obtain ⟨kn, rfl⟩ : ∃ kn : Nat, ok = kn := ⟨ok.toNat, by omega⟩
            refine W_seq ?_
            refine W_seq ?_
            refine W_region ?_
            refine WL_val rfl rfl rfl (by first | exact rMoveI rfl rfl | exact rMove rfl) ?_
            refine WL_val rfl rfl rfl (by first | exact rFldN (off := 0) rfl (by kernel_rfl) rfl | exact rFld0 rfl (by kernel_rfl) rfl) ?_
            refine WL_val rfl rfl rfl (by first | exact rLd (v := .slice _ _ _) rfl (by kernel_rfl) rfl (by first | exact hI.c0 rfl | exact hI.c1 rfl | exact hI.c2 rfl | exact hI.oldp p1 | exact p1) | exact rLd rfl (by kernel_rfl) rfl (by first | exact hI.c0 rfl | exact hI.c1 rfl | exact hI.c2 rfl | exact hI.oldp p1 | exact p1)) ?_
            refine WL_val rfl rfl rfl (by first | exact rMoveI rfl rfl | exact rMove rfl) ?_
            refine WL_val rfl rfl rfl (rIdx (sz := 2) rfl Tryd.underlying26 (by kernel_rfl) rfl rfl (by omega)) ?_
            refine WL_val rfl rfl rfl (by first | exact rFldN (off := 0) rfl (by kernel_rfl) rfl | exact rFld0 rfl (by kernel_rfl) rfl) ?_
            refine WL_val rfl rfl rfl (by first | exact rLd (v := .slice _ _ _) rfl (by kernel_rfl) rfl (by first | exact hI.c0 rfl | exact hI.c1 rfl | exact hI.c2 rfl | exact hI.oldp p1 | exact p1) | exact rLd rfl (by kernel_rfl) rfl (by first | exact hI.c0 rfl | exact hI.c1 rfl | exact hI.c2 rfl | exact hI.oldp p1 | exact p1)) ?_
            refine WL_val rfl rfl rfl (rLen rfl Tryd.underlying65 rfl) ?_
            refine WL_val rfl rfl rfl (by first | exact rLssT rfl rfl rfl (by omega) | exact rLssF rfl rfl rfl (by omega) | exact rLss rfl rfl rfl) ?_
            refine WL_nil ?_
            refine W_cond true rfl ?_
            refine W_skip ?_
            refine W_seq ?_
            refine W_block ?_
            refine W_seq ?_
            refine W_region ?_
            refine WL_val rfl rfl rfl (by first | exact rFldN (off := 0) rfl (by kernel_rfl) rfl | exact rFld0 rfl (by kernel_rfl) rfl) ?_
            refine WL_val rfl rfl rfl (by first | exact rLd (v := .slice _ _ _) rfl (by kernel_rfl) rfl (by first | exact hI.c0 rfl | exact hI.c1 rfl | exact hI.c2 rfl | exact hI.oldp p1 | exact p1 | exact hI.oldp q1 | exact q1 | exact hI.oldp q2 | exact q2 | exact hI.oldp q3 | exact q3 | exact hI.oldp q4 | exact q4) | exact rLd rfl (by kernel_rfl) rfl (by first | exact hI.c0 rfl | exact hI.c1 rfl | exact hI.c2 rfl | exact hI.oldp p1 | exact p1 | exact hI.oldp q1 | exact q1 | exact hI.oldp q2 | exact q2 | exact hI.oldp q3 | exact q3 | exact hI.oldp q4 | exact q4)) ?_
            refine WL_val rfl rfl rfl (by first | exact rMoveI rfl rfl | exact rMove rfl) ?_
            refine WL_val rfl rfl rfl (rIdx (sz := 2) rfl Tryd.underlying26 (by kernel_rfl) rfl rfl (by omega)) ?_
            refine WL_val rfl rfl rfl (by first | exact rFldN (off := 0) rfl (by kernel_rfl) rfl | exact rFld0 rfl (by kernel_rfl) rfl) ?_
            refine WL_val rfl rfl rfl (by first | exact rLd (v := .slice _ _ _) rfl (by kernel_rfl) rfl (by first | exact hI.c0 rfl | exact hI.c1 rfl | exact hI.c2 rfl | exact hI.oldp p1 | exact p1 | exact hI.oldp q1 | exact q1 | exact hI.oldp q2 | exact q2 | exact hI.oldp q3 | exact q3 | exact hI.oldp q4 | exact q4) | exact rLd rfl (by kernel_rfl) rfl (by first | exact hI.c0 rfl | exact hI.c1 rfl | exact hI.c2 rfl | exact hI.oldp p1 | exact p1 | exact hI.oldp q1 | exact q1 | exact hI.oldp q2 | exact q2 | exact hI.oldp q3 | exact q3 | exact hI.oldp q4 | exact q4)) ?_
            refine WL_val rfl rfl rfl (by first | exact rMoveI rfl rfl | exact rMove rfl) ?_
            refine WL_val rfl rfl rfl (rIdx (sz := 4) rfl Tryd.underlying65 (by kernel_rfl) rfl rfl (by omega)) ?_
            refine WL_val rfl rfl rfl (by first | exact rLdB (n := 4) rfl (by kernel_rfl) (by kernel_rfl) rfl rfl hI.g0 | exact rLdB (n := 4) rfl (by kernel_rfl) (by kernel_rfl) rfl rfl hI.g1 | exact rLdB (n := 4) rfl (by kernel_rfl) (by kernel_rfl) rfl rfl hI.g2 | exact rLd4 rfl (by kernel_rfl) (by kernel_rfl) rfl (by first | exact hI.c0 rfl | exact hI.c1 rfl | exact hI.c2 rfl | exact hI.oldp p1 | exact p1 | exact hI.oldp q1 | exact q1 | exact hI.oldp q2 | exact q2 | exact hI.oldp q3 | exact q3 | exact hI.oldp q4 | exact q4) (by first | exact hI.c0 rfl | exact hI.c1 rfl | exact hI.c2 rfl | exact hI.oldp p1 | exact p1 | exact hI.oldp q1 | exact q1 | exact hI.oldp q2 | exact q2 | exact hI.oldp q3 | exact q3 | exact hI.oldp q4 | exact q4) (by first | exact hI.c0 rfl | exact hI.c1 rfl | exact hI.c2 rfl | exact hI.oldp p1 | exact p1 | exact hI.oldp q1 | exact q1 | exact hI.oldp q2 | exact q2 | exact hI.oldp q3 | exact q3 | exact hI.oldp q4 | exact q4) (by first | exact hI.c0 rfl | exact hI.c1 rfl | exact hI.c2 rfl | exact hI.oldp p1 | exact p1 | exact hI.oldp q1 | exact q1 | exact hI.oldp q2 | exact q2 | exact hI.oldp q3 | exact q3 | exact hI.oldp q4 | exact q4)) ?_
            refine WL_alloc (u := .agg #[.bool false, .int .i64 0, .int .i64 0, .int .i64 0]) (vs := #[.bool false, .int .i64 0, .int .i64 0, .int .i64 0]) hI rfl rfl rfl rfl (by kernel_rfl) rfl ?_
            clear hI; rintro b13 w - - hI
            first | refine WL_stw0 (u := .agg _) (vs := #[_, _, _, _]) (n := 4) hI rfl rfl rfl rfl rfl rfl (by kernel_rfl) rfl rfl rfl ?_ | refine WL_stw1 (u := .agg _) (vs := #[_, _, _, _]) (n := 4) hI rfl rfl rfl rfl rfl rfl (by kernel_rfl) rfl rfl rfl ?_ | refine WL_stw2 (u := .agg _) (vs := #[_, _, _, _]) (n := 4) hI rfl rfl rfl rfl rfl rfl (by kernel_rfl) rfl rfl rfl ?_
            clear hI; intro w hI
            refine WL_nil ?_
            refine W_seq ?_
            refine W_region ?_
            refine WL_val rfl rfl rfl (by first | exact rFldN (off := 0) rfl (by kernel_rfl) rfl | exact rFld0 rfl (by kernel_rfl) rfl) ?_
            refine WL_val rfl rfl rfl (by first | exact rLd (v := .bool _) rfl (by kernel_rfl) rfl (by first | exact hI.c0 rfl) | exact rLd rfl (by kernel_rfl) rfl (by first | exact hI.c0 rfl)) ?_
            refine WL_nil ?_
            cases ow
            · refine W_cond false rfl ?_
              refine W_skip ?_
              refine W_region ?_
              refine WL_val rfl rfl rfl (by first | exact rMoveI rfl rfl | exact rMove rfl) ?_
              refine WL_val rfl rfl rfl (by first | exact rInc rfl rfl rfl (by omega) | exact rAdd rfl rfl rfl (by omega) | exact rAddW rfl rfl rfl) ?_
              refine WL_val rfl rfl rfl (by first | exact rAsgnI rfl rfl | exact rAsgn rfl) ?_
              refine WL_nil ?_
              refine ⟨⟨j + 1, by omega, ⟨rfl, rfl, rfl, rfl, rfl, rfl, trivial⟩, ?_⟩, by show tx.ops.length - ((j + 1 : Nat) : Int).toNat < tx.ops.length - (j : Int).toNat; omega⟩
              rw [arr8_congr (g := stepV t tx.ops x F j) (fun k _ => by unfold stepV; rw [hvt]; simp)]
              exact hI.d0
            · refine W_cond true rfl ?_
              refine W_region ?_
              refine WL_val rfl rfl rfl (by first | exact rMoveS rfl rfl | exact rMove rfl) ?_
              refine WL_val rfl rfl rfl (by first | exact rFldN (off := 1) rfl (by kernel_rfl) rfl | exact rFld (off := 1) rfl (by kernel_rfl) rfl) ?_
              refine WL_val rfl rfl rfl (by first | exact rLd (v := .int .i64 _) rfl (by kernel_rfl) rfl (by first | exact hI.c0 rfl) | exact rLd rfl (by kernel_rfl) rfl (by first | exact hI.c0 rfl)) ?_
              refine WL_val rfl rfl rfl (by first | exact rMoveI rfl rfl | exact rMove rfl) ?_
              refine WL_val rfl rfl rfl (by first | exact rIdx0 rfl Tryd.underlying33 (by kernel_rfl) rfl rfl rfl (by omega) | exact rIdx1 rfl Tryd.underlying33 (by kernel_rfl) rfl rfl (by omega)) ?_
              refine WL_st1 (u := .int .i64 _) (j := kn) hI rfl rfl rfl rfl rfl rfl (by kernel_rfl) rfl (by rw [arr8_size]; simp [Nat.blt]; omega) rfl ?_
              clear hI; intro w hI
              refine WL_nil ?_
              refine W_region ?_
              refine WL_val rfl rfl rfl (by first | exact rMoveI rfl rfl | exact rMove rfl) ?_
              refine WL_val rfl rfl rfl (by first | exact rInc rfl rfl rfl (by omega) | exact rAdd rfl rfl rfl (by omega) | exact rAddW rfl rfl rfl) ?_
              refine WL_val rfl rfl rfl (by first | exact rAsgnI rfl rfl | exact rAsgn rfl) ?_
              refine WL_nil ?_
              refine ⟨⟨j + 1, by omega, ⟨rfl, rfl, rfl, rfl, rfl, rfl, trivial⟩, ?_⟩, by show tx.ops.length - ((j + 1 : Nat) : Int).toNat < tx.ops.length - (j : Int).toNat; omega⟩
              rw [arr8_set] at hI
              rw [arr8_congr (g := fun i => if i = kn then (x : Int) else stepV t tx.ops x F j i) (fun k _ => by
                unfold stepV
                rw [hvt]
                by_cases hkk : k = kn
                · subst hkk
                  rw [if_pos rfl, if_pos (by simp)]
                · have : ¬ (kn : Int) = (k : Int) := by omega
                  simp [hkk, this])]
              exact hI.d0
          · obtain rfl : j = tx.ops.length := by omega
            refine W_seq ?_
            refine W_seq ?_
            refine W_region ?_
            refine WL_val rfl rfl rfl (by first | exact rMoveI rfl rfl | exact rMove rfl) ?_
            refine WL_val rfl rfl rfl (by first | exact rFldN (off := 0) rfl (by kernel_rfl) rfl | exact rFld0 rfl (by kernel_rfl) rfl) ?_
            refine WL_val rfl rfl rfl (by first | exact rLd (v := .slice _ _ _) rfl (by kernel_rfl) rfl (by first | exact hI.c0 rfl | exact hI.c1 rfl | exact hI.c2 rfl | exact hI.oldp p1 | exact p1) | exact rLd rfl (by kernel_rfl) rfl (by first | exact hI.c0 rfl | exact hI.c1 rfl | exact hI.c2 rfl | exact hI.oldp p1 | exact p1)) ?_
            refine WL_val rfl rfl rfl (by first | exact rMoveI rfl rfl | exact rMove rfl) ?_
            refine WL_val rfl rfl rfl (rIdx (sz := 2) rfl Tryd.underlying26 (by kernel_rfl) rfl rfl (by omega)) ?_
            refine WL_val rfl rfl rfl (by first | exact rFldN (off := 0) rfl (by kernel_rfl) rfl | exact rFld0 rfl (by kernel_rfl) rfl) ?_
            refine WL_val rfl rfl rfl (by first | exact rLd (v := .slice _ _ _) rfl (by kernel_rfl) rfl (by first | exact hI.c0 rfl | exact hI.c1 rfl | exact hI.c2 rfl | exact hI.oldp p1 | exact p1) | exact rLd rfl (by kernel_rfl) rfl (by first | exact hI.c0 rfl | exact hI.c1 rfl | exact hI.c2 rfl | exact hI.oldp p1 | exact p1)) ?_
            refine WL_val rfl rfl rfl (rLen rfl Tryd.underlying65 rfl) ?_
            refine WL_val rfl rfl rfl (by first | exact rLssT rfl rfl rfl (by omega) | exact rLssF rfl rfl rfl (by omega) | exact rLss rfl rfl rfl) ?_
            refine WL_nil ?_
            refine W_cond false rfl ?_
            refine W_exit ?_
            refine W_region ?_
            refine WL_val rfl rfl rfl (by first | exact rMoveI rfl rfl | exact rMove rfl) ?_
            refine WL_val rfl rfl rfl (by first | exact rInc rfl rfl rfl (by omega) | exact rAdd rfl rfl rfl (by omega) | exact rAddW rfl rfl rfl) ?_
            refine WL_val rfl rfl rfl (by first | exact rAsgnI rfl rfl | exact rAsgn rfl) ?_
            refine WL_nil ?_
            refine ⟨⟨i + 1, by omega, ⟨rfl, rfl, rfl, rfl, trivial⟩, ?_⟩, by show r.length - ((i + 1 : Nat) : Int).toNat < r.length - (i : Int).toNat; omega⟩
            rw [arr8_congr (g := stepV t tx.ops x F tx.ops.length) (fun k _ => by
              unfold stepV
              rw [hsn, List.take_length, ← hF])]
            exact hI
      · refine W_seq ?_
        refine W_seq ?_
        refine W_region ?_
        refine WL_val rfl rfl rfl (by first | exact rMoveI rfl rfl | exact rMove rfl) ?_
        refine WL_val rfl rfl rfl (by first | exact rMoveS rfl rfl | exact rMove rfl) ?_
        refine WL_val rfl rfl rfl (rLen rfl Tryd.underlying33 rfl) ?_
        refine WL_val rfl rfl rfl (by first | exact rLssT rfl rfl rfl (by omega) | exact rLssF rfl rfl rfl (by omega) | exact rLss rfl rfl rfl) ?_
        refine WL_nil ?_
        refine W_cond false rfl ?_
        refine W_exit ?_
        refine W_seq ?_
        refine W_region ?_
        refine WL_val rfl rfl rfl (by first | exact rAsgnB rfl rfl | exact rAsgn rfl) ?_
        refine WL_nil ?_
        refine W_ret ?_
        exact ret1 2 (.inr rfl) rfl ⟨rfl, hI.pu⟩
  · refine ⟨_, rfl, ?_⟩
    replace hI := hI.pure hp
    refine WL_val rfl rfl rfl (by first | exact rMoveT rfl rfl | exact rMove rfl) ?_
    refine WL_val rfl rfl rfl (rExtr rfl rfl rfl) ?_
    refine WL_val rfl rfl rfl (rExtr rfl rfl rfl) ?_
    refine WL_val rfl rfl rfl (by first | exact rAsgnI rfl rfl | exact rAsgn rfl) ?_
    refine WL_val rfl rfl rfl (by first | exact rAsgnN rfl rfl | exact rAsgnE rfl rfl | exact rAsgn rfl) ?_
    refine WL_nil ?_
    refine W_seq ?_
    refine W_seq ?_
    refine W_region ?_
    refine WL_call rfl rfl rfl (rCall (vs := []) rfl Tryd.func34 rfl rfl rfl) ?_
    refine (isolates_any _).mono ?_
    rintro e w1 ⟨rfl, hp⟩
    refine ⟨_, rfl, ?_⟩
    replace hI := hI.pure hp
    refine WL_val rfl rfl rfl (by first | exact rNotT rfl rfl | exact rNotF rfl rfl | exact rNot rfl rfl) ?_
    refine WL_val rfl rfl rfl (by first | exact rMoveB rfl rfl | exact rMove rfl) ?_
    first | refine WL_val rfl rfl rfl (by first | exact rMoveN rfl rfl | exact rMoveE rfl rfl | exact rMove rfl) ?_ | refine WL_skip rfl rfl rfl ?_
    first | refine WL_val rfl rfl rfl (by first | exact rIfaceNe rfl Tryd.underlying37 rfl rfl | exact rNilNe rfl Tryd.underlying37 rfl) ?_ | refine WL_skip rfl rfl rfl ?_
    refine WL_val rfl rfl rfl (by first | exact rPickTB rfl rfl rfl | exact rPickFB rfl rfl rfl | exact rPickB rfl rfl rfl rfl) ?_
    refine WL_val rfl rfl rfl (by first | exact rMoveB rfl rfl | exact rMove rfl) ?_
    refine WL_skip rfl rfl rfl ?_
    refine WL_skip rfl rfl rfl ?_
    refine WL_val rfl rfl rfl (by first | exact rPickTB rfl rfl rfl | exact rPickFB rfl rfl rfl | exact rPickB rfl rfl rfl rfl) ?_
    refine WL_nil ?_
    refine W_cond true rfl ?_
    refine W_seq ?_
    refine W_region ?_
    refine WL_call rfl rfl rfl (rCall (vs := []) rfl Tryd.func34 rfl rfl rfl) ?_
    refine (isolates_any _).mono ?_
    rintro e w1 ⟨rfl, hp⟩
    refine ⟨_, rfl, ?_⟩
    replace hI := hI.pure hp
    refine WL_val rfl rfl rfl (by first | exact rAsgnB rfl rfl | exact rAsgn rfl) ?_
    refine WL_nil ?_
    refine W_ret ?_
    exact ret1 2 (.inr rfl) rfl ⟨rfl, hI.pu⟩
end Go.Proofs.YtlnjmkldpicpdaaDoor
