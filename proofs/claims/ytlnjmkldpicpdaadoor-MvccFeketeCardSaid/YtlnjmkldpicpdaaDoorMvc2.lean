/- mvcc: from the last one on. -/
import Derived.Test.YtlnjmkldpicpdaaDoorMvc1
namespace Go.Proofs.YtlnjmkldpicpdaaDoor
open Go.RowKit
set_option linter.unusedVariables false
set_option linter.unusedSimpArgs false
def backA (l : List Int) (k : Nat) : Array Value := #[.int .i64 ((l.length : Int) - 1 - k), .int .i64 (l.getD (l.length - 1 - k) 0)]
def backL (l : List Int) : List (Array Value) := (List.range l.length).map (backA l)
theorem backL_len (l : List Int) : (backL l).length = l.length := by simp [backL]
theorem backL_get {l : List Int} {k : Nat} (h : k < l.length) : (backL l)[k]? = some (backA l k) := by simp [backL, h]
theorem Ints.at' {w : World} {D : Nat → Prop} {A : Option Addr} {n c k : Nat} {l : List Int} (h : Ints w D (.slice A n c) l) (hk : k < l.length) : ∃ b o, A = some ⟨b, o, none⟩ ∧ w.cell? ⟨b, o + k, none⟩ = some (.int .i64 (l.getD k 0)) := by
  obtain ⟨A', c', hv, h1, h2, h3, h4⟩ := h
  injection hv with ha _ _
  subst ha
  obtain ⟨b, o, rfl, _, hc⟩ := h4 (by omega)
  refine ⟨b, o, rfl, hc k _ ?_⟩
  rw [List.getElem?_map, List.getElem?_eq_getElem hk, List.getD, List.getElem?_eq_getElem hk]
  rfl
theorem Ints.len {w : World} {D : Nat → Prop} {A : Option Addr} {n c : Nat} {l : List Int} (h : Ints w D (.slice A n c) l) : l.length = n ∧ n ≤ c ∧ c ≤ 9223372036854775807 := by
  obtain ⟨A', c', hv, h1, h2, _⟩ := h
  injection hv with h3 h4 h5
  subst h4 h5
  exact ⟨rfl, h1, h2⟩
theorem Chg.cell' {S : Nat → Prop} {w w' : World} {p : Addr} {v : Value} (h : Chg S w w') (hv : w.cell? p = some v) (hS : ¬ S p.block) : w'.cell? p = some v := by
  have hb := h.block p.block (World.block_lt_of_cell? w p hv) hS
  unfold World.cell? at *
  rw [hb]; exact hv
def cnt1 : Value → Nat
  | .int _ n => (n + 1).toNat
  | _ => 0
namespace Rd
set_option maxHeartbeats 1000000 in
theorem back_seq (g n c : Nat) (A : Option Addr) (l : List Int) (D M : Nat → Prop) (w : World) (hb : w.cell? ⟨g, 0, none⟩ = some (.slice A n c)) (h : Ints w D (.slice A n c) l) (hg : M g) (hD : ∀ k, D k → M k) :
    SeqAt Tryd.prog 65 #[.pointer (some ⟨g, 0, none⟩)] (backL l) w M := by
  intro y S J Jx W hp hS hJ hJx hy h0
  obtain ⟨hn, hc1, hc2⟩ := h.len
  replace hb := (hp.chg (fun _ => False)).cell' hb (fun h => h)
  replace h := h.chg (hp.chg (fun _ => False)) (fun _ _ h => h)
  rw [backL_len]
  refine calls_of_W (N := Tryd.f65.ntmps) Tryd.func65 rfl rfl rfl ?_
  refine W_seq ?_
  refine W_region ?_
  refine WL_val rfl rfl rfl (by first | exact rLd (v := .slice _ _ _) rfl (by kernel_rfl) rfl (by first | exact hI.c0 rfl | exact hI.c1 rfl | exact hI.c2 rfl | exact hI.c3 rfl | exact hI.c4 rfl | exact hI.c5 rfl | exact hI.oldp hb | exact hb) | exact rLd rfl (by kernel_rfl) rfl (by first | exact hI.c0 rfl | exact hI.c1 rfl | exact hI.c2 rfl | exact hI.c3 rfl | exact hI.c4 rfl | exact hI.c5 rfl | exact hI.oldp hb | exact hb)) ?_
  refine WL_val rfl rfl rfl (rLen rfl Tryd.underlying33 rfl) ?_
  refine WL_val rfl rfl rfl (by first | exact rSub rfl rfl rfl (by omega) | exact rSubW rfl rfl rfl) ?_
  refine WL_val rfl rfl rfl (by first | exact rAsgnI rfl rfl | exact rAsgn rfl) ?_
  refine WL_nil ?_
  refine W_block ?_
  refine W_loop (fun ρ w => ∃ k : Nat, k ≤ n ∧ Has ρ [(3, .int .i64 ((n : Int) - 1 - k)), (0, .func (.yield y) #[] #[]), (1, .pointer (some ⟨g, 0, none⟩))] ∧ J k w ∧ Chg S W w) (fun ρ _ => cnt1 (ρ 3))
    ⟨0, by omega, ⟨by show Value.int .i64 _ = _; simp, rfl, rfl, trivial⟩, h0, Chg.refl _ _⟩ ?_
  rintro ρ w1 ⟨k, hk, hH, hJk, hcg⟩
  obtain ⟨σ, rfl⟩ := hH.open
  have hb' := hcg.cell' hb (fun h => (hS _ h).1 hg)
  have h' := h.chg hcg (fun k hk h => (hS _ h).1 (hD _ hk))
  by_cases hkn : k < n
  · obtain ⟨bA, oA, rfl, q0⟩ := h'.at' (show n - 1 - k < l.length by omega)
    have hnk : (n : Int) - 1 - k = ((n - 1 - k : Nat) : Int) := by omega
    refine W_seq ?_
    refine W_seq ?_
    refine W_region ?_
    refine WL_val rfl rfl rfl (by first | exact rMoveI rfl rfl | exact rMove rfl) ?_
    refine WL_val rfl rfl rfl (by first | exact rGeqT rfl rfl rfl (by omega) | exact rGeqF rfl rfl rfl (by omega) | exact rGeq rfl rfl rfl) ?_
    refine WL_nil ?_
    refine W_cond true rfl ?_
    refine W_skip ?_
    rw [hnk]
    refine W_seq ?_
    refine W_block ?_
    refine W_seq ?_
    refine W_regionI 6 ?_
    refine WL_val rfl rfl rfl (by first | exact rMoveF rfl rfl | exact rMove rfl) ?_
    refine WL_val rfl rfl rfl (by first | exact rMoveI rfl rfl | exact rMove rfl) ?_
    refine WL_val rfl rfl rfl (by first | exact rLd (v := .slice _ _ _) rfl (by kernel_rfl) rfl (by first | exact hI.c0 rfl | exact hI.c1 rfl | exact hI.c2 rfl | exact hI.c3 rfl | exact hI.c4 rfl | exact hI.c5 rfl | exact hI.oldp hb' | exact hb' | exact hI.oldp q0 | exact q0) | exact rLd rfl (by kernel_rfl) rfl (by first | exact hI.c0 rfl | exact hI.c1 rfl | exact hI.c2 rfl | exact hI.c3 rfl | exact hI.c4 rfl | exact hI.c5 rfl | exact hI.oldp hb' | exact hb' | exact hI.oldp q0 | exact q0)) ?_
    refine WL_val rfl rfl rfl (by first | exact rMoveI rfl rfl | exact rMove rfl) ?_
    refine WL_val rfl rfl rfl (by first | exact rIdx0 rfl Tryd.underlying33 (by kernel_rfl) rfl rfl rfl (by omega) | exact rIdx1 rfl Tryd.underlying33 (by kernel_rfl) rfl rfl (by omega)) ?_
    refine WL_val rfl rfl rfl (by first | exact rLd (v := .int .i64 _) rfl (by kernel_rfl) rfl (by first | exact hI.c0 rfl | exact hI.c1 rfl | exact hI.c2 rfl | exact hI.c3 rfl | exact hI.c4 rfl | exact hI.c5 rfl | exact hI.oldp hb' | exact hb' | exact hI.oldp q0 | exact q0) | exact rLd rfl (by kernel_rfl) rfl (by first | exact hI.c0 rfl | exact hI.c1 rfl | exact hI.c2 rfl | exact hI.c3 rfl | exact hI.c4 rfl | exact hI.c5 rfl | exact hI.oldp hb' | exact hb' | exact hI.oldp q0 | exact q0)) ?_
    refine WL_nil ?_
    refine WI_yield rfl rfl rfl rfl (rYield rfl rfl rfl) ?_
    have hx := backL_get (l := l) (k := k) (by omega)
    have hargs : backA l k = #[.int .i64 ((n - 1 - k : Nat) : Int), .int .i64 (l.getD (n - 1 - k) 0)] := by
      unfold backA
      rw [hn, hnk]
    rw [hargs] at hx
    refine (hy k _ w1 hx hJk).mono ?_
    rintro e w2 (⟨rfl, hJ2, hc2⟩ | ⟨rfl, hJ2, hc2⟩)
    · refine ⟨_, rfl, WI_of ?_⟩
      refine WL_val rfl rfl rfl (by first | exact rNotT rfl rfl | exact rNotF rfl rfl | exact rNot rfl rfl) ?_
      refine WL_nil ?_
      refine W_cond false rfl ?_
      refine W_skip ?_
      refine W_region ?_
      refine WL_val rfl rfl rfl (by first | exact rMoveI rfl rfl | exact rMove rfl) ?_
      refine WL_val rfl rfl rfl (by first | exact rSub rfl rfl rfl (by omega) | exact rSubW rfl rfl rfl) ?_
      refine WL_val rfl rfl rfl (by first | exact rAsgnI rfl rfl | exact rAsgn rfl) ?_
      refine WL_nil ?_
      refine ⟨⟨k + 1, by omega, ⟨?_, rfl, rfl, trivial⟩, hJ2, hcg.trans hc2⟩, ?_⟩
      · show Value.int .i64 _ = Value.int .i64 _
        congr 1
        omega
      · show (((n - 1 - k : Nat) : Int) - 1 + 1).toNat < (((n - 1 - k : Nat) : Int) + 1).toNat
        omega
    · refine ⟨_, rfl, WI_of ?_⟩
      refine WL_val rfl rfl rfl (by first | exact rNotT rfl rfl | exact rNotF rfl rfl | exact rNot rfl rfl) ?_
      refine WL_nil ?_
      refine W_cond true rfl ?_
      refine W_ret ?_
      exact ret0 (.inr rfl) rfl ⟨⟨_, rfl⟩, .inr hJ2⟩
  · obtain rfl : k = n := by omega
    rw [show (k : Int) - 1 - k = -1 by omega]
    refine W_seq ?_
    refine W_seq ?_
    refine W_region ?_
    refine WL_val rfl rfl rfl (by first | exact rMoveI rfl rfl | exact rMove rfl) ?_
    refine WL_val rfl rfl rfl (by first | exact rGeqT rfl rfl rfl (by omega) | exact rGeqF rfl rfl rfl (by omega) | exact rGeq rfl rfl rfl) ?_
    refine WL_nil ?_
    refine W_cond false rfl ?_
    refine W_exit ?_
    exact ret0 (.inl rfl) rfl ⟨⟨_, rfl⟩, .inl (by rw [hn]; exact hJk)⟩
end Rd
end Go.Proofs.YtlnjmkldpicpdaaDoor
