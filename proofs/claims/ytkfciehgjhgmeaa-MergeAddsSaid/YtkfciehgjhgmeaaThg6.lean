/- merge: a set's values, one by one. -/
import Derived.Test.YtkfciehgjhgmeaaThg3
import Derived.Test.YtkfciehgjhgmeaaSxH
namespace Go.Proofs.Ytkfciehgjhgmeaa
open Go.RowKit
set_option linter.unusedVariables false
set_option linter.unusedSimpArgs false
def valA (T : Tag → Option Int) (k : Tag) : Array Value := #[.int .i64 ((T k).getD 0)]
def OkV (T : Tag → Option Int) (ys : List (Array Value)) : Prop := ∃ ks : List Tag, ks.Nodup ∧ (∀ k ∈ ks, (T k).isSome = true) ∧ ys = ks.map (valA T)
def FullV (T : Tag → Option Int) (ys : List (Array Value)) : Prop := ∃ ks : List Tag, ks.Nodup ∧ (∀ k, k ∈ ks ↔ (T k).isSome = true) ∧ ys = ks.map (valA T)
theorem Chg.cell' {S : Nat → Prop} {w w' : World} {p : Addr} {v : Value} (h : Chg S w w') (hv : w.cell? p = some v) (hS : ¬ S p.block) : w'.cell? p = some v := by
  have hb := h.block p.block (World.block_lt_of_cell? w p hv) hS
  unfold World.cell? at *
  rw [hb]; exact hv
theorem MapRIs.chg {S : Nat → Prop} {w w' : World} {A : Option Nat} {g : Tag → Option Value} (h : MapRIs okT kT w A g) (hc : Chg S w w') (hS : ∀ b, A = some b → ¬ S b) : MapRIs okT kT w' A g := by
  cases A with
  | none => exact h
  | some b => exact MapKIs.keep h (hc.block b (MapKIs.lt h) (hS b rfl))
theorem RngRIs.iter {w wb : World} {A : Option Nat} {r cnt : Nat} {g : Tag → Option Value} {left : Tag → Prop} {cur : Option Tag} (h : RngRIs okT kT wb A w r g left cnt cur) : ∃ o, w.heap[r]? = some o ∧ cellsO o = false := by
  cases A with
  | none => obtain ⟨⟨a, s, c, h1⟩, _⟩ := h; exact ⟨_, h1, rfl⟩
  | some b =>
    obtain ⟨W, _, h2, h3⟩ := h
    obtain ⟨es, clk, m, since, c0, seen, _, _, _, _, _, _, q7, _⟩ := h3.ex
    exact ⟨_, h2.symm.trans q7, rfl⟩
theorem inv_one {w : World} {e : Ent} (h : e.ok w) : Inv e.D w w [e] := ⟨Chg.refl _ _, by simpa using h, by simp only [List.mem_singleton, forall_eq]; exact fun k hk => .inl hk, List.pairwise_singleton ..⟩
--@rd
namespace Rd
set_option maxHeartbeats 1000000 in
theorem vals_seq (g : Nat) (A : Option Nat) (T : Tag → Option Int) (M : Nat → Prop) (w : World) (hb : w.cell? ⟨g, 0, none⟩ = some (.map A)) (hM : MapRIs okT kT w A (gT T)) (hg : M g) (hA : ∀ b, A = some b → M b) :
    SeqBy Try.prog 37 #[.pointer (some ⟨g, 0, none⟩)] (OkV T) (FullV T) w M := by
  intro y S J Jx W hp hS hJ hJx hy h0
  replace hb := (hp.chg (fun _ => False)).cell' hb (fun h => h)
  replace hM := MapRIs.pure hM hp
  have hI := Inv.start (fun _ => False) W
  refine calls_of_W (N := Try.f37.ntmps) Try.func37 rfl rfl rfl ?_
  refine Rd.W_seq ?_
  refine Rd.W_region ?_
  refine WL_val rfl rfl rfl (by first | exact rLd (v := .map _) rfl (by kernel_rfl) rfl (by first | exact hI.c0 rfl | exact hI.c1 rfl | exact hI.c2 rfl | exact hI.c3 rfl | exact hI.c4 rfl | exact hI.c5 rfl | exact hI.oldp hb | exact hb) | exact rLd rfl (by kernel_rfl) rfl (by first | exact hI.c0 rfl | exact hI.c1 rfl | exact hI.c2 rfl | exact hI.c3 rfl | exact hI.c4 rfl | exact hI.c5 rfl | exact hI.oldp hb | exact hb)) ?_
  refine WL_rangeR hM hI rfl rfl rfl rfl Try.underlying33 rfl ?_
  clear hI; intro br cnt w hI
  have hbr : W.heap.size ≤ br := ((hI.own _ (List.mem_cons_self ..) br rfl).resolve_left (fun h => h))
  have hR := hI.ok _ (List.mem_cons_self ..)
  have hJ0 : J [] w := hJ _ _ _ h0 (.of_pure hI.pu)
  have hcg : Chg (fun b => S b ∨ b = br) W w := hI.pu.chg _
  clear hI
  refine WL_nil ?_
  refine Rd.W_block ?_
  refine W_loopN (fun mu ρ w => ∃ (left : Tag → Prop) (cur : Option Tag) (ks : List Tag), ks.Nodup ∧ (∀ k ∈ ks, (T k).isSome = true) ∧ (∀ k, left k ↔ (T k).isSome = true ∧ k ∉ ks) ∧ Has ρ [(6, .pointer (some ⟨br, 0, none⟩)), (0, .func (.yield y) #[] #[])] ∧ J (ks.map (valA T)) w ∧ (RngR okT kT W A br (gT T) left mu cur).ok w ∧ Chg (fun b => S b ∨ b = br) W w) cnt
    ⟨_, _, [], .nil, by simp, fun k => by unfold gT; simp, ⟨rfl, rfl, trivial⟩, hJ0, hR, hcg⟩ ?_
  clear hR hcg hJ0
  rintro mu ρ w ⟨left, cur, ks, hnd, hks, hleft, hH, hJk, hR, hcg⟩
  obtain ⟨σ, rfl⟩ := hH.open
  have hwb : ∀ b, A = some b → w.heap[b]? = W.heap[b]? := fun b hb2 => by
    subst hb2
    have hlt : b < W.heap.size := MapKIs.lt hM
    refine hcg.block b hlt ?_
    rintro (h | h)
    · exact (hS b h).1 (hA b rfl)
    · omega
  have hI := inv_one hR
  refine Rd.W_seq ?_
  refine Rd.W_region ?_
  refine WL_nextR 0 rfl hI hwb rfl rfl rfl rfl rfl (fun hnone => ?_) ?_
  rotate_left
  · rintro a v w' hla hga hmu hI'
    simp only [List.set_cons_zero] at hI'
    have hJ' : J (ks.map (valA T)) w' := hJ _ _ _ hJk (Chg.mono hI'.chg fun b _ hb => by
      have hb : b = br := hb
      subst hb
      exact ⟨hbr, RngRIs.iter hR.1⟩)
    have hcg' : Chg (fun b => S b ∨ b = br) W w' := hcg.trans (Chg.mono hI'.chg fun b _ hb => .inr hb)
    have hR' := hI'.ok _ (List.mem_cons_self ..)
    have hwb' : ∀ b, A = some b → w'.heap[b]? = W.heap[b]? := fun b hb2 => by
      have hlt : b < W.heap.size := by subst hb2; exact MapKIs.lt hM
      exact (hI'.chg.block b (by have := hcg.size; omega) (fun h => by have h : b = br := h; omega)).trans (hwb b hb2)
    clear hI hI'
    obtain ⟨n, rfl⟩ : ∃ n : Int, v = .int .i64 n := by
      unfold gT at hga
      cases hT : T a with
      | none => rw [hT] at hga; cases hga
      | some n => rw [hT] at hga; exact ⟨n, by injection hga with hga; exact hga.symm⟩
    have hTa : T a = some n := by
      unfold gT at hga
      cases hT : T a with
      | none => rw [hT] at hga; cases hga
      | some m => rw [hT] at hga; injection hga with hga; injection hga with _ hga; rw [hga]
    refine WL_val rfl rfl rfl (rExtr rfl rfl rfl) ?_
    refine WL_nil ?_
    refine Rd.W_seq ?_
    refine Rd.W_cond true rfl ?_
    refine Rd.W_skip ?_
    refine Rd.W_block ?_
    refine Rd.W_seq ?_
    refine Rd.W_region ?_
    refine WL_val rfl rfl rfl (rEntryR hga rfl rfl hwb' hR'.1) ?_
    refine WL_val rfl rfl rfl (rExtr rfl rfl rfl) ?_
    refine WL_val rfl rfl rfl (by first | exact rAsgnI rfl rfl | exact rAsgn rfl) ?_
    refine WL_nil ?_
    refine Rd.W_seq ?_
    refine Rd.W_regionI 2 ?_
    refine WL_val rfl rfl rfl (by first | exact rMoveF rfl rfl | exact rMove rfl) ?_
    refine WL_val rfl rfl rfl (by first | exact rMoveI rfl rfl | exact rMove rfl) ?_
    refine WL_nil ?_
    refine Rd.WI_yield rfl rfl rfl rfl (rYield rfl rfl rfl) ?_
    have hna : a ∉ ks := ((hleft a).1 hla).2
    have hOk : OkV T (ks.map (valA T) ++ [#[.int .i64 n]]) := ⟨ks ++ [a], List.nodup_append.2 ⟨hnd, by simp, fun x hx y hy => by rw [List.mem_singleton.1 hy]; exact fun e => hna (e ▸ hx)⟩, fun k hk => by
      rcases List.mem_append.1 hk with hk | hk
      · exact hks k hk
      · rw [List.mem_singleton.1 hk, hTa]; rfl, by rw [List.map_append]; simp [valA, hTa]⟩
    refine (hy _ _ _ hOk hJ').mono ?_
    rintro e w2 (⟨rfl, hJ2, hc2⟩ | ⟨rfl, hJ2, hc2⟩)
    · refine ⟨_, rfl, Rd.WI_of ?_⟩
      refine WL_val rfl rfl rfl (by first | exact rNotT rfl rfl | exact rNotF rfl rfl | exact rNot rfl rfl) ?_
      refine WL_nil ?_
      refine Rd.W_cond false rfl ?_
      refine Rd.W_skip ?_
      refine ⟨mu - 1, by omega, _, _, ks ++ [a], List.nodup_append.2 ⟨hnd, by simp, fun x hx y hy => by rw [List.mem_singleton.1 hy]; exact fun e => hna (e ▸ hx)⟩, fun k hk => by
        rcases List.mem_append.1 hk with hk | hk
        · exact hks k hk
        · rw [List.mem_singleton.1 hk, hTa]; rfl, fun k => ?_, ⟨rfl, rfl, trivial⟩, ?_, hR'.chg hc2 ?_, Chg.trans' hcg' hc2 fun b hb h => h.elim .inl fun h => (by have := h.1; omega)⟩
      · rw [hleft]; simp [and_assoc]
      · rw [List.map_append]; simpa [valA, hTa] using hJ2
      · intro k hk h
        have hk : k = br := hk
        rcases h with h | ⟨_, o, ho, hco⟩
        · have := (hS k h).2
          omega
        · obtain ⟨o', ho', hc'⟩ := RngRIs.iter hR'.1
          subst hk
          rw [ho] at ho'
          injection ho' with ho'
          rw [ho', hc'] at hco
          cases hco
    · refine ⟨_, rfl, Rd.WI_of ?_⟩
      refine WL_val rfl rfl rfl (by first | exact rNotT rfl rfl | exact rNotF rfl rfl | exact rNot rfl rfl) ?_
      refine WL_nil ?_
      refine Rd.W_cond true rfl ?_
      refine Rd.W_ret ?_
      exact ret0 (.inr rfl) rfl ⟨⟨_, rfl⟩, .inr hJ2⟩
  · refine WL_val rfl rfl rfl (rExtr rfl rfl rfl) ?_
    refine WL_nil ?_
    refine Rd.W_seq ?_
    refine Rd.W_cond false rfl ?_
    refine Rd.W_exit ?_
    exact ret0 (.inl rfl) rfl ⟨⟨_, rfl⟩, .inl ⟨_, ⟨ks, hnd, fun k => ⟨hks k, fun hk => Classical.byContradiction fun hn => hnone k ((hleft k).2 ⟨hk, hn⟩)⟩, rfl⟩, hJk⟩⟩
end Rd
--@dr
end Go.Proofs.Ytkfciehgjhgmeaa
