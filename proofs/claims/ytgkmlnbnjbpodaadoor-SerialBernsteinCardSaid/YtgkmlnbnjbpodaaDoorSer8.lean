/- serial.Graph. -/
import Derived.Test.YtgkmlnbnjbpodaaDoorSer7
namespace Go.Proofs.YtgkmlnbnjbpodaaDoor
open Go.RowKit
set_option linter.unusedVariables false
set_option linter.unusedSimpArgs false
section
variable {S : Nat → Prop} {w0 w w' : World} {H : List Ent}
def Ent.join (a b : Ent) : Ent := ⟨fun k => a.D k ∨ b.D k, fun w => a.Φ w ∧ b.Φ w⟩
theorem Inv.join {a b : Ent} (h : Inv S w0 w (a :: b :: H)) : Inv S w0 w (Ent.join a b :: H) := by
  have ha := h.ok a (by simp)
  have hb := h.ok b (by simp)
  have hp := List.pairwise_cons.1 h.apart
  have hp2 := List.pairwise_cons.1 hp.2
  refine ⟨h.chg, fun e he => ?_, fun e he k hk => ?_, List.pairwise_cons.2 ⟨fun e he k hk => ?_, hp2.2⟩⟩
  · rcases List.mem_cons.1 he with rfl | he
    · refine Ent.mk_ok ⟨ha.1, hb.1⟩ (fun k hk => hk.elim (ha.2.1 k) (hb.2.1 k)) (fun T w1 w2 hc hT h1 => ⟨ha.2.2 T w1 w2 hc (fun k hk => hT k (.inl hk)) h1.1, hb.2.2 T w1 w2 hc (fun k hk => hT k (.inr hk)) h1.2⟩)
    · exact h.ok e (by simp [he])
  · rcases List.mem_cons.1 he with rfl | he
    · rcases hk with hk | hk
      · exact h.own a (by simp) k hk
      · exact h.own b (by simp) k hk
    · exact h.own e (by simp [he]) k hk
  · rcases hk with hk | hk
    · exact hp.1 e (by simp [he]) k hk
    · exact hp2.1 e he k hk
end
def MGE (te tb ob : Nat) (rbs : List Nat) (n : Nat) (f : Nat → Nat → Bool) : Ent := ⟨fun k => k = ob ∨ ∃ i : Nat, rbs[i]? = some k, fun w => MG w te tb ob rbs n f⟩
theorem MGE.ok {w : World} {te tb ob n : Nat} {rbs : List Nat} {f : Nat → Nat → Bool} (h : MG w te tb ob rbs n f) : (MGE te tb ob rbs n f).ok w :=
  Ent.mk_ok h (fun k hk => by
    rcases hk with rfl | ⟨i, hi⟩
    · exact h.out.lt
    · exact (h.row i k hi).lt) (fun S w1 w2 hc hS h1 => h1.chg hc (hS ob (.inl rfl)) (fun i r hr => hS r (.inr ⟨i, hr⟩)))
def MGpE (te tb ob : Nat) (rbs : List Nat) (n : Nat) (f : Nat → Nat → Bool) : Ent := ⟨fun k => k = ob ∨ ∃ i : Nat, rbs[i]? = some k, fun w => MGp w te tb ob rbs n f⟩
theorem MGpE.ok {w : World} {te tb ob n : Nat} {rbs : List Nat} {f : Nat → Nat → Bool} (h : MGp w te tb ob rbs n f) : (MGpE te tb ob rbs n f).ok w :=
  Ent.mk_ok h (fun k hk => by
    rcases hk with rfl | ⟨i, hi⟩
    · exact h.out.lt
    · exact (h.row i k hi).lt) (fun S w1 w2 hc hS h1 => h1.chg hc (hS ob (.inl rfl)) (fun i r hr => hS r (.inr ⟨i, hr⟩)))
def rowG (d : List St) (k m : Nat) (x y : Nat) : Bool := (List.range m).any fun i => clashB (sAt d i) (sAt d k) && (decide ((sAt d i).tx = (x : Int)) && decide ((sAt d k).tx = (y : Int)))
def graphTo (d : List St) (k : Nat) (x y : Nat) : Bool := (List.range k).any fun j => rowG d j j x y
def graphF (l : List St) : Nat → Nat → Bool := graphTo (doneF l) (doneF l).length
theorem rowG_succ (d : List St) (k m x y : Nat) : rowG d k (m + 1) x y = (rowG d k m x y || (clashB (sAt d m) (sAt d k) && (decide ((sAt d m).tx = (x : Int)) && decide ((sAt d k).tx = (y : Int))))) := by
  simp [rowG, List.range_succ]
theorem graphTo_succ (d : List St) (k x y : Nat) : graphTo d (k + 1) x y = (graphTo d k x y || rowG d k k x y) := by
  simp [graphTo, List.range_succ]
theorem done_ok {l : List St} (h : OkSteps l) : ∀ s ∈ doneF l, 0 ≤ s.tx ∧ s.tx < 8 := fun s hs => by
  have hm : s ∈ l := (List.mem_filter.1 hs).1
  obtain ⟨i, hi⟩ := List.getElem?_of_mem hm
  have hlt := (List.getElem?_eq_some_iff.1 hi).1
  have h1 := (h.2 i hlt).1
  have e : sAt l i = s := by simp [sAt, List.getD, hi]
  rw [e] at h1
  have := stepE_none h1
  omega
theorem done_len (l : List St) : (doneF l).length ≤ l.length := List.length_filter_le ..
section
variable {w : World} {base e n c b o k : Nat} {l : List St}
theorem row3 (h : w.ownsRow base e 3 (.slice (some ⟨b, o, none⟩) l.length c) l.length (l.flatMap stV)) (hk : k < l.length) : w.cell? ⟨b, o + k * 3, none⟩ = some (.int .i64 (sAt l k).tx) ∧ w.cell? ⟨b, o + k * 3 + 1, none⟩ = some (.int .i64 (sAt l k).kind) ∧ w.cell? ⟨b, o + k * 3 + 2, none⟩ = some (.int .i64 (sAt l k).key) := by
  obtain ⟨b', o', h1, h2⟩ := (sts_of_own h).at hk
  injection h1 with h1
  injection h1 with e1 e2
  subst e1 e2
  exact h2
end
theorem mg_cell {w : World} {te tb ob n i r : Nat} {rbs : List Nat} {f : Nat → Nat → Bool} (h : MG w te tb ob rbs n f) (hr : rbs[i]? = some r) (hi : i < n) : w.cell? ⟨ob, i, none⟩ = some (.slice (some ⟨r, 0, none⟩) n n) := by
  obtain ⟨r', h1, h2, _⟩ := h.at_ hi
  rw [hr] at h1
  injection h1 with h1
  subst h1
  exact h2
def GraphPost (l : List St) (w0 : World) (en : Ending) (w' : World) : Prop :=
  ((OkSteps l ∧ ∃ ob rbs, en = .returned (.tuple #[.slice (some ⟨ob, 0, none⟩) 8 8, .nilIface]) ∧ MG w' 37 4 ob rbs 8 (graphF l) ∧ w0.heap.size ≤ ob ∧ ∀ i r : Nat, rbs[i]? = some r → w0.heap.size ≤ r) ∨
    (¬ OkSteps l ∧ ∃ e n, en = .returned (.tuple #[.slice none 0 0, e]) ∧ IsE w' e n ∧ FreshE w0 e ∧ (n = 1 ∨ n = 2 ∨ n = 4 ∨ n = 6))) ∧ Pure w0 w'
set_option maxHeartbeats 2000000 in
theorem graph_any (A : Option Addr) (n c : Nat) (l : List St) (D : Nat → Prop) (w0 : World) (h : Sts w0 D (.slice A n c) l) (hg : GlobOk w0) :
    Calls Tryd.prog 9 #[.slice A n c] w0 (GraphPost l w0) := by
  have hI := Inv.start (fun _ => False) w0
  obtain ⟨hn, hc1, hc2⟩ := h.len
  refine calls_of_W (N := Tryd.f9.ntmps) Tryd.func9 rfl rfl rfl ?_
  refine W_seq ?_
  refine W_region ?_
  refine WL_val rfl rfl rfl (by first | exact rAsgnS rfl rfl | exact rAsgn rfl) ?_
  refine WL_val rfl rfl rfl (by first | exact rAsgnN rfl rfl | exact rAsgnE rfl rfl | exact rAsgn rfl) ?_
  refine WL_nil ?_
  refine W_seq ?_
  refine W_seq ?_
  refine W_region ?_
  refine WL_val rfl rfl rfl (by first | exact rMoveS rfl rfl | exact rMove rfl) ?_
  refine WL_call rfl rfl rfl (rCall (vs := [.slice _ _ _]) rfl Tryd.func21 rfl rfl rfl) ?_
  refine (check_any A n c l D _ (h.pure hI.pu) (hI.oldp hg)).mono ?_
  rintro e w1 ⟨hcase, hp⟩
  have hcase' : ∃ v, e = .returned v ∧ ((OkSteps l ∧ v = .nilIface) ∨ (¬ OkSteps l ∧ ∃ n, IsE w1 v n ∧ FreshE w0 v ∧ (n = 1 ∨ n = 2 ∨ n = 4 ∨ n = 6))) := by
    rcases hcase with ⟨h1, rfl⟩ | ⟨h1, e', n', rfl, h2, h4, h3⟩
    · exact ⟨_, rfl, .inl ⟨h1, rfl⟩⟩
    · exact ⟨_, rfl, .inr ⟨h1, n', h2, h4, h3⟩⟩
  obtain ⟨v, rfl, hv⟩ := hcase'
  refine ⟨_, rfl, ?_⟩
  replace hI := hI.pure hp
  refine WL_val rfl rfl rfl (by first | exact rAsgnN rfl rfl | exact rAsgnE rfl rfl | exact rAsgn rfl) ?_
  refine WL_nil ?_
  rcases hv with ⟨hok, rfl⟩ | ⟨hbad, m, hE, hF, hm⟩
  rotate_left
  · obtain ⟨t, u, rfl⟩ := hE.form
    refine W_seq ?_
    refine W_region ?_
    refine WL_val rfl rfl rfl (by first | exact rMoveN rfl rfl | exact rMoveE rfl rfl | exact rMove rfl) ?_
    refine WL_val rfl rfl rfl (by first | exact rIfaceNe rfl Tryd.underlying25 rfl rfl | exact rNilNe rfl Tryd.underlying25 rfl) ?_
    refine WL_nil ?_
    refine W_cond true rfl ?_
    refine W_seq ?_
    refine W_region ?_
    refine WL_val rfl rfl rfl (by first | exact rMoveN rfl rfl | exact rMoveE rfl rfl | exact rMove rfl) ?_
    refine WL_val rfl rfl rfl (by first | exact rAsgnS rfl rfl | exact rAsgn rfl) ?_
    refine WL_val rfl rfl rfl (by first | exact rAsgnN rfl rfl | exact rAsgnE rfl rfl | exact rAsgn rfl) ?_
    refine WL_nil ?_
    refine W_ret ?_
    exact ret2 2 3 (.inr rfl) rfl ⟨.inr ⟨hbad, _, m, rfl, hE, hF, hm⟩, hI.pu⟩
  refine W_seq ?_
  refine W_region ?_
  refine WL_val rfl rfl rfl (by first | exact rMoveN rfl rfl | exact rMoveE rfl rfl | exact rMove rfl) ?_
  refine WL_val rfl rfl rfl (by first | exact rIfaceNe rfl Tryd.underlying25 rfl rfl | exact rNilNe rfl Tryd.underlying25 rfl) ?_
  refine WL_nil ?_
  refine W_cond false rfl ?_
  refine W_skip ?_
  refine W_seq ?_
  refine W_region ?_
  refine WL_mk (n := 8) (by_ := 24) (z := .slice none 0 0) hI rfl rfl rfl rfl rfl rfl Tryd.underlying33 (by kernel_rfl) rfl (by omega) (by omega) ?_
  clear hI; rintro b17 w - - hI
  refine WL_val rfl rfl rfl (by first | exact rAsgnS rfl rfl | exact rAsgn rfl) ?_
  refine WL_nil ?_
  replace hI := hI.u0 (e' := MGpE 37 4 b17 [] 8 (fun _ _ => false)) (Chg.refl _ _) (MGpE.ok (MGp.start hI.g0)) (fun k hk => .inl (by rcases hk with hk | ⟨i, hi⟩; exact hk; simp at hi))
  refine W_seq_cut (fun ρ w => ∃ rbs, Has ρ [(0, .slice A n c), (5, .slice (some ⟨b17, 0, none⟩) 8 8)] ∧ Inv (fun _ => False) w0 w [MGE 37 4 b17 rbs 8 (fun _ _ => false)]) ?_ ?_
  · refine W_seq ?_
    refine W_region ?_
    refine WL_val rfl rfl rfl (by first | exact rMoveS rfl rfl | exact rMove rfl) ?_
    refine WL_val rfl rfl rfl (rLen rfl Tryd.underlying33 rfl) ?_
    refine WL_val rfl rfl rfl (by first | exact rMoveI rfl rfl | exact rMove rfl) ?_
    refine WL_nil ?_
    refine W_block ?_
    refine W_loop (fun ρ w => ∃ (k : Nat) (rbs : List Nat), k ≤ 8 ∧ rbs.length = k ∧ Has ρ [(20, .int .i64 (k : Int)), (19, .int .i64 ((8 : Nat) : Int)), (0, .slice A n c), (5, .slice (some ⟨b17, 0, none⟩) 8 8)] ∧ Inv (fun _ => False) w0 w [MGpE 37 4 b17 rbs 8 (fun _ _ => false)]) (fun ρ _ => 8 - cnt (ρ 20))
      ⟨0, [], by omega, rfl, ⟨rfl, rfl, rfl, rfl, trivial⟩, hI⟩ ?_
    clear hI
    rintro ρ w ⟨k, rbs, hk, hrl, hH, hI⟩
    obtain ⟨σ, rfl⟩ := hH.open
    by_cases hk8 : k < 8
    · refine W_seq ?_
      refine W_region ?_
      refine WL_val rfl rfl rfl (by first | exact rLssT rfl rfl rfl (by omega) | exact rLssF rfl rfl rfl (by omega) | exact rLss rfl rfl rfl) ?_
      refine WL_nil ?_
      refine W_seq ?_
      refine W_cond true rfl ?_
      refine W_skip ?_
      refine W_seq ?_
      refine W_block ?_
      refine W_seq ?_
      refine W_region ?_
      refine WL_val rfl rfl rfl (by first | exact rMoveI rfl rfl | exact rMove rfl) ?_
      refine WL_val rfl rfl rfl (by first | exact rAsgnI rfl rfl | exact rAsgn rfl) ?_
      refine WL_nil ?_
      refine W_region ?_
      refine WL_val rfl rfl rfl (by first | exact rMoveS rfl rfl | exact rMove rfl) ?_
      refine WL_val rfl rfl rfl (by first | exact rMoveI rfl rfl | exact rMove rfl) ?_
      refine WL_mk (n := 8) (by_ := 1) (z := .bool false) hI rfl rfl rfl rfl rfl rfl Tryd.underlying37 (by kernel_rfl) rfl (by omega) (by omega) ?_
      clear hI; rintro b25 w - - hI
      refine WL_val rfl rfl rfl (by first | exact rIdx0 rfl Tryd.underlying33 (by kernel_rfl) rfl rfl rfl (by omega) | exact rIdx1 rfl Tryd.underlying33 (by kernel_rfl) rfl rfl (by omega)) ?_
      have hMp : MGp w 37 4 b17 rbs 8 (fun _ _ => false) := hI.g1
      have hrow : Blk w b25 4 (rep (.bool false) 8) := hI.g0
      have hnew : ∀ i x : Nat, rbs[i]? = some x → x ≠ b25 := fun i x hx e => hI.disj (i := 0) (j := 1) rfl rfl (by decide) b25 rfl (.inr ⟨i, e ▸ hx⟩)
      have hne : b17 ≠ b25 := fun e => hI.disj (i := 0) (j := 1) rfl rfl (by decide) b25 rfl (.inl e.symm)
      have hnext := hMp.next (r := b25) (by decide) (by omega) (by rw [← rep_row]; exact hrow) hnew
      rw [hrl] at hnext
      refine WL_store rfl rfl (run_store (n := 1) (vs := #[.slice (some ⟨b25, 0, none⟩) 8 8]) rfl rfl rfl rfl (by kernel_rfl) rfl hMp.out (by simp [outC]; omega) rfl) ?_
      replace hI := hI.join.u0 (e' := MGpE 37 4 b17 (rbs ++ [b25]) 8 (fun _ _ => false)) ((Chg.refl _ w).setCell (p := ⟨b17, k, none⟩) (.inl (.inr (.inl rfl))) _) (MGpE.ok hnext) (fun k' hk' => .inl (by
        rcases hk' with hk' | ⟨i, hi⟩
        · exact .inr (.inl hk')
        · rcases Nat.lt_or_ge i rbs.length with h1 | h1
          · rw [List.getElem?_append_left h1] at hi; exact .inr (.inr ⟨i, hi⟩)
          · rw [List.getElem?_append_right h1] at hi
            have := (List.getElem?_eq_some_iff.1 hi).1
            have h0 : i - rbs.length = 0 := by simp at this; omega
            rw [h0] at hi
            simp at hi
            exact .inl hi.symm))
      refine WL_nil ?_
      refine W_region ?_
      refine WL_val rfl rfl rfl (by first | exact rInc rfl rfl rfl (by omega) | exact rAdd rfl rfl rfl (by omega) | exact rAddW rfl rfl rfl) ?_
      refine WL_val rfl rfl rfl (by first | exact rMoveI rfl rfl | exact rMove rfl) ?_
      refine WL_nil ?_
      exact ⟨⟨k + 1, rbs ++ [b25], by omega, by simp [hrl], ⟨rfl, rfl, rfl, rfl, trivial⟩, hI⟩, by show 8 - ((k + 1 : Nat) : Int).toNat < 8 - (k : Int).toNat; omega⟩
    · have hk8' : rbs.length = 8 := by omega
      refine W_seq ?_
      refine W_region ?_
      refine WL_val rfl rfl rfl (by first | exact rLssT rfl rfl rfl (by omega) | exact rLssF rfl rfl rfl (by omega) | exact rLss rfl rfl rfl) ?_
      refine WL_nil ?_
      refine W_seq ?_
      refine W_cond false rfl ?_
      refine W_exit ?_
      have hMp : MGp w 37 4 b17 rbs 8 (fun _ _ => false) := hI.g0
      exact ⟨rbs, ⟨rfl, rfl, trivial⟩, hI.u0 (e' := MGE 37 4 b17 rbs 8 (fun _ _ => false)) (Chg.refl _ _) (MGE.ok (hMp.full hk8')) (fun k hk => .inl hk)⟩
  clear hI
  rintro ρ w ⟨rbs, hH, hI⟩
  obtain ⟨σ, rfl⟩ := hH.open
  have h60 : n ≤ 60 := by have := hok.1; omega
  refine W_seq ?_
  refine W_region ?_
  refine WL_val rfl rfl rfl (by first | exact rMoveS rfl rfl | exact rMove rfl) ?_
  refine WL_call rfl rfl rfl (rCall (vs := [.slice _ _ _]) rfl Tryd.func20 rfl rfl rfl) ?_
  refine (done_any A n c l D _ (h.pure hI.pu) (by omega)).mono ?_
  rintro e w1 ⟨⟨v, rfl, Ad, cd, rfl, hown⟩, hp⟩
  refine ⟨_, rfl, ?_⟩
  replace hI := hI.freshR hp hown
  refine WL_val rfl rfl rfl (by first | exact rAsgnS rfl rfl | exact rAsgn rfl) ?_
  refine WL_nil ?_
  have hdl := done_len l
  have hdo := done_ok hok
  have hgF : graphF l = graphTo (doneF l) (doneF l).length := rfl
  generalize doneF l = d at *
  replace hI : Inv (fun _ => False) w0 w1 [Row 0 43 3 Ad d.length cd (d.flatMap stV), MGE 37 4 b17 rbs 8 (graphTo d 0)] := hI
  refine W_seq ?_
  refine W_seq ?_
  refine W_region ?_
  refine WL_val rfl rfl rfl (by first | exact rMoveS rfl rfl | exact rMove rfl) ?_
  refine WL_val rfl rfl rfl (rLen rfl Tryd.underlying22 rfl) ?_
  refine WL_val rfl rfl rfl (by first | exact rMoveI rfl rfl | exact rMove rfl) ?_
  refine WL_nil ?_
  refine W_block ?_
  refine W_loop (fun ρ w => ∃ k : Nat, k ≤ d.length ∧ Has ρ [(32, .int .i64 (k : Int)), (31, .int .i64 (d.length : Int)), (30, .slice Ad d.length cd), (7, .slice Ad d.length cd), (5, .slice (some ⟨b17, 0, none⟩) 8 8)] ∧ Inv (fun _ => False) w0 w [Row 0 43 3 Ad d.length cd (d.flatMap stV), MGE 37 4 b17 rbs 8 (graphTo d k)]) (fun ρ _ => d.length - cnt (ρ 32))
    ⟨0, by omega, ⟨rfl, rfl, rfl, rfl, rfl, trivial⟩, hI⟩ ?_
  clear hI
  rintro ρ w ⟨k, hk, hH, hI⟩
  obtain ⟨σ, rfl⟩ := hH.open
  by_cases hkn : k < d.length
  rotate_left
  · obtain rfl : k = d.length := by omega
    refine W_seq ?_
    refine W_region ?_
    refine WL_val rfl rfl rfl (by first | exact rLssT rfl rfl rfl (by omega) | exact rLssF rfl rfl rfl (by omega) | exact rLss rfl rfl rfl) ?_
    refine WL_nil ?_
    refine W_seq ?_
    refine W_cond false rfl ?_
    refine W_exit ?_
    refine W_seq ?_
    refine W_region ?_
    refine WL_val rfl rfl rfl (by first | exact rMoveS rfl rfl | exact rMove rfl) ?_
    refine WL_val rfl rfl rfl (by first | exact rAsgnS rfl rfl | exact rAsgn rfl) ?_
    refine WL_val rfl rfl rfl (by first | exact rAsgnN rfl rfl | exact rAsgnE rfl rfl | exact rAsgn rfl) ?_
    refine WL_nil ?_
    refine W_ret ?_
    refine ret2 2 3 (.inr rfl) rfl ⟨.inl ⟨hok, b17, rbs, rfl, ?_, ?_, ?_⟩, hI.pu⟩
    · rw [hgF]; exact hI.g1
    · exact (hI.own _ (List.mem_of_getElem? (i := 1) rfl) b17 (.inl rfl)).resolve_left (fun h => h)
    · exact fun i r hr => (hI.own _ (List.mem_of_getElem? (i := 1) rfl) r (.inr ⟨i, hr⟩)).resolve_left (fun h => h)
  obtain ⟨lb, lo, rfl, _⟩ := (sts_of_own hI.g0).at hkn
  have hcd := (sts_of_own hI.g0).len
  refine W_seq ?_
  refine W_region ?_
  refine WL_val rfl rfl rfl (by first | exact rLssT rfl rfl rfl (by omega) | exact rLssF rfl rfl rfl (by omega) | exact rLss rfl rfl rfl) ?_
  refine WL_nil ?_
  refine W_seq ?_
  refine W_cond true rfl ?_
  refine W_skip ?_
  refine W_seq ?_
  refine W_block ?_
  refine W_seq ?_
  refine W_region ?_
  refine WL_val rfl rfl rfl (by first | exact rMoveI rfl rfl | exact rMove rfl) ?_
  refine WL_val rfl rfl rfl (rIdx (sz := 3) rfl Tryd.underlying22 (by kernel_rfl) rfl rfl (by omega)) ?_
  refine WL_val rfl rfl rfl (by first | exact rLdB (n := 3) rfl (by kernel_rfl) (by kernel_rfl) rfl rfl hI.g0 | exact rLd3 rfl (by kernel_rfl) (by kernel_rfl) rfl (by first | exact hI.c0 rfl | exact (row3 hI.g0 hkn).1 | exact (row3 hI.g0 hkn).2.1 | exact (row3 hI.g0 hkn).2.2) (by first | exact hI.c0 rfl | exact (row3 hI.g0 hkn).1 | exact (row3 hI.g0 hkn).2.1 | exact (row3 hI.g0 hkn).2.2) (by first | exact hI.c0 rfl | exact (row3 hI.g0 hkn).1 | exact (row3 hI.g0 hkn).2.1 | exact (row3 hI.g0 hkn).2.2)) ?_
  refine WL_alloc (u := .agg #[.int .i64 0, .int .i64 0, .int .i64 0]) (vs := #[.int .i64 0, .int .i64 0, .int .i64 0]) hI rfl rfl rfl rfl (by kernel_rfl) rfl ?_
  clear hI; rintro b9 w - - hI
  refine WL_val rfl rfl rfl (by first | exact rAsgnI rfl rfl | exact rAsgn rfl) ?_
  first | refine WL_stw0 (u := .agg _) (vs := #[_, _, _]) (n := 3) hI rfl rfl rfl rfl rfl rfl (by kernel_rfl) rfl rfl rfl ?_
  clear hI; intro w hI
  refine WL_nil ?_
  refine W_seq ?_
  refine W_region ?_
  refine WL_val rfl rfl rfl (by first | exact rMoveS rfl rfl | exact rMove rfl) ?_
  refine WL_val rfl rfl rfl (by first | exact rMoveI rfl rfl | exact rMove rfl) ?_
  refine WL_val rfl rfl rfl (rSliceTo (sz := 3) rfl Tryd.underlying22 (by kernel_rfl) rfl rfl (by omega)) ?_
  refine WL_val rfl rfl rfl (rLen rfl Tryd.underlying22 rfl) ?_
  refine WL_val rfl rfl rfl (by first | exact rMoveI rfl rfl | exact rMove rfl) ?_
  refine WL_nil ?_
  refine W_block ?_
  refine W_loop (fun ρ w => ∃ m : Nat, m ≤ k ∧ Has ρ [(41, .int .i64 (m : Int)), (40, .int .i64 (k : Int)), (39, .slice (some ⟨lb, lo, none⟩) k cd), (9, .pointer (some ⟨b9, 0, none⟩)), (32, .int .i64 (k : Int)), (31, .int .i64 (d.length : Int)), (30, .slice (some ⟨lb, lo, none⟩) d.length cd), (7, .slice (some ⟨lb, lo, none⟩) d.length cd), (5, .slice (some ⟨b17, 0, none⟩) 8 8)] ∧ Inv (fun _ => False) w0 w [B b9 43 #[.int .i64 (sAt d k).tx, .int .i64 (sAt d k).kind, .int .i64 (sAt d k).key], Row 0 43 3 (some ⟨lb, lo, none⟩) d.length cd (d.flatMap stV), MGE 37 4 b17 rbs 8 (fun x y => graphTo d k x y || rowG d k m x y)]) (fun ρ _ => k - cnt (ρ 41))
    ⟨0, by omega, ⟨rfl, rfl, rfl, rfl, rfl, rfl, rfl, rfl, rfl, trivial⟩, by simpa [rowG] using hI⟩ ?_
  clear hI
  rintro ρ w ⟨m, hm, hH, hI⟩
  obtain ⟨σ, rfl⟩ := hH.open
  by_cases hmk : m < k
  rotate_left
  · obtain rfl : m = k := by omega
    have hgs : (fun x y => graphTo d m x y || rowG d m m x y) = graphTo d (m + 1) := by funext x y; rw [graphTo_succ]
    rw [hgs] at hI
    refine W_seq ?_
    refine W_region ?_
    refine WL_val rfl rfl rfl (by first | exact rLssT rfl rfl rfl (by omega) | exact rLssF rfl rfl rfl (by omega) | exact rLss rfl rfl rfl) ?_
    refine WL_nil ?_
    refine W_seq ?_
    refine W_cond false rfl ?_
    refine W_exit ?_
    refine W_region ?_
    refine WL_val rfl rfl rfl (by first | exact rInc rfl rfl rfl (by omega) | exact rAdd rfl rfl rfl (by omega) | exact rAddW rfl rfl rfl) ?_
    refine WL_val rfl rfl rfl (by first | exact rMoveI rfl rfl | exact rMove rfl) ?_
    refine WL_nil ?_
    exact ⟨⟨m + 1, by omega, ⟨rfl, rfl, rfl, rfl, rfl, trivial⟩, hI.d0⟩, by show d.length - ((m + 1 : Nat) : Int).toNat < d.length - (m : Int).toNat; omega⟩
  have hmn : m < d.length := by omega
  have hta := hdo (sAt d m) (by simp [sAt, List.getD, List.getElem?_eq_getElem hmn])
  have htb := hdo (sAt d k) (by simp [sAt, List.getD, List.getElem?_eq_getElem hkn])
  obtain ⟨ta, hta'⟩ : ∃ t : Nat, (sAt d m).tx = (t : Int) := ⟨(sAt d m).tx.toNat, by omega⟩
  obtain ⟨tb, htb'⟩ : ∃ t : Nat, (sAt d k).tx = (t : Int) := ⟨(sAt d k).tx.toNat, by omega⟩
  refine W_seq ?_
  refine W_region ?_
  refine WL_val rfl rfl rfl (by first | exact rLssT rfl rfl rfl (by omega) | exact rLssF rfl rfl rfl (by omega) | exact rLss rfl rfl rfl) ?_
  refine WL_nil ?_
  refine W_seq ?_
  refine W_cond true rfl ?_
  refine W_skip ?_
  refine W_seq ?_
  refine W_block ?_
  refine W_seq ?_
  refine W_region ?_
  refine WL_val rfl rfl rfl (rIdx (sz := 3) rfl Tryd.underlying22 (by kernel_rfl) rfl rfl (by omega)) ?_
  refine WL_val rfl rfl rfl (by first | exact rLdB (n := 3) rfl (by kernel_rfl) (by kernel_rfl) rfl rfl hI.g0 | exact rLd3 rfl (by kernel_rfl) (by kernel_rfl) rfl (by first | exact hI.c0 rfl | exact (row3 hI.g1 hmn).1 | exact (row3 hI.g1 hmn).2.1 | exact (row3 hI.g1 hmn).2.2) (by first | exact hI.c0 rfl | exact (row3 hI.g1 hmn).1 | exact (row3 hI.g1 hmn).2.1 | exact (row3 hI.g1 hmn).2.2) (by first | exact hI.c0 rfl | exact (row3 hI.g1 hmn).1 | exact (row3 hI.g1 hmn).2.1 | exact (row3 hI.g1 hmn).2.2)) ?_
  refine WL_alloc (u := .agg #[.int .i64 0, .int .i64 0, .int .i64 0]) (vs := #[.int .i64 0, .int .i64 0, .int .i64 0]) hI rfl rfl rfl rfl (by kernel_rfl) rfl ?_
  clear hI; rintro b11 w - - hI
  first | refine WL_stw0 (u := .agg _) (vs := #[_, _, _]) (n := 3) hI rfl rfl rfl rfl rfl rfl (by kernel_rfl) rfl rfl rfl ?_
  clear hI; intro w hI
  refine WL_nil ?_
  refine W_seq ?_
  refine W_region ?_
  refine WL_val rfl rfl rfl (by first | exact rLdB (n := 3) rfl (by kernel_rfl) (by kernel_rfl) rfl rfl hI.g0 | exact rLdB (n := 3) rfl (by kernel_rfl) (by kernel_rfl) rfl rfl hI.g1 | exact rLd3 rfl (by kernel_rfl) (by kernel_rfl) rfl (by first | exact hI.c0 rfl | exact hI.c1 rfl) (by first | exact hI.c0 rfl | exact hI.c1 rfl) (by first | exact hI.c0 rfl | exact hI.c1 rfl)) ?_
  refine WL_val rfl rfl rfl (by first | exact rLdB (n := 3) rfl (by kernel_rfl) (by kernel_rfl) rfl rfl hI.g0 | exact rLdB (n := 3) rfl (by kernel_rfl) (by kernel_rfl) rfl rfl hI.g1 | exact rLd3 rfl (by kernel_rfl) (by kernel_rfl) rfl (by first | exact hI.c0 rfl | exact hI.c1 rfl) (by first | exact hI.c0 rfl | exact hI.c1 rfl) (by first | exact hI.c0 rfl | exact hI.c1 rfl)) ?_
  refine WL_call rfl rfl rfl (rCall (vs := [.agg _, .agg _]) rfl Tryd.func22 rfl rfl rfl) ?_
  refine (clash_any (sAt d m) (sAt d k) _).mono ?_
  rintro e w1 ⟨rfl, hp⟩
  refine ⟨_, rfl, ?_⟩
  replace hI := hI.pure hp
  refine WL_nil ?_
  cases hcl : clashB (sAt d m) (sAt d k) with
  | false =>
    have hgs : (fun x y => graphTo d k x y || rowG d k m x y) = (fun x y => graphTo d k x y || rowG d k (m + 1) x y) := by
      funext x y; rw [rowG_succ, hcl]; simp
    rw [hgs] at hI
    refine W_cond false rfl ?_
    refine W_skip ?_
    refine W_region ?_
    refine WL_val rfl rfl rfl (by first | exact rInc rfl rfl rfl (by omega) | exact rAdd rfl rfl rfl (by omega) | exact rAddW rfl rfl rfl) ?_
    refine WL_val rfl rfl rfl (by first | exact rMoveI rfl rfl | exact rMove rfl) ?_
    refine WL_nil ?_
    exact ⟨⟨m + 1, by omega, ⟨rfl, rfl, rfl, rfl, rfl, rfl, rfl, rfl, rfl, trivial⟩, hI.d0⟩, by show k - ((m + 1 : Nat) : Int).toNat < k - (m : Int).toNat; omega⟩
  | true =>
    have hM : MG w1 37 4 b17 rbs 8 (fun x y => graphTo d k x y || rowG d k m x y) := hI.g3
    obtain ⟨r, hr, _⟩ := hM.at_ (show ta < 8 by omega)
    clear hM
    refine W_cond true rfl ?_
    refine W_draw (by kernel_rfl) ?_
    refine WA_inv (T := [8]) hI.drew ?_
    intro Sx hSx hXS
    replace hI := hI.drew
    refine WT_take 0 rfl rfl (by kernel_rfl) (hXS _ hI) rfl (fun W hW => have hI := hSx W hW; (by first | exact rMoveS rfl rfl | exact rMove rfl)) ?_
    refine WT_take 1 rfl rfl (by kernel_rfl) (hXS _ hI) rfl (fun W hW => have hI := hSx W hW; (by first | exact rFldN (off := 0) rfl (by kernel_rfl) rfl | exact rFld0 rfl (by kernel_rfl) rfl)) ?_
    refine WT_take 2 rfl rfl (by kernel_rfl) (hXS _ hI) rfl (fun W hW => have hI := hSx W hW; (by first | exact rLd (v := .int .i64 _) rfl (by kernel_rfl) rfl (by first | exact hI.c0 rfl | exact hI.c1 rfl | exact (mg_cell hI.g3 hr (by omega))) | exact rLd rfl (by kernel_rfl) rfl (by first | exact hI.c0 rfl | exact hI.c1 rfl | exact (mg_cell hI.g3 hr (by omega))))) ?_
    refine WT_take 3 rfl rfl (by kernel_rfl) (hXS _ hI) rfl (fun W hW => have hI := hSx W hW; (rIdx0 (i := ta) rfl Tryd.underlying33 (by kernel_rfl) rfl rfl hta' (by omega))) ?_
    refine WT_take 4 rfl rfl (by kernel_rfl) (hXS _ hI) rfl (fun W hW => have hI := hSx W hW; (by first | exact rLd (v := .slice _ _ _) rfl (by kernel_rfl) rfl (by first | exact hI.c0 rfl | exact hI.c1 rfl | exact (mg_cell hI.g3 hr (by omega))) | exact rLd rfl (by kernel_rfl) rfl (by first | exact hI.c0 rfl | exact hI.c1 rfl | exact (mg_cell hI.g3 hr (by omega))))) ?_
    refine WT_take 5 rfl rfl (by kernel_rfl) (hXS _ hI) rfl (fun W hW => have hI := hSx W hW; (by first | exact rFldN (off := 0) rfl (by kernel_rfl) rfl | exact rFld0 rfl (by kernel_rfl) rfl)) ?_
    refine WT_take 6 rfl rfl (by kernel_rfl) (hXS _ hI) rfl (fun W hW => have hI := hSx W hW; (by first | exact rLd (v := .int .i64 _) rfl (by kernel_rfl) rfl (by first | exact hI.c0 rfl | exact hI.c1 rfl | exact (mg_cell hI.g3 hr (by omega))) | exact rLd rfl (by kernel_rfl) rfl (by first | exact hI.c0 rfl | exact hI.c1 rfl | exact (mg_cell hI.g3 hr (by omega))))) ?_
    refine WT_take 7 rfl rfl (by kernel_rfl) (hXS _ hI) rfl (fun W hW => have hI := hSx W hW; (rIdx0 (i := tb) rfl Tryd.underlying37 (by kernel_rfl) rfl rfl htb' (by omega))) ?_
    refine WT_A (by kernel_rfl) ?_
    clear hXS hSx
    refine WA_one 8 rfl (by kernel_rfl) ?_
    have hM : MG _ 37 4 b17 rbs 8 (fun x y => graphTo d k x y || rowG d k m x y) := hI.g3
    have hset := hM.set_ (by decide) hr (show tb < 8 by omega) true
    have hset' := hset.congr (g := fun x y => graphTo d k x y || rowG d k (m + 1) x y) (fun x y hx hy => by
      rw [rowG_succ, hcl, hta', htb']
      by_cases hxy : x = ta ∧ y = tb
      · rw [if_pos hxy, hxy.1, hxy.2]; simp
      · rw [if_neg hxy]
        have : (decide ((ta : Int) = (x : Int)) && decide ((tb : Int) = (y : Int))) = false := by
          simp only [Bool.and_eq_false_iff, decide_eq_false_iff_not]
          by_cases h1 : x = ta
          · exact .inr (fun h => hxy ⟨h1, by omega⟩)
          · exact .inl (fun h => h1 (by omega))
        rw [this]; simp)
    refine WL_store rfl rfl (run_store (n := 1) (vs := #[.bool true]) rfl rfl rfl rfl (by kernel_rfl) rfl (hM.row ta r hr) (by simp; omega) rfl) ?_
    replace hI := hI.u3 ((Chg.refl _ _).setCell (p := ⟨r, tb, none⟩) (.inl (.inr ⟨ta, hr⟩)) _) (MGE.ok hset') (fun k hk => .inl hk)
    refine WL_nil ?_
    refine WA_end (by kernel_rfl) ?_
    refine W_region ?_
    refine WL_val rfl rfl rfl (by first | exact rInc rfl rfl rfl (by omega) | exact rAdd rfl rfl rfl (by omega) | exact rAddW rfl rfl rfl) ?_
    refine WL_val rfl rfl rfl (by first | exact rMoveI rfl rfl | exact rMove rfl) ?_
    refine WL_nil ?_
    exact ⟨⟨m + 1, by omega, ⟨rfl, rfl, rfl, rfl, rfl, rfl, rfl, rfl, rfl, trivial⟩, hI.d0⟩, by show k - ((m + 1 : Nat) : Int).toNat < k - (m : Int).toNat; omega⟩
end Go.Proofs.YtgkmlnbnjbpodaaDoor
