/- merge: a set's values, gathered. -/
import Derived.Test.YtkfciehgjhgmeaaThg6
namespace Go.Proofs.Ytkfciehgjhgmeaa
open Go.RowKit
set_option linter.unusedVariables false
set_option linter.unusedSimpArgs false
theorem vals_any (A : Option Nat) (w0 : World) : Calls Try.prog 34 #[.map A] w0 fun en w' => ∃ g, en = .returned (.func (.func 37) #[] #[.pointer (some ⟨g, 0, none⟩)]) ∧ Inv (fun _ => False) w0 w' [B g 33 #[.map A]] := by
  have hI := Inv.start (fun _ => False) w0
  refine calls_of_W (N := Try.f34.ntmps) Try.func34 rfl rfl rfl ?_
  refine W_seq ?_
  refine W_region ?_
  refine WL_box (u := .map _) (vs := #[_]) hI rfl rfl rfl rfl rfl rfl ?_
  clear hI; rintro b1 w - - hI
  refine WL_val rfl rfl rfl (by first | exact rAsgnF rfl rfl | exact rAsgn rfl) ?_
  refine WL_nil ?_
  refine W_seq ?_
  refine W_region ?_
  refine WL_val rfl rfl rfl (rFunc (l := []) (m := [_]) rfl rfl rfl) ?_
  refine WL_val rfl rfl rfl (by first | exact rAsgnF rfl rfl | exact rAsgn rfl) ?_
  refine WL_nil ?_
  refine W_ret ?_
  exact ret1 2 (.inr rfl) rfl ⟨b1, rfl, hI⟩
def cellsE (w : World) (e : Ent) : Prop := ∀ k, e.D k → ∃ o, w.heap[k]? = some o ∧ cellsO o = true
theorem B.cells {w : World} {g t : Nat} {cs : Array Value} (h : (B g t cs).ok w) : cellsE w (B g t cs) := fun k hk => by
  have hk : k = g := hk
  subst hk
  exact ⟨_, h.1, rfl⟩
theorem Row.cells {w : World} {base e size n c : Nat} {A : Option Addr} {xs : List Value} (h : (Row base e size A n c xs).ok w) : cellsE w (Row base e size A n c xs) := fun k hk => by
  have h1 : w.ownsRow base e size (.slice A n c) n xs := h.1
  rcases h1.2 with ⟨hv, _⟩ | ⟨g, cap, cur, hv, _, hh, _⟩
  · injection hv with hv; subst hv; simp [Row] at hk
  · injection hv with hv; subst hv
    have hk : some g = some k := hk
    injection hk with hk
    subst hk
    exact ⟨_, hh, rfl⟩
theorem Inv.aside {S : Nat → Prop} {n : Nat} {w0 w w' : World} {H : List Ent} (h : Inv S w0 w H) (ha : Aside n w w') (hn : w0.heap.size ≤ n) (hc : ∀ e ∈ H, cellsE w e) : Inv S w0 w' H :=
  ⟨h.chg.trans' ha fun b hb hx => (by have := hx.1; omega), fun e he => (h.ok e he).chg ha fun k hk hx => by
    obtain ⟨o, h1, h2⟩ := hc e he k hk
    obtain ⟨_, o', h3, h4⟩ := hx
    rw [h1] at h3
    injection h3 with h3
    rw [← h3, h2] at h4
    exact Bool.noConfusion h4, h.own, h.apart⟩
def valV (T : Tag → Option Int) (ks : List Tag) : List Value := ks.map fun k => .int .i64 ((T k).getD 0)
theorem row_base {w : World} {base e size n c : Nat} {A : Option Addr} {xs : List Value} (h : w.ownsRow base e size (.slice A n c) n xs) : w.ownsRow 0 e size (.slice A n c) n xs := by
  refine ⟨h.1, h.2.imp id ?_⟩
  rintro ⟨g, cap, cur, h1, h2, h3⟩
  exact ⟨g, cap, cur, h1, Nat.zero_le _, h3⟩
theorem valV_eq (T : Tag → Option Int) (ks : List Tag) : valV T ks = (ks.map (valA T)).map fun a => a.getD 0 (.bool false) := by
  unfold valV
  rw [List.map_map]
  rfl
/-- What AppendSeq has gathered. -/
def AppI (T : Tag → Option Int) (w : World) (b2 : Nat) (ys : List (Array Value)) (V : World) : Prop :=
  ∃ (A' : Option Addr) (c' : Nat) (ks : List Tag), ks.Nodup ∧ (∀ k ∈ ks, (T k).isSome = true) ∧ ys = ks.map (valA T) ∧ (∀ p, A' = some p → w.heap.size + 2 ≤ p.block) ∧ Inv (fun x => x = b2) w V [Row 0 3 1 A' ks.length c' (valV T ks), B b2 22 #[.slice A' ks.length c']]
theorem AppI.aside {T : Tag → Option Int} {w : World} {b2 : Nat} (ys : List (Array Value)) (V V' : World) (h : AppI T w b2 ys V) (ha : Aside w.heap.size V V') : AppI T w b2 ys V' := by
  obtain ⟨A', c', ks, h1, h2, h3, h4, h5⟩ := h
  refine ⟨A', c', ks, h1, h2, h3, h4, h5.aside ha (Nat.le_refl _) (fun e he => ?_)⟩
  rcases List.mem_cons.1 he with rfl | he
  · exact Row.cells (h5.ok _ (by simp))
  · rw [List.mem_singleton.1 he]; exact B.cells (h5.ok _ (by simp))
set_option maxHeartbeats 2000000 in
theorem appSeq_any (g : Nat) (A : Option Nat) (T : Tag → Option Int) (w0 : World) (hb : w0.cell? ⟨g, 0, none⟩ = some (.map A)) (hM : MapRIs okT kT w0 A (gT T)) (hbd : ∀ ks : List Tag, ks.Nodup → (∀ k ∈ ks, (T k).isSome = true) → ks.length ≤ 1000000) :
    Calls Try.prog 38 #[.slice none 0 0, .func (.func 37) #[] #[.pointer (some ⟨g, 0, none⟩)]] w0 fun en w' => ∃ A' c' ks, ks.Nodup ∧ (∀ k, k ∈ ks ↔ (T k).isSome = true) ∧ en = .returned (.slice A' ks.length c') ∧ Inv (fun _ => False) w0 w' [Row 0 3 1 A' ks.length c' (valV T ks)] := by
  have hI := Inv.start (fun _ => False) w0
  refine calls_of_WX (N := Try.f38.ntmps) Try.func38 rfl rfl rfl ?_
  refine WX_seqW ?_
  refine W_region ?_
  refine WL_box (u := .slice _ _ _) (vs := #[_]) hI rfl rfl rfl rfl rfl rfl ?_
  clear hI; rintro b2 w - - hI
  refine WL_val rfl rfl rfl (by first | exact rAsgnS rfl rfl | exact rAsgn rfl) ?_
  refine WL_nil ?_
  refine WX_seq ?_
  refine WX_seqW ?_
  refine W_region ?_
  refine WL_val rfl rfl rfl (by first | exact rMoveF rfl rfl | exact rMove rfl) ?_
  refine WL_nil ?_
  obtain ⟨w1, hw1⟩ : ∃ w1, w1 = w := ⟨_, rfl⟩
  subst hw1
  have hgl : g < w0.heap.size := World.block_lt_of_cell? w0 _ hb
  have hAl : ∀ b, A = some b → b < w0.heap.size := fun b hb => by subst hb; exact MapKIs.lt hM
  have hb2 : w0.heap.size ≤ b2 := (hI.own _ (List.mem_cons_self ..) b2 rfl).resolve_left id
  have hsz := hI.chg.size
  have hl2 : b2 < w1.heap.size := hI.lt
  have hpu := hI.pu
  have hB2 : Blk w1 b2 22 #[.slice none 0 0] := hI.g0
  refine WX_block ?_
  refine WX_rangeBy (Ok := OkV T) (Full := FullV T) (M := fun k => k = g ∨ A = some k) (w0 := w1) rfl (enters_of Try.func37 rfl rfl)
    (Rd.vals_seq g A T _ w1 (hI.oldp hb) (MapRIs.pure hM hpu) (.inl rfl) (fun b hb => .inr hb)) (Pure.refl _) (fun x => x = b2)
    (fun x hx => by subst hx; exact ⟨fun hm => (by rcases hm with hm | hm; omega; have := hAl _ hm; omega), hl2⟩)
    (fun x hx => by rcases hx with rfl | hx; omega; have := hAl _ hx; omega)
    (AppI T w1 b2)
    (fun _ _ => False)
    AppI.aside
    (fun _ _ _ h _ => h)
    ⟨none, 0, [], .nil, by simp, rfl, (fun p h => by cases h), (Inv.own1 hB2).fresh (Pure.refl _) (Row.nil _ 0 3 1) (fun k hk => by simp [Row] at hk)⟩
    (fun ys args ⟨ks, _, _, h⟩ => by
      have : args ∈ ks.map (valA T) := by rw [← h]; simp
      obtain ⟨k, _, rfl⟩ := List.mem_map.1 this
      rfl) (by decide) ?_ ?_ (fun _ _ h => h.elim)
  · rintro ys args V hok - hsV
    obtain ⟨ks', n1, n2, n3⟩ := hok
    have hargs : ∃ k0, args = valA T k0 := by
      have : args ∈ ks'.map (valA T) := by rw [← n3]; simp
      obtain ⟨k, _, rfl⟩ := List.mem_map.1 this
      exact ⟨k, rfl⟩
    obtain ⟨k0, rfl⟩ := hargs
    have hk'l := hbd ks' n1 n2
    --@rd
    refine Rd.W_region ?_
    refine WL_val rfl rfl rfl (by first | exact rAsgnI rfl rfl | exact rAsgn rfl) ?_
    refine WL_nil ?_
    refine ⟨rfl, rfl, fun V2 hI2 hs2 => ?_⟩
    obtain ⟨A', c', ks, h1, h2, h3, h4, hIV⟩ := hI2
    have hlen : ks'.length = ks.length + 1 := by
      have := congrArg List.length n3
      rw [h3] at this
      simpa using this.symm
    have hval : valV T ks' = valV T ks ++ [.int .i64 ((T k0).getD 0)] := by
      rw [valV_eq, ← n3, h3, List.map_append, ← valV_eq]
      rfl
    have hI : Inv (DL [Row 0 3 1 A' ks.length c' (valV T ks), B b2 22 #[.slice A' ks.length c']]) V2 V2 [Row 0 3 1 A' ks.length c' (valV T ks), B b2 22 #[.slice A' ks.length c']] := Inv.from (H := []) hIV
    refine Rd.W_block ?_
    refine Rd.W_region ?_
    refine WL_val rfl rfl rfl (by first | exact rLd (v := .slice _ _ _) rfl (by kernel_rfl) rfl (by first | exact hI.c0 rfl | exact hI.c1 rfl | exact hI.c2 rfl) | exact rLd rfl (by kernel_rfl) rfl (by first | exact hI.c0 rfl | exact hI.c1 rfl | exact hI.c2 rfl)) ?_
    refine WL_val rfl rfl rfl (by first | exact rMoveI rfl rfl | exact rMove rfl) ?_
    refine WL_lit (vs := [_]) (qs := [(0, .int .i64 _)]) [.int .i64 0] [0] hI rfl rfl rfl rfl rfl rfl Try.underlying22 (fun _ => by kernel_rfl) ?_
    clear hI; rintro b10 w - - hI
    first | refine WL_app1 (z := .int .i64 0) (by_ := 8) hI rfl rfl rfl rfl rfl rfl Try.underlying22 (by kernel_rfl) rfl (by omega) (by rfl) hI.lit0 (by first | rfl | simp [i64s, Value.oneCell']) (by omega) (by omega) (by first | exact Nat.zero_le _ | (have := hI.chg.size; omega)) ?_
    clear hI; rintro A11 c11 w hA11 hc11 hI
    replace hI := hI.d0
    first | refine WL_stw0 (u := .slice _ _ _) (vs := #[_]) (n := 1) hI rfl rfl rfl rfl rfl rfl (by kernel_rfl) rfl rfl rfl ?_ | refine WL_stw1 (u := .slice _ _ _) (vs := #[_]) (n := 1) hI rfl rfl rfl rfl rfl rfl (by kernel_rfl) rfl rfl rfl ?_ | refine WL_stw2 (u := .slice _ _ _) (vs := #[_]) (n := 1) hI rfl rfl rfl rfl rfl rfl (by kernel_rfl) rfl rfl rfl ?_ | refine WL_st0 (u := .slice _ _ _) hI rfl rfl rfl rfl rfl rfl (by kernel_rfl) rfl rfl rfl ?_ | refine WL_st1 (u := .slice _ _ _) hI rfl rfl rfl rfl rfl rfl (by kernel_rfl) rfl rfl rfl ?_ | refine WL_st2 (u := .slice _ _ _) hI rfl rfl rfl rfl rfl rfl (by kernel_rfl) rfl rfl rfl ?_
    clear hI; intro w hI
    refine WL_nil ?_
    have hDr : ∀ k, A'.map (·.block) = some k → w1.heap.size + 2 ≤ k := fun k hk => by
      cases A' with
      | none => cases hk
      | some p => injection hk with hk; have := h4 p rfl; dsimp only at hk; omega
    refine ⟨hI.chg.mono fun k _ hk => ?_, A11, c11, ks', n1, n2, n3, fun p hp => ?_, ?_⟩
    · obtain ⟨e, he, hk⟩ := hk
      rcases List.mem_cons.1 he with rfl | he
      · exact .inr ⟨hDr k hk, Row.cells (hIV.ok _ (by simp)) k hk⟩
      · rw [List.mem_singleton.1 he] at hk
        exact .inl hk
    · rcases hI.own _ (List.mem_cons_self ..) p.block (by rw [hp]; rfl) with ⟨e, he, hk⟩ | hk
      · rcases List.mem_cons.1 he with rfl | he
        · exact hDr _ hk
        · rw [List.mem_singleton.1 he] at hk
          exact absurd hk (hI.disj (i := 0) (j := 1) rfl rfl (by decide) p.block (by rw [hp]; rfl))
      · omega
    · have := Inv.turnL (H := []) hIV hI
      rw [hlen, hval]
      exact this
    --@dr
  · rintro ys V ⟨ks, f1, f2, f3⟩ ⟨A', c', ks2, h1, h2, h3, h4, hIV⟩ hD9 a ha
    have hm : ks2.map (valA T) = ks.map (valA T) := h3.symm.trans f3
    have hl2 : ks2.length = ks.length := by have := congrArg List.length hm; simpa using this
    rw [hl2, valV_eq, hm, ← valV_eq] at hIV
    refine (WX_R (?_ : Rd.W none _ _ _ _ (fun e ρ w => ∀ a, Fit Try.f38.ntmps ρ a → bodyPostM Fence.wide 0 Try.prog Try.f38 _ e (wd (markD w1.heap.size) a) w) _ _) (fun e ρ' a w' ha q => q a ha)) a ha
    have hfin : Inv (fun _ => False) w0 V [Row 0 3 1 A' ks.length c' (valV T ks), B b2 22 #[.slice A' ks.length c']] :=
      ⟨Chg.trans' (hpu.chg (fun _ => False)) hIV.chg (fun i hi h => by have h : i = b2 := h; omega), hIV.ok, fun e he k hk => by
        rcases hIV.own e he k hk with h | h
        · have h : k = b2 := h
          exact .inr (by omega)
        · exact .inr (by omega), hIV.apart⟩
    clear hI
    have hI := hfin
    --@rd
    refine Rd.W_seq ?_
    refine Rd.W_region ?_
    refine WL_val rfl rfl rfl (by first | exact rLd (v := .slice _ _ _) rfl (by kernel_rfl) rfl (by first | exact hI.c0 rfl | exact hI.c1 rfl) | exact rLd rfl (by kernel_rfl) rfl (by first | exact hI.c0 rfl | exact hI.c1 rfl)) ?_
    refine WL_val rfl rfl rfl (by first | exact rAsgnS rfl rfl | exact rAsgn rfl) ?_
    refine WL_nil ?_
    refine Rd.W_ret ?_
    intro a ha
    refine leaves_retQ ha hD9 (ret1 4 (.inr rfl) rfl ⟨A', c', ks, f1, f2, rfl, ?_⟩)
    exact (hfin.aside (n := w1.heap.size) (.put _ (Nat.le_refl _) hD9 rfl) (by omega) (fun e he => by
      rcases List.mem_cons.1 he with rfl | he
      · exact Row.cells (hfin.ok _ (by simp))
      · rw [List.mem_singleton.1 he]; exact B.cells (hfin.ok _ (by simp)))).d1
    --@dr
theorem collect_any (g : Nat) (A : Option Nat) (T : Tag → Option Int) (w0 : World) (hb : w0.cell? ⟨g, 0, none⟩ = some (.map A)) (hM : MapRIs okT kT w0 A (gT T)) (hbd : ∀ ks : List Tag, ks.Nodup → (∀ k ∈ ks, (T k).isSome = true) → ks.length ≤ 1000000) :
    Calls Try.prog 35 #[.func (.func 37) #[] #[.pointer (some ⟨g, 0, none⟩)]] w0 fun en w' => ∃ A' c' ks, ks.Nodup ∧ (∀ k, k ∈ ks ↔ (T k).isSome = true) ∧ en = .returned (.slice A' ks.length c') ∧ Inv (fun _ => False) w0 w' [Row 0 3 1 A' ks.length c' (valV T ks)] := by
  have hI := Inv.start (fun _ => False) w0
  refine calls_of_W (N := Try.f35.ntmps) Try.func35 rfl rfl rfl ?_
  refine W_seq ?_
  refine W_region ?_
  refine WL_val rfl rfl rfl (by first | exact rAsgnS rfl rfl | exact rAsgn rfl) ?_
  refine WL_nil ?_
  refine W_seq ?_
  refine W_region ?_
  refine WL_val rfl rfl rfl (by first | exact rMoveF rfl rfl | exact rMove rfl) ?_
  refine WL_call rfl rfl rfl (rCall (vs := [.slice _ _ _, .func _ _ _]) rfl Try.func38 rfl rfl rfl) ?_
  refine (appSeq_any g A T _ hb hM hbd).mono ?_
  rintro e w1 ⟨A', c', ks, f1, f2, rfl, hI2⟩
  refine ⟨_, rfl, ?_⟩
  replace hI := hI.app1 hI2
  refine WL_val rfl rfl rfl (by first | exact rAsgnS rfl rfl | exact rAsgn rfl) ?_
  refine WL_nil ?_
  refine W_ret ?_
  exact ret1 2 (.inr rfl) rfl ⟨A', c', ks, f1, f2, rfl, hI⟩
end Go.Proofs.Ytkfciehgjhgmeaa
