/- gen: where generators lie; what each gives. -/
import Derived.Test.YtlhmldjgmbcocaaDoorGen1
import Derived.Test.YtlhmldjgmbcocaaDoorGen2
namespace Go.Proofs.YtlhmldjgmbcocaaDoor
open Go.RowKit
set_option linter.unusedVariables false
set_option linter.unusedSimpArgs false
mutual
/-- A generator lies at a value, in the parts of a list. -/
inductive Rep : Ge → Value → List Ent → Prop
  | rd {k b} : Rep (.rd k) (.iface 62 (at0 b)) [B b 64 #[.int .i64 k]]
  | wr {k l t b} : -1000000 ≤ l → l ≤ t → t ≤ 1000000 → Rep (.wr k l t) (.iface 81 (at0 b)) [B b 83 #[.int .i64 k, .int .i64 l, .int .i64 t]]
  | lim {n g v L b} : n ≤ 1000 → Rep g v L → Rep (.lim n g) (.iface 66 (at0 b)) (B b 68 #[v, .int .i64 (n : Int)] :: L)
  | mix {gs vs L b A c} : gs.length ≤ 1000000 → RepL gs vs L → Rep (.mix gs) (.iface 72 (at0 b)) (B b 74 #[.slice A gs.length c] :: Row 0 33 1 A gs.length c vs :: L)
  | thn {gs vs L b A c} : gs.length ≤ 1000000 → RepL gs vs L → Rep (.thn gs) (.iface 75 (at0 b)) (B b 76 #[.slice A gs.length c] :: Win 33 1 A gs.length c vs :: L)
inductive RepL : List Ge → List Value → List Ent → Prop
  | nil : RepL [] [] []
  | cons {g v L gs vs M} : Rep g v L → RepL gs vs M → RepL (g :: gs) (v :: vs) (L ++ M)
end
theorem Rep.val {g : Ge} {v : Value} {L : List Ent} (h : Rep g v L) : ∃ T b, v = .iface T (at0 b) := by
  cases h <;> exact ⟨_, _, rfl⟩
theorem RepL.len : ∀ {gs : List Ge} {vs : List Value} {L : List Ent}, RepL gs vs L → vs.length = gs.length
  | _, _, _, .nil => rfl
  | _, _, _, .cons _ h => by simp [RepL.len h]
theorem RepL.one : ∀ {gs : List Ge} {vs : List Value} {L : List Ent}, RepL gs vs L → ∀ u ∈ vs, u.oneCell' = true
  | _, _, _, .nil => by simp
  | _, _, _, .cons h h2 => by
    intro u hu
    rcases List.mem_cons.1 hu with rfl | hu
    · obtain ⟨T, b, rfl⟩ := h.val; rfl
    · exact RepL.one h2 u hu
theorem RepL.at_ : ∀ {gs : List Ge} {vs : List Value} {L : List Ent} (_ : RepL gs vs L) (i : Nat) (g : Ge), gs[i]? = some g →
    ∃ v M R, vs[i]? = some v ∧ Rep g v M ∧ L.Perm (M ++ R) ∧ RepL (gs.eraseIdx i) (vs.eraseIdx i) R ∧ ∀ g' M', Rep g' v M' → ∃ L', RepL (gs.set i g') vs L' ∧ L'.Perm (M' ++ R)
  | _, _, _, .nil, i, g, hi => by simp at hi
  | _, _, _, @RepL.cons g0 v0 L0 gs vs M0 h0 h1, 0, g, hi => by
    simp only [List.getElem?_cons_zero, Option.some.injEq] at hi
    subst hi
    exact ⟨v0, L0, M0, rfl, h0, List.Perm.refl _, h1, fun g' M' h' => ⟨M' ++ M0, .cons h' h1, List.Perm.refl _⟩⟩
  | _, _, _, @RepL.cons g0 v0 L0 gs vs M0 h0 h1, i + 1, g, hi => by
    simp only [List.getElem?_cons_succ] at hi
    obtain ⟨v, M, R, hv, hg, hp, he, hs⟩ := RepL.at_ h1 i g hi
    refine ⟨v, M, L0 ++ R, by simpa using hv, hg, (hp.append_left L0).trans (List.perm_append_comm_assoc L0 M R), ?_, fun g' M' h' => ?_⟩
    · simp only [List.eraseIdx_cons_succ]
      exact .cons h0 he
    · obtain ⟨L', h2, hp2⟩ := hs g' M' h'
      refine ⟨L0 ++ L', ?_, (hp2.append_left L0).trans (List.perm_append_comm_assoc L0 M' R)⟩
      simp only [List.set_cons_succ]
      exact .cons h0 h2
section
variable {S : Nat → Prop} {w0 w w' : World} {H : List Ent}
theorem Inv.mid1 {t : Ent} {X L M : List Ent} (h : Inv S w0 w (t :: (X ++ (L ++ M)))) : Inv S w0 w (t :: (L ++ (X ++ M))) := h.perm ((List.perm_append_comm_assoc X L M).cons t)
theorem Inv.rowGet {base e n c j : Nat} {A : Option Addr} {xs : List Value} {u : Value} (hI : Inv S w0 w (Row base e 1 A n c xs :: H)) (hj : xs[j]? = some u) : ∃ g, A = some ⟨g, 0, none⟩ ∧ w.cell? ⟨g, j, none⟩ = some u := by
  have h1 : w.ownsRow base e 1 (.slice A n c) n xs := (hI.ok _ (List.mem_cons_self ..)).1
  have hl := (List.getElem?_eq_some_iff.1 hj).1
  rcases h1.2 with ⟨hv, h0⟩ | ⟨g, cap, cur, hv, hb, hh, hnc, hcm, hcs, htake⟩
  · have := h1.1; omega
  · injection hv with q1 q2 q3
    subst q1 q3
    have hB : Blk w g e cur := hh
    refine ⟨g, rfl, ?_⟩
    rw [hB.cell, ← Array.getElem?_toList]
    rw [← htake, List.getElem?_take] at hj
    split at hj
    · exact hj
    · cases hj
theorem Inv.rowCell {base e n c j g : Nat} {xs : List Value} {u : Value} (hI : Inv S w0 w (Row base e 1 (some ⟨g, 0, none⟩) n c xs :: H)) (hj : xs[j]? = some u) : w.cell? ⟨g, j, none⟩ = some u := by
  obtain ⟨g', hA, h⟩ := hI.rowGet hj
  injection hA with hA
  injection hA with hA
  subst hA
  exact h
theorem Inv.sub {H' : List Ent} (h : Inv S w0 w H) (hs : H'.Sublist H) : Inv S w0 w H' := ⟨h.chg, fun e he => h.ok e (hs.subset he), fun e he => h.own e (hs.subset he), h.apart.sublist hs⟩
theorem gdel_inv {n c k : Nat} {A : Option Addr} {xs : List Value} (hI : Inv S w0 w (Row 0 33 1 A n c xs :: H)) (h1 : ∀ u ∈ xs, u.oneCell' = true) (hk : k < n) (hn : n ≤ 1000000) :
    Calls Tryd.prog 68 #[.slice A n c, .int .i64 (k : Int), .int .i64 ((k : Int) + 1)] w fun en w' => ∃ A' c', en = .returned (.slice A' (n - 1) c') ∧ Inv S w0 w' (Row 0 33 1 A' (n - 1) c' (xs.eraseIdx k) :: H) := by
  have hown : w.ownsRow 0 33 1 (.slice A n c) n xs := (hI.ok _ (List.mem_cons_self ..)).1
  refine (gdelete_any 0 n k _ _ w hown h1 hk hn).mono ?_
  rintro e w' ⟨v', rfl, ho, hc, hb⟩
  obtain ⟨A', c', rfl⟩ : ∃ A' c', v' = .slice A' (n - 1) c' := by
    rcases ho.2 with ⟨hv, h0⟩ | ⟨g, cap, cur, hv, _⟩
    · exact ⟨none, 0, by rw [hv, h0]⟩
    · exact ⟨_, _, hv⟩
  have ob : ∀ (A : Option Addr) (n c : Nat), (Value.slice A n c).ownBlock = A.map (·.block) := fun A n c => by cases A <;> rfl
  rw [ob, ob] at hb
  refine ⟨A', c', rfl, hI.u0 (hc.mono fun k _ hk => ?_) (Row.ok ho) fun k hk => .inl ?_⟩
  · show A.map (·.block) = some k
    rw [← ob A n c]; exact hk.symm
  · show A.map (·.block) = some k
    rw [← hb]; exact hk
end
def caB (r : Option Ca) : Bool := (r.getD (false, 0, 0)).1
def caK (r : Option Ca) : Int := (r.getD (false, 0, 0)).2.1
def caX (r : Option Ca) : Int := (r.getD (false, 0, 0)).2.2
def caV (r : Option Ca) : Value := .agg #[.bool (caB r), .int .i64 (caK r), .int .i64 (caX r)]
/-- Who is at a value gives what the generator gives. -/
def Gives (nums : List Int) (D : Nat → Prop) (A : Option Addr) (len cp : Nat) (g : Ge) (v : Value) (L : List Ent) : Prop :=
  ∃ T b f, v = .iface T (at0 b) ∧ (∀ y (w : World), (callMethod (.iface T (at0 b)) "Next" #[y]).run Tryd.prog w = .ok (.enter f #[at0 b, y]) w) ∧
    ∀ (S : Nat → Prop) (w0 w : World) (H : List Ent) (q u : Nat), Inv S w0 w (tapeE q (.slice A len cp) u :: (L ++ H)) → Ints w0 D (.slice A len cp) nums → (∀ k, D k → ¬ S k) → u + g.sz ≤ 4611686018427387904 →
      Calls Tryd.prog f #[at0 b, at0 q] w fun e w' => ∃ r g' L' u', Nx nums g u r g' u' ∧ Rep g' v L' ∧ e = .returned (.tuple #[caV r, .bool r.isSome]) ∧ Inv S w0 w' (tapeE q (.slice A len cp) u' :: (L' ++ H))
section
variable {nums : List Int} {D : Nat → Prop} {A : Option Addr} {len cp : Nat}
set_option maxHeartbeats 1000000 in
theorem read_gives (k : Int) (b : Nat) : Gives nums D A len cp (.rd k) (.iface 62 (at0 b)) [B b 64 #[.int .i64 k]] := by
  refine ⟨_, _, 64, rfl, fun y w => by kernel_rfl, ?_⟩
  intro S w0 w H q u hI hN hD hu
  simp only [List.cons_append, List.nil_append] at hI
  unfold tapeE at hI
  refine calls_of_W (N := Tryd.f64.ntmps) Tryd.func64 rfl rfl rfl ?_
  refine W_seq ?_
  refine W_region ?_
  refine WL_alloc (u := .agg #[.bool false, .int .i64 0, .int .i64 0]) (vs := #[.bool false, .int .i64 0, .int .i64 0]) hI rfl rfl rfl rfl (by kernel_rfl) rfl ?_
  clear hI; rintro b4 w - - hI
  refine WL_val rfl rfl rfl (by first | exact rAsgnB rfl rfl | exact rAsgn rfl) ?_
  refine WL_nil ?_
  refine W_seq ?_
  refine W_region ?_
  refine WL_val rfl rfl rfl (by first | exact rMoveP rfl rfl | exact rMove rfl) ?_
  refine WL_val rfl rfl rfl (rNilChk rfl rfl) ?_
  refine WL_val rfl rfl rfl (by first | exact rFldN (off := 0) rfl (by kernel_rfl) rfl | exact rFld0 rfl (by kernel_rfl) rfl) ?_
  refine WL_val rfl rfl rfl (by first | exact rLd (v := .int .i64 _) rfl (by kernel_rfl) rfl (by first | exact hI.c0 rfl | exact hI.c1 rfl | exact hI.c2 rfl | exact hI.c3 rfl | exact hI.c4 rfl | exact hI.c5 rfl) | exact rLd rfl (by kernel_rfl) rfl (by first | exact hI.c0 rfl | exact hI.c1 rfl | exact hI.c2 rfl | exact hI.c3 rfl | exact hI.c4 rfl | exact hI.c5 rfl)) ?_
  refine WL_val rfl rfl rfl (rBuild (qs := [(1, .int .i64 _)]) (vs := [_, _, _]) [.bool false, .int .i64 0, .int .i64 0] [1] rfl rfl rfl (fun _ => by kernel_rfl)) ?_
  first | refine WL_stw0 (u := .agg _) (vs := #[_, _, _]) (n := 3) hI rfl rfl rfl rfl rfl rfl (by kernel_rfl) rfl rfl rfl ?_ | refine WL_stw1 (u := .agg _) (vs := #[_, _, _]) (n := 3) hI rfl rfl rfl rfl rfl rfl (by kernel_rfl) rfl rfl rfl ?_ | refine WL_stw2 (u := .agg _) (vs := #[_, _, _]) (n := 3) hI rfl rfl rfl rfl rfl rfl (by kernel_rfl) rfl rfl rfl ?_ | refine WL_stw3 (u := .agg _) (vs := #[_, _, _]) (n := 3) hI rfl rfl rfl rfl rfl rfl (by kernel_rfl) rfl rfl rfl ?_ | refine WL_stw4 (u := .agg _) (vs := #[_, _, _]) (n := 3) hI rfl rfl rfl rfl rfl rfl (by kernel_rfl) rfl rfl rfl ?_ | refine WL_stw5 (u := .agg _) (vs := #[_, _, _]) (n := 3) hI rfl rfl rfl rfl rfl rfl (by kernel_rfl) rfl rfl rfl ?_
  clear hI; intro w hI
  refine WL_val rfl rfl rfl (by first | exact rAsgnB rfl rfl | exact rAsgn rfl) ?_
  refine WL_nil ?_
  refine W_ret ?_
  refine retC2 (n := 3) (t := 45) (.inr rfl) rfl rfl (by kernel_rfl) (by kernel_rfl) rfl hI.g0 ?_
  exact ⟨some (false, k, 0), .rd k, _, u, .rd, .rd, rfl, hI.d0⟩
set_option maxHeartbeats 1000000 in
theorem write_gives (k l t : Int) (b : Nat) (h1 : -1000000 ≤ l) (h2 : l ≤ t) (h3 : t ≤ 1000000) : Gives nums D A len cp (.wr k l t) (.iface 81 (at0 b)) [B b 83 #[.int .i64 k, .int .i64 l, .int .i64 t]] := by
  refine ⟨_, _, 71, rfl, fun y w => by kernel_rfl, ?_⟩
  intro S w0 w H q u hI hN hD hu
  simp only [List.cons_append, List.nil_append] at hI
  unfold tapeE at hI
  have hlt := belF_lt nums u (t - l + 1) (by omega)
  refine calls_of_W (N := Tryd.f71.ntmps) Tryd.func71 rfl rfl rfl ?_
  refine W_seq ?_
  refine W_region ?_
  refine WL_alloc (u := .agg #[.bool false, .int .i64 0, .int .i64 0]) (vs := #[.bool false, .int .i64 0, .int .i64 0]) hI rfl rfl rfl rfl (by kernel_rfl) rfl ?_
  clear hI; rintro b4 w - - hI
  refine WL_val rfl rfl rfl (by first | exact rAsgnB rfl rfl | exact rAsgn rfl) ?_
  refine WL_nil ?_
  refine W_seq ?_
  refine W_draw (by kernel_rfl) ?_
  refine WA_inv (T := [22]) hI.d1.drew ?_
  intro Sx hSx hXS
  replace hI := hI.drew
  refine WT_take 0 rfl rfl (by kernel_rfl) (hXS _ hI.d1) rfl (fun W hW => have hI := hSx W hW; (by first | exact rMoveP rfl rfl | exact rMove rfl)) ?_
  refine WT_take 1 rfl rfl (by kernel_rfl) (hXS _ hI.d1) rfl (fun W hW => have hI := hSx W hW; (rNilChk rfl rfl)) ?_
  refine WT_take 2 rfl rfl (by kernel_rfl) (hXS _ hI.d1) rfl (fun W hW => have hI := hSx W hW; (by first | exact rFldN (off := 0) rfl (by kernel_rfl) rfl | exact rFld0 rfl (by kernel_rfl) rfl)) ?_
  refine WT_take 3 rfl rfl (by kernel_rfl) (hXS _ hI.d1) rfl (fun W hW => have hI := hSx W hW; (by first | exact rLd (v := .int .i64 _) rfl (by kernel_rfl) rfl (by first | exact hI.c0 rfl | exact hI.c1 rfl | exact hI.c2 rfl) | exact rLd rfl (by kernel_rfl) rfl (by first | exact hI.c0 rfl | exact hI.c1 rfl | exact hI.c2 rfl))) ?_
  refine WT_take 4 rfl rfl (by kernel_rfl) (hXS _ hI.d1) rfl (fun W hW => have hI := hSx W hW; (by first | exact rMoveP rfl rfl | exact rMove rfl)) ?_
  refine WT_take 5 rfl rfl (by kernel_rfl) (hXS _ hI.d1) rfl (fun W hW => have hI := hSx W hW; (rNilChk rfl rfl)) ?_
  refine WT_take 6 rfl rfl (by kernel_rfl) (hXS _ hI.d1) rfl (fun W hW => have hI := hSx W hW; (by first | exact rFldN (off := 1) rfl (by kernel_rfl) rfl | exact rFld (off := 1) rfl (by kernel_rfl) rfl)) ?_
  refine WT_take 7 rfl rfl (by kernel_rfl) (hXS _ hI.d1) rfl (fun W hW => have hI := hSx W hW; (by first | exact rLd (v := .int .i64 _) rfl (by kernel_rfl) rfl (by first | exact hI.c0 rfl | exact hI.c1 rfl | exact hI.c2 rfl) | exact rLd rfl (by kernel_rfl) rfl (by first | exact hI.c0 rfl | exact hI.c1 rfl | exact hI.c2 rfl))) ?_
  refine WT_take 8 rfl rfl (by kernel_rfl) (hXS _ hI.d1) rfl (fun W hW => have hI := hSx W hW; (by first | exact rMoveP rfl rfl | exact rMove rfl)) ?_
  refine WT_take 9 rfl rfl (by kernel_rfl) (hXS _ hI.d1) rfl (fun W hW => have hI := hSx W hW; (by first | exact rMoveP rfl rfl | exact rMove rfl)) ?_
  refine WT_take 10 rfl rfl (by kernel_rfl) (hXS _ hI.d1) rfl (fun W hW => have hI := hSx W hW; (rNilChk rfl rfl)) ?_
  refine WT_take 11 rfl rfl (by kernel_rfl) (hXS _ hI.d1) rfl (fun W hW => have hI := hSx W hW; (by first | exact rFldN (off := 2) rfl (by kernel_rfl) rfl | exact rFld (off := 2) rfl (by kernel_rfl) rfl)) ?_
  refine WT_take 12 rfl rfl (by kernel_rfl) (hXS _ hI.d1) rfl (fun W hW => have hI := hSx W hW; (by first | exact rLd (v := .int .i64 _) rfl (by kernel_rfl) rfl (by first | exact hI.c0 rfl | exact hI.c1 rfl | exact hI.c2 rfl) | exact rLd rfl (by kernel_rfl) rfl (by first | exact hI.c0 rfl | exact hI.c1 rfl | exact hI.c2 rfl))) ?_
  refine WT_take 13 rfl rfl (by kernel_rfl) (hXS _ hI.d1) rfl (fun W hW => have hI := hSx W hW; (by first | exact rMoveP rfl rfl | exact rMove rfl)) ?_
  refine WT_take 14 rfl rfl (by kernel_rfl) (hXS _ hI.d1) rfl (fun W hW => have hI := hSx W hW; (rNilChk rfl rfl)) ?_
  refine WT_take 15 rfl rfl (by kernel_rfl) (hXS _ hI.d1) rfl (fun W hW => have hI := hSx W hW; (by first | exact rFldN (off := 1) rfl (by kernel_rfl) rfl | exact rFld (off := 1) rfl (by kernel_rfl) rfl)) ?_
  refine WT_take 16 rfl rfl (by kernel_rfl) (hXS _ hI.d1) rfl (fun W hW => have hI := hSx W hW; (by first | exact rLd (v := .int .i64 _) rfl (by kernel_rfl) rfl (by first | exact hI.c0 rfl | exact hI.c1 rfl | exact hI.c2 rfl) | exact rLd rfl (by kernel_rfl) rfl (by first | exact hI.c0 rfl | exact hI.c1 rfl | exact hI.c2 rfl))) ?_
  refine WT_take 17 rfl rfl (by kernel_rfl) (hXS _ hI.d1) rfl (fun W hW => have hI := hSx W hW; (by first | exact rSub rfl rfl rfl (by omega) | exact rSubW rfl rfl rfl)) ?_
  refine WT_take 18 rfl rfl (by kernel_rfl) (hXS _ hI.d1) rfl (fun W hW => have hI := hSx W hW; (by first | exact rInc rfl rfl rfl (by omega) | exact rAdd rfl rfl rfl (by omega) | exact rAddW rfl rfl rfl)) ?_
  refine WT_one 19 rfl (by kernel_rfl) rfl ?_
  refine WL_call rfl rfl rfl (rCall (vs := [.pointer _, .int .i64 _]) rfl Tryd.func67 rfl rfl rfl) ?_
  refine (below_any S D w0 _ _ q A len cp nums u (t - l + 1) (hI.pull 1 rfl) hN hD (by omega) (by omega) (by have : (Ge.wr k l t).sz = 1 := rfl; omega)).mono ?_
  rintro e w1 ⟨rfl, hI1⟩
  refine ⟨_, rfl, ?_⟩
  replace hI : Inv S w0 w1 (B b4 45 #[.bool false, .int .i64 0, .int .i64 0] :: B q 40 #[.slice A len cp, .int .i64 ((u + 1 : Nat) : Int)] :: B b 83 #[.int .i64 k, .int .i64 l, .int .i64 t] :: H) := hI1.back 1
  clear hI1
  refine WL_nil ⟨hXS _ hI.d1, ?_⟩
  refine WT_take 20 rfl rfl (by kernel_rfl) (hXS _ hI.d1) rfl (fun W hW => have hI := hSx W hW; (by first | exact rInc rfl rfl rfl (by omega) | exact rAdd rfl rfl rfl (by omega) | exact rAddW rfl rfl rfl)) ?_
  refine WT_take 21 rfl rfl (by kernel_rfl) (hXS _ hI.d1) rfl (fun W hW => have hI := hSx W hW; (rBuild (qs := [(0, .bool _), (1, .int .i64 _), (2, .int .i64 _)]) (vs := [_, _, _]) [.bool false, .int .i64 0, .int .i64 0] [0, 1, 2] rfl rfl rfl (fun _ => by kernel_rfl))) ?_
  refine WT_A (by kernel_rfl) ?_
  clear hXS hSx
  refine WA_one 22 rfl (by kernel_rfl) ?_
  first | refine WL_stw0 (u := .agg _) (vs := #[_, _, _]) (n := 3) hI rfl rfl rfl rfl rfl rfl (by kernel_rfl) rfl rfl rfl ?_ | refine WL_stw1 (u := .agg _) (vs := #[_, _, _]) (n := 3) hI rfl rfl rfl rfl rfl rfl (by kernel_rfl) rfl rfl rfl ?_ | refine WL_stw2 (u := .agg _) (vs := #[_, _, _]) (n := 3) hI rfl rfl rfl rfl rfl rfl (by kernel_rfl) rfl rfl rfl ?_
  clear hI; intro w hI
  refine WL_nil ?_
  refine WA_one 23 rfl (by kernel_rfl) ?_
  refine WL_val rfl rfl rfl (by first | exact rAsgnB rfl rfl | exact rAsgn rfl) ?_
  refine WL_nil ?_
  refine WA_end (by kernel_rfl) ?_
  refine W_ret ?_
  refine retC2 (n := 3) (t := 45) (.inr rfl) rfl rfl (by kernel_rfl) (by kernel_rfl) rfl hI.g0 ?_
  exact ⟨some (true, k, l + belF nums u (t - l + 1)), .wr k l t, _, u + 1, .wr, .wr h1 h2 h3, rfl, hI.d0⟩
set_option maxHeartbeats 1000000 in
theorem limit_gives (n : Nat) (g : Ge) (v : Value) (L : List Ent) (b : Nat) (hn : n ≤ 1000) (hg : Rep g v L) (hG : Gives nums D A len cp g v L) : Gives nums D A len cp (.lim n g) (.iface 66 (at0 b)) (B b 68 #[v, .int .i64 (n : Int)] :: L) := by
  refine ⟨_, _, 65, rfl, fun y w => by kernel_rfl, ?_⟩
  intro S w0 w H q u hI hN hD hu
  obtain ⟨T, bc, f, rfl, hm, hG⟩ := hG
  simp only [List.cons_append] at hI
  have hsz : (Ge.lim n g).sz = 1 + g.sz := by simp only [Ge.sz]
  unfold tapeE at hI
  refine calls_of_W (N := Tryd.f65.ntmps) Tryd.func65 rfl rfl rfl ?_
  refine W_seq ?_
  refine W_region ?_
  refine WL_alloc (u := .agg #[.bool false, .int .i64 0, .int .i64 0]) (vs := #[.bool false, .int .i64 0, .int .i64 0]) hI rfl rfl rfl rfl (by kernel_rfl) rfl ?_
  clear hI; rintro b4 w - - hI
  refine WL_val rfl rfl rfl (by first | exact rAsgnB rfl rfl | exact rAsgn rfl) ?_
  refine WL_nil ?_
  cases n with
  | zero =>
    refine W_seq ?_
    refine W_seq ?_
    refine W_region ?_
    refine WL_val rfl rfl rfl (by first | exact rMoveP rfl rfl | exact rMove rfl) ?_
    refine WL_val rfl rfl rfl (rNilChk rfl rfl) ?_
    refine WL_val rfl rfl rfl (by first | exact rFldN (off := 1) rfl (by kernel_rfl) rfl | exact rFld (off := 1) rfl (by kernel_rfl) rfl) ?_
    refine WL_val rfl rfl rfl (by first | exact rLd (v := .int .i64 _) rfl (by kernel_rfl) rfl (by first | exact hI.c0 rfl | exact hI.c1 rfl | exact hI.c2 rfl | exact hI.c3 rfl | exact hI.c4 rfl | exact hI.c5 rfl) | exact rLd rfl (by kernel_rfl) rfl (by first | exact hI.c0 rfl | exact hI.c1 rfl | exact hI.c2 rfl | exact hI.c3 rfl | exact hI.c4 rfl | exact hI.c5 rfl)) ?_
    refine WL_val rfl rfl rfl (by first | exact rEqlT rfl rfl rfl (by omega) | exact rEqlF rfl rfl rfl (by omega) | exact rEql rfl rfl rfl) ?_
    refine WL_nil ?_
    refine W_cond true rfl ?_
    refine W_seq ?_
    refine W_region ?_
    refine WL_val rfl rfl rfl (rBuild (qs := []) (vs := [_, _, _]) [.bool false, .int .i64 0, .int .i64 0] [] rfl rfl rfl (fun _ => by kernel_rfl)) ?_
    first | refine WL_stw0 (u := .agg _) (vs := #[_, _, _]) (n := 3) hI rfl rfl rfl rfl rfl rfl (by kernel_rfl) rfl rfl rfl ?_ | refine WL_stw1 (u := .agg _) (vs := #[_, _, _]) (n := 3) hI rfl rfl rfl rfl rfl rfl (by kernel_rfl) rfl rfl rfl ?_ | refine WL_stw2 (u := .agg _) (vs := #[_, _, _]) (n := 3) hI rfl rfl rfl rfl rfl rfl (by kernel_rfl) rfl rfl rfl ?_ | refine WL_stw3 (u := .agg _) (vs := #[_, _, _]) (n := 3) hI rfl rfl rfl rfl rfl rfl (by kernel_rfl) rfl rfl rfl ?_ | refine WL_stw4 (u := .agg _) (vs := #[_, _, _]) (n := 3) hI rfl rfl rfl rfl rfl rfl (by kernel_rfl) rfl rfl rfl ?_ | refine WL_stw5 (u := .agg _) (vs := #[_, _, _]) (n := 3) hI rfl rfl rfl rfl rfl rfl (by kernel_rfl) rfl rfl rfl ?_
    clear hI; intro w hI
    refine WL_val rfl rfl rfl (by first | exact rAsgnB rfl rfl | exact rAsgn rfl) ?_
    refine WL_nil ?_
    refine W_ret ?_
    refine retC2 (n := 3) (t := 45) (.inr rfl) rfl rfl (by kernel_rfl) (by kernel_rfl) rfl hI.g0 ?_
    exact ⟨none, .lim 0 g, _, u, .lim0, .lim hn hg, rfl, hI.d0⟩
  | succ n =>
    refine W_seq ?_
    refine W_seq ?_
    refine W_region ?_
    refine WL_val rfl rfl rfl (by first | exact rMoveP rfl rfl | exact rMove rfl) ?_
    refine WL_val rfl rfl rfl (rNilChk rfl rfl) ?_
    refine WL_val rfl rfl rfl (by first | exact rFldN (off := 1) rfl (by kernel_rfl) rfl | exact rFld (off := 1) rfl (by kernel_rfl) rfl) ?_
    refine WL_val rfl rfl rfl (by first | exact rLd (v := .int .i64 _) rfl (by kernel_rfl) rfl (by first | exact hI.c0 rfl | exact hI.c1 rfl | exact hI.c2 rfl | exact hI.c3 rfl | exact hI.c4 rfl | exact hI.c5 rfl) | exact rLd rfl (by kernel_rfl) rfl (by first | exact hI.c0 rfl | exact hI.c1 rfl | exact hI.c2 rfl | exact hI.c3 rfl | exact hI.c4 rfl | exact hI.c5 rfl)) ?_
    refine WL_val rfl rfl rfl (by first | exact rEqlT rfl rfl rfl (by omega) | exact rEqlF rfl rfl rfl (by omega) | exact rEql rfl rfl rfl) ?_
    refine WL_nil ?_
    refine W_cond false rfl ?_
    refine W_skip ?_
    refine W_seq ?_
    refine W_region ?_
    refine WL_val rfl rfl rfl (by first | exact rMoveP rfl rfl | exact rMove rfl) ?_
    refine WL_val rfl rfl rfl (rNilChk rfl rfl) ?_
    refine WL_val rfl rfl rfl (by first | exact rFldN (off := 1) rfl (by kernel_rfl) rfl | exact rFld (off := 1) rfl (by kernel_rfl) rfl) ?_
    refine WL_val rfl rfl rfl (by first | exact rLd (v := .int .i64 _) rfl (by kernel_rfl) rfl (by first | exact hI.c0 rfl | exact hI.c1 rfl | exact hI.c2 rfl | exact hI.c3 rfl | exact hI.c4 rfl | exact hI.c5 rfl) | exact rLd rfl (by kernel_rfl) rfl (by first | exact hI.c0 rfl | exact hI.c1 rfl | exact hI.c2 rfl | exact hI.c3 rfl | exact hI.c4 rfl | exact hI.c5 rfl)) ?_
    refine WL_val rfl rfl rfl (rDecN (a := n + 1) (b := 1) rfl rfl rfl (by omega) (by omega)) ?_
    refine WL_val rfl rfl rfl (rNilChk rfl rfl) ?_
    refine WL_val rfl rfl rfl (by first | exact rFldN (off := 1) rfl (by kernel_rfl) rfl | exact rFld (off := 1) rfl (by kernel_rfl) rfl) ?_
    first | refine WL_stw0 (u := .int .i64 _) (vs := #[_]) (n := 1) hI rfl rfl rfl rfl rfl rfl (by kernel_rfl) rfl rfl rfl ?_ | refine WL_stw1 (u := .int .i64 _) (vs := #[_]) (n := 1) hI rfl rfl rfl rfl rfl rfl (by kernel_rfl) rfl rfl rfl ?_ | refine WL_stw2 (u := .int .i64 _) (vs := #[_]) (n := 1) hI rfl rfl rfl rfl rfl rfl (by kernel_rfl) rfl rfl rfl ?_ | refine WL_stw3 (u := .int .i64 _) (vs := #[_]) (n := 1) hI rfl rfl rfl rfl rfl rfl (by kernel_rfl) rfl rfl rfl ?_ | refine WL_stw4 (u := .int .i64 _) (vs := #[_]) (n := 1) hI rfl rfl rfl rfl rfl rfl (by kernel_rfl) rfl rfl rfl ?_ | refine WL_stw5 (u := .int .i64 _) (vs := #[_]) (n := 1) hI rfl rfl rfl rfl rfl rfl (by kernel_rfl) rfl rfl rfl ?_ | refine WL_st0 (u := .int .i64 _) hI rfl rfl rfl rfl rfl rfl (by kernel_rfl) rfl rfl rfl ?_ | refine WL_st1 (u := .int .i64 _) hI rfl rfl rfl rfl rfl rfl (by kernel_rfl) rfl rfl rfl ?_ | refine WL_st2 (u := .int .i64 _) hI rfl rfl rfl rfl rfl rfl (by kernel_rfl) rfl rfl rfl ?_ | refine WL_st3 (u := .int .i64 _) hI rfl rfl rfl rfl rfl rfl (by kernel_rfl) rfl rfl rfl ?_ | refine WL_st4 (u := .int .i64 _) hI rfl rfl rfl rfl rfl rfl (by kernel_rfl) rfl rfl rfl ?_ | refine WL_st5 (u := .int .i64 _) hI rfl rfl rfl rfl rfl rfl (by kernel_rfl) rfl rfl rfl ?_
    clear hI; intro w hI
    refine WL_nil ?_
    refine W_seq ?_
    refine W_region ?_
    refine WL_val rfl rfl rfl (by first | exact rMoveP rfl rfl | exact rMove rfl) ?_
    refine WL_val rfl rfl rfl (rNilChk rfl rfl) ?_
    refine WL_val rfl rfl rfl (by first | exact rFldN (off := 0) rfl (by kernel_rfl) rfl | exact rFld0 rfl (by kernel_rfl) rfl) ?_
    refine WL_val rfl rfl rfl (rLd rfl (by kernel_rfl) rfl (by first | exact hI.c0 rfl | exact hI.c1 rfl | exact hI.c2 rfl)) ?_
    refine WL_val rfl rfl rfl (by first | exact rMoveP rfl rfl | exact rMove rfl) ?_
    refine WL_call rfl rfl rfl (rCallI (f := f) (vs := [_]) rfl rfl rfl (fun w => hm _ w)) ?_
    refine (hG S w0 _ _ q u ((hI.pull 1 rfl).mid1 (X := [_, _])) hN hD (by omega)).mono ?_
    rintro e w1 ⟨r, g', L', u', hx, hr, rfl, hI1⟩
    unfold caV
    refine ⟨_, rfl, ?_⟩
    replace hI : Inv S w0 w1 (B b4 45 #[.bool false, .int .i64 0, .int .i64 0] :: B q 40 #[.slice A len cp, .int .i64 (u' : Int)] :: B b 68 #[.iface T (at0 bc), .int .i64 (n : Int)] :: (L' ++ H)) := (hI1.mid1 (L := [_, _])).back 1
    clear hI1
    refine WL_val rfl rfl rfl (rExtr rfl rfl rfl) ?_
    refine WL_val rfl rfl rfl (rExtr rfl rfl rfl) ?_
    first | refine WL_stw0 (u := .agg _) (vs := #[_, _, _]) (n := 3) hI rfl rfl rfl rfl rfl rfl (by kernel_rfl) rfl rfl rfl ?_ | refine WL_stw1 (u := .agg _) (vs := #[_, _, _]) (n := 3) hI rfl rfl rfl rfl rfl rfl (by kernel_rfl) rfl rfl rfl ?_ | refine WL_stw2 (u := .agg _) (vs := #[_, _, _]) (n := 3) hI rfl rfl rfl rfl rfl rfl (by kernel_rfl) rfl rfl rfl ?_
    clear hI; intro w hI
    refine WL_val rfl rfl rfl (by first | exact rAsgnB rfl rfl | exact rAsgn rfl) ?_
    refine WL_nil ?_
    refine W_ret ?_
    refine retC2 (n := 3) (t := 45) (.inr rfl) rfl rfl (by kernel_rfl) (by kernel_rfl) rfl hI.g0 ?_
    exact ⟨r, .lim n g', _, u', .lim hx, .lim (by omega) hr, rfl, hI.d0⟩
set_option maxHeartbeats 2000000 in
theorem mix_gives (gs0 : List Ge) (vs0 : List Value) (L0 : List Ent) (b : Nat) (A0 : Option Addr) (c0 : Nat) (hl0 : gs0.length ≤ 1000000) (hg0 : RepL gs0 vs0 L0) (hG : ∀ g, szL gs0 ≥ g.sz → ∀ v L, Rep g v L → Gives nums D A len cp g v L) :
    Gives nums D A len cp (.mix gs0) (.iface 72 (at0 b)) (B b 74 #[.slice A0 gs0.length c0] :: Row 0 33 1 A0 gs0.length c0 vs0 :: L0) := by
  refine ⟨_, _, 66, rfl, fun y w => by kernel_rfl, ?_⟩
  intro S w0 w H q u0 hI hN hD hu
  simp only [List.cons_append] at hI
  have hsz : ∀ gs, (Ge.mix gs).sz = 1 + szL gs := fun gs => by simp only [Ge.sz]
  unfold tapeE at hI
  refine calls_of_W (N := Tryd.f66.ntmps) Tryd.func66 rfl rfl rfl ?_
  refine W_seq ?_
  refine W_region ?_
  refine WL_alloc (u := .agg #[.bool false, .int .i64 0, .int .i64 0]) (vs := #[.bool false, .int .i64 0, .int .i64 0]) hI rfl rfl rfl rfl (by kernel_rfl) rfl ?_
  clear hI; rintro b4 w - - hI
  refine WL_val rfl rfl rfl (by first | exact rAsgnB rfl rfl | exact rAsgn rfl) ?_
  refine WL_nil ?_
  refine W_seq ?_
  refine W_block ?_
  refine W_loopN (fun mu ρ w => ∃ (gs : List Ge) (vs : List Value) (L : List Ent) (A1 : Option Addr) (c1 u : Nat), mu = gs.length ∧ gs.length ≤ 1000000 ∧ szL gs ≤ szL gs0 ∧ RepL gs vs L ∧ u + (Ge.mix gs).sz ≤ 4611686018427387904 ∧ (∀ r g'' u'', Nx nums (.mix gs) u r g'' u'' → Nx nums (.mix gs0) u0 r g'' u'') ∧ Has ρ [(0, at0 b), (1, at0 q), (4, at0 b4)] ∧
      Inv S w0 w (B b4 45 #[.bool false, .int .i64 0, .int .i64 0] :: B q 40 #[.slice A len cp, .int .i64 (u : Int)] :: B b 74 #[.slice A1 gs.length c1] :: Row 0 33 1 A1 gs.length c1 vs :: (L ++ H))) gs0.length
    ⟨gs0, vs0, L0, A0, c0, u0, rfl, hl0, Nat.le_refl _, hg0, hu, fun _ _ _ h => h, ⟨rfl, rfl, rfl, trivial⟩, hI⟩ ?_
  clear hI hu
  rintro mu ρ w ⟨gs, vs, L, A1, c1, u, rfl, hl, hle, hg, hu, hx0, hH, hI⟩
  obtain ⟨σ, rfl⟩ := hH.open
  rcases Nat.eq_zero_or_pos gs.length with hz | hpos
  · have hgs : gs = [] := List.eq_nil_of_length_eq_zero hz
    subst hgs
    simp only [List.length_nil] at hI
    refine W_seq ?_
    refine W_seq ?_
    refine W_region ?_
    refine WL_val rfl rfl rfl (by first | exact rMoveP rfl rfl | exact rMove rfl) ?_
    refine WL_val rfl rfl rfl (rNilChk rfl rfl) ?_
    refine WL_val rfl rfl rfl (by first | exact rFldN (off := 0) rfl (by kernel_rfl) rfl | exact rFld0 rfl (by kernel_rfl) rfl) ?_
    refine WL_val rfl rfl rfl (by first | exact rLd (v := .slice _ _ _) rfl (by kernel_rfl) rfl (by first | exact hI.c0 rfl | exact hI.c1 rfl | exact hI.c2 rfl | exact hI.c3 rfl | exact hI.c4 rfl | exact hI.c5 rfl) | exact rLd rfl (by kernel_rfl) rfl (by first | exact hI.c0 rfl | exact hI.c1 rfl | exact hI.c2 rfl | exact hI.c3 rfl | exact hI.c4 rfl | exact hI.c5 rfl)) ?_
    refine WL_val rfl rfl rfl (rLen rfl Tryd.underlying69 rfl) ?_
    refine WL_val rfl rfl rfl (by first | exact rGtrT rfl rfl rfl (by omega) | exact rGtrF rfl rfl rfl (by omega) | exact rGtr rfl rfl rfl) ?_
    refine WL_nil ?_
    refine W_cond false rfl ?_
    refine W_exit ?_
    refine W_seq ?_
    refine W_region ?_
    refine WL_val rfl rfl rfl (rBuild (qs := []) (vs := [_, _, _]) [.bool false, .int .i64 0, .int .i64 0] [] rfl rfl rfl (fun _ => by kernel_rfl)) ?_
    first | refine WL_stw0 (u := .agg _) (vs := #[_, _, _]) (n := 3) hI rfl rfl rfl rfl rfl rfl (by kernel_rfl) rfl rfl rfl ?_ | refine WL_stw1 (u := .agg _) (vs := #[_, _, _]) (n := 3) hI rfl rfl rfl rfl rfl rfl (by kernel_rfl) rfl rfl rfl ?_ | refine WL_stw2 (u := .agg _) (vs := #[_, _, _]) (n := 3) hI rfl rfl rfl rfl rfl rfl (by kernel_rfl) rfl rfl rfl ?_ | refine WL_stw3 (u := .agg _) (vs := #[_, _, _]) (n := 3) hI rfl rfl rfl rfl rfl rfl (by kernel_rfl) rfl rfl rfl ?_ | refine WL_stw4 (u := .agg _) (vs := #[_, _, _]) (n := 3) hI rfl rfl rfl rfl rfl rfl (by kernel_rfl) rfl rfl rfl ?_ | refine WL_stw5 (u := .agg _) (vs := #[_, _, _]) (n := 3) hI rfl rfl rfl rfl rfl rfl (by kernel_rfl) rfl rfl rfl ?_
    clear hI; intro w hI
    refine WL_val rfl rfl rfl (by first | exact rAsgnB rfl rfl | exact rAsgn rfl) ?_
    refine WL_nil ?_
    refine W_ret ?_
    refine retC2 (n := 3) (t := 45) (.inr rfl) rfl rfl (by kernel_rfl) (by kernel_rfl) rfl hI.g0 ?_
    exact ⟨none, .mix [], _, u, hx0 _ _ _ .mix0, .mix (by simp) hg, rfl, hI.d0.sw0.sw0⟩
  have hbl := belF_lt nums u (gs.length : Int) (by omega)
  obtain ⟨i, hi⟩ : ∃ i : Nat, belF nums u (gs.length : Int) = (i : Int) := ⟨(belF nums u (gs.length : Int)).toNat, by omega⟩
  have hil : i < gs.length := by omega
  obtain ⟨g, hgi⟩ : ∃ g, gs[i]? = some g := ⟨gs[i], List.getElem?_eq_getElem hil⟩
  obtain ⟨v, M, R, hvi, hrg, hp, hrE, hrS⟩ := hg.at_ i g hgi
  have hszi := szL_erase gs i g hgi
  obtain ⟨T, bc, f, rfl, hm, hGi⟩ := hG g (by omega) v M hrg
  obtain ⟨ga, rfl, -⟩ := (hI.pull 3 rfl).rowGet hvi
  have hMix := hsz gs
  replace hI : Inv S w0 w (B b4 45 #[.bool false, .int .i64 0, .int .i64 0] :: B q 40 #[.slice A len cp, .int .i64 (u : Int)] :: B b 74 #[.slice (some ⟨ga, 0, none⟩) gs.length c1] :: Row 0 33 1 (some ⟨ga, 0, none⟩) gs.length c1 vs :: (M ++ (R ++ H))) :=
    hI.perm (((((by rw [← List.append_assoc]; exact hp.append_right H : (L ++ H).Perm (M ++ (R ++ H))).cons _).cons _).cons _).cons _)
  refine W_seq ?_
  refine W_seq ?_
  refine W_region ?_
  refine WL_val rfl rfl rfl (by first | exact rMoveP rfl rfl | exact rMove rfl) ?_
  refine WL_val rfl rfl rfl (rNilChk rfl rfl) ?_
  refine WL_val rfl rfl rfl (by first | exact rFldN (off := 0) rfl (by kernel_rfl) rfl | exact rFld0 rfl (by kernel_rfl) rfl) ?_
  refine WL_val rfl rfl rfl (by first | exact rLd (v := .slice _ _ _) rfl (by kernel_rfl) rfl (by first | exact hI.c0 rfl | exact hI.c1 rfl | exact hI.c2 rfl | exact hI.c3 rfl | exact hI.c4 rfl | exact hI.c5 rfl) | exact rLd rfl (by kernel_rfl) rfl (by first | exact hI.c0 rfl | exact hI.c1 rfl | exact hI.c2 rfl | exact hI.c3 rfl | exact hI.c4 rfl | exact hI.c5 rfl)) ?_
  refine WL_val rfl rfl rfl (rLen rfl Tryd.underlying69 rfl) ?_
  refine WL_val rfl rfl rfl (by first | exact rGtrT rfl rfl rfl (by omega) | exact rGtrF rfl rfl rfl (by omega) | exact rGtr rfl rfl rfl) ?_
  refine WL_nil ?_
  refine W_cond true rfl ?_
  refine W_skip ?_
  refine W_block ?_
  refine W_seq ?_
  refine W_region ?_
  refine WL_val rfl rfl rfl (by first | exact rMoveP rfl rfl | exact rMove rfl) ?_
  refine WL_val rfl rfl rfl (by first | exact rMoveP rfl rfl | exact rMove rfl) ?_
  refine WL_val rfl rfl rfl (rNilChk rfl rfl) ?_
  refine WL_val rfl rfl rfl (by first | exact rFldN (off := 0) rfl (by kernel_rfl) rfl | exact rFld0 rfl (by kernel_rfl) rfl) ?_
  refine WL_val rfl rfl rfl (by first | exact rLd (v := .slice _ _ _) rfl (by kernel_rfl) rfl (by first | exact hI.c0 rfl | exact hI.c1 rfl | exact hI.c2 rfl) | exact rLd rfl (by kernel_rfl) rfl (by first | exact hI.c0 rfl | exact hI.c1 rfl | exact hI.c2 rfl)) ?_
  refine WL_val rfl rfl rfl (rLen rfl Tryd.underlying69 rfl) ?_
  refine WL_call rfl rfl rfl (rCall (vs := [.pointer _, .int .i64 _]) rfl Tryd.func67 rfl rfl rfl) ?_
  refine (below_any S D w0 _ _ q A len cp nums u (gs.length : Int) (hI.pull 1 rfl) hN hD (by omega) (by omega) (by omega)).mono ?_
  rintro e w1 ⟨rfl, hI1⟩
  rw [hi]
  refine ⟨_, rfl, ?_⟩
  replace hI : Inv S w0 w1 (B b4 45 #[.bool false, .int .i64 0, .int .i64 0] :: B q 40 #[.slice A len cp, .int .i64 ((u + 1 : Nat) : Int)] :: B b 74 #[.slice (some ⟨ga, 0, none⟩) gs.length c1] :: Row 0 33 1 (some ⟨ga, 0, none⟩) gs.length c1 vs :: (M ++ (R ++ H))) := hI1.back 1
  clear hI1
  refine WL_val rfl rfl rfl (by first | exact rAsgnI rfl rfl | exact rAsgn rfl) ?_
  refine WL_nil ?_
  refine W_seq ?_
  refine W_seq ?_
  refine W_region ?_
  refine WL_val rfl rfl rfl (by first | exact rMoveP rfl rfl | exact rMove rfl) ?_
  refine WL_val rfl rfl rfl (rNilChk rfl rfl) ?_
  refine WL_val rfl rfl rfl (by first | exact rFldN (off := 0) rfl (by kernel_rfl) rfl | exact rFld0 rfl (by kernel_rfl) rfl) ?_
  refine WL_val rfl rfl rfl (by first | exact rLd (v := .slice _ _ _) rfl (by kernel_rfl) rfl (by first | exact hI.c0 rfl | exact hI.c1 rfl | exact hI.c2 rfl | exact hI.c3 rfl | exact ((hI.pull 3 rfl).rowCell hvi)) | exact rLd rfl (by kernel_rfl) rfl (by first | exact hI.c0 rfl | exact hI.c1 rfl | exact hI.c2 rfl | exact hI.c3 rfl | exact ((hI.pull 3 rfl).rowCell hvi))) ?_
  refine WL_val rfl rfl rfl (by first | exact rMoveI rfl rfl | exact rMove rfl) ?_
  refine WL_val rfl rfl rfl (rIdx0 rfl Tryd.underlying69 (by kernel_rfl) rfl rfl rfl (by omega)) ?_
  refine WL_val rfl rfl rfl (rLd rfl (by kernel_rfl) rfl (by first | exact hI.c0 rfl | exact hI.c1 rfl | exact hI.c2 rfl | exact hI.c3 rfl | exact ((hI.pull 3 rfl).rowCell hvi))) ?_
  refine WL_val rfl rfl rfl (by first | exact rMoveP rfl rfl | exact rMove rfl) ?_
  refine WL_call rfl rfl rfl (rCallI (f := f) (vs := [_]) rfl rfl rfl (fun w => hm _ w)) ?_
  refine (hGi S w0 _ _ q (u + 1) ((hI.pull 1 rfl).mid1 (X := [_, _, _])) hN hD (by omega)).mono ?_
  rintro e w1 ⟨r, g', M', u', hx, hr, rfl, hI1⟩
  unfold caV
  refine ⟨_, rfl, ?_⟩
  replace hI : Inv S w0 w1 (B b4 45 #[.bool false, .int .i64 0, .int .i64 0] :: B q 40 #[.slice A len cp, .int .i64 (u' : Int)] :: B b 74 #[.slice (some ⟨ga, 0, none⟩) gs.length c1] :: Row 0 33 1 (some ⟨ga, 0, none⟩) gs.length c1 vs :: (M' ++ (R ++ H))) := (hI1.mid1 (L := [_, _, _])).back 1
  clear hI1
  refine WL_val rfl rfl rfl (by first | exact rMoveT rfl rfl | exact rMove rfl) ?_
  refine WL_val rfl rfl rfl (rExtr rfl rfl rfl) ?_
  refine WL_val rfl rfl rfl (rExtr rfl rfl rfl) ?_
  refine WL_alloc (u := .agg #[.bool false, .int .i64 0, .int .i64 0]) (vs := #[.bool false, .int .i64 0, .int .i64 0]) hI rfl rfl rfl rfl (by kernel_rfl) rfl ?_
  clear hI; rintro b7 w - - hI
  first | refine WL_stw0 (u := .agg _) (vs := #[_, _, _]) (n := 3) hI rfl rfl rfl rfl rfl rfl (by kernel_rfl) rfl rfl rfl ?_ | refine WL_stw1 (u := .agg _) (vs := #[_, _, _]) (n := 3) hI rfl rfl rfl rfl rfl rfl (by kernel_rfl) rfl rfl rfl ?_ | refine WL_stw2 (u := .agg _) (vs := #[_, _, _]) (n := 3) hI rfl rfl rfl rfl rfl rfl (by kernel_rfl) rfl rfl rfl ?_ | refine WL_stw3 (u := .agg _) (vs := #[_, _, _]) (n := 3) hI rfl rfl rfl rfl rfl rfl (by kernel_rfl) rfl rfl rfl ?_
  clear hI; intro w hI
  refine WL_val rfl rfl rfl (by first | exact rAsgnB rfl rfl | exact rAsgn rfl) ?_
  refine WL_nil ?_
  refine W_seq ?_
  refine W_region ?_
  refine WL_val rfl rfl rfl (by first | exact rMoveB rfl rfl | exact rMove rfl) ?_
  refine WL_nil ?_
  cases r with
  | some c =>
    refine W_cond true rfl ?_
    refine W_seq ?_
    refine W_region ?_
    refine WL_val rfl rfl rfl (by first | exact rLdB (n := 3) rfl (by kernel_rfl) (by kernel_rfl) rfl rfl hI.g0 | exact rLdB (n := 3) rfl (by kernel_rfl) (by kernel_rfl) rfl rfl hI.g1 | exact rLdB (n := 3) rfl (by kernel_rfl) (by kernel_rfl) rfl rfl hI.g2 | exact rLdB (n := 3) rfl (by kernel_rfl) (by kernel_rfl) rfl rfl hI.g3 | exact rLdB (n := 3) rfl (by kernel_rfl) (by kernel_rfl) rfl rfl hI.g4 | exact rLdB (n := 3) rfl (by kernel_rfl) (by kernel_rfl) rfl rfl hI.g5 | exact rLd3 rfl (by kernel_rfl) (by kernel_rfl) rfl (by first | exact hI.c0 rfl | exact hI.c1 rfl | exact hI.c2 rfl | exact hI.c3 rfl | exact hI.c4 rfl | exact hI.c5 rfl) (by first | exact hI.c0 rfl | exact hI.c1 rfl | exact hI.c2 rfl | exact hI.c3 rfl | exact hI.c4 rfl | exact hI.c5 rfl) (by first | exact hI.c0 rfl | exact hI.c1 rfl | exact hI.c2 rfl | exact hI.c3 rfl | exact hI.c4 rfl | exact hI.c5 rfl)) ?_
    first | refine WL_stw0 (u := .agg _) (vs := #[_, _, _]) (n := 3) hI rfl rfl rfl rfl rfl rfl (by kernel_rfl) rfl rfl rfl ?_ | refine WL_stw1 (u := .agg _) (vs := #[_, _, _]) (n := 3) hI rfl rfl rfl rfl rfl rfl (by kernel_rfl) rfl rfl rfl ?_ | refine WL_stw2 (u := .agg _) (vs := #[_, _, _]) (n := 3) hI rfl rfl rfl rfl rfl rfl (by kernel_rfl) rfl rfl rfl ?_ | refine WL_stw3 (u := .agg _) (vs := #[_, _, _]) (n := 3) hI rfl rfl rfl rfl rfl rfl (by kernel_rfl) rfl rfl rfl ?_ | refine WL_stw4 (u := .agg _) (vs := #[_, _, _]) (n := 3) hI rfl rfl rfl rfl rfl rfl (by kernel_rfl) rfl rfl rfl ?_ | refine WL_stw5 (u := .agg _) (vs := #[_, _, _]) (n := 3) hI rfl rfl rfl rfl rfl rfl (by kernel_rfl) rfl rfl rfl ?_
    clear hI; intro w hI
    refine WL_val rfl rfl rfl (by first | exact rAsgnB rfl rfl | exact rAsgn rfl) ?_
    refine WL_nil ?_
    refine W_ret ?_
    refine retC2 (n := 3) (t := 45) (.inr rfl) rfl rfl (by kernel_rfl) (by kernel_rfl) rfl hI.g1 ?_
    obtain ⟨L2, hL2, hp2⟩ := hrS g' M' hr
    refine ⟨some c, .mix (gs.set i g'), _, u', hx0 _ _ _ (.mixS hgi (by rw [hi]) hx), .mix (A := some ⟨ga, 0, none⟩) (c := c1) (by rw [List.length_set]; exact hl) hL2, rfl, ?_⟩
    rw [List.length_set]
    refine hI.d0.d0.perm ?_
    have hpp : (M' ++ (R ++ H)).Perm (L2 ++ H) := by rw [← List.append_assoc]; exact hp2.symm.append_right H
    exact ((hpp.cons _).cons _).cons _
  | none =>
    refine W_cond false rfl ?_
    refine W_skip ?_
    replace hI := hI.d0
    refine W_region ?_
    refine WL_val rfl rfl rfl (by first | exact rMoveP rfl rfl | exact rMove rfl) ?_
    refine WL_val rfl rfl rfl (by first | exact rMoveP rfl rfl | exact rMove rfl) ?_
    refine WL_val rfl rfl rfl (rNilChk rfl rfl) ?_
    refine WL_val rfl rfl rfl (by first | exact rFldN (off := 0) rfl (by kernel_rfl) rfl | exact rFld0 rfl (by kernel_rfl) rfl) ?_
    refine WL_val rfl rfl rfl (by first | exact rLd (v := .slice _ _ _) rfl (by kernel_rfl) rfl (by first | exact hI.c0 rfl | exact hI.c1 rfl | exact hI.c2 rfl) | exact rLd rfl (by kernel_rfl) rfl (by first | exact hI.c0 rfl | exact hI.c1 rfl | exact hI.c2 rfl)) ?_
    refine WL_val rfl rfl rfl (by first | exact rMoveI rfl rfl | exact rMove rfl) ?_
    refine WL_val rfl rfl rfl (by first | exact rMoveI rfl rfl | exact rMove rfl) ?_
    refine WL_val rfl rfl rfl (by first | exact rInc rfl rfl rfl (by omega) | exact rAdd rfl rfl rfl (by omega) | exact rAddW rfl rfl rfl) ?_
    refine WL_call rfl rfl rfl (rCall (vs := [.slice _ _ _, .int .i64 _, .int .i64 _]) rfl Tryd.func68 rfl rfl rfl) ?_
    refine (gdel_inv (hI.pull 3 rfl) hg.one hil hl).mono ?_
    rintro e w1 ⟨A', c', rfl, hI1⟩
    refine ⟨_, rfl, ?_⟩
    replace hI : Inv S w0 w1 (B b4 45 #[.bool false, .int .i64 0, .int .i64 0] :: B q 40 #[.slice A len cp, .int .i64 (u' : Int)] :: B b 74 #[.slice (some ⟨ga, 0, none⟩) gs.length c1] :: Row 0 33 1 A' (gs.length - 1) c' (vs.eraseIdx i) :: (M' ++ (R ++ H))) := hI1.back 3
    clear hI1
    refine WL_val rfl rfl rfl (rNilChk rfl rfl) ?_
    refine WL_val rfl rfl rfl (by first | exact rFldN (off := 0) rfl (by kernel_rfl) rfl | exact rFld0 rfl (by kernel_rfl) rfl) ?_
    first | refine WL_stw0 (u := .slice _ _ _) (vs := #[_]) (n := 1) hI rfl rfl rfl rfl rfl rfl (by kernel_rfl) rfl rfl rfl ?_ | refine WL_stw1 (u := .slice _ _ _) (vs := #[_]) (n := 1) hI rfl rfl rfl rfl rfl rfl (by kernel_rfl) rfl rfl rfl ?_ | refine WL_stw2 (u := .slice _ _ _) (vs := #[_]) (n := 1) hI rfl rfl rfl rfl rfl rfl (by kernel_rfl) rfl rfl rfl ?_ | refine WL_st0 (u := .slice _ _ _) hI rfl rfl rfl rfl rfl rfl (by kernel_rfl) rfl rfl rfl ?_ | refine WL_st1 (u := .slice _ _ _) hI rfl rfl rfl rfl rfl rfl (by kernel_rfl) rfl rfl rfl ?_ | refine WL_st2 (u := .slice _ _ _) hI rfl rfl rfl rfl rfl rfl (by kernel_rfl) rfl rfl rfl ?_
    clear hI; intro w hI
    refine WL_nil ?_
    have hlE : (gs.eraseIdx i).length = gs.length - 1 := by rw [List.length_eraseIdx_of_lt hil]
    refine ⟨(gs.eraseIdx i).length, by omega, gs.eraseIdx i, vs.eraseIdx i, R, A', c', u', rfl, by omega, by omega, hrE, ?_, fun r g'' u'' h => hx0 _ _ _ (.mixN hgi (by rw [hi]) hx h), ⟨rfl, rfl, rfl, trivial⟩, ?_⟩
    · have := hx.sz
      have := hsz (gs.eraseIdx i)
      omega
    · rw [hlE]
      exact hI.sub (((((List.sublist_append_right ..).cons_cons _).cons_cons _).cons_cons _).cons_cons _)
set_option maxHeartbeats 2000000 in
theorem then_gives (gs0 : List Ge) (vs0 : List Value) (L0 : List Ent) (b : Nat) (A0 : Option Addr) (c0 : Nat) (hl0 : gs0.length ≤ 1000000) (hg0 : RepL gs0 vs0 L0) (hG : ∀ g, szL gs0 ≥ g.sz → ∀ v L, Rep g v L → Gives nums D A len cp g v L) :
    Gives nums D A len cp (.thn gs0) (.iface 75 (at0 b)) (B b 76 #[.slice A0 gs0.length c0] :: Win 33 1 A0 gs0.length c0 vs0 :: L0) := by
  refine ⟨_, _, 69, rfl, fun y w => by kernel_rfl, ?_⟩
  intro S w0 w H q u0 hI hN hD hu
  simp only [List.cons_append] at hI
  have hsz : ∀ gs, (Ge.thn gs).sz = 1 + szL gs := fun gs => by simp only [Ge.sz]
  unfold tapeE at hI
  refine calls_of_W (N := Tryd.f69.ntmps) Tryd.func69 rfl rfl rfl ?_
  refine W_seq ?_
  refine W_region ?_
  refine WL_alloc (u := .agg #[.bool false, .int .i64 0, .int .i64 0]) (vs := #[.bool false, .int .i64 0, .int .i64 0]) hI rfl rfl rfl rfl (by kernel_rfl) rfl ?_
  clear hI; rintro b4 w - - hI
  refine WL_val rfl rfl rfl (by first | exact rAsgnB rfl rfl | exact rAsgn rfl) ?_
  refine WL_nil ?_
  refine W_seq ?_
  refine W_block ?_
  refine W_loopN (fun mu ρ w => ∃ (gs : List Ge) (vs : List Value) (L : List Ent) (A1 : Option Addr) (c1 u : Nat), mu = gs.length ∧ gs.length ≤ 1000000 ∧ szL gs ≤ szL gs0 ∧ RepL gs vs L ∧ u + (Ge.thn gs).sz ≤ 4611686018427387904 ∧ (∀ r g'' u'', Nx nums (.thn gs) u r g'' u'' → Nx nums (.thn gs0) u0 r g'' u'') ∧ Has ρ [(0, at0 b), (1, at0 q), (4, at0 b4)] ∧
      Inv S w0 w (B b4 45 #[.bool false, .int .i64 0, .int .i64 0] :: B q 40 #[.slice A len cp, .int .i64 (u : Int)] :: B b 76 #[.slice A1 gs.length c1] :: Win 33 1 A1 gs.length c1 vs :: (L ++ H))) gs0.length
    ⟨gs0, vs0, L0, A0, c0, u0, rfl, hl0, Nat.le_refl _, hg0, hu, fun _ _ _ h => h, ⟨rfl, rfl, rfl, trivial⟩, hI⟩ ?_
  clear hI hu
  rintro mu ρ w ⟨gs, vs, L, A1, c1, u, rfl, hl, hle, hg, hu, hx0, hH, hI⟩
  obtain ⟨σ, rfl⟩ := hH.open
  cases hg with
  | nil =>
    simp only [List.length_nil] at hI
    refine W_seq ?_
    refine W_seq ?_
    refine W_region ?_
    refine WL_val rfl rfl rfl (by first | exact rMoveP rfl rfl | exact rMove rfl) ?_
    refine WL_val rfl rfl rfl (rNilChk rfl rfl) ?_
    refine WL_val rfl rfl rfl (by first | exact rFldN (off := 0) rfl (by kernel_rfl) rfl | exact rFld0 rfl (by kernel_rfl) rfl) ?_
    refine WL_val rfl rfl rfl (by first | exact rLd (v := .slice _ _ _) rfl (by kernel_rfl) rfl (by first | exact hI.c0 rfl | exact hI.c1 rfl | exact hI.c2 rfl | exact hI.c3 rfl | exact hI.c4 rfl | exact hI.c5 rfl) | exact rLd rfl (by kernel_rfl) rfl (by first | exact hI.c0 rfl | exact hI.c1 rfl | exact hI.c2 rfl | exact hI.c3 rfl | exact hI.c4 rfl | exact hI.c5 rfl)) ?_
    refine WL_val rfl rfl rfl (rLen rfl Tryd.underlying69 rfl) ?_
    refine WL_val rfl rfl rfl (by first | exact rGtrT rfl rfl rfl (by omega) | exact rGtrF rfl rfl rfl (by omega) | exact rGtr rfl rfl rfl) ?_
    refine WL_nil ?_
    refine W_cond false rfl ?_
    refine W_exit ?_
    refine W_seq ?_
    refine W_region ?_
    refine WL_val rfl rfl rfl (rBuild (qs := []) (vs := [_, _, _]) [.bool false, .int .i64 0, .int .i64 0] [] rfl rfl rfl (fun _ => by kernel_rfl)) ?_
    first | refine WL_stw0 (u := .agg _) (vs := #[_, _, _]) (n := 3) hI rfl rfl rfl rfl rfl rfl (by kernel_rfl) rfl rfl rfl ?_ | refine WL_stw1 (u := .agg _) (vs := #[_, _, _]) (n := 3) hI rfl rfl rfl rfl rfl rfl (by kernel_rfl) rfl rfl rfl ?_ | refine WL_stw2 (u := .agg _) (vs := #[_, _, _]) (n := 3) hI rfl rfl rfl rfl rfl rfl (by kernel_rfl) rfl rfl rfl ?_ | refine WL_stw3 (u := .agg _) (vs := #[_, _, _]) (n := 3) hI rfl rfl rfl rfl rfl rfl (by kernel_rfl) rfl rfl rfl ?_ | refine WL_stw4 (u := .agg _) (vs := #[_, _, _]) (n := 3) hI rfl rfl rfl rfl rfl rfl (by kernel_rfl) rfl rfl rfl ?_ | refine WL_stw5 (u := .agg _) (vs := #[_, _, _]) (n := 3) hI rfl rfl rfl rfl rfl rfl (by kernel_rfl) rfl rfl rfl ?_
    clear hI; intro w hI
    refine WL_val rfl rfl rfl (by first | exact rAsgnB rfl rfl | exact rAsgn rfl) ?_
    refine WL_nil ?_
    refine W_ret ?_
    refine retC2 (n := 3) (t := 45) (.inr rfl) rfl rfl (by kernel_rfl) (by kernel_rfl) rfl hI.g0 ?_
    exact ⟨none, .thn [], _, u, hx0 _ _ _ .thn0, .thn (by simp) .nil, rfl, hI.d0.sw0.sw0⟩
  | @cons g v M gs vs R hrg hrR =>
  have hszi : szL (g :: gs) = 1 + g.sz + szL gs := by simp only [szL]
  obtain ⟨T, bc, f, rfl, hm, hGi⟩ := hG g (by omega) v M hrg
  obtain ⟨ga, oa, rfl, -⟩ := (hI.pull 3 rfl).winGet (j := 0) rfl
  have hThn := hsz (g :: gs)
  have hwin : ∀ {w : World} {H : List Ent}, Inv S w0 w (Win 33 1 (some ⟨ga, oa, none⟩) (g :: gs).length c1 (.iface T (at0 bc) :: vs) :: H) → w.cell? ⟨ga, oa, none⟩ = some (.iface T (at0 bc)) := fun h => by
    obtain ⟨g1, o1, h1, h2⟩ := h.winGet (j := 0) rfl
    injection h1 with h1
    injection h1 with h1 h3
    subst h1 h3
    exact h2
  rw [List.append_assoc] at hI
  have hpos : 0 < (g :: gs).length := by simp
  refine W_seq ?_
  refine W_seq ?_
  refine W_region ?_
  refine WL_val rfl rfl rfl (by first | exact rMoveP rfl rfl | exact rMove rfl) ?_
  refine WL_val rfl rfl rfl (rNilChk rfl rfl) ?_
  refine WL_val rfl rfl rfl (by first | exact rFldN (off := 0) rfl (by kernel_rfl) rfl | exact rFld0 rfl (by kernel_rfl) rfl) ?_
  refine WL_val rfl rfl rfl (by first | exact rLd (v := .slice _ _ _) rfl (by kernel_rfl) rfl (by first | exact hI.c0 rfl | exact hI.c1 rfl | exact hI.c2 rfl | exact hI.c3 rfl | exact hI.c4 rfl | exact hI.c5 rfl) | exact rLd rfl (by kernel_rfl) rfl (by first | exact hI.c0 rfl | exact hI.c1 rfl | exact hI.c2 rfl | exact hI.c3 rfl | exact hI.c4 rfl | exact hI.c5 rfl)) ?_
  refine WL_val rfl rfl rfl (rLen rfl Tryd.underlying69 rfl) ?_
  refine WL_val rfl rfl rfl (by first | exact rGtrT rfl rfl rfl (by omega) | exact rGtrF rfl rfl rfl (by omega) | exact rGtr rfl rfl rfl) ?_
  refine WL_nil ?_
  refine W_cond true rfl ?_
  refine W_skip ?_
  refine W_block ?_
  refine W_seq ?_
  refine W_seq ?_
  refine W_region ?_
  refine WL_val rfl rfl rfl (by first | exact rMoveP rfl rfl | exact rMove rfl) ?_
  refine WL_val rfl rfl rfl (rNilChk rfl rfl) ?_
  refine WL_val rfl rfl rfl (by first | exact rFldN (off := 0) rfl (by kernel_rfl) rfl | exact rFld0 rfl (by kernel_rfl) rfl) ?_
  refine WL_val rfl rfl rfl (by first | exact rLd (v := .slice _ _ _) rfl (by kernel_rfl) rfl (by first | exact hI.c0 rfl | exact hI.c1 rfl | exact hI.c2 rfl | exact hI.c3 rfl | exact (hwin (hI.pull 3 rfl))) | exact rLd rfl (by kernel_rfl) rfl (by first | exact hI.c0 rfl | exact hI.c1 rfl | exact hI.c2 rfl | exact hI.c3 rfl | exact (hwin (hI.pull 3 rfl)))) ?_
  refine WL_val rfl rfl rfl (rIdx1 (i := 0) rfl Tryd.underlying69 (by kernel_rfl) rfl rfl (by simp)) ?_
  refine WL_val rfl rfl rfl (rLd rfl (by kernel_rfl) rfl (by first | exact hI.c0 rfl | exact hI.c1 rfl | exact hI.c2 rfl | exact hI.c3 rfl | exact (hwin (hI.pull 3 rfl)))) ?_
  refine WL_val rfl rfl rfl (by first | exact rMoveP rfl rfl | exact rMove rfl) ?_
  refine WL_call rfl rfl rfl (rCallI (f := f) (vs := [_]) rfl rfl rfl (fun w => hm _ w)) ?_
  refine (hGi S w0 _ _ q u ((hI.pull 1 rfl).mid1 (X := [_, _, _])) hN hD (by omega)).mono ?_
  rintro e w1 ⟨r, g', M', u', hx, hr, rfl, hI1⟩
  unfold caV
  refine ⟨_, rfl, ?_⟩
  replace hI : Inv S w0 w1 (B b4 45 #[.bool false, .int .i64 0, .int .i64 0] :: B q 40 #[.slice A len cp, .int .i64 (u' : Int)] :: B b 76 #[.slice (some ⟨ga, oa, none⟩) (g :: gs).length c1] :: Win 33 1 (some ⟨ga, oa, none⟩) (g :: gs).length c1 (.iface T (at0 bc) :: vs) :: (M' ++ (R ++ H))) := (hI1.mid1 (L := [_, _, _])).back 1
  clear hI1
  refine WL_val rfl rfl rfl (by first | exact rMoveT rfl rfl | exact rMove rfl) ?_
  refine WL_val rfl rfl rfl (rExtr rfl rfl rfl) ?_
  refine WL_val rfl rfl rfl (rExtr rfl rfl rfl) ?_
  refine WL_alloc (u := .agg #[.bool false, .int .i64 0, .int .i64 0]) (vs := #[.bool false, .int .i64 0, .int .i64 0]) hI rfl rfl rfl rfl (by kernel_rfl) rfl ?_
  clear hI; rintro b6 w - - hI
  first | refine WL_stw0 (u := .agg _) (vs := #[_, _, _]) (n := 3) hI rfl rfl rfl rfl rfl rfl (by kernel_rfl) rfl rfl rfl ?_ | refine WL_stw1 (u := .agg _) (vs := #[_, _, _]) (n := 3) hI rfl rfl rfl rfl rfl rfl (by kernel_rfl) rfl rfl rfl ?_ | refine WL_stw2 (u := .agg _) (vs := #[_, _, _]) (n := 3) hI rfl rfl rfl rfl rfl rfl (by kernel_rfl) rfl rfl rfl ?_ | refine WL_stw3 (u := .agg _) (vs := #[_, _, _]) (n := 3) hI rfl rfl rfl rfl rfl rfl (by kernel_rfl) rfl rfl rfl ?_
  clear hI; intro w hI
  refine WL_val rfl rfl rfl (by first | exact rAsgnB rfl rfl | exact rAsgn rfl) ?_
  refine WL_nil ?_
  refine W_seq ?_
  refine W_region ?_
  refine WL_val rfl rfl rfl (by first | exact rMoveB rfl rfl | exact rMove rfl) ?_
  refine WL_nil ?_
  cases r with
  | some c =>
    refine W_cond true rfl ?_
    refine W_seq ?_
    refine W_region ?_
    refine WL_val rfl rfl rfl (by first | exact rLdB (n := 3) rfl (by kernel_rfl) (by kernel_rfl) rfl rfl hI.g0 | exact rLdB (n := 3) rfl (by kernel_rfl) (by kernel_rfl) rfl rfl hI.g1 | exact rLdB (n := 3) rfl (by kernel_rfl) (by kernel_rfl) rfl rfl hI.g2 | exact rLdB (n := 3) rfl (by kernel_rfl) (by kernel_rfl) rfl rfl hI.g3 | exact rLdB (n := 3) rfl (by kernel_rfl) (by kernel_rfl) rfl rfl hI.g4 | exact rLdB (n := 3) rfl (by kernel_rfl) (by kernel_rfl) rfl rfl hI.g5 | exact rLd3 rfl (by kernel_rfl) (by kernel_rfl) rfl (by first | exact hI.c0 rfl | exact hI.c1 rfl | exact hI.c2 rfl | exact hI.c3 rfl | exact hI.c4 rfl | exact hI.c5 rfl) (by first | exact hI.c0 rfl | exact hI.c1 rfl | exact hI.c2 rfl | exact hI.c3 rfl | exact hI.c4 rfl | exact hI.c5 rfl) (by first | exact hI.c0 rfl | exact hI.c1 rfl | exact hI.c2 rfl | exact hI.c3 rfl | exact hI.c4 rfl | exact hI.c5 rfl)) ?_
    first | refine WL_stw0 (u := .agg _) (vs := #[_, _, _]) (n := 3) hI rfl rfl rfl rfl rfl rfl (by kernel_rfl) rfl rfl rfl ?_ | refine WL_stw1 (u := .agg _) (vs := #[_, _, _]) (n := 3) hI rfl rfl rfl rfl rfl rfl (by kernel_rfl) rfl rfl rfl ?_ | refine WL_stw2 (u := .agg _) (vs := #[_, _, _]) (n := 3) hI rfl rfl rfl rfl rfl rfl (by kernel_rfl) rfl rfl rfl ?_ | refine WL_stw3 (u := .agg _) (vs := #[_, _, _]) (n := 3) hI rfl rfl rfl rfl rfl rfl (by kernel_rfl) rfl rfl rfl ?_ | refine WL_stw4 (u := .agg _) (vs := #[_, _, _]) (n := 3) hI rfl rfl rfl rfl rfl rfl (by kernel_rfl) rfl rfl rfl ?_ | refine WL_stw5 (u := .agg _) (vs := #[_, _, _]) (n := 3) hI rfl rfl rfl rfl rfl rfl (by kernel_rfl) rfl rfl rfl ?_
    clear hI; intro w hI
    refine WL_val rfl rfl rfl (by first | exact rAsgnB rfl rfl | exact rAsgn rfl) ?_
    refine WL_nil ?_
    refine W_ret ?_
    refine retC2 (n := 3) (t := 45) (.inr rfl) rfl rfl (by kernel_rfl) (by kernel_rfl) rfl hI.g1 ?_
    refine ⟨some c, .thn (g' :: gs), _, u', hx0 _ _ _ (.thnS hx), .thn (A := some ⟨ga, oa, none⟩) (c := c1) hl (.cons hr hrR), rfl, ?_⟩
    simp only [List.cons_append, List.append_assoc]
    exact hI.d0.d0
  | none =>
    refine W_cond false rfl ?_
    refine W_skip ?_
    replace hI := hI.d0
    refine W_region ?_
    refine WL_val rfl rfl rfl (by first | exact rMoveP rfl rfl | exact rMove rfl) ?_
    refine WL_val rfl rfl rfl (by first | exact rMoveP rfl rfl | exact rMove rfl) ?_
    refine WL_val rfl rfl rfl (rNilChk rfl rfl) ?_
    refine WL_val rfl rfl rfl (by first | exact rFldN (off := 0) rfl (by kernel_rfl) rfl | exact rFld0 rfl (by kernel_rfl) rfl) ?_
    refine WL_val rfl rfl rfl (by first | exact rLd (v := .slice _ _ _) rfl (by kernel_rfl) rfl (by first | exact hI.c0 rfl | exact hI.c1 rfl | exact hI.c2 rfl) | exact rLd rfl (by kernel_rfl) rfl (by first | exact hI.c0 rfl | exact hI.c1 rfl | exact hI.c2 rfl)) ?_
    refine WL_val rfl rfl rfl (rSliceFromG (sz := 1) (i := 1) rfl Tryd.underlying69 (by kernel_rfl) rfl rfl (by omega)) ?_
    refine WL_val rfl rfl rfl (rNilChk rfl rfl) ?_
    refine WL_val rfl rfl rfl (by first | exact rFldN (off := 0) rfl (by kernel_rfl) rfl | exact rFld0 rfl (by kernel_rfl) rfl) ?_
    first | refine WL_stw0 (u := .slice _ _ _) (vs := #[_]) (n := 1) hI rfl rfl rfl rfl rfl rfl (by kernel_rfl) rfl rfl rfl ?_ | refine WL_stw1 (u := .slice _ _ _) (vs := #[_]) (n := 1) hI rfl rfl rfl rfl rfl rfl (by kernel_rfl) rfl rfl rfl ?_ | refine WL_stw2 (u := .slice _ _ _) (vs := #[_]) (n := 1) hI rfl rfl rfl rfl rfl rfl (by kernel_rfl) rfl rfl rfl ?_ | refine WL_st0 (u := .slice _ _ _) hI rfl rfl rfl rfl rfl rfl (by kernel_rfl) rfl rfl rfl ?_ | refine WL_st1 (u := .slice _ _ _) hI rfl rfl rfl rfl rfl rfl (by kernel_rfl) rfl rfl rfl ?_ | refine WL_st2 (u := .slice _ _ _) hI rfl rfl rfl rfl rfl rfl (by kernel_rfl) rfl rfl rfl ?_
    clear hI; intro w hI
    refine WL_nil ?_
    replace hI := (hI.pull 3 rfl).winTail (n := gs.length)
    have hI2 : Inv S w0 w (B b4 45 #[.bool false, .int .i64 0, .int .i64 0] :: B q 40 #[.slice A len cp, .int .i64 (u' : Int)] :: B b 76 #[.slice (if c1 = 1 then some ⟨ga, oa, none⟩ else (some ⟨ga, oa, none⟩ : Option Addr).map (·.add (1 * 1))) gs.length (c1 - 1)] :: Win 33 1 (if c1 = 1 then some ⟨ga, oa, none⟩ else (some ⟨ga, oa, none⟩ : Option Addr).map (·.add (1 * 1))) gs.length (c1 - 1) vs :: (M' ++ (R ++ H))) := hI.back 3
    have hsx := hx.sz
    have hT := hsz gs
    have hg1 : (g :: gs).length = gs.length + 1 := rfl
    refine ⟨gs.length, by omega, gs, vs, R, (if c1 = 1 then some ⟨ga, oa, none⟩ else (some ⟨ga, oa, none⟩ : Option Addr).map (·.add (1 * 1))), c1 - 1, u', rfl, by omega, by omega, hrR, by omega, fun r g'' u'' h => hx0 _ _ _ (.thnN hx h), ⟨rfl, rfl, rfl, trivial⟩, ?_⟩
    exact hI2.sub (((((List.sublist_append_right ..).cons_cons _).cons_cons _).cons_cons _).cons_cons _)
theorem gives_all : ∀ (n : Nat) (g : Ge), g.sz ≤ n → ∀ v L, Rep g v L → Gives nums D A len cp g v L
  | 0, g, h, v, L, hr => by
    have : 0 < g.sz := by cases g <;> simp only [Ge.sz] <;> omega
    omega
  | n + 1, g, h, v, L, hr => by
    cases hr with
    | rd => exact read_gives _ _
    | wr h1 h2 h3 => exact write_gives _ _ _ _ h1 h2 h3
    | lim hn hg =>
      simp only [Ge.sz] at h
      exact limit_gives _ _ _ _ _ hn hg (gives_all n _ (by omega) _ _ hg)
    | mix hl hg =>
      simp only [Ge.sz] at h
      exact mix_gives _ _ _ _ _ _ hl hg fun g hg' v L hv => gives_all n g (by omega) v L hv
    | thn hl hg =>
      simp only [Ge.sz] at h
      exact then_gives _ _ _ _ _ _ hl hg fun g hg' v L hv => gives_all n g (by omega) v L hv
/-- What a generator gives, wherever it lies. -/
theorem Rep.gives {g : Ge} {v : Value} {L : List Ent} (h : Rep g v L) : Gives nums D A len cp g v L := gives_all _ g (Nat.le_refl _) v L h
end
end Go.Proofs.YtlhmldjgmbcocaaDoor
