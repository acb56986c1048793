/- merge: All and lattice at sets. -/
import Derived.Test.YtkfciehgjhgmeaaThg4
namespace Go.Proofs.Ytkfciehgjhgmeaa
open Go.RowKit
set_option linter.unusedVariables false
set_option linter.unusedSimpArgs false
/-! ### Sets that are joined: plain -/
abbrev ThP := (Tag → Option Int) × (Tag → Bool)
def jP (a b : ThP) : ThP := (joinT a.1 a.2 b.1 b.2, orG b.2 a.2)
def Compat (a b : ThP) : Prop := ∀ k v v', a.1 k = some v → b.1 k = some v' → v = v'
def CleanP (a : ThP) : Prop := ∀ k, a.2 k = true → a.1 k = none
theorem jP_at (a b : ThP) (k : Tag) : (jP a b).1 k = (if b.2 k || a.2 k then none else match b.1 k with | some v => some v | none => a.1 k) ∧ (jP a b).2 k = (b.2 k || a.2 k) := ⟨rfl, rfl⟩
theorem jP_ext {p q : ThP} (h : ∀ k, p.1 k = q.1 k ∧ p.2 k = q.2 k) : p = q := Prod.ext (funext fun k => (h k).1) (funext fun k => (h k).2)
theorem jP_comm {a b : ThP} (h : Compat a b) : jP a b = jP b a := by
  refine jP_ext fun k => ?_
  obtain ⟨e1, e2⟩ := jP_at a b k
  obtain ⟨e3, e4⟩ := jP_at b a k
  rw [e1, e2, e3, e4, Bool.or_comm (a.2 k)]
  refine ⟨?_, rfl⟩
  have hc := h k
  cases ha : a.1 k <;> cases hb : b.1 k <;> simp
  rename_i v v'
  rw [hc v v' ha hb]
theorem jP_idem {a : ThP} (h : CleanP a) : jP a a = a := by
  refine jP_ext fun k => ?_
  obtain ⟨e1, e2⟩ := jP_at a a k
  rw [e1, e2, Bool.or_self]
  have hc := h k
  cases hg : a.2 k with
  | true => simp [hc hg]
  | false => cases ha : a.1 k <;> simp
theorem jP_assoc (a b c : ThP) : jP (jP a b) c = jP a (jP b c) := by
  refine jP_ext fun k => ?_
  obtain ⟨e1, e2⟩ := jP_at (jP a b) c k
  obtain ⟨e3, e4⟩ := jP_at a (jP b c) k
  obtain ⟨e5, e6⟩ := jP_at a b k
  obtain ⟨e7, e8⟩ := jP_at b c k
  rw [e1, e2, e3, e4, e5, e6, e7, e8]
  cases a.2 k <;> cases b.2 k <;> cases c.2 k <;> cases a.1 k <;> cases b.1 k <;> cases c.1 k <;> simp
theorem jP_all {a b c : ThP} (hab : Compat a b) (hac : Compat a c) (hbc : Compat b c) : jP (jP a b) c = jP (jP (jP c a) b) a := by
  refine jP_ext fun k => ?_
  obtain ⟨e1, e2⟩ := jP_at (jP a b) c k
  obtain ⟨e3, e4⟩ := jP_at a b k
  obtain ⟨e5, e6⟩ := jP_at (jP (jP c a) b) a k
  obtain ⟨e7, e8⟩ := jP_at (jP c a) b k
  obtain ⟨e9, e10⟩ := jP_at c a k
  rw [e1, e2, e3, e4, e5, e6, e7, e8, e9, e10]
  have h1 := hab k
  have h2 := hac k
  have h3 := hbc k
  cases ga : a.2 k <;> cases gb : b.2 k <;> cases gc : c.2 k <;> cases ha : a.1 k <;> cases hb : b.1 k <;> cases hc : c.1 k <;> simp
  all_goals first | exact (h1 _ _ ha hb).symm | exact (h2 _ _ ha hc).symm | exact (h3 _ _ hb hc).symm | exact h1 _ _ ha hb | exact h2 _ _ ha hc | exact h3 _ _ hb hc
/-! ### All -/
def Live (w0 : World) (Ex : List Ent) (A B : Option Nat) (p : ThP) : Prop := ∀ w L, Inv (fun _ => False) w0 w (L ++ Ex) → ThR w A B p.1 p.2
theorem Live.old {w0 : World} {A B : Option Nat} {p : ThP} (h : ThR w0 A B p.1 p.2) : Live w0 [] A B p := fun w L hI => h.pure hI.pu
theorem Live.part {w0 : World} {A B : Option Nat} {p : ThP} : Live w0 [ThE A B p.1 p.2] A B p := fun w L hI => (hI.ok (ThE A B p.1 p.2) (by simp)).1
theorem Inv.front {S : Nat → Prop} {w0 w : World} {L Ex : List Ent} (h : Inv S w0 w (L ++ Ex)) : Inv S w0 w L :=
  ⟨h.chg, fun e he => h.ok e (by simp [he]), fun e he => h.own e (by simp [he]), (List.pairwise_append.1 h.apart).1⟩
structure ThO where
  A : Option Nat
  B : Option Nat
  p : ThP
def ThO.cells (x : ThO) : List Value := [.map x.A, .map x.B]
set_option maxHeartbeats 2000000 in
theorem allTh_any (ta tg : Option Nat) (p : ThP) (xs : List ThO) (g n : Nat) (w0 : World) (h : ThR w0 ta tg p.1 p.2) (hxs : ∀ x ∈ xs, ThR w0 x.A x.B x.p.1 x.p.2) (hn : xs.length = n) (hn1 : 1 ≤ n ∧ n ≤ 1000)
    (hc : ∀ (i : Nat) x, xs[i]? = some x → ∀ (j : Nat) u, x.cells[j]? = some u → w0.cell? ⟨g, 0 + i * 2 + j, none⟩ = some u) :
    Calls Try.prog 26 #[thV ta tg, .slice (some ⟨g, 0, none⟩) n n] w0 (ThPost ((xs.map (·.p)).foldl jP p).1 ((xs.map (·.p)).foldl jP p).2 w0) := by
  have hI := Inv.start (fun _ => False) w0
  refine calls_of_W (N := Try.f26.ntmps) Try.func26 rfl rfl rfl ?_
  refine W_seq ?_
  refine W_region ?_
  refine WL_box (u := .agg _) (vs := #[_, _]) hI rfl rfl rfl rfl rfl rfl ?_
  clear hI; rintro b2 w - - hI
  refine WL_alloc (u := .agg #[.map none, .map none]) (vs := #[.map none, .map none]) hI rfl rfl rfl rfl (by kernel_rfl) rfl ?_
  clear hI; rintro b4 w - - hI
  refine WL_nil ?_
  refine W_seq ?_
  refine W_seq ?_
  refine W_region ?_
  refine WL_val rfl rfl rfl (by first | exact rMoveS rfl rfl | exact rMove rfl) ?_
  refine WL_val rfl rfl rfl (rLen rfl Try.underlying73 rfl) ?_
  refine WL_val rfl rfl rfl (by first | exact rMoveI rfl rfl | exact rMove rfl) ?_
  refine WL_nil ?_
  refine W_block ?_
  refine W_loopN (fun mu ρ w => ∃ (k : Nat) (A1 B1 : Option Nat) (Ex : List Ent) (cur : ThP), mu = n - k ∧ k ≤ n ∧ cur = ((xs.take k).map (·.p)).foldl jP p ∧ Live w0 Ex A1 B1 cur ∧ (k = 0 ∨ Ex = [ThE A1 B1 cur.1 cur.2]) ∧ Has ρ [(9, .int .i64 k), (8, .int .i64 n), (7, .slice (some ⟨g, 0, none⟩) n n), (2, .pointer (some ⟨b2, 0, none⟩)), (4, .pointer (some ⟨b4, 0, none⟩))] ∧ Inv (fun _ => False) w0 w (B b4 36 #[.map none, .map none] :: B b2 36 #[.map A1, .map B1] :: Ex)) n
    ⟨0, _, _, _, p, rfl, by omega, rfl, Live.old h, .inl rfl, ⟨rfl, rfl, rfl, rfl, rfl, trivial⟩, hI⟩ ?_
  clear hI
  rintro mu ρ w ⟨k, A1, B1, Ex, cur, rfl, hk, hcur, hL, hEx, hH, hI⟩
  obtain ⟨σ, rfl⟩ := hH.open
  by_cases hkn : k < n
  · obtain ⟨x, hx⟩ : ∃ x, xs[k]? = some x := ⟨_, List.getElem?_eq_getElem (by omega)⟩
    have hxr := hxs x (List.mem_of_getElem? hx)
    have hcx := hc k x hx
    have hnext : ((xs.take (k + 1)).map (·.p)).foldl jP p = jP cur x.p := by
      rw [hcur, List.take_add_one, hx]
      simp
    obtain ⟨xA, xB, xp⟩ := x
    simp only [ThO.cells] at hcx
    simp only at hxr hnext
    refine W_seq ?_
    refine W_region ?_
    refine WL_val rfl rfl rfl (by first | exact rLssT rfl rfl rfl (by omega) | exact rLssF rfl rfl rfl (by omega) | exact rLss rfl rfl rfl) ?_
    refine WL_nil ?_
    refine W_seq ?_
    refine W_cond true rfl ?_
    refine W_skip ?_
    refine W_seq ?_
    refine W_block ?_
    refine W_seq ?_
    refine W_region ?_
    refine WL_val rfl rfl rfl (rIdx (sz := 2) rfl Try.underlying73 (by kernel_rfl) rfl rfl (by omega)) ?_
    refine WL_val rfl rfl rfl (by first | exact rLdB (n := 2) rfl (by kernel_rfl) (by kernel_rfl) rfl rfl hI.g0 | exact rLdB (n := 2) rfl (by kernel_rfl) (by kernel_rfl) rfl rfl hI.g1 | exact rLdA (n := 2) rfl (by kernel_rfl) (by kernel_rfl) rfl (by rfl) (fun k u hk => hI.oldp (hcx k u hk)) | exact rLdA (n := 2) rfl (by kernel_rfl) (by kernel_rfl) rfl (by rfl) hcx | exact rLd2 rfl (by kernel_rfl) (by kernel_rfl) rfl (by first | exact hI.c0 rfl | exact hI.c1 rfl) (by first | exact hI.c0 rfl | exact hI.c1 rfl)) ?_
    refine WL_alloc (u := .agg #[.map none, .map none]) (vs := #[.map none, .map none]) hI rfl rfl rfl rfl (by kernel_rfl) rfl ?_
    clear hI; rintro b6 w - - hI
    first | refine WL_stw0 (u := .agg _) (vs := #[_, _]) (n := 2) hI rfl rfl rfl rfl rfl rfl (by kernel_rfl) rfl rfl rfl ?_ | refine WL_stw1 (u := .agg _) (vs := #[_, _]) (n := 2) hI rfl rfl rfl rfl rfl rfl (by kernel_rfl) rfl rfl rfl ?_
    clear hI; intro w hI
    refine WL_nil ?_
    refine W_region ?_
    refine WL_val rfl rfl rfl (by first | exact rLdB (n := 2) rfl (by kernel_rfl) (by kernel_rfl) rfl rfl hI.g0 | exact rLdB (n := 2) rfl (by kernel_rfl) (by kernel_rfl) rfl rfl hI.g1 | exact rLdB (n := 2) rfl (by kernel_rfl) (by kernel_rfl) rfl rfl hI.g2 | exact rLdB (n := 2) rfl (by kernel_rfl) (by kernel_rfl) rfl rfl hI.g3 | exact rLd2 rfl (by kernel_rfl) (by kernel_rfl) rfl (by first | exact hI.c0 rfl | exact hI.c1 rfl | exact hI.c2 rfl | exact hI.c3 rfl) (by first | exact hI.c0 rfl | exact hI.c1 rfl | exact hI.c2 rfl | exact hI.c3 rfl)) ?_
    refine WL_val rfl rfl rfl (rIface rfl Try.underlying36 rfl rfl) ?_
    refine WL_val rfl rfl rfl (by first | exact rLdB (n := 2) rfl (by kernel_rfl) (by kernel_rfl) rfl rfl hI.g0 | exact rLdB (n := 2) rfl (by kernel_rfl) (by kernel_rfl) rfl rfl hI.g1 | exact rLdB (n := 2) rfl (by kernel_rfl) (by kernel_rfl) rfl rfl hI.g2 | exact rLdB (n := 2) rfl (by kernel_rfl) (by kernel_rfl) rfl rfl hI.g3 | exact rLd2 rfl (by kernel_rfl) (by kernel_rfl) rfl (by first | exact hI.c0 rfl | exact hI.c1 rfl | exact hI.c2 rfl | exact hI.c3 rfl) (by first | exact hI.c0 rfl | exact hI.c1 rfl | exact hI.c2 rfl | exact hI.c3 rfl)) ?_
    refine WL_call rfl rfl rfl (rCallI (f := 16) (vs := [.agg _]) rfl rfl rfl (fun _ => by kernel_rfl)) ?_
    refine (joinTh_any A1 B1 xA xB cur.1 cur.2 xp.1 xp.2 _ (hL _ [_, _, _] hI) (hxr.pure hI.pu)).mono ?_
    rintro e w1 ⟨A2, B2, rfl, hJ⟩
    refine ⟨_, rfl, ?_⟩
    replace hI := hI.app1 hJ
    first | refine WL_stw0 (u := .agg _) (vs := #[_, _]) (n := 2) hI rfl rfl rfl rfl rfl rfl (by kernel_rfl) rfl rfl rfl ?_ | refine WL_stw1 (u := .agg _) (vs := #[_, _]) (n := 2) hI rfl rfl rfl rfl rfl rfl (by kernel_rfl) rfl rfl rfl ?_ | refine WL_stw2 (u := .agg _) (vs := #[_, _]) (n := 2) hI rfl rfl rfl rfl rfl rfl (by kernel_rfl) rfl rfl rfl ?_ | refine WL_stw3 (u := .agg _) (vs := #[_, _]) (n := 2) hI rfl rfl rfl rfl rfl rfl (by kernel_rfl) rfl rfl rfl ?_
    clear hI; intro w hI
    refine WL_nil ?_
    refine W_region ?_
    refine WL_val rfl rfl rfl (by first | exact rInc rfl rfl rfl (by omega) | exact rAdd rfl rfl rfl (by omega) | exact rAddW rfl rfl rfl) ?_
    refine WL_val rfl rfl rfl (by first | exact rMoveI rfl rfl | exact rMove rfl) ?_
    refine WL_nil ?_
    refine ⟨n - (k + 1), by omega, k + 1, A2, B2, _, jP cur xp, rfl, by omega, hnext.symm, Live.part, .inr rfl, ⟨rfl, rfl, rfl, rfl, rfl, trivial⟩, ?_⟩
    have hF := Inv.front (L := [ThE A2 B2 (jP cur xp).1 (jP cur xp).2, B b6 36 #[.map xA, .map xB], B b4 36 #[.map none, .map none], B b2 36 #[.map A2, .map B2]]) hI
    exact hF.d1.sw0.sw1
  · obtain rfl : k = n := by omega
    refine W_seq ?_
    refine W_region ?_
    refine WL_val rfl rfl rfl (by first | exact rLssT rfl rfl rfl (by omega) | exact rLssF rfl rfl rfl (by omega) | exact rLss rfl rfl rfl) ?_
    refine WL_nil ?_
    refine W_seq ?_
    refine W_cond false rfl ?_
    refine W_exit ?_
    refine W_seq ?_
    refine W_region ?_
    refine WL_val rfl rfl rfl (by first | exact rLdB (n := 2) rfl (by kernel_rfl) (by kernel_rfl) rfl rfl hI.g0 | exact rLdB (n := 2) rfl (by kernel_rfl) (by kernel_rfl) rfl rfl hI.g1 | exact rLd2 rfl (by kernel_rfl) (by kernel_rfl) rfl (by first | exact hI.c0 rfl | exact hI.c1 rfl) (by first | exact hI.c0 rfl | exact hI.c1 rfl)) ?_
    first | refine WL_stw0 (u := .agg _) (vs := #[_, _]) (n := 2) hI rfl rfl rfl rfl rfl rfl (by kernel_rfl) rfl rfl rfl ?_ | refine WL_stw1 (u := .agg _) (vs := #[_, _]) (n := 2) hI rfl rfl rfl rfl rfl rfl (by kernel_rfl) rfl rfl rfl ?_
    clear hI; intro w hI
    refine WL_nil ?_
    refine W_ret ?_
    rcases hEx with h0 | rfl
    · omega
    have hall : ((xs.map (·.p)).foldl jP p) = cur := by rw [hcur, List.take_of_length_le (by omega)]
    rw [hall]
    exact retC (n := 2) (t := 36) (.inr rfl) rfl rfl (by kernel_rfl) (by kernel_rfl) rfl hI.g0 ⟨A1, B1, rfl, hI.d0.d0⟩
/-! ### lattice -/
theorem ThR.cast {w : World} {A B : Option Nat} {p q : ThP} (h : ThR w A B p.1 p.2) (e : p = q) : ThR w A B q.1 q.2 := e ▸ h
theorem ThE.rd {S : Nat → Prop} {w0 w : World} {H : List Ent} {A B : Option Nat} {p : ThP} (hI : Inv S w0 w H) (hm : ThE A B p.1 p.2 ∈ H) : ThR w A B p.1 p.2 := (hI.ok _ hm).1
theorem joinP_any (aA aB bA bB : Option Nat) (a b : ThP) (w0 : World) (h : ThR w0 aA aB a.1 a.2) (h' : ThR w0 bA bB b.1 b.2) :
    Calls Try.prog 16 #[thV aA aB, thV bA bB] w0 (ThPost (jP a b).1 (jP a b).2 w0) := joinTh_any aA aB bA bB a.1 a.2 b.1 b.2 w0 h h'
theorem blk_th {w : World} {g T : Nat} (xs : List ThO) (hb : Blk w g T (xs.flatMap ThO.cells).toArray) : ∀ (i : Nat) x, xs[i]? = some x → ∀ (j : Nat) u, x.cells[j]? = some u → w.cell? ⟨g, 0 + i * 2 + j, none⟩ = some u := by
  intro i x hi j u hu
  have hj : j < 2 := (List.getElem?_eq_some_iff.1 hu).1
  rw [hb.cell, Nat.zero_add, List.getElem?_toArray, flatN (s := 2) (f := ThO.cells) (fun _ => rfl) xs i x hi j hj]
  exact hu
set_option maxHeartbeats 16000000 in
theorem latticeTh_any (aA aB bA bB cA cB : Option Nat) (a b c : ThP) (w0 : World) (ha : ThR w0 aA aB a.1 a.2) (hb : ThR w0 bA bB b.1 b.2) (hc : ThR w0 cA cB c.1 c.2) (hab : Compat a b) (hac : Compat a c) (hbc : Compat b c) (ca : CleanP a) :
    Calls Try.prog 14 #[thV aA aB, thV bA bB, thV cA cB] w0 fun en w' => en = .returned (.bool true) ∧ Pure w0 w' := by
  have hI := Inv.start (fun _ => False) w0
  refine calls_of_W (N := Try.f14.ntmps) Try.func14 rfl rfl rfl ?_
  refine W_seq ?_
  refine W_region ?_
  refine WL_box (u := .agg _) (vs := #[_, _]) hI rfl rfl rfl rfl rfl rfl ?_
  clear hI; rintro b3 w - - hI
  refine WL_box (u := .agg _) (vs := #[_, _]) hI rfl rfl rfl rfl rfl rfl ?_
  clear hI; rintro b4 w - - hI
  refine WL_box (u := .agg _) (vs := #[_, _]) hI rfl rfl rfl rfl rfl rfl ?_
  clear hI; rintro b5 w - - hI
  refine WL_val rfl rfl rfl (by first | exact rAsgnB rfl rfl | exact rAsgn rfl) ?_
  refine WL_nil ?_
  refine W_seq ?_
  refine W_draw (by kernel_rfl) ?_
  refine WA_inv (T := []) hI.drew ?_
  intro Sx hSx hXS
  replace hI := hI.drew
  refine WT_take 0 rfl rfl (by kernel_rfl) (hXS _ hI) rfl (fun W hW => have hI := hSx W hW; (by first | exact rLdB (n := 2) rfl (by kernel_rfl) (by kernel_rfl) rfl rfl hI.g0 | exact rLdB (n := 2) rfl (by kernel_rfl) (by kernel_rfl) rfl rfl hI.g1 | exact rLdB (n := 2) rfl (by kernel_rfl) (by kernel_rfl) rfl rfl hI.g2 | exact rLd2 rfl (by kernel_rfl) (by kernel_rfl) rfl (by first | exact hI.c0 rfl | exact hI.c1 rfl | exact hI.c2 rfl) (by first | exact hI.c0 rfl | exact hI.c1 rfl | exact hI.c2 rfl))) ?_
  refine WT_take 1 rfl rfl (by kernel_rfl) (hXS _ hI) rfl (fun W hW => have hI := hSx W hW; (rIface rfl Try.underlying36 rfl rfl)) ?_
  refine WT_take 2 rfl rfl (by kernel_rfl) (hXS _ hI) rfl (fun W hW => have hI := hSx W hW; (by first | exact rLdB (n := 2) rfl (by kernel_rfl) (by kernel_rfl) rfl rfl hI.g0 | exact rLdB (n := 2) rfl (by kernel_rfl) (by kernel_rfl) rfl rfl hI.g1 | exact rLdB (n := 2) rfl (by kernel_rfl) (by kernel_rfl) rfl rfl hI.g2 | exact rLd2 rfl (by kernel_rfl) (by kernel_rfl) rfl (by first | exact hI.c0 rfl | exact hI.c1 rfl | exact hI.c2 rfl) (by first | exact hI.c0 rfl | exact hI.c1 rfl | exact hI.c2 rfl))) ?_
  refine WT_take 5 rfl rfl (by kernel_rfl) (hXS _ hI) rfl (fun W hW => have hI := hSx W hW; (by first | exact rLdB (n := 2) rfl (by kernel_rfl) (by kernel_rfl) rfl rfl hI.g0 | exact rLdB (n := 2) rfl (by kernel_rfl) (by kernel_rfl) rfl rfl hI.g1 | exact rLdB (n := 2) rfl (by kernel_rfl) (by kernel_rfl) rfl rfl hI.g2 | exact rLd2 rfl (by kernel_rfl) (by kernel_rfl) rfl (by first | exact hI.c0 rfl | exact hI.c1 rfl | exact hI.c2 rfl) (by first | exact hI.c0 rfl | exact hI.c1 rfl | exact hI.c2 rfl))) ?_
  refine WT_take 6 rfl rfl (by kernel_rfl) (hXS _ hI) rfl (fun W hW => have hI := hSx W hW; (rIface rfl Try.underlying36 rfl rfl)) ?_
  refine WT_take 7 rfl rfl (by kernel_rfl) (hXS _ hI) rfl (fun W hW => have hI := hSx W hW; (by first | exact rLdB (n := 2) rfl (by kernel_rfl) (by kernel_rfl) rfl rfl hI.g0 | exact rLdB (n := 2) rfl (by kernel_rfl) (by kernel_rfl) rfl rfl hI.g1 | exact rLdB (n := 2) rfl (by kernel_rfl) (by kernel_rfl) rfl rfl hI.g2 | exact rLd2 rfl (by kernel_rfl) (by kernel_rfl) rfl (by first | exact hI.c0 rfl | exact hI.c1 rfl | exact hI.c2 rfl) (by first | exact hI.c0 rfl | exact hI.c1 rfl | exact hI.c2 rfl))) ?_
  refine WT_one 3 rfl (by kernel_rfl) rfl ?_
  refine WL_call rfl rfl rfl (rCallI (f := 16) (vs := [.agg _]) rfl rfl rfl (fun _ => by kernel_rfl)) ?_
  refine (joinP_any aA aB bA bB a b _ (ha.pure hI.pu) (hb.pure hI.pu)).mono ?_
  rintro e w1 ⟨A3, B3, rfl, hJ⟩
  refine ⟨_, rfl, ?_⟩
  replace hI := hI.app1 hJ
  refine WL_nil ⟨hXS _ hI.d0, ?_⟩
  refine WT_take 4 rfl rfl (by kernel_rfl) (hXS _ hI.d0) rfl (fun W hW => have hI := hSx W hW; (rIface rfl Try.underlying36 rfl rfl)) ?_
  refine WT_one 8 rfl (by kernel_rfl) rfl ?_
  refine WL_call rfl rfl rfl (rCallI (f := 16) (vs := [.agg _]) rfl rfl rfl (fun _ => by kernel_rfl)) ?_
  refine (joinP_any bA bB aA aB b a _ (hb.pure hI.pu) (ha.pure hI.pu)).mono ?_
  rintro e w1 ⟨A8, B8, rfl, hJ⟩
  refine ⟨_, rfl, ?_⟩
  replace hI := hI.app1 hJ
  refine WL_nil ⟨hXS _ hI.d0.d0, ?_⟩
  refine WT_one 9 rfl (by kernel_rfl) rfl ?_
  refine WL_call rfl rfl rfl (rCallI (f := 78) (vs := [.agg _]) rfl rfl rfl (fun _ => by kernel_rfl)) ?_
  refine (sameTh_any A3 B3 A8 B8 (jP a b).1 (jP a b).2 _ (ThE.rd (p := jP a b) hI (by repeat' first | exact List.Mem.head _ | apply List.Mem.tail)) ((ThE.rd (p := jP b a) hI (by repeat' first | exact List.Mem.head _ | apply List.Mem.tail)).cast (jP_comm hab).symm)).mono ?_
  rintro e w1 ⟨rfl, hp⟩
  refine ⟨_, rfl, ?_⟩
  replace hI := hI.pure hp
  refine WL_nil ⟨hXS _ hI.d0.d0, ?_⟩
  refine WT_take 10 rfl rfl (by kernel_rfl) (hXS _ hI.d0.d0) rfl (fun W hW => have hI := hSx W hW; (by first | exact rMoveB rfl rfl | exact rMove rfl)) ?_
  first | refine WT_take 11 rfl rfl (by kernel_rfl) (hXS _ hI.d0.d0) rfl (fun W hW => have hI := hSx W hW; (by first | exact rLdB (n := 2) rfl (by kernel_rfl) (by kernel_rfl) rfl rfl hI.g0 | exact rLdB (n := 2) rfl (by kernel_rfl) (by kernel_rfl) rfl rfl hI.g1 | exact rLdB (n := 2) rfl (by kernel_rfl) (by kernel_rfl) rfl rfl hI.g2 | exact rLd2 rfl (by kernel_rfl) (by kernel_rfl) rfl (by first | exact hI.c0 rfl | exact hI.c1 rfl | exact hI.c2 rfl) (by first | exact hI.c0 rfl | exact hI.c1 rfl | exact hI.c2 rfl))) ?_ | refine WT_skip 11 rfl rfl (by kernel_rfl) (hXS _ hI.d0.d0) rfl ?_
  first | refine WT_take 12 rfl rfl (by kernel_rfl) (hXS _ hI.d0.d0) rfl (fun W hW => have hI := hSx W hW; (rIface rfl Try.underlying36 rfl rfl)) ?_ | refine WT_skip 12 rfl rfl (by kernel_rfl) (hXS _ hI.d0.d0) rfl ?_
  first | refine WT_take 13 rfl rfl (by kernel_rfl) (hXS _ hI.d0.d0) rfl (fun W hW => have hI := hSx W hW; (by first | exact rLdB (n := 2) rfl (by kernel_rfl) (by kernel_rfl) rfl rfl hI.g0 | exact rLdB (n := 2) rfl (by kernel_rfl) (by kernel_rfl) rfl rfl hI.g1 | exact rLdB (n := 2) rfl (by kernel_rfl) (by kernel_rfl) rfl rfl hI.g2 | exact rLd2 rfl (by kernel_rfl) (by kernel_rfl) rfl (by first | exact hI.c0 rfl | exact hI.c1 rfl | exact hI.c2 rfl) (by first | exact hI.c0 rfl | exact hI.c1 rfl | exact hI.c2 rfl))) ?_ | refine WT_skip 13 rfl rfl (by kernel_rfl) (hXS _ hI.d0.d0) rfl ?_
  first | refine WT_take 16 rfl rfl (by kernel_rfl) (hXS _ hI.d0.d0) rfl (fun W hW => have hI := hSx W hW; (by first | exact rLdB (n := 2) rfl (by kernel_rfl) (by kernel_rfl) rfl rfl hI.g0 | exact rLdB (n := 2) rfl (by kernel_rfl) (by kernel_rfl) rfl rfl hI.g1 | exact rLdB (n := 2) rfl (by kernel_rfl) (by kernel_rfl) rfl rfl hI.g2 | exact rLd2 rfl (by kernel_rfl) (by kernel_rfl) rfl (by first | exact hI.c0 rfl | exact hI.c1 rfl | exact hI.c2 rfl) (by first | exact hI.c0 rfl | exact hI.c1 rfl | exact hI.c2 rfl))) ?_ | refine WT_skip 16 rfl rfl (by kernel_rfl) (hXS _ hI.d0.d0) rfl ?_
  refine WT_one 14 rfl (by kernel_rfl) rfl ?_
  refine WL_call rfl rfl rfl (rCallI (f := 16) (vs := [.agg _]) rfl rfl rfl (fun _ => by kernel_rfl)) ?_
  refine (joinP_any aA aB aA aB a a _ (ha.pure hI.pu) (ha.pure hI.pu)).mono ?_
  rintro e w1 ⟨A14, B14, rfl, hJ⟩
  refine ⟨_, rfl, ?_⟩
  replace hI := hI.app1 hJ
  refine WL_nil ⟨hXS _ hI.d0.d0.d0, ?_⟩
  first | refine WT_take 15 rfl rfl (by kernel_rfl) (hXS _ hI.d0.d0.d0) rfl (fun W hW => have hI := hSx W hW; (rIface rfl Try.underlying36 rfl rfl)) ?_ | refine WT_skip 15 rfl rfl (by kernel_rfl) (hXS _ hI.d0.d0.d0) rfl ?_
  refine WT_one 17 rfl (by kernel_rfl) rfl ?_
  refine WL_call rfl rfl rfl (rCallI (f := 78) (vs := [.agg _]) rfl rfl rfl (fun _ => by kernel_rfl)) ?_
  refine (sameTh_any A14 B14 aA aB a.1 a.2 _ ((ThE.rd (p := jP a a) hI (by repeat' first | exact List.Mem.head _ | apply List.Mem.tail)).cast (jP_idem ca)) (ha.pure hI.pu)).mono ?_
  rintro e w1 ⟨rfl, hp⟩
  refine ⟨_, rfl, ?_⟩
  replace hI := hI.pure hp
  refine WL_nil ⟨hXS _ hI.d0.d0.d0, ?_⟩
  refine WT_take 18 rfl rfl (by kernel_rfl) (hXS _ hI.d0.d0.d0) rfl (fun W hW => have hI := hSx W hW; (by first | exact rPickTB rfl rfl rfl | exact rPickFB rfl rfl rfl | exact rPickB rfl rfl rfl rfl)) ?_
  refine WT_take 19 rfl rfl (by kernel_rfl) (hXS _ hI.d0.d0.d0) rfl (fun W hW => have hI := hSx W hW; (by first | exact rMoveB rfl rfl | exact rMove rfl)) ?_
  first | refine WT_take 20 rfl rfl (by kernel_rfl) (hXS _ hI.d0.d0.d0) rfl (fun W hW => have hI := hSx W hW; (by first | exact rLdB (n := 2) rfl (by kernel_rfl) (by kernel_rfl) rfl rfl hI.g0 | exact rLdB (n := 2) rfl (by kernel_rfl) (by kernel_rfl) rfl rfl hI.g1 | exact rLdB (n := 2) rfl (by kernel_rfl) (by kernel_rfl) rfl rfl hI.g2 | exact rLd2 rfl (by kernel_rfl) (by kernel_rfl) rfl (by first | exact hI.c0 rfl | exact hI.c1 rfl | exact hI.c2 rfl) (by first | exact hI.c0 rfl | exact hI.c1 rfl | exact hI.c2 rfl))) ?_ | refine WT_skip 20 rfl rfl (by kernel_rfl) (hXS _ hI.d0.d0.d0) rfl ?_
  first | refine WT_take 21 rfl rfl (by kernel_rfl) (hXS _ hI.d0.d0.d0) rfl (fun W hW => have hI := hSx W hW; (rIface rfl Try.underlying36 rfl rfl)) ?_ | refine WT_skip 21 rfl rfl (by kernel_rfl) (hXS _ hI.d0.d0.d0) rfl ?_
  first | refine WT_take 22 rfl rfl (by kernel_rfl) (hXS _ hI.d0.d0.d0) rfl (fun W hW => have hI := hSx W hW; (by first | exact rLdB (n := 2) rfl (by kernel_rfl) (by kernel_rfl) rfl rfl hI.g0 | exact rLdB (n := 2) rfl (by kernel_rfl) (by kernel_rfl) rfl rfl hI.g1 | exact rLdB (n := 2) rfl (by kernel_rfl) (by kernel_rfl) rfl rfl hI.g2 | exact rLd2 rfl (by kernel_rfl) (by kernel_rfl) rfl (by first | exact hI.c0 rfl | exact hI.c1 rfl | exact hI.c2 rfl) (by first | exact hI.c0 rfl | exact hI.c1 rfl | exact hI.c2 rfl))) ?_ | refine WT_skip 22 rfl rfl (by kernel_rfl) (hXS _ hI.d0.d0.d0) rfl ?_
  first | refine WT_take 25 rfl rfl (by kernel_rfl) (hXS _ hI.d0.d0.d0) rfl (fun W hW => have hI := hSx W hW; (by first | exact rLdB (n := 2) rfl (by kernel_rfl) (by kernel_rfl) rfl rfl hI.g0 | exact rLdB (n := 2) rfl (by kernel_rfl) (by kernel_rfl) rfl rfl hI.g1 | exact rLdB (n := 2) rfl (by kernel_rfl) (by kernel_rfl) rfl rfl hI.g2 | exact rLd2 rfl (by kernel_rfl) (by kernel_rfl) rfl (by first | exact hI.c0 rfl | exact hI.c1 rfl | exact hI.c2 rfl) (by first | exact hI.c0 rfl | exact hI.c1 rfl | exact hI.c2 rfl))) ?_ | refine WT_skip 25 rfl rfl (by kernel_rfl) (hXS _ hI.d0.d0.d0) rfl ?_
  first | refine WT_take 28 rfl rfl (by kernel_rfl) (hXS _ hI.d0.d0.d0) rfl (fun W hW => have hI := hSx W hW; (by first | exact rLdB (n := 2) rfl (by kernel_rfl) (by kernel_rfl) rfl rfl hI.g0 | exact rLdB (n := 2) rfl (by kernel_rfl) (by kernel_rfl) rfl rfl hI.g1 | exact rLdB (n := 2) rfl (by kernel_rfl) (by kernel_rfl) rfl rfl hI.g2 | exact rLd2 rfl (by kernel_rfl) (by kernel_rfl) rfl (by first | exact hI.c0 rfl | exact hI.c1 rfl | exact hI.c2 rfl) (by first | exact hI.c0 rfl | exact hI.c1 rfl | exact hI.c2 rfl))) ?_ | refine WT_skip 28 rfl rfl (by kernel_rfl) (hXS _ hI.d0.d0.d0) rfl ?_
  first | refine WT_take 29 rfl rfl (by kernel_rfl) (hXS _ hI.d0.d0.d0) rfl (fun W hW => have hI := hSx W hW; (rIface rfl Try.underlying36 rfl rfl)) ?_ | refine WT_skip 29 rfl rfl (by kernel_rfl) (hXS _ hI.d0.d0.d0) rfl ?_
  first | refine WT_take 30 rfl rfl (by kernel_rfl) (hXS _ hI.d0.d0.d0) rfl (fun W hW => have hI := hSx W hW; (by first | exact rLdB (n := 2) rfl (by kernel_rfl) (by kernel_rfl) rfl rfl hI.g0 | exact rLdB (n := 2) rfl (by kernel_rfl) (by kernel_rfl) rfl rfl hI.g1 | exact rLdB (n := 2) rfl (by kernel_rfl) (by kernel_rfl) rfl rfl hI.g2 | exact rLd2 rfl (by kernel_rfl) (by kernel_rfl) rfl (by first | exact hI.c0 rfl | exact hI.c1 rfl | exact hI.c2 rfl) (by first | exact hI.c0 rfl | exact hI.c1 rfl | exact hI.c2 rfl))) ?_ | refine WT_skip 30 rfl rfl (by kernel_rfl) (hXS _ hI.d0.d0.d0) rfl ?_
  first | refine WT_take 31 rfl rfl (by kernel_rfl) (hXS _ hI.d0.d0.d0) rfl (fun W hW => have hI := hSx W hW; (rIface rfl Try.underlying36 rfl rfl)) ?_ | refine WT_skip 31 rfl rfl (by kernel_rfl) (hXS _ hI.d0.d0.d0) rfl ?_
  first | refine WT_take 32 rfl rfl (by kernel_rfl) (hXS _ hI.d0.d0.d0) rfl (fun W hW => have hI := hSx W hW; (by first | exact rLdB (n := 2) rfl (by kernel_rfl) (by kernel_rfl) rfl rfl hI.g0 | exact rLdB (n := 2) rfl (by kernel_rfl) (by kernel_rfl) rfl rfl hI.g1 | exact rLdB (n := 2) rfl (by kernel_rfl) (by kernel_rfl) rfl rfl hI.g2 | exact rLd2 rfl (by kernel_rfl) (by kernel_rfl) rfl (by first | exact hI.c0 rfl | exact hI.c1 rfl | exact hI.c2 rfl) (by first | exact hI.c0 rfl | exact hI.c1 rfl | exact hI.c2 rfl))) ?_ | refine WT_skip 32 rfl rfl (by kernel_rfl) (hXS _ hI.d0.d0.d0) rfl ?_
  refine WT_one 23 rfl (by kernel_rfl) rfl ?_
  refine WL_call rfl rfl rfl (rCallI (f := 16) (vs := [.agg _]) rfl rfl rfl (fun _ => by kernel_rfl)) ?_
  refine (joinP_any aA aB bA bB a b _ (ha.pure hI.pu) (hb.pure hI.pu)).mono ?_
  rintro e w1 ⟨A23, B23, rfl, hJ⟩
  refine ⟨_, rfl, ?_⟩
  replace hI := hI.app1 hJ
  refine WL_nil ⟨hXS _ hI.d0.d0.d0.d0, ?_⟩
  first | refine WT_take 24 rfl rfl (by kernel_rfl) (hXS _ hI.d0.d0.d0.d0) rfl (fun W hW => have hI := hSx W hW; (rIface rfl Try.underlying36 rfl rfl)) ?_ | refine WT_skip 24 rfl rfl (by kernel_rfl) (hXS _ hI.d0.d0.d0.d0) rfl ?_
  refine WT_one 26 rfl (by kernel_rfl) rfl ?_
  refine WL_call rfl rfl rfl (rCallI (f := 16) (vs := [.agg _]) rfl rfl rfl (fun _ => by kernel_rfl)) ?_
  refine (joinP_any A23 B23 cA cB (jP a b) c _ (ThE.rd (p := jP a b) hI (by repeat' first | exact List.Mem.head _ | apply List.Mem.tail)) (hc.pure hI.pu)).mono ?_
  rintro e w1 ⟨A26, B26, rfl, hJ⟩
  refine ⟨_, rfl, ?_⟩
  replace hI := hI.app1 hJ
  refine WL_nil ⟨hXS _ hI.d0.d0.d0.d0.d0, ?_⟩
  first | refine WT_take 27 rfl rfl (by kernel_rfl) (hXS _ hI.d0.d0.d0.d0.d0) rfl (fun W hW => have hI := hSx W hW; (rIface rfl Try.underlying36 rfl rfl)) ?_ | refine WT_skip 27 rfl rfl (by kernel_rfl) (hXS _ hI.d0.d0.d0.d0.d0) rfl ?_
  refine WT_one 33 rfl (by kernel_rfl) rfl ?_
  refine WL_call rfl rfl rfl (rCallI (f := 16) (vs := [.agg _]) rfl rfl rfl (fun _ => by kernel_rfl)) ?_
  refine (joinP_any bA bB cA cB b c _ (hb.pure hI.pu) (hc.pure hI.pu)).mono ?_
  rintro e w1 ⟨A33, B33, rfl, hJ⟩
  refine ⟨_, rfl, ?_⟩
  replace hI := hI.app1 hJ
  refine WL_nil ⟨hXS _ hI.d0.d0.d0.d0.d0.d0, ?_⟩
  refine WT_one 34 rfl (by kernel_rfl) rfl ?_
  refine WL_call rfl rfl rfl (rCallI (f := 16) (vs := [.agg _]) rfl rfl rfl (fun _ => by kernel_rfl)) ?_
  refine (joinP_any aA aB A33 B33 a (jP b c) _ (ha.pure hI.pu) (ThE.rd (p := jP b c) hI (by repeat' first | exact List.Mem.head _ | apply List.Mem.tail))).mono ?_
  rintro e w1 ⟨A34, B34, rfl, hJ⟩
  refine ⟨_, rfl, ?_⟩
  replace hI := hI.app1 hJ
  refine WL_nil ⟨hXS _ hI.d0.d0.d0.d0.d0.d0.d0, ?_⟩
  refine WT_one 35 rfl (by kernel_rfl) rfl ?_
  refine WL_call rfl rfl rfl (rCallI (f := 78) (vs := [.agg _]) rfl rfl rfl (fun _ => by kernel_rfl)) ?_
  refine (sameTh_any A26 B26 A34 B34 (jP (jP a b) c).1 (jP (jP a b) c).2 _ (ThE.rd (p := jP (jP a b) c) hI (by repeat' first | exact List.Mem.head _ | apply List.Mem.tail)) ((ThE.rd (p := jP a (jP b c)) hI (by repeat' first | exact List.Mem.head _ | apply List.Mem.tail)).cast (jP_assoc a b c).symm)).mono ?_
  rintro e w1 ⟨rfl, hp⟩
  refine ⟨_, rfl, ?_⟩
  replace hI := hI.pure hp
  refine WL_nil ⟨hXS _ hI.d0.d0.d0.d0.d0.d0.d0, ?_⟩
  refine WT_take 36 rfl rfl (by kernel_rfl) (hXS _ hI.d0.d0.d0.d0.d0.d0.d0) rfl (fun W hW => have hI := hSx W hW; (by first | exact rPickTB rfl rfl rfl | exact rPickFB rfl rfl rfl | exact rPickB rfl rfl rfl rfl)) ?_
  refine WT_take 37 rfl rfl (by kernel_rfl) (hXS _ hI.d0.d0.d0.d0.d0.d0.d0) rfl (fun W hW => have hI := hSx W hW; (by first | exact rMoveB rfl rfl | exact rMove rfl)) ?_
  first | refine WT_take 38 rfl rfl (by kernel_rfl) (hXS _ hI.d0.d0.d0.d0.d0.d0.d0) rfl (fun W hW => have hI := hSx W hW; (by first | exact rLdB (n := 2) rfl (by kernel_rfl) (by kernel_rfl) rfl rfl hI.g0 | exact rLdB (n := 2) rfl (by kernel_rfl) (by kernel_rfl) rfl rfl hI.g1 | exact rLdB (n := 2) rfl (by kernel_rfl) (by kernel_rfl) rfl rfl hI.g2 | exact rLd2 rfl (by kernel_rfl) (by kernel_rfl) rfl (by first | exact hI.c0 rfl | exact hI.c1 rfl | exact hI.c2 rfl) (by first | exact hI.c0 rfl | exact hI.c1 rfl | exact hI.c2 rfl))) ?_ | refine WT_skip 38 rfl rfl (by kernel_rfl) (hXS _ hI.d0.d0.d0.d0.d0.d0.d0) rfl ?_
  first | refine WT_take 39 rfl rfl (by kernel_rfl) (hXS _ hI.d0.d0.d0.d0.d0.d0.d0) rfl (fun W hW => have hI := hSx W hW; (by first | exact rLdB (n := 2) rfl (by kernel_rfl) (by kernel_rfl) rfl rfl hI.g0 | exact rLdB (n := 2) rfl (by kernel_rfl) (by kernel_rfl) rfl rfl hI.g1 | exact rLdB (n := 2) rfl (by kernel_rfl) (by kernel_rfl) rfl rfl hI.g2 | exact rLd2 rfl (by kernel_rfl) (by kernel_rfl) rfl (by first | exact hI.c0 rfl | exact hI.c1 rfl | exact hI.c2 rfl) (by first | exact hI.c0 rfl | exact hI.c1 rfl | exact hI.c2 rfl))) ?_ | refine WT_skip 39 rfl rfl (by kernel_rfl) (hXS _ hI.d0.d0.d0.d0.d0.d0.d0) rfl ?_
  first | refine WT_take 40 rfl rfl (by kernel_rfl) (hXS _ hI.d0.d0.d0.d0.d0.d0.d0) rfl (fun W hW => have hI := hSx W hW; (by first | exact rLdB (n := 2) rfl (by kernel_rfl) (by kernel_rfl) rfl rfl hI.g0 | exact rLdB (n := 2) rfl (by kernel_rfl) (by kernel_rfl) rfl rfl hI.g1 | exact rLdB (n := 2) rfl (by kernel_rfl) (by kernel_rfl) rfl rfl hI.g2 | exact rLd2 rfl (by kernel_rfl) (by kernel_rfl) rfl (by first | exact hI.c0 rfl | exact hI.c1 rfl | exact hI.c2 rfl) (by first | exact hI.c0 rfl | exact hI.c1 rfl | exact hI.c2 rfl))) ?_ | refine WT_skip 40 rfl rfl (by kernel_rfl) (hXS _ hI.d0.d0.d0.d0.d0.d0.d0) rfl ?_
  first | refine WT_take 44 rfl rfl (by kernel_rfl) (hXS _ hI.d0.d0.d0.d0.d0.d0.d0) rfl (fun W hW => have hI := hSx W hW; (by first | exact rLdB (n := 2) rfl (by kernel_rfl) (by kernel_rfl) rfl rfl hI.g0 | exact rLdB (n := 2) rfl (by kernel_rfl) (by kernel_rfl) rfl rfl hI.g1 | exact rLdB (n := 2) rfl (by kernel_rfl) (by kernel_rfl) rfl rfl hI.g2 | exact rLd2 rfl (by kernel_rfl) (by kernel_rfl) rfl (by first | exact hI.c0 rfl | exact hI.c1 rfl | exact hI.c2 rfl) (by first | exact hI.c0 rfl | exact hI.c1 rfl | exact hI.c2 rfl))) ?_ | refine WT_skip 44 rfl rfl (by kernel_rfl) (hXS _ hI.d0.d0.d0.d0.d0.d0.d0) rfl ?_
  first | refine WT_take 45 rfl rfl (by kernel_rfl) (hXS _ hI.d0.d0.d0.d0.d0.d0.d0) rfl (fun W hW => have hI := hSx W hW; (by first | exact rLdB (n := 2) rfl (by kernel_rfl) (by kernel_rfl) rfl rfl hI.g0 | exact rLdB (n := 2) rfl (by kernel_rfl) (by kernel_rfl) rfl rfl hI.g1 | exact rLdB (n := 2) rfl (by kernel_rfl) (by kernel_rfl) rfl rfl hI.g2 | exact rLd2 rfl (by kernel_rfl) (by kernel_rfl) rfl (by first | exact hI.c0 rfl | exact hI.c1 rfl | exact hI.c2 rfl) (by first | exact hI.c0 rfl | exact hI.c1 rfl | exact hI.c2 rfl))) ?_ | refine WT_skip 45 rfl rfl (by kernel_rfl) (hXS _ hI.d0.d0.d0.d0.d0.d0.d0) rfl ?_
  first | refine WT_take 46 rfl rfl (by kernel_rfl) (hXS _ hI.d0.d0.d0.d0.d0.d0.d0) rfl (fun W hW => have hI := hSx W hW; (by first | exact rLdB (n := 2) rfl (by kernel_rfl) (by kernel_rfl) rfl rfl hI.g0 | exact rLdB (n := 2) rfl (by kernel_rfl) (by kernel_rfl) rfl rfl hI.g1 | exact rLdB (n := 2) rfl (by kernel_rfl) (by kernel_rfl) rfl rfl hI.g2 | exact rLd2 rfl (by kernel_rfl) (by kernel_rfl) rfl (by first | exact hI.c0 rfl | exact hI.c1 rfl | exact hI.c2 rfl) (by first | exact hI.c0 rfl | exact hI.c1 rfl | exact hI.c2 rfl))) ?_ | refine WT_skip 46 rfl rfl (by kernel_rfl) (hXS _ hI.d0.d0.d0.d0.d0.d0.d0) rfl ?_
  first | refine WT_take 47 rfl rfl (by kernel_rfl) (hXS _ hI.d0.d0.d0.d0.d0.d0.d0) rfl (fun W hW => have hI := hSx W hW; (by first | exact rLdB (n := 2) rfl (by kernel_rfl) (by kernel_rfl) rfl rfl hI.g0 | exact rLdB (n := 2) rfl (by kernel_rfl) (by kernel_rfl) rfl rfl hI.g1 | exact rLdB (n := 2) rfl (by kernel_rfl) (by kernel_rfl) rfl rfl hI.g2 | exact rLd2 rfl (by kernel_rfl) (by kernel_rfl) rfl (by first | exact hI.c0 rfl | exact hI.c1 rfl | exact hI.c2 rfl) (by first | exact hI.c0 rfl | exact hI.c1 rfl | exact hI.c2 rfl))) ?_ | refine WT_skip 47 rfl rfl (by kernel_rfl) (hXS _ hI.d0.d0.d0.d0.d0.d0.d0) rfl ?_
  refine WT_two 41 48 rfl rfl (by kernel_rfl) rfl rfl ?_ ?_
  · refine WL_litA (e := 36) (size := 2) [[.map bA, .map bB], [.map cA, .map cB]] hI rfl rfl rfl rfl rfl Try.underlying73 (by kernel_rfl) (by kernel_rfl) rfl (by simp) (by omega) ?_
    clear hI; rintro b48 w - - hI
    refine WL_nil ⟨hXS _ hI.d0.d0.d0.d0.d0.d0.d0.d0, ?_⟩
    refine WT_two 42 48 rfl rfl (by kernel_rfl) rfl rfl ?_ ?_
    · refine WL_call rfl rfl rfl (rCall (vs := [.agg _, .slice _ _ _]) rfl Try.func26 rfl rfl rfl) ?_
      refine (allTh_any aA aB a [⟨bA, bB, b⟩, ⟨cA, cB, c⟩] b48 2 _ (ha.pure hI.pu) (by simp only [List.mem_cons, List.not_mem_nil, or_false, forall_eq_or_imp, forall_eq]; exact ⟨hb.pure hI.pu, hc.pure hI.pu⟩) rfl (by omega) (blk_th [⟨bA, bB, b⟩, ⟨cA, cB, c⟩] (hI.ok (B b48 36 #[.map bA, .map bB, .map cA, .map cB]) (by repeat' first | exact List.Mem.head _ | apply List.Mem.tail)).1)).mono ?_
      rintro e w1 ⟨A42, B42, rfl, hJ⟩
      refine ⟨_, rfl, ?_⟩
      replace hI := hI.app1 hJ
      refine WL_nil ⟨hXS _ hI.d0.d0.d0.d0.d0.d0.d0.d0.d0, ?_⟩
      first | refine WT_take 43 rfl rfl (by kernel_rfl) (hXS _ hI.d0.d0.d0.d0.d0.d0.d0.d0.d0) rfl (fun W hW => have hI := hSx W hW; (rIface rfl Try.underlying36 rfl rfl)) ?_ | refine WT_skip 43 rfl rfl (by kernel_rfl) (hXS _ hI.d0.d0.d0.d0.d0.d0.d0.d0.d0) rfl ?_
      refine WT_one 48 rfl (by kernel_rfl) rfl ?_
      refine WL_litA (e := 36) (size := 2) [[.map aA, .map aB], [.map bA, .map bB], [.map aA, .map aB]] hI rfl rfl rfl rfl rfl Try.underlying73 (by kernel_rfl) (by kernel_rfl) rfl (by simp) (by omega) ?_
      clear hI; rintro b55 w - - hI
      refine WL_nil ⟨hXS _ hI.d0.d0.d0.d0.d0.d0.d0.d0.d0.d0, ?_⟩
      refine WT_one 49 rfl (by kernel_rfl) rfl ?_
      refine WL_call rfl rfl rfl (rCall (vs := [.agg _, .slice _ _ _]) rfl Try.func26 rfl rfl rfl) ?_
      refine (allTh_any cA cB c [⟨aA, aB, a⟩, ⟨bA, bB, b⟩, ⟨aA, aB, a⟩] b55 3 _ (hc.pure hI.pu) (by simp only [List.mem_cons, List.not_mem_nil, or_false, forall_eq_or_imp, forall_eq]; exact ⟨ha.pure hI.pu, hb.pure hI.pu, ha.pure hI.pu⟩) rfl (by omega) (blk_th [⟨aA, aB, a⟩, ⟨bA, bB, b⟩, ⟨aA, aB, a⟩] (hI.ok (B b55 36 #[.map aA, .map aB, .map bA, .map bB, .map aA, .map aB]) (by repeat' first | exact List.Mem.head _ | apply List.Mem.tail)).1)).mono ?_
      rintro e w1 ⟨A49, B49, rfl, hJ⟩
      refine ⟨_, rfl, ?_⟩
      replace hI := hI.app1 hJ
      refine WL_nil ⟨hXS _ hI.d0.d0.d0.d0.d0.d0.d0.d0.d0.d0.d0, ?_⟩
      refine WT_one 50 rfl (by kernel_rfl) rfl ?_
      refine WL_call rfl rfl rfl (rCallI (f := 78) (vs := [.agg _]) rfl rfl rfl (fun _ => by kernel_rfl)) ?_
      refine (sameTh_any A42 B42 A49 B49 (jP (jP a b) c).1 (jP (jP a b) c).2 _ (ThE.rd (p := jP (jP a b) c) hI (by repeat' first | exact List.Mem.head _ | apply List.Mem.tail)) ((ThE.rd (p := jP (jP (jP c a) b) a) hI (by repeat' first | exact List.Mem.head _ | apply List.Mem.tail)).cast (jP_all hab hac hbc).symm)).mono ?_
      rintro e w1 ⟨rfl, hp⟩
      refine ⟨_, rfl, ?_⟩
      replace hI := hI.pure hp
      refine WL_nil ⟨hXS _ hI.d0.d0.d0.d0.d0.d0.d0.d0.d0.d0.d0, ?_⟩
      refine WT_take 51 rfl rfl (by kernel_rfl) (hXS _ hI.d0.d0.d0.d0.d0.d0.d0.d0.d0.d0.d0) rfl (fun W hW => have hI := hSx W hW; (by first | exact rPickTB rfl rfl rfl | exact rPickFB rfl rfl rfl | exact rPickB rfl rfl rfl rfl)) ?_
      refine WT_take 52 rfl rfl (by kernel_rfl) (hXS _ hI.d0.d0.d0.d0.d0.d0.d0.d0.d0.d0.d0) rfl (fun W hW => have hI := hSx W hW; (by first | exact rAsgnB rfl rfl | exact rAsgn rfl)) ?_
      refine WT_end (by kernel_rfl) ?_
      refine W_ret ?_
      exact ret1 6 (.inr rfl) rfl ⟨rfl, hI.pu⟩
    · refine WL_litA (e := 36) (size := 2) [[.map aA, .map aB], [.map bA, .map bB], [.map aA, .map aB]] hI rfl rfl rfl rfl rfl Try.underlying73 (by kernel_rfl) (by kernel_rfl) rfl (by simp) (by omega) ?_
      clear hI; rintro b55 w - - hI
      refine WL_nil ⟨hXS _ hI.d0.d0.d0.d0.d0.d0.d0.d0.d0, ?_⟩
      refine WT_one 42 rfl (by kernel_rfl) rfl ?_
      refine WL_call rfl rfl rfl (rCall (vs := [.agg _, .slice _ _ _]) rfl Try.func26 rfl rfl rfl) ?_
      refine (allTh_any aA aB a [⟨bA, bB, b⟩, ⟨cA, cB, c⟩] b48 2 _ (ha.pure hI.pu) (by simp only [List.mem_cons, List.not_mem_nil, or_false, forall_eq_or_imp, forall_eq]; exact ⟨hb.pure hI.pu, hc.pure hI.pu⟩) rfl (by omega) (blk_th [⟨bA, bB, b⟩, ⟨cA, cB, c⟩] (hI.ok (B b48 36 #[.map bA, .map bB, .map cA, .map cB]) (by repeat' first | exact List.Mem.head _ | apply List.Mem.tail)).1)).mono ?_
      rintro e w1 ⟨A42, B42, rfl, hJ⟩
      refine ⟨_, rfl, ?_⟩
      replace hI := hI.app1 hJ
      refine WL_nil ⟨hXS _ hI.d0.d0.d0.d0.d0.d0.d0.d0.d0.d0, ?_⟩
      first | refine WT_take 43 rfl rfl (by kernel_rfl) (hXS _ hI.d0.d0.d0.d0.d0.d0.d0.d0.d0.d0) rfl (fun W hW => have hI := hSx W hW; (rIface rfl Try.underlying36 rfl rfl)) ?_ | refine WT_skip 43 rfl rfl (by kernel_rfl) (hXS _ hI.d0.d0.d0.d0.d0.d0.d0.d0.d0.d0) rfl ?_
      refine WT_one 49 rfl (by kernel_rfl) rfl ?_
      refine WL_call rfl rfl rfl (rCall (vs := [.agg _, .slice _ _ _]) rfl Try.func26 rfl rfl rfl) ?_
      refine (allTh_any cA cB c [⟨aA, aB, a⟩, ⟨bA, bB, b⟩, ⟨aA, aB, a⟩] b55 3 _ (hc.pure hI.pu) (by simp only [List.mem_cons, List.not_mem_nil, or_false, forall_eq_or_imp, forall_eq]; exact ⟨ha.pure hI.pu, hb.pure hI.pu, ha.pure hI.pu⟩) rfl (by omega) (blk_th [⟨aA, aB, a⟩, ⟨bA, bB, b⟩, ⟨aA, aB, a⟩] (hI.ok (B b55 36 #[.map aA, .map aB, .map bA, .map bB, .map aA, .map aB]) (by repeat' first | exact List.Mem.head _ | apply List.Mem.tail)).1)).mono ?_
      rintro e w1 ⟨A49, B49, rfl, hJ⟩
      refine ⟨_, rfl, ?_⟩
      replace hI := hI.app1 hJ
      refine WL_nil ⟨hXS _ hI.d0.d0.d0.d0.d0.d0.d0.d0.d0.d0.d0, ?_⟩
      refine WT_one 50 rfl (by kernel_rfl) rfl ?_
      refine WL_call rfl rfl rfl (rCallI (f := 78) (vs := [.agg _]) rfl rfl rfl (fun _ => by kernel_rfl)) ?_
      refine (sameTh_any A42 B42 A49 B49 (jP (jP a b) c).1 (jP (jP a b) c).2 _ (ThE.rd (p := jP (jP a b) c) hI (by repeat' first | exact List.Mem.head _ | apply List.Mem.tail)) ((ThE.rd (p := jP (jP (jP c a) b) a) hI (by repeat' first | exact List.Mem.head _ | apply List.Mem.tail)).cast (jP_all hab hac hbc).symm)).mono ?_
      rintro e w1 ⟨rfl, hp⟩
      refine ⟨_, rfl, ?_⟩
      replace hI := hI.pure hp
      refine WL_nil ⟨hXS _ hI.d0.d0.d0.d0.d0.d0.d0.d0.d0.d0.d0, ?_⟩
      refine WT_take 51 rfl rfl (by kernel_rfl) (hXS _ hI.d0.d0.d0.d0.d0.d0.d0.d0.d0.d0.d0) rfl (fun W hW => have hI := hSx W hW; (by first | exact rPickTB rfl rfl rfl | exact rPickFB rfl rfl rfl | exact rPickB rfl rfl rfl rfl)) ?_
      refine WT_take 52 rfl rfl (by kernel_rfl) (hXS _ hI.d0.d0.d0.d0.d0.d0.d0.d0.d0.d0.d0) rfl (fun W hW => have hI := hSx W hW; (by first | exact rAsgnB rfl rfl | exact rAsgn rfl)) ?_
      refine WT_end (by kernel_rfl) ?_
      refine W_ret ?_
      exact ret1 6 (.inr rfl) rfl ⟨rfl, hI.pu⟩
  · refine WL_litA (e := 36) (size := 2) [[.map aA, .map aB], [.map bA, .map bB], [.map aA, .map aB]] hI rfl rfl rfl rfl rfl Try.underlying73 (by kernel_rfl) (by kernel_rfl) rfl (by simp) (by omega) ?_
    clear hI; rintro b55 w - - hI
    refine WL_nil ⟨hXS _ hI.d0.d0.d0.d0.d0.d0.d0.d0, ?_⟩
    refine WT_one 41 rfl (by kernel_rfl) rfl ?_
    refine WL_litA (e := 36) (size := 2) [[.map bA, .map bB], [.map cA, .map cB]] hI rfl rfl rfl rfl rfl Try.underlying73 (by kernel_rfl) (by kernel_rfl) rfl (by simp) (by omega) ?_
    clear hI; rintro b48 w - - hI
    refine WL_nil ⟨hXS _ hI.d0.d0.d0.d0.d0.d0.d0.d0.d0, ?_⟩
    refine WT_one 42 rfl (by kernel_rfl) rfl ?_
    refine WL_call rfl rfl rfl (rCall (vs := [.agg _, .slice _ _ _]) rfl Try.func26 rfl rfl rfl) ?_
    refine (allTh_any aA aB a [⟨bA, bB, b⟩, ⟨cA, cB, c⟩] b48 2 _ (ha.pure hI.pu) (by simp only [List.mem_cons, List.not_mem_nil, or_false, forall_eq_or_imp, forall_eq]; exact ⟨hb.pure hI.pu, hc.pure hI.pu⟩) rfl (by omega) (blk_th [⟨bA, bB, b⟩, ⟨cA, cB, c⟩] (hI.ok (B b48 36 #[.map bA, .map bB, .map cA, .map cB]) (by repeat' first | exact List.Mem.head _ | apply List.Mem.tail)).1)).mono ?_
    rintro e w1 ⟨A42, B42, rfl, hJ⟩
    refine ⟨_, rfl, ?_⟩
    replace hI := hI.app1 hJ
    refine WL_nil ⟨hXS _ hI.d0.d0.d0.d0.d0.d0.d0.d0.d0.d0, ?_⟩
    first | refine WT_take 43 rfl rfl (by kernel_rfl) (hXS _ hI.d0.d0.d0.d0.d0.d0.d0.d0.d0.d0) rfl (fun W hW => have hI := hSx W hW; (rIface rfl Try.underlying36 rfl rfl)) ?_ | refine WT_skip 43 rfl rfl (by kernel_rfl) (hXS _ hI.d0.d0.d0.d0.d0.d0.d0.d0.d0.d0) rfl ?_
    refine WT_one 49 rfl (by kernel_rfl) rfl ?_
    refine WL_call rfl rfl rfl (rCall (vs := [.agg _, .slice _ _ _]) rfl Try.func26 rfl rfl rfl) ?_
    refine (allTh_any cA cB c [⟨aA, aB, a⟩, ⟨bA, bB, b⟩, ⟨aA, aB, a⟩] b55 3 _ (hc.pure hI.pu) (by simp only [List.mem_cons, List.not_mem_nil, or_false, forall_eq_or_imp, forall_eq]; exact ⟨ha.pure hI.pu, hb.pure hI.pu, ha.pure hI.pu⟩) rfl (by omega) (blk_th [⟨aA, aB, a⟩, ⟨bA, bB, b⟩, ⟨aA, aB, a⟩] (hI.ok (B b55 36 #[.map aA, .map aB, .map bA, .map bB, .map aA, .map aB]) (by repeat' first | exact List.Mem.head _ | apply List.Mem.tail)).1)).mono ?_
    rintro e w1 ⟨A49, B49, rfl, hJ⟩
    refine ⟨_, rfl, ?_⟩
    replace hI := hI.app1 hJ
    refine WL_nil ⟨hXS _ hI.d0.d0.d0.d0.d0.d0.d0.d0.d0.d0.d0, ?_⟩
    refine WT_one 50 rfl (by kernel_rfl) rfl ?_
    refine WL_call rfl rfl rfl (rCallI (f := 78) (vs := [.agg _]) rfl rfl rfl (fun _ => by kernel_rfl)) ?_
    refine (sameTh_any A42 B42 A49 B49 (jP (jP a b) c).1 (jP (jP a b) c).2 _ (ThE.rd (p := jP (jP a b) c) hI (by repeat' first | exact List.Mem.head _ | apply List.Mem.tail)) ((ThE.rd (p := jP (jP (jP c a) b) a) hI (by repeat' first | exact List.Mem.head _ | apply List.Mem.tail)).cast (jP_all hab hac hbc).symm)).mono ?_
    rintro e w1 ⟨rfl, hp⟩
    refine ⟨_, rfl, ?_⟩
    replace hI := hI.pure hp
    refine WL_nil ⟨hXS _ hI.d0.d0.d0.d0.d0.d0.d0.d0.d0.d0.d0, ?_⟩
    refine WT_take 51 rfl rfl (by kernel_rfl) (hXS _ hI.d0.d0.d0.d0.d0.d0.d0.d0.d0.d0.d0) rfl (fun W hW => have hI := hSx W hW; (by first | exact rPickTB rfl rfl rfl | exact rPickFB rfl rfl rfl | exact rPickB rfl rfl rfl rfl)) ?_
    refine WT_take 52 rfl rfl (by kernel_rfl) (hXS _ hI.d0.d0.d0.d0.d0.d0.d0.d0.d0.d0.d0) rfl (fun W hW => have hI := hSx W hW; (by first | exact rAsgnB rfl rfl | exact rAsgn rfl)) ?_
    refine WT_end (by kernel_rfl) ?_
    refine W_ret ?_
    exact ret1 6 (.inr rfl) rfl ⟨rfl, hI.pu⟩
end Go.Proofs.Ytkfciehgjhgmeaa
