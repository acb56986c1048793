/- Que1, Que2, in one text. -/
import Derived.Test.YtijgkocolajghaaDoorSxR
import Derived.Test.YtijgkocolajghaaDoorLin11
/-! Que1: queue.Check. -/
namespace Go.Proofs.YtijgkocolajghaaDoor
open Go.RowKit
set_option linter.unusedVariables false
set_option linter.unusedSimpArgs false
/-! ### Where something first is so -/
def fdN (p : Nat → Bool) (k : Nat) : Option Nat := (List.range k).find? p
theorem fdN_zero (p : Nat → Bool) : fdN p 0 = none := rfl
theorem fdN_some {p : Nat → Bool} {k j : Nat} (h : fdN p k = some j) : j < k ∧ p j = true := ⟨List.mem_range.1 (List.mem_of_find?_eq_some h), List.find?_some h⟩
theorem fdN_none {p : Nat → Bool} {k : Nat} : fdN p k = none ↔ ∀ j, j < k → p j = false := by
  unfold fdN
  rw [List.find?_eq_none]
  exact ⟨fun h j hj => by simpa using h j (List.mem_range.2 hj), fun h j hj => by simpa using h j (List.mem_range.1 hj)⟩
theorem fdN_succ (p : Nat → Bool) (k : Nat) : fdN p (k + 1) = match fdN p k with | some j => some j | none => if p k then some k else none := by
  unfold fdN
  rw [List.range_succ, List.find?_append]
  cases List.find? p (List.range k) with
  | some j => rfl
  | none => cases h : p k <;> simp [h]
theorem fdN_first {p : Nat → Bool} {k j : Nat} (h : fdN p k = some j) {i : Nat} (hi : i < j) : p i = false := by
  induction k with
  | zero => cases h
  | succ k ih =>
    rw [fdN_succ] at h
    cases hk : fdN p k with
    | some j' => rw [hk] at h; injection h with h; subst h; exact ih hk
    | none =>
      rw [hk] at h
      simp only at h
      split at h
      · injection h with h
        subst h
        exact fdN_none.1 hk i hi
      · cases h
def pushB (l : List Op8) (v : Int) (j : Nat) : Bool := decide ((oAt l j).kind = 9) && decide ((oAt l j).a = v)
def popB (l : List Op8) (v : Int) (j : Nat) : Bool := decide ((oAt l j).kind = 10) && decide ((oAt l j).res = v)
abbrev okI : Int → Prop := fun _ => True
abbrev kI : Int → Value := fun a => .int .i64 a
def mpF (f : Int → Nat → Bool) (k : Nat) (v : Int) : Option Value := (fdN (f v) k).map fun j => .int .i64 (j : Int)
theorem mpF_zero (f : Int → Nat → Bool) : (fun _ : Int => (none : Option Value)) = mpF f 0 := rfl
theorem mpF_same {f : Int → Nat → Bool} {k : Nat} (h : ∀ v, f v k = true → fdN (f v) k ≠ none) : mpF f (k + 1) = mpF f k := by
  funext v
  unfold mpF
  rw [fdN_succ]
  cases hk : fdN (f v) k with
  | some j => rfl
  | none =>
    have : f v k = false := by
      cases hf : f v k with
      | false => rfl
      | true => exact absurd hk (h v hf)
    rw [this]; rfl
theorem mpF_new {f : Int → Nat → Bool} {k : Nat} {a : Int} (h : ∀ v, f v k = true ↔ v = a) (hn : fdN (f a) k = none) : (fun v => if v = a then some (Value.int .i64 (k : Int)) else mpF f k v) = mpF f (k + 1) := by
  funext v
  unfold mpF
  rw [fdN_succ]
  by_cases hv : v = a
  · subst hv
    rw [if_pos rfl, hn, (h v).2 rfl]; rfl
  · rw [if_neg hv]
    cases hk : fdN (f v) k with
    | some j => rfl
    | none =>
      have : f v k = false := by
        cases hf : f v k with
        | false => rfl
        | true => exact absurd ((h v).1 hf) hv
      rw [this]; rfl
/-! ### What may be looked at -/
structure OkQ (l : List Op8) : Prop where
  ops : OkOps l
  kind : ∀ i, i < l.length → (oAt l i).kind = 9 ∨ (oAt l i).kind = 10
  ret : ∀ i, i < l.length → 0 ≤ (oAt l i).ret
  key : ∀ i, i < l.length → (oAt l i).key = (oAt l 0).key
  push : ∀ i, i < l.length → (oAt l i).kind = 9 → (oAt l i).a ≠ -1 ∧ (oAt l i).res = 0
  pop : ∀ i, i < l.length → (oAt l i).kind = 10 → (oAt l i).res ≠ -1
  once : ∀ i j, i < j → j < l.length → (oAt l i).kind = 9 → (oAt l j).kind = 9 → (oAt l i).a ≠ (oAt l j).a
def OkQ1 (k0 : Int) (p : Op8) : Prop := (p.kind = 9 ∨ p.kind = 10) ∧ 0 ≤ p.ret ∧ p.key = k0 ∧ (p.kind = 9 → p.a ≠ -1 ∧ p.res = 0) ∧ (p.kind = 10 → p.res ≠ -1)
def OkQk (l : List Op8) (k : Nat) : Prop := (∀ i, i < k → OkQ1 (oAt l 0).key (oAt l i)) ∧ ∀ i j, i < j → j < k → (oAt l i).kind = 9 → (oAt l j).kind = 9 → (oAt l i).a ≠ (oAt l j).a
theorem OkQk.succ {l : List Op8} {k : Nat} (h : OkQk l k) (h1 : OkQ1 (oAt l 0).key (oAt l k)) (h2 : (oAt l k).kind = 9 → fdN (pushB l (oAt l k).a) k = none) : OkQk l (k + 1) := by
  refine ⟨fun i hi => ?_, fun i j hij hj ki kj => ?_⟩
  · rcases Nat.lt_or_ge i k with h3 | h3
    · exact h.1 i h3
    · obtain rfl : i = k := by omega
      exact h1
  · rcases Nat.lt_or_ge j k with h3 | h3
    · exact h.2 i j hij h3 ki kj
    · obtain rfl : j = k := by omega
      have := fdN_none.1 (h2 kj) i hij
      intro e
      unfold pushB at this
      simp [ki, e] at this
theorem okQ_of {l : List Op8} (h1 : OkOps l) (h2 : OkQk l l.length) : OkQ l := ⟨h1, fun i hi => (h2.1 i hi).1, fun i hi => (h2.1 i hi).2.1, fun i hi => (h2.1 i hi).2.2.1, fun i hi => (h2.1 i hi).2.2.2.1, fun i hi => (h2.1 i hi).2.2.2.2, fun i j hij hj => h2.2 i j hij hj⟩
theorem OkQ.one {l : List Op8} (h : OkQ l) {i : Nat} (hi : i < l.length) : OkQ1 (oAt l 0).key (oAt l i) := ⟨h.kind i hi, h.ret i hi, h.key i hi, h.push i hi, h.pop i hi⟩
def CqPost (l : List Op8) (w0 : World) (en : Ending) (w' : World) : Prop := Pure w0 w' ∧ ((OkQ l ∧ en = .returned .nilIface) ∨ (¬ OkQ l ∧ ∃ x, IsErr x ∧ en = .returned x))
theorem CqPost.bad {l : List Op8} {w0 w' : World} {z : Int} (h : ¬ OkQ l) (hp : Pure w0 w') : CqPost l w0 (.returned (.iface 36 (.int .i64 z))) w' := ⟨hp, .inr ⟨h, _, ⟨z, rfl⟩, rfl⟩⟩
theorem keyI : KeyOk Tryd.prog 3 okI kI := keyInt Tryd.underlying3
set_option maxHeartbeats 8000000 in
theorem qcheck_any (A : Option Addr) (n c : Nat) (l : List Op8) (D : Nat → Prop) (w0 : World) (h : OpsR w0 D (.slice A n c) l) : Calls Tryd.prog 10 #[.slice A n c] w0 (CqPost l w0) := by
  obtain ⟨hn, hc1, hc2⟩ := h.len
  subst hn
  have hI := Inv.start (fun _ => False) w0
  refine calls_of_W (N := Tryd.f10.ntmps) Tryd.func10 rfl rfl rfl ?_
  refine W_seq ?_
  refine W_region ?_
  refine WL_val rfl rfl rfl (by first | exact rAsgnN rfl rfl | exact rAsgnE rfl rfl | exact rAsgn rfl) ?_
  refine WL_nil ?_
  by_cases hok : OkOps l
  rotate_left
  · refine W_seq ?_
    refine W_seq ?_
    refine W_region ?_
    refine WL_val rfl rfl rfl (by first | exact rMoveS rfl rfl | exact rMove rfl) ?_
    refine WL_call rfl rfl rfl (rCall (vs := [.slice _ _ _]) rfl Tryd.func22 rfl rfl rfl) ?_
    refine (checkOps_any A l.length c l D _ (h.pure hI.pu)).mono ?_
    rintro e w1 ⟨hp, ⟨h1, _⟩ | ⟨_, x, ⟨z, rfl⟩, rfl⟩⟩
    · exact absurd h1 hok
    refine ⟨_, rfl, ?_⟩
    replace hI := hI.pure hp
    refine WL_val rfl rfl rfl (by first | exact rAsgnN rfl rfl | exact rAsgnE rfl rfl | exact rAsgn rfl) ?_
    refine WL_nil ?_
    refine W_seq ?_
    refine W_region ?_
    refine WL_val rfl rfl rfl (by first | exact rMoveN rfl rfl | exact rMoveE rfl rfl | exact rMove rfl) ?_
    refine WL_val rfl rfl rfl (by first | exact rIfaceNe rfl Tryd.underlying24 rfl rfl | exact rNilNe rfl Tryd.underlying24 rfl) ?_
    refine WL_nil ?_
    refine W_cond true rfl ?_
    refine W_seq ?_
    refine W_region ?_
    refine WL_val rfl rfl rfl (by first | exact rMoveN rfl rfl | exact rMoveE rfl rfl | exact rMove rfl) ?_
    refine WL_val rfl rfl rfl (by first | exact rAsgnN rfl rfl | exact rAsgnE rfl rfl | exact rAsgn rfl) ?_
    refine WL_nil ?_
    refine W_ret ?_
    exact ret1 2 (.inr rfl) rfl (CqPost.bad (fun hh => hok hh.ops) hI.pu)
  refine W_seq ?_
  refine W_seq ?_
  refine W_region ?_
  refine WL_val rfl rfl rfl (by first | exact rMoveS rfl rfl | exact rMove rfl) ?_
  refine WL_call rfl rfl rfl (rCall (vs := [.slice _ _ _]) rfl Tryd.func22 rfl rfl rfl) ?_
  refine (checkOps_any A l.length c l D _ (h.pure hI.pu)).mono ?_
  rintro e w1 ⟨hp, ⟨_, rfl⟩ | ⟨h1, _⟩⟩
  rotate_left
  · exact absurd hok h1
  refine ⟨_, rfl, ?_⟩
  replace hI := hI.pure hp
  refine WL_val rfl rfl rfl (by first | exact rAsgnN rfl rfl | exact rAsgnE rfl rfl | exact rAsgn rfl) ?_
  refine WL_nil ?_
  refine W_seq ?_
  refine W_region ?_
  refine WL_val rfl rfl rfl (by first | exact rMoveN rfl rfl | exact rMoveE rfl rfl | exact rMove rfl) ?_
  refine WL_val rfl rfl rfl (by first | exact rIfaceNe rfl Tryd.underlying24 rfl rfl | exact rNilNe rfl Tryd.underlying24 rfl) ?_
  refine WL_nil ?_
  refine W_cond false rfl ?_
  refine W_skip ?_
  refine W_seq ?_
  refine W_region ?_
  refine WL_mkMapK okI kI hI rfl rfl rfl rfl ?_
  clear hI; rintro b16 w hI
  refine WL_val rfl rfl rfl (by first | exact rAsgnM rfl rfl | exact rAsgn rfl) ?_
  refine WL_nil ?_
  have h40 := hok.1
  rw [mpF_zero (pushB l)] at hI
  refine W_seq ?_
  refine W_seq ?_
  refine W_region ?_
  refine WL_val rfl rfl rfl (by first | exact rMoveS rfl rfl | exact rMove rfl) ?_
  refine WL_val rfl rfl rfl (rLen rfl Tryd.underlying22 rfl) ?_
  refine WL_val rfl rfl rfl (by first | exact rMoveI rfl rfl | exact rMove rfl) ?_
  refine WL_nil ?_
  refine W_block ?_
  refine W_loopN (fun mu ρ w => ∃ k : Nat, mu = l.length - k ∧ k ≤ l.length ∧ OkQk l k ∧ Has ρ [(19, .int .i64 (k : Int)), (18, .int .i64 (l.length : Int)), (17, .slice A l.length c), (4, .map (some b16)), (0, .slice A l.length c)] ∧ Inv (fun _ => False) w0 w [MapKE okI kI b16 (mpF (pushB l) k)]) l.length
    ⟨0, rfl, by omega, ⟨fun i hi => by omega, fun i j _ hj => by omega⟩, ⟨rfl, rfl, rfl, rfl, rfl, trivial⟩, hI⟩ ?_
  clear hI
  rintro mu ρ w ⟨k, rfl, hk, hall, hH, hI⟩
  obtain ⟨σ, rfl⟩ := hH.open
  by_cases hkl : k < l.length
  rotate_left
  · obtain rfl : k = l.length := by omega
    refine W_seq ?_
    refine W_region ?_
    refine WL_val rfl rfl rfl (by first | exact rLssT rfl rfl rfl (by omega) | exact rLssF rfl rfl rfl (by omega) | exact rLss rfl rfl rfl) ?_
    refine WL_nil ?_
    refine W_seq ?_
    refine W_cond false rfl ?_
    refine W_exit ?_
    refine W_seq ?_
    refine W_region ?_
    refine WL_val rfl rfl rfl (by first | exact rAsgnN rfl rfl | exact rAsgnE rfl rfl | exact rAsgn rfl) ?_
    refine WL_nil ?_
    refine W_ret ?_
    exact ret1 2 (.inr rfl) rfl ⟨hI.pu, .inl ⟨okQ_of hok hall, rfl⟩⟩
  obtain ⟨bA, oA, hAe, hoc⟩ := (h.pure hI.pu).at hkl
  subst hAe
  have ho0 : ∀ W : World, Pure w0 W → ∀ (j : Nat) (u : Value), (opV (oAt l 0))[j]? = some u → W.cell? ⟨bA, oA + j, none⟩ = some u := fun W hp j u hj => by
    obtain ⟨b', o', e, hc⟩ := (h.pure hp).at (show 0 < l.length by omega)
    injection e with e
    injection e with e1 e2
    subst e1 e2
    simpa using hc j u hj
  have hone := fun (hh : OkQ l) => hh.one hkl
  have hsucc := hall.succ
  have hsame := mpF_same (f := pushB l) (k := k)
  have hnew := mpF_new (f := pushB l) (k := k) (a := (oAt l k).a)
  have htw : ∀ j, fdN (pushB l (oAt l k).a) k = some j → (oAt l k).kind = 9 → ¬ OkQ l := fun j hj hk9 hh => by
    obtain ⟨q1, q2⟩ := fdN_some hj
    unfold pushB at q2
    simp only [Bool.and_eq_true, decide_eq_true_eq] at q2
    exact hh.once j k q1 hkl q2.1 hk9 q2.2
  have hpb : ∀ v, pushB l v k = (decide ((oAt l k).kind = 9) && decide ((oAt l k).a = v)) := fun v => rfl
  generalize hpk : oAt l k = pk at hoc hone hsucc hnew htw hpb
  obtain ⟨p0, p1, p2, p3, p4, p5, p6, p7⟩ := pk
  generalize hk0 : (oAt l 0) = z0 at ho0 hone hsucc
  obtain ⟨z0, z1, z2, z3, z4, z5, z6, z7⟩ := z0
  simp only at hnew htw hpb hsucc hone
  have hz1 := fun (W : World) (hp : Pure w0 W) => ho0 W hp 1 _ rfl
  refine W_seq ?_
  refine W_region ?_
  refine WL_val rfl rfl rfl (by first | exact rLssT rfl rfl rfl (by omega) | exact rLssF rfl rfl rfl (by omega) | exact rLss rfl rfl rfl) ?_
  refine WL_nil ?_
  refine W_seq ?_
  refine W_cond true rfl ?_
  refine W_skip ?_
  refine W_seq ?_
  refine W_block ?_
  refine W_seq ?_
  refine W_region ?_
  refine WL_val rfl rfl rfl (by first | exact rMoveI rfl rfl | exact rMove rfl) ?_
  refine WL_val rfl rfl rfl (rIdx (sz := 8) rfl Tryd.underlying22 (by kernel_rfl) rfl rfl (by omega)) ?_
  refine WL_val rfl rfl rfl (by first | exact rLdB (n := 8) rfl (by kernel_rfl) (by kernel_rfl) rfl rfl hI.g0 | exact rLdA (n := 8) rfl (by kernel_rfl) (by kernel_rfl) rfl (by rfl) (fun k u hk => hI.oldp (hoc k u hk)) | exact rLdA (n := 8) rfl (by kernel_rfl) (by kernel_rfl) rfl (by rfl) hoc) ?_
  refine WL_alloc (u := .agg #[.int .i64 0, .int .i64 0, .int .i64 0, .int .i64 0, .int .i64 0, .int .i64 0, .int .i64 0, .int .i64 0]) (vs := #[.int .i64 0, .int .i64 0, .int .i64 0, .int .i64 0, .int .i64 0, .int .i64 0, .int .i64 0, .int .i64 0]) hI rfl rfl rfl rfl (by kernel_rfl) rfl ?_
  clear hI; rintro b6 w - - hI
  refine WL_val rfl rfl rfl (by first | exact rAsgnI rfl rfl | exact rAsgn rfl) ?_
  first | refine WL_stw0 (u := .agg _) (vs := #[_, _, _, _, _, _, _, _]) (n := 8) hI rfl rfl rfl rfl rfl rfl (by kernel_rfl) rfl rfl rfl ?_
  clear hI; intro w hI
  refine WL_nil ?_
  simp only [opV] at hI
  have bad : ∀ (w : World) (z : Int), ¬ OkQ1 z1 ⟨p0, p1, p2, p3, p4, p5, p6, p7⟩ → Pure w0 w → CqPost l w0 (.returned (.iface 36 (.int .i64 z))) w := fun w z hb hp => CqPost.bad (fun hh => hb (hone hh)) hp
  by_cases k9 : p2 = 9
  · have k10 : ¬ p2 = 10 := by omega
    refine W_seq ?_
    refine W_draw (by kernel_rfl) ?_
    refine WA_inv (T := []) hI.drew ?_
    intro Sx hSx hXS
    replace hI := hI.drew
    refine WT_take 0 rfl rfl (by kernel_rfl) (hXS _ hI) rfl (fun W hW => have hI := hSx W hW; (by first | exact rFldN (off := 2) rfl (by kernel_rfl) rfl | exact rFld (off := 2) rfl (by kernel_rfl) rfl)) ?_
    refine WT_take 1 rfl rfl (by kernel_rfl) (hXS _ hI) rfl (fun W hW => have hI := hSx W hW; (by first | exact rLd (v := .int .i64 _) rfl (by kernel_rfl) rfl (by first | exact hI.c0 rfl | exact hI.c1 rfl | exact hI.c2 rfl | exact hI.c3 rfl | exact hI.c4 rfl | exact hI.c5 rfl) | exact rLd rfl (by kernel_rfl) rfl (by first | exact hI.c0 rfl | exact hI.c1 rfl | exact hI.c2 rfl | exact hI.c3 rfl | exact hI.c4 rfl | exact hI.c5 rfl))) ?_
    refine WT_take 2 rfl rfl (by kernel_rfl) (hXS _ hI) rfl (fun W hW => have hI := hSx W hW; (by first | exact rEqlT rfl rfl rfl (by omega) | exact rEqlF rfl rfl rfl (by omega) | exact rEql rfl rfl rfl)) ?_
    refine WT_take 3 rfl rfl (by kernel_rfl) (hXS _ hI) rfl (fun W hW => have hI := hSx W hW; (by first | exact rFldN (off := 2) rfl (by kernel_rfl) rfl | exact rFld (off := 2) rfl (by kernel_rfl) rfl)) ?_
    refine WT_take 4 rfl rfl (by kernel_rfl) (hXS _ hI) rfl (fun W hW => have hI := hSx W hW; (by first | exact rLd (v := .int .i64 _) rfl (by kernel_rfl) rfl (by first | exact hI.c0 rfl | exact hI.c1 rfl | exact hI.c2 rfl | exact hI.c3 rfl | exact hI.c4 rfl | exact hI.c5 rfl) | exact rLd rfl (by kernel_rfl) rfl (by first | exact hI.c0 rfl | exact hI.c1 rfl | exact hI.c2 rfl | exact hI.c3 rfl | exact hI.c4 rfl | exact hI.c5 rfl))) ?_
    refine WT_take 5 rfl rfl (by kernel_rfl) (hXS _ hI) rfl (fun W hW => have hI := hSx W hW; (by first | exact rEqlT rfl rfl rfl (by omega) | exact rEqlF rfl rfl rfl (by omega) | exact rEql rfl rfl rfl)) ?_
    refine WT_take 6 rfl rfl (by kernel_rfl) (hXS _ hI) rfl (fun W hW => have hI := hSx W hW; (by first | exact rAsgnB rfl rfl | exact rAsgn rfl)) ?_
    refine WT_take 7 rfl rfl (by kernel_rfl) (hXS _ hI) rfl (fun W hW => have hI := hSx W hW; (by first | exact rAsgnB rfl rfl | exact rAsgn rfl)) ?_
    refine WT_end (by kernel_rfl) ?_
    by_cases hr : 0 ≤ p7
    rotate_left
    · refine W_seq ?_
      refine W_seq ?_
      refine W_draw (by kernel_rfl) ?_
      refine WA_inv (T := []) hI.drew ?_
      intro Sx hSx hXS
      replace hI := hI.drew
      refine WT_take 0 rfl rfl (by kernel_rfl) (hXS _ hI) rfl (fun W hW => have hI := hSx W hW; (by first | exact rMoveB rfl rfl | exact rMove rfl)) ?_
      refine WT_take 1 rfl rfl (by kernel_rfl) (hXS _ hI) rfl (fun W hW => have hI := hSx W hW; (by first | exact rNotT rfl rfl | exact rNotF rfl rfl | exact rNot rfl rfl)) ?_
      refine WT_take 2 rfl rfl (by kernel_rfl) (hXS _ hI) rfl (fun W hW => have hI := hSx W hW; (by first | exact rMoveB rfl rfl | exact rMove rfl)) ?_
      refine WT_skip 3 rfl rfl (by kernel_rfl) (hXS _ hI) rfl ?_
      refine WT_skip 4 rfl rfl (by kernel_rfl) (hXS _ hI) rfl ?_
      refine WT_take 5 rfl rfl (by kernel_rfl) (hXS _ hI) rfl (fun W hW => have hI := hSx W hW; (by first | exact rPickTB rfl rfl rfl | exact rPickFB rfl rfl rfl | exact rPickB rfl rfl rfl rfl)) ?_
      refine WT_take 6 rfl rfl (by kernel_rfl) (hXS _ hI) rfl (fun W hW => have hI := hSx W hW; (by first | exact rMoveB rfl rfl | exact rMove rfl)) ?_
      first | refine WT_take 7 rfl rfl (by kernel_rfl) (hXS _ hI) rfl (fun W hW => have hI := hSx W hW; (by first | exact rFldN (off := 7) rfl (by kernel_rfl) rfl | exact rFld (off := 7) rfl (by kernel_rfl) rfl)) ?_ | refine WT_skip 7 rfl rfl (by kernel_rfl) (hXS _ hI) rfl ?_
      first | refine WT_take 8 rfl rfl (by kernel_rfl) (hXS _ hI) rfl (fun W hW => have hI := hSx W hW; (by first | exact rLd (v := .int .i64 _) rfl (by kernel_rfl) rfl (by first | exact hI.c0 rfl | exact hI.c1 rfl | exact hI.c2 rfl | exact hI.c3 rfl | exact hI.c4 rfl | exact hI.c5 rfl) | exact rLd rfl (by kernel_rfl) rfl (by first | exact hI.c0 rfl | exact hI.c1 rfl | exact hI.c2 rfl | exact hI.c3 rfl | exact hI.c4 rfl | exact hI.c5 rfl))) ?_ | refine WT_skip 8 rfl rfl (by kernel_rfl) (hXS _ hI) rfl ?_
      first | refine WT_take 9 rfl rfl (by kernel_rfl) (hXS _ hI) rfl (fun W hW => have hI := hSx W hW; (by first | exact rLssT rfl rfl rfl (by omega) | exact rLssF rfl rfl rfl (by omega) | exact rLss rfl rfl rfl)) ?_ | refine WT_skip 9 rfl rfl (by kernel_rfl) (hXS _ hI) rfl ?_
      refine WT_take 10 rfl rfl (by kernel_rfl) (hXS _ hI) rfl (fun W hW => have hI := hSx W hW; (by first | exact rPickTB rfl rfl rfl | exact rPickFB rfl rfl rfl | exact rPickB rfl rfl rfl rfl)) ?_
      refine WT_take 11 rfl rfl (by kernel_rfl) (hXS _ hI) rfl (fun W hW => have hI := hSx W hW; (by first | exact rMoveB rfl rfl | exact rMove rfl)) ?_
      refine WT_skip 12 rfl rfl (by kernel_rfl) (hXS _ hI) rfl ?_
      refine WT_skip 13 rfl rfl (by kernel_rfl) (hXS _ hI) rfl ?_
      refine WT_skip 14 rfl rfl (by kernel_rfl) (hXS _ hI) rfl ?_
      refine WT_skip 15 rfl rfl (by kernel_rfl) (hXS _ hI) rfl ?_
      refine WT_skip 16 rfl rfl (by kernel_rfl) (hXS _ hI) rfl ?_
      refine WT_skip 17 rfl rfl (by kernel_rfl) (hXS _ hI) rfl ?_
      refine WT_skip 18 rfl rfl (by kernel_rfl) (hXS _ hI) rfl ?_
      refine WT_take 19 rfl rfl (by kernel_rfl) (hXS _ hI) rfl (fun W hW => have hI := hSx W hW; (by first | exact rPickTB rfl rfl rfl | exact rPickFB rfl rfl rfl | exact rPickB rfl rfl rfl rfl)) ?_
      refine WT_take 20 rfl rfl (by kernel_rfl) (hXS _ hI) rfl (fun W hW => have hI := hSx W hW; (by first | exact rMoveB rfl rfl | exact rMove rfl)) ?_
      refine WT_skip 21 rfl rfl (by kernel_rfl) (hXS _ hI) rfl ?_
      refine WT_skip 22 rfl rfl (by kernel_rfl) (hXS _ hI) rfl ?_
      refine WT_skip 23 rfl rfl (by kernel_rfl) (hXS _ hI) rfl ?_
      refine WT_skip 24 rfl rfl (by kernel_rfl) (hXS _ hI) rfl ?_
      refine WT_skip 25 rfl rfl (by kernel_rfl) (hXS _ hI) rfl ?_
      refine WT_skip 26 rfl rfl (by kernel_rfl) (hXS _ hI) rfl ?_
      refine WT_skip 27 rfl rfl (by kernel_rfl) (hXS _ hI) rfl ?_
      refine WT_skip 28 rfl rfl (by kernel_rfl) (hXS _ hI) rfl ?_
      refine WT_skip 29 rfl rfl (by kernel_rfl) (hXS _ hI) rfl ?_
      refine WT_skip 30 rfl rfl (by kernel_rfl) (hXS _ hI) rfl ?_
      refine WT_skip 31 rfl rfl (by kernel_rfl) (hXS _ hI) rfl ?_
      refine WT_take 32 rfl rfl (by kernel_rfl) (hXS _ hI) rfl (fun W hW => have hI := hSx W hW; (by first | exact rPickTB rfl rfl rfl | exact rPickFB rfl rfl rfl | exact rPickB rfl rfl rfl rfl)) ?_
      refine WT_take 33 rfl rfl (by kernel_rfl) (hXS _ hI) rfl (fun W hW => have hI := hSx W hW; (by first | exact rMoveB rfl rfl | exact rMove rfl)) ?_
      refine WT_skip 34 rfl rfl (by kernel_rfl) (hXS _ hI) rfl ?_
      refine WT_skip 35 rfl rfl (by kernel_rfl) (hXS _ hI) rfl ?_
      refine WT_skip 36 rfl rfl (by kernel_rfl) (hXS _ hI) rfl ?_
      refine WT_skip 37 rfl rfl (by kernel_rfl) (hXS _ hI) rfl ?_
      refine WT_skip 38 rfl rfl (by kernel_rfl) (hXS _ hI) rfl ?_
      refine WT_skip 39 rfl rfl (by kernel_rfl) (hXS _ hI) rfl ?_
      refine WT_take 40 rfl rfl (by kernel_rfl) (hXS _ hI) rfl (fun W hW => have hI := hSx W hW; (by first | exact rPickTB rfl rfl rfl | exact rPickFB rfl rfl rfl | exact rPickB rfl rfl rfl rfl)) ?_
      refine WT_end (by kernel_rfl) ?_
      refine W_cond true rfl ?_
      refine W_seq ?_
      refine W_region ?_
      refine WL_val rfl rfl rfl (rIface rfl Tryd.underlying36 rfl rfl) ?_
      refine WL_val rfl rfl rfl (by first | exact rAsgnN rfl rfl | exact rAsgnE rfl rfl | exact rAsgn rfl) ?_
      refine WL_nil ?_
      refine W_ret ?_
      exact ret1 2 (.inr rfl) rfl (bad _ _ (fun hb => hr hb.2.1) hI.pu)
    by_cases hkey : p1 = z1
    rotate_left
    · refine W_seq ?_
      refine W_seq ?_
      refine W_draw (by kernel_rfl) ?_
      refine WA_inv (T := []) hI.drew ?_
      intro Sx hSx hXS
      replace hI := hI.drew
      refine WT_take 0 rfl rfl (by kernel_rfl) (hXS _ hI) rfl (fun W hW => have hI := hSx W hW; (by first | exact rMoveB rfl rfl | exact rMove rfl)) ?_
      refine WT_take 1 rfl rfl (by kernel_rfl) (hXS _ hI) rfl (fun W hW => have hI := hSx W hW; (by first | exact rNotT rfl rfl | exact rNotF rfl rfl | exact rNot rfl rfl)) ?_
      refine WT_take 2 rfl rfl (by kernel_rfl) (hXS _ hI) rfl (fun W hW => have hI := hSx W hW; (by first | exact rMoveB rfl rfl | exact rMove rfl)) ?_
      refine WT_skip 3 rfl rfl (by kernel_rfl) (hXS _ hI) rfl ?_
      refine WT_skip 4 rfl rfl (by kernel_rfl) (hXS _ hI) rfl ?_
      refine WT_take 5 rfl rfl (by kernel_rfl) (hXS _ hI) rfl (fun W hW => have hI := hSx W hW; (by first | exact rPickTB rfl rfl rfl | exact rPickFB rfl rfl rfl | exact rPickB rfl rfl rfl rfl)) ?_
      refine WT_take 6 rfl rfl (by kernel_rfl) (hXS _ hI) rfl (fun W hW => have hI := hSx W hW; (by first | exact rMoveB rfl rfl | exact rMove rfl)) ?_
      first | refine WT_take 7 rfl rfl (by kernel_rfl) (hXS _ hI) rfl (fun W hW => have hI := hSx W hW; (by first | exact rFldN (off := 7) rfl (by kernel_rfl) rfl | exact rFld (off := 7) rfl (by kernel_rfl) rfl)) ?_ | refine WT_skip 7 rfl rfl (by kernel_rfl) (hXS _ hI) rfl ?_
      first | refine WT_take 8 rfl rfl (by kernel_rfl) (hXS _ hI) rfl (fun W hW => have hI := hSx W hW; (by first | exact rLd (v := .int .i64 _) rfl (by kernel_rfl) rfl (by first | exact hI.c0 rfl | exact hI.c1 rfl | exact hI.c2 rfl | exact hI.c3 rfl | exact hI.c4 rfl | exact hI.c5 rfl | exact (hz1 _ hI.pu) | exact (hI.c0 rfl)) | exact rLd rfl (by kernel_rfl) rfl (by first | exact hI.c0 rfl | exact hI.c1 rfl | exact hI.c2 rfl | exact hI.c3 rfl | exact hI.c4 rfl | exact hI.c5 rfl | exact (hz1 _ hI.pu) | exact (hI.c0 rfl)))) ?_ | refine WT_skip 8 rfl rfl (by kernel_rfl) (hXS _ hI) rfl ?_
      first | refine WT_take 9 rfl rfl (by kernel_rfl) (hXS _ hI) rfl (fun W hW => have hI := hSx W hW; (by first | exact rLssT rfl rfl rfl (by omega) | exact rLssF rfl rfl rfl (by omega) | exact rLss rfl rfl rfl)) ?_ | refine WT_skip 9 rfl rfl (by kernel_rfl) (hXS _ hI) rfl ?_
      refine WT_take 10 rfl rfl (by kernel_rfl) (hXS _ hI) rfl (fun W hW => have hI := hSx W hW; (by first | exact rPickTB rfl rfl rfl | exact rPickFB rfl rfl rfl | exact rPickB rfl rfl rfl rfl)) ?_
      refine WT_take 11 rfl rfl (by kernel_rfl) (hXS _ hI) rfl (fun W hW => have hI := hSx W hW; (by first | exact rMoveB rfl rfl | exact rMove rfl)) ?_
      first | refine WT_take 12 rfl rfl (by kernel_rfl) (hXS _ hI) rfl (fun W hW => have hI := hSx W hW; (by first | exact rFldN (off := 1) rfl (by kernel_rfl) rfl | exact rFld (off := 1) rfl (by kernel_rfl) rfl)) ?_ | refine WT_skip 12 rfl rfl (by kernel_rfl) (hXS _ hI) rfl ?_
      first | refine WT_take 13 rfl rfl (by kernel_rfl) (hXS _ hI) rfl (fun W hW => have hI := hSx W hW; (by first | exact rLd (v := .int .i64 _) rfl (by kernel_rfl) rfl (by first | exact hI.c0 rfl | exact hI.c1 rfl | exact hI.c2 rfl | exact hI.c3 rfl | exact hI.c4 rfl | exact hI.c5 rfl | exact (hz1 _ hI.pu) | exact (hI.c0 rfl)) | exact rLd rfl (by kernel_rfl) rfl (by first | exact hI.c0 rfl | exact hI.c1 rfl | exact hI.c2 rfl | exact hI.c3 rfl | exact hI.c4 rfl | exact hI.c5 rfl | exact (hz1 _ hI.pu) | exact (hI.c0 rfl)))) ?_ | refine WT_skip 13 rfl rfl (by kernel_rfl) (hXS _ hI) rfl ?_
      first | refine WT_take 14 rfl rfl (by kernel_rfl) (hXS _ hI) rfl (fun W hW => have hI := hSx W hW; (by first | exact rMoveS rfl rfl | exact rMove rfl)) ?_ | refine WT_skip 14 rfl rfl (by kernel_rfl) (hXS _ hI) rfl ?_
      first | refine WT_take 15 rfl rfl (by kernel_rfl) (hXS _ hI) rfl (fun W hW => have hI := hSx W hW; (rIdx (sz := 8) (i := 0) rfl Tryd.underlying22 (by kernel_rfl) rfl rfl (by omega))) ?_ | refine WT_skip 15 rfl rfl (by kernel_rfl) (hXS _ hI) rfl ?_
      first | refine WT_take 16 rfl rfl (by kernel_rfl) (hXS _ hI) rfl (fun W hW => have hI := hSx W hW; (by first | exact rFldN (off := 1) rfl (by kernel_rfl) rfl | exact rFld (off := 1) rfl (by kernel_rfl) rfl)) ?_ | refine WT_skip 16 rfl rfl (by kernel_rfl) (hXS _ hI) rfl ?_
      first | refine WT_take 17 rfl rfl (by kernel_rfl) (hXS _ hI) rfl (fun W hW => have hI := hSx W hW; (by first | exact rLd (v := .int .i64 _) rfl (by kernel_rfl) rfl (by first | exact hI.c0 rfl | exact hI.c1 rfl | exact hI.c2 rfl | exact hI.c3 rfl | exact hI.c4 rfl | exact hI.c5 rfl | exact (hz1 _ hI.pu) | exact (hI.c0 rfl)) | exact rLd rfl (by kernel_rfl) rfl (by first | exact hI.c0 rfl | exact hI.c1 rfl | exact hI.c2 rfl | exact hI.c3 rfl | exact hI.c4 rfl | exact hI.c5 rfl | exact (hz1 _ hI.pu) | exact (hI.c0 rfl)))) ?_ | refine WT_skip 17 rfl rfl (by kernel_rfl) (hXS _ hI) rfl ?_
      first | refine WT_take 18 rfl rfl (by kernel_rfl) (hXS _ hI) rfl (fun W hW => have hI := hSx W hW; (by first | exact rNeqT rfl rfl rfl (by omega) | exact rNeqF rfl rfl rfl (by omega) | exact rNeq rfl rfl rfl)) ?_ | refine WT_skip 18 rfl rfl (by kernel_rfl) (hXS _ hI) rfl ?_
      refine WT_take 19 rfl rfl (by kernel_rfl) (hXS _ hI) rfl (fun W hW => have hI := hSx W hW; (by first | exact rPickTB rfl rfl rfl | exact rPickFB rfl rfl rfl | exact rPickB rfl rfl rfl rfl)) ?_
      refine WT_take 20 rfl rfl (by kernel_rfl) (hXS _ hI) rfl (fun W hW => have hI := hSx W hW; (by first | exact rMoveB rfl rfl | exact rMove rfl)) ?_
      refine WT_skip 21 rfl rfl (by kernel_rfl) (hXS _ hI) rfl ?_
      refine WT_skip 22 rfl rfl (by kernel_rfl) (hXS _ hI) rfl ?_
      refine WT_skip 23 rfl rfl (by kernel_rfl) (hXS _ hI) rfl ?_
      refine WT_skip 24 rfl rfl (by kernel_rfl) (hXS _ hI) rfl ?_
      refine WT_skip 25 rfl rfl (by kernel_rfl) (hXS _ hI) rfl ?_
      refine WT_skip 26 rfl rfl (by kernel_rfl) (hXS _ hI) rfl ?_
      refine WT_skip 27 rfl rfl (by kernel_rfl) (hXS _ hI) rfl ?_
      refine WT_skip 28 rfl rfl (by kernel_rfl) (hXS _ hI) rfl ?_
      refine WT_skip 29 rfl rfl (by kernel_rfl) (hXS _ hI) rfl ?_
      refine WT_skip 30 rfl rfl (by kernel_rfl) (hXS _ hI) rfl ?_
      refine WT_skip 31 rfl rfl (by kernel_rfl) (hXS _ hI) rfl ?_
      refine WT_take 32 rfl rfl (by kernel_rfl) (hXS _ hI) rfl (fun W hW => have hI := hSx W hW; (by first | exact rPickTB rfl rfl rfl | exact rPickFB rfl rfl rfl | exact rPickB rfl rfl rfl rfl)) ?_
      refine WT_take 33 rfl rfl (by kernel_rfl) (hXS _ hI) rfl (fun W hW => have hI := hSx W hW; (by first | exact rMoveB rfl rfl | exact rMove rfl)) ?_
      refine WT_skip 34 rfl rfl (by kernel_rfl) (hXS _ hI) rfl ?_
      refine WT_skip 35 rfl rfl (by kernel_rfl) (hXS _ hI) rfl ?_
      refine WT_skip 36 rfl rfl (by kernel_rfl) (hXS _ hI) rfl ?_
      refine WT_skip 37 rfl rfl (by kernel_rfl) (hXS _ hI) rfl ?_
      refine WT_skip 38 rfl rfl (by kernel_rfl) (hXS _ hI) rfl ?_
      refine WT_skip 39 rfl rfl (by kernel_rfl) (hXS _ hI) rfl ?_
      refine WT_take 40 rfl rfl (by kernel_rfl) (hXS _ hI) rfl (fun W hW => have hI := hSx W hW; (by first | exact rPickTB rfl rfl rfl | exact rPickFB rfl rfl rfl | exact rPickB rfl rfl rfl rfl)) ?_
      refine WT_end (by kernel_rfl) ?_
      refine W_cond true rfl ?_
      refine W_seq ?_
      refine W_region ?_
      refine WL_val rfl rfl rfl (rIface rfl Tryd.underlying36 rfl rfl) ?_
      refine WL_val rfl rfl rfl (by first | exact rAsgnN rfl rfl | exact rAsgnE rfl rfl | exact rAsgn rfl) ?_
      refine WL_nil ?_
      refine W_ret ?_
      exact ret1 2 (.inr rfl) rfl (bad _ _ (fun hb => hkey hb.2.2.1) hI.pu)
    by_cases ha : p3 = -1
    · refine W_seq ?_
      refine W_seq ?_
      refine W_draw (by kernel_rfl) ?_
      refine WA_inv (T := []) hI.drew ?_
      intro Sx hSx hXS
      replace hI := hI.drew
      refine WT_take 0 rfl rfl (by kernel_rfl) (hXS _ hI) rfl (fun W hW => have hI := hSx W hW; (by first | exact rMoveB rfl rfl | exact rMove rfl)) ?_
      refine WT_take 1 rfl rfl (by kernel_rfl) (hXS _ hI) rfl (fun W hW => have hI := hSx W hW; (by first | exact rNotT rfl rfl | exact rNotF rfl rfl | exact rNot rfl rfl)) ?_
      refine WT_take 2 rfl rfl (by kernel_rfl) (hXS _ hI) rfl (fun W hW => have hI := hSx W hW; (by first | exact rMoveB rfl rfl | exact rMove rfl)) ?_
      refine WT_skip 3 rfl rfl (by kernel_rfl) (hXS _ hI) rfl ?_
      refine WT_skip 4 rfl rfl (by kernel_rfl) (hXS _ hI) rfl ?_
      refine WT_take 5 rfl rfl (by kernel_rfl) (hXS _ hI) rfl (fun W hW => have hI := hSx W hW; (by first | exact rPickTB rfl rfl rfl | exact rPickFB rfl rfl rfl | exact rPickB rfl rfl rfl rfl)) ?_
      refine WT_take 6 rfl rfl (by kernel_rfl) (hXS _ hI) rfl (fun W hW => have hI := hSx W hW; (by first | exact rMoveB rfl rfl | exact rMove rfl)) ?_
      first | refine WT_take 7 rfl rfl (by kernel_rfl) (hXS _ hI) rfl (fun W hW => have hI := hSx W hW; (by first | exact rFldN (off := 7) rfl (by kernel_rfl) rfl | exact rFld (off := 7) rfl (by kernel_rfl) rfl)) ?_ | refine WT_skip 7 rfl rfl (by kernel_rfl) (hXS _ hI) rfl ?_
      first | refine WT_take 8 rfl rfl (by kernel_rfl) (hXS _ hI) rfl (fun W hW => have hI := hSx W hW; (by first | exact rLd (v := .int .i64 _) rfl (by kernel_rfl) rfl (by first | exact hI.c0 rfl | exact hI.c1 rfl | exact hI.c2 rfl | exact hI.c3 rfl | exact hI.c4 rfl | exact hI.c5 rfl | exact (hz1 _ hI.pu) | exact (hI.c0 rfl)) | exact rLd rfl (by kernel_rfl) rfl (by first | exact hI.c0 rfl | exact hI.c1 rfl | exact hI.c2 rfl | exact hI.c3 rfl | exact hI.c4 rfl | exact hI.c5 rfl | exact (hz1 _ hI.pu) | exact (hI.c0 rfl)))) ?_ | refine WT_skip 8 rfl rfl (by kernel_rfl) (hXS _ hI) rfl ?_
      first | refine WT_take 9 rfl rfl (by kernel_rfl) (hXS _ hI) rfl (fun W hW => have hI := hSx W hW; (by first | exact rLssT rfl rfl rfl (by omega) | exact rLssF rfl rfl rfl (by omega) | exact rLss rfl rfl rfl)) ?_ | refine WT_skip 9 rfl rfl (by kernel_rfl) (hXS _ hI) rfl ?_
      refine WT_take 10 rfl rfl (by kernel_rfl) (hXS _ hI) rfl (fun W hW => have hI := hSx W hW; (by first | exact rPickTB rfl rfl rfl | exact rPickFB rfl rfl rfl | exact rPickB rfl rfl rfl rfl)) ?_
      refine WT_take 11 rfl rfl (by kernel_rfl) (hXS _ hI) rfl (fun W hW => have hI := hSx W hW; (by first | exact rMoveB rfl rfl | exact rMove rfl)) ?_
      first | refine WT_take 12 rfl rfl (by kernel_rfl) (hXS _ hI) rfl (fun W hW => have hI := hSx W hW; (by first | exact rFldN (off := 1) rfl (by kernel_rfl) rfl | exact rFld (off := 1) rfl (by kernel_rfl) rfl)) ?_ | refine WT_skip 12 rfl rfl (by kernel_rfl) (hXS _ hI) rfl ?_
      first | refine WT_take 13 rfl rfl (by kernel_rfl) (hXS _ hI) rfl (fun W hW => have hI := hSx W hW; (by first | exact rLd (v := .int .i64 _) rfl (by kernel_rfl) rfl (by first | exact hI.c0 rfl | exact hI.c1 rfl | exact hI.c2 rfl | exact hI.c3 rfl | exact hI.c4 rfl | exact hI.c5 rfl | exact (hz1 _ hI.pu) | exact (hI.c0 rfl)) | exact rLd rfl (by kernel_rfl) rfl (by first | exact hI.c0 rfl | exact hI.c1 rfl | exact hI.c2 rfl | exact hI.c3 rfl | exact hI.c4 rfl | exact hI.c5 rfl | exact (hz1 _ hI.pu) | exact (hI.c0 rfl)))) ?_ | refine WT_skip 13 rfl rfl (by kernel_rfl) (hXS _ hI) rfl ?_
      first | refine WT_take 14 rfl rfl (by kernel_rfl) (hXS _ hI) rfl (fun W hW => have hI := hSx W hW; (by first | exact rMoveS rfl rfl | exact rMove rfl)) ?_ | refine WT_skip 14 rfl rfl (by kernel_rfl) (hXS _ hI) rfl ?_
      first | refine WT_take 15 rfl rfl (by kernel_rfl) (hXS _ hI) rfl (fun W hW => have hI := hSx W hW; (rIdx (sz := 8) (i := 0) rfl Tryd.underlying22 (by kernel_rfl) rfl rfl (by omega))) ?_ | refine WT_skip 15 rfl rfl (by kernel_rfl) (hXS _ hI) rfl ?_
      first | refine WT_take 16 rfl rfl (by kernel_rfl) (hXS _ hI) rfl (fun W hW => have hI := hSx W hW; (by first | exact rFldN (off := 1) rfl (by kernel_rfl) rfl | exact rFld (off := 1) rfl (by kernel_rfl) rfl)) ?_ | refine WT_skip 16 rfl rfl (by kernel_rfl) (hXS _ hI) rfl ?_
      first | refine WT_take 17 rfl rfl (by kernel_rfl) (hXS _ hI) rfl (fun W hW => have hI := hSx W hW; (by first | exact rLd (v := .int .i64 _) rfl (by kernel_rfl) rfl (by first | exact hI.c0 rfl | exact hI.c1 rfl | exact hI.c2 rfl | exact hI.c3 rfl | exact hI.c4 rfl | exact hI.c5 rfl | exact (hz1 _ hI.pu) | exact (hI.c0 rfl)) | exact rLd rfl (by kernel_rfl) rfl (by first | exact hI.c0 rfl | exact hI.c1 rfl | exact hI.c2 rfl | exact hI.c3 rfl | exact hI.c4 rfl | exact hI.c5 rfl | exact (hz1 _ hI.pu) | exact (hI.c0 rfl)))) ?_ | refine WT_skip 17 rfl rfl (by kernel_rfl) (hXS _ hI) rfl ?_
      first | refine WT_take 18 rfl rfl (by kernel_rfl) (hXS _ hI) rfl (fun W hW => have hI := hSx W hW; (by first | exact rNeqT rfl rfl rfl (by omega) | exact rNeqF rfl rfl rfl (by omega) | exact rNeq rfl rfl rfl)) ?_ | refine WT_skip 18 rfl rfl (by kernel_rfl) (hXS _ hI) rfl ?_
      refine WT_take 19 rfl rfl (by kernel_rfl) (hXS _ hI) rfl (fun W hW => have hI := hSx W hW; (by first | exact rPickTB rfl rfl rfl | exact rPickFB rfl rfl rfl | exact rPickB rfl rfl rfl rfl)) ?_
      refine WT_take 20 rfl rfl (by kernel_rfl) (hXS _ hI) rfl (fun W hW => have hI := hSx W hW; (by first | exact rMoveB rfl rfl | exact rMove rfl)) ?_
      first | refine WT_take 21 rfl rfl (by kernel_rfl) (hXS _ hI) rfl (fun W hW => have hI := hSx W hW; (by first | exact rMoveB rfl rfl | exact rMove rfl)) ?_ | refine WT_skip 21 rfl rfl (by kernel_rfl) (hXS _ hI) rfl ?_
      first | refine WT_take 22 rfl rfl (by kernel_rfl) (hXS _ hI) rfl (fun W hW => have hI := hSx W hW; (by first | exact rMoveB rfl rfl | exact rMove rfl)) ?_ | refine WT_skip 22 rfl rfl (by kernel_rfl) (hXS _ hI) rfl ?_
      first | refine WT_take 23 rfl rfl (by kernel_rfl) (hXS _ hI) rfl (fun W hW => have hI := hSx W hW; (by first | exact rFldN (off := 3) rfl (by kernel_rfl) rfl | exact rFld (off := 3) rfl (by kernel_rfl) rfl)) ?_ | refine WT_skip 23 rfl rfl (by kernel_rfl) (hXS _ hI) rfl ?_
      first | refine WT_take 24 rfl rfl (by kernel_rfl) (hXS _ hI) rfl (fun W hW => have hI := hSx W hW; (by first | exact rLd (v := .int .i64 _) rfl (by kernel_rfl) rfl (by first | exact hI.c0 rfl | exact hI.c1 rfl | exact hI.c2 rfl | exact hI.c3 rfl | exact hI.c4 rfl | exact hI.c5 rfl | exact (hz1 _ hI.pu) | exact (hI.c0 rfl)) | exact rLd rfl (by kernel_rfl) rfl (by first | exact hI.c0 rfl | exact hI.c1 rfl | exact hI.c2 rfl | exact hI.c3 rfl | exact hI.c4 rfl | exact hI.c5 rfl | exact (hz1 _ hI.pu) | exact (hI.c0 rfl)))) ?_ | refine WT_skip 24 rfl rfl (by kernel_rfl) (hXS _ hI) rfl ?_
      first | refine WT_take 25 rfl rfl (by kernel_rfl) (hXS _ hI) rfl (fun W hW => have hI := hSx W hW; (by first | exact rEqlT rfl rfl rfl (by omega) | exact rEqlF rfl rfl rfl (by omega) | exact rEql rfl rfl rfl)) ?_ | refine WT_skip 25 rfl rfl (by kernel_rfl) (hXS _ hI) rfl ?_
      first | refine WT_take 26 rfl rfl (by kernel_rfl) (hXS _ hI) rfl (fun W hW => have hI := hSx W hW; (by first | exact rMoveB rfl rfl | exact rMove rfl)) ?_ | refine WT_skip 26 rfl rfl (by kernel_rfl) (hXS _ hI) rfl ?_
      refine WT_skip 27 rfl rfl (by kernel_rfl) (hXS _ hI) rfl ?_
      refine WT_skip 28 rfl rfl (by kernel_rfl) (hXS _ hI) rfl ?_
      refine WT_skip 29 rfl rfl (by kernel_rfl) (hXS _ hI) rfl ?_
      first | refine WT_take 30 rfl rfl (by kernel_rfl) (hXS _ hI) rfl (fun W hW => have hI := hSx W hW; (by first | exact rPickTB rfl rfl rfl | exact rPickFB rfl rfl rfl | exact rPickB rfl rfl rfl rfl)) ?_ | refine WT_skip 30 rfl rfl (by kernel_rfl) (hXS _ hI) rfl ?_
      first | refine WT_take 31 rfl rfl (by kernel_rfl) (hXS _ hI) rfl (fun W hW => have hI := hSx W hW; (by first | exact rPickTB rfl rfl rfl | exact rPickFB rfl rfl rfl | exact rPickB rfl rfl rfl rfl)) ?_ | refine WT_skip 31 rfl rfl (by kernel_rfl) (hXS _ hI) rfl ?_
      refine WT_take 32 rfl rfl (by kernel_rfl) (hXS _ hI) rfl (fun W hW => have hI := hSx W hW; (by first | exact rPickTB rfl rfl rfl | exact rPickFB rfl rfl rfl | exact rPickB rfl rfl rfl rfl)) ?_
      refine WT_take 33 rfl rfl (by kernel_rfl) (hXS _ hI) rfl (fun W hW => have hI := hSx W hW; (by first | exact rMoveB rfl rfl | exact rMove rfl)) ?_
      refine WT_skip 34 rfl rfl (by kernel_rfl) (hXS _ hI) rfl ?_
      refine WT_skip 35 rfl rfl (by kernel_rfl) (hXS _ hI) rfl ?_
      refine WT_skip 36 rfl rfl (by kernel_rfl) (hXS _ hI) rfl ?_
      refine WT_skip 37 rfl rfl (by kernel_rfl) (hXS _ hI) rfl ?_
      refine WT_skip 38 rfl rfl (by kernel_rfl) (hXS _ hI) rfl ?_
      refine WT_skip 39 rfl rfl (by kernel_rfl) (hXS _ hI) rfl ?_
      refine WT_take 40 rfl rfl (by kernel_rfl) (hXS _ hI) rfl (fun W hW => have hI := hSx W hW; (by first | exact rPickTB rfl rfl rfl | exact rPickFB rfl rfl rfl | exact rPickB rfl rfl rfl rfl)) ?_
      refine WT_end (by kernel_rfl) ?_
      refine W_cond true rfl ?_
      refine W_seq ?_
      refine W_region ?_
      refine WL_val rfl rfl rfl (rIface rfl Tryd.underlying36 rfl rfl) ?_
      refine WL_val rfl rfl rfl (by first | exact rAsgnN rfl rfl | exact rAsgnE rfl rfl | exact rAsgn rfl) ?_
      refine WL_nil ?_
      refine W_ret ?_
      exact ret1 2 (.inr rfl) rfl (bad _ _ (fun hb => (hb.2.2.2.1 k9).1 ha) hI.pu)
    by_cases hs : p5 = 0
    rotate_left
    · refine W_seq ?_
      refine W_seq ?_
      refine W_draw (by kernel_rfl) ?_
      refine WA_inv (T := []) hI.drew ?_
      intro Sx hSx hXS
      replace hI := hI.drew
      refine WT_take 0 rfl rfl (by kernel_rfl) (hXS _ hI) rfl (fun W hW => have hI := hSx W hW; (by first | exact rMoveB rfl rfl | exact rMove rfl)) ?_
      refine WT_take 1 rfl rfl (by kernel_rfl) (hXS _ hI) rfl (fun W hW => have hI := hSx W hW; (by first | exact rNotT rfl rfl | exact rNotF rfl rfl | exact rNot rfl rfl)) ?_
      refine WT_take 2 rfl rfl (by kernel_rfl) (hXS _ hI) rfl (fun W hW => have hI := hSx W hW; (by first | exact rMoveB rfl rfl | exact rMove rfl)) ?_
      refine WT_skip 3 rfl rfl (by kernel_rfl) (hXS _ hI) rfl ?_
      refine WT_skip 4 rfl rfl (by kernel_rfl) (hXS _ hI) rfl ?_
      refine WT_take 5 rfl rfl (by kernel_rfl) (hXS _ hI) rfl (fun W hW => have hI := hSx W hW; (by first | exact rPickTB rfl rfl rfl | exact rPickFB rfl rfl rfl | exact rPickB rfl rfl rfl rfl)) ?_
      refine WT_take 6 rfl rfl (by kernel_rfl) (hXS _ hI) rfl (fun W hW => have hI := hSx W hW; (by first | exact rMoveB rfl rfl | exact rMove rfl)) ?_
      first | refine WT_take 7 rfl rfl (by kernel_rfl) (hXS _ hI) rfl (fun W hW => have hI := hSx W hW; (by first | exact rFldN (off := 7) rfl (by kernel_rfl) rfl | exact rFld (off := 7) rfl (by kernel_rfl) rfl)) ?_ | refine WT_skip 7 rfl rfl (by kernel_rfl) (hXS _ hI) rfl ?_
      first | refine WT_take 8 rfl rfl (by kernel_rfl) (hXS _ hI) rfl (fun W hW => have hI := hSx W hW; (by first | exact rLd (v := .int .i64 _) rfl (by kernel_rfl) rfl (by first | exact hI.c0 rfl | exact hI.c1 rfl | exact hI.c2 rfl | exact hI.c3 rfl | exact hI.c4 rfl | exact hI.c5 rfl | exact (hz1 _ hI.pu) | exact (hI.c0 rfl)) | exact rLd rfl (by kernel_rfl) rfl (by first | exact hI.c0 rfl | exact hI.c1 rfl | exact hI.c2 rfl | exact hI.c3 rfl | exact hI.c4 rfl | exact hI.c5 rfl | exact (hz1 _ hI.pu) | exact (hI.c0 rfl)))) ?_ | refine WT_skip 8 rfl rfl (by kernel_rfl) (hXS _ hI) rfl ?_
      first | refine WT_take 9 rfl rfl (by kernel_rfl) (hXS _ hI) rfl (fun W hW => have hI := hSx W hW; (by first | exact rLssT rfl rfl rfl (by omega) | exact rLssF rfl rfl rfl (by omega) | exact rLss rfl rfl rfl)) ?_ | refine WT_skip 9 rfl rfl (by kernel_rfl) (hXS _ hI) rfl ?_
      refine WT_take 10 rfl rfl (by kernel_rfl) (hXS _ hI) rfl (fun W hW => have hI := hSx W hW; (by first | exact rPickTB rfl rfl rfl | exact rPickFB rfl rfl rfl | exact rPickB rfl rfl rfl rfl)) ?_
      refine WT_take 11 rfl rfl (by kernel_rfl) (hXS _ hI) rfl (fun W hW => have hI := hSx W hW; (by first | exact rMoveB rfl rfl | exact rMove rfl)) ?_
      first | refine WT_take 12 rfl rfl (by kernel_rfl) (hXS _ hI) rfl (fun W hW => have hI := hSx W hW; (by first | exact rFldN (off := 1) rfl (by kernel_rfl) rfl | exact rFld (off := 1) rfl (by kernel_rfl) rfl)) ?_ | refine WT_skip 12 rfl rfl (by kernel_rfl) (hXS _ hI) rfl ?_
      first | refine WT_take 13 rfl rfl (by kernel_rfl) (hXS _ hI) rfl (fun W hW => have hI := hSx W hW; (by first | exact rLd (v := .int .i64 _) rfl (by kernel_rfl) rfl (by first | exact hI.c0 rfl | exact hI.c1 rfl | exact hI.c2 rfl | exact hI.c3 rfl | exact hI.c4 rfl | exact hI.c5 rfl | exact (hz1 _ hI.pu) | exact (hI.c0 rfl)) | exact rLd rfl (by kernel_rfl) rfl (by first | exact hI.c0 rfl | exact hI.c1 rfl | exact hI.c2 rfl | exact hI.c3 rfl | exact hI.c4 rfl | exact hI.c5 rfl | exact (hz1 _ hI.pu) | exact (hI.c0 rfl)))) ?_ | refine WT_skip 13 rfl rfl (by kernel_rfl) (hXS _ hI) rfl ?_
      first | refine WT_take 14 rfl rfl (by kernel_rfl) (hXS _ hI) rfl (fun W hW => have hI := hSx W hW; (by first | exact rMoveS rfl rfl | exact rMove rfl)) ?_ | refine WT_skip 14 rfl rfl (by kernel_rfl) (hXS _ hI) rfl ?_
      first | refine WT_take 15 rfl rfl (by kernel_rfl) (hXS _ hI) rfl (fun W hW => have hI := hSx W hW; (rIdx (sz := 8) (i := 0) rfl Tryd.underlying22 (by kernel_rfl) rfl rfl (by omega))) ?_ | refine WT_skip 15 rfl rfl (by kernel_rfl) (hXS _ hI) rfl ?_
      first | refine WT_take 16 rfl rfl (by kernel_rfl) (hXS _ hI) rfl (fun W hW => have hI := hSx W hW; (by first | exact rFldN (off := 1) rfl (by kernel_rfl) rfl | exact rFld (off := 1) rfl (by kernel_rfl) rfl)) ?_ | refine WT_skip 16 rfl rfl (by kernel_rfl) (hXS _ hI) rfl ?_
      first | refine WT_take 17 rfl rfl (by kernel_rfl) (hXS _ hI) rfl (fun W hW => have hI := hSx W hW; (by first | exact rLd (v := .int .i64 _) rfl (by kernel_rfl) rfl (by first | exact hI.c0 rfl | exact hI.c1 rfl | exact hI.c2 rfl | exact hI.c3 rfl | exact hI.c4 rfl | exact hI.c5 rfl | exact (hz1 _ hI.pu) | exact (hI.c0 rfl)) | exact rLd rfl (by kernel_rfl) rfl (by first | exact hI.c0 rfl | exact hI.c1 rfl | exact hI.c2 rfl | exact hI.c3 rfl | exact hI.c4 rfl | exact hI.c5 rfl | exact (hz1 _ hI.pu) | exact (hI.c0 rfl)))) ?_ | refine WT_skip 17 rfl rfl (by kernel_rfl) (hXS _ hI) rfl ?_
      first | refine WT_take 18 rfl rfl (by kernel_rfl) (hXS _ hI) rfl (fun W hW => have hI := hSx W hW; (by first | exact rNeqT rfl rfl rfl (by omega) | exact rNeqF rfl rfl rfl (by omega) | exact rNeq rfl rfl rfl)) ?_ | refine WT_skip 18 rfl rfl (by kernel_rfl) (hXS _ hI) rfl ?_
      refine WT_take 19 rfl rfl (by kernel_rfl) (hXS _ hI) rfl (fun W hW => have hI := hSx W hW; (by first | exact rPickTB rfl rfl rfl | exact rPickFB rfl rfl rfl | exact rPickB rfl rfl rfl rfl)) ?_
      refine WT_take 20 rfl rfl (by kernel_rfl) (hXS _ hI) rfl (fun W hW => have hI := hSx W hW; (by first | exact rMoveB rfl rfl | exact rMove rfl)) ?_
      first | refine WT_take 21 rfl rfl (by kernel_rfl) (hXS _ hI) rfl (fun W hW => have hI := hSx W hW; (by first | exact rMoveB rfl rfl | exact rMove rfl)) ?_ | refine WT_skip 21 rfl rfl (by kernel_rfl) (hXS _ hI) rfl ?_
      first | refine WT_take 22 rfl rfl (by kernel_rfl) (hXS _ hI) rfl (fun W hW => have hI := hSx W hW; (by first | exact rMoveB rfl rfl | exact rMove rfl)) ?_ | refine WT_skip 22 rfl rfl (by kernel_rfl) (hXS _ hI) rfl ?_
      first | refine WT_take 23 rfl rfl (by kernel_rfl) (hXS _ hI) rfl (fun W hW => have hI := hSx W hW; (by first | exact rFldN (off := 3) rfl (by kernel_rfl) rfl | exact rFld (off := 3) rfl (by kernel_rfl) rfl)) ?_ | refine WT_skip 23 rfl rfl (by kernel_rfl) (hXS _ hI) rfl ?_
      first | refine WT_take 24 rfl rfl (by kernel_rfl) (hXS _ hI) rfl (fun W hW => have hI := hSx W hW; (by first | exact rLd (v := .int .i64 _) rfl (by kernel_rfl) rfl (by first | exact hI.c0 rfl | exact hI.c1 rfl | exact hI.c2 rfl | exact hI.c3 rfl | exact hI.c4 rfl | exact hI.c5 rfl | exact (hz1 _ hI.pu) | exact (hI.c0 rfl)) | exact rLd rfl (by kernel_rfl) rfl (by first | exact hI.c0 rfl | exact hI.c1 rfl | exact hI.c2 rfl | exact hI.c3 rfl | exact hI.c4 rfl | exact hI.c5 rfl | exact (hz1 _ hI.pu) | exact (hI.c0 rfl)))) ?_ | refine WT_skip 24 rfl rfl (by kernel_rfl) (hXS _ hI) rfl ?_
      first | refine WT_take 25 rfl rfl (by kernel_rfl) (hXS _ hI) rfl (fun W hW => have hI := hSx W hW; (by first | exact rEqlT rfl rfl rfl (by omega) | exact rEqlF rfl rfl rfl (by omega) | exact rEql rfl rfl rfl)) ?_ | refine WT_skip 25 rfl rfl (by kernel_rfl) (hXS _ hI) rfl ?_
      first | refine WT_take 26 rfl rfl (by kernel_rfl) (hXS _ hI) rfl (fun W hW => have hI := hSx W hW; (by first | exact rMoveB rfl rfl | exact rMove rfl)) ?_ | refine WT_skip 26 rfl rfl (by kernel_rfl) (hXS _ hI) rfl ?_
      first | refine WT_take 27 rfl rfl (by kernel_rfl) (hXS _ hI) rfl (fun W hW => have hI := hSx W hW; (by first | exact rFldN (off := 5) rfl (by kernel_rfl) rfl | exact rFld (off := 5) rfl (by kernel_rfl) rfl)) ?_ | refine WT_skip 27 rfl rfl (by kernel_rfl) (hXS _ hI) rfl ?_
      first | refine WT_take 28 rfl rfl (by kernel_rfl) (hXS _ hI) rfl (fun W hW => have hI := hSx W hW; (by first | exact rLd (v := .int .i64 _) rfl (by kernel_rfl) rfl (by first | exact hI.c0 rfl | exact hI.c1 rfl | exact hI.c2 rfl | exact hI.c3 rfl | exact hI.c4 rfl | exact hI.c5 rfl | exact (hz1 _ hI.pu) | exact (hI.c0 rfl)) | exact rLd rfl (by kernel_rfl) rfl (by first | exact hI.c0 rfl | exact hI.c1 rfl | exact hI.c2 rfl | exact hI.c3 rfl | exact hI.c4 rfl | exact hI.c5 rfl | exact (hz1 _ hI.pu) | exact (hI.c0 rfl)))) ?_ | refine WT_skip 28 rfl rfl (by kernel_rfl) (hXS _ hI) rfl ?_
      first | refine WT_take 29 rfl rfl (by kernel_rfl) (hXS _ hI) rfl (fun W hW => have hI := hSx W hW; (by first | exact rNeqT rfl rfl rfl (by omega) | exact rNeqF rfl rfl rfl (by omega) | exact rNeq rfl rfl rfl)) ?_ | refine WT_skip 29 rfl rfl (by kernel_rfl) (hXS _ hI) rfl ?_
      first | refine WT_take 30 rfl rfl (by kernel_rfl) (hXS _ hI) rfl (fun W hW => have hI := hSx W hW; (by first | exact rPickTB rfl rfl rfl | exact rPickFB rfl rfl rfl | exact rPickB rfl rfl rfl rfl)) ?_ | refine WT_skip 30 rfl rfl (by kernel_rfl) (hXS _ hI) rfl ?_
      first | refine WT_take 31 rfl rfl (by kernel_rfl) (hXS _ hI) rfl (fun W hW => have hI := hSx W hW; (by first | exact rPickTB rfl rfl rfl | exact rPickFB rfl rfl rfl | exact rPickB rfl rfl rfl rfl)) ?_ | refine WT_skip 31 rfl rfl (by kernel_rfl) (hXS _ hI) rfl ?_
      refine WT_take 32 rfl rfl (by kernel_rfl) (hXS _ hI) rfl (fun W hW => have hI := hSx W hW; (by first | exact rPickTB rfl rfl rfl | exact rPickFB rfl rfl rfl | exact rPickB rfl rfl rfl rfl)) ?_
      refine WT_take 33 rfl rfl (by kernel_rfl) (hXS _ hI) rfl (fun W hW => have hI := hSx W hW; (by first | exact rMoveB rfl rfl | exact rMove rfl)) ?_
      refine WT_skip 34 rfl rfl (by kernel_rfl) (hXS _ hI) rfl ?_
      refine WT_skip 35 rfl rfl (by kernel_rfl) (hXS _ hI) rfl ?_
      refine WT_skip 36 rfl rfl (by kernel_rfl) (hXS _ hI) rfl ?_
      refine WT_skip 37 rfl rfl (by kernel_rfl) (hXS _ hI) rfl ?_
      refine WT_skip 38 rfl rfl (by kernel_rfl) (hXS _ hI) rfl ?_
      refine WT_skip 39 rfl rfl (by kernel_rfl) (hXS _ hI) rfl ?_
      refine WT_take 40 rfl rfl (by kernel_rfl) (hXS _ hI) rfl (fun W hW => have hI := hSx W hW; (by first | exact rPickTB rfl rfl rfl | exact rPickFB rfl rfl rfl | exact rPickB rfl rfl rfl rfl)) ?_
      refine WT_end (by kernel_rfl) ?_
      refine W_cond true rfl ?_
      refine W_seq ?_
      refine W_region ?_
      refine WL_val rfl rfl rfl (rIface rfl Tryd.underlying36 rfl rfl) ?_
      refine WL_val rfl rfl rfl (by first | exact rAsgnN rfl rfl | exact rAsgnE rfl rfl | exact rAsgn rfl) ?_
      refine WL_nil ?_
      refine W_ret ?_
      exact ret1 2 (.inr rfl) rfl (bad _ _ (fun hb => hs (hb.2.2.2.1 k9).2) hI.pu)
    have hg : OkQ1 z1 ⟨p0, p1, p2, p3, p4, p5, p6, p7⟩ := ⟨.inl k9, hr, hkey, fun _ => ⟨ha, hs⟩, fun h10 => absurd h10 k10⟩
    refine W_seq ?_
    refine W_seq ?_
    refine W_draw (by kernel_rfl) ?_
    refine WA_inv (T := []) hI.drew ?_
    intro Sx hSx hXS
    replace hI := hI.drew
    refine WT_take 0 rfl rfl (by kernel_rfl) (hXS _ hI) rfl (fun W hW => have hI := hSx W hW; (by first | exact rMoveB rfl rfl | exact rMove rfl)) ?_
    refine WT_take 1 rfl rfl (by kernel_rfl) (hXS _ hI) rfl (fun W hW => have hI := hSx W hW; (by first | exact rNotT rfl rfl | exact rNotF rfl rfl | exact rNot rfl rfl)) ?_
    refine WT_take 2 rfl rfl (by kernel_rfl) (hXS _ hI) rfl (fun W hW => have hI := hSx W hW; (by first | exact rMoveB rfl rfl | exact rMove rfl)) ?_
    refine WT_skip 3 rfl rfl (by kernel_rfl) (hXS _ hI) rfl ?_
    refine WT_skip 4 rfl rfl (by kernel_rfl) (hXS _ hI) rfl ?_
    refine WT_take 5 rfl rfl (by kernel_rfl) (hXS _ hI) rfl (fun W hW => have hI := hSx W hW; (by first | exact rPickTB rfl rfl rfl | exact rPickFB rfl rfl rfl | exact rPickB rfl rfl rfl rfl)) ?_
    refine WT_take 6 rfl rfl (by kernel_rfl) (hXS _ hI) rfl (fun W hW => have hI := hSx W hW; (by first | exact rMoveB rfl rfl | exact rMove rfl)) ?_
    first | refine WT_take 7 rfl rfl (by kernel_rfl) (hXS _ hI) rfl (fun W hW => have hI := hSx W hW; (by first | exact rFldN (off := 7) rfl (by kernel_rfl) rfl | exact rFld (off := 7) rfl (by kernel_rfl) rfl)) ?_ | refine WT_skip 7 rfl rfl (by kernel_rfl) (hXS _ hI) rfl ?_
    first | refine WT_take 8 rfl rfl (by kernel_rfl) (hXS _ hI) rfl (fun W hW => have hI := hSx W hW; (by first | exact rLd (v := .int .i64 _) rfl (by kernel_rfl) rfl (by first | exact hI.c0 rfl | exact hI.c1 rfl | exact hI.c2 rfl | exact hI.c3 rfl | exact hI.c4 rfl | exact hI.c5 rfl | exact (hz1 _ hI.pu) | exact (hI.c0 rfl)) | exact rLd rfl (by kernel_rfl) rfl (by first | exact hI.c0 rfl | exact hI.c1 rfl | exact hI.c2 rfl | exact hI.c3 rfl | exact hI.c4 rfl | exact hI.c5 rfl | exact (hz1 _ hI.pu) | exact (hI.c0 rfl)))) ?_ | refine WT_skip 8 rfl rfl (by kernel_rfl) (hXS _ hI) rfl ?_
    first | refine WT_take 9 rfl rfl (by kernel_rfl) (hXS _ hI) rfl (fun W hW => have hI := hSx W hW; (by first | exact rLssT rfl rfl rfl (by omega) | exact rLssF rfl rfl rfl (by omega) | exact rLss rfl rfl rfl)) ?_ | refine WT_skip 9 rfl rfl (by kernel_rfl) (hXS _ hI) rfl ?_
    refine WT_take 10 rfl rfl (by kernel_rfl) (hXS _ hI) rfl (fun W hW => have hI := hSx W hW; (by first | exact rPickTB rfl rfl rfl | exact rPickFB rfl rfl rfl | exact rPickB rfl rfl rfl rfl)) ?_
    refine WT_take 11 rfl rfl (by kernel_rfl) (hXS _ hI) rfl (fun W hW => have hI := hSx W hW; (by first | exact rMoveB rfl rfl | exact rMove rfl)) ?_
    first | refine WT_take 12 rfl rfl (by kernel_rfl) (hXS _ hI) rfl (fun W hW => have hI := hSx W hW; (by first | exact rFldN (off := 1) rfl (by kernel_rfl) rfl | exact rFld (off := 1) rfl (by kernel_rfl) rfl)) ?_ | refine WT_skip 12 rfl rfl (by kernel_rfl) (hXS _ hI) rfl ?_
    first | refine WT_take 13 rfl rfl (by kernel_rfl) (hXS _ hI) rfl (fun W hW => have hI := hSx W hW; (by first | exact rLd (v := .int .i64 _) rfl (by kernel_rfl) rfl (by first | exact hI.c0 rfl | exact hI.c1 rfl | exact hI.c2 rfl | exact hI.c3 rfl | exact hI.c4 rfl | exact hI.c5 rfl | exact (hz1 _ hI.pu) | exact (hI.c0 rfl)) | exact rLd rfl (by kernel_rfl) rfl (by first | exact hI.c0 rfl | exact hI.c1 rfl | exact hI.c2 rfl | exact hI.c3 rfl | exact hI.c4 rfl | exact hI.c5 rfl | exact (hz1 _ hI.pu) | exact (hI.c0 rfl)))) ?_ | refine WT_skip 13 rfl rfl (by kernel_rfl) (hXS _ hI) rfl ?_
    first | refine WT_take 14 rfl rfl (by kernel_rfl) (hXS _ hI) rfl (fun W hW => have hI := hSx W hW; (by first | exact rMoveS rfl rfl | exact rMove rfl)) ?_ | refine WT_skip 14 rfl rfl (by kernel_rfl) (hXS _ hI) rfl ?_
    first | refine WT_take 15 rfl rfl (by kernel_rfl) (hXS _ hI) rfl (fun W hW => have hI := hSx W hW; (rIdx (sz := 8) (i := 0) rfl Tryd.underlying22 (by kernel_rfl) rfl rfl (by omega))) ?_ | refine WT_skip 15 rfl rfl (by kernel_rfl) (hXS _ hI) rfl ?_
    first | refine WT_take 16 rfl rfl (by kernel_rfl) (hXS _ hI) rfl (fun W hW => have hI := hSx W hW; (by first | exact rFldN (off := 1) rfl (by kernel_rfl) rfl | exact rFld (off := 1) rfl (by kernel_rfl) rfl)) ?_ | refine WT_skip 16 rfl rfl (by kernel_rfl) (hXS _ hI) rfl ?_
    first | refine WT_take 17 rfl rfl (by kernel_rfl) (hXS _ hI) rfl (fun W hW => have hI := hSx W hW; (by first | exact rLd (v := .int .i64 _) rfl (by kernel_rfl) rfl (by first | exact hI.c0 rfl | exact hI.c1 rfl | exact hI.c2 rfl | exact hI.c3 rfl | exact hI.c4 rfl | exact hI.c5 rfl | exact (hz1 _ hI.pu) | exact (hI.c0 rfl)) | exact rLd rfl (by kernel_rfl) rfl (by first | exact hI.c0 rfl | exact hI.c1 rfl | exact hI.c2 rfl | exact hI.c3 rfl | exact hI.c4 rfl | exact hI.c5 rfl | exact (hz1 _ hI.pu) | exact (hI.c0 rfl)))) ?_ | refine WT_skip 17 rfl rfl (by kernel_rfl) (hXS _ hI) rfl ?_
    first | refine WT_take 18 rfl rfl (by kernel_rfl) (hXS _ hI) rfl (fun W hW => have hI := hSx W hW; (by first | exact rNeqT rfl rfl rfl (by omega) | exact rNeqF rfl rfl rfl (by omega) | exact rNeq rfl rfl rfl)) ?_ | refine WT_skip 18 rfl rfl (by kernel_rfl) (hXS _ hI) rfl ?_
    refine WT_take 19 rfl rfl (by kernel_rfl) (hXS _ hI) rfl (fun W hW => have hI := hSx W hW; (by first | exact rPickTB rfl rfl rfl | exact rPickFB rfl rfl rfl | exact rPickB rfl rfl rfl rfl)) ?_
    refine WT_take 20 rfl rfl (by kernel_rfl) (hXS _ hI) rfl (fun W hW => have hI := hSx W hW; (by first | exact rMoveB rfl rfl | exact rMove rfl)) ?_
    first | refine WT_take 21 rfl rfl (by kernel_rfl) (hXS _ hI) rfl (fun W hW => have hI := hSx W hW; (by first | exact rMoveB rfl rfl | exact rMove rfl)) ?_ | refine WT_skip 21 rfl rfl (by kernel_rfl) (hXS _ hI) rfl ?_
    first | refine WT_take 22 rfl rfl (by kernel_rfl) (hXS _ hI) rfl (fun W hW => have hI := hSx W hW; (by first | exact rMoveB rfl rfl | exact rMove rfl)) ?_ | refine WT_skip 22 rfl rfl (by kernel_rfl) (hXS _ hI) rfl ?_
    first | refine WT_take 23 rfl rfl (by kernel_rfl) (hXS _ hI) rfl (fun W hW => have hI := hSx W hW; (by first | exact rFldN (off := 3) rfl (by kernel_rfl) rfl | exact rFld (off := 3) rfl (by kernel_rfl) rfl)) ?_ | refine WT_skip 23 rfl rfl (by kernel_rfl) (hXS _ hI) rfl ?_
    first | refine WT_take 24 rfl rfl (by kernel_rfl) (hXS _ hI) rfl (fun W hW => have hI := hSx W hW; (by first | exact rLd (v := .int .i64 _) rfl (by kernel_rfl) rfl (by first | exact hI.c0 rfl | exact hI.c1 rfl | exact hI.c2 rfl | exact hI.c3 rfl | exact hI.c4 rfl | exact hI.c5 rfl | exact (hz1 _ hI.pu) | exact (hI.c0 rfl)) | exact rLd rfl (by kernel_rfl) rfl (by first | exact hI.c0 rfl | exact hI.c1 rfl | exact hI.c2 rfl | exact hI.c3 rfl | exact hI.c4 rfl | exact hI.c5 rfl | exact (hz1 _ hI.pu) | exact (hI.c0 rfl)))) ?_ | refine WT_skip 24 rfl rfl (by kernel_rfl) (hXS _ hI) rfl ?_
    first | refine WT_take 25 rfl rfl (by kernel_rfl) (hXS _ hI) rfl (fun W hW => have hI := hSx W hW; (by first | exact rEqlT rfl rfl rfl (by omega) | exact rEqlF rfl rfl rfl (by omega) | exact rEql rfl rfl rfl)) ?_ | refine WT_skip 25 rfl rfl (by kernel_rfl) (hXS _ hI) rfl ?_
    first | refine WT_take 26 rfl rfl (by kernel_rfl) (hXS _ hI) rfl (fun W hW => have hI := hSx W hW; (by first | exact rMoveB rfl rfl | exact rMove rfl)) ?_ | refine WT_skip 26 rfl rfl (by kernel_rfl) (hXS _ hI) rfl ?_
    first | refine WT_take 27 rfl rfl (by kernel_rfl) (hXS _ hI) rfl (fun W hW => have hI := hSx W hW; (by first | exact rFldN (off := 5) rfl (by kernel_rfl) rfl | exact rFld (off := 5) rfl (by kernel_rfl) rfl)) ?_ | refine WT_skip 27 rfl rfl (by kernel_rfl) (hXS _ hI) rfl ?_
    first | refine WT_take 28 rfl rfl (by kernel_rfl) (hXS _ hI) rfl (fun W hW => have hI := hSx W hW; (by first | exact rLd (v := .int .i64 _) rfl (by kernel_rfl) rfl (by first | exact hI.c0 rfl | exact hI.c1 rfl | exact hI.c2 rfl | exact hI.c3 rfl | exact hI.c4 rfl | exact hI.c5 rfl | exact (hz1 _ hI.pu) | exact (hI.c0 rfl)) | exact rLd rfl (by kernel_rfl) rfl (by first | exact hI.c0 rfl | exact hI.c1 rfl | exact hI.c2 rfl | exact hI.c3 rfl | exact hI.c4 rfl | exact hI.c5 rfl | exact (hz1 _ hI.pu) | exact (hI.c0 rfl)))) ?_ | refine WT_skip 28 rfl rfl (by kernel_rfl) (hXS _ hI) rfl ?_
    first | refine WT_take 29 rfl rfl (by kernel_rfl) (hXS _ hI) rfl (fun W hW => have hI := hSx W hW; (by first | exact rNeqT rfl rfl rfl (by omega) | exact rNeqF rfl rfl rfl (by omega) | exact rNeq rfl rfl rfl)) ?_ | refine WT_skip 29 rfl rfl (by kernel_rfl) (hXS _ hI) rfl ?_
    first | refine WT_take 30 rfl rfl (by kernel_rfl) (hXS _ hI) rfl (fun W hW => have hI := hSx W hW; (by first | exact rPickTB rfl rfl rfl | exact rPickFB rfl rfl rfl | exact rPickB rfl rfl rfl rfl)) ?_ | refine WT_skip 30 rfl rfl (by kernel_rfl) (hXS _ hI) rfl ?_
    first | refine WT_take 31 rfl rfl (by kernel_rfl) (hXS _ hI) rfl (fun W hW => have hI := hSx W hW; (by first | exact rPickTB rfl rfl rfl | exact rPickFB rfl rfl rfl | exact rPickB rfl rfl rfl rfl)) ?_ | refine WT_skip 31 rfl rfl (by kernel_rfl) (hXS _ hI) rfl ?_
    refine WT_take 32 rfl rfl (by kernel_rfl) (hXS _ hI) rfl (fun W hW => have hI := hSx W hW; (by first | exact rPickTB rfl rfl rfl | exact rPickFB rfl rfl rfl | exact rPickB rfl rfl rfl rfl)) ?_
    refine WT_take 33 rfl rfl (by kernel_rfl) (hXS _ hI) rfl (fun W hW => have hI := hSx W hW; (by first | exact rMoveB rfl rfl | exact rMove rfl)) ?_
    first | refine WT_take 34 rfl rfl (by kernel_rfl) (hXS _ hI) rfl (fun W hW => have hI := hSx W hW; (by first | exact rMoveB rfl rfl | exact rMove rfl)) ?_ | refine WT_skip 34 rfl rfl (by kernel_rfl) (hXS _ hI) rfl ?_
    first | refine WT_take 35 rfl rfl (by kernel_rfl) (hXS _ hI) rfl (fun W hW => have hI := hSx W hW; (by first | exact rMoveB rfl rfl | exact rMove rfl)) ?_ | refine WT_skip 35 rfl rfl (by kernel_rfl) (hXS _ hI) rfl ?_
    refine WT_skip 36 rfl rfl (by kernel_rfl) (hXS _ hI) rfl ?_
    refine WT_skip 37 rfl rfl (by kernel_rfl) (hXS _ hI) rfl ?_
    refine WT_skip 38 rfl rfl (by kernel_rfl) (hXS _ hI) rfl ?_
    first | refine WT_take 39 rfl rfl (by kernel_rfl) (hXS _ hI) rfl (fun W hW => have hI := hSx W hW; (by first | exact rPickTB rfl rfl rfl | exact rPickFB rfl rfl rfl | exact rPickB rfl rfl rfl rfl)) ?_ | refine WT_skip 39 rfl rfl (by kernel_rfl) (hXS _ hI) rfl ?_
    refine WT_take 40 rfl rfl (by kernel_rfl) (hXS _ hI) rfl (fun W hW => have hI := hSx W hW; (by first | exact rPickTB rfl rfl rfl | exact rPickFB rfl rfl rfl | exact rPickB rfl rfl rfl rfl)) ?_
    refine WT_end (by kernel_rfl) ?_
    refine W_cond false rfl ?_
    refine W_skip ?_
    cases hwm : fdN (pushB l p3) k with
    | some j =>
      have hv : mpF (pushB l) k p3 = some (.int .i64 (j : Int)) := by unfold mpF; rw [hwm]; rfl
      refine W_seq ?_
      refine W_seq ?_
      refine W_region ?_
      refine WL_val rfl rfl rfl (by first | exact rMoveM rfl rfl | exact rMove rfl) ?_
      refine WL_val rfl rfl rfl (by first | exact rFldN (off := 3) rfl (by kernel_rfl) rfl | exact rFld (off := 3) rfl (by kernel_rfl) rfl) ?_
      refine WL_val rfl rfl rfl (by first | exact rLd (v := .int .i64 _) rfl (by kernel_rfl) rfl (by first | exact hI.c0 rfl | exact hI.c1 rfl | exact hI.c2 rfl | exact hI.c3 rfl | exact hI.c4 rfl | exact hI.c5 rfl) | exact rLd rfl (by kernel_rfl) rfl (by first | exact hI.c0 rfl | exact hI.c1 rfl | exact hI.c2 rfl | exact hI.c3 rfl | exact hI.c4 rfl | exact hI.c5 rfl)) ?_
      refine WL_val rfl rfl rfl (rLookKY (a := p3) keyI hv rfl Tryd.underlying39 rfl rfl trivial hI.g1) ?_
      refine WL_val rfl rfl rfl (by first | exact rMoveT rfl rfl | exact rMove rfl) ?_
      refine WL_val rfl rfl rfl (rExtr rfl rfl rfl) ?_
      refine WL_val rfl rfl rfl (rExtr rfl rfl rfl) ?_
      refine WL_val rfl rfl rfl (by first | exact rAsgnI rfl rfl | exact rAsgn rfl) ?_
      refine WL_val rfl rfl rfl (by first | exact rAsgnB rfl rfl | exact rAsgn rfl) ?_
      refine WL_nil ?_
      refine W_seq ?_
      refine W_region ?_
      refine WL_val rfl rfl rfl (by first | exact rMoveB rfl rfl | exact rMove rfl) ?_
      refine WL_val rfl rfl rfl (by first | exact rMoveB rfl rfl | exact rMove rfl) ?_
      first | refine WL_val rfl rfl rfl (by first | exact rMoveB rfl rfl | exact rMove rfl) ?_ | refine WL_skip rfl rfl rfl ?_
      refine WL_val rfl rfl rfl (by first | exact rPickTB rfl rfl rfl | exact rPickFB rfl rfl rfl | exact rPickB rfl rfl rfl rfl) ?_
      refine WL_nil ?_
      refine W_cond true rfl ?_
      refine W_seq ?_
      refine W_region ?_
      refine WL_val rfl rfl rfl (rIface rfl Tryd.underlying36 rfl rfl) ?_
      refine WL_val rfl rfl rfl (by first | exact rAsgnN rfl rfl | exact rAsgnE rfl rfl | exact rAsgn rfl) ?_
      refine WL_nil ?_
      refine W_ret ?_
      exact ret1 2 (.inr rfl) rfl (CqPost.bad (htw j hwm k9) hI.pu)
    | none =>
      have hv : mpF (pushB l) k p3 = none := by unfold mpF; rw [hwm]; rfl
      refine W_seq ?_
      refine W_seq ?_
      refine W_region ?_
      refine WL_val rfl rfl rfl (by first | exact rMoveM rfl rfl | exact rMove rfl) ?_
      refine WL_val rfl rfl rfl (by first | exact rFldN (off := 3) rfl (by kernel_rfl) rfl | exact rFld (off := 3) rfl (by kernel_rfl) rfl) ?_
      refine WL_val rfl rfl rfl (by first | exact rLd (v := .int .i64 _) rfl (by kernel_rfl) rfl (by first | exact hI.c0 rfl | exact hI.c1 rfl | exact hI.c2 rfl | exact hI.c3 rfl | exact hI.c4 rfl | exact hI.c5 rfl) | exact rLd rfl (by kernel_rfl) rfl (by first | exact hI.c0 rfl | exact hI.c1 rfl | exact hI.c2 rfl | exact hI.c3 rfl | exact hI.c4 rfl | exact hI.c5 rfl)) ?_
      refine WL_val rfl rfl rfl (rLookKN (a := p3) (zv := .int .i64 0) keyI hv rfl Tryd.underlying39 (by kernel_rfl) rfl rfl trivial hI.g1) ?_
      refine WL_val rfl rfl rfl (by first | exact rMoveT rfl rfl | exact rMove rfl) ?_
      refine WL_val rfl rfl rfl (rExtr rfl rfl rfl) ?_
      refine WL_val rfl rfl rfl (rExtr rfl rfl rfl) ?_
      refine WL_val rfl rfl rfl (by first | exact rAsgnI rfl rfl | exact rAsgn rfl) ?_
      refine WL_val rfl rfl rfl (by first | exact rAsgnB rfl rfl | exact rAsgn rfl) ?_
      refine WL_nil ?_
      refine W_seq ?_
      refine W_region ?_
      refine WL_val rfl rfl rfl (by first | exact rMoveB rfl rfl | exact rMove rfl) ?_
      refine WL_val rfl rfl rfl (by first | exact rMoveB rfl rfl | exact rMove rfl) ?_
      first | refine WL_val rfl rfl rfl (by first | exact rMoveB rfl rfl | exact rMove rfl) ?_ | refine WL_skip rfl rfl rfl ?_
      refine WL_val rfl rfl rfl (by first | exact rPickTB rfl rfl rfl | exact rPickFB rfl rfl rfl | exact rPickB rfl rfl rfl rfl) ?_
      refine WL_nil ?_
      refine W_cond false rfl ?_
      refine W_skip ?_
      refine W_seq ?_
      refine W_region ?_
      refine WL_val rfl rfl rfl (by first | exact rMoveB rfl rfl | exact rMove rfl) ?_
      refine WL_nil ?_
      refine W_cond true rfl ?_
      refine W_region ?_
      refine WL_val rfl rfl rfl (by first | exact rMoveM rfl rfl | exact rMove rfl) ?_
      refine WL_val rfl rfl rfl (by first | exact rFldN (off := 3) rfl (by kernel_rfl) rfl | exact rFld (off := 3) rfl (by kernel_rfl) rfl) ?_
      refine WL_val rfl rfl rfl (by first | exact rLd (v := .int .i64 _) rfl (by kernel_rfl) rfl (by first | exact hI.c0 rfl | exact hI.c1 rfl | exact hI.c2 rfl | exact hI.c3 rfl | exact hI.c4 rfl | exact hI.c5 rfl) | exact rLd rfl (by kernel_rfl) rfl (by first | exact hI.c0 rfl | exact hI.c1 rfl | exact hI.c2 rfl | exact hI.c3 rfl | exact hI.c4 rfl | exact hI.c5 rfl)) ?_
      refine WL_val rfl rfl rfl (by first | exact rMoveI rfl rfl | exact rMove rfl) ?_
      refine WL_mapSetK (a := p3) (v := .int .i64 (k : Int)) keyI 1 rfl hI rfl rfl rfl Tryd.underlying39 rfl rfl rfl trivial ?_
      clear hI; intro w hI
      simp only [List.set_cons_succ, List.set_cons_zero] at hI
      refine WL_nil ?_
      rw [hnew (fun v => by rw [hpb]; simp [k9, eq_comm]) hwm] at hI
      replace hI := hI.d0
      refine W_region ?_
      refine WL_val rfl rfl rfl (by first | exact rInc rfl rfl rfl (by omega) | exact rAdd rfl rfl rfl (by omega) | exact rAddW rfl rfl rfl) ?_
      refine WL_val rfl rfl rfl (by first | exact rMoveI rfl rfl | exact rMove rfl) ?_
      refine WL_nil ?_
      exact ⟨l.length - (k + 1), by omega, k + 1, rfl, by omega, hsucc hg (fun _ => hwm), ⟨rfl, rfl, rfl, rfl, rfl, trivial⟩, hI⟩
  by_cases k10 : p2 = 10
  rotate_left
  · refine W_seq ?_
    refine W_draw (by kernel_rfl) ?_
    refine WA_inv (T := []) hI.drew ?_
    intro Sx hSx hXS
    replace hI := hI.drew
    refine WT_take 0 rfl rfl (by kernel_rfl) (hXS _ hI) rfl (fun W hW => have hI := hSx W hW; (by first | exact rFldN (off := 2) rfl (by kernel_rfl) rfl | exact rFld (off := 2) rfl (by kernel_rfl) rfl)) ?_
    refine WT_take 1 rfl rfl (by kernel_rfl) (hXS _ hI) rfl (fun W hW => have hI := hSx W hW; (by first | exact rLd (v := .int .i64 _) rfl (by kernel_rfl) rfl (by first | exact hI.c0 rfl | exact hI.c1 rfl | exact hI.c2 rfl | exact hI.c3 rfl | exact hI.c4 rfl | exact hI.c5 rfl) | exact rLd rfl (by kernel_rfl) rfl (by first | exact hI.c0 rfl | exact hI.c1 rfl | exact hI.c2 rfl | exact hI.c3 rfl | exact hI.c4 rfl | exact hI.c5 rfl))) ?_
    refine WT_take 2 rfl rfl (by kernel_rfl) (hXS _ hI) rfl (fun W hW => have hI := hSx W hW; (by first | exact rEqlT rfl rfl rfl (by omega) | exact rEqlF rfl rfl rfl (by omega) | exact rEql rfl rfl rfl)) ?_
    refine WT_take 3 rfl rfl (by kernel_rfl) (hXS _ hI) rfl (fun W hW => have hI := hSx W hW; (by first | exact rFldN (off := 2) rfl (by kernel_rfl) rfl | exact rFld (off := 2) rfl (by kernel_rfl) rfl)) ?_
    refine WT_take 4 rfl rfl (by kernel_rfl) (hXS _ hI) rfl (fun W hW => have hI := hSx W hW; (by first | exact rLd (v := .int .i64 _) rfl (by kernel_rfl) rfl (by first | exact hI.c0 rfl | exact hI.c1 rfl | exact hI.c2 rfl | exact hI.c3 rfl | exact hI.c4 rfl | exact hI.c5 rfl) | exact rLd rfl (by kernel_rfl) rfl (by first | exact hI.c0 rfl | exact hI.c1 rfl | exact hI.c2 rfl | exact hI.c3 rfl | exact hI.c4 rfl | exact hI.c5 rfl))) ?_
    refine WT_take 5 rfl rfl (by kernel_rfl) (hXS _ hI) rfl (fun W hW => have hI := hSx W hW; (by first | exact rEqlT rfl rfl rfl (by omega) | exact rEqlF rfl rfl rfl (by omega) | exact rEql rfl rfl rfl)) ?_
    refine WT_take 6 rfl rfl (by kernel_rfl) (hXS _ hI) rfl (fun W hW => have hI := hSx W hW; (by first | exact rAsgnB rfl rfl | exact rAsgn rfl)) ?_
    refine WT_take 7 rfl rfl (by kernel_rfl) (hXS _ hI) rfl (fun W hW => have hI := hSx W hW; (by first | exact rAsgnB rfl rfl | exact rAsgn rfl)) ?_
    refine WT_end (by kernel_rfl) ?_
    refine W_seq ?_
    refine W_seq ?_
    refine W_draw (by kernel_rfl) ?_
    refine WA_inv (T := []) hI.drew ?_
    intro Sx hSx hXS
    replace hI := hI.drew
    refine WT_take 0 rfl rfl (by kernel_rfl) (hXS _ hI) rfl (fun W hW => have hI := hSx W hW; (by first | exact rMoveB rfl rfl | exact rMove rfl)) ?_
    refine WT_take 1 rfl rfl (by kernel_rfl) (hXS _ hI) rfl (fun W hW => have hI := hSx W hW; (by first | exact rNotT rfl rfl | exact rNotF rfl rfl | exact rNot rfl rfl)) ?_
    refine WT_take 2 rfl rfl (by kernel_rfl) (hXS _ hI) rfl (fun W hW => have hI := hSx W hW; (by first | exact rMoveB rfl rfl | exact rMove rfl)) ?_
    first | refine WT_take 3 rfl rfl (by kernel_rfl) (hXS _ hI) rfl (fun W hW => have hI := hSx W hW; (by first | exact rMoveB rfl rfl | exact rMove rfl)) ?_ | refine WT_skip 3 rfl rfl (by kernel_rfl) (hXS _ hI) rfl ?_
    first | refine WT_take 4 rfl rfl (by kernel_rfl) (hXS _ hI) rfl (fun W hW => have hI := hSx W hW; (by first | exact rNotT rfl rfl | exact rNotF rfl rfl | exact rNot rfl rfl)) ?_ | refine WT_skip 4 rfl rfl (by kernel_rfl) (hXS _ hI) rfl ?_
    refine WT_take 5 rfl rfl (by kernel_rfl) (hXS _ hI) rfl (fun W hW => have hI := hSx W hW; (by first | exact rPickTB rfl rfl rfl | exact rPickFB rfl rfl rfl | exact rPickB rfl rfl rfl rfl)) ?_
    refine WT_take 6 rfl rfl (by kernel_rfl) (hXS _ hI) rfl (fun W hW => have hI := hSx W hW; (by first | exact rMoveB rfl rfl | exact rMove rfl)) ?_
    refine WT_skip 7 rfl rfl (by kernel_rfl) (hXS _ hI) rfl ?_
    refine WT_skip 8 rfl rfl (by kernel_rfl) (hXS _ hI) rfl ?_
    refine WT_skip 9 rfl rfl (by kernel_rfl) (hXS _ hI) rfl ?_
    refine WT_take 10 rfl rfl (by kernel_rfl) (hXS _ hI) rfl (fun W hW => have hI := hSx W hW; (by first | exact rPickTB rfl rfl rfl | exact rPickFB rfl rfl rfl | exact rPickB rfl rfl rfl rfl)) ?_
    refine WT_take 11 rfl rfl (by kernel_rfl) (hXS _ hI) rfl (fun W hW => have hI := hSx W hW; (by first | exact rMoveB rfl rfl | exact rMove rfl)) ?_
    refine WT_skip 12 rfl rfl (by kernel_rfl) (hXS _ hI) rfl ?_
    refine WT_skip 13 rfl rfl (by kernel_rfl) (hXS _ hI) rfl ?_
    refine WT_skip 14 rfl rfl (by kernel_rfl) (hXS _ hI) rfl ?_
    refine WT_skip 15 rfl rfl (by kernel_rfl) (hXS _ hI) rfl ?_
    refine WT_skip 16 rfl rfl (by kernel_rfl) (hXS _ hI) rfl ?_
    refine WT_skip 17 rfl rfl (by kernel_rfl) (hXS _ hI) rfl ?_
    refine WT_skip 18 rfl rfl (by kernel_rfl) (hXS _ hI) rfl ?_
    refine WT_take 19 rfl rfl (by kernel_rfl) (hXS _ hI) rfl (fun W hW => have hI := hSx W hW; (by first | exact rPickTB rfl rfl rfl | exact rPickFB rfl rfl rfl | exact rPickB rfl rfl rfl rfl)) ?_
    refine WT_take 20 rfl rfl (by kernel_rfl) (hXS _ hI) rfl (fun W hW => have hI := hSx W hW; (by first | exact rMoveB rfl rfl | exact rMove rfl)) ?_
    refine WT_skip 21 rfl rfl (by kernel_rfl) (hXS _ hI) rfl ?_
    refine WT_skip 22 rfl rfl (by kernel_rfl) (hXS _ hI) rfl ?_
    refine WT_skip 23 rfl rfl (by kernel_rfl) (hXS _ hI) rfl ?_
    refine WT_skip 24 rfl rfl (by kernel_rfl) (hXS _ hI) rfl ?_
    refine WT_skip 25 rfl rfl (by kernel_rfl) (hXS _ hI) rfl ?_
    refine WT_skip 26 rfl rfl (by kernel_rfl) (hXS _ hI) rfl ?_
    refine WT_skip 27 rfl rfl (by kernel_rfl) (hXS _ hI) rfl ?_
    refine WT_skip 28 rfl rfl (by kernel_rfl) (hXS _ hI) rfl ?_
    refine WT_skip 29 rfl rfl (by kernel_rfl) (hXS _ hI) rfl ?_
    refine WT_skip 30 rfl rfl (by kernel_rfl) (hXS _ hI) rfl ?_
    refine WT_skip 31 rfl rfl (by kernel_rfl) (hXS _ hI) rfl ?_
    refine WT_take 32 rfl rfl (by kernel_rfl) (hXS _ hI) rfl (fun W hW => have hI := hSx W hW; (by first | exact rPickTB rfl rfl rfl | exact rPickFB rfl rfl rfl | exact rPickB rfl rfl rfl rfl)) ?_
    refine WT_take 33 rfl rfl (by kernel_rfl) (hXS _ hI) rfl (fun W hW => have hI := hSx W hW; (by first | exact rMoveB rfl rfl | exact rMove rfl)) ?_
    refine WT_skip 34 rfl rfl (by kernel_rfl) (hXS _ hI) rfl ?_
    refine WT_skip 35 rfl rfl (by kernel_rfl) (hXS _ hI) rfl ?_
    refine WT_skip 36 rfl rfl (by kernel_rfl) (hXS _ hI) rfl ?_
    refine WT_skip 37 rfl rfl (by kernel_rfl) (hXS _ hI) rfl ?_
    refine WT_skip 38 rfl rfl (by kernel_rfl) (hXS _ hI) rfl ?_
    refine WT_skip 39 rfl rfl (by kernel_rfl) (hXS _ hI) rfl ?_
    refine WT_take 40 rfl rfl (by kernel_rfl) (hXS _ hI) rfl (fun W hW => have hI := hSx W hW; (by first | exact rPickTB rfl rfl rfl | exact rPickFB rfl rfl rfl | exact rPickB rfl rfl rfl rfl)) ?_
    refine WT_end (by kernel_rfl) ?_
    refine W_cond true rfl ?_
    refine W_seq ?_
    refine W_region ?_
    refine WL_val rfl rfl rfl (rIface rfl Tryd.underlying36 rfl rfl) ?_
    refine WL_val rfl rfl rfl (by first | exact rAsgnN rfl rfl | exact rAsgnE rfl rfl | exact rAsgn rfl) ?_
    refine WL_nil ?_
    refine W_ret ?_
    exact ret1 2 (.inr rfl) rfl (bad _ _ (fun hb => by rcases hb.1 with h1 | h1; exact k9 h1; exact k10 h1) hI.pu)
  refine W_seq ?_
  refine W_draw (by kernel_rfl) ?_
  refine WA_inv (T := []) hI.drew ?_
  intro Sx hSx hXS
  replace hI := hI.drew
  refine WT_take 0 rfl rfl (by kernel_rfl) (hXS _ hI) rfl (fun W hW => have hI := hSx W hW; (by first | exact rFldN (off := 2) rfl (by kernel_rfl) rfl | exact rFld (off := 2) rfl (by kernel_rfl) rfl)) ?_
  refine WT_take 1 rfl rfl (by kernel_rfl) (hXS _ hI) rfl (fun W hW => have hI := hSx W hW; (by first | exact rLd (v := .int .i64 _) rfl (by kernel_rfl) rfl (by first | exact hI.c0 rfl | exact hI.c1 rfl | exact hI.c2 rfl | exact hI.c3 rfl | exact hI.c4 rfl | exact hI.c5 rfl) | exact rLd rfl (by kernel_rfl) rfl (by first | exact hI.c0 rfl | exact hI.c1 rfl | exact hI.c2 rfl | exact hI.c3 rfl | exact hI.c4 rfl | exact hI.c5 rfl))) ?_
  refine WT_take 2 rfl rfl (by kernel_rfl) (hXS _ hI) rfl (fun W hW => have hI := hSx W hW; (by first | exact rEqlT rfl rfl rfl (by omega) | exact rEqlF rfl rfl rfl (by omega) | exact rEql rfl rfl rfl)) ?_
  refine WT_take 3 rfl rfl (by kernel_rfl) (hXS _ hI) rfl (fun W hW => have hI := hSx W hW; (by first | exact rFldN (off := 2) rfl (by kernel_rfl) rfl | exact rFld (off := 2) rfl (by kernel_rfl) rfl)) ?_
  refine WT_take 4 rfl rfl (by kernel_rfl) (hXS _ hI) rfl (fun W hW => have hI := hSx W hW; (by first | exact rLd (v := .int .i64 _) rfl (by kernel_rfl) rfl (by first | exact hI.c0 rfl | exact hI.c1 rfl | exact hI.c2 rfl | exact hI.c3 rfl | exact hI.c4 rfl | exact hI.c5 rfl) | exact rLd rfl (by kernel_rfl) rfl (by first | exact hI.c0 rfl | exact hI.c1 rfl | exact hI.c2 rfl | exact hI.c3 rfl | exact hI.c4 rfl | exact hI.c5 rfl))) ?_
  refine WT_take 5 rfl rfl (by kernel_rfl) (hXS _ hI) rfl (fun W hW => have hI := hSx W hW; (by first | exact rEqlT rfl rfl rfl (by omega) | exact rEqlF rfl rfl rfl (by omega) | exact rEql rfl rfl rfl)) ?_
  refine WT_take 6 rfl rfl (by kernel_rfl) (hXS _ hI) rfl (fun W hW => have hI := hSx W hW; (by first | exact rAsgnB rfl rfl | exact rAsgn rfl)) ?_
  refine WT_take 7 rfl rfl (by kernel_rfl) (hXS _ hI) rfl (fun W hW => have hI := hSx W hW; (by first | exact rAsgnB rfl rfl | exact rAsgn rfl)) ?_
  refine WT_end (by kernel_rfl) ?_
  by_cases hr : 0 ≤ p7
  rotate_left
  · refine W_seq ?_
    refine W_seq ?_
    refine W_draw (by kernel_rfl) ?_
    refine WA_inv (T := []) hI.drew ?_
    intro Sx hSx hXS
    replace hI := hI.drew
    refine WT_take 0 rfl rfl (by kernel_rfl) (hXS _ hI) rfl (fun W hW => have hI := hSx W hW; (by first | exact rMoveB rfl rfl | exact rMove rfl)) ?_
    refine WT_take 1 rfl rfl (by kernel_rfl) (hXS _ hI) rfl (fun W hW => have hI := hSx W hW; (by first | exact rNotT rfl rfl | exact rNotF rfl rfl | exact rNot rfl rfl)) ?_
    refine WT_take 2 rfl rfl (by kernel_rfl) (hXS _ hI) rfl (fun W hW => have hI := hSx W hW; (by first | exact rMoveB rfl rfl | exact rMove rfl)) ?_
    first | refine WT_take 3 rfl rfl (by kernel_rfl) (hXS _ hI) rfl (fun W hW => have hI := hSx W hW; (by first | exact rMoveB rfl rfl | exact rMove rfl)) ?_ | refine WT_skip 3 rfl rfl (by kernel_rfl) (hXS _ hI) rfl ?_
    first | refine WT_take 4 rfl rfl (by kernel_rfl) (hXS _ hI) rfl (fun W hW => have hI := hSx W hW; (by first | exact rNotT rfl rfl | exact rNotF rfl rfl | exact rNot rfl rfl)) ?_ | refine WT_skip 4 rfl rfl (by kernel_rfl) (hXS _ hI) rfl ?_
    refine WT_take 5 rfl rfl (by kernel_rfl) (hXS _ hI) rfl (fun W hW => have hI := hSx W hW; (by first | exact rPickTB rfl rfl rfl | exact rPickFB rfl rfl rfl | exact rPickB rfl rfl rfl rfl)) ?_
    refine WT_take 6 rfl rfl (by kernel_rfl) (hXS _ hI) rfl (fun W hW => have hI := hSx W hW; (by first | exact rMoveB rfl rfl | exact rMove rfl)) ?_
    first | refine WT_take 7 rfl rfl (by kernel_rfl) (hXS _ hI) rfl (fun W hW => have hI := hSx W hW; (by first | exact rFldN (off := 7) rfl (by kernel_rfl) rfl | exact rFld (off := 7) rfl (by kernel_rfl) rfl)) ?_ | refine WT_skip 7 rfl rfl (by kernel_rfl) (hXS _ hI) rfl ?_
    first | refine WT_take 8 rfl rfl (by kernel_rfl) (hXS _ hI) rfl (fun W hW => have hI := hSx W hW; (by first | exact rLd (v := .int .i64 _) rfl (by kernel_rfl) rfl (by first | exact hI.c0 rfl | exact hI.c1 rfl | exact hI.c2 rfl | exact hI.c3 rfl | exact hI.c4 rfl | exact hI.c5 rfl) | exact rLd rfl (by kernel_rfl) rfl (by first | exact hI.c0 rfl | exact hI.c1 rfl | exact hI.c2 rfl | exact hI.c3 rfl | exact hI.c4 rfl | exact hI.c5 rfl))) ?_ | refine WT_skip 8 rfl rfl (by kernel_rfl) (hXS _ hI) rfl ?_
    first | refine WT_take 9 rfl rfl (by kernel_rfl) (hXS _ hI) rfl (fun W hW => have hI := hSx W hW; (by first | exact rLssT rfl rfl rfl (by omega) | exact rLssF rfl rfl rfl (by omega) | exact rLss rfl rfl rfl)) ?_ | refine WT_skip 9 rfl rfl (by kernel_rfl) (hXS _ hI) rfl ?_
    refine WT_take 10 rfl rfl (by kernel_rfl) (hXS _ hI) rfl (fun W hW => have hI := hSx W hW; (by first | exact rPickTB rfl rfl rfl | exact rPickFB rfl rfl rfl | exact rPickB rfl rfl rfl rfl)) ?_
    refine WT_take 11 rfl rfl (by kernel_rfl) (hXS _ hI) rfl (fun W hW => have hI := hSx W hW; (by first | exact rMoveB rfl rfl | exact rMove rfl)) ?_
    refine WT_skip 12 rfl rfl (by kernel_rfl) (hXS _ hI) rfl ?_
    refine WT_skip 13 rfl rfl (by kernel_rfl) (hXS _ hI) rfl ?_
    refine WT_skip 14 rfl rfl (by kernel_rfl) (hXS _ hI) rfl ?_
    refine WT_skip 15 rfl rfl (by kernel_rfl) (hXS _ hI) rfl ?_
    refine WT_skip 16 rfl rfl (by kernel_rfl) (hXS _ hI) rfl ?_
    refine WT_skip 17 rfl rfl (by kernel_rfl) (hXS _ hI) rfl ?_
    refine WT_skip 18 rfl rfl (by kernel_rfl) (hXS _ hI) rfl ?_
    refine WT_take 19 rfl rfl (by kernel_rfl) (hXS _ hI) rfl (fun W hW => have hI := hSx W hW; (by first | exact rPickTB rfl rfl rfl | exact rPickFB rfl rfl rfl | exact rPickB rfl rfl rfl rfl)) ?_
    refine WT_take 20 rfl rfl (by kernel_rfl) (hXS _ hI) rfl (fun W hW => have hI := hSx W hW; (by first | exact rMoveB rfl rfl | exact rMove rfl)) ?_
    refine WT_skip 21 rfl rfl (by kernel_rfl) (hXS _ hI) rfl ?_
    refine WT_skip 22 rfl rfl (by kernel_rfl) (hXS _ hI) rfl ?_
    refine WT_skip 23 rfl rfl (by kernel_rfl) (hXS _ hI) rfl ?_
    refine WT_skip 24 rfl rfl (by kernel_rfl) (hXS _ hI) rfl ?_
    refine WT_skip 25 rfl rfl (by kernel_rfl) (hXS _ hI) rfl ?_
    refine WT_skip 26 rfl rfl (by kernel_rfl) (hXS _ hI) rfl ?_
    refine WT_skip 27 rfl rfl (by kernel_rfl) (hXS _ hI) rfl ?_
    refine WT_skip 28 rfl rfl (by kernel_rfl) (hXS _ hI) rfl ?_
    refine WT_skip 29 rfl rfl (by kernel_rfl) (hXS _ hI) rfl ?_
    refine WT_skip 30 rfl rfl (by kernel_rfl) (hXS _ hI) rfl ?_
    refine WT_skip 31 rfl rfl (by kernel_rfl) (hXS _ hI) rfl ?_
    refine WT_take 32 rfl rfl (by kernel_rfl) (hXS _ hI) rfl (fun W hW => have hI := hSx W hW; (by first | exact rPickTB rfl rfl rfl | exact rPickFB rfl rfl rfl | exact rPickB rfl rfl rfl rfl)) ?_
    refine WT_take 33 rfl rfl (by kernel_rfl) (hXS _ hI) rfl (fun W hW => have hI := hSx W hW; (by first | exact rMoveB rfl rfl | exact rMove rfl)) ?_
    refine WT_skip 34 rfl rfl (by kernel_rfl) (hXS _ hI) rfl ?_
    refine WT_skip 35 rfl rfl (by kernel_rfl) (hXS _ hI) rfl ?_
    refine WT_skip 36 rfl rfl (by kernel_rfl) (hXS _ hI) rfl ?_
    refine WT_skip 37 rfl rfl (by kernel_rfl) (hXS _ hI) rfl ?_
    refine WT_skip 38 rfl rfl (by kernel_rfl) (hXS _ hI) rfl ?_
    refine WT_skip 39 rfl rfl (by kernel_rfl) (hXS _ hI) rfl ?_
    refine WT_take 40 rfl rfl (by kernel_rfl) (hXS _ hI) rfl (fun W hW => have hI := hSx W hW; (by first | exact rPickTB rfl rfl rfl | exact rPickFB rfl rfl rfl | exact rPickB rfl rfl rfl rfl)) ?_
    refine WT_end (by kernel_rfl) ?_
    refine W_cond true rfl ?_
    refine W_seq ?_
    refine W_region ?_
    refine WL_val rfl rfl rfl (rIface rfl Tryd.underlying36 rfl rfl) ?_
    refine WL_val rfl rfl rfl (by first | exact rAsgnN rfl rfl | exact rAsgnE rfl rfl | exact rAsgn rfl) ?_
    refine WL_nil ?_
    refine W_ret ?_
    exact ret1 2 (.inr rfl) rfl (bad _ _ (fun hb => hr hb.2.1) hI.pu)
  by_cases hkey : p1 = z1
  rotate_left
  · refine W_seq ?_
    refine W_seq ?_
    refine W_draw (by kernel_rfl) ?_
    refine WA_inv (T := []) hI.drew ?_
    intro Sx hSx hXS
    replace hI := hI.drew
    refine WT_take 0 rfl rfl (by kernel_rfl) (hXS _ hI) rfl (fun W hW => have hI := hSx W hW; (by first | exact rMoveB rfl rfl | exact rMove rfl)) ?_
    refine WT_take 1 rfl rfl (by kernel_rfl) (hXS _ hI) rfl (fun W hW => have hI := hSx W hW; (by first | exact rNotT rfl rfl | exact rNotF rfl rfl | exact rNot rfl rfl)) ?_
    refine WT_take 2 rfl rfl (by kernel_rfl) (hXS _ hI) rfl (fun W hW => have hI := hSx W hW; (by first | exact rMoveB rfl rfl | exact rMove rfl)) ?_
    first | refine WT_take 3 rfl rfl (by kernel_rfl) (hXS _ hI) rfl (fun W hW => have hI := hSx W hW; (by first | exact rMoveB rfl rfl | exact rMove rfl)) ?_ | refine WT_skip 3 rfl rfl (by kernel_rfl) (hXS _ hI) rfl ?_
    first | refine WT_take 4 rfl rfl (by kernel_rfl) (hXS _ hI) rfl (fun W hW => have hI := hSx W hW; (by first | exact rNotT rfl rfl | exact rNotF rfl rfl | exact rNot rfl rfl)) ?_ | refine WT_skip 4 rfl rfl (by kernel_rfl) (hXS _ hI) rfl ?_
    refine WT_take 5 rfl rfl (by kernel_rfl) (hXS _ hI) rfl (fun W hW => have hI := hSx W hW; (by first | exact rPickTB rfl rfl rfl | exact rPickFB rfl rfl rfl | exact rPickB rfl rfl rfl rfl)) ?_
    refine WT_take 6 rfl rfl (by kernel_rfl) (hXS _ hI) rfl (fun W hW => have hI := hSx W hW; (by first | exact rMoveB rfl rfl | exact rMove rfl)) ?_
    first | refine WT_take 7 rfl rfl (by kernel_rfl) (hXS _ hI) rfl (fun W hW => have hI := hSx W hW; (by first | exact rFldN (off := 7) rfl (by kernel_rfl) rfl | exact rFld (off := 7) rfl (by kernel_rfl) rfl)) ?_ | refine WT_skip 7 rfl rfl (by kernel_rfl) (hXS _ hI) rfl ?_
    first | refine WT_take 8 rfl rfl (by kernel_rfl) (hXS _ hI) rfl (fun W hW => have hI := hSx W hW; (by first | exact rLd (v := .int .i64 _) rfl (by kernel_rfl) rfl (by first | exact hI.c0 rfl | exact hI.c1 rfl | exact hI.c2 rfl | exact hI.c3 rfl | exact hI.c4 rfl | exact hI.c5 rfl | exact (hz1 _ hI.pu) | exact (hI.c0 rfl)) | exact rLd rfl (by kernel_rfl) rfl (by first | exact hI.c0 rfl | exact hI.c1 rfl | exact hI.c2 rfl | exact hI.c3 rfl | exact hI.c4 rfl | exact hI.c5 rfl | exact (hz1 _ hI.pu) | exact (hI.c0 rfl)))) ?_ | refine WT_skip 8 rfl rfl (by kernel_rfl) (hXS _ hI) rfl ?_
    first | refine WT_take 9 rfl rfl (by kernel_rfl) (hXS _ hI) rfl (fun W hW => have hI := hSx W hW; (by first | exact rLssT rfl rfl rfl (by omega) | exact rLssF rfl rfl rfl (by omega) | exact rLss rfl rfl rfl)) ?_ | refine WT_skip 9 rfl rfl (by kernel_rfl) (hXS _ hI) rfl ?_
    refine WT_take 10 rfl rfl (by kernel_rfl) (hXS _ hI) rfl (fun W hW => have hI := hSx W hW; (by first | exact rPickTB rfl rfl rfl | exact rPickFB rfl rfl rfl | exact rPickB rfl rfl rfl rfl)) ?_
    refine WT_take 11 rfl rfl (by kernel_rfl) (hXS _ hI) rfl (fun W hW => have hI := hSx W hW; (by first | exact rMoveB rfl rfl | exact rMove rfl)) ?_
    first | refine WT_take 12 rfl rfl (by kernel_rfl) (hXS _ hI) rfl (fun W hW => have hI := hSx W hW; (by first | exact rFldN (off := 1) rfl (by kernel_rfl) rfl | exact rFld (off := 1) rfl (by kernel_rfl) rfl)) ?_ | refine WT_skip 12 rfl rfl (by kernel_rfl) (hXS _ hI) rfl ?_
    first | refine WT_take 13 rfl rfl (by kernel_rfl) (hXS _ hI) rfl (fun W hW => have hI := hSx W hW; (by first | exact rLd (v := .int .i64 _) rfl (by kernel_rfl) rfl (by first | exact hI.c0 rfl | exact hI.c1 rfl | exact hI.c2 rfl | exact hI.c3 rfl | exact hI.c4 rfl | exact hI.c5 rfl | exact (hz1 _ hI.pu) | exact (hI.c0 rfl)) | exact rLd rfl (by kernel_rfl) rfl (by first | exact hI.c0 rfl | exact hI.c1 rfl | exact hI.c2 rfl | exact hI.c3 rfl | exact hI.c4 rfl | exact hI.c5 rfl | exact (hz1 _ hI.pu) | exact (hI.c0 rfl)))) ?_ | refine WT_skip 13 rfl rfl (by kernel_rfl) (hXS _ hI) rfl ?_
    first | refine WT_take 14 rfl rfl (by kernel_rfl) (hXS _ hI) rfl (fun W hW => have hI := hSx W hW; (by first | exact rMoveS rfl rfl | exact rMove rfl)) ?_ | refine WT_skip 14 rfl rfl (by kernel_rfl) (hXS _ hI) rfl ?_
    first | refine WT_take 15 rfl rfl (by kernel_rfl) (hXS _ hI) rfl (fun W hW => have hI := hSx W hW; (rIdx (sz := 8) (i := 0) rfl Tryd.underlying22 (by kernel_rfl) rfl rfl (by omega))) ?_ | refine WT_skip 15 rfl rfl (by kernel_rfl) (hXS _ hI) rfl ?_
    first | refine WT_take 16 rfl rfl (by kernel_rfl) (hXS _ hI) rfl (fun W hW => have hI := hSx W hW; (by first | exact rFldN (off := 1) rfl (by kernel_rfl) rfl | exact rFld (off := 1) rfl (by kernel_rfl) rfl)) ?_ | refine WT_skip 16 rfl rfl (by kernel_rfl) (hXS _ hI) rfl ?_
    first | refine WT_take 17 rfl rfl (by kernel_rfl) (hXS _ hI) rfl (fun W hW => have hI := hSx W hW; (by first | exact rLd (v := .int .i64 _) rfl (by kernel_rfl) rfl (by first | exact hI.c0 rfl | exact hI.c1 rfl | exact hI.c2 rfl | exact hI.c3 rfl | exact hI.c4 rfl | exact hI.c5 rfl | exact (hz1 _ hI.pu) | exact (hI.c0 rfl)) | exact rLd rfl (by kernel_rfl) rfl (by first | exact hI.c0 rfl | exact hI.c1 rfl | exact hI.c2 rfl | exact hI.c3 rfl | exact hI.c4 rfl | exact hI.c5 rfl | exact (hz1 _ hI.pu) | exact (hI.c0 rfl)))) ?_ | refine WT_skip 17 rfl rfl (by kernel_rfl) (hXS _ hI) rfl ?_
    first | refine WT_take 18 rfl rfl (by kernel_rfl) (hXS _ hI) rfl (fun W hW => have hI := hSx W hW; (by first | exact rNeqT rfl rfl rfl (by omega) | exact rNeqF rfl rfl rfl (by omega) | exact rNeq rfl rfl rfl)) ?_ | refine WT_skip 18 rfl rfl (by kernel_rfl) (hXS _ hI) rfl ?_
    refine WT_take 19 rfl rfl (by kernel_rfl) (hXS _ hI) rfl (fun W hW => have hI := hSx W hW; (by first | exact rPickTB rfl rfl rfl | exact rPickFB rfl rfl rfl | exact rPickB rfl rfl rfl rfl)) ?_
    refine WT_take 20 rfl rfl (by kernel_rfl) (hXS _ hI) rfl (fun W hW => have hI := hSx W hW; (by first | exact rMoveB rfl rfl | exact rMove rfl)) ?_
    refine WT_skip 21 rfl rfl (by kernel_rfl) (hXS _ hI) rfl ?_
    refine WT_skip 22 rfl rfl (by kernel_rfl) (hXS _ hI) rfl ?_
    refine WT_skip 23 rfl rfl (by kernel_rfl) (hXS _ hI) rfl ?_
    refine WT_skip 24 rfl rfl (by kernel_rfl) (hXS _ hI) rfl ?_
    refine WT_skip 25 rfl rfl (by kernel_rfl) (hXS _ hI) rfl ?_
    refine WT_skip 26 rfl rfl (by kernel_rfl) (hXS _ hI) rfl ?_
    refine WT_skip 27 rfl rfl (by kernel_rfl) (hXS _ hI) rfl ?_
    refine WT_skip 28 rfl rfl (by kernel_rfl) (hXS _ hI) rfl ?_
    refine WT_skip 29 rfl rfl (by kernel_rfl) (hXS _ hI) rfl ?_
    refine WT_skip 30 rfl rfl (by kernel_rfl) (hXS _ hI) rfl ?_
    refine WT_skip 31 rfl rfl (by kernel_rfl) (hXS _ hI) rfl ?_
    refine WT_take 32 rfl rfl (by kernel_rfl) (hXS _ hI) rfl (fun W hW => have hI := hSx W hW; (by first | exact rPickTB rfl rfl rfl | exact rPickFB rfl rfl rfl | exact rPickB rfl rfl rfl rfl)) ?_
    refine WT_take 33 rfl rfl (by kernel_rfl) (hXS _ hI) rfl (fun W hW => have hI := hSx W hW; (by first | exact rMoveB rfl rfl | exact rMove rfl)) ?_
    refine WT_skip 34 rfl rfl (by kernel_rfl) (hXS _ hI) rfl ?_
    refine WT_skip 35 rfl rfl (by kernel_rfl) (hXS _ hI) rfl ?_
    refine WT_skip 36 rfl rfl (by kernel_rfl) (hXS _ hI) rfl ?_
    refine WT_skip 37 rfl rfl (by kernel_rfl) (hXS _ hI) rfl ?_
    refine WT_skip 38 rfl rfl (by kernel_rfl) (hXS _ hI) rfl ?_
    refine WT_skip 39 rfl rfl (by kernel_rfl) (hXS _ hI) rfl ?_
    refine WT_take 40 rfl rfl (by kernel_rfl) (hXS _ hI) rfl (fun W hW => have hI := hSx W hW; (by first | exact rPickTB rfl rfl rfl | exact rPickFB rfl rfl rfl | exact rPickB rfl rfl rfl rfl)) ?_
    refine WT_end (by kernel_rfl) ?_
    refine W_cond true rfl ?_
    refine W_seq ?_
    refine W_region ?_
    refine WL_val rfl rfl rfl (rIface rfl Tryd.underlying36 rfl rfl) ?_
    refine WL_val rfl rfl rfl (by first | exact rAsgnN rfl rfl | exact rAsgnE rfl rfl | exact rAsgn rfl) ?_
    refine WL_nil ?_
    refine W_ret ?_
    exact ret1 2 (.inr rfl) rfl (bad _ _ (fun hb => hkey hb.2.2.1) hI.pu)
  by_cases hs : p5 = -1
  · refine W_seq ?_
    refine W_seq ?_
    refine W_draw (by kernel_rfl) ?_
    refine WA_inv (T := []) hI.drew ?_
    intro Sx hSx hXS
    replace hI := hI.drew
    refine WT_take 0 rfl rfl (by kernel_rfl) (hXS _ hI) rfl (fun W hW => have hI := hSx W hW; (by first | exact rMoveB rfl rfl | exact rMove rfl)) ?_
    refine WT_take 1 rfl rfl (by kernel_rfl) (hXS _ hI) rfl (fun W hW => have hI := hSx W hW; (by first | exact rNotT rfl rfl | exact rNotF rfl rfl | exact rNot rfl rfl)) ?_
    refine WT_take 2 rfl rfl (by kernel_rfl) (hXS _ hI) rfl (fun W hW => have hI := hSx W hW; (by first | exact rMoveB rfl rfl | exact rMove rfl)) ?_
    first | refine WT_take 3 rfl rfl (by kernel_rfl) (hXS _ hI) rfl (fun W hW => have hI := hSx W hW; (by first | exact rMoveB rfl rfl | exact rMove rfl)) ?_ | refine WT_skip 3 rfl rfl (by kernel_rfl) (hXS _ hI) rfl ?_
    first | refine WT_take 4 rfl rfl (by kernel_rfl) (hXS _ hI) rfl (fun W hW => have hI := hSx W hW; (by first | exact rNotT rfl rfl | exact rNotF rfl rfl | exact rNot rfl rfl)) ?_ | refine WT_skip 4 rfl rfl (by kernel_rfl) (hXS _ hI) rfl ?_
    refine WT_take 5 rfl rfl (by kernel_rfl) (hXS _ hI) rfl (fun W hW => have hI := hSx W hW; (by first | exact rPickTB rfl rfl rfl | exact rPickFB rfl rfl rfl | exact rPickB rfl rfl rfl rfl)) ?_
    refine WT_take 6 rfl rfl (by kernel_rfl) (hXS _ hI) rfl (fun W hW => have hI := hSx W hW; (by first | exact rMoveB rfl rfl | exact rMove rfl)) ?_
    first | refine WT_take 7 rfl rfl (by kernel_rfl) (hXS _ hI) rfl (fun W hW => have hI := hSx W hW; (by first | exact rFldN (off := 7) rfl (by kernel_rfl) rfl | exact rFld (off := 7) rfl (by kernel_rfl) rfl)) ?_ | refine WT_skip 7 rfl rfl (by kernel_rfl) (hXS _ hI) rfl ?_
    first | refine WT_take 8 rfl rfl (by kernel_rfl) (hXS _ hI) rfl (fun W hW => have hI := hSx W hW; (by first | exact rLd (v := .int .i64 _) rfl (by kernel_rfl) rfl (by first | exact hI.c0 rfl | exact hI.c1 rfl | exact hI.c2 rfl | exact hI.c3 rfl | exact hI.c4 rfl | exact hI.c5 rfl | exact (hz1 _ hI.pu) | exact (hI.c0 rfl)) | exact rLd rfl (by kernel_rfl) rfl (by first | exact hI.c0 rfl | exact hI.c1 rfl | exact hI.c2 rfl | exact hI.c3 rfl | exact hI.c4 rfl | exact hI.c5 rfl | exact (hz1 _ hI.pu) | exact (hI.c0 rfl)))) ?_ | refine WT_skip 8 rfl rfl (by kernel_rfl) (hXS _ hI) rfl ?_
    first | refine WT_take 9 rfl rfl (by kernel_rfl) (hXS _ hI) rfl (fun W hW => have hI := hSx W hW; (by first | exact rLssT rfl rfl rfl (by omega) | exact rLssF rfl rfl rfl (by omega) | exact rLss rfl rfl rfl)) ?_ | refine WT_skip 9 rfl rfl (by kernel_rfl) (hXS _ hI) rfl ?_
    refine WT_take 10 rfl rfl (by kernel_rfl) (hXS _ hI) rfl (fun W hW => have hI := hSx W hW; (by first | exact rPickTB rfl rfl rfl | exact rPickFB rfl rfl rfl | exact rPickB rfl rfl rfl rfl)) ?_
    refine WT_take 11 rfl rfl (by kernel_rfl) (hXS _ hI) rfl (fun W hW => have hI := hSx W hW; (by first | exact rMoveB rfl rfl | exact rMove rfl)) ?_
    first | refine WT_take 12 rfl rfl (by kernel_rfl) (hXS _ hI) rfl (fun W hW => have hI := hSx W hW; (by first | exact rFldN (off := 1) rfl (by kernel_rfl) rfl | exact rFld (off := 1) rfl (by kernel_rfl) rfl)) ?_ | refine WT_skip 12 rfl rfl (by kernel_rfl) (hXS _ hI) rfl ?_
    first | refine WT_take 13 rfl rfl (by kernel_rfl) (hXS _ hI) rfl (fun W hW => have hI := hSx W hW; (by first | exact rLd (v := .int .i64 _) rfl (by kernel_rfl) rfl (by first | exact hI.c0 rfl | exact hI.c1 rfl | exact hI.c2 rfl | exact hI.c3 rfl | exact hI.c4 rfl | exact hI.c5 rfl | exact (hz1 _ hI.pu) | exact (hI.c0 rfl)) | exact rLd rfl (by kernel_rfl) rfl (by first | exact hI.c0 rfl | exact hI.c1 rfl | exact hI.c2 rfl | exact hI.c3 rfl | exact hI.c4 rfl | exact hI.c5 rfl | exact (hz1 _ hI.pu) | exact (hI.c0 rfl)))) ?_ | refine WT_skip 13 rfl rfl (by kernel_rfl) (hXS _ hI) rfl ?_
    first | refine WT_take 14 rfl rfl (by kernel_rfl) (hXS _ hI) rfl (fun W hW => have hI := hSx W hW; (by first | exact rMoveS rfl rfl | exact rMove rfl)) ?_ | refine WT_skip 14 rfl rfl (by kernel_rfl) (hXS _ hI) rfl ?_
    first | refine WT_take 15 rfl rfl (by kernel_rfl) (hXS _ hI) rfl (fun W hW => have hI := hSx W hW; (rIdx (sz := 8) (i := 0) rfl Tryd.underlying22 (by kernel_rfl) rfl rfl (by omega))) ?_ | refine WT_skip 15 rfl rfl (by kernel_rfl) (hXS _ hI) rfl ?_
    first | refine WT_take 16 rfl rfl (by kernel_rfl) (hXS _ hI) rfl (fun W hW => have hI := hSx W hW; (by first | exact rFldN (off := 1) rfl (by kernel_rfl) rfl | exact rFld (off := 1) rfl (by kernel_rfl) rfl)) ?_ | refine WT_skip 16 rfl rfl (by kernel_rfl) (hXS _ hI) rfl ?_
    first | refine WT_take 17 rfl rfl (by kernel_rfl) (hXS _ hI) rfl (fun W hW => have hI := hSx W hW; (by first | exact rLd (v := .int .i64 _) rfl (by kernel_rfl) rfl (by first | exact hI.c0 rfl | exact hI.c1 rfl | exact hI.c2 rfl | exact hI.c3 rfl | exact hI.c4 rfl | exact hI.c5 rfl | exact (hz1 _ hI.pu) | exact (hI.c0 rfl)) | exact rLd rfl (by kernel_rfl) rfl (by first | exact hI.c0 rfl | exact hI.c1 rfl | exact hI.c2 rfl | exact hI.c3 rfl | exact hI.c4 rfl | exact hI.c5 rfl | exact (hz1 _ hI.pu) | exact (hI.c0 rfl)))) ?_ | refine WT_skip 17 rfl rfl (by kernel_rfl) (hXS _ hI) rfl ?_
    first | refine WT_take 18 rfl rfl (by kernel_rfl) (hXS _ hI) rfl (fun W hW => have hI := hSx W hW; (by first | exact rNeqT rfl rfl rfl (by omega) | exact rNeqF rfl rfl rfl (by omega) | exact rNeq rfl rfl rfl)) ?_ | refine WT_skip 18 rfl rfl (by kernel_rfl) (hXS _ hI) rfl ?_
    refine WT_take 19 rfl rfl (by kernel_rfl) (hXS _ hI) rfl (fun W hW => have hI := hSx W hW; (by first | exact rPickTB rfl rfl rfl | exact rPickFB rfl rfl rfl | exact rPickB rfl rfl rfl rfl)) ?_
    refine WT_take 20 rfl rfl (by kernel_rfl) (hXS _ hI) rfl (fun W hW => have hI := hSx W hW; (by first | exact rMoveB rfl rfl | exact rMove rfl)) ?_
    first | refine WT_take 21 rfl rfl (by kernel_rfl) (hXS _ hI) rfl (fun W hW => have hI := hSx W hW; (by first | exact rMoveB rfl rfl | exact rMove rfl)) ?_ | refine WT_skip 21 rfl rfl (by kernel_rfl) (hXS _ hI) rfl ?_
    first | refine WT_take 22 rfl rfl (by kernel_rfl) (hXS _ hI) rfl (fun W hW => have hI := hSx W hW; (by first | exact rMoveB rfl rfl | exact rMove rfl)) ?_ | refine WT_skip 22 rfl rfl (by kernel_rfl) (hXS _ hI) rfl ?_
    refine WT_skip 23 rfl rfl (by kernel_rfl) (hXS _ hI) rfl ?_
    refine WT_skip 24 rfl rfl (by kernel_rfl) (hXS _ hI) rfl ?_
    refine WT_skip 25 rfl rfl (by kernel_rfl) (hXS _ hI) rfl ?_
    refine WT_skip 26 rfl rfl (by kernel_rfl) (hXS _ hI) rfl ?_
    refine WT_skip 27 rfl rfl (by kernel_rfl) (hXS _ hI) rfl ?_
    refine WT_skip 28 rfl rfl (by kernel_rfl) (hXS _ hI) rfl ?_
    refine WT_skip 29 rfl rfl (by kernel_rfl) (hXS _ hI) rfl ?_
    refine WT_skip 30 rfl rfl (by kernel_rfl) (hXS _ hI) rfl ?_
    first | refine WT_take 31 rfl rfl (by kernel_rfl) (hXS _ hI) rfl (fun W hW => have hI := hSx W hW; (by first | exact rPickTB rfl rfl rfl | exact rPickFB rfl rfl rfl | exact rPickB rfl rfl rfl rfl)) ?_ | refine WT_skip 31 rfl rfl (by kernel_rfl) (hXS _ hI) rfl ?_
    refine WT_take 32 rfl rfl (by kernel_rfl) (hXS _ hI) rfl (fun W hW => have hI := hSx W hW; (by first | exact rPickTB rfl rfl rfl | exact rPickFB rfl rfl rfl | exact rPickB rfl rfl rfl rfl)) ?_
    refine WT_take 33 rfl rfl (by kernel_rfl) (hXS _ hI) rfl (fun W hW => have hI := hSx W hW; (by first | exact rMoveB rfl rfl | exact rMove rfl)) ?_
    first | refine WT_take 34 rfl rfl (by kernel_rfl) (hXS _ hI) rfl (fun W hW => have hI := hSx W hW; (by first | exact rMoveB rfl rfl | exact rMove rfl)) ?_ | refine WT_skip 34 rfl rfl (by kernel_rfl) (hXS _ hI) rfl ?_
    first | refine WT_take 35 rfl rfl (by kernel_rfl) (hXS _ hI) rfl (fun W hW => have hI := hSx W hW; (by first | exact rMoveB rfl rfl | exact rMove rfl)) ?_ | refine WT_skip 35 rfl rfl (by kernel_rfl) (hXS _ hI) rfl ?_
    first | refine WT_take 36 rfl rfl (by kernel_rfl) (hXS _ hI) rfl (fun W hW => have hI := hSx W hW; (by first | exact rFldN (off := 5) rfl (by kernel_rfl) rfl | exact rFld (off := 5) rfl (by kernel_rfl) rfl)) ?_ | refine WT_skip 36 rfl rfl (by kernel_rfl) (hXS _ hI) rfl ?_
    first | refine WT_take 37 rfl rfl (by kernel_rfl) (hXS _ hI) rfl (fun W hW => have hI := hSx W hW; (by first | exact rLd (v := .int .i64 _) rfl (by kernel_rfl) rfl (by first | exact hI.c0 rfl | exact hI.c1 rfl | exact hI.c2 rfl | exact hI.c3 rfl | exact hI.c4 rfl | exact hI.c5 rfl | exact (hz1 _ hI.pu) | exact (hI.c0 rfl)) | exact rLd rfl (by kernel_rfl) rfl (by first | exact hI.c0 rfl | exact hI.c1 rfl | exact hI.c2 rfl | exact hI.c3 rfl | exact hI.c4 rfl | exact hI.c5 rfl | exact (hz1 _ hI.pu) | exact (hI.c0 rfl)))) ?_ | refine WT_skip 37 rfl rfl (by kernel_rfl) (hXS _ hI) rfl ?_
    first | refine WT_take 38 rfl rfl (by kernel_rfl) (hXS _ hI) rfl (fun W hW => have hI := hSx W hW; (by first | exact rEqlT rfl rfl rfl (by omega) | exact rEqlF rfl rfl rfl (by omega) | exact rEql rfl rfl rfl)) ?_ | refine WT_skip 38 rfl rfl (by kernel_rfl) (hXS _ hI) rfl ?_
    first | refine WT_take 39 rfl rfl (by kernel_rfl) (hXS _ hI) rfl (fun W hW => have hI := hSx W hW; (by first | exact rPickTB rfl rfl rfl | exact rPickFB rfl rfl rfl | exact rPickB rfl rfl rfl rfl)) ?_ | refine WT_skip 39 rfl rfl (by kernel_rfl) (hXS _ hI) rfl ?_
    refine WT_take 40 rfl rfl (by kernel_rfl) (hXS _ hI) rfl (fun W hW => have hI := hSx W hW; (by first | exact rPickTB rfl rfl rfl | exact rPickFB rfl rfl rfl | exact rPickB rfl rfl rfl rfl)) ?_
    refine WT_end (by kernel_rfl) ?_
    refine W_cond true rfl ?_
    refine W_seq ?_
    refine W_region ?_
    refine WL_val rfl rfl rfl (rIface rfl Tryd.underlying36 rfl rfl) ?_
    refine WL_val rfl rfl rfl (by first | exact rAsgnN rfl rfl | exact rAsgnE rfl rfl | exact rAsgn rfl) ?_
    refine WL_nil ?_
    refine W_ret ?_
    exact ret1 2 (.inr rfl) rfl (bad _ _ (fun hb => hb.2.2.2.2 k10 hs) hI.pu)
  have hg : OkQ1 z1 ⟨p0, p1, p2, p3, p4, p5, p6, p7⟩ := ⟨.inr k10, hr, hkey, fun h9 => absurd h9 k9, fun _ => hs⟩
  refine W_seq ?_
  refine W_seq ?_
  refine W_draw (by kernel_rfl) ?_
  refine WA_inv (T := []) hI.drew ?_
  intro Sx hSx hXS
  replace hI := hI.drew
  refine WT_take 0 rfl rfl (by kernel_rfl) (hXS _ hI) rfl (fun W hW => have hI := hSx W hW; (by first | exact rMoveB rfl rfl | exact rMove rfl)) ?_
  refine WT_take 1 rfl rfl (by kernel_rfl) (hXS _ hI) rfl (fun W hW => have hI := hSx W hW; (by first | exact rNotT rfl rfl | exact rNotF rfl rfl | exact rNot rfl rfl)) ?_
  refine WT_take 2 rfl rfl (by kernel_rfl) (hXS _ hI) rfl (fun W hW => have hI := hSx W hW; (by first | exact rMoveB rfl rfl | exact rMove rfl)) ?_
  first | refine WT_take 3 rfl rfl (by kernel_rfl) (hXS _ hI) rfl (fun W hW => have hI := hSx W hW; (by first | exact rMoveB rfl rfl | exact rMove rfl)) ?_ | refine WT_skip 3 rfl rfl (by kernel_rfl) (hXS _ hI) rfl ?_
  first | refine WT_take 4 rfl rfl (by kernel_rfl) (hXS _ hI) rfl (fun W hW => have hI := hSx W hW; (by first | exact rNotT rfl rfl | exact rNotF rfl rfl | exact rNot rfl rfl)) ?_ | refine WT_skip 4 rfl rfl (by kernel_rfl) (hXS _ hI) rfl ?_
  refine WT_take 5 rfl rfl (by kernel_rfl) (hXS _ hI) rfl (fun W hW => have hI := hSx W hW; (by first | exact rPickTB rfl rfl rfl | exact rPickFB rfl rfl rfl | exact rPickB rfl rfl rfl rfl)) ?_
  refine WT_take 6 rfl rfl (by kernel_rfl) (hXS _ hI) rfl (fun W hW => have hI := hSx W hW; (by first | exact rMoveB rfl rfl | exact rMove rfl)) ?_
  first | refine WT_take 7 rfl rfl (by kernel_rfl) (hXS _ hI) rfl (fun W hW => have hI := hSx W hW; (by first | exact rFldN (off := 7) rfl (by kernel_rfl) rfl | exact rFld (off := 7) rfl (by kernel_rfl) rfl)) ?_ | refine WT_skip 7 rfl rfl (by kernel_rfl) (hXS _ hI) rfl ?_
  first | refine WT_take 8 rfl rfl (by kernel_rfl) (hXS _ hI) rfl (fun W hW => have hI := hSx W hW; (by first | exact rLd (v := .int .i64 _) rfl (by kernel_rfl) rfl (by first | exact hI.c0 rfl | exact hI.c1 rfl | exact hI.c2 rfl | exact hI.c3 rfl | exact hI.c4 rfl | exact hI.c5 rfl | exact (hz1 _ hI.pu) | exact (hI.c0 rfl)) | exact rLd rfl (by kernel_rfl) rfl (by first | exact hI.c0 rfl | exact hI.c1 rfl | exact hI.c2 rfl | exact hI.c3 rfl | exact hI.c4 rfl | exact hI.c5 rfl | exact (hz1 _ hI.pu) | exact (hI.c0 rfl)))) ?_ | refine WT_skip 8 rfl rfl (by kernel_rfl) (hXS _ hI) rfl ?_
  first | refine WT_take 9 rfl rfl (by kernel_rfl) (hXS _ hI) rfl (fun W hW => have hI := hSx W hW; (by first | exact rLssT rfl rfl rfl (by omega) | exact rLssF rfl rfl rfl (by omega) | exact rLss rfl rfl rfl)) ?_ | refine WT_skip 9 rfl rfl (by kernel_rfl) (hXS _ hI) rfl ?_
  refine WT_take 10 rfl rfl (by kernel_rfl) (hXS _ hI) rfl (fun W hW => have hI := hSx W hW; (by first | exact rPickTB rfl rfl rfl | exact rPickFB rfl rfl rfl | exact rPickB rfl rfl rfl rfl)) ?_
  refine WT_take 11 rfl rfl (by kernel_rfl) (hXS _ hI) rfl (fun W hW => have hI := hSx W hW; (by first | exact rMoveB rfl rfl | exact rMove rfl)) ?_
  first | refine WT_take 12 rfl rfl (by kernel_rfl) (hXS _ hI) rfl (fun W hW => have hI := hSx W hW; (by first | exact rFldN (off := 1) rfl (by kernel_rfl) rfl | exact rFld (off := 1) rfl (by kernel_rfl) rfl)) ?_ | refine WT_skip 12 rfl rfl (by kernel_rfl) (hXS _ hI) rfl ?_
  first | refine WT_take 13 rfl rfl (by kernel_rfl) (hXS _ hI) rfl (fun W hW => have hI := hSx W hW; (by first | exact rLd (v := .int .i64 _) rfl (by kernel_rfl) rfl (by first | exact hI.c0 rfl | exact hI.c1 rfl | exact hI.c2 rfl | exact hI.c3 rfl | exact hI.c4 rfl | exact hI.c5 rfl | exact (hz1 _ hI.pu) | exact (hI.c0 rfl)) | exact rLd rfl (by kernel_rfl) rfl (by first | exact hI.c0 rfl | exact hI.c1 rfl | exact hI.c2 rfl | exact hI.c3 rfl | exact hI.c4 rfl | exact hI.c5 rfl | exact (hz1 _ hI.pu) | exact (hI.c0 rfl)))) ?_ | refine WT_skip 13 rfl rfl (by kernel_rfl) (hXS _ hI) rfl ?_
  first | refine WT_take 14 rfl rfl (by kernel_rfl) (hXS _ hI) rfl (fun W hW => have hI := hSx W hW; (by first | exact rMoveS rfl rfl | exact rMove rfl)) ?_ | refine WT_skip 14 rfl rfl (by kernel_rfl) (hXS _ hI) rfl ?_
  first | refine WT_take 15 rfl rfl (by kernel_rfl) (hXS _ hI) rfl (fun W hW => have hI := hSx W hW; (rIdx (sz := 8) (i := 0) rfl Tryd.underlying22 (by kernel_rfl) rfl rfl (by omega))) ?_ | refine WT_skip 15 rfl rfl (by kernel_rfl) (hXS _ hI) rfl ?_
  first | refine WT_take 16 rfl rfl (by kernel_rfl) (hXS _ hI) rfl (fun W hW => have hI := hSx W hW; (by first | exact rFldN (off := 1) rfl (by kernel_rfl) rfl | exact rFld (off := 1) rfl (by kernel_rfl) rfl)) ?_ | refine WT_skip 16 rfl rfl (by kernel_rfl) (hXS _ hI) rfl ?_
  first | refine WT_take 17 rfl rfl (by kernel_rfl) (hXS _ hI) rfl (fun W hW => have hI := hSx W hW; (by first | exact rLd (v := .int .i64 _) rfl (by kernel_rfl) rfl (by first | exact hI.c0 rfl | exact hI.c1 rfl | exact hI.c2 rfl | exact hI.c3 rfl | exact hI.c4 rfl | exact hI.c5 rfl | exact (hz1 _ hI.pu) | exact (hI.c0 rfl)) | exact rLd rfl (by kernel_rfl) rfl (by first | exact hI.c0 rfl | exact hI.c1 rfl | exact hI.c2 rfl | exact hI.c3 rfl | exact hI.c4 rfl | exact hI.c5 rfl | exact (hz1 _ hI.pu) | exact (hI.c0 rfl)))) ?_ | refine WT_skip 17 rfl rfl (by kernel_rfl) (hXS _ hI) rfl ?_
  first | refine WT_take 18 rfl rfl (by kernel_rfl) (hXS _ hI) rfl (fun W hW => have hI := hSx W hW; (by first | exact rNeqT rfl rfl rfl (by omega) | exact rNeqF rfl rfl rfl (by omega) | exact rNeq rfl rfl rfl)) ?_ | refine WT_skip 18 rfl rfl (by kernel_rfl) (hXS _ hI) rfl ?_
  refine WT_take 19 rfl rfl (by kernel_rfl) (hXS _ hI) rfl (fun W hW => have hI := hSx W hW; (by first | exact rPickTB rfl rfl rfl | exact rPickFB rfl rfl rfl | exact rPickB rfl rfl rfl rfl)) ?_
  refine WT_take 20 rfl rfl (by kernel_rfl) (hXS _ hI) rfl (fun W hW => have hI := hSx W hW; (by first | exact rMoveB rfl rfl | exact rMove rfl)) ?_
  first | refine WT_take 21 rfl rfl (by kernel_rfl) (hXS _ hI) rfl (fun W hW => have hI := hSx W hW; (by first | exact rMoveB rfl rfl | exact rMove rfl)) ?_ | refine WT_skip 21 rfl rfl (by kernel_rfl) (hXS _ hI) rfl ?_
  first | refine WT_take 22 rfl rfl (by kernel_rfl) (hXS _ hI) rfl (fun W hW => have hI := hSx W hW; (by first | exact rMoveB rfl rfl | exact rMove rfl)) ?_ | refine WT_skip 22 rfl rfl (by kernel_rfl) (hXS _ hI) rfl ?_
  refine WT_skip 23 rfl rfl (by kernel_rfl) (hXS _ hI) rfl ?_
  refine WT_skip 24 rfl rfl (by kernel_rfl) (hXS _ hI) rfl ?_
  refine WT_skip 25 rfl rfl (by kernel_rfl) (hXS _ hI) rfl ?_
  refine WT_skip 26 rfl rfl (by kernel_rfl) (hXS _ hI) rfl ?_
  refine WT_skip 27 rfl rfl (by kernel_rfl) (hXS _ hI) rfl ?_
  refine WT_skip 28 rfl rfl (by kernel_rfl) (hXS _ hI) rfl ?_
  refine WT_skip 29 rfl rfl (by kernel_rfl) (hXS _ hI) rfl ?_
  refine WT_skip 30 rfl rfl (by kernel_rfl) (hXS _ hI) rfl ?_
  first | refine WT_take 31 rfl rfl (by kernel_rfl) (hXS _ hI) rfl (fun W hW => have hI := hSx W hW; (by first | exact rPickTB rfl rfl rfl | exact rPickFB rfl rfl rfl | exact rPickB rfl rfl rfl rfl)) ?_ | refine WT_skip 31 rfl rfl (by kernel_rfl) (hXS _ hI) rfl ?_
  refine WT_take 32 rfl rfl (by kernel_rfl) (hXS _ hI) rfl (fun W hW => have hI := hSx W hW; (by first | exact rPickTB rfl rfl rfl | exact rPickFB rfl rfl rfl | exact rPickB rfl rfl rfl rfl)) ?_
  refine WT_take 33 rfl rfl (by kernel_rfl) (hXS _ hI) rfl (fun W hW => have hI := hSx W hW; (by first | exact rMoveB rfl rfl | exact rMove rfl)) ?_
  first | refine WT_take 34 rfl rfl (by kernel_rfl) (hXS _ hI) rfl (fun W hW => have hI := hSx W hW; (by first | exact rMoveB rfl rfl | exact rMove rfl)) ?_ | refine WT_skip 34 rfl rfl (by kernel_rfl) (hXS _ hI) rfl ?_
  first | refine WT_take 35 rfl rfl (by kernel_rfl) (hXS _ hI) rfl (fun W hW => have hI := hSx W hW; (by first | exact rMoveB rfl rfl | exact rMove rfl)) ?_ | refine WT_skip 35 rfl rfl (by kernel_rfl) (hXS _ hI) rfl ?_
  first | refine WT_take 36 rfl rfl (by kernel_rfl) (hXS _ hI) rfl (fun W hW => have hI := hSx W hW; (by first | exact rFldN (off := 5) rfl (by kernel_rfl) rfl | exact rFld (off := 5) rfl (by kernel_rfl) rfl)) ?_ | refine WT_skip 36 rfl rfl (by kernel_rfl) (hXS _ hI) rfl ?_
  first | refine WT_take 37 rfl rfl (by kernel_rfl) (hXS _ hI) rfl (fun W hW => have hI := hSx W hW; (by first | exact rLd (v := .int .i64 _) rfl (by kernel_rfl) rfl (by first | exact hI.c0 rfl | exact hI.c1 rfl | exact hI.c2 rfl | exact hI.c3 rfl | exact hI.c4 rfl | exact hI.c5 rfl | exact (hz1 _ hI.pu) | exact (hI.c0 rfl)) | exact rLd rfl (by kernel_rfl) rfl (by first | exact hI.c0 rfl | exact hI.c1 rfl | exact hI.c2 rfl | exact hI.c3 rfl | exact hI.c4 rfl | exact hI.c5 rfl | exact (hz1 _ hI.pu) | exact (hI.c0 rfl)))) ?_ | refine WT_skip 37 rfl rfl (by kernel_rfl) (hXS _ hI) rfl ?_
  first | refine WT_take 38 rfl rfl (by kernel_rfl) (hXS _ hI) rfl (fun W hW => have hI := hSx W hW; (by first | exact rEqlT rfl rfl rfl (by omega) | exact rEqlF rfl rfl rfl (by omega) | exact rEql rfl rfl rfl)) ?_ | refine WT_skip 38 rfl rfl (by kernel_rfl) (hXS _ hI) rfl ?_
  first | refine WT_take 39 rfl rfl (by kernel_rfl) (hXS _ hI) rfl (fun W hW => have hI := hSx W hW; (by first | exact rPickTB rfl rfl rfl | exact rPickFB rfl rfl rfl | exact rPickB rfl rfl rfl rfl)) ?_ | refine WT_skip 39 rfl rfl (by kernel_rfl) (hXS _ hI) rfl ?_
  refine WT_take 40 rfl rfl (by kernel_rfl) (hXS _ hI) rfl (fun W hW => have hI := hSx W hW; (by first | exact rPickTB rfl rfl rfl | exact rPickFB rfl rfl rfl | exact rPickB rfl rfl rfl rfl)) ?_
  refine WT_end (by kernel_rfl) ?_
  refine W_cond false rfl ?_
  refine W_skip ?_
  refine W_seq_cut (fun ρ w => Has ρ [(19, .int .i64 (k : Int)), (18, .int .i64 (l.length : Int)), (17, .slice (some ⟨bA, oA, none⟩) l.length c), (4, .map (some b16)), (0, .slice (some ⟨bA, oA, none⟩) l.length c), (7, .bool false)] ∧ Inv (fun _ => False) w0 w [B b6 41 #[.int .i64 p0, .int .i64 p1, .int .i64 p2, .int .i64 p3, .int .i64 p4, .int .i64 p5, .int .i64 p6, .int .i64 p7], MapKE okI kI b16 (mpF (pushB l) k)]) ?_ ?_
  · cases hwm : fdN (pushB l p3) k with
    | some j =>
      have hv : mpF (pushB l) k p3 = some (.int .i64 (j : Int)) := by unfold mpF; rw [hwm]; rfl
      refine W_seq ?_
      refine W_region ?_
      refine WL_val rfl rfl rfl (by first | exact rMoveM rfl rfl | exact rMove rfl) ?_
      refine WL_val rfl rfl rfl (by first | exact rFldN (off := 3) rfl (by kernel_rfl) rfl | exact rFld (off := 3) rfl (by kernel_rfl) rfl) ?_
      refine WL_val rfl rfl rfl (by first | exact rLd (v := .int .i64 _) rfl (by kernel_rfl) rfl (by first | exact hI.c0 rfl | exact hI.c1 rfl | exact hI.c2 rfl | exact hI.c3 rfl | exact hI.c4 rfl | exact hI.c5 rfl) | exact rLd rfl (by kernel_rfl) rfl (by first | exact hI.c0 rfl | exact hI.c1 rfl | exact hI.c2 rfl | exact hI.c3 rfl | exact hI.c4 rfl | exact hI.c5 rfl)) ?_
      refine WL_val rfl rfl rfl (rLookKY (a := p3) keyI hv rfl Tryd.underlying39 rfl rfl trivial hI.g1) ?_
      refine WL_val rfl rfl rfl (by first | exact rMoveT rfl rfl | exact rMove rfl) ?_
      refine WL_val rfl rfl rfl (rExtr rfl rfl rfl) ?_
      refine WL_val rfl rfl rfl (rExtr rfl rfl rfl) ?_
      refine WL_val rfl rfl rfl (by first | exact rAsgnI rfl rfl | exact rAsgn rfl) ?_
      refine WL_val rfl rfl rfl (by first | exact rAsgnB rfl rfl | exact rAsgn rfl) ?_
      refine WL_nil ?_
      refine W_seq ?_
      refine W_region ?_
      refine WL_val rfl rfl rfl (by first | exact rMoveB rfl rfl | exact rMove rfl) ?_
      refine WL_val rfl rfl rfl (by first | exact rMoveB rfl rfl | exact rMove rfl) ?_
      first | refine WL_val rfl rfl rfl (by first | exact rMoveB rfl rfl | exact rMove rfl) ?_ | refine WL_skip rfl rfl rfl ?_
      refine WL_val rfl rfl rfl (by first | exact rPickTB rfl rfl rfl | exact rPickFB rfl rfl rfl | exact rPickB rfl rfl rfl rfl) ?_
      refine WL_nil ?_
      refine W_cond false rfl ?_
      refine W_skip ?_
      exact ⟨⟨rfl, rfl, rfl, rfl, rfl, rfl, trivial⟩, hI⟩
    | none =>
      have hv : mpF (pushB l) k p3 = none := by unfold mpF; rw [hwm]; rfl
      refine W_seq ?_
      refine W_region ?_
      refine WL_val rfl rfl rfl (by first | exact rMoveM rfl rfl | exact rMove rfl) ?_
      refine WL_val rfl rfl rfl (by first | exact rFldN (off := 3) rfl (by kernel_rfl) rfl | exact rFld (off := 3) rfl (by kernel_rfl) rfl) ?_
      refine WL_val rfl rfl rfl (by first | exact rLd (v := .int .i64 _) rfl (by kernel_rfl) rfl (by first | exact hI.c0 rfl | exact hI.c1 rfl | exact hI.c2 rfl | exact hI.c3 rfl | exact hI.c4 rfl | exact hI.c5 rfl) | exact rLd rfl (by kernel_rfl) rfl (by first | exact hI.c0 rfl | exact hI.c1 rfl | exact hI.c2 rfl | exact hI.c3 rfl | exact hI.c4 rfl | exact hI.c5 rfl)) ?_
      refine WL_val rfl rfl rfl (rLookKN (a := p3) (zv := .int .i64 0) keyI hv rfl Tryd.underlying39 (by kernel_rfl) rfl rfl trivial hI.g1) ?_
      refine WL_val rfl rfl rfl (by first | exact rMoveT rfl rfl | exact rMove rfl) ?_
      refine WL_val rfl rfl rfl (rExtr rfl rfl rfl) ?_
      refine WL_val rfl rfl rfl (rExtr rfl rfl rfl) ?_
      refine WL_val rfl rfl rfl (by first | exact rAsgnI rfl rfl | exact rAsgn rfl) ?_
      refine WL_val rfl rfl rfl (by first | exact rAsgnB rfl rfl | exact rAsgn rfl) ?_
      refine WL_nil ?_
      refine W_seq ?_
      refine W_region ?_
      refine WL_val rfl rfl rfl (by first | exact rMoveB rfl rfl | exact rMove rfl) ?_
      refine WL_val rfl rfl rfl (by first | exact rMoveB rfl rfl | exact rMove rfl) ?_
      first | refine WL_val rfl rfl rfl (by first | exact rMoveB rfl rfl | exact rMove rfl) ?_ | refine WL_skip rfl rfl rfl ?_
      refine WL_val rfl rfl rfl (by first | exact rPickTB rfl rfl rfl | exact rPickFB rfl rfl rfl | exact rPickB rfl rfl rfl rfl) ?_
      refine WL_nil ?_
      refine W_cond false rfl ?_
      refine W_skip ?_
      exact ⟨⟨rfl, rfl, rfl, rfl, rfl, rfl, trivial⟩, hI⟩
  clear hI
  rintro ρ w ⟨hH, hI⟩
  obtain ⟨σ, rfl⟩ := hH.open
  refine W_seq ?_
  refine W_region ?_
  refine WL_val rfl rfl rfl (by first | exact rMoveB rfl rfl | exact rMove rfl) ?_
  refine WL_nil ?_
  refine W_cond false rfl ?_
  refine W_skip ?_
  rw [← hsame (fun v hv => by rw [hpb] at hv; simp [k9] at hv)] at hI
  replace hI := hI.d0
  refine W_region ?_
  refine WL_val rfl rfl rfl (by first | exact rInc rfl rfl rfl (by omega) | exact rAdd rfl rfl rfl (by omega) | exact rAddW rfl rfl rfl) ?_
  refine WL_val rfl rfl rfl (by first | exact rMoveI rfl rfl | exact rMove rfl) ?_
  refine WL_nil ?_
  exact ⟨l.length - (k + 1), by omega, k + 1, rfl, by omega, hsucc hg (fun h2 => absurd h2 k9), ⟨rfl, rfl, rfl, rfl, rfl, trivial⟩, hI⟩
end Go.Proofs.YtijgkocolajghaaDoor

/-! Que2: queue: pairs; the closures of Finds. -/
namespace Go.Proofs.YtijgkocolajghaaDoor
open Go.RowKit
set_option linter.unusedVariables false
set_option linter.unusedSimpArgs false
/-- What a function tells of pairs. -/
structure PairC (f : Nat) (cap : List Value) (n : Nat) (p : Nat → Nat → Bool) (w0 : World) : Prop where
  fn : ∃ fn, Tryd.prog.funcs[f]? = some fn ∧ (fn.name == "runtime.NumGoroutine") = false ∧ fn.body.isNone = false
  call : ∀ i k w, i < n → k < n → Pure w0 w → Calls Tryd.prog f (Value.int .i64 (i : Int) :: Value.int .i64 (k : Int) :: cap).toArray w fun en w' => en = .returned (.bool (p i k)) ∧ Pure w w'
set_option maxHeartbeats 2000000 in
theorem pairs_any (f : Nat) (cap : List Value) (n : Nat) (hn : n ≤ 1000) (p : Nat → Nat → Bool) (w0 : World) (h : PairC f cap n p w0) :
    Calls Tryd.prog 17 #[.int .i64 (n : Int), .func (.func f) #[] cap.toArray] w0 fun en w' => ∃ (a b : Int) (fnd : Bool), en = .returned (.tuple #[.int .i64 a, .int .i64 b, .bool fnd]) ∧ (fnd = true ↔ ∃ i k, i < n ∧ k < n ∧ p i k = true) ∧ Pure w0 w' := by
  obtain ⟨⟨fn, f1, f2, f3⟩, hcall⟩ := h
  have hI := Inv.start (fun _ => False) w0
  refine calls_of_W (N := Tryd.f17.ntmps) Tryd.func17 rfl rfl rfl ?_
  refine W_seq ?_
  refine W_region ?_
  refine WL_val rfl rfl rfl (by first | exact rAsgnI rfl rfl | exact rAsgn rfl) ?_
  refine WL_val rfl rfl rfl (by first | exact rAsgnI rfl rfl | exact rAsgn rfl) ?_
  refine WL_val rfl rfl rfl (by first | exact rAsgnB rfl rfl | exact rAsgn rfl) ?_
  refine WL_nil ?_
  refine W_seq ?_
  refine W_seq ?_
  refine W_region ?_
  refine WL_val rfl rfl rfl (by first | exact rMoveI rfl rfl | exact rMove rfl) ?_
  refine WL_val rfl rfl rfl (by first | exact rMoveI rfl rfl | exact rMove rfl) ?_
  refine WL_nil ?_
  refine W_block ?_
  refine W_loopN (fun mu ρ w => ∃ i : Nat, mu = n - i ∧ i ≤ n ∧ (∀ j, j < i → ∀ k, k < n → p j k = false) ∧ Has ρ [(10, .int .i64 (i : Int)), (9, .int .i64 (n : Int)), (0, .int .i64 (n : Int)), (1, .func (.func f) #[] cap.toArray)] ∧ Inv (fun _ => False) w0 w []) n
    ⟨0, rfl, by omega, fun j hj => by omega, ⟨rfl, rfl, rfl, rfl, trivial⟩, hI⟩ ?_
  clear hI
  rintro mu ρ w ⟨i, rfl, hi, hno, hH, hI⟩
  obtain ⟨σ, rfl⟩ := hH.open
  by_cases hil : i < n
  rotate_left
  · obtain rfl : i = n := by omega
    refine W_seq ?_
    refine W_region ?_
    refine WL_val rfl rfl rfl (by first | exact rLssT rfl rfl rfl (by omega) | exact rLssF rfl rfl rfl (by omega) | exact rLss rfl rfl rfl) ?_
    refine WL_nil ?_
    refine W_seq ?_
    refine W_cond false rfl ?_
    refine W_exit ?_
    refine W_seq ?_
    refine W_region ?_
    refine WL_val rfl rfl rfl (by first | exact rAsgnI rfl rfl | exact rAsgn rfl) ?_
    refine WL_val rfl rfl rfl (by first | exact rAsgnI rfl rfl | exact rAsgn rfl) ?_
    refine WL_val rfl rfl rfl (by first | exact rAsgnB rfl rfl | exact rAsgn rfl) ?_
    refine WL_nil ?_
    refine W_ret ?_
    refine ret3 4 5 6 (.inr rfl) rfl ⟨_, _, false, rfl, ?_, hI.pu⟩
    simp only [Bool.false_eq_true, false_iff]
    rintro ⟨j, k, hj, hk, hp⟩
    rw [hno j hj k hk] at hp; cases hp
  refine W_seq ?_
  refine W_region ?_
  refine WL_val rfl rfl rfl (by first | exact rLssT rfl rfl rfl (by omega) | exact rLssF rfl rfl rfl (by omega) | exact rLss rfl rfl rfl) ?_
  refine WL_nil ?_
  refine W_seq ?_
  refine W_cond true rfl ?_
  refine W_skip ?_
  refine W_seq ?_
  refine W_block ?_
  refine W_seq ?_
  refine W_region ?_
  refine WL_val rfl rfl rfl (by first | exact rMoveI rfl rfl | exact rMove rfl) ?_
  refine WL_val rfl rfl rfl (by first | exact rAsgnI rfl rfl | exact rAsgn rfl) ?_
  refine WL_nil ?_
  refine W_seq ?_
  refine W_region ?_
  refine WL_val rfl rfl rfl (by first | exact rMoveI rfl rfl | exact rMove rfl) ?_
  refine WL_val rfl rfl rfl (by first | exact rMoveI rfl rfl | exact rMove rfl) ?_
  refine WL_nil ?_
  refine W_block ?_
  refine W_loopN (fun mu ρ w => ∃ k : Nat, mu = n - k ∧ k ≤ n ∧ (∀ j, j < k → p i j = false) ∧ Has ρ [(14, .int .i64 (k : Int)), (13, .int .i64 (n : Int)), (7, .int .i64 (i : Int)), (10, .int .i64 (i : Int)), (9, .int .i64 (n : Int)), (0, .int .i64 (n : Int)), (1, .func (.func f) #[] cap.toArray)] ∧ Inv (fun _ => False) w0 w []) n
    ⟨0, rfl, by omega, fun j hj => by omega, ⟨rfl, rfl, rfl, rfl, rfl, rfl, rfl, trivial⟩, hI⟩ ?_
  clear hI
  rintro mu ρ w ⟨k, rfl, hk, hno2, hH, hI⟩
  obtain ⟨σ, rfl⟩ := hH.open
  by_cases hkl : k < n
  rotate_left
  · obtain rfl : k = n := by omega
    refine W_seq ?_
    refine W_region ?_
    refine WL_val rfl rfl rfl (by first | exact rLssT rfl rfl rfl (by omega) | exact rLssF rfl rfl rfl (by omega) | exact rLss rfl rfl rfl) ?_
    refine WL_nil ?_
    refine W_seq ?_
    refine W_cond false rfl ?_
    refine W_exit ?_
    refine W_region ?_
    refine WL_val rfl rfl rfl (by first | exact rInc rfl rfl rfl (by omega) | exact rAdd rfl rfl rfl (by omega) | exact rAddW rfl rfl rfl) ?_
    refine WL_val rfl rfl rfl (by first | exact rMoveI rfl rfl | exact rMove rfl) ?_
    refine WL_nil ?_
    refine ⟨k - (i + 1), by omega, i + 1, rfl, by omega, fun j hj => ?_, ⟨rfl, rfl, rfl, rfl, trivial⟩, hI⟩
    rcases Nat.lt_or_ge j i with h1 | h1
    · exact hno j h1
    · obtain rfl : j = i := by omega
      exact hno2
  refine W_seq ?_
  refine W_region ?_
  refine WL_val rfl rfl rfl (by first | exact rLssT rfl rfl rfl (by omega) | exact rLssF rfl rfl rfl (by omega) | exact rLss rfl rfl rfl) ?_
  refine WL_nil ?_
  refine W_seq ?_
  refine W_cond true rfl ?_
  refine W_skip ?_
  refine W_seq ?_
  refine W_block ?_
  refine W_seq ?_
  refine W_region ?_
  refine WL_val rfl rfl rfl (by first | exact rMoveI rfl rfl | exact rMove rfl) ?_
  refine WL_val rfl rfl rfl (by first | exact rAsgnI rfl rfl | exact rAsgn rfl) ?_
  refine WL_nil ?_
  cases hp : p i k with
  | true =>
    refine W_seq ?_
    refine W_region ?_
    refine WL_val rfl rfl rfl (by first | exact rMoveF rfl rfl | exact rMove rfl) ?_
    refine WL_val rfl rfl rfl (by first | exact rMoveI rfl rfl | exact rMove rfl) ?_
    refine WL_val rfl rfl rfl (by first | exact rMoveI rfl rfl | exact rMove rfl) ?_
    refine WL_call rfl rfl rfl (rCallF (f := f) (first := []) (cap := cap) (vs := .int .i64 _ :: .int .i64 _ :: cap) rfl rfl f1 f2 f3 rfl) ?_
    refine (hcall i k _ hil hkl hI.pu).mono ?_
    rw [hp]
    rintro e w1 ⟨rfl, hp⟩
    refine ⟨_, rfl, ?_⟩
    replace hI := hI.pure hp
    refine WL_nil ?_
    refine W_cond true rfl ?_
    refine W_seq ?_
    refine W_region ?_
    refine WL_val rfl rfl rfl (by first | exact rMoveI rfl rfl | exact rMove rfl) ?_
    refine WL_val rfl rfl rfl (by first | exact rMoveI rfl rfl | exact rMove rfl) ?_
    refine WL_val rfl rfl rfl (by first | exact rAsgnI rfl rfl | exact rAsgn rfl) ?_
    refine WL_val rfl rfl rfl (by first | exact rAsgnI rfl rfl | exact rAsgn rfl) ?_
    refine WL_val rfl rfl rfl (by first | exact rAsgnB rfl rfl | exact rAsgn rfl) ?_
    refine WL_nil ?_
    refine W_ret ?_
    exact ret3 4 5 6 (.inr rfl) rfl ⟨_, _, true, rfl, ⟨fun _ => ⟨i, k, hil, hkl, by assumption⟩, fun _ => rfl⟩, hI.pu⟩
  | false =>
    refine W_seq ?_
    refine W_region ?_
    refine WL_val rfl rfl rfl (by first | exact rMoveF rfl rfl | exact rMove rfl) ?_
    refine WL_val rfl rfl rfl (by first | exact rMoveI rfl rfl | exact rMove rfl) ?_
    refine WL_val rfl rfl rfl (by first | exact rMoveI rfl rfl | exact rMove rfl) ?_
    refine WL_call rfl rfl rfl (rCallF (f := f) (first := []) (cap := cap) (vs := .int .i64 _ :: .int .i64 _ :: cap) rfl rfl f1 f2 f3 rfl) ?_
    refine (hcall i k _ hil hkl hI.pu).mono ?_
    rw [hp]
    rintro e w1 ⟨rfl, hp⟩
    refine ⟨_, rfl, ?_⟩
    replace hI := hI.pure hp
    refine WL_nil ?_
    refine W_cond false rfl ?_
    refine W_skip ?_
    refine W_region ?_
    refine WL_val rfl rfl rfl (by first | exact rInc rfl rfl rfl (by omega) | exact rAdd rfl rfl rfl (by omega) | exact rAddW rfl rfl rfl) ?_
    refine WL_val rfl rfl rfl (by first | exact rMoveI rfl rfl | exact rMove rfl) ?_
    refine WL_nil ?_
    refine ⟨n - (k + 1), by omega, k + 1, rfl, by omega, fun j hj => ?_, ⟨rfl, rfl, rfl, rfl, rfl, rfl, rfl, trivial⟩, hI⟩
    rcases Nat.lt_or_ge j k with h1 | h1
    · exact hno2 j h1
    · obtain rfl : j = k := by omega
      assumption
/-! ### The closures -/
def pshB (l : List Op8) (i : Nat) : Bool := decide ((oAt l i).kind = 9)
def twiceB (l : List Op8) (i k : Nat) : Bool := decide (i < k) && !pshB l i && !pshB l k && decide ((oAt l i).res = (oAt l k).res)
def earlyB (l : List Op8) (i k : Nat) : Bool := pshB l i && !pshB l k && decide ((oAt l i).a = (oAt l k).res) && befB (oAt l k) (oAt l i)
def crossB (l : List Op8) (i k : Nat) : Bool := pshB l i && pshB l k && befB (oAt l i) (oAt l k) && (match fdN (popB l (oAt l k).a) l.length with
  | none => false
  | some s => match fdN (popB l (oAt l i).a) l.length with
    | none => true
    | some f => befB (oAt l s) (oAt l f))
structure QB (l : List Op8) (A : Option Addr) (c b1 b18 : Nat) (w : World) : Prop where
  ops : OpsR w (fun _ => True) (.slice A l.length c) l
  box : w.cell? ⟨b1, 0, none⟩ = some (.slice A l.length c)
  psh : w.cell? ⟨b18, 0, none⟩ = some (.func (.func 11) #[] #[.pointer (some ⟨b1, 0, none⟩)])
section
variable {l : List Op8} {A : Option Addr} {c b1 b18 : Nat} {w w' : World}
theorem cellP {p : Addr} {u : Value} (hp : Pure w w') (h : w.cell? p = some u) : w'.cell? p = some u := (Inv.start (fun _ => False) w |>.pure hp).oldp h
theorem QB.pure (h : QB l A c b1 b18 w) (hp : Pure w w') : QB l A c b1 b18 w' := ⟨h.ops.pure hp, cellP hp h.box, cellP hp h.psh⟩
theorem push_any (w0 : World) (h : OpsR w0 (fun _ => True) (.slice A l.length c) l) (hb : w0.cell? ⟨b1, 0, none⟩ = some (.slice A l.length c)) (i : Nat) (hi : i < l.length) :
    Calls Tryd.prog 11 #[.int .i64 (i : Int), .pointer (some ⟨b1, 0, none⟩)] w0 fun en w' => en = .returned (.bool (pshB l i)) ∧ Pure w0 w' := by
  have hI := Inv.start (fun _ => False) w0
  obtain ⟨_, hc1, hc2⟩ := h.len
  obtain ⟨bA, oA, rfl, hoi⟩ := h.at hi
  have e : pshB l i = decide ((oAt l i).kind = 9) := rfl
  generalize oAt l i = p at hoi e
  obtain ⟨p0, p1, p2, p3, p4, p5, p6, p7⟩ := p
  rw [e]
  refine calls_of_W (N := Tryd.f11.ntmps) Tryd.func11 rfl rfl rfl ?_
  refine W_seq ?_
  refine W_region ?_
  refine WL_val rfl rfl rfl (by first | exact rAsgnB rfl rfl | exact rAsgn rfl) ?_
  refine WL_nil ?_
  refine W_seq ?_
  refine W_region ?_
  refine WL_val rfl rfl rfl (by first | exact rLd (v := .slice _ _ _) rfl (by kernel_rfl) rfl (by first | exact hI.oldp hb | exact hb | exact (hI.oldp (hoi 2 _ rfl))) | exact rLd rfl (by kernel_rfl) rfl (by first | exact hI.oldp hb | exact hb | exact (hI.oldp (hoi 2 _ rfl)))) ?_
  refine WL_val rfl rfl rfl (by first | exact rMoveI rfl rfl | exact rMove rfl) ?_
  refine WL_val rfl rfl rfl (rIdx (sz := 8) rfl Tryd.underlying22 (by kernel_rfl) rfl rfl (by omega)) ?_
  refine WL_val rfl rfl rfl (by first | exact rFldN (off := 2) rfl (by kernel_rfl) rfl | exact rFld (off := 2) rfl (by kernel_rfl) rfl) ?_
  refine WL_val rfl rfl rfl (by first | exact rLd (v := .int .i64 _) rfl (by kernel_rfl) rfl (by first | exact hI.oldp hb | exact hb | exact (hI.oldp (hoi 2 _ rfl))) | exact rLd rfl (by kernel_rfl) rfl (by first | exact hI.oldp hb | exact hb | exact (hI.oldp (hoi 2 _ rfl)))) ?_
  refine WL_val rfl rfl rfl (by first | exact rEqlT rfl rfl rfl (by omega) | exact rEqlF rfl rfl rfl (by omega) | exact rEql rfl rfl rfl) ?_
  refine WL_val rfl rfl rfl (by first | exact rAsgnB rfl rfl | exact rAsgn rfl) ?_
  refine WL_nil ?_
  refine W_ret ?_
  exact ret1 3 (.inr rfl) rfl ⟨rfl, hI.pu⟩
theorem qthin_any (b13 : Nat) (thin : Int) (w0 : World) (hb : w0.cell? ⟨b13, 0, none⟩ = some (.int .i64 thin)) (i k : Nat) :
    Calls Tryd.prog 12 #[.int .i64 (i : Int), .int .i64 (k : Int), .pointer (some ⟨b13, 0, none⟩)] w0 fun en w' => en = .returned (.bool (decide ((i : Int) = thin) && decide ((k : Int) = thin))) ∧ Pure w0 w' := by
  have hI := Inv.start (fun _ => False) w0
  by_cases h1 : (i : Int) = thin
  · rw [decide_eq_true h1, Bool.true_and]
    refine calls_of_W (N := Tryd.f12.ntmps) Tryd.func12 rfl rfl rfl ?_
    refine W_seq ?_
    refine W_region ?_
    refine WL_val rfl rfl rfl (by first | exact rAsgnB rfl rfl | exact rAsgn rfl) ?_
    refine WL_nil ?_
    refine W_seq ?_
    refine W_region ?_
    refine WL_val rfl rfl rfl (by first | exact rMoveI rfl rfl | exact rMove rfl) ?_
    refine WL_val rfl rfl rfl (by first | exact rLd (v := .int .i64 _) rfl (by kernel_rfl) rfl (by first | exact hI.oldp hb | exact hb) | exact rLd rfl (by kernel_rfl) rfl (by first | exact hI.oldp hb | exact hb)) ?_
    refine WL_val rfl rfl rfl (by first | exact rEqlT rfl rfl rfl (by omega) | exact rEqlF rfl rfl rfl (by omega) | exact rEql rfl rfl rfl) ?_
    refine WL_val rfl rfl rfl (by first | exact rMoveB rfl rfl | exact rMove rfl) ?_
    first | refine WL_val rfl rfl rfl (by first | exact rMoveI rfl rfl | exact rMove rfl) ?_ | refine WL_skip rfl rfl rfl ?_
    first | refine WL_val rfl rfl rfl (by first | exact rLd (v := .int .i64 _) rfl (by kernel_rfl) rfl (by first | exact hI.oldp hb | exact hb) | exact rLd rfl (by kernel_rfl) rfl (by first | exact hI.oldp hb | exact hb)) ?_ | refine WL_skip rfl rfl rfl ?_
    first | refine WL_val rfl rfl rfl (by first | exact rEqlT rfl rfl rfl (by omega) | exact rEqlF rfl rfl rfl (by omega) | exact rEql rfl rfl rfl) ?_ | refine WL_skip rfl rfl rfl ?_
    refine WL_val rfl rfl rfl (by first | exact rPickTB rfl rfl rfl | exact rPickFB rfl rfl rfl | exact rPickB rfl rfl rfl rfl) ?_
    refine WL_val rfl rfl rfl (by first | exact rAsgnB rfl rfl | exact rAsgn rfl) ?_
    refine WL_nil ?_
    refine W_ret ?_
    exact ret1 5 (.inr rfl) rfl ⟨rfl, hI.pu⟩
  · rw [decide_eq_false h1, Bool.false_and]
    refine calls_of_W (N := Tryd.f12.ntmps) Tryd.func12 rfl rfl rfl ?_
    refine W_seq ?_
    refine W_region ?_
    refine WL_val rfl rfl rfl (by first | exact rAsgnB rfl rfl | exact rAsgn rfl) ?_
    refine WL_nil ?_
    refine W_seq ?_
    refine W_region ?_
    refine WL_val rfl rfl rfl (by first | exact rMoveI rfl rfl | exact rMove rfl) ?_
    refine WL_val rfl rfl rfl (by first | exact rLd (v := .int .i64 _) rfl (by kernel_rfl) rfl (by first | exact hI.oldp hb | exact hb) | exact rLd rfl (by kernel_rfl) rfl (by first | exact hI.oldp hb | exact hb)) ?_
    refine WL_val rfl rfl rfl (by first | exact rEqlT rfl rfl rfl (by omega) | exact rEqlF rfl rfl rfl (by omega) | exact rEql rfl rfl rfl) ?_
    refine WL_val rfl rfl rfl (by first | exact rMoveB rfl rfl | exact rMove rfl) ?_
    refine WL_skip rfl rfl rfl ?_
    refine WL_skip rfl rfl rfl ?_
    refine WL_skip rfl rfl rfl ?_
    refine WL_val rfl rfl rfl (by first | exact rPickTB rfl rfl rfl | exact rPickFB rfl rfl rfl | exact rPickB rfl rfl rfl rfl) ?_
    refine WL_val rfl rfl rfl (by first | exact rAsgnB rfl rfl | exact rAsgn rfl) ?_
    refine WL_nil ?_
    refine W_ret ?_
    exact ret1 5 (.inr rfl) rfl ⟨rfl, hI.pu⟩
theorem twice_any (w0 : World) (h : QB l A c b1 b18 w0) (i k : Nat) (hi : i < l.length) (hk : k < l.length) :
    Calls Tryd.prog 13 #[.int .i64 (i : Int), .int .i64 (k : Int), .pointer (some ⟨b18, 0, none⟩), .pointer (some ⟨b1, 0, none⟩)] w0 fun en w' => en = .returned (.bool (twiceB l i k)) ∧ Pure w0 w' := by
  have hI := Inv.start (fun _ => False) w0
  obtain ⟨_, hc1, hc2⟩ := h.ops.len
  have hbx := h.box
  have hps := h.psh
  obtain ⟨bA, oA, rfl, hoi⟩ := h.ops.at hi
  obtain ⟨bA', oA', hae, hok⟩ := h.ops.at hk
  injection hae with hae
  injection hae with e1 e2
  subst e1 e2
  have hoi5 := hoi 5 _ rfl
  have hok5 := hok 5 _ rfl
  unfold twiceB
  by_cases hik : i < k
  rotate_left
  · rw [decide_eq_false hik, Bool.false_and, Bool.false_and, Bool.false_and]
    refine calls_of_W (N := Tryd.f13.ntmps) Tryd.func13 rfl rfl rfl ?_
    refine W_seq ?_
    refine W_region ?_
    refine WL_val rfl rfl rfl (by first | exact rAsgnB rfl rfl | exact rAsgn rfl) ?_
    refine WL_nil ?_
    refine W_seq ?_
    refine W_draw (by kernel_rfl) ?_
    refine WA_inv (T := []) hI.drew ?_
    intro Sx hSx hXS
    replace hI := hI.drew
    refine WT_take 0 rfl rfl (by kernel_rfl) (hXS _ hI) rfl (fun W hW => have hI := hSx W hW; (by first | exact rMoveI rfl rfl | exact rMove rfl)) ?_
    refine WT_take 1 rfl rfl (by kernel_rfl) (hXS _ hI) rfl (fun W hW => have hI := hSx W hW; (by first | exact rMoveI rfl rfl | exact rMove rfl)) ?_
    refine WT_take 2 rfl rfl (by kernel_rfl) (hXS _ hI) rfl (fun W hW => have hI := hSx W hW; (by first | exact rLssT rfl rfl rfl (by omega) | exact rLssF rfl rfl rfl (by omega) | exact rLss rfl rfl rfl)) ?_
    refine WT_take 3 rfl rfl (by kernel_rfl) (hXS _ hI) rfl (fun W hW => have hI := hSx W hW; (by first | exact rMoveB rfl rfl | exact rMove rfl)) ?_
    refine WT_skip 4 rfl rfl (by kernel_rfl) (hXS _ hI) rfl ?_
    refine WT_skip 5 rfl rfl (by kernel_rfl) (hXS _ hI) rfl ?_
    refine WT_skip 6 rfl rfl (by kernel_rfl) (hXS _ hI) rfl ?_
    refine WT_skip 7 rfl rfl (by kernel_rfl) (hXS _ hI) rfl ?_
    refine WT_take 8 rfl rfl (by kernel_rfl) (hXS _ hI) rfl (fun W hW => have hI := hSx W hW; (by first | exact rPickTB rfl rfl rfl | exact rPickFB rfl rfl rfl | exact rPickB rfl rfl rfl rfl)) ?_
    refine WT_take 9 rfl rfl (by kernel_rfl) (hXS _ hI) rfl (fun W hW => have hI := hSx W hW; (by first | exact rMoveB rfl rfl | exact rMove rfl)) ?_
    refine WT_skip 10 rfl rfl (by kernel_rfl) (hXS _ hI) rfl ?_
    refine WT_skip 11 rfl rfl (by kernel_rfl) (hXS _ hI) rfl ?_
    refine WT_skip 12 rfl rfl (by kernel_rfl) (hXS _ hI) rfl ?_
    refine WT_skip 13 rfl rfl (by kernel_rfl) (hXS _ hI) rfl ?_
    refine WT_take 14 rfl rfl (by kernel_rfl) (hXS _ hI) rfl (fun W hW => have hI := hSx W hW; (by first | exact rPickTB rfl rfl rfl | exact rPickFB rfl rfl rfl | exact rPickB rfl rfl rfl rfl)) ?_
    refine WT_take 15 rfl rfl (by kernel_rfl) (hXS _ hI) rfl (fun W hW => have hI := hSx W hW; (by first | exact rMoveB rfl rfl | exact rMove rfl)) ?_
    refine WT_skip 16 rfl rfl (by kernel_rfl) (hXS _ hI) rfl ?_
    refine WT_skip 17 rfl rfl (by kernel_rfl) (hXS _ hI) rfl ?_
    refine WT_skip 18 rfl rfl (by kernel_rfl) (hXS _ hI) rfl ?_
    refine WT_skip 19 rfl rfl (by kernel_rfl) (hXS _ hI) rfl ?_
    refine WT_skip 20 rfl rfl (by kernel_rfl) (hXS _ hI) rfl ?_
    refine WT_skip 21 rfl rfl (by kernel_rfl) (hXS _ hI) rfl ?_
    refine WT_skip 22 rfl rfl (by kernel_rfl) (hXS _ hI) rfl ?_
    refine WT_skip 23 rfl rfl (by kernel_rfl) (hXS _ hI) rfl ?_
    refine WT_skip 24 rfl rfl (by kernel_rfl) (hXS _ hI) rfl ?_
    refine WT_skip 25 rfl rfl (by kernel_rfl) (hXS _ hI) rfl ?_
    refine WT_skip 26 rfl rfl (by kernel_rfl) (hXS _ hI) rfl ?_
    refine WT_take 27 rfl rfl (by kernel_rfl) (hXS _ hI) rfl (fun W hW => have hI := hSx W hW; (by first | exact rPickTB rfl rfl rfl | exact rPickFB rfl rfl rfl | exact rPickB rfl rfl rfl rfl)) ?_
    refine WT_take 28 rfl rfl (by kernel_rfl) (hXS _ hI) rfl (fun W hW => have hI := hSx W hW; (by first | exact rAsgnB rfl rfl | exact rAsgn rfl)) ?_
    refine WT_end (by kernel_rfl) ?_
    refine W_ret ?_
    exact ret1 6 (.inr rfl) rfl ⟨rfl, hI.pu⟩
  rw [decide_eq_true hik, Bool.true_and]
  cases hbi : pshB l i with
  | true =>
    rw [Bool.not_true, Bool.false_and, Bool.false_and]
    refine calls_of_W (N := Tryd.f13.ntmps) Tryd.func13 rfl rfl rfl ?_
    refine W_seq ?_
    refine W_region ?_
    refine WL_val rfl rfl rfl (by first | exact rAsgnB rfl rfl | exact rAsgn rfl) ?_
    refine WL_nil ?_
    refine W_seq ?_
    refine W_draw (by kernel_rfl) ?_
    refine WA_inv (T := []) hI.drew ?_
    intro Sx hSx hXS
    replace hI := hI.drew
    refine WT_take 0 rfl rfl (by kernel_rfl) (hXS _ hI) rfl (fun W hW => have hI := hSx W hW; (by first | exact rMoveI rfl rfl | exact rMove rfl)) ?_
    refine WT_take 1 rfl rfl (by kernel_rfl) (hXS _ hI) rfl (fun W hW => have hI := hSx W hW; (by first | exact rMoveI rfl rfl | exact rMove rfl)) ?_
    refine WT_take 2 rfl rfl (by kernel_rfl) (hXS _ hI) rfl (fun W hW => have hI := hSx W hW; (by first | exact rLssT rfl rfl rfl (by omega) | exact rLssF rfl rfl rfl (by omega) | exact rLss rfl rfl rfl)) ?_
    refine WT_take 3 rfl rfl (by kernel_rfl) (hXS _ hI) rfl (fun W hW => have hI := hSx W hW; (by first | exact rMoveB rfl rfl | exact rMove rfl)) ?_
    first | refine WT_take 4 rfl rfl (by kernel_rfl) (hXS _ hI) rfl (fun W hW => have hI := hSx W hW; (by first | exact rLd (v := .func _ _ _) rfl (by kernel_rfl) rfl (by first | exact hI.oldp hbx | exact hbx | exact hI.oldp hps | exact hps | exact hI.oldp hoi5 | exact hoi5 | exact hI.oldp hok5 | exact hok5) | exact rLd rfl (by kernel_rfl) rfl (by first | exact hI.oldp hbx | exact hbx | exact hI.oldp hps | exact hps | exact hI.oldp hoi5 | exact hoi5 | exact hI.oldp hok5 | exact hok5))) ?_ | refine WT_skip 4 rfl rfl (by kernel_rfl) (hXS _ hI) rfl ?_
    first | refine WT_take 5 rfl rfl (by kernel_rfl) (hXS _ hI) rfl (fun W hW => have hI := hSx W hW; (by first | exact rMoveI rfl rfl | exact rMove rfl)) ?_ | refine WT_skip 5 rfl rfl (by kernel_rfl) (hXS _ hI) rfl ?_
    refine WT_one 6 rfl (by kernel_rfl) rfl ?_
    refine WL_call rfl rfl rfl (rCallF (f := 11) (first := []) (cap := [_]) (vs := [.int .i64 _, .pointer _]) rfl rfl Tryd.func11 rfl rfl rfl) ?_
    refine (push_any _ (h.ops.pure hI.pu) (cellP hI.pu h.box) i (by assumption)).mono ?_
    rw [hbi]
    rintro e w1 ⟨rfl, hp⟩
    refine ⟨_, rfl, ?_⟩
    replace hI := hI.pure hp
    refine WL_nil ⟨hXS _ hI, ?_⟩
    first | refine WT_take 7 rfl rfl (by kernel_rfl) (hXS _ hI) rfl (fun W hW => have hI := hSx W hW; (by first | exact rNotT rfl rfl | exact rNotF rfl rfl | exact rNot rfl rfl)) ?_ | refine WT_skip 7 rfl rfl (by kernel_rfl) (hXS _ hI) rfl ?_
    refine WT_take 8 rfl rfl (by kernel_rfl) (hXS _ hI) rfl (fun W hW => have hI := hSx W hW; (by first | exact rPickTB rfl rfl rfl | exact rPickFB rfl rfl rfl | exact rPickB rfl rfl rfl rfl)) ?_
    refine WT_take 9 rfl rfl (by kernel_rfl) (hXS _ hI) rfl (fun W hW => have hI := hSx W hW; (by first | exact rMoveB rfl rfl | exact rMove rfl)) ?_
    refine WT_skip 10 rfl rfl (by kernel_rfl) (hXS _ hI) rfl ?_
    refine WT_skip 11 rfl rfl (by kernel_rfl) (hXS _ hI) rfl ?_
    refine WT_skip 12 rfl rfl (by kernel_rfl) (hXS _ hI) rfl ?_
    refine WT_skip 13 rfl rfl (by kernel_rfl) (hXS _ hI) rfl ?_
    refine WT_take 14 rfl rfl (by kernel_rfl) (hXS _ hI) rfl (fun W hW => have hI := hSx W hW; (by first | exact rPickTB rfl rfl rfl | exact rPickFB rfl rfl rfl | exact rPickB rfl rfl rfl rfl)) ?_
    refine WT_take 15 rfl rfl (by kernel_rfl) (hXS _ hI) rfl (fun W hW => have hI := hSx W hW; (by first | exact rMoveB rfl rfl | exact rMove rfl)) ?_
    refine WT_skip 16 rfl rfl (by kernel_rfl) (hXS _ hI) rfl ?_
    refine WT_skip 17 rfl rfl (by kernel_rfl) (hXS _ hI) rfl ?_
    refine WT_skip 18 rfl rfl (by kernel_rfl) (hXS _ hI) rfl ?_
    refine WT_skip 19 rfl rfl (by kernel_rfl) (hXS _ hI) rfl ?_
    refine WT_skip 20 rfl rfl (by kernel_rfl) (hXS _ hI) rfl ?_
    refine WT_skip 21 rfl rfl (by kernel_rfl) (hXS _ hI) rfl ?_
    refine WT_skip 22 rfl rfl (by kernel_rfl) (hXS _ hI) rfl ?_
    refine WT_skip 23 rfl rfl (by kernel_rfl) (hXS _ hI) rfl ?_
    refine WT_skip 24 rfl rfl (by kernel_rfl) (hXS _ hI) rfl ?_
    refine WT_skip 25 rfl rfl (by kernel_rfl) (hXS _ hI) rfl ?_
    refine WT_skip 26 rfl rfl (by kernel_rfl) (hXS _ hI) rfl ?_
    refine WT_take 27 rfl rfl (by kernel_rfl) (hXS _ hI) rfl (fun W hW => have hI := hSx W hW; (by first | exact rPickTB rfl rfl rfl | exact rPickFB rfl rfl rfl | exact rPickB rfl rfl rfl rfl)) ?_
    refine WT_take 28 rfl rfl (by kernel_rfl) (hXS _ hI) rfl (fun W hW => have hI := hSx W hW; (by first | exact rAsgnB rfl rfl | exact rAsgn rfl)) ?_
    refine WT_end (by kernel_rfl) ?_
    refine W_ret ?_
    exact ret1 6 (.inr rfl) rfl ⟨rfl, hI.pu⟩
  | false =>
    cases hbk : pshB l k with
    | true =>
      rw [Bool.not_true, Bool.not_false, Bool.true_and, Bool.false_and]
      refine calls_of_W (N := Tryd.f13.ntmps) Tryd.func13 rfl rfl rfl ?_
      refine W_seq ?_
      refine W_region ?_
      refine WL_val rfl rfl rfl (by first | exact rAsgnB rfl rfl | exact rAsgn rfl) ?_
      refine WL_nil ?_
      refine W_seq ?_
      refine W_draw (by kernel_rfl) ?_
      refine WA_inv (T := []) hI.drew ?_
      intro Sx hSx hXS
      replace hI := hI.drew
      refine WT_take 0 rfl rfl (by kernel_rfl) (hXS _ hI) rfl (fun W hW => have hI := hSx W hW; (by first | exact rMoveI rfl rfl | exact rMove rfl)) ?_
      refine WT_take 1 rfl rfl (by kernel_rfl) (hXS _ hI) rfl (fun W hW => have hI := hSx W hW; (by first | exact rMoveI rfl rfl | exact rMove rfl)) ?_
      refine WT_take 2 rfl rfl (by kernel_rfl) (hXS _ hI) rfl (fun W hW => have hI := hSx W hW; (by first | exact rLssT rfl rfl rfl (by omega) | exact rLssF rfl rfl rfl (by omega) | exact rLss rfl rfl rfl)) ?_
      refine WT_take 3 rfl rfl (by kernel_rfl) (hXS _ hI) rfl (fun W hW => have hI := hSx W hW; (by first | exact rMoveB rfl rfl | exact rMove rfl)) ?_
      first | refine WT_take 4 rfl rfl (by kernel_rfl) (hXS _ hI) rfl (fun W hW => have hI := hSx W hW; (by first | exact rLd (v := .func _ _ _) rfl (by kernel_rfl) rfl (by first | exact hI.oldp hbx | exact hbx | exact hI.oldp hps | exact hps | exact hI.oldp hoi5 | exact hoi5 | exact hI.oldp hok5 | exact hok5) | exact rLd rfl (by kernel_rfl) rfl (by first | exact hI.oldp hbx | exact hbx | exact hI.oldp hps | exact hps | exact hI.oldp hoi5 | exact hoi5 | exact hI.oldp hok5 | exact hok5))) ?_ | refine WT_skip 4 rfl rfl (by kernel_rfl) (hXS _ hI) rfl ?_
      first | refine WT_take 5 rfl rfl (by kernel_rfl) (hXS _ hI) rfl (fun W hW => have hI := hSx W hW; (by first | exact rMoveI rfl rfl | exact rMove rfl)) ?_ | refine WT_skip 5 rfl rfl (by kernel_rfl) (hXS _ hI) rfl ?_
      refine WT_one 6 rfl (by kernel_rfl) rfl ?_
      refine WL_call rfl rfl rfl (rCallF (f := 11) (first := []) (cap := [_]) (vs := [.int .i64 _, .pointer _]) rfl rfl Tryd.func11 rfl rfl rfl) ?_
      refine (push_any _ (h.ops.pure hI.pu) (cellP hI.pu h.box) i (by assumption)).mono ?_
      rw [hbi]
      rintro e w1 ⟨rfl, hp⟩
      refine ⟨_, rfl, ?_⟩
      replace hI := hI.pure hp
      refine WL_nil ⟨hXS _ hI, ?_⟩
      first | refine WT_take 7 rfl rfl (by kernel_rfl) (hXS _ hI) rfl (fun W hW => have hI := hSx W hW; (by first | exact rNotT rfl rfl | exact rNotF rfl rfl | exact rNot rfl rfl)) ?_ | refine WT_skip 7 rfl rfl (by kernel_rfl) (hXS _ hI) rfl ?_
      refine WT_take 8 rfl rfl (by kernel_rfl) (hXS _ hI) rfl (fun W hW => have hI := hSx W hW; (by first | exact rPickTB rfl rfl rfl | exact rPickFB rfl rfl rfl | exact rPickB rfl rfl rfl rfl)) ?_
      refine WT_take 9 rfl rfl (by kernel_rfl) (hXS _ hI) rfl (fun W hW => have hI := hSx W hW; (by first | exact rMoveB rfl rfl | exact rMove rfl)) ?_
      first | refine WT_take 10 rfl rfl (by kernel_rfl) (hXS _ hI) rfl (fun W hW => have hI := hSx W hW; (by first | exact rLd (v := .func _ _ _) rfl (by kernel_rfl) rfl (by first | exact hI.oldp hbx | exact hbx | exact hI.oldp hps | exact hps | exact hI.oldp hoi5 | exact hoi5 | exact hI.oldp hok5 | exact hok5) | exact rLd rfl (by kernel_rfl) rfl (by first | exact hI.oldp hbx | exact hbx | exact hI.oldp hps | exact hps | exact hI.oldp hoi5 | exact hoi5 | exact hI.oldp hok5 | exact hok5))) ?_ | refine WT_skip 10 rfl rfl (by kernel_rfl) (hXS _ hI) rfl ?_
      first | refine WT_take 11 rfl rfl (by kernel_rfl) (hXS _ hI) rfl (fun W hW => have hI := hSx W hW; (by first | exact rMoveI rfl rfl | exact rMove rfl)) ?_ | refine WT_skip 11 rfl rfl (by kernel_rfl) (hXS _ hI) rfl ?_
      refine WT_one 12 rfl (by kernel_rfl) rfl ?_
      refine WL_call rfl rfl rfl (rCallF (f := 11) (first := []) (cap := [_]) (vs := [.int .i64 _, .pointer _]) rfl rfl Tryd.func11 rfl rfl rfl) ?_
      refine (push_any _ (h.ops.pure hI.pu) (cellP hI.pu h.box) k (by assumption)).mono ?_
      rw [hbk]
      rintro e w1 ⟨rfl, hp⟩
      refine ⟨_, rfl, ?_⟩
      replace hI := hI.pure hp
      refine WL_nil ⟨hXS _ hI, ?_⟩
      first | refine WT_take 13 rfl rfl (by kernel_rfl) (hXS _ hI) rfl (fun W hW => have hI := hSx W hW; (by first | exact rNotT rfl rfl | exact rNotF rfl rfl | exact rNot rfl rfl)) ?_ | refine WT_skip 13 rfl rfl (by kernel_rfl) (hXS _ hI) rfl ?_
      refine WT_take 14 rfl rfl (by kernel_rfl) (hXS _ hI) rfl (fun W hW => have hI := hSx W hW; (by first | exact rPickTB rfl rfl rfl | exact rPickFB rfl rfl rfl | exact rPickB rfl rfl rfl rfl)) ?_
      refine WT_take 15 rfl rfl (by kernel_rfl) (hXS _ hI) rfl (fun W hW => have hI := hSx W hW; (by first | exact rMoveB rfl rfl | exact rMove rfl)) ?_
      refine WT_skip 16 rfl rfl (by kernel_rfl) (hXS _ hI) rfl ?_
      refine WT_skip 17 rfl rfl (by kernel_rfl) (hXS _ hI) rfl ?_
      refine WT_skip 18 rfl rfl (by kernel_rfl) (hXS _ hI) rfl ?_
      refine WT_skip 19 rfl rfl (by kernel_rfl) (hXS _ hI) rfl ?_
      refine WT_skip 20 rfl rfl (by kernel_rfl) (hXS _ hI) rfl ?_
      refine WT_skip 21 rfl rfl (by kernel_rfl) (hXS _ hI) rfl ?_
      refine WT_skip 22 rfl rfl (by kernel_rfl) (hXS _ hI) rfl ?_
      refine WT_skip 23 rfl rfl (by kernel_rfl) (hXS _ hI) rfl ?_
      refine WT_skip 24 rfl rfl (by kernel_rfl) (hXS _ hI) rfl ?_
      refine WT_skip 25 rfl rfl (by kernel_rfl) (hXS _ hI) rfl ?_
      refine WT_skip 26 rfl rfl (by kernel_rfl) (hXS _ hI) rfl ?_
      refine WT_take 27 rfl rfl (by kernel_rfl) (hXS _ hI) rfl (fun W hW => have hI := hSx W hW; (by first | exact rPickTB rfl rfl rfl | exact rPickFB rfl rfl rfl | exact rPickB rfl rfl rfl rfl)) ?_
      refine WT_take 28 rfl rfl (by kernel_rfl) (hXS _ hI) rfl (fun W hW => have hI := hSx W hW; (by first | exact rAsgnB rfl rfl | exact rAsgn rfl)) ?_
      refine WT_end (by kernel_rfl) ?_
      refine W_ret ?_
      exact ret1 6 (.inr rfl) rfl ⟨rfl, hI.pu⟩
    | false =>
      rw [Bool.not_false, Bool.true_and, Bool.true_and]
      refine calls_of_W (N := Tryd.f13.ntmps) Tryd.func13 rfl rfl rfl ?_
      refine W_seq ?_
      refine W_region ?_
      refine WL_val rfl rfl rfl (by first | exact rAsgnB rfl rfl | exact rAsgn rfl) ?_
      refine WL_nil ?_
      refine W_seq ?_
      refine W_draw (by kernel_rfl) ?_
      refine WA_inv (T := []) hI.drew ?_
      intro Sx hSx hXS
      replace hI := hI.drew
      refine WT_take 0 rfl rfl (by kernel_rfl) (hXS _ hI) rfl (fun W hW => have hI := hSx W hW; (by first | exact rMoveI rfl rfl | exact rMove rfl)) ?_
      refine WT_take 1 rfl rfl (by kernel_rfl) (hXS _ hI) rfl (fun W hW => have hI := hSx W hW; (by first | exact rMoveI rfl rfl | exact rMove rfl)) ?_
      refine WT_take 2 rfl rfl (by kernel_rfl) (hXS _ hI) rfl (fun W hW => have hI := hSx W hW; (by first | exact rLssT rfl rfl rfl (by omega) | exact rLssF rfl rfl rfl (by omega) | exact rLss rfl rfl rfl)) ?_
      refine WT_take 3 rfl rfl (by kernel_rfl) (hXS _ hI) rfl (fun W hW => have hI := hSx W hW; (by first | exact rMoveB rfl rfl | exact rMove rfl)) ?_
      first | refine WT_take 4 rfl rfl (by kernel_rfl) (hXS _ hI) rfl (fun W hW => have hI := hSx W hW; (by first | exact rLd (v := .func _ _ _) rfl (by kernel_rfl) rfl (by first | exact hI.oldp hbx | exact hbx | exact hI.oldp hps | exact hps | exact hI.oldp hoi5 | exact hoi5 | exact hI.oldp hok5 | exact hok5) | exact rLd rfl (by kernel_rfl) rfl (by first | exact hI.oldp hbx | exact hbx | exact hI.oldp hps | exact hps | exact hI.oldp hoi5 | exact hoi5 | exact hI.oldp hok5 | exact hok5))) ?_ | refine WT_skip 4 rfl rfl (by kernel_rfl) (hXS _ hI) rfl ?_
      first | refine WT_take 5 rfl rfl (by kernel_rfl) (hXS _ hI) rfl (fun W hW => have hI := hSx W hW; (by first | exact rMoveI rfl rfl | exact rMove rfl)) ?_ | refine WT_skip 5 rfl rfl (by kernel_rfl) (hXS _ hI) rfl ?_
      refine WT_one 6 rfl (by kernel_rfl) rfl ?_
      refine WL_call rfl rfl rfl (rCallF (f := 11) (first := []) (cap := [_]) (vs := [.int .i64 _, .pointer _]) rfl rfl Tryd.func11 rfl rfl rfl) ?_
      refine (push_any _ (h.ops.pure hI.pu) (cellP hI.pu h.box) i (by assumption)).mono ?_
      rw [hbi]
      rintro e w1 ⟨rfl, hp⟩
      refine ⟨_, rfl, ?_⟩
      replace hI := hI.pure hp
      refine WL_nil ⟨hXS _ hI, ?_⟩
      first | refine WT_take 7 rfl rfl (by kernel_rfl) (hXS _ hI) rfl (fun W hW => have hI := hSx W hW; (by first | exact rNotT rfl rfl | exact rNotF rfl rfl | exact rNot rfl rfl)) ?_ | refine WT_skip 7 rfl rfl (by kernel_rfl) (hXS _ hI) rfl ?_
      refine WT_take 8 rfl rfl (by kernel_rfl) (hXS _ hI) rfl (fun W hW => have hI := hSx W hW; (by first | exact rPickTB rfl rfl rfl | exact rPickFB rfl rfl rfl | exact rPickB rfl rfl rfl rfl)) ?_
      refine WT_take 9 rfl rfl (by kernel_rfl) (hXS _ hI) rfl (fun W hW => have hI := hSx W hW; (by first | exact rMoveB rfl rfl | exact rMove rfl)) ?_
      first | refine WT_take 10 rfl rfl (by kernel_rfl) (hXS _ hI) rfl (fun W hW => have hI := hSx W hW; (by first | exact rLd (v := .func _ _ _) rfl (by kernel_rfl) rfl (by first | exact hI.oldp hbx | exact hbx | exact hI.oldp hps | exact hps | exact hI.oldp hoi5 | exact hoi5 | exact hI.oldp hok5 | exact hok5) | exact rLd rfl (by kernel_rfl) rfl (by first | exact hI.oldp hbx | exact hbx | exact hI.oldp hps | exact hps | exact hI.oldp hoi5 | exact hoi5 | exact hI.oldp hok5 | exact hok5))) ?_ | refine WT_skip 10 rfl rfl (by kernel_rfl) (hXS _ hI) rfl ?_
      first | refine WT_take 11 rfl rfl (by kernel_rfl) (hXS _ hI) rfl (fun W hW => have hI := hSx W hW; (by first | exact rMoveI rfl rfl | exact rMove rfl)) ?_ | refine WT_skip 11 rfl rfl (by kernel_rfl) (hXS _ hI) rfl ?_
      refine WT_one 12 rfl (by kernel_rfl) rfl ?_
      refine WL_call rfl rfl rfl (rCallF (f := 11) (first := []) (cap := [_]) (vs := [.int .i64 _, .pointer _]) rfl rfl Tryd.func11 rfl rfl rfl) ?_
      refine (push_any _ (h.ops.pure hI.pu) (cellP hI.pu h.box) k (by assumption)).mono ?_
      rw [hbk]
      rintro e w1 ⟨rfl, hp⟩
      refine ⟨_, rfl, ?_⟩
      replace hI := hI.pure hp
      refine WL_nil ⟨hXS _ hI, ?_⟩
      first | refine WT_take 13 rfl rfl (by kernel_rfl) (hXS _ hI) rfl (fun W hW => have hI := hSx W hW; (by first | exact rNotT rfl rfl | exact rNotF rfl rfl | exact rNot rfl rfl)) ?_ | refine WT_skip 13 rfl rfl (by kernel_rfl) (hXS _ hI) rfl ?_
      refine WT_take 14 rfl rfl (by kernel_rfl) (hXS _ hI) rfl (fun W hW => have hI := hSx W hW; (by first | exact rPickTB rfl rfl rfl | exact rPickFB rfl rfl rfl | exact rPickB rfl rfl rfl rfl)) ?_
      refine WT_take 15 rfl rfl (by kernel_rfl) (hXS _ hI) rfl (fun W hW => have hI := hSx W hW; (by first | exact rMoveB rfl rfl | exact rMove rfl)) ?_
      first | refine WT_take 16 rfl rfl (by kernel_rfl) (hXS _ hI) rfl (fun W hW => have hI := hSx W hW; (by first | exact rLd (v := .slice _ _ _) rfl (by kernel_rfl) rfl (by first | exact hI.oldp hbx | exact hbx | exact hI.oldp hps | exact hps | exact hI.oldp hoi5 | exact hoi5 | exact hI.oldp hok5 | exact hok5) | exact rLd rfl (by kernel_rfl) rfl (by first | exact hI.oldp hbx | exact hbx | exact hI.oldp hps | exact hps | exact hI.oldp hoi5 | exact hoi5 | exact hI.oldp hok5 | exact hok5))) ?_ | refine WT_skip 16 rfl rfl (by kernel_rfl) (hXS _ hI) rfl ?_
      first | refine WT_take 17 rfl rfl (by kernel_rfl) (hXS _ hI) rfl (fun W hW => have hI := hSx W hW; (by first | exact rMoveI rfl rfl | exact rMove rfl)) ?_ | refine WT_skip 17 rfl rfl (by kernel_rfl) (hXS _ hI) rfl ?_
      first | refine WT_take 18 rfl rfl (by kernel_rfl) (hXS _ hI) rfl (fun W hW => have hI := hSx W hW; (rIdx (sz := 8) rfl Tryd.underlying22 (by kernel_rfl) rfl rfl (by omega))) ?_ | refine WT_skip 18 rfl rfl (by kernel_rfl) (hXS _ hI) rfl ?_
      first | refine WT_take 19 rfl rfl (by kernel_rfl) (hXS _ hI) rfl (fun W hW => have hI := hSx W hW; (by first | exact rFldN (off := 5) rfl (by kernel_rfl) rfl | exact rFld (off := 5) rfl (by kernel_rfl) rfl)) ?_ | refine WT_skip 19 rfl rfl (by kernel_rfl) (hXS _ hI) rfl ?_
      first | refine WT_take 20 rfl rfl (by kernel_rfl) (hXS _ hI) rfl (fun W hW => have hI := hSx W hW; (by first | exact rLd (v := .int .i64 _) rfl (by kernel_rfl) rfl (by first | exact hI.oldp hbx | exact hbx | exact hI.oldp hps | exact hps | exact hI.oldp hoi5 | exact hoi5 | exact hI.oldp hok5 | exact hok5) | exact rLd rfl (by kernel_rfl) rfl (by first | exact hI.oldp hbx | exact hbx | exact hI.oldp hps | exact hps | exact hI.oldp hoi5 | exact hoi5 | exact hI.oldp hok5 | exact hok5))) ?_ | refine WT_skip 20 rfl rfl (by kernel_rfl) (hXS _ hI) rfl ?_
      first | refine WT_take 21 rfl rfl (by kernel_rfl) (hXS _ hI) rfl (fun W hW => have hI := hSx W hW; (by first | exact rLd (v := .slice _ _ _) rfl (by kernel_rfl) rfl (by first | exact hI.oldp hbx | exact hbx | exact hI.oldp hps | exact hps | exact hI.oldp hoi5 | exact hoi5 | exact hI.oldp hok5 | exact hok5) | exact rLd rfl (by kernel_rfl) rfl (by first | exact hI.oldp hbx | exact hbx | exact hI.oldp hps | exact hps | exact hI.oldp hoi5 | exact hoi5 | exact hI.oldp hok5 | exact hok5))) ?_ | refine WT_skip 21 rfl rfl (by kernel_rfl) (hXS _ hI) rfl ?_
      first | refine WT_take 22 rfl rfl (by kernel_rfl) (hXS _ hI) rfl (fun W hW => have hI := hSx W hW; (by first | exact rMoveI rfl rfl | exact rMove rfl)) ?_ | refine WT_skip 22 rfl rfl (by kernel_rfl) (hXS _ hI) rfl ?_
      first | refine WT_take 23 rfl rfl (by kernel_rfl) (hXS _ hI) rfl (fun W hW => have hI := hSx W hW; (rIdx (sz := 8) rfl Tryd.underlying22 (by kernel_rfl) rfl rfl (by omega))) ?_ | refine WT_skip 23 rfl rfl (by kernel_rfl) (hXS _ hI) rfl ?_
      first | refine WT_take 24 rfl rfl (by kernel_rfl) (hXS _ hI) rfl (fun W hW => have hI := hSx W hW; (by first | exact rFldN (off := 5) rfl (by kernel_rfl) rfl | exact rFld (off := 5) rfl (by kernel_rfl) rfl)) ?_ | refine WT_skip 24 rfl rfl (by kernel_rfl) (hXS _ hI) rfl ?_
      first | refine WT_take 25 rfl rfl (by kernel_rfl) (hXS _ hI) rfl (fun W hW => have hI := hSx W hW; (by first | exact rLd (v := .int .i64 _) rfl (by kernel_rfl) rfl (by first | exact hI.oldp hbx | exact hbx | exact hI.oldp hps | exact hps | exact hI.oldp hoi5 | exact hoi5 | exact hI.oldp hok5 | exact hok5) | exact rLd rfl (by kernel_rfl) rfl (by first | exact hI.oldp hbx | exact hbx | exact hI.oldp hps | exact hps | exact hI.oldp hoi5 | exact hoi5 | exact hI.oldp hok5 | exact hok5))) ?_ | refine WT_skip 25 rfl rfl (by kernel_rfl) (hXS _ hI) rfl ?_
      first | refine WT_take 26 rfl rfl (by kernel_rfl) (hXS _ hI) rfl (fun W hW => have hI := hSx W hW; (by first | exact rEqlT rfl rfl rfl (by omega) | exact rEqlF rfl rfl rfl (by omega) | exact rEql rfl rfl rfl)) ?_ | refine WT_skip 26 rfl rfl (by kernel_rfl) (hXS _ hI) rfl ?_
      refine WT_take 27 rfl rfl (by kernel_rfl) (hXS _ hI) rfl (fun W hW => have hI := hSx W hW; (by first | exact rPickTB rfl rfl rfl | exact rPickFB rfl rfl rfl | exact rPickB rfl rfl rfl rfl)) ?_
      refine WT_take 28 rfl rfl (by kernel_rfl) (hXS _ hI) rfl (fun W hW => have hI := hSx W hW; (by first | exact rAsgnB rfl rfl | exact rAsgn rfl)) ?_
      refine WT_end (by kernel_rfl) ?_
      refine W_ret ?_
      exact ret1 6 (.inr rfl) rfl ⟨rfl, hI.pu⟩
theorem early_any (w0 : World) (h : QB l A c b1 b18 w0) (i k : Nat) (hi : i < l.length) (hk : k < l.length) :
    Calls Tryd.prog 14 #[.int .i64 (i : Int), .int .i64 (k : Int), .pointer (some ⟨b18, 0, none⟩), .pointer (some ⟨b1, 0, none⟩)] w0 fun en w' => en = .returned (.bool (earlyB l i k)) ∧ Pure w0 w' := by
  have hI := Inv.start (fun _ => False) w0
  obtain ⟨_, hc1, hc2⟩ := h.ops.len
  have hbx := h.box
  have hps := h.psh
  obtain ⟨bA, oA, rfl, hoi⟩ := h.ops.at hi
  obtain ⟨bA', oA', hae, hok⟩ := h.ops.at hk
  injection hae with hae
  injection hae with e1 e2
  subst e1 e2
  have hoi3 := hoi 3 _ rfl
  have hok5 := hok 5 _ rfl
  unfold earlyB
  cases hbi : pshB l i with
  | false =>
    rw [Bool.false_and, Bool.false_and, Bool.false_and]
    refine calls_of_W (N := Tryd.f14.ntmps) Tryd.func14 rfl rfl rfl ?_
    refine W_seq ?_
    refine W_region ?_
    refine WL_val rfl rfl rfl (by first | exact rAsgnB rfl rfl | exact rAsgn rfl) ?_
    refine WL_nil ?_
    refine W_seq ?_
    refine W_draw (by kernel_rfl) ?_
    refine WA_inv (T := []) hI.drew ?_
    intro Sx hSx hXS
    replace hI := hI.drew
    refine WT_take 0 rfl rfl (by kernel_rfl) (hXS _ hI) rfl (fun W hW => have hI := hSx W hW; (by first | exact rLd (v := .func _ _ _) rfl (by kernel_rfl) rfl (by first | exact hI.oldp hbx | exact hbx | exact hI.oldp hps | exact hps | exact hI.oldp hoi3 | exact hoi3 | exact hI.oldp hok5 | exact hok5) | exact rLd rfl (by kernel_rfl) rfl (by first | exact hI.oldp hbx | exact hbx | exact hI.oldp hps | exact hps | exact hI.oldp hoi3 | exact hoi3 | exact hI.oldp hok5 | exact hok5))) ?_
    refine WT_take 1 rfl rfl (by kernel_rfl) (hXS _ hI) rfl (fun W hW => have hI := hSx W hW; (by first | exact rMoveI rfl rfl | exact rMove rfl)) ?_
    refine WT_one 2 rfl (by kernel_rfl) rfl ?_
    refine WL_call rfl rfl rfl (rCallF (f := 11) (first := []) (cap := [_]) (vs := [.int .i64 _, .pointer _]) rfl rfl Tryd.func11 rfl rfl rfl) ?_
    refine (push_any _ (h.ops.pure hI.pu) (cellP hI.pu h.box) i (by assumption)).mono ?_
    rw [hbi]
    rintro e w1 ⟨rfl, hp⟩
    refine ⟨_, rfl, ?_⟩
    replace hI := hI.pure hp
    refine WL_nil ⟨hXS _ hI, ?_⟩
    refine WT_take 3 rfl rfl (by kernel_rfl) (hXS _ hI) rfl (fun W hW => have hI := hSx W hW; (by first | exact rMoveB rfl rfl | exact rMove rfl)) ?_
    refine WT_skip 4 rfl rfl (by kernel_rfl) (hXS _ hI) rfl ?_
    refine WT_skip 5 rfl rfl (by kernel_rfl) (hXS _ hI) rfl ?_
    refine WT_skip 6 rfl rfl (by kernel_rfl) (hXS _ hI) rfl ?_
    refine WT_skip 7 rfl rfl (by kernel_rfl) (hXS _ hI) rfl ?_
    refine WT_take 8 rfl rfl (by kernel_rfl) (hXS _ hI) rfl (fun W hW => have hI := hSx W hW; (by first | exact rPickTB rfl rfl rfl | exact rPickFB rfl rfl rfl | exact rPickB rfl rfl rfl rfl)) ?_
    refine WT_take 9 rfl rfl (by kernel_rfl) (hXS _ hI) rfl (fun W hW => have hI := hSx W hW; (by first | exact rMoveB rfl rfl | exact rMove rfl)) ?_
    refine WT_skip 10 rfl rfl (by kernel_rfl) (hXS _ hI) rfl ?_
    refine WT_skip 11 rfl rfl (by kernel_rfl) (hXS _ hI) rfl ?_
    refine WT_skip 12 rfl rfl (by kernel_rfl) (hXS _ hI) rfl ?_
    refine WT_skip 13 rfl rfl (by kernel_rfl) (hXS _ hI) rfl ?_
    refine WT_skip 14 rfl rfl (by kernel_rfl) (hXS _ hI) rfl ?_
    refine WT_skip 15 rfl rfl (by kernel_rfl) (hXS _ hI) rfl ?_
    refine WT_skip 16 rfl rfl (by kernel_rfl) (hXS _ hI) rfl ?_
    refine WT_skip 17 rfl rfl (by kernel_rfl) (hXS _ hI) rfl ?_
    refine WT_skip 18 rfl rfl (by kernel_rfl) (hXS _ hI) rfl ?_
    refine WT_skip 19 rfl rfl (by kernel_rfl) (hXS _ hI) rfl ?_
    refine WT_skip 20 rfl rfl (by kernel_rfl) (hXS _ hI) rfl ?_
    refine WT_take 21 rfl rfl (by kernel_rfl) (hXS _ hI) rfl (fun W hW => have hI := hSx W hW; (by first | exact rPickTB rfl rfl rfl | exact rPickFB rfl rfl rfl | exact rPickB rfl rfl rfl rfl)) ?_
    refine WT_take 22 rfl rfl (by kernel_rfl) (hXS _ hI) rfl (fun W hW => have hI := hSx W hW; (by first | exact rMoveB rfl rfl | exact rMove rfl)) ?_
    refine WT_skip 23 rfl rfl (by kernel_rfl) (hXS _ hI) rfl ?_
    refine WT_skip 24 rfl rfl (by kernel_rfl) (hXS _ hI) rfl ?_
    refine WT_skip 25 rfl rfl (by kernel_rfl) (hXS _ hI) rfl ?_
    refine WT_skip 26 rfl rfl (by kernel_rfl) (hXS _ hI) rfl ?_
    refine WT_skip 27 rfl rfl (by kernel_rfl) (hXS _ hI) rfl ?_
    refine WT_skip 28 rfl rfl (by kernel_rfl) (hXS _ hI) rfl ?_
    refine WT_skip 29 rfl rfl (by kernel_rfl) (hXS _ hI) rfl ?_
    refine WT_skip 30 rfl rfl (by kernel_rfl) (hXS _ hI) rfl ?_
    refine WT_skip 31 rfl rfl (by kernel_rfl) (hXS _ hI) rfl ?_
    refine WT_take 32 rfl rfl (by kernel_rfl) (hXS _ hI) rfl (fun W hW => have hI := hSx W hW; (by first | exact rPickTB rfl rfl rfl | exact rPickFB rfl rfl rfl | exact rPickB rfl rfl rfl rfl)) ?_
    refine WT_take 33 rfl rfl (by kernel_rfl) (hXS _ hI) rfl (fun W hW => have hI := hSx W hW; (by first | exact rAsgnB rfl rfl | exact rAsgn rfl)) ?_
    refine WT_end (by kernel_rfl) ?_
    refine W_ret ?_
    exact ret1 6 (.inr rfl) rfl ⟨rfl, hI.pu⟩
  | true =>
    cases hbk : pshB l k with
    | true =>
      rw [Bool.not_true, Bool.true_and, Bool.false_and, Bool.false_and]
      refine calls_of_W (N := Tryd.f14.ntmps) Tryd.func14 rfl rfl rfl ?_
      refine W_seq ?_
      refine W_region ?_
      refine WL_val rfl rfl rfl (by first | exact rAsgnB rfl rfl | exact rAsgn rfl) ?_
      refine WL_nil ?_
      refine W_seq ?_
      refine W_draw (by kernel_rfl) ?_
      refine WA_inv (T := []) hI.drew ?_
      intro Sx hSx hXS
      replace hI := hI.drew
      refine WT_take 0 rfl rfl (by kernel_rfl) (hXS _ hI) rfl (fun W hW => have hI := hSx W hW; (by first | exact rLd (v := .func _ _ _) rfl (by kernel_rfl) rfl (by first | exact hI.oldp hbx | exact hbx | exact hI.oldp hps | exact hps | exact hI.oldp hoi3 | exact hoi3 | exact hI.oldp hok5 | exact hok5) | exact rLd rfl (by kernel_rfl) rfl (by first | exact hI.oldp hbx | exact hbx | exact hI.oldp hps | exact hps | exact hI.oldp hoi3 | exact hoi3 | exact hI.oldp hok5 | exact hok5))) ?_
      refine WT_take 1 rfl rfl (by kernel_rfl) (hXS _ hI) rfl (fun W hW => have hI := hSx W hW; (by first | exact rMoveI rfl rfl | exact rMove rfl)) ?_
      refine WT_one 2 rfl (by kernel_rfl) rfl ?_
      refine WL_call rfl rfl rfl (rCallF (f := 11) (first := []) (cap := [_]) (vs := [.int .i64 _, .pointer _]) rfl rfl Tryd.func11 rfl rfl rfl) ?_
      refine (push_any _ (h.ops.pure hI.pu) (cellP hI.pu h.box) i (by assumption)).mono ?_
      rw [hbi]
      rintro e w1 ⟨rfl, hp⟩
      refine ⟨_, rfl, ?_⟩
      replace hI := hI.pure hp
      refine WL_nil ⟨hXS _ hI, ?_⟩
      refine WT_take 3 rfl rfl (by kernel_rfl) (hXS _ hI) rfl (fun W hW => have hI := hSx W hW; (by first | exact rMoveB rfl rfl | exact rMove rfl)) ?_
      first | refine WT_take 4 rfl rfl (by kernel_rfl) (hXS _ hI) rfl (fun W hW => have hI := hSx W hW; (by first | exact rLd (v := .func _ _ _) rfl (by kernel_rfl) rfl (by first | exact hI.oldp hbx | exact hbx | exact hI.oldp hps | exact hps | exact hI.oldp hoi3 | exact hoi3 | exact hI.oldp hok5 | exact hok5) | exact rLd rfl (by kernel_rfl) rfl (by first | exact hI.oldp hbx | exact hbx | exact hI.oldp hps | exact hps | exact hI.oldp hoi3 | exact hoi3 | exact hI.oldp hok5 | exact hok5))) ?_ | refine WT_skip 4 rfl rfl (by kernel_rfl) (hXS _ hI) rfl ?_
      first | refine WT_take 5 rfl rfl (by kernel_rfl) (hXS _ hI) rfl (fun W hW => have hI := hSx W hW; (by first | exact rMoveI rfl rfl | exact rMove rfl)) ?_ | refine WT_skip 5 rfl rfl (by kernel_rfl) (hXS _ hI) rfl ?_
      refine WT_one 6 rfl (by kernel_rfl) rfl ?_
      refine WL_call rfl rfl rfl (rCallF (f := 11) (first := []) (cap := [_]) (vs := [.int .i64 _, .pointer _]) rfl rfl Tryd.func11 rfl rfl rfl) ?_
      refine (push_any _ (h.ops.pure hI.pu) (cellP hI.pu h.box) k (by assumption)).mono ?_
      rw [hbk]
      rintro e w1 ⟨rfl, hp⟩
      refine ⟨_, rfl, ?_⟩
      replace hI := hI.pure hp
      refine WL_nil ⟨hXS _ hI, ?_⟩
      first | refine WT_take 7 rfl rfl (by kernel_rfl) (hXS _ hI) rfl (fun W hW => have hI := hSx W hW; (by first | exact rNotT rfl rfl | exact rNotF rfl rfl | exact rNot rfl rfl)) ?_ | refine WT_skip 7 rfl rfl (by kernel_rfl) (hXS _ hI) rfl ?_
      refine WT_take 8 rfl rfl (by kernel_rfl) (hXS _ hI) rfl (fun W hW => have hI := hSx W hW; (by first | exact rPickTB rfl rfl rfl | exact rPickFB rfl rfl rfl | exact rPickB rfl rfl rfl rfl)) ?_
      refine WT_take 9 rfl rfl (by kernel_rfl) (hXS _ hI) rfl (fun W hW => have hI := hSx W hW; (by first | exact rMoveB rfl rfl | exact rMove rfl)) ?_
      refine WT_skip 10 rfl rfl (by kernel_rfl) (hXS _ hI) rfl ?_
      refine WT_skip 11 rfl rfl (by kernel_rfl) (hXS _ hI) rfl ?_
      refine WT_skip 12 rfl rfl (by kernel_rfl) (hXS _ hI) rfl ?_
      refine WT_skip 13 rfl rfl (by kernel_rfl) (hXS _ hI) rfl ?_
      refine WT_skip 14 rfl rfl (by kernel_rfl) (hXS _ hI) rfl ?_
      refine WT_skip 15 rfl rfl (by kernel_rfl) (hXS _ hI) rfl ?_
      refine WT_skip 16 rfl rfl (by kernel_rfl) (hXS _ hI) rfl ?_
      refine WT_skip 17 rfl rfl (by kernel_rfl) (hXS _ hI) rfl ?_
      refine WT_skip 18 rfl rfl (by kernel_rfl) (hXS _ hI) rfl ?_
      refine WT_skip 19 rfl rfl (by kernel_rfl) (hXS _ hI) rfl ?_
      refine WT_skip 20 rfl rfl (by kernel_rfl) (hXS _ hI) rfl ?_
      refine WT_take 21 rfl rfl (by kernel_rfl) (hXS _ hI) rfl (fun W hW => have hI := hSx W hW; (by first | exact rPickTB rfl rfl rfl | exact rPickFB rfl rfl rfl | exact rPickB rfl rfl rfl rfl)) ?_
      refine WT_take 22 rfl rfl (by kernel_rfl) (hXS _ hI) rfl (fun W hW => have hI := hSx W hW; (by first | exact rMoveB rfl rfl | exact rMove rfl)) ?_
      refine WT_skip 23 rfl rfl (by kernel_rfl) (hXS _ hI) rfl ?_
      refine WT_skip 24 rfl rfl (by kernel_rfl) (hXS _ hI) rfl ?_
      refine WT_skip 25 rfl rfl (by kernel_rfl) (hXS _ hI) rfl ?_
      refine WT_skip 26 rfl rfl (by kernel_rfl) (hXS _ hI) rfl ?_
      refine WT_skip 27 rfl rfl (by kernel_rfl) (hXS _ hI) rfl ?_
      refine WT_skip 28 rfl rfl (by kernel_rfl) (hXS _ hI) rfl ?_
      refine WT_skip 29 rfl rfl (by kernel_rfl) (hXS _ hI) rfl ?_
      refine WT_skip 30 rfl rfl (by kernel_rfl) (hXS _ hI) rfl ?_
      refine WT_skip 31 rfl rfl (by kernel_rfl) (hXS _ hI) rfl ?_
      refine WT_take 32 rfl rfl (by kernel_rfl) (hXS _ hI) rfl (fun W hW => have hI := hSx W hW; (by first | exact rPickTB rfl rfl rfl | exact rPickFB rfl rfl rfl | exact rPickB rfl rfl rfl rfl)) ?_
      refine WT_take 33 rfl rfl (by kernel_rfl) (hXS _ hI) rfl (fun W hW => have hI := hSx W hW; (by first | exact rAsgnB rfl rfl | exact rAsgn rfl)) ?_
      refine WT_end (by kernel_rfl) ?_
      refine W_ret ?_
      exact ret1 6 (.inr rfl) rfl ⟨rfl, hI.pu⟩
    | false =>
      rw [Bool.not_false, Bool.true_and, Bool.true_and]
      by_cases hav : (oAt l i).a = (oAt l k).res
      · rw [decide_eq_true hav, Bool.true_and]
        refine calls_of_W (N := Tryd.f14.ntmps) Tryd.func14 rfl rfl rfl ?_
        refine W_seq ?_
        refine W_region ?_
        refine WL_val rfl rfl rfl (by first | exact rAsgnB rfl rfl | exact rAsgn rfl) ?_
        refine WL_nil ?_
        refine W_seq ?_
        refine W_draw (by kernel_rfl) ?_
        refine WA_inv (T := []) hI.drew ?_
        intro Sx hSx hXS
        replace hI := hI.drew
        refine WT_take 0 rfl rfl (by kernel_rfl) (hXS _ hI) rfl (fun W hW => have hI := hSx W hW; (by first | exact rLd (v := .func _ _ _) rfl (by kernel_rfl) rfl (by first | exact hI.oldp hbx | exact hbx | exact hI.oldp hps | exact hps | exact hI.oldp hoi3 | exact hoi3 | exact hI.oldp hok5 | exact hok5) | exact rLd rfl (by kernel_rfl) rfl (by first | exact hI.oldp hbx | exact hbx | exact hI.oldp hps | exact hps | exact hI.oldp hoi3 | exact hoi3 | exact hI.oldp hok5 | exact hok5))) ?_
        refine WT_take 1 rfl rfl (by kernel_rfl) (hXS _ hI) rfl (fun W hW => have hI := hSx W hW; (by first | exact rMoveI rfl rfl | exact rMove rfl)) ?_
        refine WT_one 2 rfl (by kernel_rfl) rfl ?_
        refine WL_call rfl rfl rfl (rCallF (f := 11) (first := []) (cap := [_]) (vs := [.int .i64 _, .pointer _]) rfl rfl Tryd.func11 rfl rfl rfl) ?_
        refine (push_any _ (h.ops.pure hI.pu) (cellP hI.pu h.box) i (by assumption)).mono ?_
        rw [hbi]
        rintro e w1 ⟨rfl, hp⟩
        refine ⟨_, rfl, ?_⟩
        replace hI := hI.pure hp
        refine WL_nil ⟨hXS _ hI, ?_⟩
        refine WT_take 3 rfl rfl (by kernel_rfl) (hXS _ hI) rfl (fun W hW => have hI := hSx W hW; (by first | exact rMoveB rfl rfl | exact rMove rfl)) ?_
        first | refine WT_take 4 rfl rfl (by kernel_rfl) (hXS _ hI) rfl (fun W hW => have hI := hSx W hW; (by first | exact rLd (v := .func _ _ _) rfl (by kernel_rfl) rfl (by first | exact hI.oldp hbx | exact hbx | exact hI.oldp hps | exact hps | exact hI.oldp hoi3 | exact hoi3 | exact hI.oldp hok5 | exact hok5) | exact rLd rfl (by kernel_rfl) rfl (by first | exact hI.oldp hbx | exact hbx | exact hI.oldp hps | exact hps | exact hI.oldp hoi3 | exact hoi3 | exact hI.oldp hok5 | exact hok5))) ?_ | refine WT_skip 4 rfl rfl (by kernel_rfl) (hXS _ hI) rfl ?_
        first | refine WT_take 5 rfl rfl (by kernel_rfl) (hXS _ hI) rfl (fun W hW => have hI := hSx W hW; (by first | exact rMoveI rfl rfl | exact rMove rfl)) ?_ | refine WT_skip 5 rfl rfl (by kernel_rfl) (hXS _ hI) rfl ?_
        refine WT_one 6 rfl (by kernel_rfl) rfl ?_
        refine WL_call rfl rfl rfl (rCallF (f := 11) (first := []) (cap := [_]) (vs := [.int .i64 _, .pointer _]) rfl rfl Tryd.func11 rfl rfl rfl) ?_
        refine (push_any _ (h.ops.pure hI.pu) (cellP hI.pu h.box) k (by assumption)).mono ?_
        rw [hbk]
        rintro e w1 ⟨rfl, hp⟩
        refine ⟨_, rfl, ?_⟩
        replace hI := hI.pure hp
        refine WL_nil ⟨hXS _ hI, ?_⟩
        first | refine WT_take 7 rfl rfl (by kernel_rfl) (hXS _ hI) rfl (fun W hW => have hI := hSx W hW; (by first | exact rNotT rfl rfl | exact rNotF rfl rfl | exact rNot rfl rfl)) ?_ | refine WT_skip 7 rfl rfl (by kernel_rfl) (hXS _ hI) rfl ?_
        refine WT_take 8 rfl rfl (by kernel_rfl) (hXS _ hI) rfl (fun W hW => have hI := hSx W hW; (by first | exact rPickTB rfl rfl rfl | exact rPickFB rfl rfl rfl | exact rPickB rfl rfl rfl rfl)) ?_
        refine WT_take 9 rfl rfl (by kernel_rfl) (hXS _ hI) rfl (fun W hW => have hI := hSx W hW; (by first | exact rMoveB rfl rfl | exact rMove rfl)) ?_
        first | refine WT_take 10 rfl rfl (by kernel_rfl) (hXS _ hI) rfl (fun W hW => have hI := hSx W hW; (by first | exact rLd (v := .slice _ _ _) rfl (by kernel_rfl) rfl (by first | exact hI.oldp hbx | exact hbx | exact hI.oldp hps | exact hps | exact hI.oldp hoi3 | exact hoi3 | exact hI.oldp hok5 | exact hok5) | exact rLd rfl (by kernel_rfl) rfl (by first | exact hI.oldp hbx | exact hbx | exact hI.oldp hps | exact hps | exact hI.oldp hoi3 | exact hoi3 | exact hI.oldp hok5 | exact hok5))) ?_ | refine WT_skip 10 rfl rfl (by kernel_rfl) (hXS _ hI) rfl ?_
        first | refine WT_take 11 rfl rfl (by kernel_rfl) (hXS _ hI) rfl (fun W hW => have hI := hSx W hW; (by first | exact rMoveI rfl rfl | exact rMove rfl)) ?_ | refine WT_skip 11 rfl rfl (by kernel_rfl) (hXS _ hI) rfl ?_
        first | refine WT_take 12 rfl rfl (by kernel_rfl) (hXS _ hI) rfl (fun W hW => have hI := hSx W hW; (rIdx (sz := 8) rfl Tryd.underlying22 (by kernel_rfl) rfl rfl (by omega))) ?_ | refine WT_skip 12 rfl rfl (by kernel_rfl) (hXS _ hI) rfl ?_
        first | refine WT_take 13 rfl rfl (by kernel_rfl) (hXS _ hI) rfl (fun W hW => have hI := hSx W hW; (by first | exact rFldN (off := 3) rfl (by kernel_rfl) rfl | exact rFld (off := 3) rfl (by kernel_rfl) rfl)) ?_ | refine WT_skip 13 rfl rfl (by kernel_rfl) (hXS _ hI) rfl ?_
        first | refine WT_take 14 rfl rfl (by kernel_rfl) (hXS _ hI) rfl (fun W hW => have hI := hSx W hW; (by first | exact rLd (v := .int .i64 _) rfl (by kernel_rfl) rfl (by first | exact hI.oldp hbx | exact hbx | exact hI.oldp hps | exact hps | exact hI.oldp hoi3 | exact hoi3 | exact hI.oldp hok5 | exact hok5) | exact rLd rfl (by kernel_rfl) rfl (by first | exact hI.oldp hbx | exact hbx | exact hI.oldp hps | exact hps | exact hI.oldp hoi3 | exact hoi3 | exact hI.oldp hok5 | exact hok5))) ?_ | refine WT_skip 14 rfl rfl (by kernel_rfl) (hXS _ hI) rfl ?_
        first | refine WT_take 15 rfl rfl (by kernel_rfl) (hXS _ hI) rfl (fun W hW => have hI := hSx W hW; (by first | exact rLd (v := .slice _ _ _) rfl (by kernel_rfl) rfl (by first | exact hI.oldp hbx | exact hbx | exact hI.oldp hps | exact hps | exact hI.oldp hoi3 | exact hoi3 | exact hI.oldp hok5 | exact hok5) | exact rLd rfl (by kernel_rfl) rfl (by first | exact hI.oldp hbx | exact hbx | exact hI.oldp hps | exact hps | exact hI.oldp hoi3 | exact hoi3 | exact hI.oldp hok5 | exact hok5))) ?_ | refine WT_skip 15 rfl rfl (by kernel_rfl) (hXS _ hI) rfl ?_
        first | refine WT_take 16 rfl rfl (by kernel_rfl) (hXS _ hI) rfl (fun W hW => have hI := hSx W hW; (by first | exact rMoveI rfl rfl | exact rMove rfl)) ?_ | refine WT_skip 16 rfl rfl (by kernel_rfl) (hXS _ hI) rfl ?_
        first | refine WT_take 17 rfl rfl (by kernel_rfl) (hXS _ hI) rfl (fun W hW => have hI := hSx W hW; (rIdx (sz := 8) rfl Tryd.underlying22 (by kernel_rfl) rfl rfl (by omega))) ?_ | refine WT_skip 17 rfl rfl (by kernel_rfl) (hXS _ hI) rfl ?_
        first | refine WT_take 18 rfl rfl (by kernel_rfl) (hXS _ hI) rfl (fun W hW => have hI := hSx W hW; (by first | exact rFldN (off := 5) rfl (by kernel_rfl) rfl | exact rFld (off := 5) rfl (by kernel_rfl) rfl)) ?_ | refine WT_skip 18 rfl rfl (by kernel_rfl) (hXS _ hI) rfl ?_
        first | refine WT_take 19 rfl rfl (by kernel_rfl) (hXS _ hI) rfl (fun W hW => have hI := hSx W hW; (by first | exact rLd (v := .int .i64 _) rfl (by kernel_rfl) rfl (by first | exact hI.oldp hbx | exact hbx | exact hI.oldp hps | exact hps | exact hI.oldp hoi3 | exact hoi3 | exact hI.oldp hok5 | exact hok5) | exact rLd rfl (by kernel_rfl) rfl (by first | exact hI.oldp hbx | exact hbx | exact hI.oldp hps | exact hps | exact hI.oldp hoi3 | exact hoi3 | exact hI.oldp hok5 | exact hok5))) ?_ | refine WT_skip 19 rfl rfl (by kernel_rfl) (hXS _ hI) rfl ?_
        first | refine WT_take 20 rfl rfl (by kernel_rfl) (hXS _ hI) rfl (fun W hW => have hI := hSx W hW; (by first | exact rEqlT rfl rfl rfl (by omega) | exact rEqlF rfl rfl rfl (by omega) | exact rEql rfl rfl rfl)) ?_ | refine WT_skip 20 rfl rfl (by kernel_rfl) (hXS _ hI) rfl ?_
        refine WT_take 21 rfl rfl (by kernel_rfl) (hXS _ hI) rfl (fun W hW => have hI := hSx W hW; (by first | exact rPickTB rfl rfl rfl | exact rPickFB rfl rfl rfl | exact rPickB rfl rfl rfl rfl)) ?_
        refine WT_take 22 rfl rfl (by kernel_rfl) (hXS _ hI) rfl (fun W hW => have hI := hSx W hW; (by first | exact rMoveB rfl rfl | exact rMove rfl)) ?_
        first | refine WT_take 23 rfl rfl (by kernel_rfl) (hXS _ hI) rfl (fun W hW => have hI := hSx W hW; (by first | exact rLd (v := .slice _ _ _) rfl (by kernel_rfl) rfl (by first | exact hI.oldp hbx | exact hbx | exact hI.oldp hps | exact hps | exact hI.oldp hoi3 | exact hoi3 | exact hI.oldp hok5 | exact hok5) | exact rLd rfl (by kernel_rfl) rfl (by first | exact hI.oldp hbx | exact hbx | exact hI.oldp hps | exact hps | exact hI.oldp hoi3 | exact hoi3 | exact hI.oldp hok5 | exact hok5))) ?_ | refine WT_skip 23 rfl rfl (by kernel_rfl) (hXS _ hI) rfl ?_
        first | refine WT_take 24 rfl rfl (by kernel_rfl) (hXS _ hI) rfl (fun W hW => have hI := hSx W hW; (by first | exact rMoveI rfl rfl | exact rMove rfl)) ?_ | refine WT_skip 24 rfl rfl (by kernel_rfl) (hXS _ hI) rfl ?_
        first | refine WT_take 25 rfl rfl (by kernel_rfl) (hXS _ hI) rfl (fun W hW => have hI := hSx W hW; (rIdx (sz := 8) rfl Tryd.underlying22 (by kernel_rfl) rfl rfl (by omega))) ?_ | refine WT_skip 25 rfl rfl (by kernel_rfl) (hXS _ hI) rfl ?_
        first | refine WT_take 26 rfl rfl (by kernel_rfl) (hXS _ hI) rfl (fun W hW => have hI := hSx W hW; (by first | exact rLdA (n := 8) rfl (by kernel_rfl) (by kernel_rfl) rfl (by rfl) (fun k u hk => hI.oldp (hoi k u hk)) | exact rLdA (n := 8) rfl (by kernel_rfl) (by kernel_rfl) rfl (by rfl) hoi | exact rLdA (n := 8) rfl (by kernel_rfl) (by kernel_rfl) rfl (by rfl) (fun k u hk => hI.oldp (hok k u hk)) | exact rLdA (n := 8) rfl (by kernel_rfl) (by kernel_rfl) rfl (by rfl) hok)) ?_ | refine WT_skip 26 rfl rfl (by kernel_rfl) (hXS _ hI) rfl ?_
        first | refine WT_take 27 rfl rfl (by kernel_rfl) (hXS _ hI) rfl (fun W hW => have hI := hSx W hW; (by first | exact rLd (v := .slice _ _ _) rfl (by kernel_rfl) rfl (by first | exact hI.oldp hbx | exact hbx | exact hI.oldp hps | exact hps | exact hI.oldp hoi3 | exact hoi3 | exact hI.oldp hok5 | exact hok5) | exact rLd rfl (by kernel_rfl) rfl (by first | exact hI.oldp hbx | exact hbx | exact hI.oldp hps | exact hps | exact hI.oldp hoi3 | exact hoi3 | exact hI.oldp hok5 | exact hok5))) ?_ | refine WT_skip 27 rfl rfl (by kernel_rfl) (hXS _ hI) rfl ?_
        first | refine WT_take 28 rfl rfl (by kernel_rfl) (hXS _ hI) rfl (fun W hW => have hI := hSx W hW; (by first | exact rMoveI rfl rfl | exact rMove rfl)) ?_ | refine WT_skip 28 rfl rfl (by kernel_rfl) (hXS _ hI) rfl ?_
        first | refine WT_take 29 rfl rfl (by kernel_rfl) (hXS _ hI) rfl (fun W hW => have hI := hSx W hW; (rIdx (sz := 8) rfl Tryd.underlying22 (by kernel_rfl) rfl rfl (by omega))) ?_ | refine WT_skip 29 rfl rfl (by kernel_rfl) (hXS _ hI) rfl ?_
        first | refine WT_take 30 rfl rfl (by kernel_rfl) (hXS _ hI) rfl (fun W hW => have hI := hSx W hW; (by first | exact rLdA (n := 8) rfl (by kernel_rfl) (by kernel_rfl) rfl (by rfl) (fun k u hk => hI.oldp (hoi k u hk)) | exact rLdA (n := 8) rfl (by kernel_rfl) (by kernel_rfl) rfl (by rfl) hoi | exact rLdA (n := 8) rfl (by kernel_rfl) (by kernel_rfl) rfl (by rfl) (fun k u hk => hI.oldp (hok k u hk)) | exact rLdA (n := 8) rfl (by kernel_rfl) (by kernel_rfl) rfl (by rfl) hok)) ?_ | refine WT_skip 30 rfl rfl (by kernel_rfl) (hXS _ hI) rfl ?_
        refine WT_one 31 rfl (by kernel_rfl) rfl ?_
        refine WL_call rfl rfl rfl (rCall (vs := [.agg _, .agg _]) rfl Tryd.func15 rfl rfl rfl) ?_
        refine (before_any (oAt l k) (oAt l i) _).mono ?_
        rintro e w1 ⟨rfl, hp⟩
        refine ⟨_, rfl, ?_⟩
        replace hI := hI.pure hp
        refine WL_nil ⟨hXS _ hI, ?_⟩
        refine WT_take 32 rfl rfl (by kernel_rfl) (hXS _ hI) rfl (fun W hW => have hI := hSx W hW; (by first | exact rPickTB rfl rfl rfl | exact rPickFB rfl rfl rfl | exact rPickB rfl rfl rfl rfl)) ?_
        refine WT_take 33 rfl rfl (by kernel_rfl) (hXS _ hI) rfl (fun W hW => have hI := hSx W hW; (by first | exact rAsgnB rfl rfl | exact rAsgn rfl)) ?_
        refine WT_end (by kernel_rfl) ?_
        refine W_ret ?_
        exact ret1 6 (.inr rfl) rfl ⟨rfl, hI.pu⟩
      · rw [decide_eq_false hav, Bool.false_and]
        refine calls_of_W (N := Tryd.f14.ntmps) Tryd.func14 rfl rfl rfl ?_
        refine W_seq ?_
        refine W_region ?_
        refine WL_val rfl rfl rfl (by first | exact rAsgnB rfl rfl | exact rAsgn rfl) ?_
        refine WL_nil ?_
        refine W_seq ?_
        refine W_draw (by kernel_rfl) ?_
        refine WA_inv (T := []) hI.drew ?_
        intro Sx hSx hXS
        replace hI := hI.drew
        refine WT_take 0 rfl rfl (by kernel_rfl) (hXS _ hI) rfl (fun W hW => have hI := hSx W hW; (by first | exact rLd (v := .func _ _ _) rfl (by kernel_rfl) rfl (by first | exact hI.oldp hbx | exact hbx | exact hI.oldp hps | exact hps | exact hI.oldp hoi3 | exact hoi3 | exact hI.oldp hok5 | exact hok5) | exact rLd rfl (by kernel_rfl) rfl (by first | exact hI.oldp hbx | exact hbx | exact hI.oldp hps | exact hps | exact hI.oldp hoi3 | exact hoi3 | exact hI.oldp hok5 | exact hok5))) ?_
        refine WT_take 1 rfl rfl (by kernel_rfl) (hXS _ hI) rfl (fun W hW => have hI := hSx W hW; (by first | exact rMoveI rfl rfl | exact rMove rfl)) ?_
        refine WT_one 2 rfl (by kernel_rfl) rfl ?_
        refine WL_call rfl rfl rfl (rCallF (f := 11) (first := []) (cap := [_]) (vs := [.int .i64 _, .pointer _]) rfl rfl Tryd.func11 rfl rfl rfl) ?_
        refine (push_any _ (h.ops.pure hI.pu) (cellP hI.pu h.box) i (by assumption)).mono ?_
        rw [hbi]
        rintro e w1 ⟨rfl, hp⟩
        refine ⟨_, rfl, ?_⟩
        replace hI := hI.pure hp
        refine WL_nil ⟨hXS _ hI, ?_⟩
        refine WT_take 3 rfl rfl (by kernel_rfl) (hXS _ hI) rfl (fun W hW => have hI := hSx W hW; (by first | exact rMoveB rfl rfl | exact rMove rfl)) ?_
        first | refine WT_take 4 rfl rfl (by kernel_rfl) (hXS _ hI) rfl (fun W hW => have hI := hSx W hW; (by first | exact rLd (v := .func _ _ _) rfl (by kernel_rfl) rfl (by first | exact hI.oldp hbx | exact hbx | exact hI.oldp hps | exact hps | exact hI.oldp hoi3 | exact hoi3 | exact hI.oldp hok5 | exact hok5) | exact rLd rfl (by kernel_rfl) rfl (by first | exact hI.oldp hbx | exact hbx | exact hI.oldp hps | exact hps | exact hI.oldp hoi3 | exact hoi3 | exact hI.oldp hok5 | exact hok5))) ?_ | refine WT_skip 4 rfl rfl (by kernel_rfl) (hXS _ hI) rfl ?_
        first | refine WT_take 5 rfl rfl (by kernel_rfl) (hXS _ hI) rfl (fun W hW => have hI := hSx W hW; (by first | exact rMoveI rfl rfl | exact rMove rfl)) ?_ | refine WT_skip 5 rfl rfl (by kernel_rfl) (hXS _ hI) rfl ?_
        refine WT_one 6 rfl (by kernel_rfl) rfl ?_
        refine WL_call rfl rfl rfl (rCallF (f := 11) (first := []) (cap := [_]) (vs := [.int .i64 _, .pointer _]) rfl rfl Tryd.func11 rfl rfl rfl) ?_
        refine (push_any _ (h.ops.pure hI.pu) (cellP hI.pu h.box) k (by assumption)).mono ?_
        rw [hbk]
        rintro e w1 ⟨rfl, hp⟩
        refine ⟨_, rfl, ?_⟩
        replace hI := hI.pure hp
        refine WL_nil ⟨hXS _ hI, ?_⟩
        first | refine WT_take 7 rfl rfl (by kernel_rfl) (hXS _ hI) rfl (fun W hW => have hI := hSx W hW; (by first | exact rNotT rfl rfl | exact rNotF rfl rfl | exact rNot rfl rfl)) ?_ | refine WT_skip 7 rfl rfl (by kernel_rfl) (hXS _ hI) rfl ?_
        refine WT_take 8 rfl rfl (by kernel_rfl) (hXS _ hI) rfl (fun W hW => have hI := hSx W hW; (by first | exact rPickTB rfl rfl rfl | exact rPickFB rfl rfl rfl | exact rPickB rfl rfl rfl rfl)) ?_
        refine WT_take 9 rfl rfl (by kernel_rfl) (hXS _ hI) rfl (fun W hW => have hI := hSx W hW; (by first | exact rMoveB rfl rfl | exact rMove rfl)) ?_
        first | refine WT_take 10 rfl rfl (by kernel_rfl) (hXS _ hI) rfl (fun W hW => have hI := hSx W hW; (by first | exact rLd (v := .slice _ _ _) rfl (by kernel_rfl) rfl (by first | exact hI.oldp hbx | exact hbx | exact hI.oldp hps | exact hps | exact hI.oldp hoi3 | exact hoi3 | exact hI.oldp hok5 | exact hok5) | exact rLd rfl (by kernel_rfl) rfl (by first | exact hI.oldp hbx | exact hbx | exact hI.oldp hps | exact hps | exact hI.oldp hoi3 | exact hoi3 | exact hI.oldp hok5 | exact hok5))) ?_ | refine WT_skip 10 rfl rfl (by kernel_rfl) (hXS _ hI) rfl ?_
        first | refine WT_take 11 rfl rfl (by kernel_rfl) (hXS _ hI) rfl (fun W hW => have hI := hSx W hW; (by first | exact rMoveI rfl rfl | exact rMove rfl)) ?_ | refine WT_skip 11 rfl rfl (by kernel_rfl) (hXS _ hI) rfl ?_
        first | refine WT_take 12 rfl rfl (by kernel_rfl) (hXS _ hI) rfl (fun W hW => have hI := hSx W hW; (rIdx (sz := 8) rfl Tryd.underlying22 (by kernel_rfl) rfl rfl (by omega))) ?_ | refine WT_skip 12 rfl rfl (by kernel_rfl) (hXS _ hI) rfl ?_
        first | refine WT_take 13 rfl rfl (by kernel_rfl) (hXS _ hI) rfl (fun W hW => have hI := hSx W hW; (by first | exact rFldN (off := 3) rfl (by kernel_rfl) rfl | exact rFld (off := 3) rfl (by kernel_rfl) rfl)) ?_ | refine WT_skip 13 rfl rfl (by kernel_rfl) (hXS _ hI) rfl ?_
        first | refine WT_take 14 rfl rfl (by kernel_rfl) (hXS _ hI) rfl (fun W hW => have hI := hSx W hW; (by first | exact rLd (v := .int .i64 _) rfl (by kernel_rfl) rfl (by first | exact hI.oldp hbx | exact hbx | exact hI.oldp hps | exact hps | exact hI.oldp hoi3 | exact hoi3 | exact hI.oldp hok5 | exact hok5) | exact rLd rfl (by kernel_rfl) rfl (by first | exact hI.oldp hbx | exact hbx | exact hI.oldp hps | exact hps | exact hI.oldp hoi3 | exact hoi3 | exact hI.oldp hok5 | exact hok5))) ?_ | refine WT_skip 14 rfl rfl (by kernel_rfl) (hXS _ hI) rfl ?_
        first | refine WT_take 15 rfl rfl (by kernel_rfl) (hXS _ hI) rfl (fun W hW => have hI := hSx W hW; (by first | exact rLd (v := .slice _ _ _) rfl (by kernel_rfl) rfl (by first | exact hI.oldp hbx | exact hbx | exact hI.oldp hps | exact hps | exact hI.oldp hoi3 | exact hoi3 | exact hI.oldp hok5 | exact hok5) | exact rLd rfl (by kernel_rfl) rfl (by first | exact hI.oldp hbx | exact hbx | exact hI.oldp hps | exact hps | exact hI.oldp hoi3 | exact hoi3 | exact hI.oldp hok5 | exact hok5))) ?_ | refine WT_skip 15 rfl rfl (by kernel_rfl) (hXS _ hI) rfl ?_
        first | refine WT_take 16 rfl rfl (by kernel_rfl) (hXS _ hI) rfl (fun W hW => have hI := hSx W hW; (by first | exact rMoveI rfl rfl | exact rMove rfl)) ?_ | refine WT_skip 16 rfl rfl (by kernel_rfl) (hXS _ hI) rfl ?_
        first | refine WT_take 17 rfl rfl (by kernel_rfl) (hXS _ hI) rfl (fun W hW => have hI := hSx W hW; (rIdx (sz := 8) rfl Tryd.underlying22 (by kernel_rfl) rfl rfl (by omega))) ?_ | refine WT_skip 17 rfl rfl (by kernel_rfl) (hXS _ hI) rfl ?_
        first | refine WT_take 18 rfl rfl (by kernel_rfl) (hXS _ hI) rfl (fun W hW => have hI := hSx W hW; (by first | exact rFldN (off := 5) rfl (by kernel_rfl) rfl | exact rFld (off := 5) rfl (by kernel_rfl) rfl)) ?_ | refine WT_skip 18 rfl rfl (by kernel_rfl) (hXS _ hI) rfl ?_
        first | refine WT_take 19 rfl rfl (by kernel_rfl) (hXS _ hI) rfl (fun W hW => have hI := hSx W hW; (by first | exact rLd (v := .int .i64 _) rfl (by kernel_rfl) rfl (by first | exact hI.oldp hbx | exact hbx | exact hI.oldp hps | exact hps | exact hI.oldp hoi3 | exact hoi3 | exact hI.oldp hok5 | exact hok5) | exact rLd rfl (by kernel_rfl) rfl (by first | exact hI.oldp hbx | exact hbx | exact hI.oldp hps | exact hps | exact hI.oldp hoi3 | exact hoi3 | exact hI.oldp hok5 | exact hok5))) ?_ | refine WT_skip 19 rfl rfl (by kernel_rfl) (hXS _ hI) rfl ?_
        first | refine WT_take 20 rfl rfl (by kernel_rfl) (hXS _ hI) rfl (fun W hW => have hI := hSx W hW; (by first | exact rEqlT rfl rfl rfl (by omega) | exact rEqlF rfl rfl rfl (by omega) | exact rEql rfl rfl rfl)) ?_ | refine WT_skip 20 rfl rfl (by kernel_rfl) (hXS _ hI) rfl ?_
        refine WT_take 21 rfl rfl (by kernel_rfl) (hXS _ hI) rfl (fun W hW => have hI := hSx W hW; (by first | exact rPickTB rfl rfl rfl | exact rPickFB rfl rfl rfl | exact rPickB rfl rfl rfl rfl)) ?_
        refine WT_take 22 rfl rfl (by kernel_rfl) (hXS _ hI) rfl (fun W hW => have hI := hSx W hW; (by first | exact rMoveB rfl rfl | exact rMove rfl)) ?_
        refine WT_skip 23 rfl rfl (by kernel_rfl) (hXS _ hI) rfl ?_
        refine WT_skip 24 rfl rfl (by kernel_rfl) (hXS _ hI) rfl ?_
        refine WT_skip 25 rfl rfl (by kernel_rfl) (hXS _ hI) rfl ?_
        refine WT_skip 26 rfl rfl (by kernel_rfl) (hXS _ hI) rfl ?_
        refine WT_skip 27 rfl rfl (by kernel_rfl) (hXS _ hI) rfl ?_
        refine WT_skip 28 rfl rfl (by kernel_rfl) (hXS _ hI) rfl ?_
        refine WT_skip 29 rfl rfl (by kernel_rfl) (hXS _ hI) rfl ?_
        refine WT_skip 30 rfl rfl (by kernel_rfl) (hXS _ hI) rfl ?_
        refine WT_skip 31 rfl rfl (by kernel_rfl) (hXS _ hI) rfl ?_
        refine WT_take 32 rfl rfl (by kernel_rfl) (hXS _ hI) rfl (fun W hW => have hI := hSx W hW; (by first | exact rPickTB rfl rfl rfl | exact rPickFB rfl rfl rfl | exact rPickB rfl rfl rfl rfl)) ?_
        refine WT_take 33 rfl rfl (by kernel_rfl) (hXS _ hI) rfl (fun W hW => have hI := hSx W hW; (by first | exact rAsgnB rfl rfl | exact rAsgn rfl)) ?_
        refine WT_end (by kernel_rfl) ?_
        refine W_ret ?_
        exact ret1 6 (.inr rfl) rfl ⟨rfl, hI.pu⟩
end
end Go.Proofs.YtijgkocolajghaaDoor
