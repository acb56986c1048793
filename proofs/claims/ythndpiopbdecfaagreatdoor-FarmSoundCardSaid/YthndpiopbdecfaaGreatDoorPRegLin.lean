/- Texts of the proof, merged: FarD, FarG, FarH, FarI, FarJ, StoR, StoS, StoT, StoU, StoW, EvLaw2, RegLin. -/
import Derived.Test.YthndpiopbdecfaaGreatDoorPGen7
import Derived.Test.YthndpiopbdecfaaGreatDoorPStoL
import Derived.Test.YthndpiopbdecfaaGreatDoorPTell
import Derived.Test.YthndpiopbdecfaaGreatDoorPLin1
import Derived.Test.YthndpiopbdecfaaGreatDoorPLin10
import Derived.Test.YthndpiopbdecfaaGreatDoorPStoA
namespace Go.Proofs.YthndpiopbdecfaaGreatDoor
open Go.RowKit
set_option linter.unusedVariables false
set_option linter.unusedSimpArgs false
/-- What must stand in memory. -/
structure FaG (w : World) : Prop where
 num : NumG w
 err : GlobOk w
 kn : KnOk w
theorem FaG.pure {w w' : World} (h : FaG w) (hp : Pure w w') : FaG w' :=
 ⟨h.num.chg (hp.chg (fun _ => False)) NoG.none, ((Inv.start (fun _ => False) w).pure hp).oldp h.err, h.kn.pure hp⟩
def zRep : Array Value := #[strV [], .slice none 0 0, .int .i64 0, .slice none 0 0, .int .i64 0]
/-- What a run comes to: the trial's state when its tape is read, and at its end. -/
structure RunTo (nums : List Int) (n k a t : Nat) (bk : Bool) (gen : List UInt8) (t2 : Tr) : Prop where
 go : ∃ g t1, parsedT gen = some g ∧ MvS (s0 n k a t bk) t1.st ∧ (nums = [] → t1 = ⟨s0 n k a t bk, g, 0, 0, false⟩) ∧ FinR nums k t1 t2
def RunBad (nums : List Int) (n k a t : Int) (bk : Bool) (gen : List UInt8) (bud : Int) : Prop :=
 2000 < nums.length ∨ bud < 0 ∨ 1000000 < bud ∨ ¬ SetOk n k a t ∨ parsedT gen = none ∨
  ∃ (n' k' a' t' : Nat) (t2 : Tr), n = n' ∧ k = k' ∧ a = a' ∧ t = t' ∧ RunTo nums n' k' a' t' bk gen t2 ∧ (evF t2.st.evs = none ∨ ∃ ops, evF t2.st.evs = some ops ∧ ¬ OkLin 1 ops bud)
def RunGood (nums : List Int) (n k a t : Int) (bk : Bool) (title gen : List UInt8) (bud : Int) (w0 : World) (en : Ending) (w' : World) : Prop :=
 ∃ (n' k' a' t' : Nat) (t2 : Tr) (ops : List Op8) (A1 : Option Addr) (c1 : Nat) (A2 : Option Addr) (c2 : Nat), n = n' ∧ k = k' ∧ a = a' ∧ t = t' ∧ SetOk n k a t ∧ (0 ≤ bud ∧ bud ≤ 1000000) ∧ RunTo nums n' k' a' t' bk gen t2 ∧ t2.st.evs.length ≤ 120 ∧ evF t2.st.evs = some ops ∧ OkLin 1 ops bud ∧
  en = .returned (.tuple #[.agg #[strV title, .slice A1 t2.st.evs.length c1, .int .i64 (verdF 1 ops befB bud.toNat).1, .slice A2 (ordF (verdF 1 ops befB bud.toNat)).length c2, .int .i64 ((verdF 1 ops befB bud.toNat).2.ent.length : Int)], .nilIface]) ∧
  Inv (fun _ => False) w0 w' [Row 0 48 7 A1 t2.st.evs.length c1 (t2.st.evs.flatMap evL), StE A2 c2 (ordF (verdF 1 ops befB bud.toNat))]
def RunPost (nums : List Int) (n k a t : Int) (bk : Bool) (title gen : List UInt8) (bud : Int) (w0 : World) (en : Ending) (w' : World) : Prop :=
 (RunBad nums n k a t bk gen bud ∧ (∃ T v, en = .returned (.tuple #[.agg zRep, .iface T v])) ∧ Pure w0 w') ∨ RunGood nums n k a t bk title gen bud w0 en w'
theorem Mv.nk {s s' : StS} (h : Mv s s') : s'.n = s.n ∧ s'.k = s.k := by
 rcases h with ⟨ms, _, rfl⟩ | ⟨c, key, wr, v, _, _, _, _, _, rfl⟩ | ⟨c, _, _, rfl⟩ | ⟨j, m, _, rfl⟩
 ·exact ⟨rfl, rfl⟩
 ·exact begS_nk ..
 ·exact ⟨rfl, rfl⟩
 ·exact del_nk ..
set_option maxHeartbeats 8000000 in
theorem frun_any (n k a t : Int) (bk : Bool) (title gen : List UInt8) (bud : Int) (A : Option Addr) (len cp : Nat) (nums : List Int) (D : Nat → Prop) (w0 : World) (hN : Ints w0 D (.slice A len cp) nums) (hG : FaG w0) (hgl : gen.length ≤ 1000000000) :
  Calls Tryz.prog 8 #[.agg #[.int .i64 n, .int .i64 k, .int .i64 a, .int .i64 t, .bool bk, strV title, strV gen, .int .i64 bud], .slice A len cp] w0 (RunPost nums n k a t bk title gen bud w0) := by
 have hI := Inv.start (fun _ => False) w0
 have hln : len = nums.length := by
  obtain ⟨A', c', hv, _⟩ := hN
  injection hv
 subst hln
 refine Vl Tryz.f8.ntmps Tryz.func8 rfl ?_
 refine W_seq (W_region (T3 (.agg _) (#[_, _, _, _, _, _, _, _]) hI rfl ?_))
 clear hI; rintro b2 w - - hI
 refine T0 (.agg #[.string ⟨#[]⟩, .slice none 0 0, .int .i64 0, .slice none 0 0, .int .i64 0]) (#[.string ⟨#[]⟩, .slice none 0 0, .int .i64 0, .slice none 0 0, .int .i64 0]) hI rfl ?_
 clear hI; rintro b4 w - - hI
 refine Ve rfl (WL_nil ?_)
 have hBad : ∀ {ρ : Env} {w : World} {T : TypeId} {v : Value} {H : List Ent}, Inv (fun _ => False) w0 w (B b4 36 zRep :: H) → RunBad nums n k a t bk gen bud → ρ 4 = .pointer (some ⟨b4, 0, none⟩) → ρ 5 = .iface T v →
   retQ Tryz.prog Tryz.f8 (RunPost nums n k a t bk title gen bud w0) .ret ρ w := by
  intro ρ w T v H hI hb h4 h5
  exact retC2 (n := 5) (t := 36) (.inr rfl) rfl h4 (by kernel_rfl) (by kernel_rfl) rfl hI.g0 (.inl ⟨hb, ⟨T, v, by rw [h5]⟩, hI.pu⟩)
 refine W_seq_cut (fun ρ w => nums.length ≤ 2000 ∧ (0 ≤ bud ∧ bud ≤ 1000000) ∧ Has ρ [(4, .pointer (some ⟨b4, 0, none⟩)), (2, .pointer (some ⟨b2, 0, none⟩)), (1, .slice A nums.length cp)] ∧ Inv (fun _ => False) w0 w [B b4 36 zRep, B b2 25 #[.int .i64 n, .int .i64 k, .int .i64 a, .int .i64 t, .bool bk, strV title, strV gen, .int .i64 bud]]) ?_ ?_
 ·by_cases h1 : 2000 < nums.length
  ·refine W_seq (W_region (Vg rfl (Vt rfl Tryz.underlying26 rfl (Tm rfl (V2 rfl (V1 rfl (V1 rfl (V1 rfl (Vd rfl (V2 rfl (V1 rfl (V1 rfl (V1 rfl ?_)))))))))))))
   refine Vd rfl (WL_nil (W_cond true rfl (W_seq (W_region (T5 [] [_, _, _, _, _] rfl [.string ⟨#[]⟩, .slice none 0 0, .int .i64 0, .slice none 0 0, .int .i64 0] [] rfl (fun _ => by kernel_rfl) (Vx rfl Tryz.underlying49 rfl (T1 5 (#[_, _, _, _, _]) (.agg _) hI rfl ?_)))))))
   clear hI; intro w hI
   refine Vk rfl (WL_nil ?_)
   refine W_ret ?_
   exact hBad hI (.inl h1) rfl rfl
  by_cases h2 : bud < 0
  ·refine W_seq (W_region (Vg rfl (Vt rfl Tryz.underlying26 rfl (Tc rfl (V2 rfl (V5 7 rfl (V3 (.int .i64 _) rfl (hI.c1 rfl) (Vr rfl (V9 rfl (V2 rfl (V1 rfl (V1 rfl (V1 rfl ?_)))))))))))))
   refine Vd rfl (WL_nil (W_cond true rfl (W_seq (W_region (T5 [] [_, _, _, _, _] rfl [.string ⟨#[]⟩, .slice none 0 0, .int .i64 0, .slice none 0 0, .int .i64 0] [] rfl (fun _ => by kernel_rfl) (Vx rfl Tryz.underlying49 rfl (T1 5 (#[_, _, _, _, _]) (.agg _) hI rfl ?_)))))))
   clear hI; intro w hI
   refine Vk rfl (WL_nil ?_)
   refine W_ret ?_
   exact hBad hI (.inr (.inl h2)) rfl rfl
  by_cases h3 : 1000000 < bud
  ·refine W_seq (W_region (Vg rfl (Vt rfl Tryz.underlying26 rfl (Tc rfl (V2 rfl (V5 7 rfl (V3 (.int .i64 _) rfl (hI.c1 rfl) (Vn rfl (V9 rfl (V2 rfl (V5 7 rfl (V3 (.int .i64 _) rfl (hI.c1 rfl) (Tm rfl ?_)))))))))))))
   refine V9 rfl (WL_nil (W_cond true rfl (W_seq (W_region (T5 [] [_, _, _, _, _] rfl [.string ⟨#[]⟩, .slice none 0 0, .int .i64 0, .slice none 0 0, .int .i64 0] [] rfl (fun _ => by kernel_rfl) (Vx rfl Tryz.underlying49 rfl (T1 5 (#[_, _, _, _, _]) (.agg _) hI rfl ?_)))))))
   clear hI; intro w hI
   refine Vk rfl (WL_nil ?_)
   refine W_ret ?_
   exact hBad hI (.inr (.inr (.inl h3))) rfl rfl
  refine W_seq (W_region (Vg rfl (Vt rfl Tryz.underlying26 rfl (Tc rfl (V2 rfl (V5 7 rfl (V3 (.int .i64 _) rfl (hI.c1 rfl) (Vn rfl (V9 rfl (V2 rfl (V5 7 rfl (V3 (.int .i64 _) rfl (hI.c1 rfl) (Tc rfl ?_)))))))))))))
  refine V9 rfl (WL_nil (W_cond false rfl (W_skip ?_)))
  exact ⟨by omega, ⟨by omega, by omega⟩, ⟨rfl, rfl, rfl, trivial⟩, hI⟩
 clear hI
 rintro ρ w ⟨hlen, hbud, hH, hI⟩
 obtain ⟨σ, rfl⟩ := hH.open
 have hSet : ∀ (w : World) (H : List Ent), Inv (fun _ => False) w0 w (B b4 36 zRep :: B b2 25 #[.int .i64 n, .int .i64 k, .int .i64 a, .int .i64 t, .bool bk, strV title, strV gen, .int .i64 bud] :: H) → ∀ (j : Nat) (u : Value), [.int .i64 n, .int .i64 k, .int .i64 a, .int .i64 t, .bool bk][j]? = some u → w.cell? ⟨b2, 0 + j, none⟩ = some u := by
  intro w H hI j u hj
  rw [Nat.zero_add]
  refine hI.c1 ?_
  match j, hj with
  | 0, h => exact h
  | 1, h => exact h
  | 2, h => exact h
  | 3, h => exact h
  | 4, h => exact h
  | j + 5, h => simp at h
 by_cases hs : SetOk n k a t
 rotate_left
 ·refine W_seq (W_region (V5 0 rfl (Tt 5 [.int .i64 n, .int .i64 k, .int .i64 a, .int .i64 t, .bool bk] rfl (hSet _ _ hI) (V6 [.agg _] rfl Tryz.func12 rfl ?_))))
  refine (new_bad n k a t bk hs _).mono ?_
  rintro e w1 ⟨⟨z, rfl⟩, hp⟩
  refine ⟨_, rfl, ?_⟩
  replace hI := hI.pure hp
  refine Vv rfl (Vf rfl (Vf rfl (U5 rfl (Vk rfl (WL_nil (W_seq (W_seq (W_region (Vo rfl (Tf rfl Tryz.underlying29 rfl (WL_nil (W_cond true rfl (W_seq ?_)))))))))))))
  refine W_region (T5 [] [_, _, _, _, _] rfl [.string ⟨#[]⟩, .slice none 0 0, .int .i64 0, .slice none 0 0, .int .i64 0] [] rfl (fun _ => by kernel_rfl) (Vo rfl (T1 5 (#[_, _, _, _, _]) (.agg _) hI rfl ?_)))
  clear hI; intro w hI
  refine Vk rfl (WL_nil ?_)
  refine W_ret ?_
  exact hBad hI (.inr (.inr (.inr (.inl hs)))) rfl rfl
 obtain ⟨n', rfl⟩ : ∃ n' : Nat, n = n' := ⟨n.toNat, by have := hs.1; omega⟩
 obtain ⟨k', rfl⟩ : ∃ k' : Nat, k = k' := ⟨k.toNat, by have := hs.2.1; omega⟩
 obtain ⟨a', rfl⟩ : ∃ a' : Nat, a = a' := ⟨a.toNat, by have := hs.2.2.1; omega⟩
 obtain ⟨t', rfl⟩ : ∃ t' : Nat, t = t' := ⟨t.toNat, by have := hs.2.2.2; omega⟩
 refine W_seq (W_region (V5 0 rfl (Tt 5 [.int .i64 (n' : Int), .int .i64 (k' : Int), .int .i64 (a' : Int), .int .i64 (t' : Int), .bool bk] rfl (hSet _ _ hI) (V6 [.agg _] rfl Tryz.func12 rfl ?_))))
 refine (new_any n' k' a' t' bk hs _).mono ?_
 rintro e w1 ⟨sb, nb, cb, rfl, hT⟩
 refine ⟨_, rfl, ?_⟩
 replace hI := (hI.app hT).perm List.perm_append_comm
 refine Vv rfl (Vf rfl (Vf rfl (U5 rfl (Ve rfl (WL_nil ?_)))))
 replace hI : Inv (fun _ => False) w0 _ (B b4 36 zRep :: B b2 25 #[.int .i64 (n' : Int), .int .i64 (k' : Int), .int .i64 (a' : Int), .int .i64 (t' : Int), .bool bk, strV title, strV gen, .int .i64 bud] :: spt (zL sb nb cb) (s0 n' k' a' t' bk)) := hI
 refine W_seq (W_seq (W_region (T6 rfl (Tb rfl Tryz.underlying29 rfl (WL_nil (W_cond false rfl (W_skip ?_)))))))
 cases hpg : parsedT gen with
 | none =>
  refine W_seq (W_region (V5 6 rfl (V3 (.string _) rfl (hI.c1 rfl) (V6 [.string _] rfl Tryz.func13 rfl ?_))))
  refine (parse_any gen _ (hG.pure hI.pu).num (by omega)).mono ?_
  rintro e w1 (⟨g, v, Lg, hg, _⟩ | ⟨_, ⟨U, u, rfl⟩, hp⟩)
  ·rw [hpg] at hg; cases hg
  refine ⟨_, rfl, ?_⟩
  replace hI := hI.pure hp
  refine Vv rfl (Vf rfl (Vf rfl (Ve rfl (Vk rfl (WL_nil (W_seq (W_seq (W_region (Vo rfl (Tf rfl Tryz.underlying29 rfl (WL_nil (W_cond true rfl (W_seq ?_)))))))))))))
  refine W_region (T5 [] [_, _, _, _, _] rfl [.string ⟨#[]⟩, .slice none 0 0, .int .i64 0, .slice none 0 0, .int .i64 0] [] rfl (fun _ => by kernel_rfl) (Vo rfl (T1 5 (#[_, _, _, _, _]) (.agg _) hI rfl ?_)))
  clear hI; intro w hI
  refine Vk rfl (WL_nil ?_)
  refine W_ret ?_
  exact hBad hI (.inr (.inr (.inr (.inr (.inl hpg))))) rfl rfl
 | some g0 =>
  refine W_seq (W_region (V5 6 rfl (V3 (.string _) rfl (hI.c1 rfl) (V6 [.string _] rfl Tryz.func13 rfl ?_))))
  refine (parse_any gen _ (hG.pure hI.pu).num (by omega)).mono ?_
  rintro e w1 (⟨g, v, Lg, hg, rfl, hr0, hT⟩ | ⟨hg, _⟩)
  rotate_left
  ·rw [hpg] at hg; cases hg
  obtain rfl : g0 = g := by rw [hpg] at hg; exact Option.some.inj hg
  refine ⟨_, rfl, ?_⟩
  replace hI := (hI.app hT).perm (List.perm_append_comm_assoc Lg [B b4 36 zRep, B b2 25 #[.int .i64 (n' : Int), .int .i64 (k' : Int), .int .i64 (a' : Int), .int .i64 (t' : Int), .bool bk, strV title, strV gen, .int .i64 bud]] (spt (zL sb nb cb) (s0 n' k' a' t' bk)))
  refine Vv rfl (Vf rfl (Vf rfl (Tg rfl (Ve rfl (WL_nil ?_)))))
  replace hI : Inv (fun _ => False) w0 _ (B b4 36 zRep :: B b2 25 #[.int .i64 (n' : Int), .int .i64 (k' : Int), .int .i64 (a' : Int), .int .i64 (t' : Int), .bool bk, strV title, strV gen, .int .i64 bud] :: (Lg ++ spt (zL sb nb cb) (s0 n' k' a' t' bk))) := hI
  refine W_seq (W_seq (W_region (T6 rfl (Tb rfl Tryz.underlying29 rfl (WL_nil (W_cond false rfl (W_skip ?_)))))))
  obtain ⟨T, bv, rfl⟩ := hr0.val
  obtain ⟨pp, hpp⟩ : ∃ pp : FPlan, (⟨n', k', a', t', bk, title, gen, bud⟩ : FPlan) = pp := ⟨_, rfl⟩
  refine W_seq_cut (fun ρ w => ∃ (tb q : Nat) (A3 : Option Addr) (c3 : Nat), Has ρ [(9, at0 tb), (6, .pointer (some ⟨sb, 0, none⟩)), (4, .pointer (some ⟨b4, 0, none⟩)), (2, .pointer (some ⟨b2, 0, none⟩)), (1, .slice A nums.length cp)] ∧
   Inv (fun _ => False) w0 w (triE tb sb (.iface T (at0 bv)) q pp 0 false :: tapeE q (.slice A3 nums.length c3) 0 :: Row 0 3 1 A3 nums.length c3 (nums.map (Value.int .i64)) :: B b4 36 zRep :: B b2 25 #[.int .i64 (n' : Int), .int .i64 (k' : Int), .int .i64 (a' : Int), .int .i64 (t' : Int), .bool bk, strV title, strV gen, .int .i64 bud] :: (Lg ++ spt (zL sb nb cb) (s0 n' k' a' t' bk)))) ?_ ?_
  ·refine W_draw (by kernel_rfl) ?_
   refine WA_inv (T := []) hI.drew ?_
   intro Sx hSx hXS
   replace hI := hI.drew
   refine Vh 0 (hXS _ hI) rfl ?_
   refine WT_take 1 rfl rfl (by kernel_rfl) (hXS _ hI) rfl (fun W hW => have hI := hSx W hW; (by exact rMoveE rfl rfl)) ?_
   refine Ta 2 (hXS _ hI) rfl ?_
   refine WT_take 6 rfl rfl (by kernel_rfl) (hXS _ hI) rfl (fun W hW => have hI := hSx W hW; (by exact rLdB (n := 8) rfl (by kernel_rfl) (by kernel_rfl) rfl rfl hI.g1)) ?_
   refine Vs 3 rfl ?_
   refine V6 [.slice _ _ _] rfl Tryz.func14 rfl ?_
   refine (cloneI_any A _ cp nums D _ (Rd.pure hN hI.pu) (by omega)).mono ?_
   rintro e w1 ⟨A3, c3, rfl, hT⟩
   refine ⟨_, rfl, ?_⟩
   replace hI := hI.app1 hT
   refine WL_nil ⟨hXS _ hI.d0, ?_⟩
   refine Ty 4 [(0, .slice _ _ _)] [_, _] (hXS _ hI.d0) rfl [.slice none 0 0, .int .i64 0] [0] rfl (fun _ _ => fun _ => by kernel_rfl) (Vs 5 rfl ?_)
   refine T3 (.agg _) (#[_, _]) hI rfl ?_
   clear hI; rintro b53 w - - hI
   refine WL_nil ⟨hXS _ hI.d0.d0, ?_⟩
   refine Ty 7 [(0, .pointer _), (1, _), (2, .pointer _), (3, .agg #[_, _, _, _, _, _, _, _])] [_, _, _, _, _, _, _, _, _, _, _, _, _] (hXS _ hI.d0.d0) rfl [.pointer none, .nilIface, .pointer none, .int .i64 0, .int .i64 0, .int .i64 0, .int .i64 0, .bool false, .string ⟨#[]⟩, .string ⟨#[]⟩, .int .i64 0, .int .i64 0, .bool false] [0, 1, 2, 3] rfl (fun _ _ => fun _ => by kernel_rfl) (Vs 8 rfl ?_)
   refine T3 (.agg _) _ hI rfl ?_
   clear hI; rintro b56 w - - hI
   refine WL_nil ⟨hXS _ hI.d0.d0.d0, ?_⟩
   refine WT_take 9 rfl rfl (by kernel_rfl) (hXS _ hI.d0.d0.d0) rfl (fun W hW => have hI := hSx W hW; (by exact rAsgnP rfl rfl)) ?_
   refine WT_end (by kernel_rfl) ?_
   refine ⟨b56, b53, A3, c3, ⟨rfl, rfl, rfl, rfl, rfl, trivial⟩, ?_⟩
   subst hpp
   exact hI
  clear hI
  rintro ρ w ⟨tb, q, A3, c3, hH, hI⟩
  obtain ⟨σ, rfl⟩ := hH.open
  have hpn : pp.n ≤ 1000 := by rw [← hpp]; show n' ≤ 1000; have := hs.1; omega
  have hpk : pp.k ≤ 1000 := by rw [← hpp]; show k' ≤ 1000; have := hs.2.1; omega
  have hppk : pp.k = k' := by rw [← hpp]
  have hgs : g0.sz ≤ 2000 := by
   unfold parsedT at hpg
   split at hpg
   ·have := parsed_sz hpg; omega
   ·cases hpg
  obtain ⟨P0, hP0⟩ : ∃ P0 : List Ent, triE tb sb (.iface T (at0 bv)) q pp 0 false :: tapeE q (.slice A3 nums.length c3) 0 :: (Lg ++ spt (zL sb nb cb) (s0 n' k' a' t' bk)) = P0 := ⟨_, rfl⟩
  have hIP : Inv (fun _ => False) w0 w (P0 ++ [Row 0 3 1 A3 nums.length c3 (nums.map (Value.int .i64)), B b4 36 zRep, B b2 25 #[.int .i64 (n' : Int), .int .i64 (k' : Int), .int .i64 (a' : Int), .int .i64 (t' : Int), .bool bk, strV title, strV gen, .int .i64 bud]]) := by
   refine hI.perm ?_
   rw [← hP0]
   refine List.Perm.cons _ (List.Perm.cons _ ?_)
   exact List.perm_append_comm (l₁ := [_, _, _])
  have hap : ∀ kk, A3.map (·.block) = some kk → ¬ DL P0 kk := by
   rintro kk hk ⟨e, he, hk2⟩
   exact (List.pairwise_append.1 hIP.apart).2.2 e he _ (List.mem_cons_self ..) kk hk2 hk
  have hNb : Ints w (fun kk => A3.map (·.block) = some kk) (.slice A3 nums.length c3) nums := Rd.of_own (hIP.ok (Row 0 3 1 A3 nums.length c3 (nums.map (Value.int .i64))) (by simp)).1 (fun kk hk _ => by
   cases A3 with
   | none => cases hk
   | some x => exact hk)
  obtain ⟨wb, hwb⟩ : ∃ wb, wb = w := ⟨_, rfl⟩
  subst hwb
  have hIT : Inv (DL P0) wb wb (triE tb sb (.iface T (at0 bv)) q pp 0 false :: tapeE q (.slice A3 nums.length c3) 0 :: (Lg ++ spt (zL sb nb cb) (s0 n' k' a' t' bk))) := by rw [hP0]; exact hIP.from
  have hok0 : SOk (zL sb nb cb) (s0 n' k' a' t' bk) 0 := s0_ok hs sb nb cb
  refine W_seq_cut (fun ρ w => ∃ (t1 : Tr) (L1 : StL) (LG1 : List Ent) (M1 : Nat), MvS (s0 n' k' a' t' bk) t1.st ∧ (nums = [] → t1 = ⟨s0 n' k' a' t' bk, g0, 0, 0, false⟩) ∧ Rep t1.g (.iface T (at0 bv)) LG1 ∧ t1.g.sz ≤ g0.sz ∧ SOk L1 t1.st M1 ∧ M1 ≤ 2000 ∧ L1.sb = sb ∧ t1.u ≤ 5000 ∧ t1.b ≤ 40 ∧ t1.st.k = k' ∧
   Has ρ [(9, at0 tb), (6, .pointer (some ⟨sb, 0, none⟩)), (4, .pointer (some ⟨b4, 0, none⟩)), (2, .pointer (some ⟨b2, 0, none⟩)), (1, .slice A nums.length cp)] ∧ Inv (DL P0) wb w (triE tb sb (.iface T (at0 bv)) q pp t1.b t1.em :: tapeE q (.slice A3 nums.length c3) t1.u :: (LG1 ++ spt L1 t1.st))) ?_ ?_
  ·refine W_block ?_
   refine W_loopN (fun mu ρ w => ∃ (t1 : Tr) (L1 : StL) (LG1 : List Ent) (M1 : Nat), mu = nums.length - t1.u ∧ MvS (s0 n' k' a' t' bk) t1.st ∧ (t1 = ⟨s0 n' k' a' t' bk, g0, 0, 0, false⟩ ∨ 0 < nums.length) ∧ Rep t1.g (.iface T (at0 bv)) LG1 ∧ t1.g.sz ≤ g0.sz ∧ SOk L1 t1.st M1 ∧ M1 ≤ nums.length ∧ M1 ≤ t1.u ∧ L1.sb = sb ∧ t1.u ≤ 5000 ∧ t1.b ≤ 40 ∧ t1.st.k = k' ∧
    Has ρ [(9, at0 tb), (6, .pointer (some ⟨sb, 0, none⟩)), (4, .pointer (some ⟨b4, 0, none⟩)), (2, .pointer (some ⟨b2, 0, none⟩)), (1, .slice A nums.length cp)] ∧ Inv (DL P0) wb w (triE tb sb (.iface T (at0 bv)) q pp t1.b t1.em :: tapeE q (.slice A3 nums.length c3) t1.u :: (LG1 ++ spt L1 t1.st))) nums.length
    ⟨⟨s0 n' k' a' t' bk, g0, 0, 0, false⟩, zL sb nb cb, Lg, 0, rfl, .refl _, .inl rfl, hr0, Nat.le_refl _, hok0, by omega, by omega, rfl, by show 0 ≤ 5000; omega, by show 0 ≤ 40; omega, rfl, ⟨rfl, rfl, rfl, rfl, rfl, trivial⟩, hIT⟩ ?_
   clear hI hH
   rintro mu ρ w ⟨t1, L1, LG1, M1, rfl, hmv, h00, hr1, hsz1, hok1, hM1, hMu, hsb1, hu1, hb1, hk1, hH, hI⟩
   obtain ⟨σ, rfl⟩ := hH.open
   rw [← hsb1] at hI
   by_cases hult : t1.u < nums.length
   rotate_left
   ·refine W_seq (W_seq (W_region (V7 rfl (Va rfl (V5 2 rfl (V3 (.pointer _) rfl (hI.c0 rfl) (V6 [.pointer _] rfl Tryz.func15 rfl ?_)))))))
    refine (used_any (DL P0) wb _ _ q _ t1.u (hI.perm (.swap ..))).mono ?_
    rintro e w1 ⟨rfl, hI1⟩
    refine ⟨_, rfl, ?_⟩
    replace hI := hI1.perm (.swap ..)
    clear hI1
    refine Vg rfl (Vt rfl Tryz.underlying26 rfl (Vn rfl (WL_nil (W_cond false rfl ?_))))
    refine W_exit ?_
    rw [hsb1] at hI
    refine ⟨t1, L1, LG1, M1, hmv, fun hn => ?_, hr1, hsz1, hok1, by omega, hsb1, hu1, hb1, hk1, ⟨rfl, rfl, rfl, rfl, rfl, trivial⟩, hI⟩
    rcases h00 with h | h
    ·exact h
    ·rw [hn] at h; exact absurd h (by simp)
   ·refine W_seq (W_seq (W_region (V7 rfl (Va rfl (V5 2 rfl (V3 (.pointer _) rfl (hI.c0 rfl) (V6 [.pointer _] rfl Tryz.func15 rfl ?_)))))))
    refine (used_any (DL P0) wb _ _ q _ t1.u (hI.perm (.swap ..))).mono ?_
    rintro e w1 ⟨rfl, hI1⟩
    refine ⟨_, rfl, ?_⟩
    replace hI := hI1.perm (.swap ..)
    clear hI1
    refine Vg rfl (Vt rfl Tryz.underlying26 rfl (Vr rfl (WL_nil (W_cond true rfl (W_skip (W_block (W_region (V7 rfl (V6 [.pointer _] rfl Tryz.func16 rfl ?_)))))))))
    refine (move_any _ L1 t1 M1 hI hr1 hok1 (by omega) hNb hap (by omega) (by omega) hpn hpk).mono ?_
    rintro e w3 ⟨⟨v3, rfl⟩, t2, L2, LG2, hmv2, hr2, hsz2, hok2, hsb2, hu2, hu3, hb2, hb3, hI2⟩
    refine ⟨_, rfl, ?_⟩
    replace hI := hI2
    clear hI2
    refine WL_nil ?_
    rw [hsb1] at hI
    exact ⟨nums.length - t2.u, by omega, t2, L2, LG2, M1 + 1, rfl, .step hmv hmv2, .inr (by omega), hr2, by omega, hok2, by omega, by omega, hsb2.trans hsb1, by omega, hb3 hb1, hmv2.nk.2.trans hk1, ⟨rfl, rfl, rfl, rfl, rfl, trivial⟩, hI⟩
  clear hI hIT
  rintro ρ w ⟨t1, L1, LG1, M1, hmv, h00, hr1, hsz1, hok1, hM1, hsb1, hu1, hb1, hk1, hH, hI⟩
  obtain ⟨σ, rfl⟩ := hH.open
  have hmu := mu_le (K := 0) hok1.mlen hok1.n1.2 hok1.k1.2
  have hmul : (90000 - M1) * 2000 ≤ 90000 * 2000 := Nat.mul_le_mul_right _ (by omega)
  refine W_seq (W_region (V7 rfl (V6 [.pointer _] rfl Tryz.func17 rfl ?_)))
  rw [← hsb1] at hI
  refine (finish_any (SZ := 2000) (C := 90000) _ L1 LG1 t1 M1 hI hr1 hok1 (by omega) (by omega) hNb hap (by omega) (by omega) hb1 (by rw [hk1, hppk])).mono ?_
  rintro e w3 ⟨⟨v3, rfl⟩, t2, L2, LG2, M2, hfin, hr2, hok2, hsb2, hI2⟩
  refine ⟨_, rfl, ?_⟩
  replace hI := hI2
  clear hI2
  rw [hsb1] at hI
  refine WL_nil ?_
  have hrun : RunTo nums n' k' a' t' bk gen t2 := ⟨g0, t1, hpg, hmv, h00, by rw [← hppk]; exact hfin⟩
  have helen := hok2.elen
  have hesb : L2.sb = sb := hsb2.trans hsb1
  replace hI := hIP.turnL hI
  replace hI : Inv (fun _ => False) w0 w3 (B b4 36 zRep :: B b2 25 #[.int .i64 (n' : Int), .int .i64 (k' : Int), .int .i64 (a' : Int), .int .i64 (t' : Int), .bool bk, strV title, strV gen, .int .i64 bud] :: spt L2 t2.st) :=
   Inv.sub (hI.perm List.perm_append_comm) (.cons _ (.cons_cons _ (.cons_cons _ (.cons _ (.cons _ (List.sublist_append_right ..))))))
  have hEv := events_any L2 t2.st (DLs (spt L2 t2.st)) w3 (Inv.fromB (X := [B b4 36 zRep, B b2 25 #[.int .i64 (n' : Int), .int .i64 (k' : Int), .int .i64 (a' : Int), .int .i64 (t' : Int), .bool bk, strV title, strV gen, .int .i64 bud]]) hI) (by omega)
  rw [hesb] at hEv
  refine W_seq (W_region (V7 rfl (V6 [.pointer _] rfl Tryz.func18 rfl ?_)))
  refine hEv.mono ?_
  rintro e w4 ⟨A1, c1, rfl, hJ⟩
  refine ⟨_, rfl, ?_⟩
  replace hI := Inv.callB (X := [B b4 36 zRep, B b2 25 #[.int .i64 (n' : Int), .int .i64 (k' : Int), .int .i64 (a' : Int), .int .i64 (t' : Int), .bool bk, strV title, strV gen, .int .i64 bud]]) hI hJ
  replace hI : Inv (fun _ => False) w0 w4 [B b4 36 zRep, B b2 25 #[.int .i64 (n' : Int), .int .i64 (k' : Int), .int .i64 (a' : Int), .int .i64 (t' : Int), .bool bk, strV title, strV gen, .int .i64 bud], Row 0 48 7 A1 t2.st.evs.length c1 (t2.st.evs.flatMap evL)] := Inv.sub hI (.cons_cons _ (.cons_cons _ (.cons_cons _ (List.nil_sublist _))))
  refine Vm rfl (WL_nil ?_)
  have hOps := evops_any A1 _ c1 t2.st.evs (fun _ => True) w4 (Rd.of_own hI.g2 (fun _ _ _ => trivial)) (hG.pure hI.pu).err
  cases hev : evF t2.st.evs with
  | none =>
   rw [hev] at hOps
   refine W_seq (W_region (Vg rfl (V6 [.slice _ _ _] rfl Tryz.func9 rfl ?_)))
   refine hOps.mono ?_
   rintro e w5 ⟨hp, U, u, rfl⟩
   refine ⟨_, rfl, ?_⟩
   replace hI := hI.pure hp
   refine Vv rfl (Vf rfl (Vf rfl (Vm rfl (Vk rfl (WL_nil (W_seq (W_seq (W_region (Vo rfl (Tf rfl Tryz.underlying29 rfl (WL_nil (W_cond true rfl (W_seq ?_)))))))))))))
   refine W_region (T5 [] [_, _, _, _, _] rfl [.string ⟨#[]⟩, .slice none 0 0, .int .i64 0, .slice none 0 0, .int .i64 0] [] rfl (fun _ => by kernel_rfl) (Vo rfl (T1 5 (#[_, _, _, _, _]) (.agg _) hI rfl ?_)))
   clear hI; intro w hI
   refine Vk rfl (WL_nil ?_)
   refine W_ret ?_
   exact hBad hI (.inr (.inr (.inr (.inr (.inr ⟨n', k', a', t', t2, rfl, rfl, rfl, rfl, hrun, .inl hev⟩))))) rfl rfl
  | some ops =>
   rw [hev] at hOps
   refine W_seq (W_region (Vg rfl (V6 [.slice _ _ _] rfl Tryz.func9 rfl ?_)))
   refine hOps.mono ?_
   rintro e w5 ⟨A6, c6, rfl, hT⟩
   refine ⟨_, rfl, ?_⟩
   replace hI := hI.app1 hT
   refine Vv rfl (Vf rfl (Vf rfl (Vm rfl (Ve rfl (WL_nil (W_seq (W_seq (W_region (T6 rfl (Tb rfl Tryz.underlying29 rfl (WL_nil (W_cond false rfl (W_skip ?_)))))))))))))
   have hChk := chk_any 1 A6 ops.length c6 ops bud (fun _ => True) w5 (Rd.of_own hI.g0 (fun _ _ _ => trivial)) (hG.pure hI.pu).kn
   by_cases hok : OkLin 1 ops bud
   rotate_left
   ·refine W_seq (W_region (Vg rfl (V5 7 rfl (V3 (.int .i64 _) rfl (hI.c2 rfl) (V6 [.int .i64 _, .slice _ _ _, .int .i64 _] rfl Tryz.func19 rfl ?_)))))
    refine hChk.mono ?_
    rintro e w6 (⟨h1, _⟩ | ⟨_, ⟨x, ⟨z, rfl⟩, rfl⟩, hp⟩)
    ·exact absurd h1 hok
    refine ⟨_, rfl, ?_⟩
    replace hI := hI.pure hp
    refine Vv rfl (Vf rfl (Vf rfl (T0 (.agg #[.int .i64 0, .slice none 0 0, .int .i64 0]) (#[.int .i64 0, .slice none 0 0, .int .i64 0]) hI rfl ?_)))
    clear hI; rintro b12 w - - hI
    refine T1 3 (#[_, _, _]) (.agg _) hI rfl ?_
    clear hI; intro w hI
    refine Vk rfl (WL_nil (W_seq (W_seq (W_region (Vo rfl (Tf rfl Tryz.underlying29 rfl (WL_nil (W_cond true rfl (W_seq (W_region (T5 [] [_, _, _, _, _] rfl [.string ⟨#[]⟩, .slice none 0 0, .int .i64 0, .slice none 0 0, .int .i64 0] [] rfl (fun _ => by kernel_rfl) (Vo rfl ?_))))))))))))
    refine WL_stw2 (u := .agg _) (vs := #[_, _, _, _, _]) (n := 5) hI rfl rfl rfl rfl rfl rfl (by kernel_rfl) rfl rfl rfl ?_
    clear hI; intro w hI
    refine Vk rfl (WL_nil ?_)
    refine W_ret ?_
    exact hBad (hI.pull 2 rfl) (.inr (.inr (.inr (.inr (.inr ⟨n', k', a', t', t2, rfl, rfl, rfl, rfl, hrun, .inr ⟨ops, hev, hok⟩⟩))))) rfl rfl
   ·refine W_seq (W_region (Vg rfl (V5 7 rfl (V3 (.int .i64 _) rfl (hI.c2 rfl) (V6 [.int .i64 _, .slice _ _ _, .int .i64 _] rfl Tryz.func19 rfl ?_)))))
    refine hChk.mono ?_
    rintro e w6 (⟨_, A7, c7, rfl, hT⟩ | ⟨h1, _⟩)
    rotate_left
    ·exact absurd hok h1
    refine ⟨_, rfl, ?_⟩
    replace hI := hI.app1 hT
    refine Vv rfl (Vf rfl (Vf rfl (T0 (.agg #[.int .i64 0, .slice none 0 0, .int .i64 0]) (#[.int .i64 0, .slice none 0 0, .int .i64 0]) hI rfl ?_)))
    clear hI; rintro b12 w - - hI
    refine T1 3 (#[_, _, _]) (.agg _) hI rfl ?_
    clear hI; intro w hI
    refine Ve rfl (WL_nil (W_seq (W_seq (W_region (T6 rfl (Tb rfl Tryz.underlying29 rfl (WL_nil (W_cond false rfl (W_skip (W_seq (W_region (V5 5 rfl (V3 (.string _) rfl (hI.c4 rfl) ?_)))))))))))))
    refine Vg rfl (Tn 3 rfl hI.g0 (T5 [(0, .string _), (1, .slice _ _ _), (2, .agg #[_, _, _])] [_, _, _, _, _] rfl [.string ⟨#[]⟩, .slice none 0 0, .int .i64 0, .slice none 0 0, .int .i64 0] [0, 1, 2] rfl (fun _ => by kernel_rfl) ?_))
    refine WL_stw3 (u := .agg _) (vs := #[_, _, _, _, _]) (n := 5) hI rfl rfl rfl rfl rfl rfl (by kernel_rfl) rfl rfl rfl ?_
    clear hI; intro w hI
    refine Ve rfl (WL_nil ?_)
    refine W_ret ?_
    refine retC2 (n := 5) (t := 36) (.inr rfl) rfl rfl (by kernel_rfl) (by kernel_rfl) rfl hI.g3 (.inr ⟨n', k', a', t', t2, ops, A1, c1, A7, c7, rfl, rfl, rfl, rfl, hs, hbud, hrun, helen, hev, hok, rfl, ?_⟩)
    exact (Inv.sub hI (.cons _ (.cons_cons _ (.cons _ (.cons _ (.cons _ (.cons_cons _ (List.nil_sublist _)))))))).perm (.swap ..)
def genT : List UInt8 := [108, 105, 109, 105, 116, 32, 49, 32, 119, 114, 105, 116, 101, 32, 48, 32, 53, 32, 53]
def nodesT : List UInt8 := [110, 111, 100, 101, 115]
def clientsT : List UInt8 := [99, 108, 105, 101, 110, 116, 115]
def quorumT : List UInt8 := [113, 117, 111, 114, 117, 109]
def gennT : List UInt8 := [103, 101, 110]
theorem parsed_genT : parsedT genT = some (.lim 1 (.wr 0 5 5)) := by kernel_rfl
def pC (n k a t : Nat) (gen : List UInt8) : Array Value := #[.int .i64 (n : Int), .int .i64 (k : Int), .int .i64 (a : Int), .int .i64 (t : Int), .bool true, strV [], strV gen, .int .i64 10000]
def two2 (a b : Array Value) : Nat → Array Value
 | 0 => a
 | _ => b
def three3 (a b c : Array Value) : Nat → Array Value
 | 0 => a
 | 1 => b
 | _ => c
section
variable {w0 : World} {H : List Ent} {b : Nat}
theorem lineNodes (w : World) (hI : Inv (fun _ => False) w0 w (B b 25 (pC 0 0 0 0 []) :: H)) (hG : NumG w0) (hM : MaxOk w0) :
  Calls Tryz.prog 29 #[.pointer (some ⟨b, 0, none⟩), strV nodesT, strV [51]] w fun e w' => e = .returned .nilIface ∧ Inv (fun _ => False) w0 w' (B b 25 (pC 3 0 0 0 []) :: H) := by
 refine Vl Tryz.f29.ntmps Tryz.func29 rfl ?_
 refine W_seq (W_region (Ve rfl (WL_nil (W_seq (W_seq (W_region (Vp rfl (WL_nil (W_block (W_seq (W_region (Uc rfl (V4 rfl ?_)))))))))))))
 refine WL_nil (W_cond false rfl (W_seq (W_region (Uc rfl (V4 rfl (WL_nil (W_cond false rfl (W_seq (W_region (Uc rfl (V4 rfl (WL_nil (W_cond false rfl ?_)))))))))))))
 refine W_seq (W_region (Uh rfl (V4 rfl (WL_nil (W_cond true rfl (W_seq (W_region (Vp rfl (V7 rfl (Va rfl (V5 0 rfl (V5 0 rfl (Vy [(0, .pointer _)] [_] [.pointer none] [0] hI rfl Tryz.underlying190 (fun _ => by kernel_rfl) ?_)))))))))))))
 clear hI; rintro b55 w - - hI
 refine V6 [.string _, .slice _ _ _] rfl Tryz.func53 rfl ?_
 refine (numbers_any w0 _ H b _ 25 [51] [[51]] 1 (fun _ => 0) (fun _ => 3) (two2 (pC 0 0 0 0 []) (pC 3 0 0 0 [])) _ hI (fun k hk => ?_) (fun k hk => ?_) (fun k hk => ?_) rfl (by decide) (by decide) (by decide +kernel) (by decide +kernel) hG hM).mono ?_
 ·obtain rfl : k = 0 := by omega
  rfl
 ·obtain rfl : k = 0 := by omega
  exact ⟨rfl, rfl⟩
 ·obtain rfl : k = 0 := by omega
  exact ⟨by decide +kernel, by decide⟩
 rintro e w1 ⟨rfl, hI1⟩
 refine ⟨_, rfl, ?_⟩
 replace hI := hI1
 refine Ve rfl (WL_nil ?_)
 refine W_ret ?_
 exact ret1 6 (.inr rfl) rfl ⟨rfl, hI⟩
theorem lineClients (w : World) (hI : Inv (fun _ => False) w0 w (B b 25 (pC 3 0 0 0 []) :: H)) (hG : NumG w0) (hM : MaxOk w0) :
  Calls Tryz.prog 29 #[.pointer (some ⟨b, 0, none⟩), strV clientsT, strV [49]] w fun e w' => e = .returned .nilIface ∧ Inv (fun _ => False) w0 w' (B b 25 (pC 3 1 0 0 []) :: H) := by
 refine Vl Tryz.f29.ntmps Tryz.func29 rfl ?_
 refine W_seq (W_region (Ve rfl (WL_nil (W_seq (W_seq (W_region (Vp rfl (WL_nil (W_block (W_seq (W_region (Uc rfl (V4 rfl ?_)))))))))))))
 refine WL_nil (W_cond false rfl (W_seq (W_region (Uc rfl (V4 rfl (WL_nil (W_cond false rfl (W_seq (W_region (Uc rfl (V4 rfl (WL_nil (W_cond false rfl ?_)))))))))))))
 refine W_seq (W_region (Uc rfl (V4 rfl (WL_nil (W_cond false rfl (W_seq (W_region (Uh rfl (V4 rfl (WL_nil (W_cond true rfl (W_seq (W_region ?_)))))))))))))
 refine Vp rfl (V7 rfl (Va rfl (V5 0 rfl (V5 1 rfl (Vy [(0, .pointer _)] [_] [.pointer none] [0] hI rfl Tryz.underlying190 (fun _ => by kernel_rfl) ?_)))))
 clear hI; rintro b64 w - - hI
 refine V6 [.string _, .slice _ _ _] rfl Tryz.func53 rfl ?_
 refine (numbers_any w0 _ H b _ 25 [49] [[49]] 1 (fun _ => 1) (fun _ => 1) (two2 (pC 3 0 0 0 []) (pC 3 1 0 0 [])) _ hI (fun k hk => ?_) (fun k hk => ?_) (fun k hk => ?_) rfl (by decide) (by decide) (by decide +kernel) (by decide +kernel) hG hM).mono ?_
 ·obtain rfl : k = 0 := by omega
  rfl
 ·obtain rfl : k = 0 := by omega
  exact ⟨rfl, rfl⟩
 ·obtain rfl : k = 0 := by omega
  exact ⟨by decide +kernel, by decide⟩
 rintro e w1 ⟨rfl, hI1⟩
 refine ⟨_, rfl, ?_⟩
 replace hI := hI1
 refine Ve rfl (WL_nil ?_)
 refine W_ret ?_
 exact ret1 6 (.inr rfl) rfl ⟨rfl, hI⟩
theorem lineQuorum (w : World) (hI : Inv (fun _ => False) w0 w (B b 25 (pC 3 1 0 0 []) :: H)) (hG : NumG w0) (hM : MaxOk w0) :
  Calls Tryz.prog 29 #[.pointer (some ⟨b, 0, none⟩), strV quorumT, strV [50, 32, 50]] w fun e w' => e = .returned .nilIface ∧ Inv (fun _ => False) w0 w' (B b 25 (pC 3 1 2 2 []) :: H) := by
 refine Vl Tryz.f29.ntmps Tryz.func29 rfl ?_
 refine W_seq (W_region (Ve rfl (WL_nil (W_seq (W_seq (W_region (Vp rfl (WL_nil (W_block (W_seq (W_region (Uc rfl (V4 rfl ?_)))))))))))))
 refine WL_nil (W_cond false rfl (W_seq (W_region (Uc rfl (V4 rfl (WL_nil (W_cond false rfl (W_seq (W_region (Uc rfl (V4 rfl (WL_nil (W_cond false rfl ?_)))))))))))))
 refine W_seq (W_region (Uc rfl (V4 rfl (WL_nil (W_cond false rfl (W_seq (W_region (Uc rfl (V4 rfl (WL_nil (W_cond false rfl (W_seq (W_region ?_)))))))))))))
 refine Uh rfl (V4 rfl (WL_nil (W_cond true rfl (W_seq (W_draw (by kernel_rfl) ?_)))))
 refine WA_inv (T := [10]) hI.drew ?_
 intro Sx hSx hXS
 replace hI := hI.drew
 refine WT_take 0 rfl rfl (by kernel_rfl) (hXS _ hI) rfl (fun W hW => have hI := hSx W hW; (by exact rMoveStr rfl rfl)) ?_
 refine Vh 1 (hXS _ hI) rfl (Vi 2 (hXS _ hI) rfl (Vb 3 0 (hXS _ hI) rfl (Vb 4 2 (hXS _ hI) rfl (Vh 5 (hXS _ hI) rfl (Vi 6 (hXS _ hI) rfl (Vb 7 0 (hXS _ hI) rfl (Vb 8 3 (hXS _ hI) rfl (Vs 9 rfl ?_))))))))
 refine Vy [(0, .pointer _), (1, .pointer _)] [_, _] [.pointer none, .pointer none] [0, 1] hI rfl Tryz.underlying190 (fun _ => by kernel_rfl) ?_
 clear hI; rintro b77 w - - hI
 refine WL_nil ⟨hXS _ hI.d0, ?_⟩
 refine WT_A (by kernel_rfl) ?_
 clear hXS hSx
 refine T2 10 rfl ?_
 refine V6 [.string _, .slice _ _ _] rfl Tryz.func53 rfl ?_
 refine (numbers_any w0 _ H b _ 25 [50, 32, 50] [[50], [50]] 2 (fun k => k + 2) (fun _ => 2) (three3 (pC 3 1 0 0 []) (pC 3 1 2 0 []) (pC 3 1 2 2 [])) _ hI (fun k hk => ?_) (fun k hk => ?_) (fun k hk => ?_) rfl (by decide) (by decide) (by decide +kernel) (by decide +kernel) hG hM).mono ?_
 ·match k, hk with
  | 0, _ => rfl
  | 1, _ => rfl
 ·match k, hk with
  | 0, _ => exact ⟨rfl, rfl⟩
  | 1, _ => exact ⟨rfl, rfl⟩
 ·match k, hk with
  | 0, _ => exact ⟨by decide +kernel, by decide⟩
  | 1, _ => exact ⟨by decide +kernel, by decide⟩
 rintro e w1 ⟨rfl, hI1⟩
 refine ⟨_, rfl, ?_⟩
 replace hI := hI1
 refine WL_nil (T2 11 rfl ?_)
 refine Ve rfl (WL_nil ?_)
 refine WA_end (by kernel_rfl) ?_
 refine W_ret ?_
 exact ret1 6 (.inr rfl) rfl ⟨rfl, hI⟩
theorem lineGen (w : World) (hI : Inv (fun _ => False) w0 w (B b 25 (pC 3 1 2 2 []) :: H)) (hG : NumG w0) :
  Calls Tryz.prog 29 #[.pointer (some ⟨b, 0, none⟩), strV gennT, strV genT] w fun e w' => e = .returned .nilIface ∧ Inv (fun _ => False) w0 w' (B b 25 (pC 3 1 2 2 genT) :: H) := by
 refine Vl Tryz.f29.ntmps Tryz.func29 rfl ?_
 refine W_seq (W_region (Ve rfl (WL_nil (W_seq (W_seq (W_region (Vp rfl (WL_nil (W_block (W_seq (W_region (Uc rfl (V4 rfl ?_)))))))))))))
 refine WL_nil (W_cond false rfl (W_seq (W_region (Uh rfl (V4 rfl (WL_nil (W_cond true rfl (W_seq (W_region (V7 rfl (Vp rfl (Va rfl (V5 6 rfl ?_)))))))))))))
 refine WL_st0 (u := .string _) hI rfl rfl rfl rfl rfl rfl (by kernel_rfl) rfl rfl rfl ?_
 clear hI; intro w hI
 refine WL_nil (W_seq (W_region (Vp rfl (V6 [.string _] rfl Tryz.func13 rfl ?_))))
 refine (parse_any genT _ (hG.chg (hI.pu.chg (fun _ => False)) NoG.none) (by decide)).mono ?_
 rintro e w1 (⟨g, v, Lg, hg, rfl, hr0, hT⟩ | ⟨hg, _⟩)
 rotate_left
 ·rw [parsed_genT] at hg; cases hg
 obtain ⟨T, bv, rfl⟩ := hr0.val
 refine ⟨_, rfl, ?_⟩
 replace hI := hI.pure hT.pu
 refine Vv rfl (Vf rfl (Vf rfl (Vk rfl (Ve rfl (WL_nil (W_seq (W_region (T6 rfl (Tb rfl Tryz.underlying29 rfl (WL_nil (W_cond false rfl (W_skip (W_seq ?_)))))))))))))
 refine W_region (Ve rfl (WL_nil ?_))
 refine W_ret ?_
 exact ret1 6 (.inr rfl) rfl ⟨rfl, hI⟩
end
def nmL : List (List UInt8) := [nodesT, clientsT, quorumT, gennT]
def pieL : List (List UInt8) := [nodesT ++ 32 :: [51], clientsT ++ 32 :: [49], quorumT ++ 32 :: [50, 32, 50], gennT ++ 32 :: genT, []]
def triedT : List UInt8 := (nodesT ++ 32 :: [51]) ++ 10 :: ((clientsT ++ 32 :: [49]) ++ 10 :: ((quorumT ++ 32 :: [50, 32, 50]) ++ 10 :: ((gennT ++ 32 :: genT) ++ [10])))
def pK : Nat → Array Value
 | 0 => pC 0 0 0 0 []
 | 1 => pC 3 0 0 0 []
 | 2 => pC 3 1 0 0 []
 | 3 => pC 3 1 2 2 []
 | _ => pC 3 1 2 2 genT
theorem round_facts {w0 : World} {b : Nat} (hG : NumG w0) (hM : MaxOk w0) (k : Nat) (hk : k < 4) : ∃ nm rs, nmL[k]? = some nm ∧ pieL[k]? = some (nm ++ 32 :: rs) ∧ (nm ++ 32 :: rs).length ≤ 100 ∧ Lib.cut (nm ++ 32 :: rs) [32] = (nm, rs, true) ∧ false = decide (nm ∈ nmL.take k) ∧
  ∀ (H : List Ent) (w : World), Inv (fun _ => False) w0 w (B b 25 (pK k) :: H) → Calls Tryz.prog 29 #[.pointer (some ⟨b, 0, none⟩), strV nm, strV rs] w fun e w' => e = .returned .nilIface ∧ Inv (fun _ => False) w0 w' (B b 25 (pK (k + 1)) :: H) := by
 match k, hk with
 | 0, _ => exact ⟨nodesT, [51], rfl, rfl, by decide, by decide +kernel, by decide +kernel, fun H w hI => lineNodes w hI hG hM⟩
 | 1, _ => exact ⟨clientsT, [49], rfl, rfl, by decide, by decide +kernel, by decide +kernel, fun H w hI => lineClients w hI hG hM⟩
 | 2, _ => exact ⟨quorumT, [50, 32, 50], rfl, rfl, by decide, by decide +kernel, by decide +kernel, fun H w hI => lineQuorum w hI hG hM⟩
 | 3, _ => exact ⟨gennT, genT, rfl, rfl, by decide, by decide +kernel, by decide +kernel, fun H w hI => lineGen w hI hG⟩
set_option maxHeartbeats 4000000 in
theorem fparse_any (w0 : World) (hG : NumG w0) (hM : MaxOk w0) :
  Calls Tryz.prog 11 #[strV triedT] w0 fun en w' => en = .returned (.tuple #[.agg (pC 3 1 2 2 genT), .nilIface]) ∧ Pure w0 w' := by
 have hI := Inv.start (fun _ => False) w0
 refine Vl Tryz.f11.ntmps Tryz.func11 rfl ?_
 refine W_seq (W_region (T0 (.agg #[.int .i64 0, .int .i64 0, .int .i64 0, .int .i64 0, .bool false, .string ⟨#[]⟩, .string ⟨#[]⟩, .int .i64 0]) (#[.int .i64 0, .int .i64 0, .int .i64 0, .int .i64 0, .bool false, .string ⟨#[]⟩, .string ⟨#[]⟩, .int .i64 0]) hI rfl ?_))
 clear hI; rintro b2 w - - hI
 refine Ve rfl (WL_nil (W_seq (W_seq (W_region (Vp rfl (To rfl Tryz.underlying9 rfl ?_))))))
 refine WL_val rfl rfl rfl (by exact rGtr rfl rfl rfl) ?_
 refine WL_nil (W_cond false rfl (W_skip (W_seq (W_region (T5 [(4, .bool _)] [_, _, _, _, _] rfl [.int .i64 0, .int .i64 0, .int .i64 0, .int .i64 0, .bool false] [4] rfl (fun _ => by kernel_rfl) (T5 [(0, .agg #[_, _, _, _, _]), (3, .int .i64 _)] [_, _, _, _, _, _, _, _] rfl [.int .i64 0, .int .i64 0, .int .i64 0, .int .i64 0, .bool false, .string ⟨#[]⟩, .string ⟨#[]⟩, .int .i64 0] [0, 7] rfl (fun _ => by kernel_rfl) (T0 (.agg #[.int .i64 0, .int .i64 0, .int .i64 0, .int .i64 0, .bool false, .string ⟨#[]⟩, .string ⟨#[]⟩, .int .i64 0]) (#[.int .i64 0, .int .i64 0, .int .i64 0, .int .i64 0, .bool false, .string ⟨#[]⟩, .string ⟨#[]⟩, .int .i64 0]) hI rfl ?_)))))))
 clear hI; rintro b4 w - - hI
 refine T1 8 (#[_, _, _, _, _, _, _, _]) (.agg _) hI rfl ?_
 clear hI; intro w hI
 refine WL_nil (W_seq (W_region (Vm rfl (WL_nil (W_seq (W_region (Vc rfl (WL_nil ?_))))))))
 refine W_seq_cut (fun ρ w => ∃ (A5 : Option Addr) (c5 : Nat), Has ρ [(5, .slice A5 4 c5), (4, .pointer (some ⟨b4, 0, none⟩)), (2, .pointer (some ⟨b2, 0, none⟩)), (0, strV triedT)] ∧ Inv (fun _ => False) w0 w [B b4 25 (pK 4), Row 0 9 1 A5 4 c5 (nmL.map strV), B b2 25 #[.int .i64 0, .int .i64 0, .int .i64 0, .int .i64 0, .bool false, strV [], strV [], .int .i64 0]]) ?_ ?_
 ·refine W_seq (W_region (Vp rfl (V6 [.string _, .string _] rfl Tryz.func27 rfl ?_)))
  refine (splitS_any triedT [10] pieL (by decide) (by decide) (by decide +kernel) (by decide +kernel) _ (hM.pure hI.pu)).mono ?_
  rintro e w1 ⟨g1, rfl, hT⟩
  refine ⟨_, rfl, ?_⟩
  replace hI := hI.app1 hT
  refine Vt rfl Tryz.underlying81 rfl (V0 rfl (WL_nil ?_))
  replace hI : Inv (fun _ => False) w0 _ [B g1 9 (pieL.map strV).toArray, B b4 25 (pK 0), B b2 25 #[.int .i64 0, .int .i64 0, .int .i64 0, .int .i64 0, .bool false, strV [], strV [], .int .i64 0]] := hI
  have hI0 := (hI.fresh (Pure.refl _) (Row.nil _ 0 9 1) (fun k hk => by simp [Row] at hk)).pull 2 rfl
  refine W_block ?_
  refine W_loopN (fun mu ρ w => ∃ (k : Nat) (z : Int) (A5 : Option Addr) (c5 : Nat), mu = 5 - k ∧ k ≤ 5 ∧ 0 ≤ z ∧ z ≤ 1000 * k ∧ Has ρ [(26, .int .i64 (k : Int)), (25, .int .i64 5), (24, .slice (some ⟨g1, 0, none⟩) 5 5), (6, .int .i64 z), (5, .slice A5 (min k 4) c5), (4, .pointer (some ⟨b4, 0, none⟩)), (2, .pointer (some ⟨b2, 0, none⟩)), (0, strV triedT)] ∧
    Inv (fun _ => False) w0 w [B b4 25 (pK k), Row 0 9 1 A5 (min k 4) c5 ((nmL.take k).map strV), B g1 9 (pieL.map strV).toArray, B b2 25 #[.int .i64 0, .int .i64 0, .int .i64 0, .int .i64 0, .bool false, strV [], strV [], .int .i64 0]]) 5
   ⟨0, 0, none, 0, rfl, by omega, by omega, by omega, ⟨rfl, rfl, rfl, rfl, rfl, rfl, rfl, rfl, trivial⟩, hI0⟩ ?_
  clear hI hI0
  rintro mu ρ w ⟨k, z, A5, c5, rfl, hk, hz1, hz2, hH, hI⟩
  obtain ⟨σ, rfl⟩ := hH.open
  by_cases hk5 : k < 5
  rotate_left
  ·obtain rfl : k = 5 := by omega
   refine W_seq (W_region (Vn rfl (WL_nil (W_seq (W_cond false rfl ?_)))))
   refine W_exit ?_
   exact ⟨A5, c5, ⟨rfl, rfl, rfl, rfl, trivial⟩, hI.erase 2⟩
  by_cases hk4 : k < 4
  ·obtain ⟨nm, rs, hnm, hpi, hpl, hcut, hcon, hline⟩ := round_facts (b := b4) hG hM k hk4
   have hcp : (pieL.map strV).toArray[k]? = some (strV (nm ++ 32 :: rs)) := by rw [List.getElem?_toArray, List.getElem?_map, hpi]; rfl
   have hmin : min k 4 = k := by omega
   have htl : (nmL.take k).length = k := by rw [List.length_take]; exact hmin
   have hnx : (nmL.take (k + 1)).map strV = (nmL.take k).map strV ++ [strV nm] := by rw [List.take_add_one, hnm, List.map_append]; rfl
   have hne : nm ++ 32 :: rs ≠ [] := by simp
   rw [hmin] at hI ⊢
   refine W_seq (W_region (Vr rfl (WL_nil (W_seq (W_cond true rfl (W_skip (W_seq (W_block (W_seq (W_region (Ts rfl Tryz.underlying81 rfl (V3 (.string _) rfl (hI.c2 hcp) (U3 rfl ?_)))))))))))))
   refine WL_nil (W_seq (W_seq (W_region (Vp rfl ?_))))
   refine WL_val rfl rfl rfl (by exact rStrNeT rfl rfl rfl (by assumption)) ?_
   refine WL_nil (W_cond true rfl (W_seq (W_region (Vp rfl (V6 [.string _, .string _] rfl Tryz.func28 rfl ?_)))))
   refine (cutS_any (nm ++ 32 :: rs) [32] nm rs true (by omega) hcut _ (hM.pure hI.pu)).mono ?_
   rintro e w1 ⟨rfl, hp1⟩
   refine ⟨_, rfl, ?_⟩
   replace hI := hI.pure hp1
   refine Vv rfl (Vf rfl (Vf rfl (Vf rfl (U3 rfl (U3 rfl (V4 rfl (WL_nil (W_seq (W_region (Vp rfl (Vp rfl (V6 [.pointer _, .string _, .string _] rfl Tryz.func29 rfl ?_))))))))))))
   refine (hline _ _ hI).mono ?_
   rintro e w1 ⟨rfl, hI1⟩
   refine ⟨_, rfl, ?_⟩
   replace hI := hI1
   clear hI1
   refine Ve rfl (WL_nil ?_)
   have hC := fun (w : World) (hI : Inv (fun _ => False) w0 w [B b4 25 (pK (k + 1)), Row 0 9 1 A5 k c5 ((nmL.take k).map strV), B g1 9 (pieL.map strV).toArray, B b2 25 #[.int .i64 0, .int .i64 0, .int .i64 0, .int .i64 0, .bool false, strV [], strV [], .int .i64 0]]) =>
    conS_any A5 c5 (nmL.take k) nm (fun _ => True) w (by rw [htl]; exact Rd.of_own hI.g1 (fun _ _ _ => trivial)) (by omega) false hcon
   rw [htl] at hC
   refine W_seq (W_seq (W_region (T6 rfl ?_)))
   refine WL_val rfl rfl rfl (by exact rNilEq rfl Tryz.underlying29 rfl) ?_
   refine V2 rfl (Vg rfl (Vp rfl (V6 [.slice _ _ _, .string _] rfl Tryz.func30 rfl ?_)))
   refine (hC _ hI).mono ?_
   rintro e w1 ⟨rfl, hp1⟩
   refine ⟨_, rfl, ?_⟩
   replace hI := hI.pure hp1
   refine Vd rfl (WL_nil (W_cond false rfl (W_skip (W_seq (W_seq (W_region (T6 rfl (Tb rfl Tryz.underlying29 rfl (WL_nil (W_cond false rfl (W_skip (W_region (Vg rfl ?_)))))))))))))
   refine Vp rfl (Vy [(0, .string _)] [_] [.string ⟨#[]⟩] [0] hI rfl Tryz.underlying81 (fun _ => by kernel_rfl) ?_)
   clear hI; rintro b60 w - - hI
   refine WL_app2 (z := .string ⟨#[]⟩) (by_ := 16) hI rfl rfl rfl rfl rfl rfl Tryz.underlying81 (by kernel_rfl) rfl (by omega) (by rfl) hI.lit0 (by rfl) (by omega) (by omega) (by exact Nat.zero_le _) ?_
   clear hI; rintro A61 c61 w hA61 hc61 hI
   replace hI := hI.d0
   refine Vm rfl (WL_nil (W_region (V0 rfl (Vp rfl (To rfl Tryz.underlying9 rfl (Vu rfl ?_))))))
   refine WL_val rfl rfl rfl (by exact rAdd rfl rfl rfl (by omega)) ?_
   refine Vc rfl (WL_nil (W_region (Vu rfl (V0 rfl (WL_nil ?_)))))
   refine ⟨5 - (k + 1), by omega, k + 1, z + (((nm ++ 32 :: rs).length : Int) + 1), A61, c61, rfl, by omega, by omega, by omega, ⟨rfl, rfl, rfl, rfl, ?_, rfl, rfl, rfl, trivial⟩, ?_⟩
   ·rw [show min (k + 1) 4 = k + 1 by omega]; rfl
   ·rw [show min (k + 1) 4 = k + 1 by omega, hnx]; exact hI
  ·obtain rfl : k = 4 := by omega
   have hcp : (pieL.map strV).toArray[4]? = some (strV []) := rfl
   refine W_seq (W_region (Vr rfl (WL_nil (W_seq (W_cond true rfl (W_skip (W_seq (W_block (W_seq (W_region (Ts rfl Tryz.underlying81 rfl (V3 (.string _) rfl (hI.c2 hcp) (U3 rfl ?_)))))))))))))
   refine WL_nil (W_seq (W_seq (W_region (Vp rfl ?_))))
   refine WL_val rfl rfl rfl (by exact rStrNeF rfl rfl rfl (by decide)) ?_
   refine WL_nil (W_cond false rfl (W_skip (W_region (V0 rfl (Vp rfl (To rfl Tryz.underlying9 rfl ?_))))))
   refine WL_val rfl rfl rfl (by exact rAddW rfl rfl rfl) ?_
   refine WL_val rfl rfl rfl (by exact rAddW rfl rfl rfl) ?_
   refine Vc rfl (WL_nil (W_region (Vu rfl (V0 rfl (WL_nil ?_)))))
   have hw1 : IntKind.i64.wrap (((0 : Nat) : Int) + 1) = 1 := wrap64_in (by omega) (by omega)
   have hw2 : IntKind.i64.wrap (z + 1) = z + 1 := wrap64_in (by omega) (by omega)
   refine ⟨5 - (4 + 1), by omega, 5, _, A5, c5, rfl, by omega, ?_, ?_, ⟨rfl, rfl, rfl, rfl, rfl, rfl, rfl, rfl, trivial⟩, hI⟩
   ·show 0 ≤ IntKind.i64.wrap (z + IntKind.i64.wrap (((0 : Nat) : Int) + 1))
    rw [hw1, hw2]; omega
   ·show IntKind.i64.wrap (z + IntKind.i64.wrap (((0 : Nat) : Int) + 1)) ≤ _
    rw [hw1, hw2]; omega
 clear hI
 rintro ρ w ⟨A5, c5, hH, hI⟩
 obtain ⟨σ, rfl⟩ := hH.open
 refine W_seq_cut (fun ρ w => Has ρ [(4, .pointer (some ⟨b4, 0, none⟩)), (2, .pointer (some ⟨b2, 0, none⟩))] ∧ Inv (fun _ => False) w0 w [B b4 25 (pK 4), Row 0 9 1 A5 4 c5 (nmL.map strV), B b2 25 #[.int .i64 0, .int .i64 0, .int .i64 0, .int .i64 0, .bool false, strV [], strV [], .int .i64 0]]) ?_ ?_
 ·refine W_seq (W_region (Vy [(0, .string _), (1, .string _), (2, .string _), (3, .string _)] [_, _, _, _] [.string ⟨#[]⟩, .string ⟨#[]⟩, .string ⟨#[]⟩, .string ⟨#[]⟩] [0, 1, 2, 3] hI rfl Tryz.underlying81 (fun _ => by kernel_rfl) ?_))
  clear hI; rintro b68 w - - hI
  refine Vt rfl Tryz.underlying81 rfl (V0 rfl (WL_nil (W_block ?_)))
  refine W_loopN (fun mu ρ w => ∃ k : Nat, mu = 4 - k ∧ k ≤ 4 ∧ Has ρ [(70, .int .i64 (k : Int)), (69, .int .i64 4), (68, .slice (some ⟨b68, 0, none⟩) 4 4), (5, .slice A5 4 c5), (4, .pointer (some ⟨b4, 0, none⟩)), (2, .pointer (some ⟨b2, 0, none⟩))] ∧
    Inv (fun _ => False) w0 w [B b68 9 (nmL.map strV).toArray, B b4 25 (pK 4), Row 0 9 1 A5 4 c5 (nmL.map strV), B b2 25 #[.int .i64 0, .int .i64 0, .int .i64 0, .int .i64 0, .bool false, strV [], strV [], .int .i64 0]]) 4
   ⟨0, rfl, by omega, ⟨rfl, rfl, rfl, rfl, rfl, rfl, trivial⟩, hI⟩ ?_
  clear hI
  rintro mu ρ w ⟨k, rfl, hk, hH, hI⟩
  obtain ⟨σ, rfl⟩ := hH.open
  by_cases hk4 : k < 4
  rotate_left
  ·obtain rfl : k = 4 := by omega
   refine W_seq (W_region (Vn rfl (WL_nil (W_seq (W_cond false rfl ?_)))))
   refine W_exit ?_
   exact ⟨⟨rfl, rfl, trivial⟩, hI.d0⟩
  obtain ⟨nm, rs, hnm, -⟩ := round_facts (b := b4) hG hM k hk4
  have hcp : (nmL.map strV).toArray[k]? = some (strV nm) := by rw [List.getElem?_toArray, List.getElem?_map, hnm]; rfl
  refine W_seq (W_region (Vr rfl (WL_nil (W_seq (W_cond true rfl (W_skip (W_seq (W_block (W_seq (W_region (Ts rfl Tryz.underlying81 rfl (V3 (.string _) rfl (hI.c0 hcp) (U3 rfl ?_)))))))))))))
  refine WL_nil (W_seq (W_region (Vg rfl (Vp rfl (V6 [.slice _ _ _, .string _] rfl Tryz.func30 rfl ?_)))))
  refine (conS_any A5 c5 nmL nm (fun _ => True) _ (Rd.of_own hI.g2 (fun _ _ _ => trivial)) (by decide) true (by rw [decide_eq_true (List.mem_of_getElem? hnm)])).mono ?_
  rintro e w1 ⟨rfl, hp1⟩
  refine ⟨_, rfl, ?_⟩
  replace hI := hI.pure hp1
  refine T7 rfl (WL_nil (W_cond false rfl (W_skip (W_region (Vu rfl (V0 rfl (WL_nil ?_)))))))
  exact ⟨4 - (k + 1), by omega, k + 1, rfl, by omega, ⟨rfl, rfl, rfl, rfl, rfl, rfl, trivial⟩, hI⟩
 clear hI
 rintro ρ w ⟨hH, hI⟩
 obtain ⟨σ, rfl⟩ := hH.open
 have hSet : ∀ (w : World), Inv (fun _ => False) w0 w [B b4 25 (pK 4), Row 0 9 1 A5 4 c5 (nmL.map strV), B b2 25 #[.int .i64 0, .int .i64 0, .int .i64 0, .int .i64 0, .bool false, strV [], strV [], .int .i64 0]] → ∀ (j : Nat) (u : Value), [.int .i64 3, .int .i64 1, .int .i64 2, .int .i64 2, .bool true][j]? = some u → w.cell? ⟨b4, 0 + j, none⟩ = some u := by
  intro w hI j u hj
  rw [Nat.zero_add]
  refine hI.c0 ?_
  match j, hj with
  | 0, h => exact h
  | 1, h => exact h
  | 2, h => exact h
  | 3, h => exact h
  | 4, h => exact h
  | j + 5, h => simp at h
 refine W_seq (W_seq (W_region (V5 0 rfl (Tt 5 [.int .i64 3, .int .i64 1, .int .i64 2, .int .i64 2, .bool true] rfl (hSet _ hI) (V6 [.agg _] rfl Tryz.func6 rfl ?_)))))
 refine (scheck_any 3 1 2 2 true _).mono ?_
 rintro e w1 ⟨⟨_, rfl⟩ | ⟨hb, _⟩, hp⟩
 rotate_left
 ·exact absurd (by decide) hb
 refine ⟨_, rfl, ?_⟩
 replace hI := hI.pure hp
 refine Ve rfl (WL_nil (W_seq (W_region (T6 rfl (Tb rfl Tryz.underlying29 rfl (WL_nil (W_cond false rfl (W_skip (W_seq (W_region (Tn 8 rfl hI.g0 ?_)))))))))))
 refine WL_stw2 (u := .agg _) (vs := #[_, _, _, _, _, _, _, _]) (n := 8) hI rfl rfl rfl rfl rfl rfl (by kernel_rfl) rfl rfl rfl ?_
 clear hI; intro w hI
 refine Ve rfl (WL_nil ?_)
 refine W_ret ?_
 exact retC2 (n := 8) (t := 25) (.inr rfl) rfl rfl (by kernel_rfl) (by kernel_rfl) rfl hI.g2 ⟨rfl, hI.pu⟩
end Go.Proofs.YthndpiopbdecfaaGreatDoor
namespace Go.Proofs.YthndpiopbdecfaaGreatDoor
set_option linter.unusedVariables false
set_option linter.unusedSimpArgs false
def delAll : Nat → StS → StS
 | 0, s => s
 | n + 1, s => match s.mails with
  | [] => s
  | m :: _ => delAll n (deliverF s 0 m)
theorem DelR.eq : ∀ (n : Nat) (s s' : StS), DelR s s' → (delAll n s).mails = [] → s' = delAll n s
 | 0, s, s', h, hn => by
  cases h with
  | nil _ => rfl
  | step hm _ =>
   have hn : s.mails = [] := hn
   rw [hn] at hm
   cases hm
 | n + 1, s, s', h, hn => by
  cases h with
  | nil h0 => unfold delAll; rw [h0]
  | @step _ _ m hm hd =>
   obtain ⟨r, hr⟩ : ∃ r, s.mails = m :: r := by
    cases hs : s.mails with
    | nil => rw [hs] at hm; cases hm
    | cons a r =>
     rw [hs] at hm
     exact ⟨r, by rw [Option.some.inj hm]⟩
   have e : delAll (n + 1) s = delAll n (deliverF s 0 m) := by
    show (match s.mails with | [] => s | m :: _ => delAll n (deliverF s 0 m)) = _
    rw [hr]
   rw [e] at hn ⊢
   exact DelR.eq n _ s' hd hn
def sT0 : StS := s0 3 1 2 2 true
def sT1 : StS := begS sT0 0 0 true 5
def sT2 : StS := delAll 30 sT1
def evT2 : List Ev := [⟨0, 1, 0, 2, 5, 0, 0⟩, ⟨0, 2, 0, 2, 5, 0, 0⟩]
theorem sT2_mails : sT2.mails = [] := by kernel_rfl
theorem sT2_evs : sT2.evs = evT2 := by kernel_rfl
theorem sT0_mails : sT0.mails = [] := by kernel_rfl
def opsT : List Op8 := [⟨0, 0, 2, 5, 0, 0, 0, 1⟩]
theorem evF_T : evF evT2 = some opsT := by decide +kernel
theorem ver_T : (verdF 1 opsT befB 10000).1 = 1 := by decide +kernel
theorem okLin_T : OkLin 1 opsT 10000 := by
 refine ⟨by decide, by decide, by decide, by decide, ⟨by decide, fun k hk => ?_⟩, fun k hk => ?_⟩
 ·obtain rfl : k = 0 := by have : k < 1 := hk; omega
  unfold OkOp ordOk twiceAt
  decide +kernel
 ·obtain rfl : k = 0 := by have : k < 1 := hk; omega
  decide +kernel
theorem mayB_T : MayB sT0 ((0 : Nat) : Int) 0 := ⟨rfl, by decide, rfl, rfl, by decide⟩
theorem nx_T : Nx [] (.lim 1 (.wr 0 5 5)) 0 (some (true, 0, 5)) (.lim 0 (.wr 0 5 5)) 1 := by
 have h := @Nx.lim [] (.wr 0 5 5) 0 _ _ _ 0 .wr
 have e : (5 : Int) + belF [] 0 (5 - 5 + 1) = 5 := by decide +kernel
 rw [e] at h
 exact h
theorem RndR.one {nums : List Int} {t t' : Tr} {m m' : Bool} (h : RndR nums 1 0 t m t' m') : ∃ r, BegR nums t ((0 : Nat) : Int) r t' ∧ m' = (r || m) := by
 cases h with
 | step hi hb h2 =>
  cases h2 with
  | done => exact ⟨_, hb, rfl⟩
  | step hi2 _ _ => omega
theorem run_T {t2 : Tr} {gT : List UInt8} (hpg : parsedT gT = some (.lim 1 (.wr 0 5 5))) (h : RunTo [] 3 1 2 2 true gT t2) : t2.st = sT2 := by
 obtain ⟨g, t1, hg, -, ht1, hfin⟩ := h.go
 rw [hpg] at hg
 obtain rfl := Option.some.inj hg
 have ht1 := ht1 rfl
 subst ht1
 have key : ∀ (s1 : StS) (t' : Tr) (m : Bool), DelR sT0 s1 → RndR [] 1 0 ⟨s1, .lim 1 (.wr 0 5 5), 0, 0, false⟩ false t' m → t' = ⟨sT1, .lim 0 (.wr 0 5 5), 1, 1, false⟩ ∧ m = true := by
  intro s1 t' m hd hr
  obtain rfl : s1 = sT0 := DelR.eq 0 _ _ hd sT0_mails
  obtain ⟨r, hb, rfl⟩ := hr.one
  rcases hb with ⟨hbad, _, _⟩ | ⟨_, _, c', hm, rr, g', u', hnx, hc⟩
  ·rcases hbad with h | h | h
   ·cases h
   ·exact absurd h (by show ¬ 40 ≤ 0; omega)
   ·exact absurd mayB_T (h 0)
  ·obtain ⟨e1, e2, e3⟩ := hnx.det nx_T
   subst e1 e2 e3
   have hc0 : c' = 0 := by have := hm.eq; omega
   subst hc0
   rcases hc with ⟨h, _⟩ | ⟨w, k, v, h, hh⟩
   ·cases h
   ·injection h with h
    injection h with h1 h2
    injection h2 with h2 h3
    subst h1 h2 h3
    rcases hh with ⟨hno, _⟩ | ⟨_, rfl, rfl⟩
    ·exact absurd ⟨⟨by omega, by omega⟩, ⟨by omega, by omega⟩, fun h => by cases h⟩ hno
    ·exact ⟨rfl, rfl⟩
 have key2 : ∀ (s1 : StS) (t' : Tr) (m : Bool), DelR sT1 s1 → RndR [] 1 0 ⟨s1, .lim 0 (.wr 0 5 5), 1, 1, false⟩ false t' m → t'.st = sT2 ∧ m = false := by
  intro s1 t' m hd hr
  obtain rfl : s1 = sT2 := DelR.eq 30 _ _ hd sT2_mails
  obtain ⟨r, hb, rfl⟩ := hr.one
  rcases hb with ⟨_, rfl, rfl⟩ | ⟨_, _, c', hm, rr, g', u', hnx, hc⟩
  ·exact ⟨rfl, rfl⟩
  ·obtain ⟨e1, e2, e3⟩ := hnx.det .lim0
   subst e1 e2 e3
   rcases hc with ⟨_, rfl, rfl⟩ | ⟨w, k, v, h, _⟩
   ·exact ⟨rfl, rfl⟩
   ·cases h
 cases hfin with
 | last hd hr =>
  have := (key _ _ _ hd hr).2
  cases this
 | more hd hr hfin =>
  obtain ⟨rfl, -⟩ := key _ _ _ hd hr
  cases hfin with
  | last hd hr => exact (key2 _ _ _ hd hr).1
  | more hd hr _ =>
   have := (key2 _ _ _ hd hr).2
   cases this
end Go.Proofs.YthndpiopbdecfaaGreatDoor
namespace Go.Proofs.YthndpiopbdecfaaGreatDoor
open Go.RowKit
set_option linter.unusedVariables false
set_option linter.unusedSimpArgs false
set_option maxHeartbeats 4000000 in
theorem tried_any (w0 : World) (hG : FaG w0) (hM : MaxOk w0) : Calls Tryz.prog 5 #[] w0 fun en w' => en = .returned (.bool true) ∧ Pure w0 w' := by
 have hI := Inv.start (fun _ => False) w0
 have hRun : ∀ (w : World), Pure w0 w → Calls Tryz.prog 8 #[.agg (pC 3 1 2 2 genT), .slice none 0 0] w fun en w' => ∃ (A1 : Option Addr) (c1 : Nat) (A2 : Option Addr) (c2 n2 : Nat) (en2 : Int),
   en = .returned (.tuple #[.agg #[strV [], .slice A1 2 c1, .int .i64 1, .slice A2 n2 c2, .int .i64 en2], .nilIface]) ∧ Inv (fun _ => False) w w' [Row 0 48 7 A1 2 c1 (evT2.flatMap evL)] := by
  intro w hp
  refine (frun_any 3 1 2 2 true [] genT 10000 none 0 0 [] (fun _ => False) w (Rd.nil w _ 1) (hG.pure hp) (by decide)).mono ?_
  rintro en w' (⟨hbad, _⟩ | ⟨n', k', a', t', t2, ops, A1, c1, A2, c2, e1, e2, e3, e4, hs, hb, hrun, hlen, hev, hok, rfl, hJ⟩)
  ·exfalso
   rcases hbad with h | h | h | h | h | ⟨n', k', a', t', t2, e1, e2, e3, e4, hrun, h⟩
   ·simp at h
   ·omega
   ·omega
   ·exact h (by decide)
   ·rw [parsed_genT] at h; cases h
   ·obtain rfl : n' = 3 := by omega
    obtain rfl : k' = 1 := by omega
    obtain rfl : a' = 2 := by omega
    obtain rfl : t' = 2 := by omega
    have hst := run_T parsed_genT hrun
    rw [hst, sT2_evs, evF_T] at h
    rcases h with h | ⟨ops, h, hno⟩
    ·cases h
    ·obtain rfl := Option.some.inj h
     exact hno okLin_T
  ·obtain rfl : n' = 3 := by omega
   obtain rfl : k' = 1 := by omega
   obtain rfl : a' = 2 := by omega
   obtain rfl : t' = 2 := by omega
   have hst := run_T parsed_genT hrun
   rw [hst, sT2_evs] at hev hJ ⊢
   rw [evF_T] at hev
   obtain rfl := Option.some.inj hev
   have hv : (verdF 1 opsT befB (10000 : Int).toNat).1 = 1 := ver_T
   rw [hv]
   exact ⟨A1, c1, A2, c2, _, _, rfl, hJ.hd1⟩
 refine Vl Tryz.f5.ntmps Tryz.func5 rfl ?_
 refine W_seq (W_region (V4 rfl (WL_nil (W_seq (W_region (V6 [.string _] rfl Tryz.func11 rfl ?_))))))
 refine (fparse_any _ (hG.pure hI.pu).num (hM.pure hI.pu)).mono ?_
 rintro e w1 ⟨rfl, hp1⟩
 refine ⟨_, rfl, ?_⟩
 replace hI := hI.pure hp1
 refine Vv rfl (Vf rfl (Vf rfl (T0 (.agg #[.int .i64 0, .int .i64 0, .int .i64 0, .int .i64 0, .bool false, .string ⟨#[]⟩, .string ⟨#[]⟩, .int .i64 0]) (#[.int .i64 0, .int .i64 0, .int .i64 0, .int .i64 0, .bool false, .string ⟨#[]⟩, .string ⟨#[]⟩, .int .i64 0]) hI rfl ?_)))
 clear hI; rintro b1 w - - hI
 refine T1 8 (#[_, _, _, _, _, _, _, _]) (.agg _) hI rfl ?_
 clear hI; intro w hI
 refine Ve rfl (WL_nil (W_seq (W_region (Tn 8 rfl hI.g0 (V6 [.agg _, .slice _ _ _] rfl Tryz.func8 rfl ?_)))))
 refine (hRun _ hI.pu).mono ?_
 rintro e w1 ⟨A1, c1, A2, c2, n2, en2, rfl, hT⟩
 refine ⟨_, rfl, ?_⟩
 replace hI := hI.app1 hT
 refine Vv rfl (Vf rfl (Vf rfl (T0 (.agg #[.string ⟨#[]⟩, .slice none 0 0, .int .i64 0, .slice none 0 0, .int .i64 0]) (#[.string ⟨#[]⟩, .slice none 0 0, .int .i64 0, .slice none 0 0, .int .i64 0]) hI rfl ?_)))
 clear hI; rintro b3 w - - hI
 refine T1 5 (#[_, _, _, _, _]) (.agg _) hI rfl ?_
 clear hI; intro w hI
 refine Ve rfl (WL_nil ?_)
 obtain ⟨gA, _, rfl, -⟩ := row_openB hI.g1 (by decide)
 have he5 : ∀ (w : World) (e0 : Ent) (H : List Ent), Inv (fun _ => False) w0 w (e0 :: Row 0 48 7 (some ⟨gA, 0, none⟩) 2 c1 (evT2.flatMap evL) :: H) → w.cell? ⟨gA, 11, none⟩ = some (.int .i64 5) := fun w e0 H hI => row_cellS hI.g1 (i := 11) rfl (by decide)
 refine W_seq (W_region (T6 rfl ?_))
 refine WL_val rfl rfl rfl (by exact rNilEq rfl Tryz.underlying29 rfl) ?_
 refine V2 rfl (T6 rfl ?_)
 refine WL_val rfl rfl rfl (by exact rNilEq rfl Tryz.underlying29 rfl) ?_
 refine Vd rfl (V2 rfl (V5 2 rfl (Te rfl (V3 (.int .i64 _) rfl (hI.c0 rfl) (Vz rfl (Vd rfl (V2 rfl (V5 1 rfl (V3 (.slice _ _ _) rfl (hI.c0 rfl) (Vt rfl Tryz.underlying32 rfl (Vz rfl (Vd rfl (V2 rfl ?_)))))))))))))
 refine V5 1 rfl (V3 (.slice _ _ _) rfl (hI.c0 rfl) ?_)
 refine WL_val rfl rfl rfl (rIdx (sz := 7) (i := 1) rfl Tryz.underlying32 (by kernel_rfl) rfl rfl (by decide)) ?_
 refine Td 4 rfl (V3 (.int .i64 _) rfl (he5 _ _ _ hI) (Vz rfl (Vd rfl (V4 rfl (WL_nil ?_)))))
 refine W_ret ?_
 exact ret1 0 (.inr rfl) rfl ⟨rfl, hI.pu⟩
end Go.Proofs.YthndpiopbdecfaaGreatDoor
namespace Go.Proofs.YthndpiopbdecfaaGreatDoor
set_option linter.unusedVariables false
set_option linter.unusedSimpArgs false
/-! ### What holds -/
def actC (x : SCl) : Prop := x.busy = true ∨ x.gone = true
def After (evs : List Ev) (i : Nat) (c : Nat) : Prop := ∃ (j : Nat) (e : Ev), i < j ∧ evs[j]? = some e ∧ e.ty = 1 ∧ e.proc = (c : Int)
def Cur (s : StS) (m : SMail) : Prop := (s.cl m.m.client).busy = true ∧ m.m.round = (s.cl m.m.client).round
def StrongE (s : StS) (e : Ev) : Prop := e.ty = 2 ∧ (e.kind = 2 ∨ s.back = true)
structure QOk (s : StS) (i : Nat) (e : Ev) (st : SEnt) (Q : List Nat) : Prop where
 nd : Q.Nodup
 lt : ∀ q ∈ Q, q < s.n
 len : s.tell ≤ Q.length
 a : ∀ q ∈ Q, st.le (s.ent q e.key.toNat)
 b : ∀ c, (s.cl c).busy = true → (s.cl c).telling = false → (s.cl c).began.key = e.key → After s.evs i c → ∀ q ∈ Q, (s.cl c).counted[q]? = some true → st.le (s.cl c).best
 c : ∀ m ∈ s.mails, m.m.what = 3 → m.src ∈ Q → Cur s m → (s.cl m.m.client).telling = false → (s.cl m.m.client).began.key = e.key → After s.evs i m.m.client → st.le m.m.e
 d : ∀ c, actC (s.cl c) → (s.cl c).telling = true → (s.cl c).began.key = e.key → After s.evs i c → st.le (s.cl c).best ∧ ((s.cl c).began.kind = 2 → st.less (s.cl c).best)
/-- What was written: by an op that is over, or by one that is being told. -/
def Wr (s : StS) (key : Nat) (e : SEnt) : Prop :=
 (∃ (i : Nat) (ev : Ev) (st : SEnt), s.evs[i]? = some ev ∧ s.sts[i]? = some st ∧ ev.ty = 2 ∧ ev.kind = 2 ∧ ev.key = (key : Int) ∧ st.t = e.t ∧ st.c = e.c ∧ ev.a = e.v) ∨
 (∃ c, actC (s.cl c) ∧ (s.cl c).telling = true ∧ (s.cl c).began.kind = 2 ∧ (s.cl c).began.key = (key : Int) ∧ (s.cl c).best = e)
structure SInv (s : StS) : Prop where
 quo : s.n < s.ask + s.tell
 len : s.evs.length = s.sts.length
 rnd : ∀ m ∈ s.mails, m.m.round ≤ (s.cl m.m.client).round
 key : ∀ m ∈ s.mails, Cur s m → (m.m.key : Int) = (s.cl m.m.client).began.key
 asks : ∀ m ∈ s.mails, Cur s m → m.m.what = 1 → (s.cl m.m.client).telling = false
 tells : ∀ m ∈ s.mails, Cur s m → m.m.what = 2 → (s.cl m.m.client).telling = true ∧ m.m.e = (s.cl m.m.client).best
 what : ∀ m ∈ s.mails, (m.dst < s.n → m.m.what = 1 ∨ m.m.what = 2) ∧ (s.n ≤ m.dst → m.m.what = 3 ∧ m.src < s.n)
 clen : ∀ c, (s.cl c).busy = true → (s.cl c).counted.length = s.n
 bkey : ∀ c, actC (s.cl c) → 0 ≤ (s.cl c).began.key ∧ (s.cl c).began.ty = 1 ∧ (s.cl c).began.proc = (c : Int) ∧ (s.cl c).began.res = 0 ∧ ((s.cl c).began.kind = 1 ∨ (s.cl c).began.kind = 2)
 strong : ∀ (i : Nat) (e : Ev) (st : SEnt), s.evs[i]? = some e → s.sts[i]? = some st → StrongE s e → ∃ Q, QOk s i e st Q
 f : ∀ c, (s.cl c).busy = true → (s.cl c).telling = true → ∀ q : Nat, (s.cl c).counted[q]? = some true → (s.cl c).best.le (s.ent q (keyC s c))
 g : ∀ m ∈ s.mails, m.m.what = 3 → Cur s m → (s.cl m.m.client).telling = true → (s.cl m.m.client).best.le (s.ent m.src (keyC s m.m.client))
 aft : ∀ c, actC (s.cl c) → ∀ (i : Nat) (e : Ev), s.evs[i]? = some e → e.ty = 2 → e.proc = (c : Int) → After s.evs i c
 pro : ∀ (i : Nat) (e : Ev), s.evs[i]? = some e → e.ty = 2 → 0 ≤ e.proc ∧ 0 ≤ e.key ∧ (e.kind = 1 ∨ e.kind = 2)
 fresh : ∀ (i k : Nat) (e e' : Ev) (st st' : SEnt), i < k → s.evs[i]? = some e → s.evs[k]? = some e' → s.sts[i]? = some st → s.sts[k]? = some st' → StrongE s e → e'.ty = 2 → e'.key = e.key → After (s.evs.take k) i e'.proc.toNat → st.le st' ∧ (e'.kind = 2 → st.less st')
 two : ∀ (i k : Nat) (e e' : Ev), i < k → s.evs[i]? = some e → s.evs[k]? = some e' → e.ty = 2 → e'.ty = 2 → e'.proc = e.proc → After (s.evs.take k) i e'.proc.toNat
 s1 : ∀ q key, 0 ≤ (s.ent q key).c → Wr s key (s.ent q key)
 s2 : ∀ m ∈ s.mails, m.m.what ≠ 1 → 0 ≤ m.m.e.c → Wr s m.m.key m.m.e
 s3 : ∀ c, actC (s.cl c) → 0 ≤ (s.cl c).best.c → Wr s (keyC s c) (s.cl c).best
 s4 : ∀ (i : Nat) (e : Ev) (st : SEnt), s.evs[i]? = some e → s.sts[i]? = some st → e.ty = 2 → e.kind = 1 → 0 ≤ st.c → Wr s e.key.toNat ⟨st.t, st.c, e.res⟩
 s5 : ∀ (i : Nat) (e : Ev) (st : SEnt), s.evs[i]? = some e → s.sts[i]? = some st → e.ty = 2 → e.kind = 2 → st.c = e.proc
 s6 : ∀ c, actC (s.cl c) → (s.cl c).telling = true → (s.cl c).began.kind = 2 → (s.cl c).best.c = (c : Int) ∧ (s.cl c).best.v = (s.cl c).began.a
 ng : ∀ c, (s.cl c).busy = true → (s.cl c).gone = false
/-- It hangs on the set of mails alone. -/
theorem SInv.mails {s : StS} (h : SInv s) {ms : List SMail} (hm : ∀ m ∈ ms, m ∈ s.mails) : SInv { s with mails := ms } where
 quo := h.quo
 len := h.len
 rnd := fun m hx => h.rnd m (hm m hx)
 key := fun m hx => h.key m (hm m hx)
 asks := fun m hx => h.asks m (hm m hx)
 tells := fun m hx => h.tells m (hm m hx)
 what := fun m hx => h.what m (hm m hx)
 clen := h.clen
 bkey := h.bkey
 strong := fun i e st h1 h2 h3 => by
  obtain ⟨Q, q⟩ := h.strong i e st h1 h2 h3
  exact ⟨Q, q.nd, q.lt, q.len, q.a, q.b, fun m hx => q.c m (hm m hx), q.d⟩
 f := h.f
 g := fun m hx => h.g m (hm m hx)
 aft := h.aft
 pro := h.pro
 fresh := h.fresh
 two := h.two
 s1 := h.s1
 s2 := fun m hx => h.s2 m (hm m hx)
 s3 := h.s3
 s4 := h.s4
 s5 := h.s5
 s6 := h.s6
 ng := h.ng
/-- A node hears. -/
def nodeG (s : StS) (x : SMail) (ms : List SMail) : StS := { setEnt s x.dst x.m.key (ownN s x.dst x.m) with mails := ms }
theorem SInv.node {s : StS} (h : SInv s) {x : SMail} (hx : x ∈ s.mails) (hd : x.dst < s.n) (ms : List SMail) (hms : ∀ m ∈ ms, m ∈ s.mails ∨ m = ⟨x.dst, s.n + x.m.client, { x.m with what := 3, e := ownN s x.dst x.m }⟩) : SInv (nodeG s x ms) := by
 obtain ⟨own, hown⟩ : ∃ own, ownN s x.dst x.m = own := ⟨_, rfl⟩
 have hge : (s.ent x.dst x.m.key).le own := by
  rw [← hown]; unfold ownN
  split
  ·rename_i hc; exact SEnt.less_imp hc.2
  ·exact SEnt.le_refl _
 have hmono : ∀ q key, (s.ent q key).le ((nodeG s x ms).ent q key) := fun q key => by
  show (s.ent q key).le (if q = x.dst ∧ key = x.m.key then _ else _)
  split
  ·rename_i hc
   obtain ⟨rfl, rfl⟩ := hc
   rw [hown]; exact hge
  ·exact SEnt.le_refl _
 have hself : (nodeG s x ms).ent x.dst x.m.key = own := by
  show (if x.dst = x.dst ∧ x.m.key = x.m.key then _ else _) = _
  rw [if_pos ⟨rfl, rfl⟩]; exact hown
 have hmem : ∀ m ∈ (nodeG s x ms).mails, m ∈ s.mails ∨ m = ⟨x.dst, s.n + x.m.client, { x.m with what := 3, e := own }⟩ := fun m hm => by
  rw [← hown]; exact hms m hm
 have hcl : (nodeG s x ms).cl = s.cl := rfl
 have hcurx : ∀ {m : SMail}, m = ⟨x.dst, s.n + x.m.client, { x.m with what := 3, e := own }⟩ → Cur (nodeG s x ms) m → Cur s x := fun e hc => by subst e; exact hc
 have hwh := (h.what x hx).1 hd
 have hWr : ∀ {key e}, Wr s key e → Wr (nodeG s x ms) key e := fun hw => hw
 have hWrOwn : 0 ≤ own.c → Wr s x.m.key own := fun h0 => by
  rw [← hown] at h0 ⊢
  unfold ownN at h0 ⊢
  split at h0
  ·rename_i hc
   rw [if_pos hc]
   exact h.s2 x hx (by omega) h0
  ·rename_i hc
   rw [if_neg hc]
   exact h.s1 _ _ h0
 exact {
  quo := h.quo
  len := h.len
  rnd := fun m hm => by
   rcases hmem m hm with h1 | rfl
   ·exact h.rnd m h1
   ·exact h.rnd x hx
  key := fun m hm hc => by
   rcases hmem m hm with h1 | e
   ·exact h.key m h1 hc
   ·have := h.key x hx (hcurx e hc); subst e; exact this
  asks := fun m hm hc hw => by
   rcases hmem m hm with h1 | e
   ·exact h.asks m h1 hc hw
   ·subst e; cases hw
  tells := fun m hm hc hw => by
   rcases hmem m hm with h1 | e
   ·exact h.tells m h1 hc hw
   ·subst e; cases hw
  what := fun m hm => by
   rcases hmem m hm with h1 | e
   ·exact h.what m h1
   ·subst e
    exact ⟨fun hlt => absurd (show s.n + x.m.client < s.n from hlt) (by omega), fun _ => ⟨rfl, hd⟩⟩
  clen := h.clen
  bkey := h.bkey
  strong := fun i e st h1 h2 h3 => by
   obtain ⟨Q, q⟩ := h.strong i e st h1 h2 h3
   refine ⟨Q, q.nd, q.lt, q.len, fun r hr => SEnt.le_trans (q.a r hr) (hmono _ _), q.b, fun m hm hw hs hc ht hk ha => ?_, q.d⟩
   rcases hmem m hm with h4 | e4
   ·exact q.c m h4 hw hs hc ht hk ha
   ·have hcx := hcurx e4 hc
    subst e4
    have hkey := h.key x hx hcx
    have hke : x.m.key = e.key.toNat := by
     have : (s.cl x.m.client).began.key = e.key := hk
     omega
    have := q.a x.dst hs
    rw [← hke] at this
    exact SEnt.le_trans this hge
  f := fun c hb ht q hq => SEnt.le_trans (h.f c hb ht q hq) (hmono _ _)
  g := fun m hm hw hc ht => by
   rcases hmem m hm with h1 | e
   ·exact SEnt.le_trans (h.g m h1 hw hc ht) (hmono _ _)
   ·have hcx := hcurx e hc
    subst e
    have hkey := h.key x hx hcx
    rcases hwh with hw1 | hw2
    ·have := h.asks x hx hcx hw1
     rw [show (s.cl x.m.client).telling = true from ht] at this
     cases this
    ·have he := (h.tells x hx hcx hw2).2
     have hk : keyC s x.m.client = x.m.key := by unfold keyC; omega
     show (s.cl x.m.client).best.le ((nodeG s x ms).ent x.dst (keyC s x.m.client))
     rw [hk, hself, ← he, ← hown]
     unfold ownN
     split
     ·exact SEnt.le_refl _
     ·rename_i hn
      exact SEnt.le_of_not fun hl => hn ⟨hw2, hl⟩
  aft := h.aft
  pro := h.pro
  fresh := h.fresh
  two := h.two
  s1 := fun q key h0 => by
   have he : (nodeG s x ms).ent q key = if q = x.dst ∧ key = x.m.key then own else s.ent q key := by rw [← hown]; rfl
   rw [he] at h0 ⊢
   split at h0
   ·rename_i hc
    rw [if_pos hc, hc.2]
    exact hWrOwn h0
   ·rename_i hc
    rw [if_neg hc]
    exact h.s1 q key h0
  s2 := fun m hm hw h0 => by
   rcases hmem m hm with h1 | e
   ·exact h.s2 m h1 hw h0
   ·subst e; exact hWrOwn h0
  s3 := h.s3
  s4 := h.s4
  s5 := h.s5
  s6 := h.s6
  ng := h.ng }
theorem After.app {evs : List Ev} {i c : Nat} (h : After evs i c) (E : List Ev) : After (evs ++ E) i c := by
 obtain ⟨j, e, h1, h2, h3⟩ := h
 exact ⟨j, e, h1, by rw [List.getElem?_append_left (List.getElem?_eq_some_iff.1 h2).1]; exact h2, h3⟩
def oE (o : Option (Ev × SEnt)) : List Ev := match o with | some x => [x.1] | none => []
def oS (o : Option (Ev × SEnt)) : List SEnt := match o with | some x => [x.2] | none => []
theorem oE_len (o : Option (Ev × SEnt)) : (oE o).length = (oS o).length := by cases o <;> rfl
theorem oE_get {evs : List Ev} {o : Option (Ev × SEnt)} {i : Nat} {e : Ev} (h : (evs ++ oE o)[i]? = some e) : evs[i]? = some e ∨ (i = evs.length ∧ ∃ st, o = some (e, st)) := by
 by_cases hi : i < evs.length
 ·rw [List.getElem?_append_left hi] at h; exact .inl h
 ·rw [List.getElem?_append_right (by omega)] at h
  cases o with
  | none => cases h
  | some x =>
   have h0 : i - evs.length < 1 := (List.getElem?_eq_some_iff.1 h).1
   have h1 : i - evs.length = 0 := by omega
   rw [h1] at h
   injection h with h
   exact .inr ⟨by omega, x.2, by rw [← h]⟩
theorem oE_get2 {evs : List Ev} {sts : List SEnt} {o : Option (Ev × SEnt)} {i : Nat} {e : Ev} {st : SEnt} (hl : evs.length = sts.length) (h : (evs ++ oE o)[i]? = some e) (k : (sts ++ oS o)[i]? = some st) : (evs[i]? = some e ∧ sts[i]? = some st) ∨ (i = evs.length ∧ o = some (e, st)) := by
 rcases oE_get h with h1 | ⟨h1, st', rfl⟩
 ·have hi := (List.getElem?_eq_some_iff.1 h1).1
  rw [List.getElem?_append_left (by omega)] at k
  exact .inl ⟨h1, k⟩
 ·rw [List.getElem?_append_right (by omega)] at k
  have h2 : i - sts.length = 0 := by omega
  rw [h2] at k
  injection k with k
  exact .inr ⟨h1, by rw [← k]⟩
theorem After.of_app {evs : List Ev} {o : Option (Ev × SEnt)} {i c : Nat} (h : After (evs ++ oE o) i c) : After evs i c ∨ ∃ e st, o = some (e, st) ∧ e.ty = 1 ∧ e.proc = (c : Int) := by
 obtain ⟨j, e, h1, h2, h3, h4⟩ := h
 rcases oE_get h2 with h5 | ⟨_, st, h5⟩
 ·exact .inl ⟨j, e, h1, h5, h3, h4⟩
 ·exact .inr ⟨e, st, h5, h3, h4⟩
theorem not_after_end {evs : List Ev} {o : Option (Ev × SEnt)} {c : Nat} (h : After (evs ++ oE o) evs.length c) : False := by
 obtain ⟨j, e, h1, h2, h3, h4⟩ := h
 rcases oE_get h2 with h5 | ⟨h5, _⟩
 ·have := (List.getElem?_eq_some_iff.1 h5).1; omega
 ·omega
theorem get_app {α : Type} {l : List α} {i : Nat} {a : α} (h : l[i]? = some a) (r : List α) : (l ++ r)[i]? = some a := by
 rw [List.getElem?_append_left (List.getElem?_eq_some_iff.1 h).1]; exact h
/-- One client goes on. -/
structure Upd (s : StS) (c : Nat) (y : SCl) (o : Option (Ev × SEnt)) (s' : StS) : Prop where
 round : (s.cl c).round ≤ y.round
 old : y.busy = true → (s.cl c).round < y.round ∨ (o = none ∧ (s.cl c).busy = true ∧ y.round = (s.cl c).round ∧ y.began = (s.cl c).began ∧ y.telling = (s.cl c).telling ∧ (y.telling = true → y.best = (s.cl c).best))
 proc : ∀ e st, o = some (e, st) → e.proc = (c : Int)
 clen : y.busy = true → y.counted.length = s.n
 ng : y.busy = true → y.gone = false
 bkey : actC y → 0 ≤ y.began.key ∧ y.began.ty = 1 ∧ y.began.proc = (c : Int) ∧ y.began.res = 0 ∧ (y.began.kind = 1 ∨ y.began.kind = 2)
 b : ∀ (i : Nat) (e : Ev) (st : SEnt) (Q : List Nat), s.evs[i]? = some e → QOk s i e st Q → y.busy = true → y.telling = false → y.began.key = e.key → After (s.evs ++ oE o) i c → ∀ q ∈ Q, y.counted[q]? = some true → st.le y.best
 d : ∀ (i : Nat) (e : Ev) (st : SEnt) (Q : List Nat), s.evs[i]? = some e → QOk s i e st Q → actC y → y.telling = true → y.began.key = e.key → After (s.evs ++ oE o) i c → st.le y.best ∧ (y.began.kind = 2 → st.less y.best)
 new : ∀ e st, o = some (e, st) → StrongE s e → ∃ Q : List Nat, Q.Nodup ∧ (∀ q ∈ Q, q < s.n) ∧ s.tell ≤ Q.length ∧ ∀ q ∈ Q, st.le (s.ent q e.key.toNat)
 f : y.busy = true → y.telling = true → ∀ q : Nat, y.counted[q]? = some true → y.best.le (s.ent q y.began.key.toNat)
 aft : actC y → ∀ (i : Nat) (e : Ev), (s.evs ++ oE o)[i]? = some e → e.ty = 2 → e.proc = (c : Int) → After (s.evs ++ oE o) i c
 pro : ∀ e st, o = some (e, st) → e.ty = 2 → 0 ≤ e.proc ∧ 0 ≤ e.key ∧ (e.kind = 1 ∨ e.kind = 2)
 fresh : ∀ e st, o = some (e, st) → e.ty = 2 → ∀ (i : Nat) (e0 : Ev) (st0 : SEnt) (Q : List Nat), s.evs[i]? = some e0 → QOk s i e0 st0 Q → e.key = e0.key → After s.evs i c → st0.le st ∧ (e.kind = 2 → st0.less st)
 two : ∀ e st, o = some (e, st) → e.ty = 2 → actC (s.cl c)
 wr : actC (s.cl c) → (s.cl c).telling = true → (s.cl c).began.kind = 2 → Wr s' (keyC s c) (s.cl c).best
 s3 : actC y → 0 ≤ y.best.c → Wr s' y.began.key.toNat y.best
 s4 : ∀ e st, o = some (e, st) → e.ty = 2 → e.kind = 1 → 0 ≤ st.c → Wr s' e.key.toNat ⟨st.t, st.c, e.res⟩
 s5 : ∀ e st, o = some (e, st) → e.ty = 2 → e.kind = 2 → st.c = (c : Int)
 s6 : actC y → y.telling = true → y.began.kind = 2 → y.best.c = (c : Int) ∧ y.best.v = y.began.a
/-- A message that the client sent. -/
structure Sent (s : StS) (c : Nat) (y : SCl) (m : SMail) : Prop where
 busy : y.busy = true
 lt : (s.cl c).round < y.round
 dst : m.dst < s.n
 cl : m.m.client = c
 rnd : m.m.round = y.round
 key : (m.m.key : Int) = y.began.key
 what : (m.m.what = 1 ∧ y.telling = false) ∨ (m.m.what = 2 ∧ y.telling = true ∧ m.m.e = y.best)
set_option maxHeartbeats 1000000 in
theorem SInv.upd {s s' : StS} (h : SInv s) (c : Nat) (y : SCl) (o : Option (Ev × SEnt)) (hn : s'.n = s.n) (ha : s'.ask = s.ask) (ht : s'.tell = s.tell) (hb : s'.back = s.back) (hent : s'.ent = s.ent)
  (hf : ∀ i, i ≠ c → s'.cl i = s.cl i) (hy : s'.cl c = y) (he : s'.evs = s.evs ++ oE o) (hs : s'.sts = s.sts ++ oS o) (hms : ∀ m ∈ s'.mails, m ∈ s.mails ∨ Sent s c y m) (u : Upd s c y o s') : SInv s' := by
 have hAo : ∀ i d, d ≠ c → After s'.evs i d → After s.evs i d := fun i d hd hA => by
  rw [he] at hA
  rcases hA.of_app with h1 | ⟨e, st, h1, _, h2⟩
  ·exact h1
  ·have := u.proc e st h1; omega
 have hcur : ∀ m, (m ∈ s.mails ∨ Sent s c y m) → Cur s' m → Sent s c y m ∨ (m ∈ s.mails ∧ Cur s m ∧ (s'.cl m.m.client).began = (s.cl m.m.client).began ∧ (s'.cl m.m.client).telling = (s.cl m.m.client).telling ∧ ((s'.cl m.m.client).telling = true → (s'.cl m.m.client).best = (s.cl m.m.client).best) ∧ ∀ i, After s'.evs i m.m.client → After s.evs i m.m.client) := fun m hm hc => by
  rcases hm with hm | hm
  ·by_cases hcc : m.m.client = c
   ·obtain ⟨h1, h2⟩ := hc
    rw [hcc, hy] at h1 h2
    rcases u.old h1 with h3 | ⟨h3, h4, h5, h6, h7, h8⟩
    ·have := h.rnd m hm
     rw [hcc] at this
     omega
    ·refine .inr ⟨hm, ⟨by rw [hcc]; exact h4, by rw [hcc, h2, h5]⟩, by rw [hcc, hy]; exact h6, by rw [hcc, hy]; exact h7, by rw [hcc, hy]; exact h8, fun i hA => ?_⟩
     rw [he, h3] at hA
     rw [show oE none = [] from rfl, List.append_nil] at hA
     exact hA
   ·have hcl := hf _ hcc
    refine .inr ⟨hm, ⟨by rw [← hcl]; exact hc.1, by rw [← hcl]; exact hc.2⟩, by rw [hcl], by rw [hcl], fun _ => by rw [hcl], fun i => hAo i _ hcc⟩
  ·exact .inl hm
 have hWr : ∀ key e, 0 ≤ key → Wr s key e → Wr s' key e := fun key e _ hw => by
  rcases hw with ⟨i, ev, st, h1, h2, h3⟩ | ⟨d, h1, h2, h3, h4, h5⟩
  ·exact .inl ⟨i, ev, st, by rw [he]; exact get_app h1 _, by rw [hs]; exact get_app h2 _, h3⟩
  ·by_cases hd : d = c
   ·subst hd
    have := u.wr h1 h2 h3
    unfold keyC at this
    rw [h4, h5] at this
    exact this
   ·exact .inr ⟨d, by rw [hf d hd]; exact h1, by rw [hf d hd]; exact h2, by rw [hf d hd]; exact h3, by rw [hf d hd]; exact h4, by rw [hf d hd]; exact h5⟩
 exact {
  quo := by rw [hn, ha, ht]; exact h.quo
  len := by rw [he, hs, List.length_append, List.length_append, oE_len, h.len]
  rnd := fun m hm => by
   rcases hms m hm with h1 | h1
   ·by_cases hc : m.m.client = c
    ·have := h.rnd m h1
     rw [hc] at this ⊢
     rw [hy]
     exact Nat.le_trans this u.round
    ·rw [hf _ hc]; exact h.rnd m h1
   ·rw [h1.cl, hy, h1.rnd]; exact Nat.le_refl _
  key := fun m hm hc => by
   rcases hcur m (hms m hm) hc with h1 | ⟨h1, h2, h3, h4, h5, h6⟩
   ·rw [h1.cl, hy]; exact h1.key
   ·rw [h3]; exact h.key m h1 h2
  asks := fun m hm hc hw => by
   rcases hcur m (hms m hm) hc with h1 | ⟨h1, h2, h3, h4, h5, h6⟩
   ·rw [h1.cl, hy]
    rcases h1.what with ⟨_, h2⟩ | ⟨h2, _⟩
    ·exact h2
    ·omega
   ·rw [h4]; exact h.asks m h1 h2 hw
  tells := fun m hm hc hw => by
   rcases hcur m (hms m hm) hc with h1 | ⟨h1, h2, h3, h4, h5, h6⟩
   ·rw [h1.cl, hy]
    rcases h1.what with ⟨h2, _⟩ | ⟨_, h2⟩
    ·omega
    ·exact h2
   ·obtain ⟨h7, h8⟩ := h.tells m h1 h2 hw
    rw [← h4] at h7
    exact ⟨h7, by rw [h5 h7]; exact h8⟩
  what := fun m hm => by
   rw [hn]
   rcases hms m hm with h1 | h1
   ·exact h.what m h1
   ·have := h1.dst
    have := h1.what
    exact ⟨fun _ => by omega, fun _ => by omega⟩
  clen := fun d hd => by
   rw [hn]
   by_cases hc : d = c
   ·subst hc; rw [hy] at hd ⊢; exact u.clen hd
   ·rw [hf d hc] at hd ⊢; exact h.clen d hd
  bkey := fun d hd => by
   by_cases hc : d = c
   ·subst hc; rw [hy] at hd ⊢; exact u.bkey hd
   ·rw [hf d hc] at hd ⊢; exact h.bkey d hd
  strong := fun i e st h1 h2 h3 => by
   rw [he] at h1
   rw [hs] at h2
   have h3' : StrongE s e := ⟨h3.1, by rw [← hb]; exact h3.2⟩
   rcases oE_get2 h.len h1 h2 with ⟨h4, h5⟩ | ⟨h4, h5⟩
   ·obtain ⟨Q, q⟩ := h.strong i e st h4 h5 h3'
    refine ⟨Q, q.nd, by rw [hn]; exact q.lt, by rw [ht]; exact q.len, by rw [hent]; exact q.a, fun d => ?_, fun m hm hw hs hc ht hk ha => ?_, fun d => ?_⟩
    ·by_cases hc : d = c
     ·subst hc; rw [hy, he]; exact u.b i e st Q h4 q
     ·rw [hf d hc]; exact fun g1 g2 g3 g4 => q.b d g1 g2 g3 (hAo i d hc g4)
    ·rcases hcur m (hms m hm) hc with g1 | ⟨g1, g2, g3, g4, g5, g6⟩
     ·have := g1.what; omega
     ·exact q.c m g1 hw hs g2 (g4.symm.trans ht) (by rw [← g3]; exact hk) (g6 i ha)
    ·by_cases hc : d = c
     ·subst hc; rw [hy, he]; exact u.d i e st Q h4 q
     ·rw [hf d hc]; exact fun g1 g2 g3 g4 => q.d d g1 g2 g3 (hAo i d hc g4)
   ·obtain ⟨Q, q1, q2, q3, q4⟩ := u.new e st h5 h3'
    have hno : ∀ d, ¬ After s'.evs i d := fun d hd => by
     rw [he, h4] at hd
     exact not_after_end hd
    exact ⟨Q, q1, by rw [hn]; exact q2, by rw [ht]; exact q3, by rw [hent]; exact q4, fun d _ _ _ ha => absurd ha (hno d), fun m _ _ _ _ _ _ ha => absurd ha (hno _), fun d _ _ _ ha => absurd ha (hno d)⟩
  f := fun d h1 h2 => by
   unfold keyC
   rw [hent]
   by_cases hc : d = c
   ·subst hc; rw [hy] at h1 h2 ⊢; exact u.f h1 h2
   ·rw [hf d hc] at h1 h2 ⊢; exact h.f d h1 h2
  g := fun m hm hw hc htl => by
   rcases hcur m (hms m hm) hc with h1 | ⟨h1, h2, h3, h4, h5, h6⟩
   ·have := h1.what; omega
   ·unfold keyC
    rw [h5 htl, hent, h3]
    exact h.g m h1 hw h2 (h4.symm.trans htl)
  aft := fun d hd i e h1 h2 h3 => by
   by_cases hc : d = c
   ·subst hc
    rw [hy] at hd
    rw [he] at h1 ⊢
    exact u.aft hd i e h1 h2 h3
   ·rw [hf d hc] at hd
    rw [he] at h1 ⊢
    rcases oE_get h1 with h4 | ⟨_, st, h4⟩
    ·exact (h.aft d hd i e h4 h2 h3).app _
    ·have := u.proc e st h4; omega
  pro := fun i e h1 h2 => by
   rw [he] at h1
   rcases oE_get h1 with h4 | ⟨_, st, h4⟩
   ·exact h.pro i e h4 h2
   ·exact u.pro e st h4 h2
  fresh := fun i k e e' st st' hik h1 h2 h3 h4 h5 h6 h7 h8 => by
   rw [he] at h1 h2 h8
   rw [hs] at h3 h4
   have h5' : StrongE s e := ⟨h5.1, by rw [← hb]; exact h5.2⟩
   rcases oE_get2 h.len h2 h4 with ⟨g1, g2⟩ | ⟨g1, g2⟩
   ·have hk := (List.getElem?_eq_some_iff.1 g1).1
    rw [List.take_append_of_le_length (by omega)] at h8
    rcases oE_get2 h.len h1 h3 with ⟨g3, g4⟩ | ⟨g3, g4⟩
    ·exact h.fresh i k e e' st st' hik g3 g1 g4 g2 h5' h6 h7 h8
    ·omega
   ·rcases oE_get2 h.len h1 h3 with ⟨g3, g4⟩ | ⟨g3, g4⟩
    ·obtain ⟨Q, q⟩ := h.strong i e st g3 g4 h5'
     rw [g1, List.take_append_of_le_length (by omega), List.take_length] at h8
     have hp := u.proc e' st' g2
     rw [hp] at h8
     exact u.fresh e' st' g2 h6 i e st Q g3 q h7 h8
    ·omega
  two := fun i k e e' hik h1 h2 h3 h4 h5 => by
   rw [he] at h1 h2 ⊢
   rcases oE_get h2 with g1 | ⟨g1, st, g2⟩
   ·have hk := (List.getElem?_eq_some_iff.1 g1).1
    rw [List.take_append_of_le_length (by omega)]
    rcases oE_get h1 with g3 | ⟨g3, _⟩
    ·exact h.two i k e e' hik g3 g1 h3 h4 h5
    ·omega
   ·rcases oE_get h1 with g3 | ⟨g3, _⟩
    ·rw [g1, List.take_append_of_le_length (by omega), List.take_length]
     have hp := u.proc e' st g2
     rw [hp]
     exact h.aft c (u.two e' st g2 h4) i e g3 h3 (h5.symm.trans hp)
    ·omega
  s1 := fun q key h0 => by
   rw [hent] at h0 ⊢
   exact hWr _ _ (Nat.zero_le _) (h.s1 q key h0)
  s2 := fun m hm hw h0 => by
   rcases hms m hm with h1 | h1
   ·exact hWr _ _ (Nat.zero_le _) (h.s2 m h1 hw h0)
   ·rcases h1.what with ⟨h2, _⟩ | ⟨_, _, h2⟩
    ·exact absurd h2 hw
    ·rw [h2] at h0 ⊢
     have := u.s3 (.inl h1.busy) h0
     rw [← h1.key] at this
     exact this
  s3 := fun d hd h0 => by
   unfold keyC
   by_cases hc : d = c
   ·subst hc; rw [hy] at hd h0 ⊢; exact u.s3 hd h0
   ·rw [hf d hc] at hd h0 ⊢; exact hWr _ _ (Nat.zero_le _) (h.s3 d hd h0)
  s4 := fun i e st h1 h2 h3 h4 h5 => by
   rw [he] at h1
   rw [hs] at h2
   rcases oE_get2 h.len h1 h2 with ⟨g1, g2⟩ | ⟨g1, g2⟩
   ·exact hWr _ _ (Nat.zero_le _) (h.s4 i e st g1 g2 h3 h4 h5)
   ·exact u.s4 e st g2 h3 h4 h5
  s5 := fun i e st h1 h2 h3 h4 => by
   rw [he] at h1
   rw [hs] at h2
   rcases oE_get2 h.len h1 h2 with ⟨g1, g2⟩ | ⟨g1, g2⟩
   ·exact h.s5 i e st g1 g2 h3 h4
   ·rw [u.s5 e st g2 h3 h4, u.proc e st g2]
  s6 := fun d hd h1 h2 => by
   by_cases hc : d = c
   ·subst hc; rw [hy] at hd h1 h2 ⊢; exact u.s6 hd h1 h2
   ·rw [hf d hc] at hd h1 h2 ⊢; exact h.s6 d hd h1 h2
  ng := fun d hd => by
   by_cases hc : d = c
   ·subst hc; rw [hy] at hd ⊢; exact u.ng hd
   ·rw [hf d hc] at hd ⊢; exact h.ng d hd }
theorem nodupS : ∀ (l r : List Nat), l.Nodup → (∀ x ∈ l, x ∈ r) → l.length ≤ r.length
 | [], r, _, _ => Nat.zero_le _
 | a :: l, r, hn, hs => by
  have ha : a ∈ r := hs a (List.mem_cons_self ..)
  rw [List.nodup_cons] at hn
  have h1 := nodupS l (r.erase a) hn.2 fun x hx => by
   have hne : x ≠ a := fun h => hn.1 (h ▸ hx)
   exact (List.mem_erase_of_ne hne).2 (hs x (List.mem_cons_of_mem _ hx))
  rw [List.length_erase_of_mem ha] at h1
  have h2 : 0 < r.length := List.length_pos_of_mem ha
  show l.length + 1 ≤ r.length
  omega
theorem countT_range (l : List Bool) : countT l = (List.range l.length).countP fun q => l.getD q false := by
 have h : l = (List.range l.length).map fun q => l.getD q false := by
  apply List.ext_getElem?
  intro i
  by_cases hi : i < l.length
  ·rw [List.getElem?_map, List.getElem?_range hi, List.getElem?_eq_getElem hi]
   simp [List.getD, hi]
  ·rw [List.getElem?_eq_none (by omega), List.getElem?_eq_none (by simp; omega)]
 unfold countT
 conv => lhs; rw [h]
 rw [List.countP_map]
 rfl
theorem getD_some {l : List Bool} {q : Nat} (h : l.getD q false = true) : l[q]? = some true := by
 rw [List.getD_eq_getElem?_getD] at h
 cases hq : l[q]? with
 | none => rw [hq] at h; cases h
 | some b => rw [hq] at h; rw [show b = true from h]
/-- Two heaps of nodes that are together more than all meet. -/
theorem meetQ {n : Nat} {Q : List Nat} {l : List Bool} (hnd : Q.Nodup) (hlt : ∀ q ∈ Q, q < n) (hl : l.length = n) (h : n < countT l + Q.length) : ∃ q ∈ Q, l[q]? = some true := by
 refine Classical.byContradiction fun hno => ?_
 have h1 := nodupS Q ((List.range n).filter fun q => !(l.getD q false)) hnd fun q hq => by
  rw [List.mem_filter]
  refine ⟨List.mem_range.2 (hlt q hq), ?_⟩
  cases hg : l.getD q false with
  | true => exact absurd ⟨q, hq, getD_some hg⟩ hno
  | false => rfl
 rw [← List.countP_eq_length_filter] at h1
 have h2 := List.length_eq_countP_add_countP (fun q => l.getD q false) (l := List.range n)
 rw [List.length_range] at h2
 rw [countT_range, hl] at h
 have h3 : (List.range n).countP (fun q => !(l.getD q false)) = (List.range n).countP (fun q => decide ¬ l.getD q false = true) := by
  congr 1
  funext q
  cases l.getD q false <;> rfl
 omega
theorem QOk.meets {s : StS} (h : SInv s) {i : Nat} {e : Ev} {st : SEnt} {Q : List Nat} (q : QOk s i e st Q) {l : List Bool} (hl : l.length = s.n) (ha : s.ask ≤ countT l) : ∃ r ∈ Q, l[r]? = some true :=
 meetQ q.nd q.lt hl (by have := h.quo; have := q.len; omega)
theorem Wr.up {s s' : StS} {c : Nat} {o : Option (Ev × SEnt)} (hf : ∀ i, i ≠ c → s'.cl i = s.cl i) (he : s'.evs = s.evs ++ oE o) (hs : s'.sts = s.sts ++ oS o) (hw : actC (s.cl c) → (s.cl c).telling = true → (s.cl c).began.kind = 2 → Wr s' (keyC s c) (s.cl c).best) {key : Nat} {e : SEnt} (h : Wr s key e) : Wr s' key e := by
 rcases h with ⟨i, ev, st, h1, h2, h3⟩ | ⟨d, h1, h2, h3, h4, h5⟩
 ·exact .inl ⟨i, ev, st, by rw [he]; exact get_app h1 _, by rw [hs]; exact get_app h2 _, h3⟩
 ·by_cases hd : d = c
  ·subst hd
   have := hw h1 h2 h3
   unfold keyC at this
   rw [h4, h5] at this
   exact this
  ·exact .inr ⟨d, by rw [hf d hd]; exact h1, by rw [hf d hd]; exact h2, by rw [hf d hd]; exact h3, by rw [hf d hd]; exact h4, by rw [hf d hd]; exact h5⟩
theorem heard_same (x : SCl) (j : Nat) (m : SMsg) : (heardC x j m).busy = x.busy ∧ (heardC x j m).gone = x.gone ∧ (heardC x j m).began = x.began ∧ (heardC x j m).telling = x.telling ∧ (heardC x j m).round = x.round ∧ (heardC x j m).counted = x.counted.set j true := by
 unfold heardC
 split
 ·exact ⟨rfl, rfl, rfl, rfl, rfl, rfl⟩
 ·split <;> exact ⟨rfl, rfl, rfl, rfl, rfl, rfl⟩
theorem heard_tells (x : SCl) (j : Nat) (m : SMsg) (h : x.telling = true) : (heardC x j m).best = x.best := by
 unfold heardC
 rw [if_pos h]
theorem heard_asks (x : SCl) (j : Nat) (m : SMsg) : x.telling = false → ((heardC x j m).best = m.e ∨ (heardC x j m).best = x.best) ∧ x.best.le (heardC x j m).best ∧ m.e.le (heardC x j m).best := by
 intro h
 unfold heardC
 rw [if_neg (by rw [h]; exact Bool.false_ne_true)]
 split
 ·rename_i hl
  exact ⟨.inl rfl, SEnt.less_imp hl, SEnt.le_refl _⟩
 ·rename_i hl
  exact ⟨.inr rfl, SEnt.le_refl _, SEnt.le_of_not hl⟩
/-- One more node was heard. -/
theorem SInv.count {s s' : StS} (h : SInv s) {x : SMail} (hx : x ∈ s.mails) (hw : x.m.what = 3) (hcur : Cur s x)
  (hn : s'.n = s.n) (ha : s'.ask = s.ask) (ht : s'.tell = s.tell) (hb : s'.back = s.back) (hent : s'.ent = s.ent) (hf : ∀ i, i ≠ x.m.client → s'.cl i = s.cl i) (hy : s'.cl x.m.client = heardC (s.cl x.m.client) x.src x.m) (he : s'.evs = s.evs) (hs : s'.sts = s.sts) (hms : ∀ m ∈ s'.mails, m ∈ s.mails) : SInv s' := by
 obtain ⟨y1, y2, y3, y4, y5, y6⟩ := heard_same (s.cl x.m.client) x.src x.m
 have ytl := heard_tells (s.cl x.m.client) x.src x.m
 have yas := heard_asks (s.cl x.m.client) x.src x.m
 obtain ⟨y, hyd⟩ : ∃ y, heardC (s.cl x.m.client) x.src x.m = y := ⟨_, rfl⟩
 rw [hyd] at y1 y2 y3 y4 y5 y6 ytl yas hy
 obtain ⟨c, hc⟩ : ∃ c, x.m.client = c := ⟨_, rfl⟩
 rw [hc] at y1 y2 y3 y4 y5 y6 ytl yas hy hf
 have hbusy : (s.cl c).busy = true := by rw [← hc]; exact hcur.1
 have hact : actC (s.cl c) := .inl hbusy
 have hbk := h.bkey c hact
 have he' : s'.evs = s.evs ++ oE none := by rw [he]; exact (List.append_nil _).symm
 have hs' : s'.sts = s.sts ++ oS none := by rw [hs]; exact (List.append_nil _).symm
 have hwr : actC (s.cl c) → (s.cl c).telling = true → (s.cl c).began.kind = 2 → Wr s' (keyC s c) (s.cl c).best := fun g1 g2 g3 =>
  .inr ⟨c, by rw [hy]; exact .inl (y1.trans hbusy), by rw [hy, y4]; exact g2, by rw [hy, y3]; exact g3, by rw [hy, y3]; unfold keyC; omega, by rw [hy]; exact ytl g2⟩
 have hA : ∀ i d, After (s.evs ++ oE none) i d → After s.evs i d := fun i d hd => by
  rw [show oE none = [] from rfl, List.append_nil] at hd; exact hd
 have hkey : x.m.key = (s.cl c).began.key.toNat := by
  have := h.key x hx hcur
  rw [hc] at this
  omega
 refine h.upd c y none hn ha ht hb hent hf hy he' hs' (fun m hm => .inl (hms m hm)) ?_
 exact {
  round := by omega
  old := fun _ => .inr ⟨rfl, hbusy, y5, y3, y4, fun g => ytl (y4.symm.trans g)⟩
  proc := fun e st g => by cases g
  clen := fun _ => by rw [y6, List.length_set]; exact h.clen c hbusy
  ng := fun _ => by rw [y2]; exact h.ng c hbusy
  bkey := fun _ => by rw [y3]; exact hbk
  b := fun i e st Q g1 q g2 g3 g4 g5 r hr g6 => by
   rw [y4] at g3
   rw [y3] at g4
   obtain ⟨_, k1, k2⟩ := yas g3
   rw [y6] at g6
   by_cases hrj : r = x.src
   ·have h1 := q.c x hx hw (by rw [← hrj]; exact hr) hcur (by rw [hc]; exact g3) (by rw [hc]; exact g4) (by rw [hc]; exact hA _ _ g5)
    exact SEnt.le_trans h1 k2
   ·rw [List.getElem?_set_ne (fun e => hrj e.symm)] at g6
    exact SEnt.le_trans (q.b c hbusy g3 g4 (hA _ _ g5) r hr g6) k1
  d := fun i e st Q g1 q g2 g3 g4 g5 => by
   rw [y4] at g3
   rw [y3] at g4 ⊢
   rw [ytl g3]
   exact q.d c hact g3 g4 (hA _ _ g5)
  new := fun e st g => by cases g
  f := fun g1 g2 r g3 => by
   rw [y4] at g2
   rw [y6] at g3
   rw [ytl g2, y3]
   by_cases hrj : r = x.src
   ·have h1 := h.g x hx hw hcur (by rw [hc]; exact g2)
    rw [hc] at h1
    rw [hrj]
    exact h1
   ·rw [List.getElem?_set_ne (fun e => hrj e.symm)] at g3
    exact h.f c hbusy g2 r g3
  aft := fun _ i e g1 g2 g3 => by
   rw [← he'] at g1 ⊢
   rw [he] at g1 ⊢
   exact h.aft c hact i e g1 g2 g3
  pro := fun e st g => by cases g
  fresh := fun e st g => by cases g
  two := fun e st g => by cases g
  wr := hwr
  s3 := fun _ g0 => by
   rw [y3]
   cases htl : (s.cl c).telling with
   | true =>
    rw [ytl htl] at g0 ⊢
    exact Wr.up hf he' hs' hwr (h.s3 c hact g0)
   | false =>
    rcases (yas htl).1 with k | k
    ·rw [k] at g0 ⊢
     rw [← hkey]
     exact Wr.up hf he' hs' hwr (h.s2 x hx (by omega) g0)
    ·rw [k] at g0 ⊢
     exact Wr.up hf he' hs' hwr (h.s3 c hact g0)
  s4 := fun e st g => by cases g
  s5 := fun e st g => by cases g
  s6 := fun _ g2 g3 => by
   rw [y4] at g2
   rw [y3] at g3 ⊢
   rw [ytl g2]
   exact h.s6 c hact g2 g3 }
/-- An op is over. -/
theorem SInv.done {s s' : StS} (h : SInv s) (c : Nat) (hbusy : (s.cl c).busy = true) (hq : ((s.cl c).telling = true ∧ s.tell ≤ countT (s.cl c).counted) ∨ ((s.cl c).telling = false ∧ (s.cl c).began.kind = 1 ∧ s.back = false ∧ s.ask ≤ countT (s.cl c).counted))
  (hn : s'.n = s.n) (ha : s'.ask = s.ask) (ht : s'.tell = s.tell) (hb : s'.back = s.back) (hent : s'.ent = s.ent) (hf : ∀ i, i ≠ c → s'.cl i = s.cl i) (hy : s'.cl c = { s.cl c with busy := false }) (he : s'.evs = s.evs ++ [evD (s.cl c)]) (hs : s'.sts = s.sts ++ [⟨(s.cl c).best.t, (s.cl c).best.c, 0⟩]) (hms : ∀ m ∈ s'.mails, m ∈ s.mails) : SInv s' := by
 have hact : actC (s.cl c) := .inl hbusy
 have hbk := h.bkey c hact
 have hcl := h.clen c hbusy
 obtain ⟨o, ho⟩ : ∃ o, o = some (evD (s.cl c), (⟨(s.cl c).best.t, (s.cl c).best.c, 0⟩ : SEnt)) := ⟨_, rfl⟩
 have he' : s'.evs = s.evs ++ oE o := by rw [ho]; exact he
 have hs' : s'.sts = s.sts ++ oS o := by rw [ho]; exact hs
 have hinj : ∀ e st, o = some (e, st) → evD (s.cl c) = e ∧ (⟨(s.cl c).best.t, (s.cl c).best.c, 0⟩ : SEnt) = st := fun e st g => by
  rw [ho] at g
  injection g with g
  injection g with g1 g2
  exact ⟨g1, g2⟩
 have hna : ∀ {P : Prop}, actC { s.cl c with busy := false } → P := fun g => by
  rcases g with g | g
  ·cases g
  ·have := h.ng c hbusy
   rw [show (s.cl c).gone = true from g] at this
   cases this
 have hwr : actC (s.cl c) → (s.cl c).telling = true → (s.cl c).began.kind = 2 → Wr s' (keyC s c) (s.cl c).best := fun g1 g2 g3 => by
  refine .inl ⟨s.evs.length, evD (s.cl c), ⟨(s.cl c).best.t, (s.cl c).best.c, 0⟩, by rw [he]; exact List.getElem?_concat_length, by rw [hs, h.len]; exact List.getElem?_concat_length, rfl, g3, ?_, rfl, rfl, (h.s6 c hact g2 g3).2.symm⟩
  show (s.cl c).began.key = _
  unfold keyC
  omega
 refine h.upd c _ o hn ha ht hb hent hf hy he' hs' (fun m hm => .inl (hms m hm)) ?_
 exact {
  round := Nat.le_refl _
  old := fun g => by cases g
  proc := fun e st g => by
   obtain ⟨rfl, rfl⟩ := hinj e st g
   exact hbk.2.2.1
  clen := fun g => by cases g
  ng := fun g => by cases g
  bkey := fun g => hna g
  b := fun i e st Q g1 q g2 => by cases g2
  d := fun i e st Q g1 q g2 => hna g2
  new := fun e st g hst => by
   obtain ⟨rfl, rfl⟩ := hinj e st g
   have htl : (s.cl c).telling = true ∧ s.tell ≤ countT (s.cl c).counted := by
    rcases hq with hq | ⟨_, hk, hbk, _⟩
    ·exact hq
    ·rcases hst.2 with g1 | g1
     ·have : (s.cl c).began.kind = 2 := g1
      omega
     ·rw [hbk] at g1; cases g1
   refine ⟨(List.range s.n).filter fun q => (s.cl c).counted.getD q false, List.Pairwise.filter _ List.nodup_range, fun q hq => List.mem_range.1 (List.mem_filter.1 hq).1, ?_, fun q hq => ?_⟩
   ·rw [← List.countP_eq_length_filter, ← hcl, ← countT_range]
    exact htl.2
   ·exact h.f c hbusy htl.1 q (getD_some (List.mem_filter.1 hq).2)
  f := fun g => by cases g
  aft := fun g => hna g
  pro := fun e st g _ => by
   obtain ⟨rfl, rfl⟩ := hinj e st g
   refine ⟨?_, hbk.1, hbk.2.2.2.2⟩
   show 0 ≤ (s.cl c).began.proc
   have := hbk.2.2.1
   omega
  fresh := fun e st g g1 i e0 st0 Q g2 q g3 g4 => by
   obtain ⟨rfl, rfl⟩ := hinj e st g
   rcases hq with ⟨k1, _⟩ | ⟨k1, k2, _, k3⟩
   ·exact q.d c hact k1 g3 g4
   ·obtain ⟨r, hr, hc⟩ := q.meets h hcl k3
    refine ⟨q.b c hbusy k1 g3 g4 r hr hc, fun g5 => ?_⟩
    have : (s.cl c).began.kind = 2 := g5
    omega
  two := fun _ _ _ _ => hact
  wr := hwr
  s3 := fun g => hna g
  s4 := fun e st g g1 g2 g3 => by
   obtain ⟨rfl, rfl⟩ := hinj e st g
   have hres : (evD (s.cl c)).res = (s.cl c).best.v := if_pos g2
   rw [hres]
   exact Wr.up hf he' hs' hwr (h.s3 c hact g3)
  s5 := fun e st g g1 g2 => by
   obtain ⟨rfl, rfl⟩ := hinj e st g
   rcases hq with ⟨k1, _⟩ | ⟨k1, k2, _, k3⟩
   ·exact (h.s6 c hact k1 g2).1
   ·have : (s.cl c).began.kind = 2 := g2
    omega
  s6 := fun g => hna g }
/-- What was heard goes out. -/
theorem SInv.tells2 {s s' : StS} (h : SInv s) (c : Nat) (hbusy : (s.cl c).busy = true) (htl : (s.cl c).telling = false) (hq : s.ask ≤ countT (s.cl c).counted)
  (hn : s'.n = s.n) (ha : s'.ask = s.ask) (ht : s'.tell = s.tell) (hb : s'.back = s.back) (hent : s'.ent = s.ent) (hf : ∀ i, i ≠ c → s'.cl i = s.cl i) (hy : s'.cl c = { newC (s.cl c) c with round := (s.cl c).round + 1, telling := true, counted := List.replicate s.n false }) (he : s'.evs = s.evs) (hs : s'.sts = s.sts)
  (hms : ∀ m ∈ s'.mails, m ∈ s.mails ∨ ∃ i, i < s.n ∧ m = ⟨s.n + c, i, ⟨2, c, (s.cl c).round + 1, keyC s c, (newC (s.cl c) c).best⟩⟩) : SInv s' := by
 have hact : actC (s.cl c) := .inl hbusy
 have hbk := h.bkey c hact
 have hcl := h.clen c hbusy
 have hnb : (newC (s.cl c) c).busy = (s.cl c).busy ∧ (newC (s.cl c) c).gone = (s.cl c).gone ∧ (newC (s.cl c) c).began = (s.cl c).began := by
  unfold newC; split <;> exact ⟨rfl, rfl, rfl⟩
 have hle : (s.cl c).best.le (newC (s.cl c) c).best ∧ ((s.cl c).began.kind = 2 → (s.cl c).best.less (newC (s.cl c) c).best ∧ (newC (s.cl c) c).best.c = (c : Int) ∧ (newC (s.cl c) c).best.v = (s.cl c).began.a) ∧ ((s.cl c).began.kind ≠ 2 → (newC (s.cl c) c).best = (s.cl c).best) := by
  unfold newC
  split
  ·rename_i hk
   have hl : (s.cl c).best.less ⟨(s.cl c).best.t + 1, (c : Int), (s.cl c).began.a⟩ := .inl (Nat.lt_succ_self _)
   exact ⟨SEnt.less_imp hl, fun _ => ⟨hl, rfl, rfl⟩, fun g => absurd hk g⟩
  ·rename_i hk
   exact ⟨SEnt.le_refl _, fun g => absurd g hk, fun _ => rfl⟩
 obtain ⟨z, hz⟩ : ∃ z, newC (s.cl c) c = z := ⟨_, rfl⟩
 rw [hz] at hnb hle hy hms
 obtain ⟨n1, n2, n3⟩ := hnb
 obtain ⟨l1, l2, l3⟩ := hle
 have he' : s'.evs = s.evs ++ oE none := by rw [he]; exact (List.append_nil _).symm
 have hs' : s'.sts = s.sts ++ oS none := by rw [hs]; exact (List.append_nil _).symm
 have hwr : actC (s.cl c) → (s.cl c).telling = true → (s.cl c).began.kind = 2 → Wr s' (keyC s c) (s.cl c).best := fun _ g _ => by rw [htl] at g; cases g
 have hA : ∀ i d, After (s.evs ++ oE none) i d → After s.evs i d := fun i d hd => by
  rw [show oE none = [] from rfl, List.append_nil] at hd; exact hd
 refine h.upd c _ none hn ha ht hb hent hf hy he' hs' (fun m hm => ?_) ?_
 ·rcases hms m hm with g | ⟨i, hi, rfl⟩
  ·exact .inl g
  ·refine .inr ⟨n1.trans hbusy, Nat.lt_succ_self _, hi, rfl, rfl, ?_, .inr ⟨rfl, rfl, rfl⟩⟩
   show ((keyC s c : Nat) : Int) = z.began.key
   rw [n3]
   unfold keyC
   omega
 exact {
  round := Nat.le_succ _
  old := fun _ => .inl (Nat.lt_succ_self _)
  proc := fun e st g => by cases g
  clen := fun _ => List.length_replicate
  ng := fun _ => by show z.gone = false; rw [n2]; exact h.ng c hbusy
  bkey := fun _ => by show 0 ≤ z.began.key ∧ _; rw [n3]; exact hbk
  b := fun i e st Q g1 q g2 g3 => by cases g3
  d := fun i e st Q g1 q g2 g3 g4 g5 => by
   have g4' : (s.cl c).began.key = e.key := by rw [← n3]; exact g4
   obtain ⟨r, hr, hc⟩ := q.meets h hcl hq
   have k := q.b c hbusy htl g4' (hA _ _ g5) r hr hc
   refine ⟨SEnt.le_trans k l1, fun g6 => ?_⟩
   have g6' : (s.cl c).began.kind = 2 := by rw [← n3]; exact g6
   exact SEnt.le_less k (l2 g6').1
  new := fun e st g => by cases g
  f := fun g1 g2 r g3 => by
   have g3 : (List.replicate s.n false)[r]? = some true := g3
   have := List.eq_of_mem_replicate (List.mem_of_getElem? g3)
   cases this
  aft := fun _ i e g1 g2 g3 => by
   rw [← he'] at g1 ⊢
   rw [he] at g1 ⊢
   exact h.aft c hact i e g1 g2 g3
  pro := fun e st g => by cases g
  fresh := fun e st g => by cases g
  two := fun e st g => by cases g
  wr := hwr
  s3 := fun _ g0 => by
   show Wr s' z.began.key.toNat z.best
   by_cases hk : (s.cl c).began.kind = 2
   ·refine .inr ⟨c, by rw [hy]; exact .inl (n1.trans hbusy), by rw [hy], by rw [hy]; show z.began.kind = 2; rw [n3]; exact hk, by rw [hy]; show z.began.key = _; rw [n3]; omega, by rw [hy]⟩
   ·have g0 : 0 ≤ z.best.c := g0
    rw [l3 hk] at g0 ⊢
    rw [n3]
    exact Wr.up hf he' hs' hwr (h.s3 c hact g0)
  s4 := fun e st g => by cases g
  s5 := fun e st g => by cases g
  s6 := fun _ g2 g3 => by
   have g3' : (s.cl c).began.kind = 2 := by rw [← n3]; exact g3
   refine ⟨(l2 g3').2.1, ?_⟩
   show z.best.v = z.began.a
   rw [n3]
   exact (l2 g3').2.2 }
/-- An op begins. -/
theorem SInv.begin {s s' : StS} (h : SInv s) (c key : Nat) (write : Bool) (value : Int) (hbusy : (s.cl c).busy = false) (hgone : (s.cl c).gone = false)
  (hn : s'.n = s.n) (ha : s'.ask = s.ask) (ht : s'.tell = s.tell) (hb : s'.back = s.back) (hent : s'.ent = s.ent) (hf : ∀ i, i ≠ c → s'.cl i = s.cl i) (hy : s'.cl c = { s.cl c with busy := true, began := evB c key write value, best := ⟨0, -2, 0⟩, round := (s.cl c).round + 1, telling := false, counted := List.replicate s.n false }) (he : s'.evs = s.evs ++ [evB c key write value]) (hs : s'.sts = s.sts ++ [⟨0, 0, 0⟩])
  (hms : ∀ m ∈ s'.mails, m ∈ s.mails ∨ ∃ i, i < s.n ∧ m = ⟨s.n + c, i, ⟨1, c, (s.cl c).round + 1, key, ⟨0, 0, 0⟩⟩⟩) : SInv s' := by
 have hna : ∀ {P : Prop}, actC (s.cl c) → P := fun g => by
  rcases g with g | g
  ·rw [hbusy] at g; cases g
  ·rw [hgone] at g; cases g
 obtain ⟨o, ho⟩ : ∃ o, o = some (evB c key write value, (⟨0, 0, 0⟩ : SEnt)) := ⟨_, rfl⟩
 have he' : s'.evs = s.evs ++ oE o := by rw [ho]; exact he
 have hs' : s'.sts = s.sts ++ oS o := by rw [ho]; exact hs
 have hinj : ∀ e st, o = some (e, st) → evB c key write value = e ∧ (⟨0, 0, 0⟩ : SEnt) = st := fun e st g => by
  rw [ho] at g
  injection g with g
  injection g with g1 g2
  exact ⟨g1, g2⟩
 have hno : ∀ {P : Prop} {e st}, o = some (e, st) → e.ty = 2 → P := fun g g2 => by
  obtain ⟨rfl, rfl⟩ := hinj _ _ g
  have g2 : (1 : Int) = 2 := g2
  omega
 refine h.upd c _ o hn ha ht hb hent hf hy he' hs' (fun m hm => ?_) ?_
 ·rcases hms m hm with g | ⟨i, hi, rfl⟩
  ·exact .inl g
  ·exact .inr ⟨rfl, Nat.lt_succ_self _, hi, rfl, rfl, rfl, .inl ⟨rfl, rfl⟩⟩
 exact {
  round := Nat.le_succ _
  old := fun _ => .inl (Nat.lt_succ_self _)
  proc := fun e st g => by
   obtain ⟨rfl, rfl⟩ := hinj e st g
   rfl
  clen := fun _ => List.length_replicate
  ng := fun _ => hgone
  bkey := fun _ => by
   refine ⟨Int.natCast_nonneg _, rfl, rfl, rfl, ?_⟩
   cases write
   ·exact .inl rfl
   ·exact .inr rfl
  b := fun i e st Q g1 q g2 g3 g4 g5 r hr g6 => by
   have g6 : (List.replicate s.n false)[r]? = some true := g6
   have := List.eq_of_mem_replicate (List.mem_of_getElem? g6)
   cases this
  d := fun i e st Q g1 q g2 g3 => by cases g3
  new := fun e st g hst => hno g hst.1
  f := fun g1 g2 => by cases g2
  aft := fun _ i e g1 g2 g3 => by
   rcases oE_get g1 with g4 | ⟨_, st, g4⟩
   ·refine ⟨s.evs.length, evB c key write value, (List.getElem?_eq_some_iff.1 g4).1, ?_, rfl, rfl⟩
    rw [ho]
    exact List.getElem?_concat_length
   ·exact hno g4 g2
  pro := fun e st g g2 => hno g g2
  fresh := fun e st g g2 => hno g g2
  two := fun e st g g2 => hno g g2
  wr := fun g => hna g
  s3 := fun _ g0 => by
   have g0 : (0 : Int) ≤ -2 := g0
   omega
  s4 := fun e st g g2 => hno g g2
  s5 := fun e st g g2 => hno g g2
  s6 := fun _ g2 => by cases g2 }
/-- A client gives up. -/
theorem SInv.give {s s' : StS} (h : SInv s) (c : Nat) (hbusy : (s.cl c).busy = true)
  (hn : s'.n = s.n) (ha : s'.ask = s.ask) (ht : s'.tell = s.tell) (hb : s'.back = s.back) (hent : s'.ent = s.ent) (hf : ∀ i, i ≠ c → s'.cl i = s.cl i) (hy : s'.cl c = { s.cl c with busy := false, gone := true }) (he : s'.evs = s.evs ++ [{ (s.cl c).began with ty := 4 }]) (hs : s'.sts = s.sts ++ [⟨0, 0, 0⟩])
  (hms : ∀ m ∈ s'.mails, m ∈ s.mails) : SInv s' := by
 have hact : actC (s.cl c) := .inl hbusy
 have hbk := h.bkey c hact
 obtain ⟨o, ho⟩ : ∃ o, o = some (({ (s.cl c).began with ty := 4 } : Ev), (⟨0, 0, 0⟩ : SEnt)) := ⟨_, rfl⟩
 have he' : s'.evs = s.evs ++ oE o := by rw [ho]; exact he
 have hs' : s'.sts = s.sts ++ oS o := by rw [ho]; exact hs
 have hinj : ∀ e st, o = some (e, st) → ({ (s.cl c).began with ty := 4 } : Ev) = e ∧ (⟨0, 0, 0⟩ : SEnt) = st := fun e st g => by
  rw [ho] at g
  injection g with g
  injection g with g1 g2
  exact ⟨g1, g2⟩
 have hno : ∀ {P : Prop} {e st}, o = some (e, st) → e.ty = 2 → P := fun g g2 => by
  obtain ⟨rfl, rfl⟩ := hinj _ _ g
  have g2 : (4 : Int) = 2 := g2
  omega
 have hA : ∀ i d, After (s.evs ++ oE o) i d → After s.evs i d := fun i d hd => by
  rcases hd.of_app with g | ⟨e, st, g1, g2, _⟩
  ·exact g
  ·obtain ⟨rfl, rfl⟩ := hinj _ _ g1
   have g2 : (4 : Int) = 1 := g2
   omega
 have hwr : actC (s.cl c) → (s.cl c).telling = true → (s.cl c).began.kind = 2 → Wr s' (keyC s c) (s.cl c).best := fun g1 g2 g3 =>
  .inr ⟨c, by rw [hy]; exact .inr rfl, by rw [hy]; exact g2, by rw [hy]; exact g3, by rw [hy]; show (s.cl c).began.key = _; unfold keyC; omega, by rw [hy]⟩
 refine h.upd c _ o hn ha ht hb hent hf hy he' hs' (fun m hm => .inl (hms m hm)) ?_
 exact {
  round := Nat.le_refl _
  old := fun g => by cases g
  proc := fun e st g => by
   obtain ⟨rfl, rfl⟩ := hinj e st g
   exact hbk.2.2.1
  clen := fun g => by cases g
  ng := fun g => by cases g
  bkey := fun _ => hbk
  b := fun i e st Q g1 q g2 => by cases g2
  d := fun i e st Q g1 q g2 g3 g4 g5 => q.d c hact g3 g4 (hA _ _ g5)
  new := fun e st g hst => hno g hst.1
  f := fun g => by cases g
  aft := fun _ i e g1 g2 g3 => by
   rcases oE_get g1 with g4 | ⟨_, st, g4⟩
   ·exact (h.aft c hact i e g4 g2 g3).app _
   ·exact hno g4 g2
  pro := fun e st g g2 => hno g g2
  fresh := fun e st g g2 => hno g g2
  two := fun e st g g2 => hno g g2
  wr := hwr
  s3 := fun _ g0 => Wr.up hf he' hs' hwr (h.s3 c hact g0)
  s4 := fun e st g g2 => hno g g2
  s5 := fun e st g g2 => hno g g2
  s6 := fun _ g2 g3 => h.s6 c hact g2 g3 }
theorem newC_same (x : SCl) (c : Nat) : (newC x c).round = x.round ∧ (newC x c).began = x.began := by
 unfold newC
 split <;> exact ⟨rfl, rfl⟩
theorem SInv.hear {s : StS} (h : SInv s) {x : SMail} (hx : x ∈ s.mails) (hd : s.n ≤ x.dst) (ms : List SMail) (hms : ∀ m ∈ ms, m ∈ s.mails) : SInv (hearF { s with mails := ms } x.src x.m) := by
 have hw := ((h.what x hx).2 hd).1
 unfold hearF
 dsimp only
 split
 ·exact h.mails hms
 rename_i hno
 have hbusy : (s.cl x.m.client).busy = true := by
  cases hb : (s.cl x.m.client).busy with
  | true => rfl
  | false => exact absurd (.inl hb) hno
 have hround : x.m.round = (s.cl x.m.client).round := Classical.byContradiction fun hr => hno (.inr (.inl hr))
 have hcur : Cur s x := ⟨hbusy, hround⟩
 obtain ⟨y1, y2, y3, y4, y5, y6⟩ := heard_same (s.cl x.m.client) x.src x.m
 have hA : SInv (setCl s x.m.client (heardC (s.cl x.m.client) x.src x.m)) := h.count hx hw hcur rfl rfl rfl rfl rfl (fun i hi => if_neg hi) (if_pos rfl) rfl rfl (fun m hm => hm)
 obtain ⟨c, hc⟩ : ∃ c, x.m.client = c := ⟨_, rfl⟩
 rw [hc] at hA hbusy y1 y2 y3 y4 y5 y6 ⊢
 obtain ⟨y, hy⟩ : ∃ y, heardC (s.cl c) x.src x.m = y := ⟨_, rfl⟩
 rw [hy] at hA y1 y2 y3 y4 y5 y6 ⊢
 have hAc : (setCl s c y).cl c = y := if_pos rfl
 split
 ·rename_i htl
  split
  ·rename_i hct
   exact hA.done c (by rw [hAc]; exact y1.trans hbusy) (.inl ⟨by rw [hAc]; exact y4.trans htl, by rw [hAc]; exact Nat.le_of_eq hct.symm⟩) rfl rfl rfl rfl rfl (fun i hi => if_neg hi) (if_pos rfl) rfl rfl hms
  ·exact hA.mails hms
 ·rename_i htl
  have htl' : (s.cl c).telling = false := by
   cases hb : (s.cl c).telling with
   | false => rfl
   | true => exact absurd hb htl
  split
  ·exact hA.mails hms
  rename_i hct
  have hct' : s.ask ≤ countT y.counted := Nat.le_of_not_lt hct
  obtain ⟨n1, n2⟩ := newC_same y c
  split
  ·have ht2 : (setCl { s with mails := ms } c (newC y c)).cl c = newC y c := if_pos rfl
   refine hA.tells2 c (by rw [hAc]; exact y1.trans hbusy) (by rw [hAc]; exact y4.trans htl') (by rw [hAc]; exact hct') rfl rfl rfl rfl rfl (fun i hi => ?_) ?_ rfl rfl (fun m hm => ?_)
   ·show (if i = c then _ else if i = c then _ else s.cl i) = if i = c then _ else s.cl i
    rw [if_neg hi, if_neg hi, if_neg hi]
   ·rw [hAc]
    show (if c = c then roundC (setCl { s with mails := ms } c (newC y c)) c 2 else _) = _
    rw [if_pos rfl]
    unfold roundC
    rw [ht2, n1]
    rfl
   ·rcases mem_send hm with g | ⟨i, hi, rfl⟩
    ·exact .inl (hms m g)
    ·refine .inr ⟨i, hi, ?_⟩
     unfold sendM keyC
     rw [ht2, hAc, n1, n2]
     rfl
  ·rename_i hkb
   have hk2 : ¬ y.began.kind = 2 := fun g => hkb (.inl (by rw [← y3]; exact g))
   have hx2 : newC y c = y := by unfold newC; rw [if_neg hk2]
   rw [hx2]
   have hact : actC (s.cl c) := .inl hbusy
   refine hA.done c (by rw [hAc]; exact y1.trans hbusy) (.inr ⟨by rw [hAc]; exact y4.trans htl', ?_, ?_, by rw [hAc]; exact hct'⟩) rfl rfl rfl rfl rfl (fun i hi => if_neg hi) (if_pos rfl) rfl rfl hms
   ·rw [hAc]
    have := (h.bkey c hact).2.2.2.2
    rw [← y3] at this
    omega
   ·show s.back = false
    cases hb : s.back with
    | false => rfl
    | true => exact absurd (.inr hb) hkb
theorem SInv.deliver {s : StS} (h : SInv s) {j : Nat} {m : SMail} (hm : s.mails[j]? = some m) : SInv (deliverF s j m) := by
 have hx := List.mem_of_getElem? hm
 unfold deliverF
 dsimp only
 split
 ·rename_i hd
  refine h.node hx hd (pushM (s.mails.eraseIdx j) ⟨m.dst, s.n + m.m.client, { m.m with what := 3, e := ownN s m.dst m.m }⟩) fun x hx' => ?_
  rcases mem_push hx' with g | g
  ·exact .inl (List.mem_of_mem_eraseIdx g)
  ·exact .inr g
 ·rename_i hd
  exact h.hear hx (Nat.le_of_not_lt hd) _ fun x hx' => List.mem_of_mem_eraseIdx hx'
theorem SInv.mv {s s' : StS} (h : SInv s) (hm : Mv s s') : SInv s' := by
 rcases hm with ⟨ms, h1, rfl⟩ | ⟨c, key, write, value, h1, h2, h3, h4, h5, rfl⟩ | ⟨c, h1, h2, rfl⟩ | ⟨j, m, h1, rfl⟩
 ·exact h.mails h1
 ·obtain ⟨z, hz⟩ : ∃ z : SCl, { s.cl c with busy := true, began := evB c key write value, best := ⟨0, -2, 0⟩ } = z := ⟨_, rfl⟩
  obtain ⟨t, ht⟩ : ∃ t, setCl (obsF s (evB c key write value) ⟨0, 0, 0⟩) c { s.cl c with busy := true, began := evB c key write value, best := ⟨0, -2, 0⟩ } = t := ⟨_, rfl⟩
  have htc : t.cl c = { s.cl c with busy := true, began := evB c key write value, best := ⟨0, -2, 0⟩ } := by rw [← ht]; exact if_pos rfl
  have hbf : begS s c key write value = sendF t c 1 ⟨0, 0, 0⟩ := by rw [← ht]; rfl
  rw [hbf]
  refine h.begin c key write value h2 h3 ?_ ?_ ?_ ?_ ?_ (fun i hi => ?_) ?_ ?_ ?_ (fun m hm => ?_)
  ·rw [← ht]; rfl
  ·rw [← ht]; rfl
  ·rw [← ht]; rfl
  ·rw [← ht]; rfl
  ·rw [← ht]; rfl
  ·rw [← ht]
   show (if i = c then _ else if i = c then _ else s.cl i) = s.cl i
   rw [if_neg hi, if_neg hi]
  ·show (if c = c then roundC t c 1 else _) = _
   rw [if_pos rfl]
   unfold roundC
   rw [htc, ← ht]
   rfl
  ·rw [← ht]; rfl
  ·rw [← ht]; rfl
  ·rcases mem_send hm with g | ⟨i, hi, rfl⟩
   ·rw [← ht] at g
    exact .inl g
   ·refine .inr ⟨i, by rw [← ht] at hi; exact hi, ?_⟩
    unfold sendM keyC
    rw [htc, ← ht]
    rfl
 ·exact h.give c h2 rfl rfl rfl rfl rfl (fun i hi => if_neg hi) (if_pos rfl) rfl rfl fun m hm => hm
 ·exact h.deliver h1
theorem SInv.s0 {n k a t : Nat} {b : Bool} (hq : n < a + t) : SInv (s0 n k a t b) := by
 have hna : ∀ {P : Prop} {c : Nat}, actC ((Go.Proofs.YthndpiopbdecfaaGreatDoor.s0 n k a t b).cl c) → P := fun g => by
  rcases g with g | g <;> cases g
 exact {
  quo := hq
  len := rfl
  rnd := fun m hm => by cases hm
  key := fun m hm => by cases hm
  asks := fun m hm => by cases hm
  tells := fun m hm => by cases hm
  what := fun m hm => by cases hm
  clen := fun c g => by cases g
  bkey := fun c g => hna g
  strong := fun i e st g => by cases g
  f := fun c g => by cases g
  g := fun m hm => by cases hm
  aft := fun c g => hna g
  pro := fun i e g => by cases g
  fresh := fun i k e e' st st' _ g => by cases g
  two := fun i k e e' _ g => by cases g
  s1 := fun q key g => by
   have g : (0 : Int) ≤ -1 := g
   omega
  s2 := fun m hm => by cases hm
  s3 := fun c g => hna g
  s4 := fun i e st g => by cases g
  s5 := fun i e st g => by cases g
  s6 := fun c g => hna g
  ng := fun c g => by cases g }
theorem SInv.mvs {s s' : StS} (h : SInv s) (hm : MvS s s') : SInv s' := by
 induction hm with
 | refl => exact h
 | step _ k ih => exact ih.mv k
/-! ### What the laws ask -/
theorem SInv.freshLaw {s : StS} (h : SInv s) {i k b : Nat} {e e' : Ev} {st st' : SEnt} (hik : i < k) (he : s.evs[i]? = some e) (he' : s.evs[k]? = some e') (hs : s.sts[i]? = some st) (hs' : s.sts[k]? = some st') (h1 : e.ty = 2) (h2 : e.kind = 2 ∨ s.back = true) (h3 : e'.ty = 2) (h4 : e'.key = e.key) {eb : Ev} (hbk : b ≤ k) (hb : s.evs[b]? = some eb) (h5 : eb.ty = 1) (h6 : eb.proc = e'.proc) (hib : i < b) : st.le st' ∧ (e'.kind = 2 → st.less st') := by
 have hp := h.pro k e' he' h3
 refine h.fresh i k e e' st st' hik he he' hs hs' ⟨h1, h2⟩ h3 h4 ⟨b, eb, hib, ?_, h5, ?_⟩
 ·have hne : b ≠ k := fun g => by
   subst g
   rw [hb] at he'
   injection he' with he'
   subst he'
   omega
  rw [List.getElem?_take_of_lt (by omega)]
  exact hb
 ·rw [h6]
  omega
theorem SInv.once {s : StS} (h : SInv s) {i k : Nat} {e e' : Ev} {st st' : SEnt} (he : s.evs[i]? = some e) (he' : s.evs[k]? = some e') (hs : s.sts[i]? = some st) (hs' : s.sts[k]? = some st') (h1 : e.ty = 2) (h2 : e.kind = 2) (h3 : e'.ty = 2) (h4 : e'.kind = 2) (hk : e'.key = e.key) (ht : st.t = st'.t) (hc : st.c = st'.c) : i = k := by
 have hp : e'.proc = e.proc := by rw [← h.s5 i e st he hs h1 h2, ← h.s5 k e' st' he' hs' h3 h4, hc]
 have key : ∀ {i k : Nat} {e e' : Ev} {st st' : SEnt}, s.evs[i]? = some e → s.evs[k]? = some e' → s.sts[i]? = some st → s.sts[k]? = some st' → e.ty = 2 → e.kind = 2 → e'.ty = 2 → e'.kind = 2 → e'.key = e.key → st.t = st'.t → st.c = st'.c → e'.proc = e.proc → ¬ i < k := by
  intro i k e e' st st' he he' hs hs' h1 h2 h3 h4 hk ht hc hp hik
  have := (h.fresh i k e e' st st' hik he he' hs hs' ⟨h1, .inl h2⟩ h3 hk (h.two i k e e' hik he he' h1 h3 hp)).2 h4
  rcases this with g | ⟨_, g⟩ <;> omega
 have g1 := key he he' hs hs' h1 h2 h3 h4 hk ht hc hp
 have g2 := key he' he hs' hs h3 h4 h1 h2 hk.symm ht.symm hc.symm hp.symm
 omega
/-- An entry: in bounds; what no client wrote is nought. -/
structure EOk (e : SEnt) : Prop where
 lo : -1000000 ≤ e.v
 hi : e.v ≤ 1000000
 t1 : 0 ≤ e.c → 1 ≤ e.t
 t0 : e.c < 0 → e.t = 0 ∧ e.v = 0
/-- One that was heard, or is held. -/
def EZ (e : SEnt) : Prop := EOk e ∧ (e.c < 0 → e.c = -1)
structure ClOk (k c : Nat) (y : SCl) : Prop where
 lt : c < k
 key : y.began.key < 8
 b0 : y.began.b = 0
 lo : -1000000 ≤ y.began.a
 hi : y.began.a ≤ 1000000
 best : EOk y.best ∧ -2 ≤ y.best.c
 z : y.telling = true ∨ (∃ q : Nat, y.counted[q]? = some true) → EZ y.best
def EvV (e : Ev) (st : SEnt) : Prop := (e.kind = 1 → st.c < 0 → st.t = 0 ∧ st.c = -1 ∧ e.res = 0) ∧ (e.kind = 2 → 1 ≤ st.t ∧ e.res = 0) ∧ -1000000 ≤ e.res ∧ e.res ≤ 1000000
structure SVal (s : StS) : Prop where
 ask : 1 ≤ s.ask
 ent : ∀ q key, EZ (s.ent q key)
 mail : ∀ m ∈ s.mails, m.m.what ≠ 1 → EZ m.m.e
 cl : ∀ c, actC (s.cl c) → ClOk s.k c (s.cl c)
 ev : ∀ (i : Nat) (e : Ev) (st : SEnt), s.evs[i]? = some e → s.sts[i]? = some st → e.ty = 2 → EvV e st
theorem SVal.upd {s s' : StS} (h : SVal s) (hl : s.evs.length = s.sts.length) (c : Nat) (y : SCl) (o : Option (Ev × SEnt)) (hk : s'.k = s.k) (ha : s'.ask = s.ask) (hent : s'.ent = s.ent) (hf : ∀ i, i ≠ c → s'.cl i = s.cl i) (hy : s'.cl c = y) (he : s'.evs = s.evs ++ oE o) (hs : s'.sts = s.sts ++ oS o)
  (hms : ∀ m ∈ s'.mails, m ∈ s.mails ∨ m.m.what = 1 ∨ EZ m.m.e) (hyv : actC y → ClOk s.k c y) (ho : ∀ e st, o = some (e, st) → e.ty = 2 → EvV e st) : SVal s' where
 ask := by rw [ha]; exact h.ask
 ent := by rw [hent]; exact h.ent
 mail := fun m hm hw => by
  rcases hms m hm with g | g | g
  ·exact h.mail m g hw
  ·exact absurd g hw
  ·exact g
 cl := fun d hd => by
  rw [hk]
  by_cases e : d = c
  ·subst e; rw [hy] at hd ⊢; exact hyv hd
  ·rw [hf d e] at hd ⊢; exact h.cl d hd
 ev := fun i e st h1 h2 h3 => by
  rw [he] at h1
  rw [hs] at h2
  rcases oE_get2 hl h1 h2 with ⟨g1, g2⟩ | ⟨_, g2⟩
  ·exact h.ev i e st g1 g2 h3
  ·exact ho e st g2 h3
theorem SVal.mails {s : StS} (h : SVal s) {ms : List SMail} (hm : ∀ m ∈ ms, m ∈ s.mails) : SVal { s with mails := ms } :=
 ⟨h.ask, h.ent, fun m g => h.mail m (hm m g), h.cl, h.ev⟩
theorem SVal.node {s : StS} (h : SVal s) {x : SMail} (hx : x ∈ s.mails) (ms : List SMail) (hms : ∀ m ∈ ms, m ∈ s.mails ∨ m = ⟨x.dst, s.n + x.m.client, { x.m with what := 3, e := ownN s x.dst x.m }⟩) : SVal (nodeG s x ms) := by
 have hown : EZ (ownN s x.dst x.m) := by
  unfold ownN
  split
  ·rename_i hc
   exact h.mail x hx (by omega)
  ·exact h.ent _ _
 refine ⟨h.ask, fun q key => ?_, fun m hm hw => ?_, h.cl, h.ev⟩
 ·show EZ (if q = x.dst ∧ key = x.m.key then _ else _)
  split
  ·exact hown
  ·exact h.ent q key
 ·rcases hms m hm with g | g
  ·exact h.mail m g hw
  ·subst g; exact hown
theorem SVal.s0 {n k a t : Nat} {b : Bool} (ha : 1 ≤ a) : SVal (s0 n k a t b) where
 ask := ha
 ent := fun q key => ⟨⟨by show (-1000000 : Int) ≤ 0; omega, by show (0 : Int) ≤ 1000000; omega, fun g => by have g : (0 : Int) ≤ -1 := g; omega, fun _ => ⟨rfl, rfl⟩⟩, fun _ => rfl⟩
 mail := fun m hm => by cases hm
 cl := fun c g => by rcases g with g | g <;> cases g
 ev := fun i e st g => by cases g
theorem SVal.count {s : StS} (h : SVal s) (hl : s.evs.length = s.sts.length) {x : SMail} (hx : x ∈ s.mails) (hw : x.m.what = 3) (hb : (s.cl x.m.client).busy = true) (hc : x.src < (s.cl x.m.client).counted.length) : SVal (setCl s x.m.client (heardC (s.cl x.m.client) x.src x.m)) := by
 obtain ⟨y1, y2, y3, y4, y5, y6⟩ := heard_same (s.cl x.m.client) x.src x.m
 have ytl := heard_tells (s.cl x.m.client) x.src x.m
 have yas := heard_asks (s.cl x.m.client) x.src x.m
 have hC := h.cl _ (.inl hb)
 have hE := h.mail x hx (by omega)
 refine h.upd hl x.m.client _ none rfl rfl rfl (fun i hi => if_neg hi) (if_pos rfl) (List.append_nil _).symm (List.append_nil _).symm (fun m hm => .inl hm) (fun _ => ?_) (fun e st g => by cases g)
 have hz : EZ (heardC (s.cl x.m.client) x.src x.m).best := by
  cases htl : (s.cl x.m.client).telling with
  | true => rw [ytl htl]; exact hC.z (.inl htl)
  | false =>
   obtain ⟨k1, k2, k3⟩ := yas htl
   rcases k1 with k1 | k1
   ·rw [k1]; exact hE
   ·rw [k1] at k3 ⊢
    refine ⟨hC.best.1, fun g => ?_⟩
    have g0 := hC.best.1.t0 g
    have g2 := hC.best.2
    have g3 := hE.1.t1
    have g4 := hE.2
    have g5 := hE.1.t0
    unfold SEnt.le at k3
    omega
 exact ⟨hC.lt, by rw [y3]; exact hC.key, by rw [y3]; exact hC.b0, by rw [y3]; exact hC.lo, by rw [y3]; exact hC.hi, ⟨hz.1, by have := hz.2; omega⟩, fun _ => hz⟩
theorem doneV {s : StS} (h : SVal s) (hS : SInv s) (c : Nat) (hb : (s.cl c).busy = true) (hz : EZ (s.cl c).best) (hk : (s.cl c).began.kind = 2 → (s.cl c).telling = true) : EvV (evD (s.cl c)) ⟨(s.cl c).best.t, (s.cl c).best.c, 0⟩ := by
 have hbk := hS.bkey c (.inl hb)
 have hrr : -1000000 ≤ (evD (s.cl c)).res ∧ (evD (s.cl c)).res ≤ 1000000 := by
  show -1000000 ≤ (if (s.cl c).began.kind = 1 then (s.cl c).best.v else (s.cl c).began.res) ∧ (if (s.cl c).began.kind = 1 then (s.cl c).best.v else (s.cl c).began.res) ≤ 1000000
  have := hz.1.lo
  have := hz.1.hi
  split <;> omega
 refine ⟨fun g1 g2 => ?_, fun g1 => ?_, hrr⟩
 ·have g2 : (s.cl c).best.c < 0 := g2
  have hres : (evD (s.cl c)).res = (s.cl c).best.v := if_pos g1
  rw [hres]
  exact ⟨(hz.1.t0 g2).1, hz.2 g2, (hz.1.t0 g2).2⟩
 ·have g1' : (s.cl c).began.kind = 2 := g1
  have h6 := (hS.s6 c (.inl hb) (hk g1') g1').1
  refine ⟨hz.1.t1 (by omega), ?_⟩
  have hres : (evD (s.cl c)).res = (s.cl c).began.res := if_neg (by omega)
  rw [hres]
  exact (hS.bkey c (.inl hb)).2.2.2.1
theorem newEZ {s : StS} (h : SVal s) {c : Nat} {y : SCl} (hC : ClOk s.k c y) (hz : EZ y.best) : EZ (newC y c).best := by
 unfold newC
 split
 ·exact ⟨⟨hC.lo, hC.hi, fun _ => Nat.succ_le_succ (Nat.zero_le _), fun g => by have g : (c : Int) < 0 := g; omega⟩, fun g => by have g : (c : Int) < 0 := g; omega⟩
 ·exact hz
theorem SVal.hear {s : StS} (h : SVal s) (hS : SInv s) {x : SMail} (hx : x ∈ s.mails) (hd : s.n ≤ x.dst) (ms : List SMail) (hms : ∀ m ∈ ms, m ∈ s.mails) : SVal (hearF { s with mails := ms } x.src x.m) := by
 have hwh := (hS.what x hx).2 hd
 have hw := hwh.1
 unfold hearF
 dsimp only
 split
 ·exact h.mails hms
 rename_i hno
 have hbusy : (s.cl x.m.client).busy = true := by
  cases hb : (s.cl x.m.client).busy with
  | true => rfl
  | false => exact absurd (.inl hb) hno
 have hround : x.m.round = (s.cl x.m.client).round := Classical.byContradiction fun hr => hno (.inr (.inl hr))
 have hcur : Cur s x := ⟨hbusy, hround⟩
 obtain ⟨y1, y2, y3, y4, y5, y6⟩ := heard_same (s.cl x.m.client) x.src x.m
 have hsrc : x.src < (s.cl x.m.client).counted.length := by rw [hS.clen _ hbusy]; exact hwh.2
 have hA : SVal (setCl s x.m.client (heardC (s.cl x.m.client) x.src x.m)) := h.count hS.len hx hw hbusy hsrc
 have hAS : SInv (setCl s x.m.client (heardC (s.cl x.m.client) x.src x.m)) := hS.count hx hw hcur rfl rfl rfl rfl rfl (fun i hi => if_neg hi) (if_pos rfl) rfl rfl (fun m hm => hm)
 obtain ⟨c, hc⟩ : ∃ c, x.m.client = c := ⟨_, rfl⟩
 rw [hc] at hA hAS hbusy hsrc y1 y2 y3 y4 y5 y6 ⊢
 obtain ⟨y, hy⟩ : ∃ y, heardC (s.cl c) x.src x.m = y := ⟨_, rfl⟩
 rw [hy] at hA hAS y1 y2 y3 y4 y5 y6 ⊢
 have hAc : (setCl s c y).cl c = y := if_pos rfl
 have hyb : y.busy = true := y1.trans hbusy
 have hC : ClOk s.k c y := by have := hA.cl c (by rw [hAc]; exact .inl hyb); rw [hAc] at this; exact this
 have hz : EZ y.best := hC.z (.inr ⟨x.src, by rw [y6, List.getElem?_set_self hsrc]⟩)
 have hng : y.gone = false := by have := hAS.ng c (by rw [hAc]; exact hyb); rw [hAc] at this; exact this
 have hdone : ((y.began.kind = 2 → y.telling = true)) → SVal (doneS (setCl { s with mails := ms } c y) c) := fun hk => by
  have hb' : ((setCl s c y).cl c).busy = true := by rw [hAc]; exact hyb
  refine hA.upd hAS.len c { y with busy := false } (some (evD ((setCl s c y).cl c), ⟨((setCl s c y).cl c).best.t, ((setCl s c y).cl c).best.c, 0⟩)) rfl rfl rfl (fun i hi => if_neg hi) ?_ rfl rfl (fun m hm => .inl (hms m hm)) (fun g => ?_) (fun e st g _ => ?_)
  ·have h1 : (doneS (setCl { s with mails := ms } c y) c).cl c = { (setCl s c y).cl c with busy := false } := if_pos rfl
   rw [h1, hAc]
  ·rcases g with g | g
   ·cases g
   ·have g : y.gone = true := g
    rw [hng] at g; cases g
  ·injection g with g
   injection g with g1 g2
   rw [← g1, ← g2]
   exact doneV hA hAS c hb' (by rw [hAc]; exact hz) (by rw [hAc]; exact hk)
 split
 ·rename_i htl
  split
  ·exact hdone fun _ => y4.trans htl
  ·exact hA.mails hms
 ·rename_i htl
  split
  ·exact hA.mails hms
  rename_i hct
  split
  ·have ht2 : (setCl { s with mails := ms } c (newC y c)).cl c = newC y c := if_pos rfl
   have hnz : EZ (newC y c).best := newEZ h hC hz
   have hnb : (newC y c).began = y.began := (newC_same y c).2
   refine hA.upd hAS.len c (roundC (setCl { s with mails := ms } c (newC y c)) c 2) none rfl rfl rfl (fun i hi => ?_) (if_pos rfl) (List.append_nil _).symm (List.append_nil _).symm (fun m hm => ?_) (fun _ => ?_) (fun e st g => by cases g)
   ·show (if i = c then _ else if i = c then _ else s.cl i) = if i = c then _ else s.cl i
    rw [if_neg hi, if_neg hi, if_neg hi]
   ·rcases mem_send hm with g | ⟨i, hi, rfl⟩
    ·exact .inl (hms m g)
    ·exact .inr (.inr hnz)
   ·unfold roundC
    rw [ht2]
    exact ⟨hC.lt, by rw [hnb]; exact hC.key, by rw [hnb]; exact hC.b0, by rw [hnb]; exact hC.lo, by rw [hnb]; exact hC.hi, ⟨hnz.1, by show -2 ≤ (newC y c).best.c; have := hnz.2; omega⟩, fun _ => hnz⟩
  ·rename_i hkb
   have hk2 : ¬ y.began.kind = 2 := fun g => hkb (.inl (by rw [← y3]; exact g))
   have hx2 : newC y c = y := by unfold newC; rw [if_neg hk2]
   rw [hx2]
   exact hdone fun g => absurd g hk2
theorem SVal.deliver {s : StS} (h : SVal s) (hS : SInv s) {j : Nat} {m : SMail} (hm : s.mails[j]? = some m) : SVal (deliverF s j m) := by
 have hx := List.mem_of_getElem? hm
 unfold deliverF
 dsimp only
 split
 ·rename_i hd
  refine h.node hx (pushM (s.mails.eraseIdx j) ⟨m.dst, s.n + m.m.client, { m.m with what := 3, e := ownN s m.dst m.m }⟩) fun x hx' => ?_
  rcases mem_push hx' with g | g
  ·exact .inl (List.mem_of_mem_eraseIdx g)
  ·exact .inr g
 ·rename_i hd
  exact h.hear hS hx (Nat.le_of_not_lt hd) _ fun x hx' => List.mem_of_mem_eraseIdx hx'
theorem SVal.mv {s s' : StS} (h : SVal s) (hS : SInv s) (hm : Mv s s') : SVal s' := by
 rcases hm with ⟨ms, h1, rfl⟩ | ⟨c, key, write, value, h1, h2, h3, h4, h5, rfl⟩ | ⟨c, h1, h2, rfl⟩ | ⟨j, m, h1, rfl⟩
 ·exact h.mails h1
 ·obtain ⟨t, ht⟩ : ∃ t, setCl (obsF s (evB c key write value) ⟨0, 0, 0⟩) c { s.cl c with busy := true, began := evB c key write value, best := ⟨0, -2, 0⟩ } = t := ⟨_, rfl⟩
  have htc : t.cl c = { s.cl c with busy := true, began := evB c key write value, best := ⟨0, -2, 0⟩ } := by rw [← ht]; exact if_pos rfl
  have hbf : begS s c key write value = sendF t c 1 ⟨0, 0, 0⟩ := by rw [← ht]; rfl
  rw [hbf]
  refine h.upd hS.len c (roundC t c 1) (some (evB c key write value, ⟨0, 0, 0⟩)) ?_ ?_ ?_ (fun i hi => ?_) (if_pos rfl) ?_ ?_ (fun m hm => ?_) (fun _ => ?_) (fun e st g g2 => ?_)
  ·rw [← ht]; rfl
  ·rw [← ht]; rfl
  ·rw [← ht]; rfl
  ·rw [← ht]
   show (if i = c then _ else if i = c then _ else s.cl i) = s.cl i
   rw [if_neg hi, if_neg hi]
  ·rw [← ht]; rfl
  ·rw [← ht]; rfl
  ·rcases mem_send hm with g | ⟨i, hi, rfl⟩
   ·rw [← ht] at g
    exact .inl g
   ·exact .inr (.inl rfl)
  ·unfold roundC
   rw [htc]
   refine ⟨h1, ?_, rfl, ?_, ?_, ⟨⟨by show (-1000000 : Int) ≤ 0; omega, by show (0 : Int) ≤ 1000000; omega, fun g => by have g : (0 : Int) ≤ -2 := g; omega, fun _ => ⟨rfl, rfl⟩⟩, by show (-2 : Int) ≤ -2; omega⟩, fun g => ?_⟩
   ·show (key : Int) < 8; omega
   ·show (-1000000 : Int) ≤ if write = true then value else 0
    split <;> omega
   ·show (if write = true then value else 0) ≤ (1000000 : Int)
    split <;> omega
   ·rcases g with g | ⟨q, g⟩
    ·cases g
    ·have := List.eq_of_mem_replicate (List.mem_of_getElem? g)
     cases this
  ·injection g with g
   injection g with g1 g3
   rw [← g1] at g2
   have g2 : (1 : Int) = 2 := g2
   omega
 ·have hC := h.cl c (.inl h2)
  refine h.upd hS.len c { s.cl c with busy := false, gone := true } (some ({ (s.cl c).began with ty := 4 }, ⟨0, 0, 0⟩)) rfl rfl rfl (fun i hi => if_neg hi) (if_pos rfl) rfl rfl (fun m hm => .inl hm) (fun _ => ⟨hC.lt, hC.key, hC.b0, hC.lo, hC.hi, hC.best, hC.z⟩) (fun e st g g2 => ?_)
  injection g with g
  injection g with g1 g3
  rw [← g1] at g2
  have g2 : (4 : Int) = 2 := g2
  omega
 ·exact h.deliver hS h1
theorem keptF_mem {s : SeeS} {k n : Nat} : n ∈ keptF s k ↔ n < k ∧ goneAt s n = false := by
 unfold keptF goneAt
 rw [List.mem_filter, List.mem_range]
 simp
theorem keptF_sorted (s : SeeS) (k : Nat) : (keptF s k).Pairwise (· < ·) := List.Pairwise.filter _ List.pairwise_lt_range
/-- The number of the k-th op that is told. -/
def keptAt (s : SeeS) (k : Nat) : Nat := (keptF s s.ops.length).getD k 0
theorem outF_len (s : SeeS) : (outF s).length = (keptF s s.ops.length).length := by simp [outF]
theorem outF_at {s : SeeS} {k : Nat} (hk : k < (outF s).length) : oAt (outF s) k = oAt s.ops (keptAt s k) ∧ keptAt s k < s.ops.length ∧ goneAt s (keptAt s k) = false := by
 have hk' : k < (keptF s s.ops.length).length := by rw [← outF_len]; exact hk
 have e1 : keptAt s k = (keptF s s.ops.length)[k] := by unfold keptAt; rw [List.getD_eq_getElem?_getD, List.getElem?_eq_getElem hk']; rfl
 have hm := keptF_mem.1 (List.getElem_mem hk')
 rw [e1]
 refine ⟨?_, hm⟩
 unfold oAt outF
 rw [List.getD_eq_getElem?_getD, List.getElem?_map, List.getElem?_eq_getElem hk']
 rfl
theorem keptAt_lt {s : SeeS} {j k : Nat} (hjk : j < k) (hk : k < (outF s).length) : keptAt s j < keptAt s k := by
 rw [outF_len] at hk
 unfold keptAt
 rw [List.getD_eq_getElem?_getD, List.getD_eq_getElem?_getD, List.getElem?_eq_getElem hk, List.getElem?_eq_getElem (show j < (keptF s s.ops.length).length by omega)]
 exact List.pairwise_iff_getElem.1 (keptF_sorted s _) j k (by omega) hk hjk
theorem evOk_nums {e : Ev} (h : evOkB e = true) : (0 ≤ e.proc ∧ e.proc ≤ 7) ∧ (0 ≤ e.key ∧ e.key ≤ 7) ∧ (-1000000 ≤ e.a ∧ e.a ≤ 1000000) ∧ (-1000000 ≤ e.b ∧ e.b ≤ 1000000) ∧ (-1000000 ≤ e.res ∧ e.res ≤ 1000000) ∧ (1 ≤ e.kind ∧ e.kind ≤ 12) := by
 unfold evOkB toldB inB at h
 simp at h
 omega
theorem told_of {p k a b r c t : Int} (hp : 0 ≤ p ∧ p ≤ 7) (hk : 0 ≤ k ∧ k ≤ 7) (ha : -1000000 ≤ a ∧ a ≤ 1000000) (hb : -1000000 ≤ b ∧ b ≤ 1000000) (hr : -1000000 ≤ r ∧ r ≤ 1000000) (hc : -1000000 ≤ c ∧ c ≤ 1000000) (ht : -1000000 ≤ t ∧ t ≤ 1000000) : toldB p k [a, b, r, c, t] = true := by
 unfold toldB inB
 simp
 omega
/-- What is made of events may be. -/
theorem out_ok {l : List Ev} {s : SeeS} (h : SeeOk l l.length s) (hl : l.length ≤ 120) (h40 : (outF s).length ≤ 40) : OkOps (outF s) := by
 refine ⟨h40, fun k hk => ?_⟩
 obtain ⟨ek, hkn, hkg⟩ := outF_at hk
 obtain ⟨c, hc1, hc2, e, he, hty, hok, ep, eke, eki, ea, eb⟩ := h.called _ hkn
 have hnum := evOk_nums hok
 have hlen : ((outF s).take k).length = k := by simp; omega
 have hret : ((oAt s.ops (keptAt s k)).ret = -1 ∧ (oAt s.ops (keptAt s k)).res = 0) ∨ (0 ≤ (oAt s.ops (keptAt s k)).ret ∧ (oAt s.ops (keptAt s k)).ret < 120 ∧ (oAt s.ops (keptAt s k)).call < (oAt s.ops (keptAt s k)).ret ∧ (-1000000 ≤ (oAt s.ops (keptAt s k)).res ∧ (oAt s.ops (keptAt s k)).res ≤ 1000000)) := by
  rcases h.ret _ hkn with h1 | ⟨r, h1, h2, h3, _, e', _, _, h6, h7⟩
  ·exact .inl h1
  ·refine .inr ⟨by omega, by omega, by omega, ?_⟩
   have := evOk_nums h6
   rw [← h7]; omega
 have pr : ∀ j, j < k → oAt ((outF s).take k) j = oAt s.ops (keptAt s j) ∧ keptAt s j < keptAt s k ∧ goneAt s (keptAt s j) = false := fun j hj => by
  rw [oAt_take hj]
  obtain ⟨e1, _, e3⟩ := outF_at (s := s) (k := j) (by omega)
  exact ⟨e1, keptAt_lt hj hk, e3⟩
 rw [ek]
 refine ⟨?_, ?_, ⟨?_, ?_, ?_, ?_⟩, fun j hj => ?_, fun j hj hp => ?_⟩
 ·rw [← ep, ← eke, ← ea, ← eb, hc2]
  refine told_of hnum.1 hnum.2.1 hnum.2.2.1 hnum.2.2.2.1 ?_ (by omega) ?_
  ·rcases hret with h1 | h1
   ·rw [h1.2]; omega
   ·omega
  ·rcases hret with h1 | h1
   ·rw [h1.1]; omega
   ·omega
 ·rw [← eki]; unfold inB; simp; omega
 ·rw [hc2]; omega
 ·rw [hlen]
  rintro ⟨h0, h1⟩
  obtain ⟨e1, e2, _⟩ := pr (k - 1) (by omega)
  rw [e1] at h1
  have := h.rise _ _ e2 hkn
  omega
 ·rintro ⟨h1, h2⟩
  rcases hret with h3 | h3
  ·exact h1 h3.1
  ·omega
 ·rintro ⟨h1, h2⟩
  rcases hret with h3 | h3
  ·exact h2 h3.2
  ·omega
 ·rw [hlen] at hj
  obtain ⟨e1, e2, e3⟩ := pr j hj
  rw [e1]
  obtain ⟨c', hc1', hc2', _⟩ := h.called _ (Nat.lt_trans e2 hkn)
  have hrise := h.rise _ _ e2 hkn
  refine ⟨?_, ?_⟩
  ·rintro ⟨_, h1 | h1⟩
   ·omega
   ·rcases hret with h3 | h3
    ·rw [h3.1] at h1; omega
    ·omega
  ·rintro ⟨h0, h1 | h1⟩
   ·rcases h.ret _ (Nat.lt_trans e2 hkn) with h3 | ⟨r, h3, h4, h5, _, e', h6, h7, _⟩
    ·exact h0 h3.1
    ·rw [h4, hc2] at h1
     have : r = c := by omega
     subst this
     rw [he] at h6
     injection h6 with h6
     subst h6
     omega
   ·refine h.once _ _ e2 hkn (fun hh => ?_) h1
    rw [hh] at h1; exact h0 h1
 ·rw [hlen] at hj
  obtain ⟨e1, e2, e3⟩ := pr j hj
  rw [e1] at hp ⊢
  obtain ⟨h1, h2⟩ := h.order _ _ e2 hkn hp e3
  unfold befB
  simp [h1, h2]
/-! ### A part of a history -/
structure Later (cut : Nat) (s1 s2 : SeeS) : Prop where
 len : s1.ops.length ≤ s2.ops.length
 same : ∀ n, n < s1.ops.length → (oAt s2.ops n).key = (oAt s1.ops n).key ∧ (oAt s2.ops n).kind = (oAt s1.ops n).kind ∧ (oAt s2.ops n).a = (oAt s1.ops n).a ∧ (oAt s2.ops n).b = (oAt s1.ops n).b ∧ (oAt s2.ops n).call = (oAt s1.ops n).call
 done : ∀ n, n < s1.ops.length → (oAt s1.ops n).ret ≠ -1 → (oAt s2.ops n).ret = (oAt s1.ops n).ret ∧ (oAt s2.ops n).res = (oAt s1.ops n).res ∧ goneAt s2 n = goneAt s1 n
 gone : ∀ n, goneAt s1 n = true → goneAt s2 n = true
 late : ∀ n, s1.ops.length ≤ n → n < s2.ops.length → (cut : Int) ≤ (oAt s2.ops n).call
theorem Later.refl (cut : Nat) (s : SeeS) : Later cut s s := ⟨Nat.le_refl _, fun _ _ => ⟨rfl, rfl, rfl, rfl, rfl⟩, fun _ _ _ => ⟨rfl, rfl, rfl⟩, fun _ h => h, fun n h1 h2 => by omega⟩
theorem ordP_of {l : List Op8} {order : List Int} (h1 : ∀ j ∈ order, 0 ≤ j ∧ j < l.length) (h2 : ∀ i j (hi : i < j) (hj : j < order.length), order[i]'(by omega) ≠ order[j] ∧ befB (oAt l order[j].toNat) (oAt l (order[i]'(by omega)).toNat) = false) : OrdP l order order.length := by
 intro j hj _
 obtain ⟨a1, a2⟩ := h1 _ (List.getElem_mem hj)
 refine ⟨a1, a2, ?_, fun i hi hij => (h2 i j hij hj).2⟩
 unfold dnF
 have h5 : ((order[j].toNat : Nat) : Int) = order[j] := by omega
 rw [h5]
 cases hc : (order.take j).contains order[j] with
 | false => rfl
 | true =>
  have hm : order[j] ∈ order.take j := by simpa using hc
  obtain ⟨i, hi, he⟩ := List.mem_take_iff_getElem.1 hm
  exact absurd he (h2 i j (by omega) hj).1
section
variable {l : List Op8} {E : Nat → Bool} {T : Nat → Nat} {C : Nat → Int}
def kdR (l : List Op8) (x : Nat) : Nat := if (oAt l x).kind = 2 then 0 else 1
/-- By stamp; a write ahead of what reads it; then by the index. -/
def rkLt (l : List Op8) (T : Nat → Nat) (C : Nat → Int) (x y : Nat) : Prop := T x < T y ∨ (T x = T y ∧ (C x < C y ∨ (C x = C y ∧ (kdR l x < kdR l y ∨ (kdR l x = kdR l y ∧ x < y)))))
instance (l : List Op8) (T : Nat → Nat) (C : Nat → Int) (x y : Nat) : Decidable (rkLt l T C x y) := by unfold rkLt; infer_instance
structure RegOps (l : List Op8) (E : Nat → Bool) (T : Nat → Nat) (C : Nat → Int) : Prop where
 lt : ∀ x, E x = true → x < l.length
 all : ∀ x, x < l.length → 0 ≤ (oAt l x).ret → E x = true
 kind : ∀ x, E x = true → (oAt l x).kind = 1 ∨ (oAt l x).kind = 2
 pend : ∀ x, E x = true → (oAt l x).ret < 0 → (oAt l x).kind = 2
 key : ∀ x, E x = true → 0 ≤ (oAt l x).key
 call : ∀ x, E x = true → 0 ≤ (oAt l x).call
 rise : ∀ x y, x < y → y < l.length → (oAt l x).call < (oAt l y).call
 ret : ∀ x, E x = true → 0 ≤ (oAt l x).ret → (oAt l x).call < (oAt l x).ret
 nret : ∀ x y, E x = true → E y = true → 0 ≤ (oAt l x).ret → (oAt l x).ret ≠ (oAt l y).call
 mono : ∀ x y, E x = true → E y = true → (oAt l x).key = (oAt l y).key → 0 ≤ (oAt l x).ret → (oAt l x).ret < (oAt l y).call → (T x < T y ∨ (T x = T y ∧ C x < C y)) ∨ ((oAt l y).kind ≠ 2 ∧ T x = T y ∧ C x = C y)
 one : ∀ x y, E x = true → E y = true → (oAt l x).kind = 2 → (oAt l y).kind = 2 → (oAt l x).key = (oAt l y).key → T x = T y → C x = C y → x = y
 wres : ∀ x, E x = true → (oAt l x).kind = 2 → 0 ≤ (oAt l x).ret → (oAt l x).res = 0
 src : ∀ x, E x = true → (oAt l x).kind = 1 → 0 ≤ C x → ∃ w, E w = true ∧ (oAt l w).kind = 2 ∧ (oAt l w).key = (oAt l x).key ∧ T w = T x ∧ C w = C x ∧ (oAt l w).a = (oAt l x).res
 zero : ∀ x, E x = true → (oAt l x).kind = 1 → C x < 0 → (oAt l x).res = 0 ∧ ∀ w, E w = true → (oAt l w).kind = 2 → (oAt l w).key = (oAt l x).key → T x < T w ∨ (T x = T w ∧ C x < C w)
def maxC (l : List Op8) : List Nat → Int
 | [] => -1
 | z :: r => if (oAt l z).call ≤ maxC l r then maxC l r else (oAt l z).call
theorem maxC_ge : ∀ (r : List Nat) (z : Nat), z ∈ r → (oAt l z).call ≤ maxC l r
 | y :: r, z, h => by
  unfold maxC
  rcases List.mem_cons.1 h with rfl | h
  ·split <;> omega
  ·have := maxC_ge r z h
   split <;> omega
theorem maxC_is : ∀ (r : List Nat), r ≠ [] → (∀ z ∈ r, 0 ≤ (oAt l z).call) → ∃ z ∈ r, maxC l r = (oAt l z).call
 | [y], _, h0 => ⟨y, by simp, by unfold maxC; rw [if_neg]; have := h0 y (by simp); show ¬ _ ≤ (-1 : Int); omega⟩
 | y :: x :: r, _, h0 => by
  obtain ⟨z, hz, h⟩ := maxC_is (x :: r) (by simp) (fun z hz => h0 z (List.mem_cons_of_mem _ hz))
  unfold maxC
  split
  ·exact ⟨z, List.mem_cons_of_mem _ hz, h⟩
  ·exact ⟨y, List.mem_cons_self .., rfl⟩
def belowR (l : List Op8) (E : Nat → Bool) (T : Nat → Nat) (C : Nat → Int) (x : Nat) : List Nat := (List.range l.length).filter fun z => E z && decide ((oAt l z).key = (oAt l x).key) && decide (¬ rkLt l T C x z)
def tauR (l : List Op8) (E : Nat → Bool) (T : Nat → Nat) (C : Nat → Int) (x : Nat) : Int := maxC l (belowR l E T C x)
theorem mem_below (h : RegOps l E T C) {x z : Nat} : z ∈ belowR l E T C x ↔ E z = true ∧ (oAt l z).key = (oAt l x).key ∧ ¬ rkLt l T C x z := by
 unfold belowR
 rw [List.mem_filter, List.mem_range]
 simp only [Bool.and_eq_true, decide_eq_true_eq]
 exact ⟨fun g => ⟨g.2.1.1, g.2.1.2, g.2.2⟩, fun g => ⟨h.lt z g.1, ⟨g.1, g.2.1⟩, g.2.2⟩⟩
theorem rk_irrefl (x : Nat) : ¬ rkLt l T C x x := by unfold rkLt; omega
theorem rk_trans {x y z : Nat} (h1 : rkLt l T C x y) (h2 : rkLt l T C y z) : rkLt l T C x z := by unfold rkLt at *; omega
theorem rk_total {x y : Nat} (h : x ≠ y) : rkLt l T C x y ∨ rkLt l T C y x := by unfold rkLt; omega
theorem tau_mono (h : RegOps l E T C) {x y : Nat} (hx : E x = true) (hk : (oAt l x).key = (oAt l y).key) (hxy : ¬ rkLt l T C y x) : tauR l E T C x ≤ tauR l E T C y := by
 obtain ⟨z, hz, hm⟩ := maxC_is (belowR l E T C x) (fun g => by
  have : x ∈ belowR l E T C x := (mem_below h).2 ⟨hx, rfl, rk_irrefl x⟩
  rw [g] at this; cases this) (fun z hz => h.call z ((mem_below h).1 hz).1)
 obtain ⟨z1, z2, z3⟩ := (mem_below h).1 hz
 unfold tauR
 rw [hm]
 refine maxC_ge _ z ((mem_below h).2 ⟨z1, z2.trans hk, fun g => ?_⟩)
 by_cases hxy' : x = y
 ·subst hxy'; exact z3 g
 ·rcases rk_total (l := l) (T := T) (C := C) hxy' with g2 | g2
  ·exact z3 (rk_trans g2 g)
  ·exact hxy g2
theorem tau_call (h : RegOps l E T C) {x : Nat} (hx : E x = true) : (oAt l x).call ≤ tauR l E T C x :=
 maxC_ge _ x ((mem_below h).2 ⟨hx, rfl, rk_irrefl x⟩)
theorem tau_ret (h : RegOps l E T C) {x : Nat} (hx : E x = true) (hr : 0 ≤ (oAt l x).ret) : tauR l E T C x < (oAt l x).ret := by
 obtain ⟨z, hz, hm⟩ := maxC_is (belowR l E T C x) (fun g => by
  have : x ∈ belowR l E T C x := (mem_below h).2 ⟨hx, rfl, rk_irrefl x⟩
  rw [g] at this; cases this) (fun z hz => h.call z ((mem_below h).1 hz).1)
 obtain ⟨z1, z2, z3⟩ := (mem_below h).1 hz
 unfold tauR
 rw [hm]
 refine Classical.byContradiction fun hn => z3 ?_
 have hne := h.nret x z hx z1 hr
 have hlt : (oAt l x).ret < (oAt l z).call := by omega
 have hxz : x < z := by
  refine Classical.byContradiction fun g => ?_
  have hcr := h.ret x hx hr
  by_cases e : z = x
  ·subst e; omega
  ·have := h.rise z x (by omega) (h.lt x hx); omega
 rcases h.mono x z hx z1 z2.symm hr hlt with g | ⟨g1, g2, g3⟩
 ·unfold rkLt; omega
 ·have : kdR l z = 1 := by unfold kdR; rw [if_neg g1]
  have : kdR l x ≤ 1 := by unfold kdR; split <;> omega
  unfold rkLt; omega
def leR (l : List Op8) (E : Nat → Bool) (T : Nat → Nat) (C : Nat → Int) (x y : Nat) : Bool := decide (tauR l E T C x < tauR l E T C y ∨ (tauR l E T C x = tauR l E T C y ∧ ¬ rkLt l T C y x))
theorem leR_key (h : RegOps l E T C) {x y : Nat} (hx : E x = true) (hy : E y = true) (hk : (oAt l x).key = (oAt l y).key) (hle : leR l E T C x y = true) : ¬ rkLt l T C y x := by
 intro g
 unfold leR at hle
 have hle := of_decide_eq_true hle
 have := tau_mono h hy hk.symm (fun g2 => rk_irrefl x (rk_trans g2 g))
 rcases hle with h1 | ⟨_, h1⟩
 ·omega
 ·exact h1 g
def sortR (l : List Op8) (E : Nat → Bool) (T : Nat → Nat) (C : Nat → Int) : List Nat := ((List.range l.length).filter E).mergeSort (leR l E T C)
theorem sortR_mem (h : RegOps l E T C) {x : Nat} : x ∈ sortR l E T C ↔ E x = true := by
 unfold sortR
 rw [(List.mergeSort_perm _ _).mem_iff, List.mem_filter, List.mem_range]
 exact ⟨fun g => g.2, fun g => ⟨h.lt x g, g⟩⟩
theorem sortR_nodup : (sortR l E T C).Nodup :=
 (List.mergeSort_perm _ _).nodup_iff.2 (List.Pairwise.filter _ List.nodup_range)
theorem sortR_sorted : (sortR l E T C).Pairwise fun x y => leR l E T C x y = true := by
 refine List.pairwise_mergeSort (le := leR l E T C) (fun a b c h1 h2 => ?_) (fun a b => ?_) _
 ·unfold leR at *
  have h1 := of_decide_eq_true h1
  have h2 := of_decide_eq_true h2
  refine decide_eq_true ?_
  rcases h1 with h1 | ⟨h1, h3⟩
  ·rcases h2 with h2 | ⟨h2, h4⟩ <;> exact .inl (by omega)
  ·rcases h2 with h2 | ⟨h2, h4⟩
   ·exact .inl (by omega)
   ·refine .inr ⟨by omega, fun g => ?_⟩
    by_cases e : a = b
    ·subst e; exact h4 g
    ·rcases rk_total (l := l) (T := T) (C := C) e with g2 | g2
     ·exact h4 (rk_trans g g2)
     ·exact h3 g2
 ·unfold leR
  rw [Bool.or_eq_true]
  by_cases g : rkLt l T C a b
  ·by_cases g2 : tauR l E T C b < tauR l E T C a
   ·exact .inr (decide_eq_true (.inl g2))
   ·refine .inl (decide_eq_true ?_)
    rcases Int.lt_or_le (tauR l E T C a) (tauR l E T C b) with g3 | g3
    ·exact .inl g3
    ·exact .inr ⟨by omega, fun g4 => rk_irrefl a (rk_trans g g4)⟩
  ·by_cases g2 : tauR l E T C a < tauR l E T C b
   ·exact .inl (decide_eq_true (.inl g2))
   ·refine .inr (decide_eq_true ?_)
    rcases Int.lt_or_le (tauR l E T C b) (tauR l E T C a) with g3 | g3
    ·exact .inl g3
    ·exact .inr ⟨by omega, g⟩
/-- What a key holds behind some ops. -/
def valR (l : List Op8) (k : Nat) : Int → List Nat → Int
 | v, [] => v
 | v, x :: r => valR l k (if (oAt l x).key.toNat = k ∧ (oAt l x).kind = 2 then (oAt l x).a else v) r
theorem valR_app (k : Nat) : ∀ (p r : List Nat) (v : Int), valR l k v (p ++ r) = valR l k (valR l k v p) r
 | [], r, v => rfl
 | x :: p, r, v => valR_app k p r _
theorem valR_none (k : Nat) : ∀ (p : List Nat) (v : Int), (∀ x ∈ p, ¬ ((oAt l x).key.toNat = k ∧ (oAt l x).kind = 2)) → valR l k v p = v
 | [], v, _ => rfl
 | x :: p, v, h => by
  unfold valR
  rw [if_neg (h x (by simp))]
  exact valR_none k p v fun y hy => h y (List.mem_cons_of_mem _ hy)
theorem step1 {v a b : Int} : stepF 1 [v] 1 a b = some ([v], v) := rfl
theorem step2 {v a b : Int} : stepF 1 [v] 2 a b = some ([a], 0) := rfl
theorem run_reg (h : RegOps l E T C) : ∀ (s p : List Nat) (q : Nat) (g : Sts8), p ++ s = sortR l E T C → (∀ k, (g k).getD (startF 1) = [valR l k 0 p]) → runTo 1 l (s.map fun x : Nat => (x : Int)) q g = -1
 | [], p, q, g, _, _ => rfl
 | x :: s, p, q, g, hps, hg => by
  have hxm : x ∈ sortR l E T C := by rw [← hps]; simp
  have hx : E x = true := (sortR_mem h).1 hxm
  have hlt := h.lt x hx
  have hso := sortR_sorted (l := l) (E := E) (T := T) (C := C)
  have hnd := sortR_nodup (l := l) (E := E) (T := T) (C := C)
  rw [← hps] at hso hnd
  have hso' := List.pairwise_append.1 hso
  have hnd' := List.nodup_append.1 hnd
  have hin : ∀ y, y ∈ p → E y = true := fun y hy => (sortR_mem h).1 (by rw [← hps]; simp [hy])
  have hbe : ∀ y, y ∈ p → (oAt l y).key = (oAt l x).key → ¬ rkLt l T C x y := fun y hy hk => leR_key h (hin y hy) hx hk (hso'.2.2 y hy x (by simp))
  rw [List.map_cons]
  unfold runTo
  rw [if_neg (by omega), Int.toNat_natCast, hg]
  have hnext : ∀ st', (∀ k, ((updS g (oAt l x).key.toNat st') k).getD (startF 1) = [valR l k 0 (p ++ [x])]) → runTo 1 l (s.map fun x : Nat => (x : Int)) (q + 1) (updS g (oAt l x).key.toNat st') = -1 := fun st' hh => run_reg h s (p ++ [x]) (q + 1) _ (by rw [List.append_assoc]; exact hps) hh
  have hval : ∀ k, valR l k 0 (p ++ [x]) = if (oAt l x).key.toNat = k ∧ (oAt l x).kind = 2 then (oAt l x).a else valR l k 0 p := fun k => by rw [valR_app]; rfl
  rcases h.kind x hx with hk | hk
  ·rw [hk, step1]
   simp only
   have hr : 0 ≤ (oAt l x).ret := by
    refine Classical.byContradiction fun g => ?_
    have := h.pend x hx (by omega)
    omega
   have hv : valR l (oAt l x).key.toNat 0 p = (oAt l x).res := by
    by_cases hc : 0 ≤ C x
    ·obtain ⟨w, w1, w2, w3, w4, w5, w6⟩ := h.src x hx hk hc
     have hwx : rkLt l T C w x := by
      have : kdR l w = 0 := by unfold kdR; rw [if_pos w2]
      have : kdR l x = 1 := by unfold kdR; rw [if_neg (by omega)]
      unfold rkLt; omega
     have hwm : w ∈ p := by
      have hw : w ∈ p ++ x :: s := by rw [hps]; exact (sortR_mem h).2 w1
      rcases List.mem_append.1 hw with g | g
      ·exact g
      ·rcases List.mem_cons.1 g with rfl | g
       ·omega
       ·exact absurd hwx (leR_key h hx w1 w3.symm ((List.pairwise_cons.1 hso'.2.1).1 w g))
     obtain ⟨p1, p2, rfl⟩ := List.append_of_mem hwm
     have hp12 := List.pairwise_append.1 hso'.1
     have hnp := List.nodup_append.1 hnd'.1
     rw [valR_app]
     show valR l _ (if _ then _ else _) p2 = _
     rw [if_pos ⟨by rw [w3], w2⟩, valR_none, w6]
     rintro y hy ⟨hky, hk2⟩
     have hyE := hin y (by simp [hy])
     have hkey : (oAt l y).key = (oAt l x).key := by
      have := h.key y hyE
      have := h.key x hx
      omega
     have n1 := hbe y (by simp [hy]) hkey
     have n2 := leR_key h w1 hyE (w3.trans hkey.symm) ((List.pairwise_cons.1 hp12.2.1).1 y hy)
     have hyk : kdR l y = 0 := by unfold kdR; rw [if_pos hk2]
     have hwk : kdR l w = 0 := by unfold kdR; rw [if_pos w2]
     have hxk : kdR l x = 1 := by unfold kdR; rw [if_neg (by omega)]
     have : T y = T w ∧ C y = C w := by
      unfold rkLt at n1 n2
      omega
     have hyw := h.one y w hyE w1 hk2 w2 (hkey.trans w3.symm) this.1 this.2
     subst hyw
     exact (List.nodup_cons.1 hnp.2.1).1 hy
    ·obtain ⟨z1, z2⟩ := h.zero x hx hk (by omega)
     rw [z1, valR_none]
     rintro y hy ⟨hky, hk2⟩
     have hyE := hin y hy
     have hkey : (oAt l y).key = (oAt l x).key := by
      have := h.key y hyE
      have := h.key x hx
      omega
     have n1 := hbe y hy hkey
     have := z2 y hyE hk2 hkey
     unfold rkLt at n1
     omega
   rw [if_neg (fun g => g.2 hv)]
   refine hnext _ fun k => ?_
   rw [hval, if_neg (fun g => by omega)]
   unfold updS
   by_cases e : k = (oAt l x).key.toNat
   ·rw [if_pos e, e]; rfl
   ·rw [if_neg e]; exact hg k
  ·rw [hk, step2]
   simp only
   rw [if_neg (fun g => g.2 (h.wres x hx hk g.1).symm)]
   refine hnext _ fun k => ?_
   rw [hval]
   unfold updS
   by_cases e : k = (oAt l x).key.toNat
   ·rw [if_pos e, if_pos ⟨e.symm, hk⟩]; rfl
   ·rw [if_neg e, if_neg (fun g => e g.1.symm)]; exact hg k
theorem reg_shows (h : RegOps l E T C) : ShowsP 1 l ((sortR l E T C).map fun x : Nat => (x : Int)) := by
 refine ⟨ordP_of (fun j hj => ?_) (fun i j hi hj => ?_), fun i hi hr => ?_, ?_⟩
 ·obtain ⟨x, hx, rfl⟩ := List.mem_map.1 hj
  have := h.lt x ((sortR_mem h).1 hx)
  omega
 ·rw [List.length_map] at hj
  have hs := List.pairwise_iff_getElem.1 (sortR_sorted (l := l) (E := E) (T := T) (C := C)) i j (by omega) hj hi
  have hn := List.pairwise_iff_getElem.1 (sortR_nodup (l := l) (E := E) (T := T) (C := C)) i j (by omega) hj hi
  rw [List.getElem_map, List.getElem_map]
  refine ⟨fun g => hn (by omega), ?_⟩
  rw [Int.toNat_natCast, Int.toNat_natCast]
  have ha := (sortR_mem h).1 (List.getElem_mem (l := sortR l E T C) (show i < _ by omega))
  have hb := (sortR_mem h).1 (List.getElem_mem (l := sortR l E T C) hj)
  generalize (sortR l E T C)[i]'(by omega) = a at *
  generalize (sortR l E T C)[j] = b at *
  cases hbe : befB (oAt l b) (oAt l a) with
  | false => rfl
  | true =>
   unfold befB at hbe
   rw [Bool.and_eq_true] at hbe
   have h1 := of_decide_eq_true hbe.1
   have h2 := of_decide_eq_true hbe.2
   have h3 := tau_ret h hb h1
   have h4 := tau_call h ha
   unfold leR at hs
   have hs := of_decide_eq_true hs
   omega
 ·unfold dnF
  rw [List.take_length]
  refine List.contains_iff_mem.2 (List.mem_map.2 ⟨i, (sortR_mem h).2 (h.all i hi hr), rfl⟩)
 ·exact run_reg h (sortR l E T C) [] 0 _ rfl fun k => rfl
end
end Go.Proofs.YthndpiopbdecfaaGreatDoor
