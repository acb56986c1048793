/- Texts of the proof, merged: Gen8, Gen9, ModLaw, ModLaw2, EvLawA, Evt1, KeyLaw, Sxv, Evo1, Evo2, EvLaw, Tella, Tell. -/
import Derived.Test.YthndpiopbdecfaaGreatDoorPGen7
import Derived.Test.YthndpiopbdecfaaGreatDoorPReg
import Derived.Test.YthndpiopbdecfaaGreatDoorPStoA
import Derived.Test.YthndpiopbdecfaaGreatDoorProg
import Derived.Laws.IdiomStrings
import Derived.Laws.MakeOwn
import Derived.Test.YthndpiopbdecfaaGreatDoorSxA
import Derived.Laws.Externs
import Derived.Stop.Asserts
namespace Go.Proofs.YthndpiopbdecfaaGreatDoor
open Go.RowKit
set_option linter.unusedVariables false
set_option linter.unusedSimpArgs false
theorem pG_succ (k : Nat) (l : List Tok) : pG (k + 1) l = if headT l = tRead then (numT 0 7 l.tail).map (fun r => (.rd r.1, r.2)) else if headT l = tWrite then pW l.tail else if headT l = tLimit then (match numT 0 1000 l.tail with
   | none => none
   | some (n, s) => (pG k s).map fun r => (.lim n.toNat r.1, r.2)) else if headT l = tMix then (pV (pG k) l.tail).map (fun r => (.mix r.1, r.2)) else if headT l = tThen then (pV (pG k) l.tail).map (fun r => (.thn r.1, r.2)) else none := by
 cases l with
 | nil => rfl
 | cons t s => rfl
theorem pV_head (p : List Tok → Option (Ge × List Tok)) (l : List Tok) : pV p l = if headT l = tOpen then pS p l.tail.length l.tail else none := by
 cases l with
 | nil => rfl
 | cons t s => rfl
theorem pS_succ (p : List Tok → Option (Ge × List Tok)) (n : Nat) (s : List Tok) : pS p (n + 1) s = match p s with
  | none => none
  | some (g, s') => if headT s' = tShut then some ([g], s'.tail) else if headT s' = tComma then (pS p n s'.tail).map (fun r => (g :: r.1, r.2)) else none := by
 rw [pS]
 cases p s with
 | none => rfl
 | some q =>
  obtain ⟨g, s'⟩ := q
  cases s' with
  | nil => rfl
  | cons t s' => rfl
theorem RepL.snoc : ∀ {gs : List Ge} {vs : List Value} {L M : List Ent} {g : Ge} {v : Value}, RepL gs vs L → Rep g v M → RepL (gs ++ [g]) (vs ++ [v]) (L ++ M)
 | _, _, _, M, g, v, .nil, h => by
  have := RepL.cons h .nil
  rwa [List.append_nil] at this
 | _, _, _, M, g, v, .cons h0 h1, h => by
  rw [List.append_assoc]
  exact .cons h0 (RepL.snoc h1 h)
theorem drop_lt {T : List Tok} {i j : Nat} (hj : j ≤ T.length) (hi : i ≤ T.length) (h : (T.drop j).length < (T.drop i).length) : i < j := by
 simp only [List.length_drop] at h
 omega
def GenOk (k : Nat) : Prop := ∀ (d : Int) (T : List Tok) (sgs : List Sg) (c i p g : Nat) (S : Nat → Prop) (w0 w : World) (H : List Ent), d = 20 - (k : Int) → Ptx T sgs c → i ≤ T.length → Inv S w0 w (parE p g sgs c i :: sgE g sgs :: H) → NumG w0 → NoG S →
 Calls Tryz.prog 33 #[at0 p, .int .i64 d] w (ReadPost T sgs c p g S w0 H (pG k (T.drop i)))
def SevPost (T : List Tok) (sgs : List Sg) (c p g : Nat) (S : Nat → Prop) (w0 : World) (H : List Ent) (r : Option (List Ge × List Tok)) (e : Ending) (w' : World) : Prop :=
 (∃ gs vs L A c' i', r = some (gs, T.drop i') ∧ e = .returned (.tuple #[.slice A gs.length c', .nilIface]) ∧ RepL gs vs L ∧ gs.length ≤ 100000 ∧ i' ≤ T.length ∧ Inv S w0 w' (parE p g sgs c i' :: sgE g sgs :: Row 0 54 1 A gs.length c' vs :: (L ++ H))) ∨
 (r = none ∧ ∃ U u i', e = .returned (.tuple #[.slice none 0 0, .iface U u]) ∧ i' ≤ T.length ∧ Inv S w0 w' (parE p g sgs c i' :: sgE g sgs :: H))
set_option maxHeartbeats 2000000 in
theorem several_any (k : Nat) (hk : k ≤ 20) (hGen : GenOk k) (d : Int) (T : List Tok) (sgs : List Sg) (c i p g : Nat) (S : Nat → Prop) (w0 w : World) (H : List Ent) (hd : d = 20 - (k : Int)) (hP : Ptx T sgs c) (hi : i ≤ T.length) (hI : Inv S w0 w (parE p g sgs c i :: sgE g sgs :: H)) (hG : NumG w0) (hS : NoG S) :
  Calls Tryz.prog 60 #[at0 p, .int .i64 d] w (SevPost T sgs c p g S w0 H (pV (pG k) (T.drop i))) := by
 unfold SevPost
 rw [pV_head]
 have hTl := hP.tl
 refine Vm Tryz.f60.ntmps Tryz.func60 rfl ?_
 refine W_seq (W_region (Vl rfl (Vf rfl (WL_nil ?_))))
 by_cases ho : headT (T.drop i) = tOpen
 rotate_left
 ·refine W_seq (W_seq (W_region (V7 rfl (V6 [.pointer _, .string _] rfl Tryz.func34 rfl ?_))))
  refine (expect_any T sgs c i p g S w0 _ H tOpen hP hi hI).mono ?_
  rintro e w1 (⟨h, -⟩ | ⟨h, ⟨U, u, rfl⟩, hI1⟩)
  ·exact absurd h ho
  refine ⟨_, rfl, ?_⟩
  refine Vk rfl (WL_nil (W_seq (W_region (Vo rfl (Tf rfl Tryz.underlying29 rfl (WL_nil (W_cond true rfl (W_seq (W_region (Vo rfl (Vl rfl (Vk rfl (WL_nil ?_)))))))))))))
  refine W_ret ?_
  exact ret2 4 5 (.inr rfl) rfl (.inr ⟨if_neg ho, U, u, i, rfl, hi, hI1⟩)
 rw [if_pos ho]
 refine W_seq (W_seq (W_region (V7 rfl (V6 [.pointer _, .string _] rfl Tryz.func34 rfl ?_))))
 refine (expect_any T sgs c i p g S w0 _ H tOpen hP hi hI).mono ?_
 rintro e w1 (⟨h, rfl, i1, hi1, hd1, hI1⟩ | ⟨h, -⟩)
 rotate_left
 ·exact absurd ho h
 refine ⟨_, rfl, ?_⟩
 refine Vf rfl (WL_nil (W_seq (W_region (T3 rfl (Tc rfl Tryz.underlying29 rfl (WL_nil (W_cond false rfl (W_skip (W_seq (W_region (Vl rfl (WL_nil ?_))))))))))))
 rw [← hd1]
 refine W_block ?_
 have hI0 := hI1.fresh (Pure.refl w1) (Row.nil w1 0 54 1) (fun k hk => by simp [Row] at hk)
 refine W_loopN (fun mu ρ w => ∃ (n : Nat) (gs : List Ge) (vs : List Value) (L : List Ent) (A : Option Addr) (c1 i2 : Nat), mu = n ∧ i2 ≤ T.length ∧ gs.length ≤ i2 ∧ (T.drop i2).length ≤ n ∧ RepL gs vs L ∧ pS (pG k) (T.drop i1).length (T.drop i1) = (pS (pG k) n (T.drop i2)).map (fun r => (gs ++ r.1, r.2)) ∧
   Has ρ [(0, at0 p), (1, .int .i64 d), (7, .slice A gs.length c1)] ∧ Inv S w0 w (Row 0 54 1 A gs.length c1 vs :: parE p g sgs c i2 :: sgE g sgs :: (L ++ H))) (T.drop i1).length
  ⟨_, [], [], [], none, 0, i1, rfl, hi1, Nat.zero_le _, Nat.le_refl _, .nil, by simp, ⟨rfl, rfl, rfl, trivial⟩, hI0⟩ ?_
 clear hI0 hI1 hI
 rintro mu ρ w ⟨n, gs, vs, L, A, c1, i2, rfl, hi2, hgl, hn, hL, heq, hH, hI⟩
 obtain ⟨σ, rfl⟩ := hH.open
 refine W_block ?_
 have hpre := pG_pre k (T.drop i2)
 cases hx : pG k (T.drop i2) with
 | none =>
  refine W_seq (W_region (V7 rfl (V0 rfl (V6 [.pointer _, .int .i64 _] rfl Tryz.func33 rfl ?_))))
  refine (hGen d T sgs c i2 p g S w0 _ _ hd hP hi2 ((hI.pull 0 rfl).sw0.sw1) hG hS).mono ?_
  unfold ReadPost
  rintro e w2 (⟨ge, v, L', i', h, -⟩ | ⟨-, U, u, i', rfl, hi', hI2⟩)
  ·rw [hx] at h; cases h
  refine ⟨_, rfl, ?_⟩
  refine Vv rfl (Vg rfl (Vg rfl (Vf rfl (Vk rfl (WL_nil (W_seq (W_seq (W_region (Vo rfl (Tf rfl Tryz.underlying29 rfl (WL_nil (W_cond true rfl (W_seq ?_)))))))))))))
  refine W_region (Vo rfl (Vl rfl (Vk rfl (WL_nil ?_))))
  refine W_ret ?_
  refine ret2 4 5 (.inr rfl) rfl (.inr ⟨?_, U, u, i', rfl, hi', hI2.sub ?_⟩)
  ·rw [heq]
   cases mu with
   | zero => rfl
   | succ n => rw [pS_succ, hx]; rfl
  ·exact (((List.sublist_append_right ..).cons _).cons_cons _).cons_cons _
 | some q =>
  obtain ⟨ge, r⟩ := q
  obtain ⟨hsz, -⟩ := hpre _ _ hx
  have hsp := sz_pos ge
  refine W_seq (W_region (V7 rfl (V0 rfl (V6 [.pointer _, .int .i64 _] rfl Tryz.func33 rfl ?_))))
  refine (hGen d T sgs c i2 p g S w0 _ _ hd hP hi2 ((hI.pull 0 rfl).sw0.sw1) hG hS).mono ?_
  unfold ReadPost
  rintro e w2 (⟨ge', v, M, i3, h, rfl, hM, hi3, hI2⟩ | ⟨h, -⟩)
  rotate_left
  ·rw [hx] at h; cases h
  rw [hx] at h
  cases h
  refine ⟨_, rfl, ?_⟩
  replace hI : Inv S w0 w2 (Row 0 54 1 A gs.length c1 vs :: parE p g sgs c i3 :: sgE g sgs :: (L ++ (M ++ H))) := (hI2.perm ((((List.perm_append_comm_assoc M [_] (L ++ H)).trans ((List.perm_append_comm_assoc M L H).cons _)).cons _).cons _)).sw1.sw0
  clear hI2
  refine Vv rfl (Vg rfl (Vg rfl (Th rfl (Vf rfl (WL_nil ?_)))))
  have hi23 := drop_lt hi3 hi2 (by omega)
  have hMv := hM.val
  obtain ⟨Tv, bv, rfl⟩ := hMv
  refine W_seq (W_seq (W_region (T3 rfl (Tc rfl Tryz.underlying29 rfl (WL_nil (W_cond false rfl (W_skip (W_seq (W_region (Ve rfl (Vo rfl (Vy [(0, _)] [_] [.nilIface] [0] hI rfl Tryz.underlying150 (fun _ => by kernel_rfl) ?_))))))))))))
  clear hI; rintro b27 w - - hI
  refine Tq 16 .nilIface hI rfl Tryz.underlying150 rfl (by rfl) hI.lit0 (by rfl) (Nat.zero_le _) ?_
  clear hI; rintro A28 c28 w hA28 hc28 hI
  replace hI := hI.d0
  refine Vl rfl (WL_nil ?_)
  have e1 : (gs ++ [ge]).length = gs.length + 1 := by simp
  replace hI : Inv S w0 w (Row 0 54 1 A28 (gs.length + 1) c28 (vs ++ [.iface Tv (at0 bv)]) :: parE p g sgs c i3 :: sgE g sgs :: ((L ++ M) ++ H)) := by rw [List.append_assoc]; exact hI
  have hLM := hL.snoc hM
  obtain ⟨hcell, -, -⟩ := hP.cells hi3 (hI.d0)
  have hl := hP.len
  have hnc := hP.nc
  obtain ⟨n', rfl⟩ : ∃ n', mu = n' + 1 := ⟨mu - 1, by omega⟩
  rw [pS_succ, hx] at heq
  simp only at heq
  by_cases hsh : headT (T.drop i3) = tShut
  ·unfold parE at hI
   refine W_seq (W_seq (W_region (V7 rfl (Vb rfl (V5 0 rfl (V3 (.slice _ _ _) rfl (hI.c1 rfl) ?_))))))
   refine WL_val rfl rfl rfl (rIdx (sz := 2) (i := 0) rfl Tryz.underlying107 (by kernel_rfl) rfl rfl (by omega)) ?_
   refine Te rfl (V3 (.string _) rfl hcell ?_)
   refine WL_val rfl rfl rfl (by exact rStrEqT rfl rfl rfl (by assumption)) ?_
   refine WL_nil (W_cond true rfl (W_seq (W_region (V7 rfl (V6 [.pointer _] rfl Tryz.func57 rfl ?_)))))
   refine (ptake_any T sgs c i3 p g S w0 _ _ hP hi3 (hI.sw0.sw1)).mono ?_
   rintro e w3 ⟨rfl, i4, hi4, hd4, hI3⟩
   refine ⟨_, rfl, ?_⟩
   refine WL_nil (W_seq (W_region (Ve rfl (Vl rfl (Vf rfl (WL_nil ?_))))))
   refine W_ret ?_
   refine ret2 4 5 (.inr rfl) rfl (.inl ⟨gs ++ [ge], _, _, A28, c28, i4, ?_, by rw [e1]; rfl, hLM, by omega, hi4, ?_⟩)
   ·rw [heq, if_pos hsh, hd4]; rfl
   ·rw [e1]; exact hI3
  ·have hI' := hI
   unfold parE at hI
   refine W_seq (W_seq (W_region (V7 rfl (Vb rfl (V5 0 rfl (V3 (.slice _ _ _) rfl (hI.c1 rfl) ?_))))))
   refine WL_val rfl rfl rfl (rIdx (sz := 2) (i := 0) rfl Tryz.underlying107 (by kernel_rfl) rfl rfl (by omega)) ?_
   refine Te rfl (V3 (.string _) rfl hcell (Tw rfl ?_))
   refine WL_nil (W_cond false rfl (W_skip ?_))
   by_cases hcm : headT (T.drop i3) = tComma
   ·refine W_seq (W_region (V7 rfl (V6 [.pointer _, .string _] rfl Tryz.func34 rfl ?_)))
    refine (expect_any T sgs c i3 p g S w0 _ _ tComma hP hi3 (hI.sw0.sw1)).mono ?_
    rintro e w3 (⟨h, rfl, i4, hi4, hd4, hI3⟩ | ⟨h, -⟩)
    rotate_left
    ·exact absurd hcm h
    refine ⟨_, rfl, ?_⟩
    refine Vf rfl (WL_nil (W_seq (W_region (T3 rfl (Tc rfl Tryz.underlying29 rfl (WL_nil (W_cond false rfl (W_skip ?_))))))))
    refine ⟨n', by omega, n', gs ++ [ge], _, L ++ M, A28, c28, i4, rfl, hi4, ?_, ?_, hLM, ?_, ⟨rfl, rfl, by rw [e1]; rfl, trivial⟩, ?_⟩
    ·have : (T.drop i4).length ≤ (T.drop i3).length := by rw [hd4, List.length_tail]; omega
     simp only [List.length_drop] at this
     omega
    ·rw [hd4]
     have : (T.drop i3).tail.length ≤ (T.drop i3).length - 1 := by rw [List.length_tail]; omega
     omega
    ·rw [heq, if_neg hsh, if_pos hcm, hd4]
     cases pS (pG k) n' (T.drop i3).tail with
     | none => rfl
     | some x => simp
    ·rw [e1]; exact hI3.sw1.sw0
   ·refine W_seq (W_region (V7 rfl (V6 [.pointer _, .string _] rfl Tryz.func34 rfl ?_)))
    refine (expect_any T sgs c i3 p g S w0 _ _ tComma hP hi3 (hI.sw0.sw1)).mono ?_
    rintro e w3 (⟨h, -⟩ | ⟨h, ⟨U, u, rfl⟩, hI3⟩)
    ·exact absurd h hcm
    refine ⟨_, rfl, ?_⟩
    refine Vk rfl (WL_nil (W_seq (W_region (Vo rfl (Tf rfl Tryz.underlying29 rfl (WL_nil (W_cond true rfl (W_seq (W_region (Vo rfl (Vl rfl (Vk rfl (WL_nil ?_)))))))))))))
    refine W_ret ?_
    refine ret2 4 5 (.inr rfl) rfl (.inr ⟨?_, U, u, i3, rfl, hi3, hI3.sub ?_⟩)
    ·rw [heq, if_neg hsh, if_neg hcm]; rfl
    ·exact (((List.sublist_append_right ..).cons _).cons_cons _).cons_cons _
set_option maxHeartbeats 4000000 in
theorem gen_step (k : Nat) (hk : k < 20) (hGen : GenOk k) : GenOk (k + 1) := by
 intro d T sgs c i p g S w0 w H hd hP hi hI hG hS
 have hSev := several_any k (by omega) hGen
 obtain ⟨hcell, -, -⟩ := hP.cells hi hI
 have hl := hP.len
 have hnc := hP.nc
 rw [pG_succ]
 have hI' := hI
 have htk : ∀ (w : World), Inv S w0 w (parE p g sgs c i :: sgE g sgs :: H) → Calls Tryz.prog 57 #[at0 p] w fun e w' => e = .returned (strV (headT (T.drop i))) ∧ ∃ i', i' ≤ T.length ∧ T.drop i' = (T.drop i).tail ∧ Inv S w0 w' (parE p g sgs c i' :: sgE g sgs :: H) := fun w h => ptake_any T sgs c i p g S w0 w H hP hi h
 obtain ⟨t, ht⟩ : ∃ t, headT (T.drop i) = t := ⟨_, rfl⟩
 rw [ht] at hcell htk ⊢
 unfold ReadPost
 unfold parE at hI
 refine Vm Tryz.f33.ntmps Tryz.func33 rfl ?_
 refine W_seq (W_region (Vf rfl (Vf rfl (WL_nil (W_seq (W_seq (W_region (V0 rfl (Td rfl (WL_nil (W_cond false rfl (W_skip (W_seq ?_)))))))))))))
 refine W_seq (W_region (V7 rfl (Vb rfl (V5 0 rfl (V3 (.slice _ _ _) rfl (hI.c0 rfl) ?_)))))
 refine WL_val rfl rfl rfl (rIdx (sz := 2) (i := 0) rfl Tryz.underlying107 (by kernel_rfl) rfl rfl (by omega)) ?_
 refine Te rfl (V3 (.string _) rfl hcell (WL_nil (W_block ?_)))
 by_cases hr : t = tRead
 ·subst hr
  rw [if_pos rfl]
  refine W_seq (W_region (Ui rfl (V4 rfl (WL_nil (W_cond true rfl (W_seq (W_region (V7 rfl (V6 [.pointer _] rfl Tryz.func57 rfl ?_)))))))))
  refine (htk _ hI').mono ?_
  rintro e w1 ⟨rfl, i1, hi1, hd1, hI1⟩
  refine ⟨_, rfl, ?_⟩
  refine WL_nil ?_
  rw [← hd1]
  cases h1 : numT 0 7 (T.drop i1) with
  | none =>
   refine W_seq (W_region (V7 rfl (V6 [.pointer _, .int .i64 _, .int .i64 _] rfl Tryz.func58 rfl ?_)))
   refine (number_any T sgs c i1 p g S w0 _ H 0 7 hP hi1 hI1 hG hS).mono ?_
   rintro e w2 (⟨n, i2, hk, -, -, -⟩ | ⟨hk, ⟨U, u, rfl⟩, hIe⟩)
   ·rw [h1] at hk; cases hk
   refine ⟨_, rfl, ?_⟩
   refine Vv rfl (Vg rfl (Vg rfl (Va rfl (Vk rfl (WL_nil (W_seq (W_seq (W_region (Vo rfl (Tf rfl Tryz.underlying29 rfl (WL_nil (W_cond true rfl (W_seq ?_)))))))))))))
   refine W_region (Vo rfl (Vf rfl (Vk rfl (WL_nil ?_))))
   refine W_ret ?_
   exact ret2 4 5 (.inr rfl) rfl (.inr ⟨rfl, U, u, i1, rfl, hi1, hIe⟩)
  | some q1 =>
   obtain ⟨n, r1⟩ := q1
   refine W_seq (W_region (V7 rfl (V6 [.pointer _, .int .i64 _, .int .i64 _] rfl Tryz.func58 rfl ?_)))
   refine (number_any T sgs c i1 p g S w0 _ H 0 7 hP hi1 hI1 hG hS).mono ?_
   rintro e w2 (⟨n', i2, hk, rfl, hi2, hI2⟩ | ⟨hk, -⟩)
   rotate_left
   ·rw [h1] at hk; cases hk
   rw [h1] at hk
   cases hk
   refine ⟨_, rfl, ?_⟩
   refine Vv rfl (Vg rfl (Vg rfl (Va rfl (Vf rfl (WL_nil (W_seq (W_seq (W_region (T3 rfl (Tc rfl Tryz.underlying29 rfl (WL_nil (W_cond false rfl (W_skip ?_)))))))))))))
   have hI := hI2
   refine W_seq (W_region (V0 rfl (T6 [(0, .int .i64 _)] [_] rfl [.int .i64 0] [0] rfl (fun _ => by kernel_rfl) (T7 (.agg _) #[_] hI rfl ?_))))
   clear hI; rintro b39 w - - hI
   refine Vx rfl Tryz.underlying143 rfl (Vk rfl (Vf rfl (WL_nil ?_)))
   refine W_ret ?_
   exact ret2 4 5 (.inr rfl) rfl (.inl ⟨.rd n, _, _, i2, rfl, rfl, .rd (b := b39), hi2, hI.sw0.sw1⟩)
 rw [if_neg hr]
 by_cases hwr : t = tWrite
 ·subst hwr
  rw [if_pos rfl]
  refine W_seq (W_region (Tw rfl ?_))
  refine V4 rfl (WL_nil (W_cond false rfl (W_seq (W_region (Ui rfl (V4 rfl (WL_nil (W_cond true rfl (W_seq (W_region (V7 rfl (V6 [.pointer _] rfl Tryz.func57 rfl ?_))))))))))))
  refine (htk _ hI').mono ?_
  rintro e w1 ⟨rfl, i1, hi1, hd1, hI1⟩
  refine ⟨_, rfl, ?_⟩
  refine WL_nil ?_
  rw [← hd1]
  cases hpw : pW (T.drop i1) with
  | none =>
   refine W_seq (W_region (V7 rfl (V6 [.pointer _] rfl Tryz.func59 rfl ?_)))
   refine (pwrite_any T sgs c i1 p g S w0 _ H hP hi1 hI1 hG hS).mono ?_
   unfold ReadPost
   rintro e w2 (⟨ge, v, L, i2, hk, -⟩ | ⟨hk, U, u, i2, rfl, hi2, hI2⟩)
   ·rw [hpw] at hk; cases hk
   refine ⟨_, rfl, ?_⟩
   refine Vg rfl (Vg rfl (Vf rfl (Vk rfl (WL_nil ?_))))
   refine W_ret ?_
   exact ret2 4 5 (.inr rfl) rfl (.inr ⟨rfl, U, u, i2, rfl, hi2, hI2⟩)
  | some q =>
   obtain ⟨ge, r1⟩ := q
   refine W_seq (W_region (V7 rfl (V6 [.pointer _] rfl Tryz.func59 rfl ?_)))
   refine (pwrite_any T sgs c i1 p g S w0 _ H hP hi1 hI1 hG hS).mono ?_
   unfold ReadPost
   rintro e w2 (⟨ge', v, L, i2, hk, rfl, hR, hi2, hI2⟩ | ⟨hk, -⟩)
   rotate_left
   ·rw [hpw] at hk; cases hk
   rw [hpw] at hk
   cases hk
   obtain ⟨Tv, bv, rfl⟩ := hR.val
   refine ⟨_, rfl, ?_⟩
   refine Vg rfl (Vg rfl (Vk rfl (Vf rfl (WL_nil ?_))))
   refine W_ret ?_
   exact ret2 4 5 (.inr rfl) rfl (.inl ⟨ge, _, L, i2, rfl, rfl, hR, hi2, hI2⟩)
 rw [if_neg hwr]
 by_cases hli : t = tLimit
 ·subst hli
  rw [if_pos rfl]
  refine W_seq (W_region (Tw rfl ?_))
  refine V4 rfl (WL_nil (W_cond false rfl (W_seq (W_region (Tw rfl ?_)))))
  refine V4 rfl (WL_nil (W_cond false rfl (W_seq (W_region (Ui rfl (V4 rfl (WL_nil (W_cond true rfl (W_seq (W_region (V7 rfl (V6 [.pointer _] rfl Tryz.func57 rfl ?_))))))))))))
  refine (htk _ hI').mono ?_
  rintro e w1 ⟨rfl, i1, hi1, hd1, hI1⟩
  refine ⟨_, rfl, ?_⟩
  refine WL_nil ?_
  rw [← hd1]
  cases h1 : numT 0 1000 (T.drop i1) with
  | none =>
   refine W_seq (W_region (V7 rfl (V6 [.pointer _, .int .i64 _, .int .i64 _] rfl Tryz.func58 rfl ?_)))
   refine (number_any T sgs c i1 p g S w0 _ H 0 1000 hP hi1 hI1 hG hS).mono ?_
   rintro e w2 (⟨n, i2, hk, -, -, -⟩ | ⟨hk, ⟨U, u, rfl⟩, hIe⟩)
   ·rw [h1] at hk; cases hk
   refine ⟨_, rfl, ?_⟩
   refine Vv rfl (Vg rfl (Vg rfl (Va rfl (Vk rfl (WL_nil (W_seq (W_seq (W_region (Vo rfl (Tf rfl Tryz.underlying29 rfl (WL_nil (W_cond true rfl (W_seq ?_)))))))))))))
   refine W_region (Vo rfl (Vf rfl (Vk rfl (WL_nil ?_))))
   refine W_ret ?_
   exact ret2 4 5 (.inr rfl) rfl (.inr ⟨rfl, U, u, i1, rfl, hi1, hIe⟩)
  | some q1 =>
   obtain ⟨n, r1⟩ := q1
   refine W_seq (W_region (V7 rfl (V6 [.pointer _, .int .i64 _, .int .i64 _] rfl Tryz.func58 rfl ?_)))
   refine (number_any T sgs c i1 p g S w0 _ H 0 1000 hP hi1 hI1 hG hS).mono ?_
   rintro e w2 (⟨n', i2, hk, rfl, hi2, hI2⟩ | ⟨hk, -⟩)
   rotate_left
   ·rw [h1] at hk; cases hk
   rw [h1] at hk
   cases hk
   refine ⟨_, rfl, ?_⟩
   refine Vv rfl (Vg rfl (Vg rfl (Va rfl (Vf rfl (WL_nil ?_)))))
   have hnb := numT_pre h1
   obtain ⟨m, rfl⟩ : ∃ m : Nat, n = (m : Int) := ⟨n.toNat, by omega⟩
   simp only [Int.toNat_natCast]
   refine W_seq (W_seq (W_region (T3 rfl (Tc rfl Tryz.underlying29 rfl (WL_nil (W_cond false rfl (W_skip ?_)))))))
   cases hx : pG k (T.drop i2) with
   | none =>
    refine W_seq (W_region (V7 rfl (V0 rfl ?_)))
    refine WL_val rfl rfl rfl (by exact rAdd rfl rfl rfl (by omega)) ?_
    refine V6 [.pointer _, .int .i64 _] rfl Tryz.func33 rfl ?_
    refine (hGen (d + 1) T sgs c i2 p g S w0 _ H (by omega) hP hi2 hI2 hG hS).mono ?_
    unfold ReadPost
    rintro e w3 (⟨ge, v, L', i', h, -⟩ | ⟨-, U, u, i', rfl, hi', hI3⟩)
    ·rw [hx] at h; cases h
    refine ⟨_, rfl, ?_⟩
    refine Vv rfl (Vg rfl (Vg rfl (Vf rfl (Vk rfl (WL_nil (W_seq (W_seq (W_region (Vo rfl (Tf rfl Tryz.underlying29 rfl (WL_nil (W_cond true rfl (W_seq ?_)))))))))))))
    refine W_region (Vo rfl (Vf rfl (Vk rfl (WL_nil ?_))))
    refine W_ret ?_
    exact ret2 4 5 (.inr rfl) rfl (.inr ⟨rfl, U, u, i', rfl, hi', hI3⟩)
   | some q =>
    obtain ⟨ge, r⟩ := q
    refine W_seq (W_region (V7 rfl (V0 rfl ?_)))
    refine WL_val rfl rfl rfl (by exact rAdd rfl rfl rfl (by omega)) ?_
    refine V6 [.pointer _, .int .i64 _] rfl Tryz.func33 rfl ?_
    refine (hGen (d + 1) T sgs c i2 p g S w0 _ H (by omega) hP hi2 hI2 hG hS).mono ?_
    unfold ReadPost
    rintro e w3 (⟨ge', v, M, i3, h, rfl, hM, hi3, hI3⟩ | ⟨h, -⟩)
    rotate_left
    ·rw [hx] at h; cases h
    rw [hx] at h
    cases h
    obtain ⟨Tv, bv, rfl⟩ := hM.val
    refine ⟨_, rfl, ?_⟩
    refine Vv rfl (Vg rfl (Vg rfl (Vk rfl (Vf rfl (WL_nil (W_seq (W_seq (W_region (T3 rfl (Tc rfl Tryz.underlying29 rfl (WL_nil (W_cond false rfl (W_skip ?_)))))))))))))
    have hI := hI3
    refine W_seq (W_region (Vo rfl (V0 rfl (T6 [(0, _), (1, .int .i64 _)] [_, _] rfl [.nilIface, .int .i64 0] [0, 1] rfl (fun _ => by kernel_rfl) (T7 (.agg _) (#[_, _]) hI rfl ?_)))))
    clear hI; rintro b74 w - - hI
    refine Vx rfl Tryz.underlying147 rfl (Vk rfl (Vf rfl (WL_nil ?_)))
    refine W_ret ?_
    exact ret2 4 5 (.inr rfl) rfl (.inl ⟨.lim m ge, _, _, i3, rfl, rfl, .lim (b := b74) (by omega) hM, hi3, hI.sw0.sw1⟩)
 rw [if_neg hli]
 by_cases hmi : t = tMix
 ·subst hmi
  rw [if_pos rfl]
  refine W_seq (W_region (Tw rfl ?_))
  refine V4 rfl (WL_nil (W_cond false rfl (W_seq (W_region (Tw rfl ?_)))))
  refine V4 rfl (WL_nil (W_cond false rfl (W_seq (W_region (Tw rfl ?_)))))
  refine V4 rfl (WL_nil (W_cond false rfl (W_seq (W_seq (W_region (Ui rfl (V4 rfl (WL_nil (W_cond true rfl (W_skip (W_cond true rfl (W_seq (W_region ?_)))))))))))))
  refine V7 rfl (V6 [.pointer _] rfl Tryz.func57 rfl ?_)
  refine (htk _ hI').mono ?_
  rintro e w1 ⟨rfl, i1, hi1, hd1, hI1⟩
  refine ⟨_, rfl, ?_⟩
  refine U2 rfl (WL_nil ?_)
  rw [← hd1]
  cases hx : pV (pG k) (T.drop i1) with
  | none =>
   refine W_seq (W_region (V7 rfl (V0 rfl ?_)))
   refine WL_val rfl rfl rfl (by exact rAdd rfl rfl rfl (by omega)) ?_
   refine V6 [.pointer _, .int .i64 _] rfl Tryz.func60 rfl ?_
   refine (hSev (d + 1) T sgs c i1 p g S w0 _ H (by omega) hP hi1 hI1 hG hS).mono ?_
   unfold SevPost
   rintro e w2 (⟨gs, vs, L, A, c', i2, h, -⟩ | ⟨-, U, u, i2, rfl, hi2, hI2⟩)
   ·rw [hx] at h; cases h
   refine ⟨_, rfl, ?_⟩
   refine Vv rfl (Vg rfl (Vg rfl (Vl rfl (Vk rfl (WL_nil (W_seq (W_block (W_seq (W_region (Vo rfl (Tf rfl Tryz.underlying29 rfl (V4 rfl (WL_nil ?_)))))))))))))
   refine W_cond true rfl (W_seq (W_region (Vo rfl (Vf rfl (Vk rfl (WL_nil ?_))))))
   refine W_ret ?_
   exact ret2 4 5 (.inr rfl) rfl (.inr ⟨rfl, U, u, i2, rfl, hi2, hI2⟩)
  | some q =>
   obtain ⟨gs, r1⟩ := q
   refine W_seq (W_region (V7 rfl (V0 rfl ?_)))
   refine WL_val rfl rfl rfl (by exact rAdd rfl rfl rfl (by omega)) ?_
   refine V6 [.pointer _, .int .i64 _] rfl Tryz.func60 rfl ?_
   refine (hSev (d + 1) T sgs c i1 p g S w0 _ H (by omega) hP hi1 hI1 hG hS).mono ?_
   unfold SevPost
   rintro e w2 (⟨gs', vs, L, A, c', i2, h, rfl, hR, hgl, hi2, hI2⟩ | ⟨h, -⟩)
   rotate_left
   ·rw [hx] at h; cases h
   rw [hx] at h
   cases h
   refine ⟨_, rfl, ?_⟩
   refine Vv rfl (Vg rfl (Vg rfl (Vl rfl (Vf rfl (WL_nil (W_seq (W_block (W_seq (W_region (T3 rfl (Tc rfl Tryz.underlying29 rfl (V4 rfl (WL_nil ?_)))))))))))))
   refine W_cond false rfl ?_
   have hI := hI2
   refine W_seq (W_region (Vq rfl (Ui rfl (V4 rfl (WL_nil (W_cond true rfl (W_seq (W_region (Ve rfl (T6 [(0, .slice _ _ _)] [_] rfl [.slice none 0 0] [0] rfl (fun _ => by kernel_rfl) (T7 (.agg _) #[_] hI rfl ?_)))))))))))
   clear hI; rintro b97 w - - hI
   refine Vx rfl Tryz.underlying153 rfl (Vk rfl (Vf rfl (WL_nil ?_)))
   refine W_ret ?_
   exact ret2 4 5 (.inr rfl) rfl (.inl ⟨.mix gs, _, _, i2, rfl, rfl, .mix (b := b97) (by omega) hR, hi2, hI.sw0.sw1⟩)
 rw [if_neg hmi]
 by_cases hth : t = tThen
 ·subst hth
  rw [if_pos rfl]
  refine W_seq (W_region (Tw rfl ?_))
  refine V4 rfl (WL_nil (W_cond false rfl (W_seq (W_region (Tw rfl ?_)))))
  refine V4 rfl (WL_nil (W_cond false rfl (W_seq (W_region (Tw rfl ?_)))))
  refine V4 rfl (WL_nil (W_cond false rfl (W_seq (W_seq (W_region (Tw rfl ?_))))))
  refine V4 rfl (WL_nil (W_cond false rfl (W_region (Ui rfl (V4 rfl (WL_nil (W_cond true rfl (W_seq (W_region (V7 rfl (V6 [.pointer _] rfl Tryz.func57 rfl ?_)))))))))))
  refine (htk _ hI').mono ?_
  rintro e w1 ⟨rfl, i1, hi1, hd1, hI1⟩
  refine ⟨_, rfl, ?_⟩
  refine U2 rfl (WL_nil ?_)
  rw [← hd1]
  cases hx : pV (pG k) (T.drop i1) with
  | none =>
   refine W_seq (W_region (V7 rfl (V0 rfl ?_)))
   refine WL_val rfl rfl rfl (by exact rAdd rfl rfl rfl (by omega)) ?_
   refine V6 [.pointer _, .int .i64 _] rfl Tryz.func60 rfl ?_
   refine (hSev (d + 1) T sgs c i1 p g S w0 _ H (by omega) hP hi1 hI1 hG hS).mono ?_
   unfold SevPost
   rintro e w2 (⟨gs, vs, L, A, c', i2, h, -⟩ | ⟨-, U, u, i2, rfl, hi2, hI2⟩)
   ·rw [hx] at h; cases h
   refine ⟨_, rfl, ?_⟩
   refine Vv rfl (Vg rfl (Vg rfl (Vl rfl (Vk rfl (WL_nil (W_seq (W_block (W_seq (W_region (Vo rfl (Tf rfl Tryz.underlying29 rfl (V4 rfl (WL_nil ?_)))))))))))))
   refine W_cond true rfl (W_seq (W_region (Vo rfl (Vf rfl (Vk rfl (WL_nil ?_))))))
   refine W_ret ?_
   exact ret2 4 5 (.inr rfl) rfl (.inr ⟨rfl, U, u, i2, rfl, hi2, hI2⟩)
  | some q =>
   obtain ⟨gs, r1⟩ := q
   refine W_seq (W_region (V7 rfl (V0 rfl ?_)))
   refine WL_val rfl rfl rfl (by exact rAdd rfl rfl rfl (by omega)) ?_
   refine V6 [.pointer _, .int .i64 _] rfl Tryz.func60 rfl ?_
   refine (hSev (d + 1) T sgs c i1 p g S w0 _ H (by omega) hP hi1 hI1 hG hS).mono ?_
   unfold SevPost
   rintro e w2 (⟨gs', vs, L, A, c', i2, h, rfl, hR, hgl, hi2, hI2⟩ | ⟨h, -⟩)
   rotate_left
   ·rw [hx] at h; cases h
   rw [hx] at h
   cases h
   refine ⟨_, rfl, ?_⟩
   refine Vv rfl (Vg rfl (Vg rfl (Vl rfl (Vf rfl (WL_nil (W_seq (W_block (W_seq (W_region (T3 rfl (Tc rfl Tryz.underlying29 rfl (V4 rfl (WL_nil ?_)))))))))))))
   refine W_cond false rfl ?_
   have hI : Inv S w0 w2 (parE p g sgs c i2 :: sgE g sgs :: Win 54 1 A gs.length c' vs :: (L ++ H)) := ((hI2.pull 2 rfl).winOf).back 2
   refine W_seq (W_region (Vq rfl (Tw rfl ?_)))
   refine V4 rfl (WL_nil (W_cond false rfl (W_skip (W_seq (W_region (Ve rfl (T6 [(0, .slice _ _ _)] [_] rfl [.slice none 0 0] [0] rfl (fun _ => by kernel_rfl) (T7 (.agg _) #[_] hI rfl ?_))))))))
   clear hI; rintro b101 w - - hI
   refine Vx rfl Tryz.underlying156 rfl (Vk rfl (Vf rfl (WL_nil ?_)))
   refine W_ret ?_
   exact ret2 4 5 (.inr rfl) rfl (.inl ⟨.thn gs, _, _, i2, rfl, rfl, .thn (b := b101) (by omega) hR, hi2, hI.sw0.sw1⟩)
 rw [if_neg hth]
 refine W_seq (W_region (Tw rfl ?_))
 refine V4 rfl (WL_nil (W_cond false rfl (W_seq (W_region (Tw rfl ?_)))))
 refine V4 rfl (WL_nil (W_cond false rfl (W_seq (W_region (Tw rfl ?_)))))
 refine V4 rfl (WL_nil (W_cond false rfl (W_seq (W_seq (W_region (Tw rfl ?_))))))
 refine V4 rfl (WL_nil (W_cond false rfl (W_region (Tw rfl ?_))))
 refine V4 rfl (WL_nil (W_cond false rfl (W_skip (W_seq (W_region (V7 rfl (V6 [.pointer _, .int .i64 _] rfl Tryz.func56 rfl ?_)))))))
 refine (wrong_any T sgs c i p g S w0 _ H 3 hP hi hI').mono ?_
 rintro e w1 ⟨⟨U, u, rfl⟩, hI1⟩
 refine ⟨_, rfl, ?_⟩
 refine Vf rfl (Vk rfl (WL_nil ?_))
 refine W_ret ?_
 exact ret2 4 5 (.inr rfl) rfl (.inr ⟨rfl, U, u, i, rfl, hi, hI1⟩)
set_option maxHeartbeats 1000000 in
theorem gen_zero : GenOk 0 := by
 intro d T sgs c i p g S w0 w H hd hP hi hI hG hS
 unfold ReadPost
 refine Vm Tryz.f33.ntmps Tryz.func33 rfl ?_
 refine W_seq (W_region (Vf rfl (Vf rfl (WL_nil (W_seq (W_seq (W_region (V0 rfl (Ts rfl (WL_nil (W_cond true rfl (W_seq (W_region ?_)))))))))))))
 refine V7 rfl (V6 [.pointer _, .int .i64 _] rfl Tryz.func56 rfl ?_)
 refine (wrong_any T sgs c i p g S w0 _ H 4 hP hi hI).mono ?_
 rintro e w1 ⟨⟨U, u, rfl⟩, hI1⟩
 refine ⟨_, rfl, ?_⟩
 refine Vf rfl (Vk rfl (WL_nil ?_))
 refine W_ret ?_
 exact ret2 4 5 (.inr rfl) rfl (.inr ⟨rfl, U, u, i, rfl, hi, hI1⟩)
theorem gen_any : ∀ (k : Nat), k ≤ 20 → GenOk k
 | 0, _ => gen_zero
 | k + 1, h => gen_step k h (gen_any k (by omega))
def parsedT (bs : List UInt8) : Option Ge := if bs.length ≤ 2000 then parsed bs else none
theorem sgE_of {S : Nat → Prop} {w0 w : World} {H : List Ent} {A : Option Addr} {n c : Nat} {out : List Sg} (hI : Inv S w0 w (Row 0 138 2 A n c (out.flatMap sgL) :: H)) (hn : 0 < n) : ∃ g, A = some ⟨g, 0, none⟩ ∧ n ≤ c ∧ c ≤ 9223372036854775807 ∧ Inv S w0 w (sgE g out :: H) := by
 have h1 : w.ownsRow 0 138 2 (.slice A n c) n (out.flatMap sgL) := (hI.ok _ (List.mem_cons_self ..)).1
 rcases h1.2 with ⟨hv, h0⟩ | ⟨g, cap, cur, hv, hb, hh, hnc, hcm, hcs, htake⟩
 ·omega
 ·injection hv with q1 q2 q3
  subst q1 q3
  have hB : Blk w g 138 cur := hh
  have hP : ∀ j u, (out.flatMap sgL)[j]? = some u → cur[j]? = some u := fun j u hj => by
   rw [← htake, List.getElem?_take] at hj
   split at hj
   ·rwa [Array.getElem?_toList] at hj
   ·cases hj
  refine ⟨g, rfl, hnc, hcm, hI.u0 (e' := sgE g out) (Chg.refl _ _) (Ent.mk_ok ⟨_, cur, hB, hP⟩ (fun k hk => ?_) (fun S w1 w2 hc hS h1 => ?_)) (fun k hk => .inl ?_)⟩
  ·have : k = g := hk
   subst this
   exact hB.lt
  ·obtain ⟨T, cur', hb', hc'⟩ := h1
   exact ⟨T, cur', Blk.chg hb' hc (hS g rfl), hc'⟩
  ·have : k = g := hk
   subst this
   rfl
theorem parsed_some {bs : List UInt8} {g : Ge} {r : List Tok} (h : pG 20 (toks bs) = some (g, r)) : parsed bs = if r = [] then some g else none := by
 unfold parsed
 rw [h]
 cases r with
 | nil => rfl
 | cons a r => rfl
theorem parsed_none {bs : List UInt8} (h : pG 20 (toks bs) = none) : parsed bs = none := by
 unfold parsed
 rw [h]
set_option maxHeartbeats 2000000 in
theorem parse_any (bs : List UInt8) (w0 : World) (hG : NumG w0) (hb : bs.length ≤ 9000000000000000000) :
  Calls Tryz.prog 13 #[strV bs] w0 fun e w' => (∃ g v L, parsedT bs = some g ∧ e = .returned (.tuple #[v, .nilIface]) ∧ Rep g v L ∧ Inv (fun _ => False) w0 w' L) ∨
   (parsedT bs = none ∧ (∃ U u, e = .returned (.tuple #[.nilIface, .iface U u])) ∧ Pure w0 w') := by
 have hI := Inv.start (fun _ => False) w0
 unfold parsedT
 refine Vm Tryz.f13.ntmps Tryz.func13 rfl ?_
 refine W_seq (W_region (Vf rfl (Vf rfl (WL_nil ?_))))
 by_cases hl : bs.length ≤ 2000
 rotate_left
 ·refine W_seq (W_seq (W_region (Vq rfl (Tp rfl Tryz.underlying9 rfl (Ts rfl (WL_nil (W_cond true rfl (W_seq (W_region (Vx rfl Tryz.underlying49 rfl (Vf rfl (Vk rfl (WL_nil ?_)))))))))))))
  refine W_ret ?_
  exact ret2 2 3 (.inr rfl) rfl (.inr ⟨if_neg hl, ⟨_, _, rfl⟩, hI.pu⟩)
 rw [if_pos hl]
 refine W_seq (W_seq (W_region (Vq rfl (Tp rfl Tryz.underlying9 rfl (Td rfl (WL_nil (W_cond false rfl (W_skip (W_seq (W_region (Vq rfl (V6 [.string _] rfl Tryz.func32 rfl ?_))))))))))))
 refine (signs_any bs _ (by omega)).mono ?_
 rintro e w1 ⟨A, c, out, rfl, hout, hJ⟩
 refine ⟨_, rfl, ?_⟩
 replace hI := hI.app1 hJ
 have hlen : out.length = (toks bs).length + 1 := by
  have := congrArg List.length hout
  simpa using this
 obtain ⟨g, rfl, hnc, hc63, hI⟩ := sgE_of hI (by omega)
 have hP : Ptx (toks bs) out c := ⟨hout, tg_ne bs [], hnc, hc63, by have := toks_len bs; omega, fun t ht => by have := toks_tok bs t ht; omega⟩
 refine T6 [(0, .slice _ _ _)] [_] rfl [.slice none 0 0] [0] rfl (fun _ => by kernel_rfl) (T7 (.agg _) #[_] hI rfl ?_)
 clear hI; rintro b14 w - - hI
 refine U4 rfl (WL_nil ?_)
 have hI0 : Inv (fun _ => False) w0 w (parE b14 g out c 0 :: sgE g out :: []) := hI
 have hge := gen_any 20 (by omega) 0 (toks bs) out c 0 b14 g (fun _ => False) w0 w [] rfl hP (Nat.zero_le _) hI0 hG NoG.none
 rw [List.drop_zero] at hge
 unfold ReadPost at hge
 cases hx : pG 20 (toks bs) with
 | none =>
  rw [hx] at hge
  refine W_seq (W_region (V7 rfl (V6 [.pointer _, .int .i64 _] rfl Tryz.func33 rfl ?_)))
  refine hge.mono ?_
  rintro e w2 (⟨ge, v, L, i', h, -⟩ | ⟨-, U, u, i', rfl, hi', hI2⟩)
  ·cases h
  refine ⟨_, rfl, ?_⟩
  refine Vv rfl (Vg rfl (Vg rfl (Vf rfl (Vk rfl (WL_nil (W_seq (W_seq (W_region (Vo rfl ?_)))))))))
  refine WL_val rfl rfl rfl (by exact rIfaceEq rfl Tryz.underlying29 rfl rfl) ?_
  refine WL_nil (W_cond false rfl (W_skip (W_seq (W_seq (W_region (Vo rfl (Tf rfl Tryz.underlying29 rfl (WL_nil (W_cond true rfl (W_seq (W_region (Vo rfl (Vf rfl ?_)))))))))))))
  refine Vk rfl (WL_nil ?_)
  refine W_ret ?_
  exact ret2 2 3 (.inr rfl) rfl (.inr ⟨parsed_none hx, ⟨U, u, rfl⟩, hI2.pu⟩)
 | some q =>
  obtain ⟨ge, r⟩ := q
  rw [parsed_some hx]
  rw [hx] at hge
  refine W_seq (W_region (V7 rfl (V6 [.pointer _, .int .i64 _] rfl Tryz.func33 rfl ?_)))
  refine hge.mono ?_
  rintro e w2 (⟨ge', v, L, i', h, rfl, hR, hi', hI2⟩ | ⟨h, -⟩)
  rotate_left
  ·cases h
  cases h
  obtain ⟨Tv, bv, rfl⟩ := hR.val
  refine ⟨_, rfl, ?_⟩
  refine Vv rfl (Vg rfl (Vg rfl (Vk rfl (Vf rfl (WL_nil (W_seq (W_seq (W_region (T3 rfl ?_)))))))))
  refine WL_val rfl rfl rfl (by exact rNilEq rfl Tryz.underlying29 rfl) ?_
  refine WL_nil (W_cond true rfl ?_)
  by_cases hr : (toks bs).drop i' = []
  ·rw [if_pos hr]
   refine W_region (V7 rfl (V6 [.pointer _, .string _] rfl Tryz.func34 rfl ?_))
   refine (expect_any (toks bs) out c i' b14 g _ w0 _ _ [] hP hi' hI2).mono ?_
   rintro e w3 (⟨h, rfl, i4, hi4, hd4, hI3⟩ | ⟨h, -⟩)
   rotate_left
   ·exact absurd (by rw [hr]; rfl) h
   refine ⟨_, rfl, ?_⟩
   refine Vf rfl (WL_nil (W_seq (W_seq (W_region (T3 rfl (Tc rfl Tryz.underlying29 rfl (WL_nil (W_cond false rfl (W_skip (W_seq (W_region (Vo rfl (Vk rfl ?_)))))))))))))
   refine Vf rfl (WL_nil ?_)
   refine W_ret ?_
   exact ret2 2 3 (.inr rfl) rfl (.inl ⟨ge, _, L, rfl, rfl, hR, by have := hI3.d0.d0; rwa [List.append_nil] at this⟩)
  ·rw [if_neg hr]
   have hne : headT ((toks bs).drop i') ≠ [] := by
    have hlt : i' < (toks bs).length := Nat.lt_of_not_le fun hn => hr (List.drop_of_length_le hn)
    rw [List.drop_eq_getElem_cons hlt]
    exact hP.ne _ (List.getElem_mem hlt)
   refine W_region (V7 rfl (V6 [.pointer _, .string _] rfl Tryz.func34 rfl ?_))
   refine (expect_any (toks bs) out c i' b14 g _ w0 _ _ [] hP hi' hI2).mono ?_
   rintro e w3 (⟨h, -⟩ | ⟨h, ⟨U, u, rfl⟩, hI3⟩)
   ·exact absurd h hne
   refine ⟨_, rfl, ?_⟩
   refine Vk rfl (WL_nil (W_seq (W_seq (W_region (Vo rfl (Tf rfl Tryz.underlying29 rfl (WL_nil (W_cond true rfl (W_seq (W_region (Vo rfl (Vf rfl (Vk rfl ?_)))))))))))))
   refine WL_nil ?_
   refine W_ret ?_
   exact ret2 2 3 (.inr rfl) rfl (.inr ⟨rfl, ⟨U, u, rfl⟩, hI3.pu⟩)
end Go.Proofs.YthndpiopbdecfaaGreatDoor
namespace Go.Proofs.YthndpiopbdecfaaGreatDoor
set_option linter.unusedVariables false
set_option linter.unusedSimpArgs false
/-- Which calls an object has. -/
def knowsF (o k : Int) : Bool := (o == 1 && (k == 1 || k == 2 || k == 3)) || (o == 2 && (k == 4 || k == 5)) || (o == 3 && (k == 6 || k == 7 || k == 8)) || (o == 4 && (k == 9 || k == 10)) || (o == 5 && (k == 9 || k == 10)) || (o == 6 && (k == 11 || k == 12))
def singleF (o : Int) : Bool := o == 1 || o == 2 || o == 6
def startF (o : Int) : List Int := if singleF o then [0] else []
def oneF (b : Bool) : Int := if b then 1 else 0
def posF (l : List Int) (a : Int) : Nat := (l.filter (· < a)).length
def insF (l : List Int) (a : Int) : List Int := l.take (posF l a) ++ a :: l.drop (posF l a)
def delF (l : List Int) (a : Int) : List Int := l.take (posF l a) ++ l.drop (posF l a + 1)
def regF (n k a b : Int) : Int × Int := if k = 1 then (n, n) else if k = 2 then (a, 0) else if n = a then (b, 1) else (n, 0)
def setF (l : List Int) (k a : Int) : List Int × Int := if k = 6 ∧ a ∉ l then (insF l a, 1) else if k = 7 ∧ a ∈ l then (delF l a, 1) else (l, oneF (decide (k = 8 ∧ a ∈ l)))
def lineF (o : Int) (l : List Int) (k a : Int) : List Int × Int := if k = 9 then (l ++ [a], 0) else if l = [] then (l, -1) else if o = 4 then (l.drop 1, l.getD 0 0) else (l.take (l.length - 1), l.getD (l.length - 1) 0)
/-- What a call makes of a state, and what it tells; none: it may not be. -/
def stepF (o : Int) (st : List Int) (k a b : Int) : Option (List Int × Int) :=
 if knowsF o k = false ∨ (singleF o = true ∧ st.length ≠ 1) then none else
 if o = 1 then some ([(regF (st.getD 0 0) k a b).1], (regF (st.getD 0 0) k a b).2) else
 if o = 2 then some ([if k = 4 then IntKind.i64.wrap (st.getD 0 0 + a) else st.getD 0 0], if k = 4 then IntKind.i64.wrap (st.getD 0 0 + a) else st.getD 0 0) else
 if o = 3 then some (setF st k a) else
 if o = 6 then (if st.getD 0 0 = oneF (k == 12) then some ([oneF (k == 11)], 0) else none) else
 some (lineF o st k a)
/-- A state that can be: a set is in order. -/
def okSt (o : Int) (st : List Int) : Prop := o = 3 → st.Pairwise (· < ·)
theorem okSt_start (o : Int) : okSt o (startF o) := by
 intro h
 subst h
 simp [startF, singleF]
theorem posF_le (l : List Int) (a : Int) : posF l a ≤ l.length := List.length_filter_le ..
theorem posF_split : ∀ (l : List Int) (a : Int), l.Pairwise (· < ·) → (∀ x ∈ l.take (posF l a), x < a) ∧ (∀ x ∈ l.drop (posF l a), a ≤ x)
 | [], a, _ => by simp
 | x :: l, a, h => by
  have hp := List.pairwise_cons.1 h
  by_cases hx : x < a
  ·have e : posF (x :: l) a = posF l a + 1 := by simp [posF, hx]
   obtain ⟨h1, h2⟩ := posF_split l a hp.2
   rw [e, List.take_succ_cons, List.drop_succ_cons]
   refine ⟨fun y hy => ?_, h2⟩
   rcases List.mem_cons.1 hy with rfl | hy
   ·exact hx
   ·exact h1 y hy
  ·have e : posF (x :: l) a = 0 := by
    unfold posF
    rw [List.length_eq_zero_iff, List.filter_eq_nil_iff]
    intro y hy
    rcases List.mem_cons.1 hy with rfl | hy
    ·simpa using hx
    ·have := hp.1 y hy
     simp; omega
   rw [e, List.take_zero, List.drop_zero]
   refine ⟨fun y hy => by simp at hy, fun y hy => ?_⟩
   rcases List.mem_cons.1 hy with rfl | hy
   ·omega
   ·have := hp.1 y hy; omega
theorem insF_sorted {l : List Int} {a : Int} (h : l.Pairwise (· < ·)) (hn : a ∉ l) : (insF l a).Pairwise (· < ·) := by
 obtain ⟨h1, h2⟩ := posF_split l a h
 unfold insF
 have hs : (l.take (posF l a) ++ l.drop (posF l a)).Pairwise (· < ·) := by rw [List.take_append_drop]; exact h
 obtain ⟨p1, p2, p3⟩ := List.pairwise_append.1 hs
 refine List.pairwise_append.2 ⟨p1, List.pairwise_cons.2 ⟨fun x hx => ?_, p2⟩, fun x hx y hy => ?_⟩
 ·have e1 := h2 x hx
  have e2 : a ≠ x := fun e => hn (e ▸ List.mem_of_mem_drop hx)
  omega
 ·rcases List.mem_cons.1 hy with rfl | hy
  ·exact h1 x hx
  ·exact p3 x hx y hy
theorem delF_sorted {l : List Int} {a : Int} (h : l.Pairwise (· < ·)) : (delF l a).Pairwise (· < ·) := by
 unfold delF
 have : (l.take (posF l a) ++ l.drop (posF l a + 1)).Sublist l := by
  have e : l = l.take (posF l a) ++ l.drop (posF l a) := (List.take_append_drop ..).symm
  have hs : (l.drop (posF l a + 1)).Sublist (l.drop (posF l a)) := by
   rw [← List.drop_drop]
   exact List.drop_sublist ..
  conv => rhs; rw [e]
  exact (List.Sublist.refl _).append hs
 exact h.sublist this
theorem stepF_ok {o : Int} {st st' : List Int} {k a b r : Int} (h : stepF o st k a b = some (st', r)) (hs : okSt o st) : okSt o st' := by
 intro ho
 subst ho
 have hst := hs rfl
 unfold stepF at h
 simp [singleF] at h
 obtain ⟨_, h⟩ := h
 unfold setF at h
 split at h
 ·rename_i hk
  injection h with h1 _
  subst h1
  exact insF_sorted hst hk.2
 ·split at h
  ·injection h with h1 _
   subst h1
   exact delF_sorted hst
  ·injection h with h1 _
   subst h1
   exact hst
structure Op8 where
 proc : Int
 key : Int
 kind : Int
 a : Int
 b : Int
 res : Int
 call : Int
 ret : Int
deriving DecidableEq
def opV (o : Op8) : List Value := [.int .i64 o.proc, .int .i64 o.key, .int .i64 o.kind, .int .i64 o.a, .int .i64 o.b, .int .i64 o.res, .int .i64 o.call, .int .i64 o.ret]
def oAt (l : List Op8) (k : Nat) : Op8 := l.getD k ⟨0, 0, 0, 0, 0, 0, 0, 0⟩
abbrev Sts8 := Nat → Option (List Int)
def updS (g : Sts8) (k : Nat) (st : List Int) : Sts8 := fun j => if j = k then some st else g j
/-- Ops done in an order: the place of the first one that isn't told what it would be, or -1. -/
def runTo (o : Int) (ops : List Op8) : List Int → Nat → Sts8 → Int
 | [], _, _ => -1
 | i :: r, p, g =>
  if i < 0 ∨ (ops.length : Int) ≤ i then (p : Int) else
  match stepF o ((g (oAt ops i.toNat).key.toNat).getD (startF o)) (oAt ops i.toNat).kind (oAt ops i.toNat).a (oAt ops i.toNat).b with
  | none => (p : Int)
  | some (st', res) => if 0 ≤ (oAt ops i.toNat).ret ∧ res ≠ (oAt ops i.toNat).res then (p : Int) else runTo o ops r (p + 1) (updS g (oAt ops i.toNat).key.toNat st')
def runF (o : Int) (ops : List Op8) (order : List Int) : Int := runTo o ops order 0 (fun _ => none)
theorem stepF_len {o : Int} {st st' : List Int} {k a b r : Int} (h : stepF o st k a b = some (st', r)) : st'.length ≤ st.length + 1 := by
 unfold stepF at h
 split at h
 ·cases h
 split at h
 ·injection h with h; injection h with h1 _; subst h1; simp
 split at h
 ·injection h with h; injection h with h1 _; subst h1; simp
 split at h
 ·injection h with h
  have h1 : (setF st k a).1 = st' := by rw [h]
  subst h1
  have := posF_le st a
  unfold setF
  split
  ·simp [insF]; omega
  ·split
   ·simp [delF]; omega
   ·simp
 split at h
 ·split at h
  ·injection h with h; injection h with h1 _; subst h1; simp
  ·cases h
 ·injection h with h
  have h1 : (lineF o st k a).1 = st' := by rw [h]
  subst h1
  unfold lineF
  split
  ·simp
  ·split
   ·simp
   ·split
    ·simp; omega
    ·simp; omega
theorem startF_len (o : Int) : (startF o).length ≤ 1 := by
 unfold startF
 split <;> simp
structure SeeS where
 ops : List Op8
 busy : Int → Option Nat
 lost : Int → Option Nat
 gone : List Bool
def updI (g : Int → Option Nat) (k : Int) (v : Option Nat) : Int → Option Nat := fun j => if j = k then v else g j
def newOp (e : Ev) (i : Nat) : Op8 := ⟨e.proc, e.key, e.kind, e.a, e.b, 0, i, -1⟩
def beginF (e : Ev) (i : Nat) (s : SeeS) : Option SeeS :=
 if s.busy e.proc ≠ none ∨ s.lost e.proc ≠ none then none else some ⟨s.ops ++ [newOp e i], updI s.busy e.proc (some s.ops.length), s.lost, s.gone ++ [false]⟩
def fitsOp (o : Op8) (e : Ev) : Prop := o.key = e.key ∧ o.kind = e.kind ∧ o.a = e.a ∧ o.b = e.b
instance (o : Op8) (e : Ev) : Decidable (fitsOp o e) := by unfold fitsOp; infer_instance
def endOp (o : Op8) (e : Ev) (i : Nat) : Op8 := { o with res := e.res, ret := i }
def endF (e : Ev) (i : Nat) (s : SeeS) : Option SeeS := match s.busy e.proc with
 | none => none
 | some n => if fitsOp (oAt s.ops n) e then some ⟨if e.ty = 2 then s.ops.set n (endOp (oAt s.ops n) e i) else s.ops, updI s.busy e.proc none, if e.ty = 4 then updI s.lost e.proc (some i) else s.lost, if e.ty = 3 then s.gone.set n true else s.gone⟩ else none
def stepE (e : Ev) (i : Nat) (s : SeeS) : Option SeeS := if evOkB e = true then (if e.ty = 1 then beginF e i s else endF e i s) else none
def runE : List Ev → Nat → SeeS → Option SeeS
 | [], _, s => some s
 | e :: r, i, s => (stepE e i s).bind (runE r (i + 1))
def initE : SeeS := ⟨[], fun _ => none, fun _ => none, []⟩
/-- The numbers of the ops that are told. -/
def keptF (s : SeeS) (k : Nat) : List Nat := (List.range k).filter fun n => !(s.gone.getD n false)
def outF (s : SeeS) : List Op8 := (keptF s s.ops.length).map (oAt s.ops)
def evF (l : List Ev) : Option (List Op8) := if l.length ≤ 120 then (runE l 0 initE).map outF else none
theorem keptF_succ (s : SeeS) (k : Nat) : keptF s (k + 1) = keptF s k ++ (if s.gone.getD k false = true then [] else [k]) := by
 unfold keptF
 rw [List.range_succ, List.filter_append]
 congr 1
 rw [List.filter_cons, List.filter_nil]
 cases s.gone.getD k false <;> rfl
theorem oAt_app_l {l r : List Op8} {k : Nat} (h : k < l.length) : oAt (l ++ r) k = oAt l k := by
 unfold oAt
 rw [List.getD_eq_getElem?_getD, List.getD_eq_getElem?_getD, List.getElem?_append_left h]
theorem oAt_app_r {l : List Op8} {x : Op8} : oAt (l ++ [x]) l.length = x := by
 unfold oAt
 rw [List.getD_eq_getElem?_getD, List.getElem?_append_right (Nat.le_refl _), Nat.sub_self]; rfl
theorem oAt_setE {l : List Op8} {k i : Nat} {x : Op8} (hk : k < l.length) : oAt (l.set k x) i = if k = i then x else oAt l i := by
 unfold oAt
 rw [List.getD_eq_getElem?_getD, List.getD_eq_getElem?_getD, List.getElem?_set]
 by_cases h : k = i
 ·subst h; simp [hk]
 ·rw [if_neg h, if_neg h]
end Go.Proofs.YthndpiopbdecfaaGreatDoor
namespace Go.Proofs.YthndpiopbdecfaaGreatDoor
open Go.RowKit
set_option linter.unusedVariables false
set_option linter.unusedSimpArgs false
def IsErr (v : Value) : Prop := ∃ u, v = .iface 49 (.int .i64 u)
theorem ein_any (n lo hi : Int) (w : World) : Calls Tryz.prog 46 #[.int .i64 n, .int .i64 lo, .int .i64 hi] w fun e w' => e = .returned (.bool (inB n lo hi)) ∧ w = w' := by
 have hI := Inv.start (fun _ => False) w
 refine Vm Tryz.f46.ntmps Tryz.func46 rfl ?_
 refine W_seq (W_region (V4 rfl (WL_nil ?_)))
 by_cases h : lo ≤ n
 ·refine W_seq (W_region (V0 rfl (V0 rfl (Tg rfl (V2 rfl (V0 rfl (V0 rfl ?_)))))))
  refine WL_val rfl rfl rfl (by exact rLeq rfl rfl rfl) ?_
  refine Vd rfl (V4 rfl (WL_nil ?_))
  refine W_ret ?_
  refine ret1 6 (.inr rfl) rfl ⟨?_, rfl⟩
  show Ending.returned (.bool (decide (n ≤ hi))) = _
  simp [inB, h]
 ·refine W_seq (W_region (V0 rfl (V0 rfl (To rfl (V2 rfl (V1 rfl (V1 rfl (V1 rfl (V8 rfl (V4 rfl (WL_nil ?_)))))))))))
  refine W_ret ?_
  refine ret1 6 (.inr rfl) rfl ⟨?_, rfl⟩
  show Ending.returned (.bool false) = _
  simp [inB, h]
set_option maxHeartbeats 1000000 in
theorem told_any (proc key : Int) (A : Option Addr) (n c : Nat) (l : List Int) (D : Nat → Prop) (w0 : World) (h : Ints w0 D (.slice A n c) l) (hl : l.length = n) (hn : n ≤ 1000) :
  Calls Tryz.prog 45 #[.int .i64 proc, .int .i64 key, .slice A n c] w0 fun e w' => e = .returned (.bool (toldB proc key l)) ∧ w0 = w' := by
 have hI := Inv.start (fun _ => False) w0
 refine Vm Tryz.f45.ntmps Tryz.func45 rfl ?_
 refine W_seq (W_region (V4 rfl (WL_nil (W_seq (W_seq (W_region (Ve rfl (Vs rfl Tryz.underlying26 rfl (V0 rfl (WL_nil (W_block ?_)))))))))))
 refine W_loop (fun ρ w => ∃ k : Nat, k ≤ n ∧ Has ρ [(11, .int .i64 k), (10, .int .i64 n), (9, .slice A n c), (0, .int .i64 proc), (1, .int .i64 key)] ∧ (∀ y ∈ l.take k, inB y (-1000000) 1000000 = true) ∧ w = w0) (fun ρ _ => n - cnt (ρ 11))
  ⟨0, by omega, ⟨rfl, rfl, rfl, rfl, rfl, trivial⟩, by simp, rfl⟩ ?_
 rintro ρ w ⟨k, hk, hH, hno, rfl⟩
 obtain ⟨σ, rfl⟩ := hH.open
 by_cases hkn : k < n
 ·obtain ⟨b, o, rfl, _, _, hc⟩ := h.get (k := k) (by omega)
  have hx : l[k]? = some l[k] := List.getElem?_eq_getElem (by omega)
  refine W_seq (W_region (Vp rfl (WL_nil (W_seq (W_cond true rfl (W_skip (W_seq (W_block (W_seq (W_region (Uf rfl Tryz.underlying26 rfl (V3 (.int .i64 _) rfl (hI.oldp hc) (Va rfl ?_)))))))))))))
  refine WL_nil (W_seq (W_region (V0 rfl (V6 [.int .i64 _, .int .i64 _, .int .i64 _] rfl Tryz.func46 rfl ?_))))
  refine (ein_any _ _ _ _).mono ?_
  rintro e w1 ⟨rfl, rfl⟩
  refine ⟨_, rfl, ?_⟩
  cases hb : inB l[k] (-1000000) 1000000 with
  | true =>
   refine T4 rfl (WL_nil (W_cond false rfl (W_skip (W_region (Vu rfl (V0 rfl (WL_nil ?_)))))))
   refine ⟨⟨k + 1, by omega, ⟨rfl, rfl, rfl, rfl, rfl, trivial⟩, fun y hy => ?_, rfl⟩, by show n - ((k + 1 : Nat) : Int).toNat < n - (k : Int).toNat; omega⟩
   rw [List.take_succ_eq_append_getElem (by omega)] at hy
   rcases List.mem_append.1 hy with hy | hy
   ·exact hno y hy
   ·rw [List.mem_singleton.1 hy]; exact hb
  | false =>
   refine Ta rfl (WL_nil (W_cond true rfl (W_seq (W_region (V4 rfl (WL_nil ?_))))))
   refine W_ret ?_
   refine ret1 6 (.inr rfl) rfl ⟨?_, rfl⟩
   have hf : (l.all fun n => inB n (-1000000) 1000000) = false := by
    rw [List.all_eq_false]
    exact ⟨l[k], List.getElem_mem _, by simp [hb]⟩
   show Ending.returned (.bool false) = _
   simp [toldB, hf]
 ·refine W_seq (W_region (Vn rfl (WL_nil (W_seq (W_cond false rfl ?_)))))
  refine W_exit ?_
  have hall : (l.all fun n => inB n (-1000000) 1000000) = true := by
   rw [List.take_of_length_le (by omega)] at hno
   exact List.all_eq_true.2 hno
  have ht : toldB proc key l = (inB proc 0 7 && inB key 0 7) := by simp [toldB, hall]
  rw [ht]
  refine W_seq (W_region (V0 rfl (V6 [.int .i64 _, .int .i64 _, .int .i64 _] rfl Tryz.func46 rfl ?_)))
  refine (ein_any _ _ _ _).mono ?_
  rintro e w1 ⟨rfl, rfl⟩
  refine ⟨_, rfl, ?_⟩
  cases hb : inB proc 0 7 with
  | true =>
   refine V2 rfl (V0 rfl (V6 [.int .i64 _, .int .i64 _, .int .i64 _] rfl Tryz.func46 rfl ?_))
   refine (ein_any _ _ _ _).mono ?_
   rintro e w1 ⟨rfl, rfl⟩
   refine ⟨_, rfl, ?_⟩
   refine Vd rfl (V4 rfl (WL_nil ?_))
   refine W_ret ?_
   exact ret1 6 (.inr rfl) rfl ⟨rfl, rfl⟩
  | false =>
   refine V2 rfl (V1 rfl (V1 rfl (V8 rfl (V4 rfl (WL_nil ?_)))))
   refine W_ret ?_
   exact ret1 6 (.inr rfl) rfl ⟨rfl, rfl⟩
theorem ints_lit {w : World} {g T n : Nat} {l : List Int} {cs : Array Value} (hb : Blk w g T cs) (h : cs.toList = l.map (Value.int .i64)) (hn : l.length = n) (hle : n ≤ 1000) : Ints w (fun k => k < w.heap.size) (.slice (some ⟨g, 0, none⟩) n n) l := by
 subst hn
 exact ⟨_, _, rfl, Nat.le_refl _, by omega, by simp, fun _ => ⟨g, 0, rfl, hb.lt, fun j u hj => by rw [Nat.zero_add, hb.cell]; rw [← h] at hj; simpa using hj⟩⟩
def CheckPost (w : World) (e : Ev) (en : Ending) (w' : World) : Prop := Pure w w' ∧ ((evOkB e = true ∧ en = .returned .nilIface) ∨ (evOkB e = false ∧ ∃ x, IsErr x ∧ en = .returned x))
set_option maxHeartbeats 1000000 in
theorem check_any (e : Ev) (w0 : World) : Calls Tryz.prog 20 #[.agg (evL e).toArray] w0 (CheckPost w0 e) := by
 obtain ⟨p, ty, ky, kd, a, b, r⟩ := e
 have hI := Inv.start (fun _ => False) w0
 refine Vm Tryz.f20.ntmps Tryz.func20 rfl ?_
 refine W_seq (W_region (T7 (.agg _) (#[_, _, _, _, _, _, _]) hI rfl ?_))
 clear hI; rintro b1 w - - hI
 refine Vf rfl (WL_nil (W_seq (W_block (W_seq (W_region (V5 0 rfl (V3 (.int .i64 _) rfl (hI.c0 rfl) (V5 2 rfl (V3 (.int .i64 _) rfl (hI.c0 rfl) (V5 4 rfl (V3 (.int .i64 _) rfl (hI.c0 rfl) (V5 5 rfl (V3 (.int .i64 _) rfl (hI.c0 rfl) ?_)))))))))))))
 refine V5 6 rfl (V3 (.int .i64 _) rfl (hI.c0 rfl) (Vy [(0, .int .i64 _), (1, .int .i64 _), (2, .int .i64 _)] [_, _, _] [.int .i64 0, .int .i64 0, .int .i64 0] [0, 1, 2] hI rfl Tryz.underlying26 (fun _ => by kernel_rfl) ?_))
 clear hI; rintro b14 w - - hI
 refine V6 [.int .i64 _, .int .i64 _, .slice _ _ _] rfl Tryz.func45 rfl ?_
 refine (told_any p ky _ 3 3 [a, b, r] (fun k => k < w.heap.size) _ (ints_lit hI.g0 rfl rfl (by omega)) rfl (by omega)).mono ?_
 rintro en w1 ⟨rfl, rfl⟩
 refine ⟨_, rfl, ?_⟩
 cases h1 : toldB p ky [a, b, r] with
 | false =>
  refine Ta rfl (V4 rfl (WL_nil (W_cond true rfl (W_seq (W_region (Vx rfl Tryz.underlying49 rfl (Vk rfl (WL_nil ?_))))))))
  refine W_ret ?_
  exact ret1 2 (.inr rfl) rfl ⟨hI.pu, .inr ⟨by simp [evOkB, h1], _, ⟨_, rfl⟩, rfl⟩⟩
 | true =>
  refine T4 rfl (V4 rfl (WL_nil (W_cond false rfl ?_)))
  refine W_seq_cut (fun ρ w => Has ρ [(18, .bool (!(inB ty 1 4 && inB kd 1 12 && !(!decide (r = 0) && !decide (ty = 2)))))] ∧ Inv (fun _ => False) w0 w []) ?_ ?_
  ·refine W_seq (W_region (V5 1 rfl (V3 (.int .i64 _) rfl (hI.c1 rfl) (V6 [.int .i64 _, .int .i64 _, .int .i64 _] rfl Tryz.func46 rfl ?_))))
   refine (ein_any _ _ _ _).mono ?_
   rintro en w1 ⟨rfl, rfl⟩
   refine ⟨_, rfl, ?_⟩
   cases h2 : inB ty 1 4 with
   | false =>
    refine Ta rfl (V2 rfl (V1 rfl (V1 rfl (V1 rfl (V1 rfl (Vd rfl (V4 rfl (WL_nil (W_cond true rfl (W_skip ?_))))))))))
    exact ⟨⟨rfl, trivial⟩, hI.d0.d0⟩
   | true =>
    refine T4 rfl (V2 rfl (V5 3 rfl (V3 (.int .i64 _) rfl (hI.c1 rfl) (V6 [.int .i64 _, .int .i64 _, .int .i64 _] rfl Tryz.func46 rfl ?_))))
    refine (ein_any _ _ _ _).mono ?_
    rintro en w1 ⟨rfl, rfl⟩
    refine ⟨_, rfl, ?_⟩
    cases h3 : inB kd 1 12 with
    | false =>
     refine Ta rfl (V8 rfl (V4 rfl (WL_nil (W_cond true rfl (W_skip ?_)))))
     exact ⟨⟨rfl, trivial⟩, hI.d0.d0⟩
    | true =>
     refine T4 rfl (V8 rfl (V4 rfl (WL_nil (W_cond false rfl ?_))))
     by_cases hr : r = 0
     ·refine W_region (V5 6 rfl (V3 (.int .i64 _) rfl (hI.c1 rfl) (U5 rfl (V2 rfl (V1 rfl (V1 rfl (V1 rfl (V8 rfl (V4 rfl (WL_nil ?_))))))))))
      refine ⟨⟨?_, trivial⟩, hI.d0.d0⟩
      show Value.bool false = _
      simp [hr]
     ·refine W_region (V5 6 rfl (V3 (.int .i64 _) rfl (hI.c1 rfl) (Tx rfl (V2 rfl (V5 1 rfl (V3 (.int .i64 _) rfl (hI.c1 rfl) ?_))))))
      refine WL_val rfl rfl rfl (by exact rNeq rfl rfl rfl) ?_
      refine Vd rfl (V4 rfl (WL_nil ?_))
      refine ⟨⟨?_, trivial⟩, hI.d0.d0⟩
      show Value.bool (!decide (ty = 2)) = _
      simp [hr]
  ·clear hI
   rintro ρ w ⟨hH, hI⟩
   obtain ⟨σ, rfl⟩ := hH.open
   have hall : evOkB ⟨p, ty, ky, kd, a, b, r⟩ = (inB ty 1 4 && inB kd 1 12 && !(!decide (r = 0) && !decide (ty = 2))) := by unfold evOkB; simp only [h1, Bool.true_and]
   cases hz : (inB ty 1 4 && inB kd 1 12 && !(!decide (r = 0) && !decide (ty = 2))) with
   | false =>
    refine W_cond true rfl (W_seq (W_region (Vx rfl Tryz.underlying49 rfl (Vk rfl (WL_nil ?_)))))
    refine W_ret ?_
    exact ret1 2 (.inr rfl) rfl ⟨hI.pu, .inr ⟨by rw [hall, hz], _, ⟨_, rfl⟩, rfl⟩⟩
   | true =>
    refine W_cond false rfl (W_skip (W_seq (W_region (Vf rfl (WL_nil ?_)))))
    refine W_ret ?_
    exact ret1 2 (.inr rfl) rfl ⟨hI.pu, .inl ⟨by rw [hall, hz], rfl⟩⟩
end Go.Proofs.YthndpiopbdecfaaGreatDoor
namespace Go.Proofs.YthndpiopbdecfaaGreatDoor
set_option linter.unusedVariables false
set_option linter.unusedSimpArgs false
/-- A digit of base 36. -/
def dig36 (d : Nat) : Nat := if d < 10 then 48 + d else 87 + d
def undig (c : Nat) : Nat := if c < 58 then c - 48 else c - 87
/-- The digits of a number, ahead of others. -/
def digs36 : Nat → Nat → List Nat → List Nat
 | 0, u, acc => dig36 (u % 36) :: acc
 | f + 1, u, acc => if u < 36 then dig36 u :: acc else digs36 f (u / 36) (dig36 (u % 36) :: acc)
def vfold (s : Nat) : List Nat → Nat
 | [] => s
 | c :: r => vfold (s * 36 + undig c) r
theorem undig_dig {d : Nat} (h : d < 36) : undig (dig36 d) = d := by
 unfold undig dig36
 split <;> split <;> omega
theorem vfold_digs : ∀ (f u : Nat) (acc : List Nat), u < 36 ^ (f + 1) → vfold 0 (digs36 f u acc) = vfold u acc
 | 0, u, acc, h => by
  have h1 : u < 36 := by simpa using h
  rw [digs36, Nat.mod_eq_of_lt h1, vfold, undig_dig h1, Nat.zero_mul, Nat.zero_add]
 | f + 1, u, acc, h => by
  rw [digs36]
  split
  ·rename_i h1
   rw [vfold, undig_dig h1, Nat.zero_mul, Nat.zero_add]
  ·have h2 : u / 36 < 36 ^ (f + 1) := by
    rw [Nat.div_lt_iff_lt_mul (by omega)]
    rw [Nat.pow_succ] at h
    exact h
   rw [vfold_digs f (u / 36) _ h2, vfold, undig_dig (Nat.mod_lt _ (by omega))]
   rw [show u / 36 * 36 + u % 36 = u by omega]
/-- A byte of a number's text. -/
def okC (c : Nat) : Prop := c ≠ 32 ∧ c ≠ 124 ∧ c < 256
theorem okC_dig {d : Nat} (h : d < 36) : okC (dig36 d) ∧ dig36 d ≠ 45 := by
 unfold okC dig36
 split <;> omega
theorem okC_digs : ∀ (f u : Nat) (acc : List Nat), (∀ c ∈ acc, okC c ∧ c ≠ 45) → ∀ c ∈ digs36 f u acc, okC c ∧ c ≠ 45
 | 0, u, acc, h => by
  intro c hc
  rcases List.mem_cons.1 hc with rfl | hc
  ·exact okC_dig (Nat.mod_lt _ (by omega))
  ·exact h c hc
 | f + 1, u, acc, h => by
  rw [digs36]
  split
  ·rename_i h1
   intro c hc
   rcases List.mem_cons.1 hc with rfl | hc
   ·exact okC_dig h1
   ·exact h c hc
  ·refine okC_digs f _ _ fun c hc => ?_
   rcases List.mem_cons.1 hc with rfl | hc
   ·exact okC_dig (Nat.mod_lt _ (by omega))
   ·exact h c hc
def dig (u : Nat) : List Nat := digs36 13 u []
def itoa36 (n : Int) : List Nat := if n < 0 then 45 :: dig n.natAbs else dig n.natAbs
theorem dig_inj {u v : Nat} (hu : u < 18446744073709551616) (hv : v < 18446744073709551616) (h : dig u = dig v) : u = v := by
 have h1 := vfold_digs 13 u [] (Nat.lt_of_lt_of_le hu (by decide))
 have h2 := vfold_digs 13 v [] (Nat.lt_of_lt_of_le hv (by decide))
 have h3 : digs36 13 u [] = digs36 13 v [] := h
 rw [h3, h2] at h1
 exact h1.symm
def i64B (n : Int) : Prop := -9223372036854775808 ≤ n ∧ n ≤ 9223372036854775807
theorem dig_ok (u : Nat) : ∀ c ∈ dig u, okC c ∧ c ≠ 45 := okC_digs 13 u [] (by simp)
theorem itoa_ok (n : Int) : ∀ c ∈ itoa36 n, okC c := by
 intro c hc
 unfold itoa36 at hc
 split at hc
 ·rcases List.mem_cons.1 hc with rfl | hc
  ·exact ⟨by decide, by decide, by decide⟩
  ·exact (dig_ok _ c hc).1
 ·exact (dig_ok _ c hc).1
theorem itoa_inj {m n : Int} (hm : i64B m) (hn : i64B n) (h : itoa36 m = itoa36 n) : m = n := by
 unfold i64B at hm hn
 unfold itoa36 at h
 split at h
 ·split at h
  ·injection h with _ h
   have := dig_inj (by omega) (by omega) h
   omega
  ·have := (dig_ok n.natAbs 45 (by rw [← h]; simp)).2
   exact absurd rfl this
 ·split at h
  ·have := (dig_ok m.natAbs 45 (by rw [h]; simp)).2
   exact absurd rfl this
  ·have := dig_inj (by omega) (by omega) h
   omega
/-- Two texts of numbers, each with a mark behind it. -/
theorem tok_split : ∀ (X X' Y Y' : List Nat), (∀ c ∈ X, okC c) → (∀ c ∈ X', okC c) → (∃ y r, Y = y :: r ∧ (y = 32 ∨ y = 124)) → (∃ y r, Y' = y :: r ∧ (y = 32 ∨ y = 124)) → X ++ Y = X' ++ Y' → X = X' ∧ Y = Y'
 | [], [], Y, Y', _, _, _, _, h => ⟨rfl, h⟩
 | [], c :: X', Y, Y', _, h2, ⟨y, r, e, hy⟩, _, h => by
  subst e
  simp only [List.nil_append, List.cons_append] at h
  injection h with h _
  have := h2 c (by simp)
  unfold okC at this
  omega
 | c :: X, [], Y, Y', h1, _, _, ⟨y, r, e, hy⟩, h => by
  subst e
  simp only [List.nil_append, List.cons_append] at h
  injection h with h _
  have := h1 c (by simp)
  unfold okC at this
  omega
 | c :: X, c' :: X', Y, Y', h1, h2, h3, h4, h => by
  simp only [List.cons_append] at h
  injection h with e h
  obtain ⟨e1, e2⟩ := tok_split X X' Y Y' (fun c hc => h1 c (by simp [hc])) (fun c hc => h2 c (by simp [hc])) h3 h4 h
  exact ⟨by rw [e, e1], e2⟩
def encL (l : List Int) : List Nat := l.flatMap (fun n => 32 :: itoa36 n) ++ [124]
theorem encL_cons (n : Int) (l : List Int) : encL (n :: l) = 32 :: itoa36 n ++ encL l := by simp [encL]
theorem encL_head (l : List Int) (r : List Nat) : ∃ y r', encL l ++ r = y :: r' ∧ (y = 32 ∨ y = 124) := by
 cases l with
 | nil => exact ⟨124, r, rfl, .inr rfl⟩
 | cons n l => exact ⟨32, itoa36 n ++ encL l ++ r, by rw [encL_cons]; rfl, .inl rfl⟩
theorem encL_inj : ∀ (l l' : List Int) (r r' : List Nat), (∀ n ∈ l, i64B n) → (∀ n ∈ l', i64B n) → encL l ++ r = encL l' ++ r' → l = l' ∧ r = r'
 | [], [], r, r', _, _, h => by
  simp [encL] at h
  exact ⟨rfl, h⟩
 | [], n :: l', r, r', _, _, h => by
  rw [encL_cons] at h
  simp [encL] at h
 | n :: l, [], r, r', _, _, h => by
  rw [encL_cons] at h
  simp [encL] at h
 | n :: l, n' :: l', r, r', h1, h2, h => by
  rw [encL_cons, encL_cons] at h
  simp only [List.cons_append, List.append_assoc] at h
  injection h with _ h
  obtain ⟨e1, e2⟩ := tok_split _ _ _ _ (itoa_ok n) (itoa_ok n') (encL_head l r) (encL_head l' r') h
  obtain ⟨e3, e4⟩ := encL_inj l l' r r' (fun c hc => h1 c (by simp [hc])) (fun c hc => h2 c (by simp [hc])) e2
  exact ⟨by rw [itoa_inj (h1 n (by simp)) (h2 n' (by simp)) e1, e3], e4⟩
def encS (sts : Nat → List Int) (ks : List Nat) : List Nat := ks.flatMap fun k => encL (sts k)
theorem encS_inj {sts sts' : Nat → List Int} (h1 : ∀ k, ∀ n ∈ sts k, i64B n) (h2 : ∀ k, ∀ n ∈ sts' k, i64B n) : ∀ ks : List Nat, encS sts ks = encS sts' ks → ∀ k ∈ ks, sts k = sts' k
 | [], _ => by simp
 | k :: ks, h => by
  have h : encL (sts k) ++ encS sts ks = encL (sts' k) ++ encS sts' ks := by simpa [encS] using h
  obtain ⟨e1, e2⟩ := encL_inj _ _ _ _ (h1 k) (h2 k) h
  intro j hj
  rcases List.mem_cons.1 hj with rfl | hj
  ·exact e1
  ·exact encS_inj h1 h2 ks e2 j hj
def bitF (b : Bool) : Nat := if b then 49 else 48
def keyF (n : Nat) (dn : Nat → Bool) (sts : Nat → List Int) : List Nat := (List.range n).map (fun i => bitF (dn i)) ++ encS sts (List.range 8)
theorem keyF_inj {n : Nat} {dn dn' : Nat → Bool} {sts sts' : Nat → List Int} (h1 : ∀ k, ∀ n ∈ sts k, i64B n) (h2 : ∀ k, ∀ n ∈ sts' k, i64B n) (h : keyF n dn sts = keyF n dn' sts') : (∀ i, i < n → dn i = dn' i) ∧ ∀ k, k < 8 → sts k = sts' k := by
 unfold keyF at h
 obtain ⟨e1, e2⟩ := List.append_inj h (by simp)
 refine ⟨fun i hi => ?_, fun k hk => encS_inj h1 h2 _ e2 k (List.mem_range.2 hk)⟩
 have := congrArg (fun l => l[i]?) e1
 simp [hi] at this
 unfold bitF at this
 cases hd : dn i <;> cases hd' : dn' i <;> simp [hd, hd'] at this ⊢
theorem encL_small (l : List Int) : ∀ c ∈ encL l, c < 256 := by
 intro c hc
 rcases List.mem_append.1 hc with hc | hc
 ·obtain ⟨n, _, hc⟩ := List.mem_flatMap.1 hc
  rcases List.mem_cons.1 hc with rfl | hc
  ·decide
  ·exact (itoa_ok n c hc).2.2
 ·have : c = 124 := by simpa using hc
  omega
theorem keyF_small (n : Nat) (dn : Nat → Bool) (sts : Nat → List Int) : ∀ c ∈ keyF n dn sts, c < 256 := by
 intro c hc
 rcases List.mem_append.1 hc with hc | hc
 ·obtain ⟨i, _, rfl⟩ := List.mem_map.1 hc
  unfold bitF
  split <;> decide
 ·obtain ⟨k, _, hc⟩ := List.mem_flatMap.1 hc
  exact encL_small _ c hc
def strB (l : List Nat) : ByteArray := ⟨(l.map UInt8.ofNat).toArray⟩
theorem strB_inj {l l' : List Nat} (h1 : ∀ c ∈ l, c < 256) (h2 : ∀ c ∈ l', c < 256) (h : strB l = strB l') : l = l' := by
 unfold strB at h
 injection h with h
 have h := congrArg Array.toList h
 simp only at h
 have g : ∀ l : List Nat, (∀ c ∈ l, c < 256) → (l.map UInt8.ofNat).map UInt8.toNat = l := by
  intro l hl
  rw [List.map_map]
  conv => rhs; rw [← List.map_id l]
  refine List.map_congr_left fun c hc => ?_
  simp [Function.comp]
  have := hl c hc
  omega
 rw [← g l h1, ← g l' h2, h]
end Go.Proofs.YthndpiopbdecfaaGreatDoor
namespace Go.Proofs.YthndpiopbdecfaaGreatDoor
open Go
set_option linter.unusedVariables false
set_option linter.unusedSimpArgs false
section
variable {P : Program} {N : Nat} {ops : Array Oper} {Q : XPost} {rest : List Oper} {ρ : Env} {o : Oper} {w0 w w' : World} {S : Nat → Prop} {H : List Ent} {d t : Nat} {x y z : Operand} {v : Value}
theorem rIdxStr {s : ByteArray} {i : Nat} {k : IntKind} {b : UInt8} {c : Int} (ho : o.op = .index t x y) (ht : P.underlying t = some .string) (hx : ev ρ x = .string s) (hy : ev ρ y = .int k (i : Int)) (hb : s[i]? = some b) (hc : (b.toNat : Int) = c) : Runs P ρ o w (.int .u8 c) := by
 subst hc
 simp [Runs, execOp, ho, hx, hy, Instr.index, asIntOf, run_underlying ht, hb]
theorem rIdxAg {n e i : Nat} {cs : Array Value} {k : IntKind} (ho : o.op = .index t x y) (ht : P.underlying t = some (.array n e)) (he : plainB P e = true) (hs : szB P e 1 = true) (hx : ev ρ x = .agg cs) (hy : ev ρ y = .int k (i : Int)) (hi : i < n) (hv : cs[i]? = some v) : Runs P ρ o w v := by
 have hi' : (i : Int) < (n : Int) := by omega
 simp [Runs, execOp, ho, hx, hy, Instr.index, asIntOf, run_underlying ht, run_size hs, hi, part, run_isAgg_plain he, hv]
theorem rSliceArr {n e g j i : Nat} {k : IntKind} (ho : o.op = .slice t x (some y) none none) (ht : P.underlying t = some (.array n e)) (hs : szB P e 1 = true) (hx : ev ρ x = .pointer (some ⟨g, j, none⟩)) (hy : ev ρ y = .int k (i : Int)) (hi : i < n) : Runs P ρ o w (.slice (some ⟨g, j + i, none⟩) (n - i) (n - i)) := by
 have h1 : ¬ n = i := by omega
 have h2 : (i : Int) ≤ (n : Int) := by omega
 have h3 : i ≤ n := by omega
 simp [Runs, execOp, ho, hx, hy, Instr.sliceAt, Instr.sureAddr, Instr.sliceBounds, Instr.sliceBound, asIntOf, run_underlying ht, run_size hs, h1, h3, Addr.add_lit]
theorem rBytesStr {s e : Nat} {A : Option Addr} {n c base : Nat} {l : List Nat} (ho : o.op = .convert s t x) (hs : P.underlying s = some (.slice e)) (he : P.underlying e = some (.int .u8)) (ht : P.underlying t = some .string) (hx : ev ρ x = .slice A n c) (hr : w.ownsRow base e 1 (.slice A n c) n (l.map fun b : Nat => Value.int .u8 (b : Int))) (hb : ∀ b ∈ l, b < 256) (h0 : 0 < n) : Runs P ρ o w (.string (strB l)) := by
 obtain ⟨g, o', rfl⟩ := row_addrS hr h0 (by omega)
 have hl : l.length = n := by have := hr.1; simpa using this
 have h := run_convert_bytes_back (P := P) w s t e ⟨g, o', none⟩ c (l.map UInt8.ofNat) hs he ht (fun j hj => by
  have hj' : j < l.length := by simpa using hj
  rw [Addr.add_lit]
  have h2 : ((l.map UInt8.ofNat)[j].toNat : Int) = (l[j] : Int) := by
   have := hb _ (List.getElem_mem hj')
   simp
   omega
  rw [h2]
  exact row_cellS hr (by simp [hj']) h0)
 have e1 : (l.map UInt8.ofNat).length = n := by simpa using hl
 rw [e1] at h
 simp [Runs, execOp, ho, hx, h, strB]
theorem WL_mkCap {e n by_ base : Nat} {zv : Value} (hI : Inv S w0 w H) (hw : wantedR ops ρ o = true) (hd : o.dst = some d) (hN : Nat.blt d N = true) (ho : o.op = .makeSlice t x y) (hx : ev ρ x = .int .i64 0) (hy : ev ρ y = .int .i64 (n : Int))
  (ht : P.underlying t = some (.slice e)) (hi : (P.info? e).map (fun i => (i.zero, i.size, i.bytes)) = some (some zv, 1, by_)) (hb : by_ * n ≤ 281474976710656) (h63 : n ≤ 9223372036854775807) (hbase : base ≤ w.heap.size)
  (h : ∀ g w', Pure w w' → g = w.heap.size → Inv S w0 w' (Row base e 1 (some ⟨g, 0, none⟩) 0 n [] :: H) → WL P N ops Q rest (upd ρ d (.slice (some ⟨g, 0, none⟩) 0 n)) w') : WL P N ops Q (o :: rest) ρ w := by
 cases hp : P.info? e with
 | none => simp [hp] at hi
 | some i =>
  simp only [hp, Option.map_some, Option.some.injEq, Prod.mk.injEq] at hi
  obtain ⟨h1, h2, h3⟩ := hi
  obtain ⟨w', hr, h4, h5⟩ := run_make_own (P := P) w base t e i zv 1 ht hp h1 h2 .i64 .i64 n (by rw [h3]; exact hb) (by simpa [maxLen] using h63) hbase
  have hpu : Pure w w' := (Pure.refl w).grown h5 (fun k hk => by cases hk)
  refine WL_eff hw hd hN (by simp [execOp, ho, hx, hy, hr]) (h _ _ hpu rfl (hI.fresh hpu (Row.ok h4) (fun k hk => ?_)))
  have : some w.heap.size = some k := hk
  injection this with this
  omega
end
/-! ### Maps whose keys are strings -/
theorem bytes_beq (a b : ByteArray) : (a == b) = decide (a = b) := by
 obtain ⟨a⟩ := a
 obtain ⟨b⟩ := b
 show ByteArray.beq _ _ = _
 unfold ByteArray.beq
 simp
 by_cases h : a = b
 ·subst h; simp
 ·simp [h]
theorem strB_beq {a b : List Nat} (ha : ∀ c ∈ a, c < 256) (hb : ∀ c ∈ b, c < 256) : (strB a == strB b) = decide (a = b) := by
 rw [bytes_beq]
 by_cases h : a = b
 ·subst h; simp
 ·simp only [h, decide_false, decide_eq_false_iff_not]
  exact fun e => h (strB_inj ha hb e)
def KsIs (es : List MapEntry) (ks : List (List Nat)) : Prop := es.map (fun e => (e.key, e.val)) = ks.map (fun k => (Value.string (strB k), Value.agg #[]))
theorem findNow_str {a : List Nat} (ha : ∀ c ∈ a, c < 256) : ∀ (es : List MapEntry) (ks : List (List Nat)) (i : Nat), KsIs es ks → (∀ k ∈ ks, ∀ c ∈ k, c < 256) →
  (a ∉ ks ∧ Instr.findNow .string (.string (strB a)) es i = some none) ∨ (a ∈ ks ∧ ∃ j, Instr.findNow .string (.string (strB a)) es i = some (some (j, .agg #[])))
 | [], [], i, _, _ => .inl ⟨by simp, rfl⟩
 | [], _ :: _, i, h, _ => by simp [KsIs] at h
 | _ :: _, [], i, h, _ => by simp [KsIs] at h
 | e :: es, k :: ks, i, h, hs => by
  simp only [KsIs, List.map_cons, List.cons.injEq, Prod.mk.injEq] at h
  obtain ⟨⟨h1, h2⟩, h3⟩ := h
  have hb := strB_beq ha (hs k (by simp))
  by_cases hk : a = k
  ·refine .inr ⟨by simp [hk], i, ?_⟩
   have : (strB a == strB k) = true := by rw [hb]; simp [hk]
   simp only [Instr.findNow, h1, Instr.sameNow, this, h2]
  ·have : (strB a == strB k) = false := by rw [hb]; simp [hk]
   rcases findNow_str ha es ks (i + 1) h3 (fun k hk => hs k (by simp [hk])) with ⟨g1, g2⟩ | ⟨g1, j, g2⟩
   ·refine .inl ⟨by simp [hk, g1], ?_⟩
    simp only [Instr.findNow, h1, Instr.sameNow, this]
    exact g2
   ·refine .inr ⟨by simp [g1], j, ?_⟩
    simp only [Instr.findNow, h1, Instr.sameNow, this]
    exact g2
structure SetIs (w : World) (b : Nat) (ks : List (List Nat)) : Prop where
 ex : ∃ (es : Array MapEntry) (clk : Nat), w.heap[b]? = some (.map es clk) ∧ KsIs es.toList ks
 small : ∀ k ∈ ks, ∀ c ∈ k, c < 256
def SetE (b : Nat) (ks : List (List Nat)) : Ent := ⟨fun k => k = b, fun w => SetIs w b ks⟩
theorem SetE.ok {w : World} {b : Nat} {ks : List (List Nat)} (h : SetIs w b ks) : (SetE b ks).ok w := by
 refine Ent.mk_ok h (fun k hk => ?_) (fun S w1 w2 hc hS h1 => ?_)
 ·obtain ⟨es, clk, h1, _⟩ := h.ex
  have : k = b := hk
  subst this
  rcases Nat.lt_or_ge k w.heap.size with h2 | h2
  ·exact h2
  ·simp [Array.getElem?_eq_none h2] at h1
 ·obtain ⟨es, clk, h2, h3⟩ := h1.ex
  have hlt : b < w1.heap.size := by
   rcases Nat.lt_or_ge b w1.heap.size with h4 | h4
   ·exact h4
   ·simp [Array.getElem?_eq_none h4] at h2
  exact ⟨⟨es, clk, (hc.block b hlt (hS b rfl)).trans h2, h3⟩, h1.small⟩
section
variable {P : Program} {N : Nat} {ops : Array Oper} {Q : XPost} {rest : List Oper} {ρ : Env} {o : Oper} {w0 w w' : World} {S : Nat → Prop} {H : List Ent} {d t kt et b : Nat} {x y z : Operand} {ks : List (List Nat)} {a : List Nat}
theorem WL_mkSet (hI : Inv S w0 w H) (hw : wantedR ops ρ o = true) (hd : o.dst = some d) (hN : Nat.blt d N = true) (ho : o.op = .makeMap t none)
  (h : ∀ b w', Pure w w' → b = w.heap.size → Inv S w0 w' (SetE b [] :: H) → WL P N ops Q rest (upd ρ d (.map (some b))) w') : WL P N ops Q (o :: rest) ρ w :=
 WL_eff hw hd hN (v := .map (some w.heap.size)) (w' := w.alloc (.map #[] 0)) (by simp [execOp, ho, Instr.makeMap])
  (h _ _ ((Pure.refl w).alloc _) rfl (hI.fresh ((Pure.refl w).alloc _) (SetE.ok ⟨⟨#[], 0, by show (w.heap.push _)[w.heap.size]? = _; simp, rfl⟩, by simp⟩) (fun k hk => by have : k = w.heap.size := hk; omega)))
theorem check_str {em : Bool} {s : ByteArray} (hk : P.underlying kt = some .string) : (Instr.checkKey em 10000 kt (.string s)).run P w = .ok () w := by
 show (Instr.checkKey em (Nat.succ 9999) kt (.string s)).run P w = .ok () w
 rw [Instr.checkKey]
 simp [run_underlying hk]
theorem rLookS (ho : o.op = .lookup t x y true) (ht : P.underlying t = some (.map kt et)) (hk : P.underlying kt = some .string) (hz : (P.info? et).bind (·.zero) = some (.agg #[])) (hx : ev ρ x = .map (some b)) (hy : ev ρ y = .string (strB a)) (ha : ∀ c ∈ a, c < 256) (hM : SetIs w b ks) :
  Runs P ρ o w (.tuple #[.agg #[], .bool (decide (a ∈ ks))]) := by
 obtain ⟨es, clk, h1, h2⟩ := hM.ex
 have hzv : (zeroValue et).run P w = .ok (.agg #[]) w := by
  cases hi : P.info? et with
  | none => simp [hi] at hz
  | some i => simp only [hi, Option.bind_some] at hz; simp [zeroValue, typeInfo, hi, hz]
 have hc := check_str (P := P) (w := w) (s := strB a) (em := es.isEmpty) hk
 rcases findNow_str ha es.toList ks 0 h2 hM.small with ⟨g1, g2⟩ | ⟨g1, j, g2⟩
 ·simp [Runs, execOp, ho, hx, hy, Instr.lookup, run_underlying ht, run_getM h1, hc, Instr.findKey, run_underlying hk, g2, hzv, g1]
 ·simp [Runs, execOp, ho, hx, hy, Instr.lookup, run_underlying ht, run_getM h1, hc, Instr.findKey, run_underlying hk, g2, g1]
theorem rLenSet (ho : o.op = .call { callee := .builtin .len, args := #[x], argTypes := #[t] }) (ht : P.underlying t = some (.map kt et)) (hx : ev ρ x = .map (some b)) (hM : SetIs w b ks) : Runs P ρ o w (.int .i64 (ks.length : Int)) := by
 obtain ⟨es, clk, h1, h2⟩ := hM.ex
 have hl : es.size = ks.length := by have := congrArg List.length h2; simpa using this
 simp [Runs, execOp, ho, resolve, invoke, builtin, hx, Builtin.len_, run_underlying ht, run_getM h1, hl, goInt]
theorem WL_setPut (i : Nat) (hi : H[i]? = some (SetE b ks)) (hI : Inv S w0 w H) (hw : wantedR ops ρ o = true) (hd : o.dst = none) (ho : o.op = .mapUpdate t x y z) (ht : P.underlying t = some (.map kt et)) (hk : P.underlying kt = some .string) (hx : ev ρ x = .map (some b)) (hy : ev ρ y = .string (strB a)) (hz : ev ρ z = .agg #[]) (ha : ∀ c ∈ a, c < 256) (hn : a ∉ ks)
  (h : ∀ w', Inv S w0 w' (H.set i (SetE b (ks ++ [a]))) → WL P N ops Q rest ρ w') : WL P N ops Q (o :: rest) ρ w := by
 have hM : SetIs w b ks := (hI.ok _ (List.mem_of_getElem? hi)).1
 obtain ⟨es, clk, h1, h2⟩ := hM.ex
 have hlt : b < w.heap.size := by
  rcases Nat.lt_or_ge b w.heap.size with h5 | h5
  ·exact h5
  ·simp [Array.getElem?_eq_none h5] at h1
 have hc := check_str (P := P) (w := w) (s := strB a) (em := false) hk
 rcases findNow_str ha es.toList ks 0 h2 hM.small with ⟨g1, g2⟩ | ⟨g1, j, g2⟩
 ·have hM' : SetIs (setB w b (.map (es.push { key := .string (strB a), val := .agg #[], born := clk }) (clk + 1))) b (ks ++ [a]) := by
   refine ⟨⟨_, _, heap_setB hlt, ?_⟩, fun k hk => ?_⟩
   ·unfold KsIs at h2 ⊢
    simp [h2]
   ·rcases List.mem_append.1 hk with hk | hk
    ·exact hM.small k hk
    ·rw [List.mem_singleton.1 hk]; exact ha
  refine WL_store hw hd (w' := setB w b (.map (es.push { key := .string (strB a), val := .agg #[], born := clk }) (clk + 1))) ?_ (h _ (hI.upd i hi (chg_setB w b _) (SetE.ok hM') (fun _ hk => .inl hk)))
  simp [execOp, ho, hx, hy, hz, Instr.mapUpdate, run_underlying ht, run_getM h1, hc, Instr.findKey, run_underlying hk, g2, run_setM _ h1]
 ·exact absurd g1 hn
end
end Go.Proofs.YthndpiopbdecfaaGreatDoor
namespace Go.Proofs.YthndpiopbdecfaaGreatDoor
open Go.RowKit
set_option linter.unusedVariables false
set_option linter.unusedSimpArgs false
section
variable {P : Program} {ρ : Env} {o : Oper} {w : World} {x y : Operand} {t kt et b : Nat} {q : IntKind} {zv v : Value} {a : Int} {g : Int → Option Value}
theorem rLookY (h : g a = some v) (ho : o.op = .lookup t x y true) (ht : P.underlying t = some (.map kt et)) (hk : P.underlying kt = some (.int q)) (hz : (P.info? et).bind (·.zero) = some zv) (hx : ev ρ x = .map (some b)) (hy : ev ρ y = .int .i64 a) (hM : MapIs w b g) : Runs P ρ o w (.tuple #[v, .bool true]) := by
 have := rLook (P := P) ho ht hk hz hx hy hM
 rwa [h] at this
theorem rLookN (h : g a = none) (ho : o.op = .lookup t x y true) (ht : P.underlying t = some (.map kt et)) (hk : P.underlying kt = some (.int q)) (hz : (P.info? et).bind (·.zero) = some zv) (hx : ev ρ x = .map (some b)) (hy : ev ρ y = .int .i64 a) (hM : MapIs w b g) : Runs P ρ o w (.tuple #[zv, .bool false]) := by
 have := rLook (P := P) ho ht hk hz hx hy hM
 rwa [h] at this
end
abbrev OpsE (A : Option Addr) (c : Nat) (ops : List Op8) : Ent := Row 0 77 8 A ops.length c (ops.flatMap opV)
abbrev BoolE (A : Option Addr) (c : Nat) (l : List Bool) : Ent := Row 0 4 1 A l.length c (l.map Value.bool)
def mapV (g : Int → Option Nat) : Int → Option Value := fun k => (g k).map fun n => .int .i64 (n : Int)
theorem mapV_upd (g : Int → Option Nat) (k : Int) (n : Nat) : (fun j => if j = k then some (Value.int .i64 (n : Int)) else mapV g j) = mapV (updI g k (some n)) := by
 funext j
 unfold mapV updI
 by_cases h : j = k
 ·rw [if_pos h, if_pos h]; rfl
 ·rw [if_neg h, if_neg h]
theorem mapV_del (g : Int → Option Nat) (k : Int) : (fun j => if j = k then none else mapV g j) = mapV (updI g k none) := by
 funext j
 unfold mapV updI
 by_cases h : j = k
 ·rw [if_pos h, if_pos h]; rfl
 ·rw [if_neg h, if_neg h]
def seeC (Ao : Option Addr) (no co b1 b2 : Nat) (Ag : Option Addr) (ng cg : Nat) : Array Value := #[.slice Ao no co, .map (some b1), .map (some b2), .slice Ag ng cg]
/-- The parts of a seer. -/
def prtS (sb : Nat) (Ao : Option Addr) (co b1 b2 : Nat) (Ag : Option Addr) (cg : Nat) (s : SeeS) : List Ent :=
 [B sb 72 (seeC Ao s.ops.length co b1 b2 Ag s.gone.length cg), OpsE Ao co s.ops, BoolE Ag cg s.gone, MapE b1 (mapV s.busy), MapE b2 (mapV s.lost)]
def SeerPost (r : Option SeeS) (sb b1 b2 : Nat) (S : Nat → Prop) (w0 : World) (en : Ending) (w' : World) : Prop := match r with
 | none => Inv S w0 w' [] ∧ ∃ z : Int, en = .returned (.iface 49 (.int .i64 z))
 | some s' => en = .returned .nilIface ∧ ∃ Ao' co' Ag' cg', Inv S w0 w' (prtS sb Ao' co' b1 b2 Ag' cg' s')
theorem Inv.none {S : Nat → Prop} {w0 w : World} {H : List Ent} (h : Inv S w0 w H) : Inv S w0 w [] := ⟨h.chg, by simp, by simp, .nil⟩
theorem SeerPost.none {r : Option SeeS} {sb b1 b2 : Nat} {S : Nat → Prop} {w0 w' : World} {H : List Ent} {z : Int} (h : r = Option.none) (hI : Inv S w0 w' H) : SeerPost r sb b1 b2 S w0 (.returned (.iface 49 (.int .i64 z))) w' := by subst h; exact ⟨hI.none, z, rfl⟩
theorem SeerPost.some {r : Option SeeS} {s' : SeeS} {sb b1 b2 : Nat} {S : Nat → Prop} {w0 w' : World} {Ao' Ag' : Option Addr} {co' cg' : Nat} (h : r = Option.some s') (hI : Inv S w0 w' (prtS sb Ao' co' b1 b2 Ag' cg' s')) : SeerPost r sb b1 b2 S w0 (.returned .nilIface) w' := by subst h; exact ⟨rfl, Ao', co', Ag', cg', hI⟩
set_option maxHeartbeats 8000000 in
theorem begin_one (e0 e1 e2 e3 e4 e5 e6 : Int) (i : Nat) (sb b1 b2 : Nat) (Ao : Option Addr) (co : Nat) (Ag : Option Addr) (cg : Nat) (s : SeeS) (w0 : World) (hlen : s.ops.length ≤ 100000) (hgl : s.gone.length = s.ops.length)
  (hI : Inv (DL (prtS sb Ao co b1 b2 Ag cg s)) w0 w0 (prtS sb Ao co b1 b2 Ag cg s)) :
  Calls Tryz.prog 21 #[.pointer (some ⟨sb, 0, none⟩), .agg #[.int .i64 e0, .int .i64 e1, .int .i64 e2, .int .i64 e3, .int .i64 e4, .int .i64 e5, .int .i64 e6], .int .i64 (i : Int)] w0 (SeerPost (beginF ⟨e0, e1, e2, e3, e4, e5, e6⟩ i s) sb b1 b2 (DL (prtS sb Ao co b1 b2 Ag cg s)) w0) := by
 generalize hl0 : DL (prtS sb Ao co b1 b2 Ag cg s) = S at hI ⊢
 replace hI : Inv S w0 w0 [B sb 72 (seeC Ao s.ops.length co b1 b2 Ag s.gone.length cg), OpsE Ao co s.ops, BoolE Ag cg s.gone, MapE b1 (mapV s.busy), MapE b2 (mapV s.lost)] := hI
 refine Vm Tryz.f21.ntmps Tryz.func21 rfl ?_
 refine W_seq (W_region (T7 (.agg _) (#[_, _, _, _, _, _, _]) hI rfl ?_))
 clear hI; rintro b4 w - - hI
 refine Vf rfl (WL_nil ?_)
 cases hb : s.busy e0 with
 | some nb =>
  have hbv : mapV s.busy e0 = some (.int .i64 (nb : Int)) := by unfold mapV; rw [hb]; rfl
  refine W_seq (W_draw (by kernel_rfl) ?_)
  refine WA_inv (T := []) hI.drew ?_
  intro Sx hSx hXS
  replace hI := hI.drew
  refine Vh 0 (hXS _ hI) rfl (Vi 1 (hXS _ hI) rfl (Vc 2 1 (hXS _ hI) rfl (V9 3 (.map _) (hXS _ hI) rfl (fun W hW => (hSx W hW).c1 rfl) (Vc 4 0 (hXS _ hI) rfl (V9 5 (.int .i64 _) (hXS _ hI) rfl (fun W hW => (hSx W hW).c0 rfl) ?_)))))
  refine WT_take 6 rfl rfl (by kernel_rfl) (hXS _ hI) rfl (fun W hW => have hI := hSx W hW; (rLookY hbv (zv := .int .i64 0) rfl Tryz.underlying69 Tryz.underlying3 (by kernel_rfl) rfl rfl hI.g4)) ?_
  refine Ug 7 (hXS _ hI) rfl (Tl 8 (hXS _ hI) rfl (Tl 9 (hXS _ hI) rfl (Ua 10 (hXS _ hI) rfl (U3 11 (hXS _ hI) rfl (WT_end (by kernel_rfl) (W_seq (W_seq (W_draw (by kernel_rfl) ?_))))))))
  refine WA_inv (T := []) hI.drew ?_
  intro Sx hSx hXS
  replace hI := hI.drew
  refine Vh 0 (hXS _ hI) rfl (Vi 1 (hXS _ hI) rfl (Vc 2 2 (hXS _ hI) rfl (V9 3 (.map _) (hXS _ hI) rfl (fun W hW => (hSx W hW).c1 rfl) (Vc 4 0 (hXS _ hI) rfl (V9 5 (.int .i64 _) (hXS _ hI) rfl (fun W hW => (hSx W hW).c0 rfl) ?_)))))
  refine WT_take 6 rfl rfl (by kernel_rfl) (hXS _ hI) rfl (fun W hW => have hI := hSx W hW; (rLook (zv := .int .i64 0) rfl Tryz.underlying69 Tryz.underlying3 (by kernel_rfl) rfl rfl hI.g5)) ?_
  refine Ug 7 (hXS _ hI) rfl (Tl 8 (hXS _ hI) rfl (Tl 9 (hXS _ hI) rfl ?_))
  refine WT_take 10 rfl rfl (by kernel_rfl) (hXS _ hI) rfl (fun W hW => have hI := hSx W hW; (by exact rAsgn rfl)) ?_
  refine U3 11 (hXS _ hI) rfl (WT_end (by kernel_rfl) (W_seq (W_region (V2 rfl (V2 rfl (V1 rfl (Vd rfl (WL_nil (W_cond true rfl (W_seq (W_region (Vx rfl Tryz.underlying49 rfl (Vk rfl ?_)))))))))))))
  refine WL_nil ?_
  refine W_ret ?_
  exact ret1 6 (.inr rfl) rfl (SeerPost.none (by unfold beginF; exact if_pos (.inl (by show s.busy e0 ≠ none; rw [hb]; simp))) hI)
 | none =>
 have hbv : mapV s.busy e0 = none := by unfold mapV; rw [hb]; rfl
 refine W_seq (W_draw (by kernel_rfl) ?_)
 refine WA_inv (T := []) hI.drew ?_
 intro Sx hSx hXS
 replace hI := hI.drew
 refine Vh 0 (hXS _ hI) rfl (Vi 1 (hXS _ hI) rfl (Vc 2 1 (hXS _ hI) rfl (V9 3 (.map _) (hXS _ hI) rfl (fun W hW => (hSx W hW).c1 rfl) (Vc 4 0 (hXS _ hI) rfl (V9 5 (.int .i64 _) (hXS _ hI) rfl (fun W hW => (hSx W hW).c0 rfl) ?_)))))
 refine WT_take 6 rfl rfl (by kernel_rfl) (hXS _ hI) rfl (fun W hW => have hI := hSx W hW; (rLookN hbv (zv := .int .i64 0) rfl Tryz.underlying69 Tryz.underlying3 (by kernel_rfl) rfl rfl hI.g4)) ?_
 refine Ug 7 (hXS _ hI) rfl (Tl 8 (hXS _ hI) rfl (Tl 9 (hXS _ hI) rfl (Ua 10 (hXS _ hI) rfl (U3 11 (hXS _ hI) rfl (WT_end (by kernel_rfl) ?_)))))
 cases hl : s.lost e0 with
 | some nl =>
  have hlv : mapV s.lost e0 = some (.int .i64 (nl : Int)) := by unfold mapV; rw [hl]; rfl
  refine W_seq (W_seq (W_draw (by kernel_rfl) ?_))
  refine WA_inv (T := []) hI.drew ?_
  intro Sx hSx hXS
  replace hI := hI.drew
  refine Vh 0 (hXS _ hI) rfl (Vi 1 (hXS _ hI) rfl (Vc 2 2 (hXS _ hI) rfl (V9 3 (.map _) (hXS _ hI) rfl (fun W hW => (hSx W hW).c1 rfl) (Vc 4 0 (hXS _ hI) rfl (V9 5 (.int .i64 _) (hXS _ hI) rfl (fun W hW => (hSx W hW).c0 rfl) ?_)))))
  refine WT_take 6 rfl rfl (by kernel_rfl) (hXS _ hI) rfl (fun W hW => have hI := hSx W hW; (rLookY hlv (zv := .int .i64 0) rfl Tryz.underlying69 Tryz.underlying3 (by kernel_rfl) rfl rfl hI.g5)) ?_
  refine Ug 7 (hXS _ hI) rfl (Tl 8 (hXS _ hI) rfl (Tl 9 (hXS _ hI) rfl (Ua 10 (hXS _ hI) rfl (U3 11 (hXS _ hI) rfl (WT_end (by kernel_rfl) (W_seq (W_region (V2 rfl (V2 rfl (V2 rfl (V8 rfl (WL_nil (W_cond true rfl ?_)))))))))))))
  refine W_seq (W_region (Vx rfl Tryz.underlying49 rfl (Vk rfl (WL_nil ?_))))
  refine W_ret ?_
  exact ret1 6 (.inr rfl) rfl (SeerPost.none (by unfold beginF; exact if_pos (.inr (by show s.lost e0 ≠ none; rw [hl]; simp))) hI)
 | none =>
 have hlv : mapV s.lost e0 = none := by unfold mapV; rw [hl]; rfl
 refine W_seq (W_seq (W_draw (by kernel_rfl) ?_))
 refine WA_inv (T := []) hI.drew ?_
 intro Sx hSx hXS
 replace hI := hI.drew
 refine Vh 0 (hXS _ hI) rfl (Vi 1 (hXS _ hI) rfl (Vc 2 2 (hXS _ hI) rfl (V9 3 (.map _) (hXS _ hI) rfl (fun W hW => (hSx W hW).c1 rfl) (Vc 4 0 (hXS _ hI) rfl (V9 5 (.int .i64 _) (hXS _ hI) rfl (fun W hW => (hSx W hW).c0 rfl) ?_)))))
 refine WT_take 6 rfl rfl (by kernel_rfl) (hXS _ hI) rfl (fun W hW => have hI := hSx W hW; (rLookN hlv (zv := .int .i64 0) rfl Tryz.underlying69 Tryz.underlying3 (by kernel_rfl) rfl rfl hI.g5)) ?_
 refine Ug 7 (hXS _ hI) rfl (Tl 8 (hXS _ hI) rfl (Tl 9 (hXS _ hI) rfl (Ua 10 (hXS _ hI) rfl (U3 11 (hXS _ hI) rfl (WT_end (by kernel_rfl) (W_seq (W_region (V2 rfl (V2 rfl (V2 rfl (V8 rfl (WL_nil (W_cond false rfl ?_)))))))))))))
 refine W_skip ?_
 have hbf : beginF ⟨e0, e1, e2, e3, e4, e5, e6⟩ i s = some ⟨s.ops ++ [newOp ⟨e0, e1, e2, e3, e4, e5, e6⟩ i], updI s.busy e0 (some s.ops.length), s.lost, s.gone ++ [false]⟩ := by
  unfold beginF
  refine if_neg ?_
  rintro (h | h)
  ·exact h hb
  ·exact h hl
 refine W_seq (W_draw (by kernel_rfl) ?_)
 refine WA_inv (T := [11]) hI.drew ?_
 intro Sx hSx hXS
 replace hI := hI.drew
 refine Vh 0 (hXS _ hI) rfl (Vi 1 (hXS _ hI) rfl (Vc 2 1 (hXS _ hI) rfl (V9 3 (.map _) (hXS _ hI) rfl (fun W hW => (hSx W hW).c1 rfl) (Vc 4 0 (hXS _ hI) rfl (V9 5 (.int .i64 _) (hXS _ hI) rfl (fun W hW => (hSx W hW).c0 rfl) (Vh 6 (hXS _ hI) rfl (Vi 7 (hXS _ hI) rfl (Vc 8 0 (hXS _ hI) rfl (V9 9 (.slice _ _ _) (hXS _ hI) rfl (fun W hW => (hSx W hW).c1 rfl) (Uh 10 (hXS _ hI) rfl Tryz.underlying40 rfl ?_))))))))))
 refine WT_A (by kernel_rfl) ?_
 clear hXS hSx
 refine T2 11 rfl ?_
 refine WL_mapSet (v := .int .i64 (s.ops.length : Int)) 4 rfl hI rfl rfl rfl Tryz.underlying69 Tryz.underlying3 rfl rfl rfl ?_
 clear hI; intro w hI
 simp only [List.set_cons_succ, List.set_cons_zero] at hI
 rw [mapV_upd] at hI
 refine WL_nil ?_
 refine WA_end (by kernel_rfl) ?_
 refine W_seq (W_draw (by kernel_rfl) ?_)
 refine WA_inv (T := [21]) hI.d2.drew ?_
 intro Sx hSx hXS
 replace hI := hI.drew
 refine Vh 0 (hXS _ hI.d2) rfl (Vh 1 (hXS _ hI.d2) rfl (Vi 2 (hXS _ hI.d2) rfl (Vc 3 0 (hXS _ hI.d2) rfl (V9 4 (.slice _ _ _) (hXS _ hI.d2) rfl (fun W hW => (hSx W hW).c1 rfl) (Vc 5 0 (hXS _ hI.d2) rfl (V9 6 (.int .i64 _) (hXS _ hI.d2) rfl (fun W hW => (hSx W hW).c0 rfl) (Vc 7 2 (hXS _ hI.d2) rfl (V9 8 (.int .i64 _) (hXS _ hI.d2) rfl (fun W hW => (hSx W hW).c0 rfl) (Vc 9 3 (hXS _ hI.d2) rfl (V9 10 (.int .i64 _) (hXS _ hI.d2) rfl (fun W hW => (hSx W hW).c0 rfl) (Vc 11 4 (hXS _ hI.d2) rfl (V9 12 (.int .i64 _) (hXS _ hI.d2) rfl (fun W hW => (hSx W hW).c0 rfl) (Vc 13 5 (hXS _ hI.d2) rfl ?_)))))))))))))
 refine V9 14 (.int .i64 _) (hXS _ hI.d2) rfl (fun W hW => (hSx W hW).c0 rfl) (Vw 15 (hXS _ hI.d2) rfl (Ty 16 [(0, .int .i64 _), (1, .int .i64 _), (2, .int .i64 _), (3, .int .i64 _), (4, .int .i64 _), (6, .int .i64 _), (7, .int .i64 _)] [_, _, _, _, _, _, _, _] (hXS _ hI.d2) rfl [.int .i64 0, .int .i64 0, .int .i64 0, .int .i64 0, .int .i64 0, .int .i64 0, .int .i64 0, .int .i64 0] [0, 1, 2, 3, 4, 6, 7] rfl (fun _ _ => fun _ => by kernel_rfl) (Vt 17 rfl ?_)))
 refine Vy [(0, .agg #[_, _, _, _, _, _, _, _])] [_, _, _, _, _, _, _, _] [.int .i64 0, .int .i64 0, .int .i64 0, .int .i64 0, .int .i64 0, .int .i64 0, .int .i64 0, .int .i64 0] [0] hI rfl Tryz.underlying40 (fun _ => by kernel_rfl) ?_
 clear hI; rintro b64 w - - hI
 refine WL_nil ⟨hXS _ hI.d0.d2, ?_⟩
 refine Vt 18 rfl ?_
 refine WL_app3 (z := .agg #[.int .i64 0, .int .i64 0, .int .i64 0, .int .i64 0, .int .i64 0, .int .i64 0, .int .i64 0, .int .i64 0]) (by_ := 64) hI rfl rfl rfl rfl rfl rfl Tryz.underlying40 (by kernel_rfl) rfl (by omega) (by rfl) hI.lit0 (by rfl) (by omega) (by omega) (by exact Nat.zero_le _) ?_
 clear hI; rintro A65 c65 w hA65 hc65 hI
 replace hI := hI.d0
 refine WL_nil ⟨hXS _ hI.d2, ?_⟩
 refine Vi 19 (hXS _ hI.d2) rfl (Vc 20 0 (hXS _ hI.d2) rfl ?_)
 refine WT_A (by kernel_rfl) ?_
 clear hXS hSx
 refine T2 21 rfl ?_
 refine WL_st1 (u := .slice _ _ _) hI rfl rfl rfl rfl rfl rfl (by kernel_rfl) rfl rfl rfl ?_
 clear hI; intro w hI
 refine WL_nil ?_
 refine WA_end (by kernel_rfl) ?_
 replace hI : Inv S w0 w [B b4 48 #[.int .i64 e0, .int .i64 e1, .int .i64 e2, .int .i64 e3, .int .i64 e4, .int .i64 e5, .int .i64 e6], B sb 72 (seeC A65 (s.ops.length + 1) c65 b1 b2 Ag s.gone.length cg), Row 0 77 8 A65 (s.ops.length + 1) c65 (s.ops.flatMap opV ++ opV (newOp ⟨e0, e1, e2, e3, e4, e5, e6⟩ i)), BoolE Ag cg s.gone, MapE b1 (mapV (updI s.busy e0 (some s.ops.length))), MapE b2 (mapV s.lost)] := hI
 refine W_seq (W_region (V7 rfl (V7 rfl (Vb rfl (V5 3 rfl (V3 (.slice _ _ _) rfl (hI.c1 rfl) (Vy [(0, .bool _)] [_] [.bool false] [0] hI rfl Tryz.underlying70 (fun _ => by kernel_rfl) ?_)))))))
 clear hI; rintro b73 w - - hI
 refine WL_app4 (z := .bool false) (by_ := 1) hI rfl rfl rfl rfl rfl rfl Tryz.underlying70 (by kernel_rfl) rfl (by omega) (by rfl) hI.lit0 (by rfl) (by omega) (by omega) (by exact Nat.zero_le _) ?_
 clear hI; rintro A74 c74 w hA74 hc74 hI
 replace hI := hI.d0
 refine Vb rfl (V5 3 rfl ?_)
 refine WL_st1 (u := .slice _ _ _) hI rfl rfl rfl rfl rfl rfl (by kernel_rfl) rfl rfl rfl ?_
 clear hI; intro w hI
 refine WL_nil (W_seq (W_region (Vf rfl (WL_nil ?_))))
 refine W_ret ?_
 replace hI : Inv S w0 w [B sb 72 (seeC A65 (s.ops.length + 1) c65 b1 b2 A74 (s.gone.length + 1) c74), Row 0 77 8 A65 (s.ops.length + 1) c65 (s.ops.flatMap opV ++ opV (newOp ⟨e0, e1, e2, e3, e4, e5, e6⟩ i)), Row 0 4 1 A74 (s.gone.length + 1) c74 (s.gone.map Value.bool ++ [.bool false]), MapE b1 (mapV (updI s.busy e0 (some s.ops.length))), MapE b2 (mapV s.lost)] := hI.d0
 refine ret1 6 (.inr rfl) rfl (SeerPost.some (Ao' := A65) (co' := c65) (Ag' := A74) (cg' := c74) hbf ?_)
 unfold prtS OpsE BoolE
 simp only [List.length_append, List.length_singleton, List.flatMap_append, List.flatMap_cons, List.flatMap_nil, List.append_nil, List.map_append, List.map_cons, List.map_nil]
 exact hI
theorem oAt_getE {l : List Op8} {k : Nat} (hk : k < l.length) : l[k]? = some (oAt l k) := by unfold oAt; rw [List.getD_eq_getElem?_getD, List.getElem?_eq_getElem hk]; rfl
theorem opsV_lenE (l : List Op8) : (l.flatMap opV).length = l.length * 8 := flat_lenG (f := opV) (fun _ => rfl) l
theorem row_op {w : World} {b c n k j : Nat} {l : List Op8} {v : Value} (h : w.ownsRow 0 77 8 (.slice (some ⟨b, 0, none⟩) n c) n (l.flatMap opV)) (hn : n = l.length) (hk : k < l.length) (hj : (opV (oAt l k))[j]? = some v) : w.cell? ⟨b, 0 + k * 8 + j, none⟩ = some v := by
 subst hn
 have hj8 : j < 8 := by have := (List.getElem?_eq_some_iff.1 hj).1; simpa [opV] using this
 rw [Nat.add_assoc]
 exact row_cellS h ((flatN (f := opV) (fun a => rfl) l k _ (oAt_getE hk) j hj8).trans hj) (by omega)
theorem flat_end {l : List Op8} {n : Nat} (hn : n < l.length) (e : Ev) (i : Nat) : ((l.flatMap opV).set (0 + n * 8 + 7) (.int .i64 (i : Int))).set (0 + n * 8 + 5) (.int .i64 e.res) = (l.set n (endOp (oAt l n) e i)).flatMap opV := by
 have h1 := flat_setG (f := opV) (s := 8) (fun _ => rfl) (a := oAt l n) (a' := { oAt l n with ret := (i : Int) }) (j := 7) (v := .int .i64 (i : Int)) (by omega) rfl (oAt_getE hn)
 have h2 := flat_setG (f := opV) (s := 8) (fun _ => rfl) (a := { oAt l n with ret := (i : Int) }) (a' := endOp (oAt l n) e i) (j := 5) (v := .int .i64 e.res) (by omega) rfl (l := l.set n { oAt l n with ret := (i : Int) }) (k := n) (by simp [hn])
 rw [List.set_set] at h2
 rw [h2, h1, Nat.zero_add]
theorem endF_no {e : Ev} {i : Nat} {s : SeeS} (h : s.busy e.proc = none) : endF e i s = none := by unfold endF; rw [h]
theorem endF_un {e : Ev} {i n : Nat} {s : SeeS} (h : s.busy e.proc = some n) (hf : ¬ fitsOp (oAt s.ops n) e) : endF e i s = none := by unfold endF; rw [h]; exact if_neg hf
theorem endF_go {e : Ev} {i n : Nat} {s : SeeS} (h : s.busy e.proc = some n) (hf : fitsOp (oAt s.ops n) e) : endF e i s = some ⟨if e.ty = 2 then s.ops.set n (endOp (oAt s.ops n) e i) else s.ops, updI s.busy e.proc none, if e.ty = 4 then updI s.lost e.proc (some i) else s.lost, if e.ty = 3 then s.gone.set n true else s.gone⟩ := by unfold endF; rw [h]; exact if_pos hf
set_option maxHeartbeats 8000000 in
theorem end_one (e0 e1 e2 e3 e4 e5 e6 : Int) (i : Nat) (sb b1 b2 : Nat) (Ao : Option Addr) (co : Nat) (Ag : Option Addr) (cg : Nat) (s : SeeS) (w0 : World) (hlen : s.ops.length ≤ 100000) (hgl : s.gone.length = s.ops.length) (hbl : ∀ n, s.busy e0 = some n → n < s.ops.length)
  (hI : Inv (DL (prtS sb Ao co b1 b2 Ag cg s)) w0 w0 (prtS sb Ao co b1 b2 Ag cg s)) :
  Calls Tryz.prog 22 #[.pointer (some ⟨sb, 0, none⟩), .agg #[.int .i64 e0, .int .i64 e1, .int .i64 e2, .int .i64 e3, .int .i64 e4, .int .i64 e5, .int .i64 e6], .int .i64 (i : Int)] w0 (SeerPost (endF ⟨e0, e1, e2, e3, e4, e5, e6⟩ i s) sb b1 b2 (DL (prtS sb Ao co b1 b2 Ag cg s)) w0) := by
 generalize hl0 : DL (prtS sb Ao co b1 b2 Ag cg s) = S at hI ⊢
 replace hI : Inv S w0 w0 [B sb 72 (seeC Ao s.ops.length co b1 b2 Ag s.gone.length cg), OpsE Ao co s.ops, BoolE Ag cg s.gone, MapE b1 (mapV s.busy), MapE b2 (mapV s.lost)] := hI
 clear hl0
 refine Vm Tryz.f22.ntmps Tryz.func22 rfl ?_
 refine W_seq (W_region (T7 (.agg _) (#[_, _, _, _, _, _, _]) hI rfl ?_))
 clear hI; rintro b4 w - - hI
 refine Vf rfl (WL_nil ?_)
 cases hb : s.busy e0 with
 | none =>
  have hbv : mapV s.busy e0 = none := by unfold mapV; rw [hb]; rfl
  refine W_seq (W_draw (by kernel_rfl) ?_)
  refine WA_inv (T := []) hI.drew ?_
  intro Sx hSx hXS
  replace hI := hI.drew
  refine Vh 0 (hXS _ hI) rfl (Vi 1 (hXS _ hI) rfl (Vc 2 1 (hXS _ hI) rfl (V9 3 (.map _) (hXS _ hI) rfl (fun W hW => (hSx W hW).c1 rfl) (Vc 4 0 (hXS _ hI) rfl (V9 5 (.int .i64 _) (hXS _ hI) rfl (fun W hW => (hSx W hW).c0 rfl) ?_)))))
  refine WT_take 6 rfl rfl (by kernel_rfl) (hXS _ hI) rfl (fun W hW => have hI := hSx W hW; (rLookN hbv (zv := .int .i64 0) rfl Tryz.underlying69 Tryz.underlying3 (by kernel_rfl) rfl rfl hI.g4)) ?_
  refine Ug 7 (hXS _ hI) rfl (Tl 8 (hXS _ hI) rfl (Tl 9 (hXS _ hI) rfl (Ua 10 (hXS _ hI) rfl (U3 11 (hXS _ hI) rfl (WT_end (by kernel_rfl) (W_seq (W_seq (W_region (V2 rfl (Ta rfl (WL_nil (W_cond true rfl (W_seq ?_)))))))))))))
  refine W_region (Vx rfl Tryz.underlying49 rfl (Vk rfl (WL_nil ?_)))
  refine W_ret ?_
  exact ret1 6 (.inr rfl) rfl (SeerPost.none (endF_no hb) hI)
 | some n =>
 have hbv : mapV s.busy e0 = some (.int .i64 (n : Int)) := by unfold mapV; rw [hb]; rfl
 have hn := hbl n hb
 obtain ⟨bO, _, rfl, -, -, -, -, -, -⟩ := row_openB hI.g2 (by omega)
 obtain ⟨bG, _, rfl, -, -, -, -, -, -⟩ := row_openB hI.g3 (by omega)
 refine W_seq (W_draw (by kernel_rfl) ?_)
 refine WA_inv (T := []) hI.drew ?_
 intro Sx hSx hXS
 replace hI := hI.drew
 refine Vh 0 (hXS _ hI) rfl (Vi 1 (hXS _ hI) rfl (Vc 2 1 (hXS _ hI) rfl (V9 3 (.map _) (hXS _ hI) rfl (fun W hW => (hSx W hW).c1 rfl) (Vc 4 0 (hXS _ hI) rfl (V9 5 (.int .i64 _) (hXS _ hI) rfl (fun W hW => (hSx W hW).c0 rfl) ?_)))))
 refine WT_take 6 rfl rfl (by kernel_rfl) (hXS _ hI) rfl (fun W hW => have hI := hSx W hW; (rLookY hbv (zv := .int .i64 0) rfl Tryz.underlying69 Tryz.underlying3 (by kernel_rfl) rfl rfl hI.g4)) ?_
 refine Ug 7 (hXS _ hI) rfl (Tl 8 (hXS _ hI) rfl (Tl 9 (hXS _ hI) rfl (Ua 10 (hXS _ hI) rfl (U3 11 (hXS _ hI) rfl (WT_end (by kernel_rfl) (W_seq (W_seq (W_region (V2 rfl (T4 rfl (WL_nil (W_cond false rfl (W_skip ?_)))))))))))))
 refine W_seq (W_region (V7 rfl (Vb rfl (V5 0 rfl (V3 (.slice _ _ _) rfl (hI.c1 rfl) (V0 rfl (Ti 8 rfl Tryz.underlying40 rfl (U4 rfl (WL_nil ?_)))))))))
 have hun : ¬ fitsOp (oAt s.ops n) ⟨e0, e1, e2, e3, e4, e5, e6⟩ → endF ⟨e0, e1, e2, e3, e4, e5, e6⟩ i s = none := fun hf => endF_un hb hf
 have hgo : fitsOp (oAt s.ops n) ⟨e0, e1, e2, e3, e4, e5, e6⟩ → endF ⟨e0, e1, e2, e3, e4, e5, e6⟩ i s = _ := fun hf => endF_go hb hf
 refine W_seq_cut (fun ρ w => fitsOp (oAt s.ops n) ⟨e0, e1, e2, e3, e4, e5, e6⟩ ∧ Has ρ [(0, .pointer (some ⟨sb, 0, none⟩)), (2, .int .i64 (i : Int)), (4, .pointer (some ⟨b4, 0, none⟩)), (7, .int .i64 (n : Int)), (9, .pointer (some ⟨bO, 0 + n * 8, none⟩))] ∧ Inv S w0 w [B b4 48 #[.int .i64 e0, .int .i64 e1, .int .i64 e2, .int .i64 e3, .int .i64 e4, .int .i64 e5, .int .i64 e6], B sb 72 (seeC (some ⟨bO, 0, none⟩) s.ops.length co b1 b2 (some ⟨bG, 0, none⟩) s.gone.length cg), OpsE (some ⟨bO, 0, none⟩) co s.ops, BoolE (some ⟨bG, 0, none⟩) cg s.gone, MapE b1 (mapV s.busy), MapE b2 (mapV s.lost)]) ?_ ?_
 ·by_cases f1 : (oAt s.ops n).key = e2
  rotate_left
  ·refine W_seq (W_draw (by kernel_rfl) ?_)
   refine WA_inv (T := []) hI.drew ?_
   intro Sx hSx hXS
   replace hI := hI.drew
   refine Vh 0 (hXS _ hI) rfl (Vi 1 (hXS _ hI) rfl (T8 2 1 (hXS _ hI) rfl (V9 3 (.int .i64 _) (hXS _ hI) rfl (fun W hW => have hI := hSx W hW; row_op hI.g2 rfl hn rfl) (Vc 4 2 (hXS _ hI) rfl (V9 5 (.int .i64 _) (hXS _ hI) rfl (fun W hW => (hSx W hW).c0 rfl) (Uj 6 (hXS _ hI) rfl (T5 7 (hXS _ hI) rfl (Vj 8 rfl (hXS _ hI) rfl (Vj 9 rfl (hXS _ hI) rfl (Vj 10 rfl (hXS _ hI) rfl (Vj 11 rfl (hXS _ hI) rfl (Vj 12 rfl (hXS _ hI) rfl (Vj 13 rfl (hXS _ hI) rfl ?_)))))))))))))
   refine Vj 14 rfl (hXS _ hI) rfl (Tu 15 (hXS _ hI) rfl (T5 16 (hXS _ hI) rfl (Vj 17 rfl (hXS _ hI) rfl (Vj 18 rfl (hXS _ hI) rfl (Vj 19 rfl (hXS _ hI) rfl (Vj 20 rfl (hXS _ hI) rfl (Vj 21 rfl (hXS _ hI) rfl (Vj 22 rfl (hXS _ hI) rfl (Vj 23 rfl (hXS _ hI) rfl (Tu 24 (hXS _ hI) rfl (T5 25 (hXS _ hI) rfl (Vj 26 rfl (hXS _ hI) rfl (Vj 27 rfl (hXS _ hI) rfl ?_)))))))))))))
   refine Vj 28 rfl (hXS _ hI) rfl (Vj 29 rfl (hXS _ hI) rfl (Vj 30 rfl (hXS _ hI) rfl (Vj 31 rfl (hXS _ hI) rfl (Vj 32 rfl (hXS _ hI) rfl (Tu 33 (hXS _ hI) rfl (WT_end (by kernel_rfl) (W_cond true rfl (W_seq (W_region (Vx rfl Tryz.underlying49 rfl (Vk rfl (WL_nil ?_))))))))))))
   refine W_ret ?_
   exact ret1 6 (.inr rfl) rfl (SeerPost.none (hun fun hf => f1 hf.1) hI)
  by_cases f2 : (oAt s.ops n).kind = e3
  rotate_left
  ·refine W_seq (W_draw (by kernel_rfl) ?_)
   refine WA_inv (T := []) hI.drew ?_
   intro Sx hSx hXS
   replace hI := hI.drew
   refine Vh 0 (hXS _ hI) rfl (Vi 1 (hXS _ hI) rfl (T8 2 1 (hXS _ hI) rfl (V9 3 (.int .i64 _) (hXS _ hI) rfl (fun W hW => have hI := hSx W hW; row_op hI.g2 rfl hn rfl) (Vc 4 2 (hXS _ hI) rfl (V9 5 (.int .i64 _) (hXS _ hI) rfl (fun W hW => (hSx W hW).c0 rfl) (U8 6 (hXS _ hI) rfl (T5 7 (hXS _ hI) rfl (Vh 8 (hXS _ hI) rfl (Vi 9 (hXS _ hI) rfl (T8 10 2 (hXS _ hI) rfl (V9 11 (.int .i64 _) (hXS _ hI) rfl (fun W hW => have hI := hSx W hW; row_op hI.g2 rfl hn rfl) (Vc 12 3 (hXS _ hI) rfl (V9 13 (.int .i64 _) (hXS _ hI) rfl (fun W hW => (hSx W hW).c0 rfl) ?_)))))))))))))
   refine Uj 14 (hXS _ hI) rfl (Tm 15 (hXS _ hI) rfl (T5 16 (hXS _ hI) rfl (Vj 17 rfl (hXS _ hI) rfl (Vj 18 rfl (hXS _ hI) rfl (Vj 19 rfl (hXS _ hI) rfl (Vj 20 rfl (hXS _ hI) rfl (Vj 21 rfl (hXS _ hI) rfl (Vj 22 rfl (hXS _ hI) rfl (Vj 23 rfl (hXS _ hI) rfl (Tu 24 (hXS _ hI) rfl (T5 25 (hXS _ hI) rfl (Vj 26 rfl (hXS _ hI) rfl (Vj 27 rfl (hXS _ hI) rfl ?_)))))))))))))
   refine Vj 28 rfl (hXS _ hI) rfl (Vj 29 rfl (hXS _ hI) rfl (Vj 30 rfl (hXS _ hI) rfl (Vj 31 rfl (hXS _ hI) rfl (Vj 32 rfl (hXS _ hI) rfl (Tu 33 (hXS _ hI) rfl (WT_end (by kernel_rfl) (W_cond true rfl (W_seq (W_region (Vx rfl Tryz.underlying49 rfl (Vk rfl (WL_nil ?_))))))))))))
   refine W_ret ?_
   exact ret1 6 (.inr rfl) rfl (SeerPost.none (hun fun hf => f2 hf.2.1) hI)
  by_cases f3 : (oAt s.ops n).a = e4
  rotate_left
  ·refine W_seq (W_draw (by kernel_rfl) ?_)
   refine WA_inv (T := []) hI.drew ?_
   intro Sx hSx hXS
   replace hI := hI.drew
   refine Vh 0 (hXS _ hI) rfl (Vi 1 (hXS _ hI) rfl (T8 2 1 (hXS _ hI) rfl (V9 3 (.int .i64 _) (hXS _ hI) rfl (fun W hW => have hI := hSx W hW; row_op hI.g2 rfl hn rfl) (Vc 4 2 (hXS _ hI) rfl (V9 5 (.int .i64 _) (hXS _ hI) rfl (fun W hW => (hSx W hW).c0 rfl) (U8 6 (hXS _ hI) rfl (T5 7 (hXS _ hI) rfl (Vh 8 (hXS _ hI) rfl (Vi 9 (hXS _ hI) rfl (T8 10 2 (hXS _ hI) rfl (V9 11 (.int .i64 _) (hXS _ hI) rfl (fun W hW => have hI := hSx W hW; row_op hI.g2 rfl hn rfl) (Vc 12 3 (hXS _ hI) rfl (V9 13 (.int .i64 _) (hXS _ hI) rfl (fun W hW => (hSx W hW).c0 rfl) ?_)))))))))))))
   refine U8 14 (hXS _ hI) rfl (Tm 15 (hXS _ hI) rfl (T5 16 (hXS _ hI) rfl (Vh 17 (hXS _ hI) rfl (Vi 18 (hXS _ hI) rfl (T8 19 3 (hXS _ hI) rfl (V9 20 (.int .i64 _) (hXS _ hI) rfl (fun W hW => have hI := hSx W hW; row_op hI.g2 rfl hn rfl) (Vc 21 4 (hXS _ hI) rfl (V9 22 (.int .i64 _) (hXS _ hI) rfl (fun W hW => (hSx W hW).c0 rfl) (Uj 23 (hXS _ hI) rfl (Tm 24 (hXS _ hI) rfl (T5 25 (hXS _ hI) rfl (Vj 26 rfl (hXS _ hI) rfl (Vj 27 rfl (hXS _ hI) rfl ?_)))))))))))))
   refine Vj 28 rfl (hXS _ hI) rfl (Vj 29 rfl (hXS _ hI) rfl (Vj 30 rfl (hXS _ hI) rfl (Vj 31 rfl (hXS _ hI) rfl (Vj 32 rfl (hXS _ hI) rfl (Tu 33 (hXS _ hI) rfl (WT_end (by kernel_rfl) (W_cond true rfl (W_seq (W_region (Vx rfl Tryz.underlying49 rfl (Vk rfl (WL_nil ?_))))))))))))
   refine W_ret ?_
   exact ret1 6 (.inr rfl) rfl (SeerPost.none (hun fun hf => f3 hf.2.2.1) hI)
  by_cases f4 : (oAt s.ops n).b = e5
  rotate_left
  ·refine W_seq (W_draw (by kernel_rfl) ?_)
   refine WA_inv (T := []) hI.drew ?_
   intro Sx hSx hXS
   replace hI := hI.drew
   refine Vh 0 (hXS _ hI) rfl (Vi 1 (hXS _ hI) rfl (T8 2 1 (hXS _ hI) rfl (V9 3 (.int .i64 _) (hXS _ hI) rfl (fun W hW => have hI := hSx W hW; row_op hI.g2 rfl hn rfl) (Vc 4 2 (hXS _ hI) rfl (V9 5 (.int .i64 _) (hXS _ hI) rfl (fun W hW => (hSx W hW).c0 rfl) (U8 6 (hXS _ hI) rfl (T5 7 (hXS _ hI) rfl (Vh 8 (hXS _ hI) rfl (Vi 9 (hXS _ hI) rfl (T8 10 2 (hXS _ hI) rfl (V9 11 (.int .i64 _) (hXS _ hI) rfl (fun W hW => have hI := hSx W hW; row_op hI.g2 rfl hn rfl) (Vc 12 3 (hXS _ hI) rfl (V9 13 (.int .i64 _) (hXS _ hI) rfl (fun W hW => (hSx W hW).c0 rfl) ?_)))))))))))))
   refine U8 14 (hXS _ hI) rfl (Tm 15 (hXS _ hI) rfl (T5 16 (hXS _ hI) rfl (Vh 17 (hXS _ hI) rfl (Vi 18 (hXS _ hI) rfl (T8 19 3 (hXS _ hI) rfl (V9 20 (.int .i64 _) (hXS _ hI) rfl (fun W hW => have hI := hSx W hW; row_op hI.g2 rfl hn rfl) (Vc 21 4 (hXS _ hI) rfl (V9 22 (.int .i64 _) (hXS _ hI) rfl (fun W hW => (hSx W hW).c0 rfl) (U8 23 (hXS _ hI) rfl (Tm 24 (hXS _ hI) rfl (T5 25 (hXS _ hI) rfl (Vh 26 (hXS _ hI) rfl (Vi 27 (hXS _ hI) rfl ?_)))))))))))))
   refine T8 28 4 (hXS _ hI) rfl (V9 29 (.int .i64 _) (hXS _ hI) rfl (fun W hW => have hI := hSx W hW; row_op hI.g2 rfl hn rfl) (Vc 30 5 (hXS _ hI) rfl (V9 31 (.int .i64 _) (hXS _ hI) rfl (fun W hW => (hSx W hW).c0 rfl) (Uj 32 (hXS _ hI) rfl (Tm 33 (hXS _ hI) rfl (WT_end (by kernel_rfl) (W_cond true rfl (W_seq (W_region (Vx rfl Tryz.underlying49 rfl (Vk rfl (WL_nil ?_))))))))))))
   refine W_ret ?_
   exact ret1 6 (.inr rfl) rfl (SeerPost.none (hun fun hf => f4 hf.2.2.2) hI)
  refine W_seq (W_draw (by kernel_rfl) ?_)
  refine WA_inv (T := []) hI.drew ?_
  intro Sx hSx hXS
  replace hI := hI.drew
  refine Vh 0 (hXS _ hI) rfl (Vi 1 (hXS _ hI) rfl (T8 2 1 (hXS _ hI) rfl (V9 3 (.int .i64 _) (hXS _ hI) rfl (fun W hW => have hI := hSx W hW; row_op hI.g2 rfl hn rfl) (Vc 4 2 (hXS _ hI) rfl (V9 5 (.int .i64 _) (hXS _ hI) rfl (fun W hW => (hSx W hW).c0 rfl) (U8 6 (hXS _ hI) rfl (T5 7 (hXS _ hI) rfl (Vh 8 (hXS _ hI) rfl (Vi 9 (hXS _ hI) rfl (T8 10 2 (hXS _ hI) rfl (V9 11 (.int .i64 _) (hXS _ hI) rfl (fun W hW => have hI := hSx W hW; row_op hI.g2 rfl hn rfl) (Vc 12 3 (hXS _ hI) rfl (V9 13 (.int .i64 _) (hXS _ hI) rfl (fun W hW => (hSx W hW).c0 rfl) ?_)))))))))))))
  refine U8 14 (hXS _ hI) rfl (Tm 15 (hXS _ hI) rfl (T5 16 (hXS _ hI) rfl (Vh 17 (hXS _ hI) rfl (Vi 18 (hXS _ hI) rfl (T8 19 3 (hXS _ hI) rfl (V9 20 (.int .i64 _) (hXS _ hI) rfl (fun W hW => have hI := hSx W hW; row_op hI.g2 rfl hn rfl) (Vc 21 4 (hXS _ hI) rfl (V9 22 (.int .i64 _) (hXS _ hI) rfl (fun W hW => (hSx W hW).c0 rfl) (U8 23 (hXS _ hI) rfl (Tm 24 (hXS _ hI) rfl (T5 25 (hXS _ hI) rfl (Vh 26 (hXS _ hI) rfl (Vi 27 (hXS _ hI) rfl ?_)))))))))))))
  refine T8 28 4 (hXS _ hI) rfl (V9 29 (.int .i64 _) (hXS _ hI) rfl (fun W hW => have hI := hSx W hW; row_op hI.g2 rfl hn rfl) (Vc 30 5 (hXS _ hI) rfl (V9 31 (.int .i64 _) (hXS _ hI) rfl (fun W hW => (hSx W hW).c0 rfl) (U8 32 (hXS _ hI) rfl (Tm 33 (hXS _ hI) rfl (WT_end (by kernel_rfl) (W_cond false rfl (W_skip ?_))))))))
  exact ⟨⟨f1, f2, f3, f4⟩, ⟨rfl, rfl, rfl, rfl, rfl, trivial⟩, hI⟩
 clear hI
 rintro ρ w ⟨hfit, hH, hI⟩
 obtain ⟨σ, rfl⟩ := hH.open
 have hgo := hgo hfit
 have olen : (if e1 = 2 then s.ops.set n (endOp (oAt s.ops n) ⟨e0, e1, e2, e3, e4, e5, e6⟩ i) else s.ops).length = s.ops.length := by split <;> simp
 have glen : (if e1 = 3 then s.gone.set n true else s.gone).length = s.gone.length := by split <;> simp
 refine W_seq_cut (fun ρ w => Has ρ [(0, .pointer (some ⟨sb, 0, none⟩)), (4, .pointer (some ⟨b4, 0, none⟩))] ∧ Inv S w0 w [B b4 48 #[.int .i64 e0, .int .i64 e1, .int .i64 e2, .int .i64 e3, .int .i64 e4, .int .i64 e5, .int .i64 e6], B sb 72 (seeC (some ⟨bO, 0, none⟩) s.ops.length co b1 b2 (some ⟨bG, 0, none⟩) s.gone.length cg), Row 0 77 8 (some ⟨bO, 0, none⟩) s.ops.length co ((if e1 = 2 then s.ops.set n (endOp (oAt s.ops n) ⟨e0, e1, e2, e3, e4, e5, e6⟩ i) else s.ops).flatMap opV), Row 0 4 1 (some ⟨bG, 0, none⟩) s.gone.length cg ((if e1 = 3 then s.gone.set n true else s.gone).map Value.bool), MapE b1 (mapV s.busy), MapE b2 (mapV (if e1 = 4 then updI s.lost e0 (some i) else s.lost))]) ?_ ?_
 ·refine W_seq (W_region (V5 1 rfl (V3 (.int .i64 _) rfl (hI.c0 rfl) (WL_nil (W_block ?_)))))
  by_cases t2 : e1 = 2
  ·refine W_seq (W_region (Vz rfl (V4 rfl (WL_nil (W_cond true rfl (W_draw (by kernel_rfl) ?_))))))
   refine WA_inv (T := [10]) hI.d2.drew ?_
   intro Sx hSx hXS
   replace hI := hI.drew
   refine Vh 0 (hXS _ hI.d2) rfl (Vh 1 (hXS _ hI.d2) rfl (Vw 2 (hXS _ hI.d2) rfl (Vc 3 6 (hXS _ hI.d2) rfl (V9 4 (.int .i64 _) (hXS _ hI.d2) rfl (fun W hW => (hSx W hW).c0 rfl) (Vi 5 (hXS _ hI.d2) rfl (T8 6 7 (hXS _ hI.d2) rfl (Vt 7 rfl ?_)))))))
   refine WL_stRow 2 rfl (u := .int .i64 (i : Int)) (j := 0 + n * 8 + 7) hI rfl rfl rfl rfl rfl rfl (by kernel_rfl) rfl (by rw [opsV_lenE]; omega) ?_
   clear hI; intro w hI
   simp only [List.set_cons_succ, List.set_cons_zero] at hI
   refine WL_nil ⟨hXS _ hI.d2, ?_⟩
   refine Vi 8 (hXS _ hI.d2) rfl (T8 9 5 (hXS _ hI.d2) rfl ?_)
   refine WT_A (by kernel_rfl) ?_
   clear hXS hSx
   refine T2 10 rfl ?_
   refine WL_stRow 2 rfl (u := .int .i64 e6) (j := 0 + n * 8 + 5) hI rfl rfl rfl rfl rfl rfl (by kernel_rfl) rfl (by rw [List.length_set, opsV_lenE]; omega) ?_
   clear hI; intro w hI
   simp only [List.set_cons_succ, List.set_cons_zero] at hI
   refine WL_nil ?_
   refine WA_end (by kernel_rfl) ?_
   rw [flat_end hn ⟨e0, e1, e2, e3, e4, e5, e6⟩ i] at hI
   rw [if_pos t2, if_neg (by omega), if_neg (by omega)]
   exact ⟨⟨rfl, rfl, trivial⟩, hI⟩
  ·rw [if_neg t2]
   refine W_seq (W_region (Vr rfl (V4 rfl (WL_nil (W_cond false rfl ?_)))))
   by_cases t3 : e1 = 3
   ·rw [if_pos t3, if_neg (by omega)]
    refine W_seq (W_region (Vz rfl (V4 rfl (WL_nil (W_cond true rfl (W_region (V7 rfl (Vb rfl (V5 3 rfl (V3 (.slice _ _ _) rfl (hI.c1 rfl) (V0 rfl (Tj rfl Tryz.underlying70 rfl ?_))))))))))))
    refine WL_stRow 3 rfl (u := .bool true) (j := n) hI rfl rfl rfl rfl rfl rfl (by kernel_rfl) rfl (by simp; omega) ?_
    clear hI; intro w hI
    simp only [List.set_cons_succ, List.set_cons_zero] at hI
    refine WL_nil ?_
    refine ⟨⟨rfl, rfl, trivial⟩, ?_⟩
    rw [List.map_set]
    exact hI
   ·rw [if_neg t3]
    refine W_seq (W_region (Vr rfl (V4 rfl (WL_nil (W_cond false rfl ?_)))))
    by_cases t4 : e1 = 4
    ·rw [if_pos t4]
     refine W_seq (W_region (Vz rfl (V4 rfl (WL_nil (W_cond true rfl (W_draw (by kernel_rfl) ?_))))))
     refine WA_inv (T := [7]) hI.drew ?_
     intro Sx hSx hXS
     replace hI := hI.drew
     refine Vh 0 (hXS _ hI) rfl (Vi 1 (hXS _ hI) rfl (Vc 2 2 (hXS _ hI) rfl (V9 3 (.map _) (hXS _ hI) rfl (fun W hW => (hSx W hW).c1 rfl) (Vc 4 0 (hXS _ hI) rfl (V9 5 (.int .i64 _) (hXS _ hI) rfl (fun W hW => (hSx W hW).c0 rfl) (Vw 6 (hXS _ hI) rfl ?_))))))
     refine WT_A (by kernel_rfl) ?_
     clear hXS hSx
     refine T2 7 rfl ?_
     refine WL_mapSet (v := .int .i64 (i : Int)) 5 rfl hI rfl rfl rfl Tryz.underlying69 Tryz.underlying3 rfl rfl rfl ?_
     clear hI; intro w hI
     simp only [List.set_cons_succ, List.set_cons_zero] at hI
     rw [mapV_upd] at hI
     refine WL_nil ?_
     refine WA_end (by kernel_rfl) ?_
     exact ⟨⟨rfl, rfl, trivial⟩, hI⟩
    ·rw [if_neg t4]
     refine W_seq (W_region (Vr rfl (V4 rfl (WL_nil (W_cond false rfl (W_skip ?_))))))
     exact ⟨⟨rfl, rfl, trivial⟩, hI⟩
 clear hI
 rintro ρ w ⟨hH, hI⟩
 obtain ⟨σ, rfl⟩ := hH.open
 refine W_seq (W_draw (by kernel_rfl) ?_)
 refine WA_inv (T := [6]) hI.drew ?_
 intro Sx hSx hXS
 replace hI := hI.drew
 refine Vh 0 (hXS _ hI) rfl (Vi 1 (hXS _ hI) rfl (Vc 2 1 (hXS _ hI) rfl (V9 3 (.map _) (hXS _ hI) rfl (fun W hW => (hSx W hW).c1 rfl) (Vc 4 0 (hXS _ hI) rfl (V9 5 (.int .i64 _) (hXS _ hI) rfl (fun W hW => (hSx W hW).c0 rfl) ?_)))))
 refine WT_A (by kernel_rfl) ?_
 clear hXS hSx
 refine T2 6 rfl ?_
 refine WL_mapDel 4 rfl hI rfl rfl rfl Tryz.underlying69 Tryz.underlying3 rfl rfl ?_
 clear hI; intro w hI
 simp only [List.set_cons_succ, List.set_cons_zero] at hI
 rw [mapV_del] at hI
 refine WL_nil ?_
 refine WA_end (by kernel_rfl) ?_
 refine W_seq (W_region (Vf rfl (WL_nil ?_)))
 refine W_ret ?_
 refine ret1 6 (.inr rfl) rfl (SeerPost.some (Ao' := some ⟨bO, 0, none⟩) (co' := co) (Ag' := some ⟨bG, 0, none⟩) (cg' := cg) hgo ?_)
 unfold prtS OpsE BoolE
 simp only [olen, glen]
 exact hI.d0
end Go.Proofs.YthndpiopbdecfaaGreatDoor
namespace Go.Proofs.YthndpiopbdecfaaGreatDoor
set_option linter.unusedVariables false
set_option linter.unusedSimpArgs false
def goneAt (s : SeeS) (n : Nat) : Bool := s.gone.getD n false
/-- What is known of a seer that is at the event i. -/
structure SeeOk (l : List Ev) (i : Nat) (s : SeeS) : Prop where
 glen : s.gone.length = s.ops.length
 called : ∀ n, n < s.ops.length → ∃ c : Nat, c < i ∧ (oAt s.ops n).call = c ∧ ∃ e, l[c]? = some e ∧ e.ty = 1 ∧ evOkB e = true ∧ e.proc = (oAt s.ops n).proc ∧ e.key = (oAt s.ops n).key ∧ e.kind = (oAt s.ops n).kind ∧ e.a = (oAt s.ops n).a ∧ e.b = (oAt s.ops n).b
 rise : ∀ m n, m < n → n < s.ops.length → (oAt s.ops m).call < (oAt s.ops n).call
 ret : ∀ n, n < s.ops.length → ((oAt s.ops n).ret = -1 ∧ (oAt s.ops n).res = 0) ∨ ∃ r : Nat, r < i ∧ (oAt s.ops n).ret = r ∧ (oAt s.ops n).call < r ∧ goneAt s n = false ∧ ∃ e, l[r]? = some e ∧ e.ty = 2 ∧ evOkB e = true ∧ e.res = (oAt s.ops n).res
 once : ∀ m n, m < n → n < s.ops.length → (oAt s.ops n).ret ≠ -1 → (oAt s.ops m).ret ≠ (oAt s.ops n).ret
 busy : ∀ p n, s.busy p = some n → n < s.ops.length ∧ (oAt s.ops n).proc = p ∧ (oAt s.ops n).ret = -1 ∧ goneAt s n = false ∧ s.lost p = none
 free : ∀ n, n < s.ops.length → (oAt s.ops n).ret = -1 → goneAt s n = false → s.busy (oAt s.ops n).proc = some n ∨ s.lost (oAt s.ops n).proc ≠ none
 order : ∀ m n, m < n → n < s.ops.length → (oAt s.ops m).proc = (oAt s.ops n).proc → goneAt s m = false → 0 ≤ (oAt s.ops m).ret ∧ (oAt s.ops m).ret < (oAt s.ops n).call
theorem seeOk_init (l : List Ev) : SeeOk l 0 initE := by
 refine ⟨rfl, ?_, ?_, ?_, ?_, ?_, ?_, ?_⟩
 ·intro n hn; exact absurd hn (Nat.not_lt_zero n)
 ·intro m n _ hn; exact absurd hn (Nat.not_lt_zero n)
 ·intro n hn; exact absurd hn (Nat.not_lt_zero n)
 ·intro m n _ hn; exact absurd hn (Nat.not_lt_zero n)
 ·intro p n hb; cases hb
 ·intro n hn; exact absurd hn (Nat.not_lt_zero n)
 ·intro m n _ hn; exact absurd hn (Nat.not_lt_zero n)
theorem goneAt_app {s : SeeS} {n : Nat} (h : s.gone.length = s.ops.length) : (s.gone ++ [false]).getD n false = goneAt s n := by
 unfold goneAt
 rw [List.getD_eq_getElem?_getD, List.getD_eq_getElem?_getD]
 rcases Nat.lt_trichotomy n s.gone.length with h1 | h1 | h1
 ·rw [List.getElem?_append_left h1]
 ·subst h1
  rw [List.getElem?_append_right (Nat.le_refl _), List.getElem?_eq_none (Nat.le_refl _), Nat.sub_self]; rfl
 ·rw [List.getElem?_eq_none (by simp; omega), List.getElem?_eq_none (by omega)]
theorem goneAt_set {s : SeeS} {n m : Nat} (h : n < s.gone.length) : (s.gone.set n true).getD m false = if n = m then true else goneAt s m := by
 unfold goneAt
 rw [List.getD_eq_getElem?_getD, List.getD_eq_getElem?_getD, List.getElem?_set]
 by_cases h1 : n = m
 ·subst h1; simp [h]
 ·rw [if_neg h1, if_neg h1]
theorem seeOk_begin {l : List Ev} {i : Nat} {s s' : SeeS} {e : Ev} (h : SeeOk l i s) (he : l[i]? = some e) (hok : evOkB e = true) (hty : e.ty = 1) (hs : beginF e i s = some s') : SeeOk l (i + 1) s' := by
 unfold beginF at hs
 split at hs
 ·cases hs
 rename_i hno
 have hb : s.busy e.proc = none := by
  cases hx : s.busy e.proc with
  | none => rfl
  | some n => exact absurd (.inl (by rw [hx]; simp)) hno
 have hl : s.lost e.proc = none := by
  cases hx : s.lost e.proc with
  | none => rfl
  | some n => exact absurd (.inr (by rw [hx]; simp)) hno
 injection hs with hs
 subst hs
 have hlen : (s.ops ++ [newOp e i]).length = s.ops.length + 1 := by simp
 have old : ∀ {n}, n < s.ops.length → oAt (s.ops ++ [newOp e i]) n = oAt s.ops n := fun hn => oAt_app_l hn
 have new : oAt (s.ops ++ [newOp e i]) s.ops.length = newOp e i := oAt_app_r
 have hgs : ∀ n, goneAt ⟨s.ops ++ [newOp e i], updI s.busy e.proc (some s.ops.length), s.lost, s.gone ++ [false]⟩ n = goneAt s n := fun n => goneAt_app h.glen
 have gnew : goneAt s s.ops.length = false := by
  unfold goneAt
  rw [List.getD_eq_getElem?_getD, List.getElem?_eq_none (by rw [h.glen]; exact Nat.le_refl _)]; rfl
 have two : ∀ {n}, n < s.ops.length + 1 → n < s.ops.length ∨ n = s.ops.length := fun hn => by omega
 refine ⟨by simp [h.glen], ?_, ?_, ?_, ?_, ?_, ?_, ?_⟩
 ·intro n hn
  rcases two (by simpa using hn) with h1 | h1
  ·obtain ⟨c, h2, h3⟩ := h.called n h1
   simp only [old h1]
   exact ⟨c, by omega, h3⟩
  ·subst h1
   simp only [new]
   exact ⟨i, by omega, rfl, e, he, hty, hok, rfl, rfl, rfl, rfl, rfl⟩
 ·intro m n hmn hn
  rcases two (by simpa using hn) with h1 | h1
  ·simp only [old h1, old (show m < s.ops.length by omega)]; exact h.rise m n hmn h1
  ·subst h1
   simp only [new, old hmn]
   obtain ⟨c, h2, h3, _⟩ := h.called m hmn
   rw [h3]; show (c : Int) < (i : Int); omega
 ·intro n hn
  rw [hgs]
  rcases two (by simpa using hn) with h1 | h1
  ·simp only [old h1]
   rcases h.ret n h1 with h2 | ⟨r, h2, h3⟩
   ·exact .inl h2
   ·exact .inr ⟨r, by omega, h3⟩
  ·subst h1
   simp only [new]
   exact .inl ⟨rfl, rfl⟩
 ·intro m n hmn hn hr
  rcases two (by simpa using hn) with h1 | h1
  ·simp only [old h1, old (show m < s.ops.length by omega)] at hr ⊢; exact h.once m n hmn h1 hr
  ·subst h1
   simp only [new] at hr
   exact absurd rfl hr
 ·intro p n hp
  rw [hgs]
  simp only [updI] at hp
  by_cases hpe : p = e.proc
  ·rw [if_pos hpe] at hp
   injection hp with hp
   subst hp hpe
   simp only [new]
   exact ⟨by simp, rfl, rfl, gnew, hl⟩
  ·rw [if_neg hpe] at hp
   obtain ⟨h1, h2⟩ := h.busy p n hp
   simp only [old h1]
   exact ⟨by simp; omega, h2⟩
 ·intro n hn hr hg
  rw [hgs] at hg
  simp only [updI]
  rcases two (by simpa using hn) with h1 | h1
  ·simp only [old h1] at hr ⊢
   rcases h.free n h1 hr hg with h2 | h2
   ·by_cases hpe : (oAt s.ops n).proc = e.proc
    ·rw [hpe, hb] at h2; cases h2
    ·rw [if_neg hpe]; exact .inl h2
   ·exact .inr h2
  ·subst h1
   simp only [new]
   exact .inl (if_pos rfl)
 ·intro m n hmn hn hp hg
  rw [hgs] at hg
  rcases two (by simpa using hn) with h1 | h1
  ·simp only [old h1, old (show m < s.ops.length by omega)] at hp ⊢; exact h.order m n hmn h1 hp hg
  ·subst h1
   simp only [new, old hmn] at hp ⊢
   have hp : (oAt s.ops m).proc = e.proc := hp
   rcases h.ret m hmn with ⟨h2, _⟩ | ⟨r, h2, h3, _⟩
   ·rcases h.free m hmn h2 hg with h4 | h4
    ·rw [hp, hb] at h4; cases h4
    ·rw [hp, hl] at h4; exact absurd rfl h4
   ·rw [h3]
    refine ⟨by omega, ?_⟩
    show (r : Int) < (i : Int)
    omega
theorem seeOk_end {l : List Ev} {i : Nat} {s s' : SeeS} {e : Ev} (h : SeeOk l i s) (he : l[i]? = some e) (hok : evOkB e = true) (hty : e.ty ≠ 1) (hs : endF e i s = some s') : SeeOk l (i + 1) s' := by
 unfold endF at hs
 split at hs
 ·cases hs
 rename_i n hb
 split at hs
 rotate_left
 ·cases hs
 rename_i hfit
 injection hs with hs
 subst hs
 obtain ⟨hn, hnp, hnr, hng, hnl⟩ := h.busy e.proc n hb
 have hng' : n < s.gone.length := by rw [h.glen]; exact hn
 -- the ops, and what is gone
 obtain ⟨O, hO⟩ : ∃ O, O = (if e.ty = 2 then s.ops.set n (endOp (oAt s.ops n) e i) else s.ops) := ⟨_, rfl⟩
 obtain ⟨G, hG⟩ : ∃ G, G = (if e.ty = 3 then s.gone.set n true else s.gone) := ⟨_, rfl⟩
 obtain ⟨Lo, hLo⟩ : ∃ Lo, Lo = (if e.ty = 4 then updI s.lost e.proc (some i) else s.lost) := ⟨_, rfl⟩
 rw [← hO, ← hG, ← hLo]
 have olen : O.length = s.ops.length := by rw [hO]; split <;> simp
 have glen : G.length = s.ops.length := by rw [hG]; split <;> simp [h.glen]
 have oat : ∀ m, oAt O m = if e.ty = 2 ∧ n = m then endOp (oAt s.ops n) e i else oAt s.ops m := by
  intro m
  rw [hO]
  by_cases h2 : e.ty = 2
  ·rw [if_pos h2, oAt_setE hn]
   by_cases hnm : n = m
   ·rw [if_pos hnm, if_pos ⟨h2, hnm⟩]
   ·rw [if_neg hnm, if_neg (fun hh => hnm hh.2)]
  ·rw [if_neg h2, if_neg (fun hh => h2 hh.1)]
 have gat : ∀ m, G.getD m false = if e.ty = 3 ∧ n = m then true else goneAt s m := by
  intro m
  rw [hG]
  by_cases h2 : e.ty = 3
  ·rw [if_pos h2, goneAt_set hng']
   by_cases hnm : n = m
   ·rw [if_pos hnm, if_pos ⟨h2, hnm⟩]
   ·rw [if_neg hnm, if_neg (fun hh => hnm hh.2)]
  ·rw [if_neg h2, if_neg (fun hh => h2 hh.1)]; rfl
 have gone_of : ∀ m, G.getD m false = false → goneAt s m = false := by
  intro m hm
  rw [gat] at hm
  split at hm
  ·cases hm
  ·exact hm
 -- fields that stay
 have stay : ∀ m, (oAt O m).proc = (oAt s.ops m).proc ∧ (oAt O m).key = (oAt s.ops m).key ∧ (oAt O m).kind = (oAt s.ops m).kind ∧ (oAt O m).a = (oAt s.ops m).a ∧ (oAt O m).b = (oAt s.ops m).b ∧ (oAt O m).call = (oAt s.ops m).call := by
  intro m
  rw [oat]
  split
  ·rename_i hh; obtain ⟨_, rfl⟩ := hh; exact ⟨rfl, rfl, rfl, rfl, rfl, rfl⟩
  ·exact ⟨rfl, rfl, rfl, rfl, rfl, rfl⟩
 have retO : ∀ m, (oAt O m).ret = if e.ty = 2 ∧ n = m then (i : Int) else (oAt s.ops m).ret := by
  intro m
  rw [oat]
  split <;> rfl
 have resO : ∀ m, (oAt O m).res = if e.ty = 2 ∧ n = m then e.res else (oAt s.ops m).res := by
  intro m
  rw [oat]
  split <;> rfl
 have retlt : ∀ m, m < s.ops.length → (oAt s.ops m).ret < i := by
  intro m hm
  rcases h.ret m hm with ⟨h2, _⟩ | ⟨r, h2, h3, _⟩
  ·rw [h2]; omega
  ·rw [h3]; omega
 have busyN : ∀ p m, s.busy p = some m → p ≠ e.proc → m ≠ n := fun p m hp hpe hmn => by
  subst hmn
  exact hpe ((h.busy p m hp).2.1.symm.trans hnp)
 refine ⟨by rw [glen, olen], ?_, ?_, ?_, ?_, ?_, ?_, ?_⟩
 ·intro m hm
  simp only at hm ⊢
  rw [olen] at hm
  obtain ⟨s1, s2, s3, s4, s5, s6⟩ := stay m
  obtain ⟨c, h2, h3⟩ := h.called m hm
  rw [s1, s2, s3, s4, s5, s6]
  exact ⟨c, by omega, h3⟩
 ·intro m k hmk hk
  simp only at hk ⊢
  rw [olen] at hk
  rw [(stay m).2.2.2.2.2, (stay k).2.2.2.2.2]
  exact h.rise m k hmk hk
 ·intro m hm
  simp only at hm
  rw [olen] at hm
  have hgm : goneAt ⟨O, updI s.busy e.proc none, Lo, G⟩ m = G.getD m false := rfl
  simp only [retO, resO, (stay m).2.2.2.2.2, hgm, gat]
  by_cases h2 : e.ty = 2 ∧ n = m
  ·simp only [if_pos h2]
   obtain ⟨h2, rfl⟩ := h2
   obtain ⟨c, h5, h6, _⟩ := h.called n hn
   refine .inr ⟨i, by omega, rfl, by rw [h6]; omega, ?_, e, he, h2, hok, rfl⟩
   rw [if_neg (fun hh => by rw [h2] at hh; exact absurd hh.1 (by decide))]
   exact hng
  ·simp only [if_neg h2]
   rcases h.ret m hm with h3 | ⟨r, h3, h4, h5, h6, h7⟩
   ·exact .inl h3
   ·refine .inr ⟨r, by omega, h4, h5, ?_, h7⟩
    rw [if_neg (fun hh => by obtain ⟨_, rfl⟩ := hh; rw [hnr] at h4; omega)]
    exact h6
 ·intro m k hmk hk
  simp only at hk
  rw [olen] at hk
  simp only [retO]
  intro hr
  have hm : m < s.ops.length := by omega
  have r1 := retlt m hm
  have r2 := retlt k hk
  by_cases hk2 : e.ty = 2 ∧ n = k
  ·rw [if_pos hk2, if_neg (fun hh => by have := hh.2; have := hk2.2; omega)]
   omega
  ·rw [if_neg hk2] at hr ⊢
   by_cases hm2 : e.ty = 2 ∧ n = m
   ·rw [if_pos hm2]; omega
   ·rw [if_neg hm2]; exact h.once m k hmk hk hr
 ·intro p m hp
  simp only [updI] at hp
  by_cases hpe : p = e.proc
  ·rw [if_pos hpe] at hp; cases hp
  ·rw [if_neg hpe] at hp
   obtain ⟨h1, h2, h3, h4, h5⟩ := h.busy p m hp
   have hmn := busyN p m hp hpe
   have hgm : goneAt ⟨O, updI s.busy e.proc none, Lo, G⟩ m = G.getD m false := rfl
   simp only [hgm, gat, retO, (stay m).1]
   rw [if_neg (fun hh => hmn hh.2.symm), if_neg (fun hh => hmn hh.2.symm)]
   refine ⟨by show m < O.length; rw [olen]; exact h1, h2, h3, h4, ?_⟩
   show Lo p = none
   rw [hLo]
   split
   ·unfold updI; rw [if_neg hpe]; exact h5
   ·exact h5
 ·intro m hm hr hg
  simp only at hm hr ⊢
  rw [olen] at hm
  have hgm : goneAt ⟨O, updI s.busy e.proc none, Lo, G⟩ m = G.getD m false := rfl
  rw [hgm] at hg
  rw [(stay m).1]
  have hgm2 := gone_of m hg
  by_cases hmn : n = m
  ·subst hmn
   have h2 : e.ty ≠ 2 := fun hh => by rw [retO, if_pos ⟨hh, rfl⟩] at hr; omega
   have h3 : e.ty ≠ 3 := fun hh => by rw [gat, if_pos ⟨hh, rfl⟩] at hg; cases hg
   have h4 : e.ty = 4 := by
    unfold evOkB inB at hok
    simp at hok
    omega
   refine .inr ?_
   show Lo (oAt s.ops n).proc ≠ none
   rw [hLo, if_pos h4, hnp]
   unfold updI
   rw [if_pos rfl]
   simp
  ·rw [retO, if_neg (fun hh => hmn hh.2)] at hr
   rcases h.free m hm hr hgm2 with h5 | h5
   ·by_cases hpe : (oAt s.ops m).proc = e.proc
    ·rw [hpe, hb] at h5
     injection h5 with h5
     exact absurd h5 hmn
    ·left
     unfold updI
     rw [if_neg hpe]
     exact h5
   ·right
    show Lo _ ≠ none
    rw [hLo]
    split
    ·unfold updI
     split
     ·simp
     ·exact h5
    ·exact h5
 ·intro m k hmk hk hp hg
  simp only at hk hp ⊢
  rw [olen] at hk
  have hgm : goneAt ⟨O, updI s.busy e.proc none, Lo, G⟩ m = G.getD m false := rfl
  rw [hgm] at hg
  rw [(stay m).1, (stay k).1] at hp
  have h1 := h.order m k hmk hk hp (gone_of m hg)
  rw [retO, (stay k).2.2.2.2.2]
  rw [if_neg (fun hh => by obtain ⟨_, rfl⟩ := hh; rw [hnr] at h1; omega)]
  exact h1
theorem seeOk_step {l : List Ev} {i : Nat} {s s' : SeeS} {e : Ev} (h : SeeOk l i s) (hi : l[i]? = some e) (hs : stepE e i s = some s') : SeeOk l (i + 1) s' := by
 unfold stepE at hs
 split at hs
 ·rename_i hok
  split at hs
  ·rename_i hty; exact seeOk_begin h hi hok hty hs
  ·rename_i hty; exact seeOk_end h hi hok hty hs
 ·cases hs
end Go.Proofs.YthndpiopbdecfaaGreatDoor
namespace Go.Proofs.YthndpiopbdecfaaGreatDoor
open Go Go.Extern
set_option linter.unusedVariables false
set_option linter.unusedSimpArgs false
/-- The handle of a type. -/
abbrev hdl (t : Nat) : Value := .pointer (some ⟨10, t, none⟩)
section
variable {P : Program} {ρ : Env} {o : Oper} {w w' : World} {x y z : Operand} {v : Value} {t t' : TypeId}
theorem rExt {f : FuncId} {bs : List Operand} {ts : Array TypeId} {vs : List Value} (ho : o.op = .call { callee := .value (.func f), args := bs.toArray, argTypes := ts }) (hv : bs.map (ev ρ) = vs) (hc : (callFunc f vs.toArray).run P w = .ok (.value v) w') : (execOp (ev ρ) o).run P w = .ok (.value v) w' := by
 simp [execOp, ho, resolve, ev, Deferred.ofValue, invoke, hv, hc]
theorem rExtI {name : String} {x : Operand} {bs : List Operand} {ts : Array TypeId} {vs : List Value} {u : Value} (ho : o.op = .call { callee := .invoke x name, args := bs.toArray, argTypes := ts }) (hx : ev ρ x = .iface t u) (hv : bs.map (ev ρ) = vs) (hc : (callMethod (.iface t u) name vs.toArray).run P w = .ok (.value v) w') : (execOp (ev ρ) o).run P w = .ok (.value v) w' := by
 simp [execOp, ho, resolve, invoke, hx, hv, Array.extract_append, hc]
end
section
variable {P : Program} {N : Nat} {ops : Array Oper} {Q : XPost} {rest : List Oper} {ρ : Env} {o : Oper} {w0 w : World} {S : Nat → Prop} {H : List Ent} {d t : Nat} {cs : Array Value}
theorem WL_xbox {v : Nat → Value} (hI : Inv S w0 w H) (hw : wantedR ops ρ o = true) (hd : o.dst = some d) (hN : Nat.blt d N = true) (hr : (execOp (ev ρ) o).run P w = .ok (.value (v w.heap.size)) (w.alloc (.cells cs t)))
  (h : ∀ g w', Inv S w0 w' (B g t cs :: H) → WL P N ops Q rest (upd ρ d (v g)) w') : WL P N ops Q (o :: rest) ρ w :=
 WL_eff hw hd hN hr (h _ _ (hI.box t cs))
end
theorem x_valueOfT (a : Addr) (w : World) : (callFunc 89 #[.iface 136 (.pointer (some a))]).run Tryz.prog w = .ok (.value (.agg #[hdl 136, .pointer (some ⟨w.heap.size, 0, none⟩), .int .u64 150])) (w.alloc (.cells #[.pointer (some a)] 136)) := by kernel_rfl
theorem x_type (a : Addr) (w : World) : (callFunc 90 #[.agg #[hdl 136, .pointer (some a), .int .u64 150]]).run Tryz.prog w = .ok (.value (.iface 235 (.agg #[hdl 136]))) w := by kernel_rfl
theorem x_kindP (w : World) : (callMethod (.iface 235 (.agg #[hdl 136])) "Kind" #[]).run Tryz.prog w = .ok (.value (.int .u8 22)) w := by kernel_rfl
theorem x_elemT (w : World) : (callMethod (.iface 235 (.agg #[hdl 136])) "Elem" #[]).run Tryz.prog w = .ok (.value (.iface 235 (.agg #[hdl 49]))) w := by kernel_rfl
theorem x_kindE (w : World) : (callMethod (.iface 235 (.agg #[hdl 49])) "Kind" #[]).run Tryz.prog w = .ok (.value (.int .u8 2)) w := by kernel_rfl
theorem x_impl (w : World) : (callMethod (.iface 235 (.agg #[hdl 49])) "Implements" #[.iface 235 (.agg #[hdl 29])]).run Tryz.prog w = .ok (.value (.bool true)) w := by kernel_rfl
theorem x_typeOf (v : Value) (w : World) : (callFunc 125 #[.iface 49 v]).run Tryz.prog w = .ok (.value (.iface 235 (.agg #[hdl 49]))) w := by kernel_rfl
theorem x_assign (w : World) : (callMethod (.iface 235 (.agg #[hdl 49])) "AssignableTo" #[.iface 235 (.agg #[hdl 49])]).run Tryz.prog w = .ok (.value (.bool true)) w := by kernel_rfl
theorem x_valueOfE (n : Int) (w : World) : (callFunc 89 #[.iface 49 (.int .i64 n)]).run Tryz.prog w = .ok (.value (.agg #[hdl 49, .pointer (some ⟨w.heap.size, 0, none⟩), .int .u64 130])) (w.alloc (.cells #[.int .i64 n] 49)) := by kernel_rfl
theorem x_noAs (p : Value) (w : World) : (Instr.typeAssert (.iface 87 p) 29 240 true).run Tryz.prog w = .ok (.tuple #[.nilIface, .bool false]) w := _root_.Go.run_typeAssert_lacksB Tryz.underlying240 (by kernel_rfl) (by kernel_rfl) p 29 w
theorem x_hasUn (p : Value) (w : World) : (Instr.typeAssert (.iface 87 p) 29 243 true).run Tryz.prog w = .ok (.tuple #[.iface 87 p, .bool true]) w := by kernel_rfl
theorem x_typeOfA (p : Value) (w : World) : (callFunc 125 #[.iface 87 p]).run Tryz.prog w = .ok (.value (.iface 235 (.agg #[hdl 87]))) w := by kernel_rfl
theorem x_noAssign (w : World) : (callMethod (.iface 235 (.agg #[hdl 87])) "AssignableTo" #[.iface 235 (.agg #[hdl 49])]).run Tryz.prog w = .ok (.value (.bool false)) w := by kernel_rfl
theorem x_unwrap (p : Value) (w : World) : (callMethod (.iface 87 p) "Unwrap" #[]).run Tryz.prog w = .ok (.enter 182 #[p]) w := by kernel_rfl
theorem rlm (z : Sem Value) (f : TypeId → Addr → Nat → Nat → Sem Value) (v : Value) :
  ReflectliteValue.method z f #[v] = (do match ← ReflectliteValue.parts v with | none => z | some (t, a, fl) => f t a fl (fl % 32)) := rfl
theorem x_partsP (a : Addr) (w : World) : (ReflectliteValue.parts (.agg #[hdl 136, .pointer (some a), .int .u64 150])).run Tryz.prog w = .ok (some (136, a, 150)) w := by kernel_rfl
theorem x_isNil (a p : Addr) (W : World) (ha : W.cell? a = some (.pointer (some p))) :
  (callFunc 91 #[.agg #[hdl 136, .pointer (some a), .int .u64 150]]).run Tryz.prog W = .ok (.value (.bool false)) W := by
 rw [@run_callFunc_extern Tryz.prog 91 _ (ReflectliteValue.method (ReflectliteValue.valueError "reflectlite.Value.IsNil" 0) ReflectliteValue.isNil) Tryz.func91 (by kernel_rfl) (by kernel_rfl) (by kernel_rfl) (by kernel_rfl), rlm]
 simp only [Sem.run_bind, x_partsP, Result.andThen]
 simp [ReflectliteValue.isNil, loadVar, isAgg, underlying, Tryz.underlying136, ha, Result.andThen]
theorem x_elemOf (w : World) : (Rtype.elem? 136).run Tryz.prog w = .ok (some 49) w := by kernel_rfl
theorem x_mkE (p : Addr) (w : World) : (ReflectliteValue.mk 49 p ReflectliteValue.flagAddr).run Tryz.prog w = .ok (.agg #[hdl 49, .pointer (some p), .int .u64 386]) w := by kernel_rfl
theorem x_elemV (a p : Addr) (W : World) (ha : W.cell? a = some (.pointer (some p))) :
  (callFunc 126 #[.agg #[hdl 136, .pointer (some a), .int .u64 150]]).run Tryz.prog W = .ok (.value (.agg #[hdl 49, .pointer (some p), .int .u64 386])) W := by
 rw [@run_callFunc_extern Tryz.prog 126 _ (ReflectliteValue.method (ReflectliteValue.valueError "reflectlite.Value.Elem" 0) ReflectliteValue.elem) Tryz.func126 (by kernel_rfl) (by kernel_rfl) (by kernel_rfl) (by kernel_rfl), rlm]
 simp only [Sem.run_bind, x_partsP, Result.andThen]
 simp [ReflectliteValue.elem, loadVar, isAgg, underlying, Tryz.underlying136, ha, Result.andThen, x_elemOf, x_mkE]
theorem rls (v x : Value) : ReflectliteValue.set #[v, x] = (do
  let (some (dst, a, fl), some (src, b, _)) := (← ReflectliteValue.parts v, ← ReflectliteValue.parts x)
   | unsupported (.noEntry "extern/(internal/reflectlite.Value).Set.zeroValue")
  if fl / ReflectliteValue.flagAddr % 2 == 0 then unsupported (.noEntry "extern/(internal/reflectlite.Value).Set.unaddressable")
  let val ← loadVar src b
  if ← Rtype.directlyAssignable dst src then storeVar dst a val
  else if ← Rtype.implements dst src then
   if (← Rtype.kind src) == 20 then
    match val with
    | .nilIface => unsupported (.noEntry "extern/reflectlite: a nil value of one interface type handed on as a value of another")
    | _ => storeVar dst a val
   else storeVar dst a (.iface src val)
  else panicString ("reflectlite.Set: value of type " ++ (← Rtype.spelt src) ++ " is not assignable to type " ++ (← Rtype.spelt dst))
  pure (.tuple #[])) := rfl
theorem x_partsE (a : Addr) (w : World) : (ReflectliteValue.parts (.agg #[hdl 49, .pointer (some a), .int .u64 386])).run Tryz.prog w = .ok (some (49, a, 386)) w := by kernel_rfl
theorem x_partsF (a : Addr) (w : World) : (ReflectliteValue.parts (.agg #[hdl 49, .pointer (some a), .int .u64 130])).run Tryz.prog w = .ok (some (49, a, 130)) w := by kernel_rfl
theorem x_direct (w : World) : (Rtype.directlyAssignable 49 49).run Tryz.prog w = .ok true w := by kernel_rfl
theorem x_set (ta b : Addr) (n : Int) (old : Value) (W : World) (hb : W.cell? b = some (.int .i64 n)) (ht : W.cell? ta = some old) (hf : W.frozen? ta = false) :
  (callFunc 127 #[.agg #[hdl 49, .pointer (some ta), .int .u64 386], .agg #[hdl 49, .pointer (some b), .int .u64 130]]).run Tryz.prog W = .ok (.value (.tuple #[])) (W.setCell ta (.int .i64 n)) := by
 rw [@run_callFunc_extern Tryz.prog 127 _ ReflectliteValue.set Tryz.func127 (by kernel_rfl) (by kernel_rfl) (by kernel_rfl) (by kernel_rfl), rls]
 simp only [Sem.run_bind, x_partsE, x_partsF, Result.andThen]
 simp [ReflectliteValue.flagAddr, loadVar, isAgg, underlying, Tryz.underlying49, hb, Result.andThen, x_direct, storeVar, Value.cells, storeCells, Addr.add]
 rw [_root_.Go.run_store Tryz.prog W ta _ _ (by rfl)]
 simp [ht, hf]
theorem rTA {P : Program} {ρ : Env} {o : Oper} {w : World} {x : Operand} {s d : TypeId} {c : Bool} {u r : Value} (ho : o.op = .typeAssert x s d c) (hx : ev ρ x = u) (hr : (Instr.typeAssert u s d c).run P w = .ok r w) : Runs P ρ o w r := by
 simp [Runs, execOp, ho, hx, hr]
/-- An error of this program: a number, or a number at a place. -/
abbrev patT : Nat := 87
def AtP (w : World) (b o : Nat) (n : Int) : Prop := w.cell? ⟨b, o, none⟩ = some (.int .i64 n)
theorem AtP.cell {w : World} {b o : Nat} {n : Int} (h : AtP w b o n) : w.cell? ⟨b, o, none⟩ = some (.int .i64 n) := h
theorem AtP.keep {w w' : World} {b o : Nat} {n : Int} (_ : AtP w b o n) (h : w'.cell? ⟨b, o, none⟩ = some (.int .i64 n)) : AtP w' b o n := h
def IsE (w : World) (v : Value) (n : Int) : Prop := v = .iface 49 (.int .i64 n) ∨ ∃ b o : Nat, v = .iface patT (.pointer (some ⟨b, o, none⟩)) ∧ AtP w b o n
theorem unwrap_any (b o : Nat) (n : Int) (w0 : World) (h : w0.cell? ⟨b, o, none⟩ = some (.int .i64 n)) : Calls Tryz.prog 182 #[.pointer (some ⟨b, o, none⟩)] w0 fun en w' => en = .returned (.iface 49 (.int .i64 n)) ∧ Pure w0 w' := by
 have hI := Inv.start (fun _ => False) w0
 refine Vm Tryz.f182.ntmps Tryz.func182 rfl ?_
 refine W_seq (W_region (Vf rfl (WL_nil (W_seq (W_region (V7 rfl (Vb rfl (Te rfl (V3 (.int .i64 _) rfl (hI.oldp h) (Vx rfl Tryz.underlying49 rfl (Vk rfl (WL_nil ?_))))))))))))
 refine W_ret ?_
 exact ret1 2 (.inr rfl) rfl ⟨rfl, hI.pu⟩
def eμ (v : Value) : Nat := match v with
 | .iface t _ => if t = patT then 1 else 0
 | _ => 0
set_option maxHeartbeats 2000000 in
theorem as1_any (e : Value) (n : Int) (old : Value) (tb a : Nat) (w0 : World) (he : IsE w0 e n) (hB : Blk w0 tb 49 #[old]) (ha : w0.cell? ⟨a, 0, none⟩ = some (.pointer (some ⟨tb, 0, none⟩))) (hne : ∀ b o, e = .iface patT (.pointer (some ⟨b, o, none⟩)) → b ≠ tb) (hat : a ≠ tb) :
  Calls Tryz.prog 92 #[e, .iface 136 (.pointer (some ⟨tb, 0, none⟩)), .agg #[hdl 136, .pointer (some ⟨a, 0, none⟩), .int .u64 150], .iface 235 (.agg #[hdl 49])] w0
   fun en w' => en = .returned (.bool true) ∧ Inv (fun k => k = tb) w0 w' [B tb 49 #[.int .i64 n]] := by
 have hI := Inv.own1 hB
 refine Vm Tryz.f92.ntmps Tryz.func92 rfl ?_
 refine W_seq (W_region (T7 (.agg _) _ hI rfl ?_))
 clear hI; rintro b6 w - - hI
 refine V4 rfl (WL_nil (W_block ?_))
 refine W_loop (fun ρ w => ∃ e, IsE w0 e n ∧ (∀ b o, e = .iface patT (.pointer (some ⟨b, o, none⟩)) → b ≠ tb) ∧ Has ρ [(0, e), (1, .iface 136 (.pointer (some ⟨tb, 0, none⟩))), (3, .iface 235 (.agg #[hdl 49])), (6, .pointer (some ⟨b6, 0, none⟩))] ∧ Inv (fun k => k = tb) w0 w [B b6 196 #[hdl 136, .pointer (some ⟨a, 0, none⟩), .int .u64 150], B tb 49 #[old]]) (fun ρ _ => eμ (ρ 0))
  ⟨e, he, hne, ⟨rfl, rfl, rfl, rfl, trivial⟩, hI⟩ ?_
 clear hI he hne e
 rintro ρ w ⟨e, he, hne, hH, hI⟩
 obtain ⟨σ, rfl⟩ := hH.open
 refine W_block ?_
 rcases he with rfl | ⟨bb, oo, rfl, hc⟩
 ·refine W_seq (W_seq (W_region (Vo rfl ?_)))
  refine WL_val rfl rfl rfl (rExt rfl rfl (x_typeOf _ _)) ?_
  refine Vo rfl ?_
  refine WL_val rfl rfl rfl (rExtI rfl rfl rfl (x_assign _)) ?_
  refine WL_nil (W_cond true rfl (W_seq (W_region (Tn 3 rfl hI.g0 ?_))))
  refine WL_val rfl rfl rfl (rExt rfl rfl (x_elemV _ _ _ (hI.old ha hat))) ?_
  refine Vo rfl ?_
  refine WL_xbox (v := fun g => .agg #[hdl 49, .pointer (some ⟨g, 0, none⟩), .int .u64 130]) hI rfl rfl rfl (rExt rfl rfl (x_valueOfE _ _)) ?_
  clear hI; intro bv w hI
  refine WL_eff rfl rfl rfl (rExt rfl rfl (x_set _ _ n old _ (hI.c0 rfl) (hI.c2 rfl) (hI.f2 0))) ?_
  replace hI := hI.s2 0 (.int .i64 n)
  generalize World.setCell _ _ _ = w at hI ⊢
  refine WL_nil (W_seq (W_region (V4 rfl (WL_nil ?_))))
  refine W_ret ?_
  exact ret1 8 (.inr rfl) rfl ⟨rfl, hI.d0.d0⟩
 ·refine W_seq (W_seq (W_region (Vo rfl ?_)))
  refine WL_val rfl rfl rfl (rExt rfl rfl (x_typeOfA _ _)) ?_
  refine Vo rfl ?_
  refine WL_val rfl rfl rfl (rExtI rfl rfl rfl (x_noAssign _)) ?_
  refine WL_nil (W_cond false rfl (W_skip (W_seq (W_seq (W_region (Vo rfl ?_))))))
  refine WL_val rfl rfl rfl (rTA rfl rfl (x_noAs _ _)) ?_
  refine Vv rfl (Vg rfl (Vg rfl (Vf rfl (V4 rfl (WL_nil (W_seq (W_region (V2 rfl (V2 rfl (V1 rfl (V1 rfl (V1 rfl (V8 rfl ?_)))))))))))))
  refine WL_nil (W_cond false rfl (W_skip (W_seq (W_region (Vo rfl (WL_nil (W_block (W_seq (W_region ?_)))))))))
  refine WL_val rfl rfl rfl (rTA rfl rfl (x_hasUn _ _)) ?_
  refine Vg rfl (Vg rfl (WL_nil (W_cond true rfl (W_seq (W_region (Vk rfl (WL_nil (W_seq (W_region (Vo rfl ?_))))))))))
  refine WL_call rfl rfl rfl (rCallI (f := 182) (vs := []) rfl rfl rfl (fun _ => x_unwrap _ _)) ?_
  refine (unwrap_any bb oo n _ (hI.old hc.cell (hne bb oo rfl))).mono ?_
  rintro e w1 ⟨rfl, hp⟩
  refine ⟨_, rfl, ?_⟩
  replace hI := hI.pure hp
  refine Vk rfl (WL_nil (W_seq (W_region (Vo rfl ?_))))
  refine WL_val rfl rfl rfl (by exact rIfaceEq rfl Tryz.underlying29 rfl rfl) ?_
  refine WL_nil (W_cond false rfl (W_skip ?_))
  exact ⟨⟨_, .inl rfl, fun b o h => (by injection h with h; exact absurd h (by decide)), ⟨rfl, rfl, rfl, rfl, trivial⟩, hI⟩, by show 0 < 1; omega⟩
set_option maxHeartbeats 2000000 in
/-- errors.As at the address of an api.Errno. hg: what the package variable errors.errorType holds. -/
theorem as0_any (e : Value) (n : Int) (old : Value) (tb : Nat) (w0 : World) (he : IsE w0 e n) (hB : Blk w0 tb 49 #[old]) (hg : w0.cell? ⟨1, 0, none⟩ = some (.iface 235 (.agg #[hdl 29]))) (hne : ∀ b o, e = .iface patT (.pointer (some ⟨b, o, none⟩)) → b ≠ tb) (h0 : 1 ≠ tb) :
  Calls Tryz.prog 55 #[e, .iface 136 (.pointer (some ⟨tb, 0, none⟩))] w0 fun en w' => en = .returned (.bool true) ∧ Inv (fun k => k = tb) w0 w' [B tb 49 #[.int .i64 n]] := by
 have hI := Inv.own1 hB
 have he' : e ≠ .nilIface ∧ ∃ t u, e = .iface t u := by
  rcases he with rfl | ⟨b, o, rfl, _⟩ <;> exact ⟨by simp, _, _, rfl⟩
 obtain ⟨_, t, u, rfl⟩ := he'
 refine Vm Tryz.f55.ntmps Tryz.func55 rfl ?_
 refine W_seq (W_region (V4 rfl (WL_nil (W_seq (W_seq (W_region (Vo rfl ?_)))))))
 refine WL_val rfl rfl rfl (by exact rIfaceEq rfl Tryz.underlying29 rfl rfl) ?_
 refine WL_nil (W_cond false rfl (W_skip (W_seq (W_seq (W_region (Vo rfl ?_))))))
 refine WL_val rfl rfl rfl (by exact rIfaceEq rfl Tryz.underlying20 rfl rfl) ?_
 refine WL_nil (W_cond false rfl (W_skip (W_seq (W_region (Vo rfl ?_)))))
 refine WL_xbox (v := fun g => .agg #[hdl 136, .pointer (some ⟨g, 0, none⟩), .int .u64 150]) hI rfl rfl rfl (rExt rfl rfl (x_valueOfT _ _)) ?_
 clear hI; intro bv w hI
 refine T0 (.agg #[.pointer none, .pointer none, .int .u64 0]) (#[.pointer none, .pointer none, .int .u64 0]) hI rfl ?_
 clear hI; rintro b5 w - - hI
 refine WL_stw0 (u := .agg _) (vs := _) (n := 3) hI rfl rfl rfl rfl rfl rfl (by kernel_rfl) (by rfl) (by rfl) (by rfl) ?_
 clear hI; intro w hI
 refine WL_nil (W_seq (W_region (Tn 3 rfl hI.g0 ?_)))
 refine WL_val rfl rfl rfl (rExt rfl rfl (x_type _ _)) ?_
 refine Vk rfl (WL_nil (W_seq (W_seq (W_region (Vo rfl ?_)))))
 refine WL_val rfl rfl rfl (rExtI rfl rfl rfl (x_kindP _)) ?_
 refine U5 rfl (V2 rfl (Tn 3 rfl hI.g0 ?_))
 refine WL_val rfl rfl rfl (rExt rfl rfl (x_isNil _ _ _ (hI.c1 rfl))) ?_
 refine V8 rfl (WL_nil (W_cond false rfl (W_skip (W_seq (W_region (Vo rfl ?_))))))
 refine WL_val rfl rfl rfl (rExtI rfl rfl rfl (x_elemT _)) ?_
 refine Vk rfl (WL_nil (W_seq (W_seq (W_region (Vo rfl ?_)))))
 refine WL_val rfl rfl rfl (rExtI rfl rfl rfl (x_kindE _)) ?_
 refine Tx rfl (V2 rfl (Vo rfl ?_))
 refine WL_val rfl rfl rfl (rLd rfl (by kernel_rfl) rfl (hI.old hg h0)) ?_
 refine WL_val rfl rfl rfl (rExtI rfl rfl rfl (x_impl _)) ?_
 refine T4 rfl (Vd rfl (WL_nil (W_cond false rfl (W_skip (W_seq (W_region (Vo rfl (Vo rfl (Tn 3 rfl hI.g0 (Vo rfl (V6 [_, _, .agg _, _] rfl Tryz.func92 rfl ?_)))))))))))
 refine (as1_any (.iface t u) n old tb bv _ ?_ hI.g2 (hI.c1 rfl) hne ?_).mono ?_
 ·rcases he with he | ⟨b, o, he, hc⟩
  ·exact .inl he
  ·exact .inr ⟨b, o, he, hc.keep (hI.old hc.cell (hne b o he))⟩
 ·exact fun e => hI.disj (i := 1) (j := 2) rfl rfl (by decide) bv rfl e
 rintro e w1 ⟨rfl, hJ⟩
 refine ⟨_, rfl, ?_⟩
 have hI' : Inv (fun k => k = tb) w0 w1 [B tb 49 #[.int .i64 n]] := ⟨hI.chg.trans' hJ.chg (fun k _ hk => hk), hJ.ok, fun e he k hk => by rcases List.mem_singleton.1 he with rfl; exact .inl hk, hJ.apart⟩
 clear hI
 have hI := hI'
 refine V4 rfl (WL_nil ?_)
 refine W_ret ?_
 exact ret1 4 (.inr rfl) rfl ⟨rfl, hI⟩
theorem IsE.pure {w w' : World} {e : Value} {n : Int} (h : IsE w e n) (hp : Pure w w') : IsE w' e n := by
 rcases h with h | ⟨b, o, h, hc⟩
 ·exact .inl h
 ·exact .inr ⟨b, o, h, hc.keep ((Inv.start (fun _ => False) w |>.pure hp).oldp hc.cell)⟩
set_option maxHeartbeats 2000000 in
theorem tell_any (e : Value) (n : Int) (w0 : World) (he : IsE w0 e n) (hg : w0.cell? ⟨1, 0, none⟩ = some (.iface 235 (.agg #[hdl 29]))) :
  Calls Tryz.prog 31 #[e] w0 fun en w' => en = .returned (.int .i64 n) ∧ Pure w0 w' := by
 have hI := Inv.start (fun _ => False) w0
 have he' : ∃ t u, e = .iface t u := by
  rcases he with rfl | ⟨b, o, rfl, _⟩ <;> exact ⟨_, _, rfl⟩
 obtain ⟨t, u, rfl⟩ := he'
 refine Vm Tryz.f31.ntmps Tryz.func31 rfl ?_
 refine W_seq (W_region (Va rfl (WL_nil (W_seq (W_seq (W_region (Vo rfl ?_)))))))
 refine WL_val rfl rfl rfl (by exact rIfaceEq rfl Tryz.underlying29 rfl rfl) ?_
 refine WL_nil (W_cond false rfl (W_skip (W_seq (W_region (T0 (.int .i64 0) (#[.int .i64 0]) hI rfl ?_)))))
 clear hI; rintro b3 w - - hI
 refine WL_nil ?_
 have hnew : w0.heap.size ≤ b3 := (hI.own _ (List.mem_singleton.2 rfl) b3 rfl).resolve_left (fun h => h)
 have hlt0 : 1 < w0.heap.size := World.block_lt_of_cell? w0 _ hg
 refine W_seq (W_seq (W_region (Vo rfl (Vx rfl Tryz.underlying136 rfl (V6 [_, _] rfl Tryz.func55 rfl ?_)))))
 refine (as0_any (.iface t u) n _ b3 _ (he.pure hI.pu) hI.g0 (hI.oldp hg) ?_ (by omega)).mono ?_
 ·intro b o h hb
  rcases he with he | ⟨b', o', he, hc⟩
  ·rw [he] at h
   injection h with h
   exact absurd h (by decide)
  ·rw [he] at h
   injection h with _ h
   injection h with h
   injection h with h
   injection h with h _
   have := World.block_lt_of_cell? w0 _ hc.cell
   simp only at this
   omega
 rintro e w1 ⟨rfl, hJ⟩
 refine ⟨_, rfl, ?_⟩
 have hI' : Inv (fun _ => False) w0 w1 [B b3 49 #[.int .i64 n]] := ⟨hI.chg.trans' hJ.chg (fun k hk e => by subst e; omega), hJ.ok, fun e he k hk => by rcases List.mem_singleton.1 he with rfl; have : k = b3 := hk; exact .inr (by omega), hJ.apart⟩
 clear hI
 have hI := hI'
 refine WL_nil (W_cond true rfl (W_seq (W_region (V3 (.int .i64 _) rfl (hI.c0 rfl) (Va rfl (WL_nil ?_))))))
 refine W_ret ?_
 exact ret1 2 (.inr rfl) rfl ⟨rfl, hI.pu⟩
end Go.Proofs.YthndpiopbdecfaaGreatDoor
