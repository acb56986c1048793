/- gen: reading a generator. -/
import Derived.Test.YtlhmldjgmbcocaaDoorGen7
namespace Go.Proofs.YtlhmldjgmbcocaaDoor
open Go.RowKit
set_option linter.unusedVariables false
set_option linter.unusedSimpArgs false
theorem pG_succ (k : Nat) (l : List Tok) : pG (k + 1) l = if headT l = tRead then (numT 0 7 l.tail).map (fun r => (.rd r.1, r.2)) else if headT l = tWrite then pW l.tail else if headT l = tLimit then (match numT 0 1000 l.tail with
      | none => none
      | some (n, s) => (pG k s).map fun r => (.lim n.toNat r.1, r.2)) else if headT l = tMix then (pV (pG k) l.tail).map (fun r => (.mix r.1, r.2)) else if headT l = tThen then (pV (pG k) l.tail).map (fun r => (.thn r.1, r.2)) else none := by
  cases l with
  | nil => rfl
  | cons t s => rfl
theorem pV_head (p : List Tok → Option (Ge × List Tok)) (l : List Tok) : pV p l = if headT l = tOpen then pS p l.tail.length l.tail else none := by
  cases l with
  | nil => rfl
  | cons t s => rfl
theorem pS_succ (p : List Tok → Option (Ge × List Tok)) (n : Nat) (s : List Tok) : pS p (n + 1) s = match p s with
    | none => none
    | some (g, s') => if headT s' = tShut then some ([g], s'.tail) else if headT s' = tComma then (pS p n s'.tail).map (fun r => (g :: r.1, r.2)) else none := by
  rw [pS]
  cases p s with
  | none => rfl
  | some q =>
    obtain ⟨g, s'⟩ := q
    cases s' with
    | nil => rfl
    | cons t s' => rfl
theorem RepL.snoc : ∀ {gs : List Ge} {vs : List Value} {L M : List Ent} {g : Ge} {v : Value}, RepL gs vs L → Rep g v M → RepL (gs ++ [g]) (vs ++ [v]) (L ++ M)
  | _, _, _, M, g, v, .nil, h => by
    have := RepL.cons h .nil
    rwa [List.append_nil] at this
  | _, _, _, M, g, v, .cons h0 h1, h => by
    rw [List.append_assoc]
    exact .cons h0 (RepL.snoc h1 h)
theorem drop_lt {T : List Tok} {i j : Nat} (hj : j ≤ T.length) (hi : i ≤ T.length) (h : (T.drop j).length < (T.drop i).length) : i < j := by
  simp only [List.length_drop] at h
  omega
def GenOk (k : Nat) : Prop := ∀ (d : Int) (T : List Tok) (sgs : List Sg) (c i p g : Nat) (S : Nat → Prop) (w0 w : World) (H : List Ent), d = 20 - (k : Int) → Ptx T sgs c → i ≤ T.length → Inv S w0 w (parE p g sgs c i :: sgE g sgs :: H) → NumG w0 → NoG S →
  Calls Tryd.prog 13 #[at0 p, .int .i64 d] w (ReadPost T sgs c p g S w0 H (pG k (T.drop i)))
def SevPost (T : List Tok) (sgs : List Sg) (c p g : Nat) (S : Nat → Prop) (w0 : World) (H : List Ent) (r : Option (List Ge × List Tok)) (e : Ending) (w' : World) : Prop :=
  (∃ gs vs L A c' i', r = some (gs, T.drop i') ∧ e = .returned (.tuple #[.slice A gs.length c', .nilIface]) ∧ RepL gs vs L ∧ gs.length ≤ 100000 ∧ i' ≤ T.length ∧ Inv S w0 w' (parE p g sgs c i' :: sgE g sgs :: Row 0 33 1 A gs.length c' vs :: (L ++ H))) ∨
  (r = none ∧ ∃ U u i', e = .returned (.tuple #[.slice none 0 0, .iface U u]) ∧ i' ≤ T.length ∧ Inv S w0 w' (parE p g sgs c i' :: sgE g sgs :: H))
set_option maxHeartbeats 2000000 in
theorem several_any (k : Nat) (hk : k ≤ 20) (hGen : GenOk k) (d : Int) (T : List Tok) (sgs : List Sg) (c i p g : Nat) (S : Nat → Prop) (w0 w : World) (H : List Ent) (hd : d = 20 - (k : Int)) (hP : Ptx T sgs c) (hi : i ≤ T.length) (hI : Inv S w0 w (parE p g sgs c i :: sgE g sgs :: H)) (hG : NumG w0) (hS : NoG S) :
    Calls Tryd.prog 19 #[at0 p, .int .i64 d] w (SevPost T sgs c p g S w0 H (pV (pG k) (T.drop i))) := by
  unfold SevPost
  rw [pV_head]
  have hTl := hP.tl
  refine calls_of_W (N := Tryd.f19.ntmps) Tryd.func19 rfl rfl rfl ?_
  refine W_seq ?_
  refine W_region ?_
  refine WL_val rfl rfl rfl (by first | exact rAsgnS rfl rfl | exact rAsgn rfl) ?_
  refine WL_val rfl rfl rfl (by first | exact rAsgnN rfl rfl | exact rAsgnE rfl rfl | exact rAsgn rfl) ?_
  refine WL_nil ?_
  by_cases ho : headT (T.drop i) = tOpen
  rotate_left
  · refine W_seq ?_
    refine W_seq ?_
    refine W_region ?_
    refine WL_val rfl rfl rfl (by first | exact rMoveP rfl rfl | exact rMove rfl) ?_
    refine WL_call rfl rfl rfl (rCall (vs := [.pointer _, .string _]) rfl Tryd.func14 rfl rfl rfl) ?_
    refine (expect_any T sgs c i p g S w0 _ H tOpen hP hi hI).mono ?_
    rintro e w1 (⟨h, -⟩ | ⟨h, ⟨U, u, rfl⟩, hI1⟩)
    · exact absurd h ho
    refine ⟨_, rfl, ?_⟩
    refine WL_val rfl rfl rfl (by first | exact rAsgnN rfl rfl | exact rAsgnE rfl rfl | exact rAsgn rfl) ?_
    refine WL_nil ?_
    refine W_seq ?_
    refine W_region ?_
    refine WL_val rfl rfl rfl (by first | exact rMoveN rfl rfl | exact rMoveE rfl rfl | exact rMove rfl) ?_
    refine WL_val rfl rfl rfl (by first | exact rIfaceNe rfl Tryd.underlying35 rfl rfl | exact rNilNe rfl Tryd.underlying35 rfl) ?_
    refine WL_nil ?_
    refine W_cond true rfl ?_
    refine W_seq ?_
    refine W_region ?_
    refine WL_val rfl rfl rfl (by first | exact rMoveN rfl rfl | exact rMoveE rfl rfl | exact rMove rfl) ?_
    refine WL_val rfl rfl rfl (by first | exact rAsgnS rfl rfl | exact rAsgn rfl) ?_
    refine WL_val rfl rfl rfl (by first | exact rAsgnN rfl rfl | exact rAsgnE rfl rfl | exact rAsgn rfl) ?_
    refine WL_nil ?_
    refine W_ret ?_
    exact ret2 4 5 (.inr rfl) rfl (.inr ⟨if_neg ho, U, u, i, rfl, hi, hI1⟩)
  rw [if_pos ho]
  refine W_seq ?_
  refine W_seq ?_
  refine W_region ?_
  refine WL_val rfl rfl rfl (by first | exact rMoveP rfl rfl | exact rMove rfl) ?_
  refine WL_call rfl rfl rfl (rCall (vs := [.pointer _, .string _]) rfl Tryd.func14 rfl rfl rfl) ?_
  refine (expect_any T sgs c i p g S w0 _ H tOpen hP hi hI).mono ?_
  rintro e w1 (⟨h, rfl, i1, hi1, hd1, hI1⟩ | ⟨h, -⟩)
  rotate_left
  · exact absurd ho h
  refine ⟨_, rfl, ?_⟩
  refine WL_val rfl rfl rfl (by first | exact rAsgnN rfl rfl | exact rAsgnE rfl rfl | exact rAsgn rfl) ?_
  refine WL_nil ?_
  refine W_seq ?_
  refine W_region ?_
  refine WL_val rfl rfl rfl (by first | exact rMoveN rfl rfl | exact rMoveE rfl rfl | exact rMove rfl) ?_
  refine WL_val rfl rfl rfl (by first | exact rIfaceNe rfl Tryd.underlying35 rfl rfl | exact rNilNe rfl Tryd.underlying35 rfl) ?_
  refine WL_nil ?_
  refine W_cond false rfl ?_
  refine W_skip ?_
  refine W_seq ?_
  refine W_region ?_
  refine WL_val rfl rfl rfl (by first | exact rAsgnS rfl rfl | exact rAsgn rfl) ?_
  refine WL_nil ?_
  rw [← hd1]
  refine W_block ?_
  have hI0 := hI1.fresh (Pure.refl w1) (Row.nil w1 0 33 1) (fun k hk => by simp [Row] at hk)
  refine W_loopN (fun mu ρ w => ∃ (n : Nat) (gs : List Ge) (vs : List Value) (L : List Ent) (A : Option Addr) (c1 i2 : Nat), mu = n ∧ i2 ≤ T.length ∧ gs.length ≤ i2 ∧ (T.drop i2).length ≤ n ∧ RepL gs vs L ∧ pS (pG k) (T.drop i1).length (T.drop i1) = (pS (pG k) n (T.drop i2)).map (fun r => (gs ++ r.1, r.2)) ∧
      Has ρ [(0, at0 p), (1, .int .i64 d), (7, .slice A gs.length c1)] ∧ Inv S w0 w (Row 0 33 1 A gs.length c1 vs :: parE p g sgs c i2 :: sgE g sgs :: (L ++ H))) (T.drop i1).length
    ⟨_, [], [], [], none, 0, i1, rfl, hi1, Nat.zero_le _, Nat.le_refl _, .nil, by simp, ⟨rfl, rfl, rfl, trivial⟩, hI0⟩ ?_
  clear hI0 hI1 hI
  rintro mu ρ w ⟨n, gs, vs, L, A, c1, i2, rfl, hi2, hgl, hn, hL, heq, hH, hI⟩
  obtain ⟨σ, rfl⟩ := hH.open
  refine W_block ?_
  have hpre := pG_pre k (T.drop i2)
  cases hx : pG k (T.drop i2) with
  | none =>
    refine W_seq ?_
    refine W_region ?_
    refine WL_val rfl rfl rfl (by first | exact rMoveP rfl rfl | exact rMove rfl) ?_
    refine WL_val rfl rfl rfl (by first | exact rMoveI rfl rfl | exact rMove rfl) ?_
    refine WL_call rfl rfl rfl (rCall (vs := [.pointer _, .int .i64 _]) rfl Tryd.func13 rfl rfl rfl) ?_
    refine (hGen d T sgs c i2 p g S w0 _ _ hd hP hi2 ((hI.pull 0 rfl).sw0.sw1) hG hS).mono ?_
    unfold ReadPost
    rintro e w2 (⟨ge, v, L', i', h, -⟩ | ⟨-, U, u, i', rfl, hi', hI2⟩)
    · rw [hx] at h; cases h
    refine ⟨_, rfl, ?_⟩
    refine WL_val rfl rfl rfl (by first | exact rMoveT rfl rfl | exact rMove rfl) ?_
    refine WL_val rfl rfl rfl (rExtr rfl rfl rfl) ?_
    refine WL_val rfl rfl rfl (rExtr rfl rfl rfl) ?_
    refine WL_val rfl rfl rfl (by first | exact rAsgnN rfl rfl | exact rAsgnE rfl rfl | exact rAsgn rfl) ?_
    refine WL_val rfl rfl rfl (by first | exact rAsgnN rfl rfl | exact rAsgnE rfl rfl | exact rAsgn rfl) ?_
    refine WL_nil ?_
    refine W_seq ?_
    refine W_seq ?_
    refine W_region ?_
    refine WL_val rfl rfl rfl (by first | exact rMoveN rfl rfl | exact rMoveE rfl rfl | exact rMove rfl) ?_
    refine WL_val rfl rfl rfl (by first | exact rIfaceNe rfl Tryd.underlying35 rfl rfl | exact rNilNe rfl Tryd.underlying35 rfl) ?_
    refine WL_nil ?_
    refine W_cond true rfl ?_
    refine W_seq ?_
    refine W_region ?_
    refine WL_val rfl rfl rfl (by first | exact rMoveN rfl rfl | exact rMoveE rfl rfl | exact rMove rfl) ?_
    refine WL_val rfl rfl rfl (by first | exact rAsgnS rfl rfl | exact rAsgn rfl) ?_
    refine WL_val rfl rfl rfl (by first | exact rAsgnN rfl rfl | exact rAsgnE rfl rfl | exact rAsgn rfl) ?_
    refine WL_nil ?_
    refine W_ret ?_
    refine ret2 4 5 (.inr rfl) rfl (.inr ⟨?_, U, u, i', rfl, hi', hI2.sub ?_⟩)
    · rw [heq]
      cases mu with
      | zero => rfl
      | succ n => rw [pS_succ, hx]; rfl
    · exact (((List.sublist_append_right ..).cons _).cons_cons _).cons_cons _
  | some q =>
    obtain ⟨ge, r⟩ := q
    obtain ⟨hsz, -⟩ := hpre _ _ hx
    have hsp := sz_pos ge
    refine W_seq ?_
    refine W_region ?_
    refine WL_val rfl rfl rfl (by first | exact rMoveP rfl rfl | exact rMove rfl) ?_
    refine WL_val rfl rfl rfl (by first | exact rMoveI rfl rfl | exact rMove rfl) ?_
    refine WL_call rfl rfl rfl (rCall (vs := [.pointer _, .int .i64 _]) rfl Tryd.func13 rfl rfl rfl) ?_
    refine (hGen d T sgs c i2 p g S w0 _ _ hd hP hi2 ((hI.pull 0 rfl).sw0.sw1) hG hS).mono ?_
    unfold ReadPost
    rintro e w2 (⟨ge', v, M, i3, h, rfl, hM, hi3, hI2⟩ | ⟨h, -⟩)
    rotate_left
    · rw [hx] at h; cases h
    rw [hx] at h
    cases h
    refine ⟨_, rfl, ?_⟩
    replace hI : Inv S w0 w2 (Row 0 33 1 A gs.length c1 vs :: parE p g sgs c i3 :: sgE g sgs :: (L ++ (M ++ H))) := (hI2.perm ((((List.perm_append_comm_assoc M [_] (L ++ H)).trans ((List.perm_append_comm_assoc M L H).cons _)).cons _).cons _)).sw1.sw0
    clear hI2
    refine WL_val rfl rfl rfl (by first | exact rMoveT rfl rfl | exact rMove rfl) ?_
    refine WL_val rfl rfl rfl (rExtr rfl rfl rfl) ?_
    refine WL_val rfl rfl rfl (rExtr rfl rfl rfl) ?_
    refine WL_val rfl rfl rfl (by first | exact rAsgnN rfl rfl | exact rAsgnE rfl rfl | exact rAsgn rfl) ?_
    refine WL_val rfl rfl rfl (by first | exact rAsgnN rfl rfl | exact rAsgnE rfl rfl | exact rAsgn rfl) ?_
    refine WL_nil ?_
    have hi23 := drop_lt hi3 hi2 (by omega)
    have hMv := hM.val
    obtain ⟨Tv, bv, rfl⟩ := hMv
    refine W_seq ?_
    refine W_seq ?_
    refine W_region ?_
    refine WL_val rfl rfl rfl (by first | exact rMoveN rfl rfl | exact rMoveE rfl rfl | exact rMove rfl) ?_
    refine WL_val rfl rfl rfl (by first | exact rIfaceNe rfl Tryd.underlying35 rfl rfl | exact rNilNe rfl Tryd.underlying35 rfl) ?_
    refine WL_nil ?_
    refine W_cond false rfl ?_
    refine W_skip ?_
    refine W_seq ?_
    refine W_region ?_
    refine WL_val rfl rfl rfl (by first | exact rMoveS rfl rfl | exact rMove rfl) ?_
    refine WL_val rfl rfl rfl (by first | exact rMoveN rfl rfl | exact rMoveE rfl rfl | exact rMove rfl) ?_
    refine WL_lit (vs := [_]) (qs := [(0, _)]) [.nilIface] [0] hI rfl rfl rfl rfl rfl rfl Tryd.underlying69 (fun _ => by kernel_rfl) ?_
    clear hI; rintro b27 w - - hI
    first | refine WL_app1 (z := .nilIface) (by_ := 16) hI rfl rfl rfl rfl rfl rfl Tryd.underlying69 (by kernel_rfl) rfl (by omega) (by rfl) hI.lit0 (by first | rfl | simp [i64s, Value.oneCell']) (by omega) (by omega) (by first | exact Nat.zero_le _ | (have := hI.chg.size; omega)) ?_
    clear hI; rintro A28 c28 w hA28 hc28 hI
    replace hI := hI.d0
    refine WL_val rfl rfl rfl (by first | exact rAsgnS rfl rfl | exact rAsgn rfl) ?_
    refine WL_nil ?_
    have e1 : (gs ++ [ge]).length = gs.length + 1 := by simp
    replace hI : Inv S w0 w (Row 0 33 1 A28 (gs.length + 1) c28 (vs ++ [.iface Tv (at0 bv)]) :: parE p g sgs c i3 :: sgE g sgs :: ((L ++ M) ++ H)) := by rw [List.append_assoc]; exact hI
    have hLM := hL.snoc hM
    obtain ⟨hcell, -, -⟩ := hP.cells hi3 (hI.d0)
    have hl := hP.len
    have hnc := hP.nc
    obtain ⟨n', rfl⟩ : ∃ n', mu = n' + 1 := ⟨mu - 1, by omega⟩
    rw [pS_succ, hx] at heq
    simp only at heq
    by_cases hsh : headT (T.drop i3) = tShut
    · unfold parE at hI
      refine W_seq ?_
      refine W_seq ?_
      refine W_region ?_
      refine WL_val rfl rfl rfl (by first | exact rMoveP rfl rfl | exact rMove rfl) ?_
      refine WL_val rfl rfl rfl (rNilChk rfl rfl) ?_
      refine WL_val rfl rfl rfl (by first | exact rFldN (off := 0) rfl (by kernel_rfl) rfl | exact rFld0 rfl (by kernel_rfl) rfl) ?_
      refine WL_val rfl rfl rfl (by first | exact rLd (v := .slice _ _ _) rfl (by kernel_rfl) rfl (by first | exact hI.c0 rfl | exact hI.c1 rfl | exact hcell) | exact rLd rfl (by kernel_rfl) rfl (by first | exact hI.c0 rfl | exact hI.c1 rfl | exact hcell)) ?_
      refine WL_val rfl rfl rfl (rIdx (sz := 2) (i := 0) rfl Tryd.underlying48 (by kernel_rfl) rfl rfl (by omega)) ?_
      refine WL_val rfl rfl rfl (by first | exact rFldN (off := 0) rfl (by kernel_rfl) rfl | exact rFld0 rfl (by kernel_rfl) rfl) ?_
      refine WL_val rfl rfl rfl (by first | exact rLd (v := .string _) rfl (by kernel_rfl) rfl (by first | exact hI.c0 rfl | exact hI.c1 rfl | exact hcell) | exact rLd rfl (by kernel_rfl) rfl (by first | exact hI.c0 rfl | exact hI.c1 rfl | exact hcell)) ?_
      refine WL_val rfl rfl rfl (by first | exact rStrEqT rfl rfl rfl (by first | assumption | decide) | exact rStrEqF rfl rfl rfl (by first | assumption | decide) | exact rStrEq rfl rfl rfl) ?_
      refine WL_nil ?_
      refine W_cond true rfl ?_
      refine W_seq ?_
      refine W_region ?_
      refine WL_val rfl rfl rfl (by first | exact rMoveP rfl rfl | exact rMove rfl) ?_
      refine WL_call rfl rfl rfl (rCall (vs := [.pointer _]) rfl Tryd.func16 rfl rfl rfl) ?_
      refine (ptake_any T sgs c i3 p g S w0 _ _ hP hi3 (hI.sw0.sw1)).mono ?_
      rintro e w3 ⟨rfl, i4, hi4, hd4, hI3⟩
      refine ⟨_, rfl, ?_⟩
      refine WL_nil ?_
      refine W_seq ?_
      refine W_region ?_
      refine WL_val rfl rfl rfl (by first | exact rMoveS rfl rfl | exact rMove rfl) ?_
      refine WL_val rfl rfl rfl (by first | exact rAsgnS rfl rfl | exact rAsgn rfl) ?_
      refine WL_val rfl rfl rfl (by first | exact rAsgnN rfl rfl | exact rAsgnE rfl rfl | exact rAsgn rfl) ?_
      refine WL_nil ?_
      refine W_ret ?_
      refine ret2 4 5 (.inr rfl) rfl (.inl ⟨gs ++ [ge], _, _, A28, c28, i4, ?_, by rw [e1]; rfl, hLM, by omega, hi4, ?_⟩)
      · rw [heq, if_pos hsh, hd4]; rfl
      · rw [e1]; exact hI3
    · have hI' := hI
      unfold parE at hI
      refine W_seq ?_
      refine W_seq ?_
      refine W_region ?_
      refine WL_val rfl rfl rfl (by first | exact rMoveP rfl rfl | exact rMove rfl) ?_
      refine WL_val rfl rfl rfl (rNilChk rfl rfl) ?_
      refine WL_val rfl rfl rfl (by first | exact rFldN (off := 0) rfl (by kernel_rfl) rfl | exact rFld0 rfl (by kernel_rfl) rfl) ?_
      refine WL_val rfl rfl rfl (by first | exact rLd (v := .slice _ _ _) rfl (by kernel_rfl) rfl (by first | exact hI.c0 rfl | exact hI.c1 rfl | exact hcell) | exact rLd rfl (by kernel_rfl) rfl (by first | exact hI.c0 rfl | exact hI.c1 rfl | exact hcell)) ?_
      refine WL_val rfl rfl rfl (rIdx (sz := 2) (i := 0) rfl Tryd.underlying48 (by kernel_rfl) rfl rfl (by omega)) ?_
      refine WL_val rfl rfl rfl (by first | exact rFldN (off := 0) rfl (by kernel_rfl) rfl | exact rFld0 rfl (by kernel_rfl) rfl) ?_
      refine WL_val rfl rfl rfl (by first | exact rLd (v := .string _) rfl (by kernel_rfl) rfl (by first | exact hI.c0 rfl | exact hI.c1 rfl | exact hcell) | exact rLd rfl (by kernel_rfl) rfl (by first | exact hI.c0 rfl | exact hI.c1 rfl | exact hcell)) ?_
      refine WL_val rfl rfl rfl (by first | exact rStrEqT rfl rfl rfl (by first | assumption | decide) | exact rStrEqF rfl rfl rfl (by first | assumption | decide) | exact rStrEq rfl rfl rfl) ?_
      refine WL_nil ?_
      refine W_cond false rfl ?_
      refine W_skip ?_
      by_cases hcm : headT (T.drop i3) = tComma
      · refine W_seq ?_
        refine W_region ?_
        refine WL_val rfl rfl rfl (by first | exact rMoveP rfl rfl | exact rMove rfl) ?_
        refine WL_call rfl rfl rfl (rCall (vs := [.pointer _, .string _]) rfl Tryd.func14 rfl rfl rfl) ?_
        refine (expect_any T sgs c i3 p g S w0 _ _ tComma hP hi3 (hI.sw0.sw1)).mono ?_
        rintro e w3 (⟨h, rfl, i4, hi4, hd4, hI3⟩ | ⟨h, -⟩)
        rotate_left
        · exact absurd hcm h
        refine ⟨_, rfl, ?_⟩
        refine WL_val rfl rfl rfl (by first | exact rAsgnN rfl rfl | exact rAsgnE rfl rfl | exact rAsgn rfl) ?_
        refine WL_nil ?_
        refine W_seq ?_
        refine W_region ?_
        refine WL_val rfl rfl rfl (by first | exact rMoveN rfl rfl | exact rMoveE rfl rfl | exact rMove rfl) ?_
        refine WL_val rfl rfl rfl (by first | exact rIfaceNe rfl Tryd.underlying35 rfl rfl | exact rNilNe rfl Tryd.underlying35 rfl) ?_
        refine WL_nil ?_
        refine W_cond false rfl ?_
        refine W_skip ?_
        refine ⟨n', by omega, n', gs ++ [ge], _, L ++ M, A28, c28, i4, rfl, hi4, ?_, ?_, hLM, ?_, ⟨rfl, rfl, by rw [e1]; rfl, trivial⟩, ?_⟩
        · have : (T.drop i4).length ≤ (T.drop i3).length := by rw [hd4, List.length_tail]; omega
          simp only [List.length_drop] at this
          omega
        · rw [hd4]
          have : (T.drop i3).tail.length ≤ (T.drop i3).length - 1 := by rw [List.length_tail]; omega
          omega
        · rw [heq, if_neg hsh, if_pos hcm, hd4]
          cases pS (pG k) n' (T.drop i3).tail with
          | none => rfl
          | some x => simp
        · rw [e1]; exact hI3.sw1.sw0
      · refine W_seq ?_
        refine W_region ?_
        refine WL_val rfl rfl rfl (by first | exact rMoveP rfl rfl | exact rMove rfl) ?_
        refine WL_call rfl rfl rfl (rCall (vs := [.pointer _, .string _]) rfl Tryd.func14 rfl rfl rfl) ?_
        refine (expect_any T sgs c i3 p g S w0 _ _ tComma hP hi3 (hI.sw0.sw1)).mono ?_
        rintro e w3 (⟨h, -⟩ | ⟨h, ⟨U, u, rfl⟩, hI3⟩)
        · exact absurd h hcm
        refine ⟨_, rfl, ?_⟩
        refine WL_val rfl rfl rfl (by first | exact rAsgnN rfl rfl | exact rAsgnE rfl rfl | exact rAsgn rfl) ?_
        refine WL_nil ?_
        refine W_seq ?_
        refine W_region ?_
        refine WL_val rfl rfl rfl (by first | exact rMoveN rfl rfl | exact rMoveE rfl rfl | exact rMove rfl) ?_
        refine WL_val rfl rfl rfl (by first | exact rIfaceNe rfl Tryd.underlying35 rfl rfl | exact rNilNe rfl Tryd.underlying35 rfl) ?_
        refine WL_nil ?_
        refine W_cond true rfl ?_
        refine W_seq ?_
        refine W_region ?_
        refine WL_val rfl rfl rfl (by first | exact rMoveN rfl rfl | exact rMoveE rfl rfl | exact rMove rfl) ?_
        refine WL_val rfl rfl rfl (by first | exact rAsgnS rfl rfl | exact rAsgn rfl) ?_
        refine WL_val rfl rfl rfl (by first | exact rAsgnN rfl rfl | exact rAsgnE rfl rfl | exact rAsgn rfl) ?_
        refine WL_nil ?_
        refine W_ret ?_
        refine ret2 4 5 (.inr rfl) rfl (.inr ⟨?_, U, u, i3, rfl, hi3, hI3.sub ?_⟩)
        · rw [heq, if_neg hsh, if_neg hcm]; rfl
        · exact (((List.sublist_append_right ..).cons _).cons_cons _).cons_cons _
set_option maxHeartbeats 4000000 in
theorem gen_step (k : Nat) (hk : k < 20) (hGen : GenOk k) : GenOk (k + 1) := by
  intro d T sgs c i p g S w0 w H hd hP hi hI hG hS
  have hSev := several_any k (by omega) hGen
  obtain ⟨hcell, -, -⟩ := hP.cells hi hI
  have hl := hP.len
  have hnc := hP.nc
  rw [pG_succ]
  have hI' := hI
  have htk : ∀ (w : World), Inv S w0 w (parE p g sgs c i :: sgE g sgs :: H) → Calls Tryd.prog 16 #[at0 p] w fun e w' => e = .returned (strV (headT (T.drop i))) ∧ ∃ i', i' ≤ T.length ∧ T.drop i' = (T.drop i).tail ∧ Inv S w0 w' (parE p g sgs c i' :: sgE g sgs :: H) := fun w h => ptake_any T sgs c i p g S w0 w H hP hi h
  obtain ⟨t, ht⟩ : ∃ t, headT (T.drop i) = t := ⟨_, rfl⟩
  rw [ht] at hcell htk ⊢
  unfold ReadPost
  unfold parE at hI
  refine calls_of_W (N := Tryd.f13.ntmps) Tryd.func13 rfl rfl rfl ?_
  refine W_seq ?_
  refine W_region ?_
  refine WL_val rfl rfl rfl (by first | exact rAsgnN rfl rfl | exact rAsgnE rfl rfl | exact rAsgn rfl) ?_
  refine WL_val rfl rfl rfl (by first | exact rAsgnN rfl rfl | exact rAsgnE rfl rfl | exact rAsgn rfl) ?_
  refine WL_nil ?_
  refine W_seq ?_
  refine W_seq ?_
  refine W_region ?_
  refine WL_val rfl rfl rfl (by first | exact rMoveI rfl rfl | exact rMove rfl) ?_
  refine WL_val rfl rfl rfl (by first | exact rGtrT rfl rfl rfl (by omega) | exact rGtrF rfl rfl rfl (by omega) | exact rGtr rfl rfl rfl) ?_
  refine WL_nil ?_
  refine W_cond false rfl ?_
  refine W_skip ?_
  refine W_seq ?_
  refine W_seq ?_
  refine W_region ?_
  refine WL_val rfl rfl rfl (by first | exact rMoveP rfl rfl | exact rMove rfl) ?_
  refine WL_val rfl rfl rfl (rNilChk rfl rfl) ?_
  refine WL_val rfl rfl rfl (by first | exact rFldN (off := 0) rfl (by kernel_rfl) rfl | exact rFld0 rfl (by kernel_rfl) rfl) ?_
  refine WL_val rfl rfl rfl (by first | exact rLd (v := .slice _ _ _) rfl (by kernel_rfl) rfl (by first | exact hI.c0 rfl | exact hcell) | exact rLd rfl (by kernel_rfl) rfl (by first | exact hI.c0 rfl | exact hcell)) ?_
  refine WL_val rfl rfl rfl (rIdx (sz := 2) (i := 0) rfl Tryd.underlying48 (by kernel_rfl) rfl rfl (by omega)) ?_
  refine WL_val rfl rfl rfl (by first | exact rFldN (off := 0) rfl (by kernel_rfl) rfl | exact rFld0 rfl (by kernel_rfl) rfl) ?_
  refine WL_val rfl rfl rfl (by first | exact rLd (v := .string _) rfl (by kernel_rfl) rfl (by first | exact hI.c0 rfl | exact hcell) | exact rLd rfl (by kernel_rfl) rfl (by first | exact hI.c0 rfl | exact hcell)) ?_
  refine WL_nil ?_
  refine W_block ?_
  by_cases hr : t = tRead
  · subst hr
    rw [if_pos rfl]
    refine W_seq ?_
    refine W_region ?_
    refine WL_val rfl rfl rfl (by first | exact rStrEqT rfl rfl rfl (by first | assumption | decide) | exact rStrEqF rfl rfl rfl (by first | assumption | decide) | exact rStrEq rfl rfl rfl) ?_
    refine WL_val rfl rfl rfl (by first | exact rAsgnB rfl rfl | exact rAsgn rfl) ?_
    refine WL_nil ?_
    refine W_cond true rfl ?_
    refine W_seq ?_
    refine W_region ?_
    refine WL_val rfl rfl rfl (by first | exact rMoveP rfl rfl | exact rMove rfl) ?_
    refine WL_call rfl rfl rfl (rCall (vs := [.pointer _]) rfl Tryd.func16 rfl rfl rfl) ?_
    refine (htk _ hI').mono ?_
    rintro e w1 ⟨rfl, i1, hi1, hd1, hI1⟩
    refine ⟨_, rfl, ?_⟩
    refine WL_nil ?_
    rw [← hd1]
    cases h1 : numT 0 7 (T.drop i1) with
    | none =>
      refine W_seq ?_
      refine W_region ?_
      refine WL_val rfl rfl rfl (by first | exact rMoveP rfl rfl | exact rMove rfl) ?_
      refine WL_call rfl rfl rfl (rCall (vs := [.pointer _, .int .i64 _, .int .i64 _]) rfl Tryd.func17 rfl rfl rfl) ?_
      refine (number_any T sgs c i1 p g S w0 _ H 0 7 hP hi1 hI1 hG hS).mono ?_
      rintro e w2 (⟨n, i2, hk, -, -, -⟩ | ⟨hk, ⟨U, u, rfl⟩, hIe⟩)
      · rw [h1] at hk; cases hk
      refine ⟨_, rfl, ?_⟩
      refine WL_val rfl rfl rfl (by first | exact rMoveT rfl rfl | exact rMove rfl) ?_
      refine WL_val rfl rfl rfl (rExtr rfl rfl rfl) ?_
      refine WL_val rfl rfl rfl (rExtr rfl rfl rfl) ?_
      refine WL_val rfl rfl rfl (by first | exact rAsgnI rfl rfl | exact rAsgn rfl) ?_
      refine WL_val rfl rfl rfl (by first | exact rAsgnN rfl rfl | exact rAsgnE rfl rfl | exact rAsgn rfl) ?_
      refine WL_nil ?_
      refine W_seq ?_
      refine W_seq ?_
      refine W_region ?_
      refine WL_val rfl rfl rfl (by first | exact rMoveN rfl rfl | exact rMoveE rfl rfl | exact rMove rfl) ?_
      refine WL_val rfl rfl rfl (by first | exact rIfaceNe rfl Tryd.underlying35 rfl rfl | exact rNilNe rfl Tryd.underlying35 rfl) ?_
      refine WL_nil ?_
      refine W_cond true rfl ?_
      refine W_seq ?_
      refine W_region ?_
      refine WL_val rfl rfl rfl (by first | exact rMoveN rfl rfl | exact rMoveE rfl rfl | exact rMove rfl) ?_
      refine WL_val rfl rfl rfl (by first | exact rAsgnN rfl rfl | exact rAsgnE rfl rfl | exact rAsgn rfl) ?_
      refine WL_val rfl rfl rfl (by first | exact rAsgnN rfl rfl | exact rAsgnE rfl rfl | exact rAsgn rfl) ?_
      refine WL_nil ?_
      refine W_ret ?_
      exact ret2 4 5 (.inr rfl) rfl (.inr ⟨rfl, U, u, i1, rfl, hi1, hIe⟩)
    | some q1 =>
      obtain ⟨n, r1⟩ := q1
      refine W_seq ?_
      refine W_region ?_
      refine WL_val rfl rfl rfl (by first | exact rMoveP rfl rfl | exact rMove rfl) ?_
      refine WL_call rfl rfl rfl (rCall (vs := [.pointer _, .int .i64 _, .int .i64 _]) rfl Tryd.func17 rfl rfl rfl) ?_
      refine (number_any T sgs c i1 p g S w0 _ H 0 7 hP hi1 hI1 hG hS).mono ?_
      rintro e w2 (⟨n', i2, hk, rfl, hi2, hI2⟩ | ⟨hk, -⟩)
      rotate_left
      · rw [h1] at hk; cases hk
      rw [h1] at hk
      cases hk
      refine ⟨_, rfl, ?_⟩
      refine WL_val rfl rfl rfl (by first | exact rMoveT rfl rfl | exact rMove rfl) ?_
      refine WL_val rfl rfl rfl (rExtr rfl rfl rfl) ?_
      refine WL_val rfl rfl rfl (rExtr rfl rfl rfl) ?_
      refine WL_val rfl rfl rfl (by first | exact rAsgnI rfl rfl | exact rAsgn rfl) ?_
      refine WL_val rfl rfl rfl (by first | exact rAsgnN rfl rfl | exact rAsgnE rfl rfl | exact rAsgn rfl) ?_
      refine WL_nil ?_
      refine W_seq ?_
      refine W_seq ?_
      refine W_region ?_
      refine WL_val rfl rfl rfl (by first | exact rMoveN rfl rfl | exact rMoveE rfl rfl | exact rMove rfl) ?_
      refine WL_val rfl rfl rfl (by first | exact rIfaceNe rfl Tryd.underlying35 rfl rfl | exact rNilNe rfl Tryd.underlying35 rfl) ?_
      refine WL_nil ?_
      refine W_cond false rfl ?_
      refine W_skip ?_
      have hI := hI2
      refine W_seq ?_
      refine W_region ?_
      refine WL_val rfl rfl rfl (by first | exact rMoveI rfl rfl | exact rMove rfl) ?_
      refine WL_val rfl rfl rfl (rBuild (qs := [(0, .int .i64 _)]) (vs := [_]) [.int .i64 0] [0] rfl rfl rfl (fun _ => by kernel_rfl)) ?_
      refine WL_box (u := .agg _) (vs := #[_]) hI rfl rfl rfl rfl rfl rfl ?_
      clear hI; rintro b39 w - - hI
      refine WL_val rfl rfl rfl (rIface rfl Tryd.underlying62 rfl rfl) ?_
      refine WL_val rfl rfl rfl (by first | exact rAsgnN rfl rfl | exact rAsgnE rfl rfl | exact rAsgn rfl) ?_
      refine WL_val rfl rfl rfl (by first | exact rAsgnN rfl rfl | exact rAsgnE rfl rfl | exact rAsgn rfl) ?_
      refine WL_nil ?_
      refine W_ret ?_
      exact ret2 4 5 (.inr rfl) rfl (.inl ⟨.rd n, _, _, i2, rfl, rfl, .rd (b := b39), hi2, hI.sw0.sw1⟩)
  rw [if_neg hr]
  by_cases hwr : t = tWrite
  · subst hwr
    rw [if_pos rfl]
    refine W_seq ?_
    refine W_region ?_
    refine WL_val rfl rfl rfl (by first | exact rStrEqT rfl rfl rfl (by first | assumption | decide) | exact rStrEqF rfl rfl rfl (by first | assumption | decide) | exact rStrEq rfl rfl rfl) ?_
    refine WL_val rfl rfl rfl (by first | exact rAsgnB rfl rfl | exact rAsgn rfl) ?_
    refine WL_nil ?_
    refine W_cond false rfl ?_
    refine W_seq ?_
    refine W_region ?_
    refine WL_val rfl rfl rfl (by first | exact rStrEqT rfl rfl rfl (by first | assumption | decide) | exact rStrEqF rfl rfl rfl (by first | assumption | decide) | exact rStrEq rfl rfl rfl) ?_
    refine WL_val rfl rfl rfl (by first | exact rAsgnB rfl rfl | exact rAsgn rfl) ?_
    refine WL_nil ?_
    refine W_cond true rfl ?_
    refine W_seq ?_
    refine W_region ?_
    refine WL_val rfl rfl rfl (by first | exact rMoveP rfl rfl | exact rMove rfl) ?_
    refine WL_call rfl rfl rfl (rCall (vs := [.pointer _]) rfl Tryd.func16 rfl rfl rfl) ?_
    refine (htk _ hI').mono ?_
    rintro e w1 ⟨rfl, i1, hi1, hd1, hI1⟩
    refine ⟨_, rfl, ?_⟩
    refine WL_nil ?_
    rw [← hd1]
    cases hpw : pW (T.drop i1) with
    | none =>
      refine W_seq ?_
      refine W_region ?_
      refine WL_val rfl rfl rfl (by first | exact rMoveP rfl rfl | exact rMove rfl) ?_
      refine WL_call rfl rfl rfl (rCall (vs := [.pointer _]) rfl Tryd.func18 rfl rfl rfl) ?_
      refine (pwrite_any T sgs c i1 p g S w0 _ H hP hi1 hI1 hG hS).mono ?_
      unfold ReadPost
      rintro e w2 (⟨ge, v, L, i2, hk, -⟩ | ⟨hk, U, u, i2, rfl, hi2, hI2⟩)
      · rw [hpw] at hk; cases hk
      refine ⟨_, rfl, ?_⟩
      refine WL_val rfl rfl rfl (rExtr rfl rfl rfl) ?_
      refine WL_val rfl rfl rfl (rExtr rfl rfl rfl) ?_
      refine WL_val rfl rfl rfl (by first | exact rAsgnN rfl rfl | exact rAsgnE rfl rfl | exact rAsgn rfl) ?_
      refine WL_val rfl rfl rfl (by first | exact rAsgnN rfl rfl | exact rAsgnE rfl rfl | exact rAsgn rfl) ?_
      refine WL_nil ?_
      refine W_ret ?_
      exact ret2 4 5 (.inr rfl) rfl (.inr ⟨rfl, U, u, i2, rfl, hi2, hI2⟩)
    | some q =>
      obtain ⟨ge, r1⟩ := q
      refine W_seq ?_
      refine W_region ?_
      refine WL_val rfl rfl rfl (by first | exact rMoveP rfl rfl | exact rMove rfl) ?_
      refine WL_call rfl rfl rfl (rCall (vs := [.pointer _]) rfl Tryd.func18 rfl rfl rfl) ?_
      refine (pwrite_any T sgs c i1 p g S w0 _ H hP hi1 hI1 hG hS).mono ?_
      unfold ReadPost
      rintro e w2 (⟨ge', v, L, i2, hk, rfl, hR, hi2, hI2⟩ | ⟨hk, -⟩)
      rotate_left
      · rw [hpw] at hk; cases hk
      rw [hpw] at hk
      cases hk
      obtain ⟨Tv, bv, rfl⟩ := hR.val
      refine ⟨_, rfl, ?_⟩
      refine WL_val rfl rfl rfl (rExtr rfl rfl rfl) ?_
      refine WL_val rfl rfl rfl (rExtr rfl rfl rfl) ?_
      refine WL_val rfl rfl rfl (by first | exact rAsgnN rfl rfl | exact rAsgnE rfl rfl | exact rAsgn rfl) ?_
      refine WL_val rfl rfl rfl (by first | exact rAsgnN rfl rfl | exact rAsgnE rfl rfl | exact rAsgn rfl) ?_
      refine WL_nil ?_
      refine W_ret ?_
      exact ret2 4 5 (.inr rfl) rfl (.inl ⟨ge, _, L, i2, rfl, rfl, hR, hi2, hI2⟩)
  rw [if_neg hwr]
  by_cases hli : t = tLimit
  · subst hli
    rw [if_pos rfl]
    refine W_seq ?_
    refine W_region ?_
    refine WL_val rfl rfl rfl (by first | exact rStrEqT rfl rfl rfl (by first | assumption | decide) | exact rStrEqF rfl rfl rfl (by first | assumption | decide) | exact rStrEq rfl rfl rfl) ?_
    refine WL_val rfl rfl rfl (by first | exact rAsgnB rfl rfl | exact rAsgn rfl) ?_
    refine WL_nil ?_
    refine W_cond false rfl ?_
    refine W_seq ?_
    refine W_region ?_
    refine WL_val rfl rfl rfl (by first | exact rStrEqT rfl rfl rfl (by first | assumption | decide) | exact rStrEqF rfl rfl rfl (by first | assumption | decide) | exact rStrEq rfl rfl rfl) ?_
    refine WL_val rfl rfl rfl (by first | exact rAsgnB rfl rfl | exact rAsgn rfl) ?_
    refine WL_nil ?_
    refine W_cond false rfl ?_
    refine W_seq ?_
    refine W_region ?_
    refine WL_val rfl rfl rfl (by first | exact rStrEqT rfl rfl rfl (by first | assumption | decide) | exact rStrEqF rfl rfl rfl (by first | assumption | decide) | exact rStrEq rfl rfl rfl) ?_
    refine WL_val rfl rfl rfl (by first | exact rAsgnB rfl rfl | exact rAsgn rfl) ?_
    refine WL_nil ?_
    refine W_cond true rfl ?_
    refine W_seq ?_
    refine W_region ?_
    refine WL_val rfl rfl rfl (by first | exact rMoveP rfl rfl | exact rMove rfl) ?_
    refine WL_call rfl rfl rfl (rCall (vs := [.pointer _]) rfl Tryd.func16 rfl rfl rfl) ?_
    refine (htk _ hI').mono ?_
    rintro e w1 ⟨rfl, i1, hi1, hd1, hI1⟩
    refine ⟨_, rfl, ?_⟩
    refine WL_nil ?_
    rw [← hd1]
    cases h1 : numT 0 1000 (T.drop i1) with
    | none =>
      refine W_seq ?_
      refine W_region ?_
      refine WL_val rfl rfl rfl (by first | exact rMoveP rfl rfl | exact rMove rfl) ?_
      refine WL_call rfl rfl rfl (rCall (vs := [.pointer _, .int .i64 _, .int .i64 _]) rfl Tryd.func17 rfl rfl rfl) ?_
      refine (number_any T sgs c i1 p g S w0 _ H 0 1000 hP hi1 hI1 hG hS).mono ?_
      rintro e w2 (⟨n, i2, hk, -, -, -⟩ | ⟨hk, ⟨U, u, rfl⟩, hIe⟩)
      · rw [h1] at hk; cases hk
      refine ⟨_, rfl, ?_⟩
      refine WL_val rfl rfl rfl (by first | exact rMoveT rfl rfl | exact rMove rfl) ?_
      refine WL_val rfl rfl rfl (rExtr rfl rfl rfl) ?_
      refine WL_val rfl rfl rfl (rExtr rfl rfl rfl) ?_
      refine WL_val rfl rfl rfl (by first | exact rAsgnI rfl rfl | exact rAsgn rfl) ?_
      refine WL_val rfl rfl rfl (by first | exact rAsgnN rfl rfl | exact rAsgnE rfl rfl | exact rAsgn rfl) ?_
      refine WL_nil ?_
      refine W_seq ?_
      refine W_seq ?_
      refine W_region ?_
      refine WL_val rfl rfl rfl (by first | exact rMoveN rfl rfl | exact rMoveE rfl rfl | exact rMove rfl) ?_
      refine WL_val rfl rfl rfl (by first | exact rIfaceNe rfl Tryd.underlying35 rfl rfl | exact rNilNe rfl Tryd.underlying35 rfl) ?_
      refine WL_nil ?_
      refine W_cond true rfl ?_
      refine W_seq ?_
      refine W_region ?_
      refine WL_val rfl rfl rfl (by first | exact rMoveN rfl rfl | exact rMoveE rfl rfl | exact rMove rfl) ?_
      refine WL_val rfl rfl rfl (by first | exact rAsgnN rfl rfl | exact rAsgnE rfl rfl | exact rAsgn rfl) ?_
      refine WL_val rfl rfl rfl (by first | exact rAsgnN rfl rfl | exact rAsgnE rfl rfl | exact rAsgn rfl) ?_
      refine WL_nil ?_
      refine W_ret ?_
      exact ret2 4 5 (.inr rfl) rfl (.inr ⟨rfl, U, u, i1, rfl, hi1, hIe⟩)
    | some q1 =>
      obtain ⟨n, r1⟩ := q1
      refine W_seq ?_
      refine W_region ?_
      refine WL_val rfl rfl rfl (by first | exact rMoveP rfl rfl | exact rMove rfl) ?_
      refine WL_call rfl rfl rfl (rCall (vs := [.pointer _, .int .i64 _, .int .i64 _]) rfl Tryd.func17 rfl rfl rfl) ?_
      refine (number_any T sgs c i1 p g S w0 _ H 0 1000 hP hi1 hI1 hG hS).mono ?_
      rintro e w2 (⟨n', i2, hk, rfl, hi2, hI2⟩ | ⟨hk, -⟩)
      rotate_left
      · rw [h1] at hk; cases hk
      rw [h1] at hk
      cases hk
      refine ⟨_, rfl, ?_⟩
      refine WL_val rfl rfl rfl (by first | exact rMoveT rfl rfl | exact rMove rfl) ?_
      refine WL_val rfl rfl rfl (rExtr rfl rfl rfl) ?_
      refine WL_val rfl rfl rfl (rExtr rfl rfl rfl) ?_
      refine WL_val rfl rfl rfl (by first | exact rAsgnI rfl rfl | exact rAsgn rfl) ?_
      refine WL_val rfl rfl rfl (by first | exact rAsgnN rfl rfl | exact rAsgnE rfl rfl | exact rAsgn rfl) ?_
      refine WL_nil ?_
      have hnb := numT_pre h1
      obtain ⟨m, rfl⟩ : ∃ m : Nat, n = (m : Int) := ⟨n.toNat, by omega⟩
      simp only [Int.toNat_natCast]
      refine W_seq ?_
      refine W_seq ?_
      refine W_region ?_
      refine WL_val rfl rfl rfl (by first | exact rMoveN rfl rfl | exact rMoveE rfl rfl | exact rMove rfl) ?_
      refine WL_val rfl rfl rfl (by first | exact rIfaceNe rfl Tryd.underlying35 rfl rfl | exact rNilNe rfl Tryd.underlying35 rfl) ?_
      refine WL_nil ?_
      refine W_cond false rfl ?_
      refine W_skip ?_
      cases hx : pG k (T.drop i2) with
      | none =>
        refine W_seq ?_
        refine W_region ?_
        refine WL_val rfl rfl rfl (by first | exact rMoveP rfl rfl | exact rMove rfl) ?_
        refine WL_val rfl rfl rfl (by first | exact rMoveI rfl rfl | exact rMove rfl) ?_
        refine WL_val rfl rfl rfl (by first | exact rInc rfl rfl rfl (by omega) | exact rAdd rfl rfl rfl (by omega) | exact rAddW rfl rfl rfl) ?_
        refine WL_call rfl rfl rfl (rCall (vs := [.pointer _, .int .i64 _]) rfl Tryd.func13 rfl rfl rfl) ?_
        refine (hGen (d + 1) T sgs c i2 p g S w0 _ H (by omega) hP hi2 hI2 hG hS).mono ?_
        unfold ReadPost
        rintro e w3 (⟨ge, v, L', i', h, -⟩ | ⟨-, U, u, i', rfl, hi', hI3⟩)
        · rw [hx] at h; cases h
        refine ⟨_, rfl, ?_⟩
        refine WL_val rfl rfl rfl (by first | exact rMoveT rfl rfl | exact rMove rfl) ?_
        refine WL_val rfl rfl rfl (rExtr rfl rfl rfl) ?_
        refine WL_val rfl rfl rfl (rExtr rfl rfl rfl) ?_
        refine WL_val rfl rfl rfl (by first | exact rAsgnN rfl rfl | exact rAsgnE rfl rfl | exact rAsgn rfl) ?_
        refine WL_val rfl rfl rfl (by first | exact rAsgnN rfl rfl | exact rAsgnE rfl rfl | exact rAsgn rfl) ?_
        refine WL_nil ?_
        refine W_seq ?_
        refine W_seq ?_
        refine W_region ?_
        refine WL_val rfl rfl rfl (by first | exact rMoveN rfl rfl | exact rMoveE rfl rfl | exact rMove rfl) ?_
        refine WL_val rfl rfl rfl (by first | exact rIfaceNe rfl Tryd.underlying35 rfl rfl | exact rNilNe rfl Tryd.underlying35 rfl) ?_
        refine WL_nil ?_
        refine W_cond true rfl ?_
        refine W_seq ?_
        refine W_region ?_
        refine WL_val rfl rfl rfl (by first | exact rMoveN rfl rfl | exact rMoveE rfl rfl | exact rMove rfl) ?_
        refine WL_val rfl rfl rfl (by first | exact rAsgnN rfl rfl | exact rAsgnE rfl rfl | exact rAsgn rfl) ?_
        refine WL_val rfl rfl rfl (by first | exact rAsgnN rfl rfl | exact rAsgnE rfl rfl | exact rAsgn rfl) ?_
        refine WL_nil ?_
        refine W_ret ?_
        exact ret2 4 5 (.inr rfl) rfl (.inr ⟨rfl, U, u, i', rfl, hi', hI3⟩)
      | some q =>
        obtain ⟨ge, r⟩ := q
        refine W_seq ?_
        refine W_region ?_
        refine WL_val rfl rfl rfl (by first | exact rMoveP rfl rfl | exact rMove rfl) ?_
        refine WL_val rfl rfl rfl (by first | exact rMoveI rfl rfl | exact rMove rfl) ?_
        refine WL_val rfl rfl rfl (by first | exact rInc rfl rfl rfl (by omega) | exact rAdd rfl rfl rfl (by omega) | exact rAddW rfl rfl rfl) ?_
        refine WL_call rfl rfl rfl (rCall (vs := [.pointer _, .int .i64 _]) rfl Tryd.func13 rfl rfl rfl) ?_
        refine (hGen (d + 1) T sgs c i2 p g S w0 _ H (by omega) hP hi2 hI2 hG hS).mono ?_
        unfold ReadPost
        rintro e w3 (⟨ge', v, M, i3, h, rfl, hM, hi3, hI3⟩ | ⟨h, -⟩)
        rotate_left
        · rw [hx] at h; cases h
        rw [hx] at h
        cases h
        obtain ⟨Tv, bv, rfl⟩ := hM.val
        refine ⟨_, rfl, ?_⟩
        refine WL_val rfl rfl rfl (by first | exact rMoveT rfl rfl | exact rMove rfl) ?_
        refine WL_val rfl rfl rfl (rExtr rfl rfl rfl) ?_
        refine WL_val rfl rfl rfl (rExtr rfl rfl rfl) ?_
        refine WL_val rfl rfl rfl (by first | exact rAsgnN rfl rfl | exact rAsgnE rfl rfl | exact rAsgn rfl) ?_
        refine WL_val rfl rfl rfl (by first | exact rAsgnN rfl rfl | exact rAsgnE rfl rfl | exact rAsgn rfl) ?_
        refine WL_nil ?_
        refine W_seq ?_
        refine W_seq ?_
        refine W_region ?_
        refine WL_val rfl rfl rfl (by first | exact rMoveN rfl rfl | exact rMoveE rfl rfl | exact rMove rfl) ?_
        refine WL_val rfl rfl rfl (by first | exact rIfaceNe rfl Tryd.underlying35 rfl rfl | exact rNilNe rfl Tryd.underlying35 rfl) ?_
        refine WL_nil ?_
        refine W_cond false rfl ?_
        refine W_skip ?_
        have hI := hI3
        refine W_seq ?_
        refine W_region ?_
        refine WL_val rfl rfl rfl (by first | exact rMoveN rfl rfl | exact rMoveE rfl rfl | exact rMove rfl) ?_
        refine WL_val rfl rfl rfl (by first | exact rMoveI rfl rfl | exact rMove rfl) ?_
        refine WL_val rfl rfl rfl (rBuild (qs := [(0, _), (1, .int .i64 _)]) (vs := [_, _]) [.nilIface, .int .i64 0] [0, 1] rfl rfl rfl (fun _ => by kernel_rfl)) ?_
        refine WL_box (u := .agg _) (vs := #[_, _]) hI rfl rfl rfl rfl rfl rfl ?_
        clear hI; rintro b74 w - - hI
        refine WL_val rfl rfl rfl (rIface rfl Tryd.underlying66 rfl rfl) ?_
        refine WL_val rfl rfl rfl (by first | exact rAsgnN rfl rfl | exact rAsgnE rfl rfl | exact rAsgn rfl) ?_
        refine WL_val rfl rfl rfl (by first | exact rAsgnN rfl rfl | exact rAsgnE rfl rfl | exact rAsgn rfl) ?_
        refine WL_nil ?_
        refine W_ret ?_
        exact ret2 4 5 (.inr rfl) rfl (.inl ⟨.lim m ge, _, _, i3, rfl, rfl, .lim (b := b74) (by omega) hM, hi3, hI.sw0.sw1⟩)
  rw [if_neg hli]
  by_cases hmi : t = tMix
  · subst hmi
    rw [if_pos rfl]
    refine W_seq ?_
    refine W_region ?_
    refine WL_val rfl rfl rfl (by first | exact rStrEqT rfl rfl rfl (by first | assumption | decide) | exact rStrEqF rfl rfl rfl (by first | assumption | decide) | exact rStrEq rfl rfl rfl) ?_
    refine WL_val rfl rfl rfl (by first | exact rAsgnB rfl rfl | exact rAsgn rfl) ?_
    refine WL_nil ?_
    refine W_cond false rfl ?_
    refine W_seq ?_
    refine W_region ?_
    refine WL_val rfl rfl rfl (by first | exact rStrEqT rfl rfl rfl (by first | assumption | decide) | exact rStrEqF rfl rfl rfl (by first | assumption | decide) | exact rStrEq rfl rfl rfl) ?_
    refine WL_val rfl rfl rfl (by first | exact rAsgnB rfl rfl | exact rAsgn rfl) ?_
    refine WL_nil ?_
    refine W_cond false rfl ?_
    refine W_seq ?_
    refine W_region ?_
    refine WL_val rfl rfl rfl (by first | exact rStrEqT rfl rfl rfl (by first | assumption | decide) | exact rStrEqF rfl rfl rfl (by first | assumption | decide) | exact rStrEq rfl rfl rfl) ?_
    refine WL_val rfl rfl rfl (by first | exact rAsgnB rfl rfl | exact rAsgn rfl) ?_
    refine WL_nil ?_
    refine W_cond false rfl ?_
    refine W_seq ?_
    refine W_seq ?_
    refine W_region ?_
    refine WL_val rfl rfl rfl (by first | exact rStrEqT rfl rfl rfl (by first | assumption | decide) | exact rStrEqF rfl rfl rfl (by first | assumption | decide) | exact rStrEq rfl rfl rfl) ?_
    refine WL_val rfl rfl rfl (by first | exact rAsgnB rfl rfl | exact rAsgn rfl) ?_
    refine WL_nil ?_
    refine W_cond true rfl ?_
    refine W_skip ?_
    refine W_cond true rfl ?_
    refine W_seq ?_
    refine W_region ?_
    refine WL_val rfl rfl rfl (by first | exact rMoveP rfl rfl | exact rMove rfl) ?_
    refine WL_call rfl rfl rfl (rCall (vs := [.pointer _]) rfl Tryd.func16 rfl rfl rfl) ?_
    refine (htk _ hI').mono ?_
    rintro e w1 ⟨rfl, i1, hi1, hd1, hI1⟩
    refine ⟨_, rfl, ?_⟩
    refine WL_val rfl rfl rfl (by first | exact rAsgnStr rfl rfl | exact rAsgn rfl) ?_
    refine WL_nil ?_
    rw [← hd1]
    cases hx : pV (pG k) (T.drop i1) with
    | none =>
      refine W_seq ?_
      refine W_region ?_
      refine WL_val rfl rfl rfl (by first | exact rMoveP rfl rfl | exact rMove rfl) ?_
      refine WL_val rfl rfl rfl (by first | exact rMoveI rfl rfl | exact rMove rfl) ?_
      refine WL_val rfl rfl rfl (by first | exact rInc rfl rfl rfl (by omega) | exact rAdd rfl rfl rfl (by omega) | exact rAddW rfl rfl rfl) ?_
      refine WL_call rfl rfl rfl (rCall (vs := [.pointer _, .int .i64 _]) rfl Tryd.func19 rfl rfl rfl) ?_
      refine (hSev (d + 1) T sgs c i1 p g S w0 _ H (by omega) hP hi1 hI1 hG hS).mono ?_
      unfold SevPost
      rintro e w2 (⟨gs, vs, L, A, c', i2, h, -⟩ | ⟨-, U, u, i2, rfl, hi2, hI2⟩)
      · rw [hx] at h; cases h
      refine ⟨_, rfl, ?_⟩
      refine WL_val rfl rfl rfl (by first | exact rMoveT rfl rfl | exact rMove rfl) ?_
      refine WL_val rfl rfl rfl (rExtr rfl rfl rfl) ?_
      refine WL_val rfl rfl rfl (rExtr rfl rfl rfl) ?_
      refine WL_val rfl rfl rfl (by first | exact rAsgnS rfl rfl | exact rAsgn rfl) ?_
      refine WL_val rfl rfl rfl (by first | exact rAsgnN rfl rfl | exact rAsgnE rfl rfl | exact rAsgn rfl) ?_
      refine WL_nil ?_
      refine W_seq ?_
      refine W_block ?_
      refine W_seq ?_
      refine W_region ?_
      refine WL_val rfl rfl rfl (by first | exact rMoveN rfl rfl | exact rMoveE rfl rfl | exact rMove rfl) ?_
      refine WL_val rfl rfl rfl (by first | exact rIfaceNe rfl Tryd.underlying35 rfl rfl | exact rNilNe rfl Tryd.underlying35 rfl) ?_
      refine WL_val rfl rfl rfl (by first | exact rAsgnB rfl rfl | exact rAsgn rfl) ?_
      refine WL_nil ?_
      refine W_cond true rfl ?_
      refine W_seq ?_
      refine W_region ?_
      refine WL_val rfl rfl rfl (by first | exact rMoveN rfl rfl | exact rMoveE rfl rfl | exact rMove rfl) ?_
      refine WL_val rfl rfl rfl (by first | exact rAsgnN rfl rfl | exact rAsgnE rfl rfl | exact rAsgn rfl) ?_
      refine WL_val rfl rfl rfl (by first | exact rAsgnN rfl rfl | exact rAsgnE rfl rfl | exact rAsgn rfl) ?_
      refine WL_nil ?_
      refine W_ret ?_
      exact ret2 4 5 (.inr rfl) rfl (.inr ⟨rfl, U, u, i2, rfl, hi2, hI2⟩)
    | some q =>
      obtain ⟨gs, r1⟩ := q
      refine W_seq ?_
      refine W_region ?_
      refine WL_val rfl rfl rfl (by first | exact rMoveP rfl rfl | exact rMove rfl) ?_
      refine WL_val rfl rfl rfl (by first | exact rMoveI rfl rfl | exact rMove rfl) ?_
      refine WL_val rfl rfl rfl (by first | exact rInc rfl rfl rfl (by omega) | exact rAdd rfl rfl rfl (by omega) | exact rAddW rfl rfl rfl) ?_
      refine WL_call rfl rfl rfl (rCall (vs := [.pointer _, .int .i64 _]) rfl Tryd.func19 rfl rfl rfl) ?_
      refine (hSev (d + 1) T sgs c i1 p g S w0 _ H (by omega) hP hi1 hI1 hG hS).mono ?_
      unfold SevPost
      rintro e w2 (⟨gs', vs, L, A, c', i2, h, rfl, hR, hgl, hi2, hI2⟩ | ⟨h, -⟩)
      rotate_left
      · rw [hx] at h; cases h
      rw [hx] at h
      cases h
      refine ⟨_, rfl, ?_⟩
      refine WL_val rfl rfl rfl (by first | exact rMoveT rfl rfl | exact rMove rfl) ?_
      refine WL_val rfl rfl rfl (rExtr rfl rfl rfl) ?_
      refine WL_val rfl rfl rfl (rExtr rfl rfl rfl) ?_
      refine WL_val rfl rfl rfl (by first | exact rAsgnS rfl rfl | exact rAsgn rfl) ?_
      refine WL_val rfl rfl rfl (by first | exact rAsgnN rfl rfl | exact rAsgnE rfl rfl | exact rAsgn rfl) ?_
      refine WL_nil ?_
      refine W_seq ?_
      refine W_block ?_
      refine W_seq ?_
      refine W_region ?_
      refine WL_val rfl rfl rfl (by first | exact rMoveN rfl rfl | exact rMoveE rfl rfl | exact rMove rfl) ?_
      refine WL_val rfl rfl rfl (by first | exact rIfaceNe rfl Tryd.underlying35 rfl rfl | exact rNilNe rfl Tryd.underlying35 rfl) ?_
      refine WL_val rfl rfl rfl (by first | exact rAsgnB rfl rfl | exact rAsgn rfl) ?_
      refine WL_nil ?_
      refine W_cond false rfl ?_
      have hI := hI2
      refine W_seq ?_
      refine W_region ?_
      refine WL_val rfl rfl rfl (by first | exact rMoveStr rfl rfl | exact rMove rfl) ?_
      refine WL_val rfl rfl rfl (by first | exact rStrEqT rfl rfl rfl (by first | assumption | decide) | exact rStrEqF rfl rfl rfl (by first | assumption | decide) | exact rStrEq rfl rfl rfl) ?_
      refine WL_val rfl rfl rfl (by first | exact rAsgnB rfl rfl | exact rAsgn rfl) ?_
      refine WL_nil ?_
      refine W_cond true rfl ?_
      refine W_seq ?_
      refine W_region ?_
      refine WL_val rfl rfl rfl (by first | exact rMoveS rfl rfl | exact rMove rfl) ?_
      refine WL_val rfl rfl rfl (rBuild (qs := [(0, .slice _ _ _)]) (vs := [_]) [.slice none 0 0] [0] rfl rfl rfl (fun _ => by kernel_rfl)) ?_
      refine WL_box (u := .agg _) (vs := #[_]) hI rfl rfl rfl rfl rfl rfl ?_
      clear hI; rintro b97 w - - hI
      refine WL_val rfl rfl rfl (rIface rfl Tryd.underlying72 rfl rfl) ?_
      refine WL_val rfl rfl rfl (by first | exact rAsgnN rfl rfl | exact rAsgnE rfl rfl | exact rAsgn rfl) ?_
      refine WL_val rfl rfl rfl (by first | exact rAsgnN rfl rfl | exact rAsgnE rfl rfl | exact rAsgn rfl) ?_
      refine WL_nil ?_
      refine W_ret ?_
      exact ret2 4 5 (.inr rfl) rfl (.inl ⟨.mix gs, _, _, i2, rfl, rfl, .mix (b := b97) (by omega) hR, hi2, hI.sw0.sw1⟩)
  rw [if_neg hmi]
  by_cases hth : t = tThen
  · subst hth
    rw [if_pos rfl]
    refine W_seq ?_
    refine W_region ?_
    refine WL_val rfl rfl rfl (by first | exact rStrEqT rfl rfl rfl (by first | assumption | decide) | exact rStrEqF rfl rfl rfl (by first | assumption | decide) | exact rStrEq rfl rfl rfl) ?_
    refine WL_val rfl rfl rfl (by first | exact rAsgnB rfl rfl | exact rAsgn rfl) ?_
    refine WL_nil ?_
    refine W_cond false rfl ?_
    refine W_seq ?_
    refine W_region ?_
    refine WL_val rfl rfl rfl (by first | exact rStrEqT rfl rfl rfl (by first | assumption | decide) | exact rStrEqF rfl rfl rfl (by first | assumption | decide) | exact rStrEq rfl rfl rfl) ?_
    refine WL_val rfl rfl rfl (by first | exact rAsgnB rfl rfl | exact rAsgn rfl) ?_
    refine WL_nil ?_
    refine W_cond false rfl ?_
    refine W_seq ?_
    refine W_region ?_
    refine WL_val rfl rfl rfl (by first | exact rStrEqT rfl rfl rfl (by first | assumption | decide) | exact rStrEqF rfl rfl rfl (by first | assumption | decide) | exact rStrEq rfl rfl rfl) ?_
    refine WL_val rfl rfl rfl (by first | exact rAsgnB rfl rfl | exact rAsgn rfl) ?_
    refine WL_nil ?_
    refine W_cond false rfl ?_
    refine W_seq ?_
    refine W_seq ?_
    refine W_region ?_
    refine WL_val rfl rfl rfl (by first | exact rStrEqT rfl rfl rfl (by first | assumption | decide) | exact rStrEqF rfl rfl rfl (by first | assumption | decide) | exact rStrEq rfl rfl rfl) ?_
    refine WL_val rfl rfl rfl (by first | exact rAsgnB rfl rfl | exact rAsgn rfl) ?_
    refine WL_nil ?_
    refine W_cond false rfl ?_
    refine W_region ?_
    refine WL_val rfl rfl rfl (by first | exact rStrEqT rfl rfl rfl (by first | assumption | decide) | exact rStrEqF rfl rfl rfl (by first | assumption | decide) | exact rStrEq rfl rfl rfl) ?_
    refine WL_val rfl rfl rfl (by first | exact rAsgnB rfl rfl | exact rAsgn rfl) ?_
    refine WL_nil ?_
    refine W_cond true rfl ?_
    refine W_seq ?_
    refine W_region ?_
    refine WL_val rfl rfl rfl (by first | exact rMoveP rfl rfl | exact rMove rfl) ?_
    refine WL_call rfl rfl rfl (rCall (vs := [.pointer _]) rfl Tryd.func16 rfl rfl rfl) ?_
    refine (htk _ hI').mono ?_
    rintro e w1 ⟨rfl, i1, hi1, hd1, hI1⟩
    refine ⟨_, rfl, ?_⟩
    refine WL_val rfl rfl rfl (by first | exact rAsgnStr rfl rfl | exact rAsgn rfl) ?_
    refine WL_nil ?_
    rw [← hd1]
    cases hx : pV (pG k) (T.drop i1) with
    | none =>
      refine W_seq ?_
      refine W_region ?_
      refine WL_val rfl rfl rfl (by first | exact rMoveP rfl rfl | exact rMove rfl) ?_
      refine WL_val rfl rfl rfl (by first | exact rMoveI rfl rfl | exact rMove rfl) ?_
      refine WL_val rfl rfl rfl (by first | exact rInc rfl rfl rfl (by omega) | exact rAdd rfl rfl rfl (by omega) | exact rAddW rfl rfl rfl) ?_
      refine WL_call rfl rfl rfl (rCall (vs := [.pointer _, .int .i64 _]) rfl Tryd.func19 rfl rfl rfl) ?_
      refine (hSev (d + 1) T sgs c i1 p g S w0 _ H (by omega) hP hi1 hI1 hG hS).mono ?_
      unfold SevPost
      rintro e w2 (⟨gs, vs, L, A, c', i2, h, -⟩ | ⟨-, U, u, i2, rfl, hi2, hI2⟩)
      · rw [hx] at h; cases h
      refine ⟨_, rfl, ?_⟩
      refine WL_val rfl rfl rfl (by first | exact rMoveT rfl rfl | exact rMove rfl) ?_
      refine WL_val rfl rfl rfl (rExtr rfl rfl rfl) ?_
      refine WL_val rfl rfl rfl (rExtr rfl rfl rfl) ?_
      refine WL_val rfl rfl rfl (by first | exact rAsgnS rfl rfl | exact rAsgn rfl) ?_
      refine WL_val rfl rfl rfl (by first | exact rAsgnN rfl rfl | exact rAsgnE rfl rfl | exact rAsgn rfl) ?_
      refine WL_nil ?_
      refine W_seq ?_
      refine W_block ?_
      refine W_seq ?_
      refine W_region ?_
      refine WL_val rfl rfl rfl (by first | exact rMoveN rfl rfl | exact rMoveE rfl rfl | exact rMove rfl) ?_
      refine WL_val rfl rfl rfl (by first | exact rIfaceNe rfl Tryd.underlying35 rfl rfl | exact rNilNe rfl Tryd.underlying35 rfl) ?_
      refine WL_val rfl rfl rfl (by first | exact rAsgnB rfl rfl | exact rAsgn rfl) ?_
      refine WL_nil ?_
      refine W_cond true rfl ?_
      refine W_seq ?_
      refine W_region ?_
      refine WL_val rfl rfl rfl (by first | exact rMoveN rfl rfl | exact rMoveE rfl rfl | exact rMove rfl) ?_
      refine WL_val rfl rfl rfl (by first | exact rAsgnN rfl rfl | exact rAsgnE rfl rfl | exact rAsgn rfl) ?_
      refine WL_val rfl rfl rfl (by first | exact rAsgnN rfl rfl | exact rAsgnE rfl rfl | exact rAsgn rfl) ?_
      refine WL_nil ?_
      refine W_ret ?_
      exact ret2 4 5 (.inr rfl) rfl (.inr ⟨rfl, U, u, i2, rfl, hi2, hI2⟩)
    | some q =>
      obtain ⟨gs, r1⟩ := q
      refine W_seq ?_
      refine W_region ?_
      refine WL_val rfl rfl rfl (by first | exact rMoveP rfl rfl | exact rMove rfl) ?_
      refine WL_val rfl rfl rfl (by first | exact rMoveI rfl rfl | exact rMove rfl) ?_
      refine WL_val rfl rfl rfl (by first | exact rInc rfl rfl rfl (by omega) | exact rAdd rfl rfl rfl (by omega) | exact rAddW rfl rfl rfl) ?_
      refine WL_call rfl rfl rfl (rCall (vs := [.pointer _, .int .i64 _]) rfl Tryd.func19 rfl rfl rfl) ?_
      refine (hSev (d + 1) T sgs c i1 p g S w0 _ H (by omega) hP hi1 hI1 hG hS).mono ?_
      unfold SevPost
      rintro e w2 (⟨gs', vs, L, A, c', i2, h, rfl, hR, hgl, hi2, hI2⟩ | ⟨h, -⟩)
      rotate_left
      · rw [hx] at h; cases h
      rw [hx] at h
      cases h
      refine ⟨_, rfl, ?_⟩
      refine WL_val rfl rfl rfl (by first | exact rMoveT rfl rfl | exact rMove rfl) ?_
      refine WL_val rfl rfl rfl (rExtr rfl rfl rfl) ?_
      refine WL_val rfl rfl rfl (rExtr rfl rfl rfl) ?_
      refine WL_val rfl rfl rfl (by first | exact rAsgnS rfl rfl | exact rAsgn rfl) ?_
      refine WL_val rfl rfl rfl (by first | exact rAsgnN rfl rfl | exact rAsgnE rfl rfl | exact rAsgn rfl) ?_
      refine WL_nil ?_
      refine W_seq ?_
      refine W_block ?_
      refine W_seq ?_
      refine W_region ?_
      refine WL_val rfl rfl rfl (by first | exact rMoveN rfl rfl | exact rMoveE rfl rfl | exact rMove rfl) ?_
      refine WL_val rfl rfl rfl (by first | exact rIfaceNe rfl Tryd.underlying35 rfl rfl | exact rNilNe rfl Tryd.underlying35 rfl) ?_
      refine WL_val rfl rfl rfl (by first | exact rAsgnB rfl rfl | exact rAsgn rfl) ?_
      refine WL_nil ?_
      refine W_cond false rfl ?_
      have hI : Inv S w0 w2 (parE p g sgs c i2 :: sgE g sgs :: Win 33 1 A gs.length c' vs :: (L ++ H)) := ((hI2.pull 2 rfl).winOf).back 2
      refine W_seq ?_
      refine W_region ?_
      refine WL_val rfl rfl rfl (by first | exact rMoveStr rfl rfl | exact rMove rfl) ?_
      refine WL_val rfl rfl rfl (by first | exact rStrEqT rfl rfl rfl (by first | assumption | decide) | exact rStrEqF rfl rfl rfl (by first | assumption | decide) | exact rStrEq rfl rfl rfl) ?_
      refine WL_val rfl rfl rfl (by first | exact rAsgnB rfl rfl | exact rAsgn rfl) ?_
      refine WL_nil ?_
      refine W_cond false rfl ?_
      refine W_skip ?_
      refine W_seq ?_
      refine W_region ?_
      refine WL_val rfl rfl rfl (by first | exact rMoveS rfl rfl | exact rMove rfl) ?_
      refine WL_val rfl rfl rfl (rBuild (qs := [(0, .slice _ _ _)]) (vs := [_]) [.slice none 0 0] [0] rfl rfl rfl (fun _ => by kernel_rfl)) ?_
      refine WL_box (u := .agg _) (vs := #[_]) hI rfl rfl rfl rfl rfl rfl ?_
      clear hI; rintro b101 w - - hI
      refine WL_val rfl rfl rfl (rIface rfl Tryd.underlying75 rfl rfl) ?_
      refine WL_val rfl rfl rfl (by first | exact rAsgnN rfl rfl | exact rAsgnE rfl rfl | exact rAsgn rfl) ?_
      refine WL_val rfl rfl rfl (by first | exact rAsgnN rfl rfl | exact rAsgnE rfl rfl | exact rAsgn rfl) ?_
      refine WL_nil ?_
      refine W_ret ?_
      exact ret2 4 5 (.inr rfl) rfl (.inl ⟨.thn gs, _, _, i2, rfl, rfl, .thn (b := b101) (by omega) hR, hi2, hI.sw0.sw1⟩)
  rw [if_neg hth]
  refine W_seq ?_
  refine W_region ?_
  refine WL_val rfl rfl rfl (by first | exact rStrEqT rfl rfl rfl (by first | assumption | decide) | exact rStrEqF rfl rfl rfl (by first | assumption | decide) | exact rStrEq rfl rfl rfl) ?_
  refine WL_val rfl rfl rfl (by first | exact rAsgnB rfl rfl | exact rAsgn rfl) ?_
  refine WL_nil ?_
  refine W_cond false rfl ?_
  refine W_seq ?_
  refine W_region ?_
  refine WL_val rfl rfl rfl (by first | exact rStrEqT rfl rfl rfl (by first | assumption | decide) | exact rStrEqF rfl rfl rfl (by first | assumption | decide) | exact rStrEq rfl rfl rfl) ?_
  refine WL_val rfl rfl rfl (by first | exact rAsgnB rfl rfl | exact rAsgn rfl) ?_
  refine WL_nil ?_
  refine W_cond false rfl ?_
  refine W_seq ?_
  refine W_region ?_
  refine WL_val rfl rfl rfl (by first | exact rStrEqT rfl rfl rfl (by first | assumption | decide) | exact rStrEqF rfl rfl rfl (by first | assumption | decide) | exact rStrEq rfl rfl rfl) ?_
  refine WL_val rfl rfl rfl (by first | exact rAsgnB rfl rfl | exact rAsgn rfl) ?_
  refine WL_nil ?_
  refine W_cond false rfl ?_
  refine W_seq ?_
  refine W_seq ?_
  refine W_region ?_
  refine WL_val rfl rfl rfl (by first | exact rStrEqT rfl rfl rfl (by first | assumption | decide) | exact rStrEqF rfl rfl rfl (by first | assumption | decide) | exact rStrEq rfl rfl rfl) ?_
  refine WL_val rfl rfl rfl (by first | exact rAsgnB rfl rfl | exact rAsgn rfl) ?_
  refine WL_nil ?_
  refine W_cond false rfl ?_
  refine W_region ?_
  refine WL_val rfl rfl rfl (by first | exact rStrEqT rfl rfl rfl (by first | assumption | decide) | exact rStrEqF rfl rfl rfl (by first | assumption | decide) | exact rStrEq rfl rfl rfl) ?_
  refine WL_val rfl rfl rfl (by first | exact rAsgnB rfl rfl | exact rAsgn rfl) ?_
  refine WL_nil ?_
  refine W_cond false rfl ?_
  refine W_skip ?_
  refine W_seq ?_
  refine W_region ?_
  refine WL_val rfl rfl rfl (by first | exact rMoveP rfl rfl | exact rMove rfl) ?_
  refine WL_call rfl rfl rfl (rCall (vs := [.pointer _, .int .i64 _]) rfl Tryd.func15 rfl rfl rfl) ?_
  refine (wrong_any T sgs c i p g S w0 _ H 3 hP hi hI').mono ?_
  rintro e w1 ⟨⟨U, u, rfl⟩, hI1⟩
  refine ⟨_, rfl, ?_⟩
  refine WL_val rfl rfl rfl (by first | exact rAsgnN rfl rfl | exact rAsgnE rfl rfl | exact rAsgn rfl) ?_
  refine WL_val rfl rfl rfl (by first | exact rAsgnN rfl rfl | exact rAsgnE rfl rfl | exact rAsgn rfl) ?_
  refine WL_nil ?_
  refine W_ret ?_
  exact ret2 4 5 (.inr rfl) rfl (.inr ⟨rfl, U, u, i, rfl, hi, hI1⟩)
set_option maxHeartbeats 1000000 in
theorem gen_zero : GenOk 0 := by
  intro d T sgs c i p g S w0 w H hd hP hi hI hG hS
  unfold ReadPost
  refine calls_of_W (N := Tryd.f13.ntmps) Tryd.func13 rfl rfl rfl ?_
  refine W_seq ?_
  refine W_region ?_
  refine WL_val rfl rfl rfl (by first | exact rAsgnN rfl rfl | exact rAsgnE rfl rfl | exact rAsgn rfl) ?_
  refine WL_val rfl rfl rfl (by first | exact rAsgnN rfl rfl | exact rAsgnE rfl rfl | exact rAsgn rfl) ?_
  refine WL_nil ?_
  refine W_seq ?_
  refine W_seq ?_
  refine W_region ?_
  refine WL_val rfl rfl rfl (by first | exact rMoveI rfl rfl | exact rMove rfl) ?_
  refine WL_val rfl rfl rfl (by first | exact rGtrT rfl rfl rfl (by omega) | exact rGtrF rfl rfl rfl (by omega) | exact rGtr rfl rfl rfl) ?_
  refine WL_nil ?_
  refine W_cond true rfl ?_
  refine W_seq ?_
  refine W_region ?_
  refine WL_val rfl rfl rfl (by first | exact rMoveP rfl rfl | exact rMove rfl) ?_
  refine WL_call rfl rfl rfl (rCall (vs := [.pointer _, .int .i64 _]) rfl Tryd.func15 rfl rfl rfl) ?_
  refine (wrong_any T sgs c i p g S w0 _ H 4 hP hi hI).mono ?_
  rintro e w1 ⟨⟨U, u, rfl⟩, hI1⟩
  refine ⟨_, rfl, ?_⟩
  refine WL_val rfl rfl rfl (by first | exact rAsgnN rfl rfl | exact rAsgnE rfl rfl | exact rAsgn rfl) ?_
  refine WL_val rfl rfl rfl (by first | exact rAsgnN rfl rfl | exact rAsgnE rfl rfl | exact rAsgn rfl) ?_
  refine WL_nil ?_
  refine W_ret ?_
  exact ret2 4 5 (.inr rfl) rfl (.inr ⟨rfl, U, u, i, rfl, hi, hI1⟩)
theorem gen_any : ∀ (k : Nat), k ≤ 20 → GenOk k
  | 0, _ => gen_zero
  | k + 1, h => gen_step k h (gen_any k (by omega))
end Go.Proofs.YtlhmldjgmbcocaaDoor
