/- Texts of the proof, merged: Lin9, Lin10, FarD, FarG, FarH, FarI, FarJ, FarmWitness. -/
import Derived.Test.YthndpiopbdecfaaGreatDoorPLin8
import Derived.Test.YthndpiopbdecfaaGreatDoorPGen7
import Derived.Test.YthndpiopbdecfaaGreatDoorPStoL
import Derived.Test.YthndpiopbdecfaaGreatDoorPTell
import Derived.Test.YthndpiopbdecfaaGreatDoorPEvt3
import Derived.Test.YthndpiopbdecfaaGreatDoorPStoA
namespace Go.Proofs.YthndpiopbdecfaaGreatDoor
open Go.RowKit
set_option linter.unusedVariables false
set_option linter.unusedSimpArgs false
/-- A cell of a block. -/
def CellE (g j : Nat) (v : Value) : Ent := ⟨fun k => k = g, fun w => w.cell? ⟨g, j, none⟩ = some v⟩
theorem CellE.ok {w : World} {g j : Nat} {v : Value} (h : w.cell? ⟨g, j, none⟩ = some v) : (CellE g j v).ok w := by
 refine Ent.mk_ok h (fun k hk => ?_) (fun S w1 w2 hc hS h1 => ?_)
 ·have : k = g := hk
  subst this
  exact World.block_lt_of_cell? w _ h
 ·exact (World.cell?_of_block (hc.block g (World.block_lt_of_cell? w1 _ h1) (hS g rfl))).trans h1
section
variable {S : Nat → Prop} {w0 w : World} {H : List Ent}
theorem Inv.cellE {g t j : Nat} {cs : Array Value} {v : Value} (h : Inv S w0 w (B g t cs :: H)) (hc : cs[j]? = some v) : Inv S w0 w [CellE g j v] :=
 ⟨h.chg, fun e he => by rw [List.mem_singleton.1 he]; exact CellE.ok (h.c0 hc), fun e he k hk => by rw [List.mem_singleton.1 he] at hk; exact h.own (B g t cs) (by simp) k hk, List.pairwise_singleton ..⟩
theorem Inv.mapE {o : Int} {A : Option Addr} {n c bud f db eb sb : Nat} {L : Loc} {sts : Nat → List Int} {A' : Option Addr} {m c' : Nat} (h : Inv S w0 w (B sb 179 (srcC o A n c bud f db eb L sts A' m c') :: H)) : Inv S w0 w [CellE sb 14 (.map (some eb))] := h.cellE rfl
theorem Inv.all0 (h : Inv (fun _ => False) w0 w H) {size n : Nat} {v : Value} {xs : List Value} {D : Nat → Prop} (hr : Rd w0 D size v n xs) (hs : 0 < size) : Rd w (fun b => ¬ DL H b) size v n xs := by
 have h' : Inv (DL []) w0 w H := ⟨h.chg.mono (fun _ _ hk => hk.elim), h.ok, fun e he k hk => (h.own e he k hk).imp (fun hh => hh.elim) id, h.apart⟩
 exact Rd.now h' (hr.mono fun _ _ => fun ⟨e, he, _⟩ => by cases he) hs
theorem Inv.kn0 (h : Inv (fun _ => False) w0 w H) (hk : KnOk w0) : KnOk w ∧ ¬ DL H 0 := by
 have h' : Inv (DL []) w0 w H := ⟨h.chg.mono (fun _ _ hk => hk.elim), h.ok, fun e he k hk => (h.own e he k hk).imp (fun hh => hh.elim) id, h.apart⟩
 exact kn_now h' hk (fun ⟨e, he, _⟩ => by cases he)
theorem Many.rd {n i : Nat} {es : Nat → Ent} {l : List Ent} {A : Option Addr} {c : Nat} {st : List Int} (hI : Inv S w0 w (Many n es :: l)) (hi : i < n) (he : es i = StE A c st) : Rd w (fun b => ¬ DL l b) 1 (.slice A st.length c) st.length (i64s st) := by
 have hg : (es i).Φ w := hI.many_at hi
 rw [he] at hg
 have hg : w.ownsRow 0 3 1 (.slice A st.length c) st.length (i64s st) := hg
 refine Rd.of_own hg fun k hk _ => ?_
 rintro ⟨e, hel, hke⟩
 rw [ownBlock_slice] at hk
 exact (List.pairwise_cons.1 hI.apart).1 e hel k ⟨i, hi, by rw [he]; exact hk⟩ hke
end
/-- The first k states are laid. -/
def stK (o : Int) (k : Nat) : Nat → List Int := fun j => if j < k then startF o else []
def locK (L : Loc) (k : Nat) : Loc := fun j => if j < k then L j else (none, 0)
def ordF (r : Int × SSt) : List Int := if r.1 = 1 then r.2.ord else []
def VerdPost (o : Int) (l : List Op8) (ab : Op8 → Op8 → Bool) (bud : Int) (w0 : World) (en : Ending) (w' : World) : Prop :=
 (OkLin o l bud ∧ ∃ A' c', en = .returned (.tuple #[.agg #[.int .i64 (verdF o l ab bud.toNat).1, .slice A' (ordF (verdF o l ab bud.toNat)).length c', .int .i64 ((verdF o l ab bud.toNat).2.ent.length : Int)], .nilIface]) ∧ Inv (fun _ => False) w0 w' [StE A' c' (ordF (verdF o l ab bud.toNat))]) ∨
 (¬ OkLin o l bud ∧ (∃ x, IsErr x ∧ en = .returned (.tuple #[.agg #[.int .i64 0, .slice none 0 0, .int .i64 0], x])) ∧ Pure w0 w')
theorem stK_succ (o : Int) (k : Nat) : stSet (stK o k) k (startF o) = stK o (k + 1) := by
 funext j
 unfold stSet stK
 by_cases h : j = k
 ·subst h; simp
 ·rw [if_neg h]
  by_cases h2 : j < k
  ·rw [if_pos h2, if_pos (by omega)]
  ·rw [if_neg h2, if_neg (by omega)]
theorem locK_succ (L : Loc) (k : Nat) (A1 : Option Addr) (c1 : Nat) : updL (locK L k) k A1 c1 = locK (updL L k A1 c1) (k + 1) := by
 funext j
 unfold updL locK
 by_cases h : j = k
 ·subst h; simp
 ·rw [if_neg h]
  by_cases h2 : j < k
  ·rw [if_pos h2, if_pos (by omega)]; simp [h]
  ·rw [if_neg h2, if_neg (by omega)]
set_option maxHeartbeats 8000000 in
theorem verdict_any (o : Int) (A : Option Addr) (n c : Nat) (l : List Op8) (bud : Int) (f : Nat) (ab : Op8 → Op8 → Bool) (D : Nat → Prop) (w0 : World) (h : OpsR w0 D (.slice A n c) l) (hk : KnOk w0) (hf : AheadC f ab) :
  Calls Tryz.prog 44 #[.int .i64 o, .slice A n c, .int .i64 bud, .func (.func f) #[] #[]] w0 (VerdPost o l ab bud w0) := by
 obtain ⟨hn, hc1, hc2⟩ := h.len
 subst hn
 have hI := Inv.start (fun _ => False) w0
 refine Vm Tryz.f44.ntmps Tryz.func44 rfl ?_
 refine W_seq (W_region (T0 (.agg #[.int .i64 0, .slice none 0 0, .int .i64 0]) (#[.int .i64 0, .slice none 0 0, .int .i64 0]) hI rfl ?_))
 clear hI; rintro b8 w - - hI
 refine Vf rfl (WL_nil ?_)
 by_cases hok : OkLin o l bud
 rotate_left
 ·refine W_seq (W_seq (W_region (V0 rfl (Ve rfl (V0 rfl (V6 [.int .i64 _, .slice _ _ _, .int .i64 _] rfl Tryz.func24 rfl ?_))))))
  refine (lcheck_any o A l.length c l bud D _ (h.pure hI.pu) (hk.pure hI.pu)).mono ?_
  rintro e w1 ⟨hp, ⟨h1, _⟩ | ⟨_, x, hx, rfl⟩⟩
  ·exact absurd h1 hok
  refine ⟨_, rfl, ?_⟩
  obtain ⟨z, rfl⟩ := hx
  replace hI := hI.pure hp
  refine Vk rfl (WL_nil (W_seq (W_region (Vo rfl (Tf rfl Tryz.underlying29 rfl (WL_nil (W_cond true rfl (W_seq (W_region (T6 [] [_, _, _] rfl [.int .i64 0, .slice none 0 0, .int .i64 0] [] rfl (fun _ => by kernel_rfl) (Vo rfl (T1 3 (#[_, _, _]) (.agg _) hI rfl ?_))))))))))))
  clear hI; intro w hI
  refine Vk rfl (WL_nil ?_)
  refine W_ret ?_
  refine Ud 34 3 (.inr rfl) rfl hI.g0 ?_
  exact .inr ⟨hok, ⟨_, ⟨z, rfl⟩, rfl⟩, hI.pu⟩
 have hA := argsOk hok
 obtain ⟨hb0, hb1⟩ : 0 ≤ bud ∧ bud ≤ 1000000 := ⟨hok.2.2.1, hok.2.2.2.1⟩
 have h40 : l.length ≤ 40 := hok.2.2.2.2.1.1
 obtain ⟨bn, rfl⟩ : ∃ bn : Nat, bud = (bn : Int) := ⟨bud.toNat, by omega⟩
 refine W_seq (W_seq (W_region (V0 rfl (Ve rfl (V0 rfl (V6 [.int .i64 _, .slice _ _ _, .int .i64 _] rfl Tryz.func24 rfl ?_))))))
 refine (lcheck_any o A l.length c l _ D _ (h.pure hI.pu) (hk.pure hI.pu)).mono ?_
 rintro e w1 ⟨hp, ⟨_, rfl⟩ | ⟨h1, _⟩⟩
 rotate_left
 ·exact absurd hok h1
 refine ⟨_, rfl, ?_⟩
 replace hI := hI.pure hp
 refine Vf rfl (WL_nil (W_seq (W_region (T3 rfl (Tc rfl Tryz.underlying29 rfl (WL_nil (W_cond false rfl (W_skip (W_seq (W_region (V0 rfl (Ve rfl (V0 rfl ?_)))))))))))))
 refine WL_val rfl rfl rfl (by exact rMoveF rfl rfl) ?_
 refine Ve rfl (Vs rfl Tryz.underlying40 rfl ?_)
 refine WL_mk (by_ := 1) (z := .bool false) hI rfl rfl rfl rfl rfl rfl Tryz.underlying70 (by kernel_rfl) rfl (by omega) (by omega) ?_
 clear hI; rintro b28 w - - hI
 refine WL_mkSet hI rfl rfl rfl rfl ?_
 clear hI; rintro b29 w - - hI
 refine T6 [(0, .int .i64 _), (1, .slice _ _ _), (2, .int .i64 _), (3, .func _ _ _), (4, .slice _ _ _), (7, .map _)] [_, _, _, _, _, _, _, _, _, _, _, _, _, _, _] rfl [.int .i64 0, .slice none 0 0, .int .i64 0, .nilFunc, .slice none 0 0, .slice none 0 0, .slice none 0 0, .slice none 0 0, .slice none 0 0, .slice none 0 0, .slice none 0 0, .slice none 0 0, .slice none 0 0, .slice none 0 0, .map none] [0, 1, 2, 3, 4, 14] rfl (fun _ => by kernel_rfl) (T7 (.agg _) (#[_, _, _, _, _, _, _, _, _, _, _, _, _, _, _]) hI rfl ?_)
 clear hI; rintro b31 w - - hI
 refine U4 rfl (WL_nil ?_)
 have hI' := hI
 rw [boolC_zero] at hI'
 replace hI : Inv (fun _ => False) w0 w [Many 0 (fun j => StE ((fun _ => (none, 0) : Loc) j).1 ((fun _ => (none, 0) : Loc) j).2 (startF o)), B b31 179 (srcC o A l.length c bn f b28 b29 (locK (fun _ => (none, 0)) 0) (stK o 0) none 0 0), B b28 4 (boolC l.length (fun _ => false)), StE none 0 [], SetE b29 [], B b8 34 #[.int .i64 0, .slice none 0 0, .int .i64 0]] := by
  have h1 := (hI'.sw1).fresh (e := StE none 0 []) (Pure.refl w) (Row.nil w 0 3 1) (fun k hk => by cases hk)
  exact h1.sw0.sw1.many_nil _
 clear hI'
 refine W_seq_cut (fun ρ w => ∃ L : Loc, Has ρ [(0, .int .i64 o), (11, .pointer (some ⟨b31, 0, none⟩)), (8, .pointer (some ⟨b8, 0, none⟩))] ∧ Inv (fun _ => False) w0 w [Many 8 (fun j => StE (L j).1 (L j).2 (startF o)), B b31 179 (srcC o A l.length c bn f b28 b29 (locK L 8) (stK o 8) none 0 0), B b28 4 (boolC l.length (fun _ => false)), StE none 0 [], SetE b29 [], B b8 34 #[.int .i64 0, .slice none 0 0, .int .i64 0]]) ?_ ?_
 ·refine W_seq (W_region (V0 rfl (WL_nil (W_block ?_))))
  refine W_loopN (fun mu ρ w => ∃ (k : Nat) (L : Loc), mu = 8 - k ∧ k ≤ 8 ∧ Has ρ [(32, .int .i64 (k : Int)), (0, .int .i64 o), (11, .pointer (some ⟨b31, 0, none⟩)), (8, .pointer (some ⟨b8, 0, none⟩))] ∧ Inv (fun _ => False) w0 w [Many k (fun j => StE (L j).1 (L j).2 (startF o)), B b31 179 (srcC o A l.length c bn f b28 b29 (locK L k) (stK o k) none 0 0), B b28 4 (boolC l.length (fun _ => false)), StE none 0 [], SetE b29 [], B b8 34 #[.int .i64 0, .slice none 0 0, .int .i64 0]]) 8
   ⟨0, _, rfl, by omega, ⟨rfl, rfl, rfl, rfl, trivial⟩, hI⟩ ?_
  clear hI
  rintro mu ρ w ⟨k, L, rfl, hk8, hH, hI⟩
  obtain ⟨σ, rfl⟩ := hH.open
  by_cases hk : k < 8
  rotate_left
  ·obtain rfl : k = 8 := by omega
   refine W_seq (W_region (Vn rfl (WL_nil (W_seq (W_cond false rfl ?_)))))
   refine W_exit ?_
   exact ⟨L, ⟨rfl, rfl, rfl, trivial⟩, hI⟩
  refine W_seq (W_region (Vp rfl (WL_nil (W_seq (W_cond true rfl (W_skip (W_seq (W_block (W_seq (W_region (V0 rfl (Va rfl (WL_nil ?_)))))))))))))
  refine W_draw (by kernel_rfl) ?_
  refine WA_inv (T := [7]) hI.drew ?_
  intro Sx hSx hXS
  replace hI := hI.drew
  refine Vh 0 (hXS _ hI) rfl (Vw 1 (hXS _ hI) rfl (Vw 2 (hXS _ hI) rfl (Vi 4 (hXS _ hI) rfl (Vc 5 6 (hXS _ hI) rfl (Vt 3 rfl ?_)))))
  refine V6 [.int .i64 _] rfl Tryz.func49 rfl ?_
  refine (start_any o _).mono ?_
  rintro e w1 ⟨A1, c1, rfl, hT⟩
  refine ⟨_, rfl, ?_⟩
  replace hI := hI.app1 hT
  refine WL_nil ⟨hXS _ hI.d0, ?_⟩
  refine WT_take 6 rfl rfl (by kernel_rfl) (hXS _ hI.d0) rfl (fun W hW => have hI := hSx W hW; (rIdxArr (sz := 1) (i := k) rfl Tryz.underlying177 (by kernel_rfl) rfl rfl rfl hk)) ?_
  refine WT_A (by kernel_rfl) ?_
  clear hXS hSx
  refine T2 7 rfl ?_
  refine WL_st 2 rfl (u := .slice A1 (startF o).length c1) (j := 6 + k * 1) hI rfl rfl rfl rfl rfl rfl (by kernel_rfl) rfl (by simp [Nat.blt, srcC]; omega) rfl ?_
  clear hI; intro w hI
  simp only [List.set_cons_succ, List.set_cons_zero] at hI
  rw [Nat.mul_one, srcC_set hk, stK_succ, locK_succ] at hI
  refine WL_nil ?_
  refine WA_end (by kernel_rfl) ?_
  replace hI := (hI.many_push).many_congr (es' := fun j => StE (updL L k A1 c1 j).1 (updL L k A1 c1 j).2 (startF o)) (fun j hj => by
   unfold updL
   by_cases hjk : j = k
   ·rw [if_pos hjk, if_pos hjk]
   ·rw [if_neg hjk, if_neg hjk])
  refine W_region (Vu rfl (V0 rfl (WL_nil ?_)))
  exact ⟨8 - (k + 1), by omega, k + 1, _, rfl, by omega, ⟨rfl, rfl, rfl, rfl, trivial⟩, hI⟩
 clear hI
 rintro ρ w ⟨L, hH, hI⟩
 obtain ⟨σ, rfl⟩ := hH.open
 generalize hL8 : locK L 8 = L8 at hI
 generalize hvb : B b8 34 #[.int .i64 0, .slice none 0 0, .int .i64 0] = VB at hI
 have hlen0 : undn l.length (startS o).dn = l.length := undn_start l.length
 have hcall : ∀ (W : World) (H : List Ent), Inv (fun _ => False) w0 W (prt b31 o A l.length c bn f b28 b29 L8 (startS o) none 0 ++ Many 8 (fun j => StE (L j).1 (L j).2 (startF o)) :: H) → Calls Tryz.prog 76 #[.pointer (some ⟨b31, 0, none⟩)] W fun en w' => ∃ L' A'' c'', en = .returned (.int .i64 (verdF o l ab bn).1) ∧ Inv (fun _ => False) w0 w' (prt b31 o A l.length c bn f b28 b29 L' (verdF o l ab bn).2 A'' c'' ++ Many 8 (fun j => StE (L j).1 (L j).2 (startF o)) :: H) := by
  intro W H hI
  have hIm := hI.perm (List.perm_middle)
  have hst : StOk W (prt b31 o A l.length c bn f b28 b29 L8 (startS o) none 0) L8 (startS o).sts := by
   intro j hj
   have e1 : L8 j = L j := by rw [← hL8]; unfold locK; rw [if_pos hj]
   have e2 : (startS o).sts j = startF o := by unfold startS; exact if_pos hj
   rw [e1, e2]
   exact (Many.rd (st := startF o) hIm hj rfl).mono fun _ hb => DL.mono (fun e he => List.mem_append_left _ he) hb
  obtain ⟨hk1, hk2⟩ := hI.kn0 hk
  have ho1 := hI.all0 h (by decide)
  have hsub : ∀ e ∈ prt b31 o A l.length c bn f b28 b29 L8 (startS o) none 0, e ∈ prt b31 o A l.length c bn f b28 b29 L8 (startS o) none 0 ++ Many 8 (fun j => StE (L j).1 (L j).2 (startF o)) :: H := fun e he => List.mem_append_left _ he
  refine (enter_any o b31 b28 b29 f A c l ab bn hA hf h40 (by omega) (l.length + 1) (startS o) L8 none 0 W (by omega) (goodS_start o l.length) (by rw [hlen0]; simp [startS]; omega) (Nat.zero_le _) hI.from (ho1.mono fun _ hb => DL.mono hsub hb) hk1 (DL.mono hsub hk2) hst).mono ?_
  rintro e w' ⟨L', A'', c'', rfl, hT, _⟩
  exact ⟨L', A'', c'', rfl, hI.turnL hT⟩
 have hcall1 : ∀ (W : World) (e : Ent), Inv (fun _ => False) w0 W (e :: (prt b31 o A l.length c bn f b28 b29 L8 (startS o) none 0 ++ [Many 8 (fun j => StE (L j).1 (L j).2 (startF o)), VB])) → Calls Tryz.prog 76 #[.pointer (some ⟨b31, 0, none⟩)] W fun en w' => ∃ L' A'' c'', en = .returned (.int .i64 (verdF o l ab bn).1) ∧ Inv (fun _ => False) w0 w' (e :: (prt b31 o A l.length c bn f b28 b29 L' (verdF o l ab bn).2 A'' c'' ++ [Many 8 (fun j => StE (L j).1 (L j).2 (startF o)), VB])) := by
  intro W e hI
  have pm : ∀ l : List Ent, (e :: (l ++ [Many 8 (fun j => StE (L j).1 (L j).2 (startF o)), VB])).Perm (l ++ Many 8 (fun j => StE (L j).1 (L j).2 (startF o)) :: [VB, e]) := fun l => by
   have h1 : (e :: (l ++ [Many 8 (fun j => StE (L j).1 (L j).2 (startF o)), VB])).Perm ((l ++ [Many 8 (fun j => StE (L j).1 (L j).2 (startF o)), VB]) ++ [e]) := (List.perm_append_singleton _ _).symm
   rwa [List.append_assoc] at h1
  refine (hcall W [VB, e] (hI.perm (pm _))).mono ?_
  rintro en w' ⟨L', A'', c'', rfl, hT⟩
  exact ⟨L', A'', c'', rfl, hT.perm (pm _).symm⟩
 replace hI : Inv (fun _ => False) w0 w (prt b31 o A l.length c bn f b28 b29 L8 (startS o) none 0 ++ Many 8 (fun j => StE (L j).1 (L j).2 (startF o)) :: [VB]) := hI.perm (List.perm_middle (l₁ := [_, _, _, _])).symm
 refine W_seq_cut (fun ρ w => ∃ (b13 : Nat) (L' : Loc) (A'' : Option Addr) (c'' : Nat), Has ρ [(11, .pointer (some ⟨b31, 0, none⟩)), (8, .pointer (some ⟨b8, 0, none⟩)), (13, .pointer (some ⟨b13, 0, none⟩))] ∧ Inv (fun _ => False) w0 w (B b13 34 #[.int .i64 (verdF o l ab bn).1, .slice none 0 0, .int .i64 ((verdF o l ab bn).2.ent.length : Int)] :: (prt b31 o A l.length c bn f b28 b29 L' (verdF o l ab bn).2 A'' c'' ++ [Many 8 (fun j => StE (L j).1 (L j).2 (startF o)), VB]))) ?_ ?_
 ·refine W_draw (by kernel_rfl) ?_
  refine WA_inv (T := [9]) hI.mapE.drew ?_
  intro Sx hSx hXS
  replace hI := hI.drew
  refine Vh 0 (hXS _ hI.mapE) rfl (Vh 2 (hXS _ hI.mapE) rfl (Vi 3 (hXS _ hI.mapE) rfl (Vc 4 14 (hXS _ hI.mapE) rfl (V9 5 (.map _) (hXS _ hI.mapE) rfl (fun W hW => (hSx W hW).g0) ?_))))
  refine WT_two 1 8 rfl rfl (by kernel_rfl) rfl rfl ?_ ?_
  ·refine V6 [.pointer _] rfl Tryz.func76 rfl ?_
   refine (hcall _ [VB] hI).mono ?_
   rintro e w1 ⟨L', A'', c'', rfl, hT⟩
   refine ⟨_, rfl, ?_⟩
   clear hI
   have hI := hT
   refine WL_nil ⟨hXS _ hI.mapE, ?_⟩
   refine WT_two 6 8 rfl rfl (by kernel_rfl) rfl rfl ?_ ?_
   ·refine WL_val rfl rfl rfl (rLenSet rfl Tryz.underlying176 rfl (by exact hI.g3)) ?_
    refine WL_nil ⟨hXS _ hI.mapE, ?_⟩
    refine Ty 7 [(0, .int .i64 _), (2, .int .i64 _)] [_, _, _] (hXS _ hI.mapE) rfl [.int .i64 0, .slice none 0 0, .int .i64 0] [0, 2] rfl (fun _ _ => fun _ => by kernel_rfl) (Vt 8 rfl ?_)
    refine T0 (.agg #[.int .i64 0, .slice none 0 0, .int .i64 0]) (#[.int .i64 0, .slice none 0 0, .int .i64 0]) hI rfl ?_
    clear hI; rintro b13 w - - hI
    refine WL_nil ⟨hXS _ hI.d0.mapE, ?_⟩
    refine WT_A (by kernel_rfl) ?_
    clear hXS hSx
    refine T2 9 rfl ?_
    refine T1 3 (#[_, _, _]) (.agg _) hI rfl ?_
    clear hI; intro w hI
    refine WL_nil ?_
    refine WA_end (by kernel_rfl) ?_
    exact ⟨_, _, _, _, ⟨rfl, rfl, rfl, trivial⟩, hI⟩
   ·refine T0 (.agg #[.int .i64 0, .slice none 0 0, .int .i64 0]) (#[.int .i64 0, .slice none 0 0, .int .i64 0]) hI rfl ?_
    clear hI; rintro b13 w - - hI
    refine WL_nil ⟨hXS _ hI.d0.mapE, ?_⟩
    refine Vt 6 rfl ?_
    refine WL_val rfl rfl rfl (rLenSet rfl Tryz.underlying176 rfl (by exact hI.g4)) ?_
    refine WL_nil ⟨hXS _ hI.d0.mapE, ?_⟩
    refine Ty 7 [(0, .int .i64 _), (2, .int .i64 _)] [_, _, _] (hXS _ hI.d0.mapE) rfl [.int .i64 0, .slice none 0 0, .int .i64 0] [0, 2] rfl (fun _ _ => fun _ => by kernel_rfl) ?_
    refine WT_A (by kernel_rfl) ?_
    clear hXS hSx
    refine T2 9 rfl ?_
    refine T1 3 (#[_, _, _]) (.agg _) hI rfl ?_
    clear hI; intro w hI
    refine WL_nil ?_
    refine WA_end (by kernel_rfl) ?_
    exact ⟨_, _, _, _, ⟨rfl, rfl, rfl, trivial⟩, hI⟩
  ·refine T0 (.agg #[.int .i64 0, .slice none 0 0, .int .i64 0]) (#[.int .i64 0, .slice none 0 0, .int .i64 0]) hI rfl ?_
   clear hI; rintro b13 w - - hI
   refine WL_nil ⟨hXS _ hI.d0.mapE, ?_⟩
   refine Vt 1 rfl ?_
   refine V6 [.pointer _] rfl Tryz.func76 rfl ?_
   refine (hcall1 _ _ hI).mono ?_
   rintro e w1 ⟨L', A'', c'', rfl, hT⟩
   refine ⟨_, rfl, ?_⟩
   clear hI
   have hI := hT
   refine WL_nil ⟨hXS _ hI.d0.mapE, ?_⟩
   refine Vt 6 rfl ?_
   refine WL_val rfl rfl rfl (rLenSet rfl Tryz.underlying176 rfl (by exact hI.g4)) ?_
   refine WL_nil ⟨hXS _ hI.d0.mapE, ?_⟩
   refine Ty 7 [(0, .int .i64 _), (2, .int .i64 _)] [_, _, _] (hXS _ hI.d0.mapE) rfl [.int .i64 0, .slice none 0 0, .int .i64 0] [0, 2] rfl (fun _ _ => fun _ => by kernel_rfl) ?_
   refine WT_A (by kernel_rfl) ?_
   clear hXS hSx
   refine T2 9 rfl ?_
   refine T1 3 (#[_, _, _]) (.agg _) hI rfl ?_
   clear hI; intro w hI
   refine WL_nil ?_
   refine WA_end (by kernel_rfl) ?_
   exact ⟨_, _, _, _, ⟨rfl, rfl, rfl, trivial⟩, hI⟩
 clear hI hcall hcall1
 rintro ρ w ⟨b13, L', A'', c'', hH, hI⟩
 obtain ⟨σ, rfl⟩ := hH.open
 subst hvb
 generalize hR : verdF o l ab bn = R at hI
 obtain ⟨z, s'⟩ := R
 simp only at hI
 replace hI : Inv (fun _ => False) w0 w [B b13 34 #[.int .i64 z, .slice none 0 0, .int .i64 (s'.ent.length : Int)], B b31 179 (srcC o A l.length c bn f b28 b29 L' s'.sts A'' s'.ord.length c''), B b28 4 (boolC l.length s'.dn), StE A'' c'' s'.ord, SetE b29 s'.ent, Many 8 (fun j => StE (L j).1 (L j).2 (startF o)), B b8 34 #[.int .i64 0, .slice none 0 0, .int .i64 0]] := hI
 have hres : ∀ (A3 : Option Addr) (c3 : Nat) (W : World), Inv (fun _ => False) w0 W [StE A3 c3 (if z = 1 then s'.ord else [])] → VerdPost o l ab ((bn : Nat) : Int) w0 (.returned (.tuple #[.agg #[.int .i64 z, .slice A3 (if z = 1 then s'.ord else []).length c3, .int .i64 (s'.ent.length : Int)], .nilIface])) W := by
  intro A3 c3 W hI
  refine .inl ⟨hok, A3, c3, ?_⟩
  rw [Int.toNat_natCast, hR]
  exact ⟨rfl, hI⟩
 by_cases hz : z = 1
 ·refine W_seq (W_seq (W_region (V5 0 rfl (V3 (.int .i64 _) rfl (hI.c0 rfl) (Vz rfl (WL_nil (W_cond true rfl (W_region (V7 rfl (Vb rfl (V5 5 rfl (V3 (.slice _ _ _) rfl (hI.c1 rfl) (V5 1 rfl ?_)))))))))))))
  refine WL_st0 (u := .slice _ _ _) hI rfl rfl rfl rfl rfl rfl (by kernel_rfl) rfl rfl rfl ?_
  clear hI; intro w hI
  refine WL_nil (W_seq (W_region (Tn 3 rfl hI.g0 ?_)))
  refine WL_stw6 (u := .agg _) (vs := #[_, _, _]) (n := 3) hI rfl rfl rfl rfl rfl rfl (by kernel_rfl) rfl rfl rfl ?_
  clear hI; intro w hI
  refine Vf rfl (WL_nil ?_)
  refine W_ret ?_
  refine Ud 34 3 (.inr rfl) rfl hI.g6 ?_
  rw [if_pos hz] at hres
  exact hres _ _ _ hI.d6.d5.d4.d2.d1.d0
 ·refine W_seq (W_seq (W_region (V5 0 rfl (V3 (.int .i64 _) rfl (hI.c0 rfl) (Vr rfl (WL_nil (W_cond false rfl (W_skip (W_seq (W_region (Tn 3 rfl hI.g0 ?_)))))))))))
  refine WL_stw6 (u := .agg _) (vs := #[_, _, _]) (n := 3) hI rfl rfl rfl rfl rfl rfl (by kernel_rfl) rfl rfl rfl ?_
  clear hI; intro w hI
  refine Vf rfl (WL_nil ?_)
  refine W_ret ?_
  refine Ud 34 3 (.inr rfl) rfl hI.g6 ?_
  rw [if_neg hz] at hres
  have h1 : Inv (fun _ => False) w0 w [] := hI.d6.d5.d4.d3.d2.d1.d0
  exact hres none 0 _ (h1.fresh (Pure.refl w) (Row.nil w 0 3 1) (fun k hk => by cases hk))
/-- linear.Check. -/
theorem before_ahead : AheadC 25 befB := ⟨⟨_, Tryz.func25, rfl, rfl⟩, before_any⟩
theorem chk_any (o : Int) (A : Option Addr) (n c : Nat) (l : List Op8) (bud : Int) (D : Nat → Prop) (w0 : World) (h : OpsR w0 D (.slice A n c) l) (hk : KnOk w0) :
  Calls Tryz.prog 19 #[.int .i64 o, .slice A n c, .int .i64 bud] w0 (VerdPost o l befB bud w0) := by
 have hI := Inv.start (fun _ => False) w0
 refine Vm Tryz.f19.ntmps Tryz.func19 rfl ?_
 refine W_seq (W_region (T0 (.agg #[.int .i64 0, .slice none 0 0, .int .i64 0]) (#[.int .i64 0, .slice none 0 0, .int .i64 0]) hI rfl ?_))
 clear hI; rintro b6 w - - hI
 refine Vf rfl (WL_nil ?_)
 by_cases hok : OkLin o l bud
 ·refine W_seq (W_region (V0 rfl (Ve rfl (V0 rfl (V6 [.int .i64 _, .slice _ _ _, .int .i64 _, .func _ _ _] rfl Tryz.func44 rfl ?_)))))
  refine (verdict_any o A n c l bud _ befB D _ (h.pure hI.pu) (hk.pure hI.pu) before_ahead).mono ?_
  rintro e w1 (⟨_, A', c', rfl, hT⟩ | ⟨h1, _⟩)
  rotate_left
  ·exact absurd hok h1
  refine ⟨_, rfl, ?_⟩
  replace hI := hI.app1 hT
  refine Vg rfl (Vg rfl ?_)
  refine WL_stw1 (u := .agg _) (vs := #[_, _, _]) (n := 3) hI rfl rfl rfl rfl rfl rfl (by kernel_rfl) rfl rfl rfl ?_
  clear hI; intro w hI
  refine Vf rfl (WL_nil ?_)
  refine W_ret ?_
  refine Ud 34 3 (.inr rfl) rfl hI.g1 ?_
  exact .inl ⟨hok, A', c', rfl, hI.d1⟩
 ·refine W_seq (W_region (V0 rfl (Ve rfl (V0 rfl (V6 [.int .i64 _, .slice _ _ _, .int .i64 _, .func _ _ _] rfl Tryz.func44 rfl ?_)))))
  refine (verdict_any o A n c l bud _ befB D _ (h.pure hI.pu) (hk.pure hI.pu) before_ahead).mono ?_
  rintro e w1 (⟨h1, _⟩ | ⟨_, ⟨x, ⟨z, rfl⟩, rfl⟩, hp⟩)
  ·exact absurd h1 hok
  refine ⟨_, rfl, ?_⟩
  replace hI := hI.pure hp
  refine Vg rfl (Vg rfl (T1 3 (#[_, _, _]) (.agg _) hI rfl ?_))
  clear hI; intro w hI
  refine Vk rfl (WL_nil ?_)
  refine W_ret ?_
  refine Ud 34 3 (.inr rfl) rfl hI.g0 ?_
  exact .inr ⟨hok, ⟨_, ⟨z, rfl⟩, rfl⟩, hI.pu⟩
/-- What must stand in memory. -/
structure FaG (w : World) : Prop where
 num : NumG w
 err : GlobOk w
 kn : KnOk w
theorem FaG.pure {w w' : World} (h : FaG w) (hp : Pure w w') : FaG w' :=
 ⟨h.num.chg (hp.chg (fun _ => False)) NoG.none, ((Inv.start (fun _ => False) w).pure hp).oldp h.err, h.kn.pure hp⟩
def zRep : Array Value := #[strV [], .slice none 0 0, .int .i64 0, .slice none 0 0, .int .i64 0]
/-- What a run comes to: the trial's state when its tape is read, and at its end. -/
structure RunTo (nums : List Int) (n k a t : Nat) (bk : Bool) (gen : List UInt8) (t2 : Tr) : Prop where
 go : ∃ g t1, parsedT gen = some g ∧ MvS (s0 n k a t bk) t1.st ∧ (nums = [] → t1 = ⟨s0 n k a t bk, g, 0, 0, false⟩) ∧ FinR nums k t1 t2
def RunBad (nums : List Int) (n k a t : Int) (bk : Bool) (gen : List UInt8) (bud : Int) : Prop :=
 2000 < nums.length ∨ bud < 0 ∨ 1000000 < bud ∨ ¬ SetOk n k a t ∨ parsedT gen = none ∨
  ∃ (n' k' a' t' : Nat) (t2 : Tr), n = n' ∧ k = k' ∧ a = a' ∧ t = t' ∧ RunTo nums n' k' a' t' bk gen t2 ∧ (evF t2.st.evs = none ∨ ∃ ops, evF t2.st.evs = some ops ∧ ¬ OkLin 1 ops bud)
def RunGood (nums : List Int) (n k a t : Int) (bk : Bool) (title gen : List UInt8) (bud : Int) (w0 : World) (en : Ending) (w' : World) : Prop :=
 ∃ (n' k' a' t' : Nat) (t2 : Tr) (ops : List Op8) (A1 : Option Addr) (c1 : Nat) (A2 : Option Addr) (c2 : Nat), n = n' ∧ k = k' ∧ a = a' ∧ t = t' ∧ SetOk n k a t ∧ (0 ≤ bud ∧ bud ≤ 1000000) ∧ RunTo nums n' k' a' t' bk gen t2 ∧ t2.st.evs.length ≤ 120 ∧ evF t2.st.evs = some ops ∧ OkLin 1 ops bud ∧
  en = .returned (.tuple #[.agg #[strV title, .slice A1 t2.st.evs.length c1, .int .i64 (verdF 1 ops befB bud.toNat).1, .slice A2 (ordF (verdF 1 ops befB bud.toNat)).length c2, .int .i64 ((verdF 1 ops befB bud.toNat).2.ent.length : Int)], .nilIface]) ∧
  Inv (fun _ => False) w0 w' [Row 0 48 7 A1 t2.st.evs.length c1 (t2.st.evs.flatMap evL), StE A2 c2 (ordF (verdF 1 ops befB bud.toNat))]
def RunPost (nums : List Int) (n k a t : Int) (bk : Bool) (title gen : List UInt8) (bud : Int) (w0 : World) (en : Ending) (w' : World) : Prop :=
 (RunBad nums n k a t bk gen bud ∧ (∃ T v, en = .returned (.tuple #[.agg zRep, .iface T v])) ∧ Pure w0 w') ∨ RunGood nums n k a t bk title gen bud w0 en w'
theorem Mv.nk {s s' : StS} (h : Mv s s') : s'.n = s.n ∧ s'.k = s.k := by
 rcases h with ⟨ms, _, rfl⟩ | ⟨c, key, wr, v, _, _, _, _, _, rfl⟩ | ⟨c, _, _, rfl⟩ | ⟨j, m, _, rfl⟩
 ·exact ⟨rfl, rfl⟩
 ·exact begS_nk ..
 ·exact ⟨rfl, rfl⟩
 ·exact del_nk ..
set_option maxHeartbeats 8000000 in
theorem frun_any (n k a t : Int) (bk : Bool) (title gen : List UInt8) (bud : Int) (A : Option Addr) (len cp : Nat) (nums : List Int) (D : Nat → Prop) (w0 : World) (hN : Ints w0 D (.slice A len cp) nums) (hG : FaG w0) (hgl : gen.length ≤ 1000000000) :
  Calls Tryz.prog 8 #[.agg #[.int .i64 n, .int .i64 k, .int .i64 a, .int .i64 t, .bool bk, strV title, strV gen, .int .i64 bud], .slice A len cp] w0 (RunPost nums n k a t bk title gen bud w0) := by
 have hI := Inv.start (fun _ => False) w0
 have hln : len = nums.length := by
  obtain ⟨A', c', hv, _⟩ := hN
  injection hv
 subst hln
 refine Vm Tryz.f8.ntmps Tryz.func8 rfl ?_
 refine W_seq (W_region (T7 (.agg _) (#[_, _, _, _, _, _, _, _]) hI rfl ?_))
 clear hI; rintro b2 w - - hI
 refine T0 (.agg #[.string ⟨#[]⟩, .slice none 0 0, .int .i64 0, .slice none 0 0, .int .i64 0]) (#[.string ⟨#[]⟩, .slice none 0 0, .int .i64 0, .slice none 0 0, .int .i64 0]) hI rfl ?_
 clear hI; rintro b4 w - - hI
 refine Vf rfl (WL_nil ?_)
 have hBad : ∀ {ρ : Env} {w : World} {T : TypeId} {v : Value} {H : List Ent}, Inv (fun _ => False) w0 w (B b4 36 zRep :: H) → RunBad nums n k a t bk gen bud → ρ 4 = .pointer (some ⟨b4, 0, none⟩) → ρ 5 = .iface T v →
   retQ Tryz.prog Tryz.f8 (RunPost nums n k a t bk title gen bud w0) .ret ρ w := by
  intro ρ w T v H hI hb h4 h5
  exact retC2 (n := 5) (t := 36) (.inr rfl) rfl h4 (by kernel_rfl) (by kernel_rfl) rfl hI.g0 (.inl ⟨hb, ⟨T, v, by rw [h5]⟩, hI.pu⟩)
 refine W_seq_cut (fun ρ w => nums.length ≤ 2000 ∧ (0 ≤ bud ∧ bud ≤ 1000000) ∧ Has ρ [(4, .pointer (some ⟨b4, 0, none⟩)), (2, .pointer (some ⟨b2, 0, none⟩)), (1, .slice A nums.length cp)] ∧ Inv (fun _ => False) w0 w [B b4 36 zRep, B b2 25 #[.int .i64 n, .int .i64 k, .int .i64 a, .int .i64 t, .bool bk, strV title, strV gen, .int .i64 bud]]) ?_ ?_
 ·by_cases h1 : 2000 < nums.length
  ·refine W_seq (W_region (Ve rfl (Vs rfl Tryz.underlying26 rfl (Ts rfl (V2 rfl (V1 rfl (V1 rfl (V1 rfl (Vd rfl (V2 rfl (V1 rfl (V1 rfl (V1 rfl ?_)))))))))))))
   refine Vd rfl (WL_nil (W_cond true rfl (W_seq (W_region (T6 [] [_, _, _, _, _] rfl [.string ⟨#[]⟩, .slice none 0 0, .int .i64 0, .slice none 0 0, .int .i64 0] [] rfl (fun _ => by kernel_rfl) (Vx rfl Tryz.underlying49 rfl (T1 5 (#[_, _, _, _, _]) (.agg _) hI rfl ?_)))))))
   clear hI; intro w hI
   refine Vk rfl (WL_nil ?_)
   refine W_ret ?_
   exact hBad hI (.inl h1) rfl rfl
  by_cases h2 : bud < 0
  ·refine W_seq (W_region (Ve rfl (Vs rfl Tryz.underlying26 rfl (Td rfl (V2 rfl (V5 7 rfl (V3 (.int .i64 _) rfl (hI.c1 rfl) (Vp rfl (V8 rfl (V2 rfl (V1 rfl (V1 rfl (V1 rfl ?_)))))))))))))
   refine Vd rfl (WL_nil (W_cond true rfl (W_seq (W_region (T6 [] [_, _, _, _, _] rfl [.string ⟨#[]⟩, .slice none 0 0, .int .i64 0, .slice none 0 0, .int .i64 0] [] rfl (fun _ => by kernel_rfl) (Vx rfl Tryz.underlying49 rfl (T1 5 (#[_, _, _, _, _]) (.agg _) hI rfl ?_)))))))
   clear hI; intro w hI
   refine Vk rfl (WL_nil ?_)
   refine W_ret ?_
   exact hBad hI (.inr (.inl h2)) rfl rfl
  by_cases h3 : 1000000 < bud
  ·refine W_seq (W_region (Ve rfl (Vs rfl Tryz.underlying26 rfl (Td rfl (V2 rfl (V5 7 rfl (V3 (.int .i64 _) rfl (hI.c1 rfl) (Vn rfl (V8 rfl (V2 rfl (V5 7 rfl (V3 (.int .i64 _) rfl (hI.c1 rfl) (Ts rfl ?_)))))))))))))
   refine V8 rfl (WL_nil (W_cond true rfl (W_seq (W_region (T6 [] [_, _, _, _, _] rfl [.string ⟨#[]⟩, .slice none 0 0, .int .i64 0, .slice none 0 0, .int .i64 0] [] rfl (fun _ => by kernel_rfl) (Vx rfl Tryz.underlying49 rfl (T1 5 (#[_, _, _, _, _]) (.agg _) hI rfl ?_)))))))
   clear hI; intro w hI
   refine Vk rfl (WL_nil ?_)
   refine W_ret ?_
   exact hBad hI (.inr (.inr (.inl h3))) rfl rfl
  refine W_seq (W_region (Ve rfl (Vs rfl Tryz.underlying26 rfl (Td rfl (V2 rfl (V5 7 rfl (V3 (.int .i64 _) rfl (hI.c1 rfl) (Vn rfl (V8 rfl (V2 rfl (V5 7 rfl (V3 (.int .i64 _) rfl (hI.c1 rfl) (Td rfl ?_)))))))))))))
  refine V8 rfl (WL_nil (W_cond false rfl (W_skip ?_)))
  exact ⟨by omega, ⟨by omega, by omega⟩, ⟨rfl, rfl, rfl, trivial⟩, hI⟩
 clear hI
 rintro ρ w ⟨hlen, hbud, hH, hI⟩
 obtain ⟨σ, rfl⟩ := hH.open
 have hSet : ∀ (w : World) (H : List Ent), Inv (fun _ => False) w0 w (B b4 36 zRep :: B b2 25 #[.int .i64 n, .int .i64 k, .int .i64 a, .int .i64 t, .bool bk, strV title, strV gen, .int .i64 bud] :: H) → ∀ (j : Nat) (u : Value), [.int .i64 n, .int .i64 k, .int .i64 a, .int .i64 t, .bool bk][j]? = some u → w.cell? ⟨b2, 0 + j, none⟩ = some u := by
  intro w H hI j u hj
  rw [Nat.zero_add]
  refine hI.c1 ?_
  match j, hj with
  | 0, h => exact h
  | 1, h => exact h
  | 2, h => exact h
  | 3, h => exact h
  | 4, h => exact h
  | j + 5, h => simp at h
 by_cases hs : SetOk n k a t
 rotate_left
 ·refine W_seq (W_region (V5 0 rfl (U6 5 [.int .i64 n, .int .i64 k, .int .i64 a, .int .i64 t, .bool bk] rfl (hSet _ _ hI) (V6 [.agg _] rfl Tryz.func12 rfl ?_))))
  refine (new_bad n k a t bk hs _).mono ?_
  rintro e w1 ⟨⟨z, rfl⟩, hp⟩
  refine ⟨_, rfl, ?_⟩
  replace hI := hI.pure hp
  refine Vv rfl (Vg rfl (Vg rfl (U4 rfl (Vk rfl (WL_nil (W_seq (W_seq (W_region (Vo rfl (Tf rfl Tryz.underlying29 rfl (WL_nil (W_cond true rfl (W_seq ?_)))))))))))))
  refine W_region (T6 [] [_, _, _, _, _] rfl [.string ⟨#[]⟩, .slice none 0 0, .int .i64 0, .slice none 0 0, .int .i64 0] [] rfl (fun _ => by kernel_rfl) (Vo rfl (T1 5 (#[_, _, _, _, _]) (.agg _) hI rfl ?_)))
  clear hI; intro w hI
  refine Vk rfl (WL_nil ?_)
  refine W_ret ?_
  exact hBad hI (.inr (.inr (.inr (.inl hs)))) rfl rfl
 obtain ⟨n', rfl⟩ : ∃ n' : Nat, n = n' := ⟨n.toNat, by have := hs.1; omega⟩
 obtain ⟨k', rfl⟩ : ∃ k' : Nat, k = k' := ⟨k.toNat, by have := hs.2.1; omega⟩
 obtain ⟨a', rfl⟩ : ∃ a' : Nat, a = a' := ⟨a.toNat, by have := hs.2.2.1; omega⟩
 obtain ⟨t', rfl⟩ : ∃ t' : Nat, t = t' := ⟨t.toNat, by have := hs.2.2.2; omega⟩
 refine W_seq (W_region (V5 0 rfl (U6 5 [.int .i64 (n' : Int), .int .i64 (k' : Int), .int .i64 (a' : Int), .int .i64 (t' : Int), .bool bk] rfl (hSet _ _ hI) (V6 [.agg _] rfl Tryz.func12 rfl ?_))))
 refine (new_any n' k' a' t' bk hs _).mono ?_
 rintro e w1 ⟨sb, nb, cb, rfl, hT⟩
 refine ⟨_, rfl, ?_⟩
 replace hI := (hI.app hT).perm List.perm_append_comm
 refine Vv rfl (Vg rfl (Vg rfl (U4 rfl (Vf rfl (WL_nil ?_)))))
 replace hI : Inv (fun _ => False) w0 _ (B b4 36 zRep :: B b2 25 #[.int .i64 (n' : Int), .int .i64 (k' : Int), .int .i64 (a' : Int), .int .i64 (t' : Int), .bool bk, strV title, strV gen, .int .i64 bud] :: spt (zL sb nb cb) (s0 n' k' a' t' bk)) := hI
 refine W_seq (W_seq (W_region (T3 rfl (Tc rfl Tryz.underlying29 rfl (WL_nil (W_cond false rfl (W_skip ?_)))))))
 cases hpg : parsedT gen with
 | none =>
  refine W_seq (W_region (V5 6 rfl (V3 (.string _) rfl (hI.c1 rfl) (V6 [.string _] rfl Tryz.func13 rfl ?_))))
  refine (parse_any gen _ (hG.pure hI.pu).num (by omega)).mono ?_
  rintro e w1 (⟨g, v, Lg, hg, _⟩ | ⟨_, ⟨U, u, rfl⟩, hp⟩)
  ·rw [hpg] at hg; cases hg
  refine ⟨_, rfl, ?_⟩
  replace hI := hI.pure hp
  refine Vv rfl (Vg rfl (Vg rfl (Vf rfl (Vk rfl (WL_nil (W_seq (W_seq (W_region (Vo rfl (Tf rfl Tryz.underlying29 rfl (WL_nil (W_cond true rfl (W_seq ?_)))))))))))))
  refine W_region (T6 [] [_, _, _, _, _] rfl [.string ⟨#[]⟩, .slice none 0 0, .int .i64 0, .slice none 0 0, .int .i64 0] [] rfl (fun _ => by kernel_rfl) (Vo rfl (T1 5 (#[_, _, _, _, _]) (.agg _) hI rfl ?_)))
  clear hI; intro w hI
  refine Vk rfl (WL_nil ?_)
  refine W_ret ?_
  exact hBad hI (.inr (.inr (.inr (.inr (.inl hpg))))) rfl rfl
 | some g0 =>
  refine W_seq (W_region (V5 6 rfl (V3 (.string _) rfl (hI.c1 rfl) (V6 [.string _] rfl Tryz.func13 rfl ?_))))
  refine (parse_any gen _ (hG.pure hI.pu).num (by omega)).mono ?_
  rintro e w1 (⟨g, v, Lg, hg, rfl, hr0, hT⟩ | ⟨hg, _⟩)
  rotate_left
  ·rw [hpg] at hg; cases hg
  obtain rfl : g0 = g := by rw [hpg] at hg; exact Option.some.inj hg
  refine ⟨_, rfl, ?_⟩
  replace hI := (hI.app hT).perm (List.perm_append_comm_assoc Lg [B b4 36 zRep, B b2 25 #[.int .i64 (n' : Int), .int .i64 (k' : Int), .int .i64 (a' : Int), .int .i64 (t' : Int), .bool bk, strV title, strV gen, .int .i64 bud]] (spt (zL sb nb cb) (s0 n' k' a' t' bk)))
  refine Vv rfl (Vg rfl (Vg rfl (Th rfl (Vf rfl (WL_nil ?_)))))
  replace hI : Inv (fun _ => False) w0 _ (B b4 36 zRep :: B b2 25 #[.int .i64 (n' : Int), .int .i64 (k' : Int), .int .i64 (a' : Int), .int .i64 (t' : Int), .bool bk, strV title, strV gen, .int .i64 bud] :: (Lg ++ spt (zL sb nb cb) (s0 n' k' a' t' bk))) := hI
  refine W_seq (W_seq (W_region (T3 rfl (Tc rfl Tryz.underlying29 rfl (WL_nil (W_cond false rfl (W_skip ?_)))))))
  obtain ⟨T, bv, rfl⟩ := hr0.val
  obtain ⟨pp, hpp⟩ : ∃ pp : FPlan, (⟨n', k', a', t', bk, title, gen, bud⟩ : FPlan) = pp := ⟨_, rfl⟩
  refine W_seq_cut (fun ρ w => ∃ (tb q : Nat) (A3 : Option Addr) (c3 : Nat), Has ρ [(9, at0 tb), (6, .pointer (some ⟨sb, 0, none⟩)), (4, .pointer (some ⟨b4, 0, none⟩)), (2, .pointer (some ⟨b2, 0, none⟩)), (1, .slice A nums.length cp)] ∧
   Inv (fun _ => False) w0 w (triE tb sb (.iface T (at0 bv)) q pp 0 false :: tapeE q (.slice A3 nums.length c3) 0 :: Row 0 3 1 A3 nums.length c3 (nums.map (Value.int .i64)) :: B b4 36 zRep :: B b2 25 #[.int .i64 (n' : Int), .int .i64 (k' : Int), .int .i64 (a' : Int), .int .i64 (t' : Int), .bool bk, strV title, strV gen, .int .i64 bud] :: (Lg ++ spt (zL sb nb cb) (s0 n' k' a' t' bk)))) ?_ ?_
  ·refine W_draw (by kernel_rfl) ?_
   refine WA_inv (T := []) hI.drew ?_
   intro Sx hSx hXS
   replace hI := hI.drew
   refine Vh 0 (hXS _ hI) rfl ?_
   refine WT_take 1 rfl rfl (by kernel_rfl) (hXS _ hI) rfl (fun W hW => have hI := hSx W hW; (by exact rMoveE rfl rfl)) ?_
   refine T9 2 (hXS _ hI) rfl ?_
   refine WT_take 6 rfl rfl (by kernel_rfl) (hXS _ hI) rfl (fun W hW => have hI := hSx W hW; (by exact rLdB (n := 8) rfl (by kernel_rfl) (by kernel_rfl) rfl rfl hI.g1)) ?_
   refine Vt 3 rfl ?_
   refine V6 [.slice _ _ _] rfl Tryz.func14 rfl ?_
   refine (cloneI_any A _ cp nums D _ (Rd.pure hN hI.pu) (by omega)).mono ?_
   rintro e w1 ⟨A3, c3, rfl, hT⟩
   refine ⟨_, rfl, ?_⟩
   replace hI := hI.app1 hT
   refine WL_nil ⟨hXS _ hI.d0, ?_⟩
   refine Ty 4 [(0, .slice _ _ _)] [_, _] (hXS _ hI.d0) rfl [.slice none 0 0, .int .i64 0] [0] rfl (fun _ _ => fun _ => by kernel_rfl) (Vt 5 rfl ?_)
   refine T7 (.agg _) (#[_, _]) hI rfl ?_
   clear hI; rintro b53 w - - hI
   refine WL_nil ⟨hXS _ hI.d0.d0, ?_⟩
   refine Ty 7 [(0, .pointer _), (1, _), (2, .pointer _), (3, .agg #[_, _, _, _, _, _, _, _])] [_, _, _, _, _, _, _, _, _, _, _, _, _] (hXS _ hI.d0.d0) rfl [.pointer none, .nilIface, .pointer none, .int .i64 0, .int .i64 0, .int .i64 0, .int .i64 0, .bool false, .string ⟨#[]⟩, .string ⟨#[]⟩, .int .i64 0, .int .i64 0, .bool false] [0, 1, 2, 3] rfl (fun _ _ => fun _ => by kernel_rfl) (Vt 8 rfl ?_)
   refine T7 (.agg _) _ hI rfl ?_
   clear hI; rintro b56 w - - hI
   refine WL_nil ⟨hXS _ hI.d0.d0.d0, ?_⟩
   refine WT_take 9 rfl rfl (by kernel_rfl) (hXS _ hI.d0.d0.d0) rfl (fun W hW => have hI := hSx W hW; (by exact rAsgnP rfl rfl)) ?_
   refine WT_end (by kernel_rfl) ?_
   refine ⟨b56, b53, A3, c3, ⟨rfl, rfl, rfl, rfl, rfl, trivial⟩, ?_⟩
   subst hpp
   exact hI
  clear hI
  rintro ρ w ⟨tb, q, A3, c3, hH, hI⟩
  obtain ⟨σ, rfl⟩ := hH.open
  have hpn : pp.n ≤ 1000 := by rw [← hpp]; show n' ≤ 1000; have := hs.1; omega
  have hpk : pp.k ≤ 1000 := by rw [← hpp]; show k' ≤ 1000; have := hs.2.1; omega
  have hppk : pp.k = k' := by rw [← hpp]
  have hgs : g0.sz ≤ 2000 := by
   unfold parsedT at hpg
   split at hpg
   ·have := parsed_sz hpg; omega
   ·cases hpg
  obtain ⟨P0, hP0⟩ : ∃ P0 : List Ent, triE tb sb (.iface T (at0 bv)) q pp 0 false :: tapeE q (.slice A3 nums.length c3) 0 :: (Lg ++ spt (zL sb nb cb) (s0 n' k' a' t' bk)) = P0 := ⟨_, rfl⟩
  have hIP : Inv (fun _ => False) w0 w (P0 ++ [Row 0 3 1 A3 nums.length c3 (nums.map (Value.int .i64)), B b4 36 zRep, B b2 25 #[.int .i64 (n' : Int), .int .i64 (k' : Int), .int .i64 (a' : Int), .int .i64 (t' : Int), .bool bk, strV title, strV gen, .int .i64 bud]]) := by
   refine hI.perm ?_
   rw [← hP0]
   refine List.Perm.cons _ (List.Perm.cons _ ?_)
   exact List.perm_append_comm (l₁ := [_, _, _])
  have hap : ∀ kk, A3.map (·.block) = some kk → ¬ DL P0 kk := by
   rintro kk hk ⟨e, he, hk2⟩
   exact (List.pairwise_append.1 hIP.apart).2.2 e he _ (List.mem_cons_self ..) kk hk2 hk
  have hNb : Ints w (fun kk => A3.map (·.block) = some kk) (.slice A3 nums.length c3) nums := Rd.of_own (hIP.ok (Row 0 3 1 A3 nums.length c3 (nums.map (Value.int .i64))) (by simp)).1 (fun kk hk _ => by
   cases A3 with
   | none => cases hk
   | some x => exact hk)
  obtain ⟨wb, hwb⟩ : ∃ wb, wb = w := ⟨_, rfl⟩
  subst hwb
  have hIT : Inv (DL P0) wb wb (triE tb sb (.iface T (at0 bv)) q pp 0 false :: tapeE q (.slice A3 nums.length c3) 0 :: (Lg ++ spt (zL sb nb cb) (s0 n' k' a' t' bk))) := by rw [hP0]; exact hIP.from
  have hok0 : SOk (zL sb nb cb) (s0 n' k' a' t' bk) 0 := s0_ok hs sb nb cb
  refine W_seq_cut (fun ρ w => ∃ (t1 : Tr) (L1 : StL) (LG1 : List Ent) (M1 : Nat), MvS (s0 n' k' a' t' bk) t1.st ∧ (nums = [] → t1 = ⟨s0 n' k' a' t' bk, g0, 0, 0, false⟩) ∧ Rep t1.g (.iface T (at0 bv)) LG1 ∧ t1.g.sz ≤ g0.sz ∧ SOk L1 t1.st M1 ∧ M1 ≤ 2000 ∧ L1.sb = sb ∧ t1.u ≤ 5000 ∧ t1.b ≤ 40 ∧ t1.st.k = k' ∧
   Has ρ [(9, at0 tb), (6, .pointer (some ⟨sb, 0, none⟩)), (4, .pointer (some ⟨b4, 0, none⟩)), (2, .pointer (some ⟨b2, 0, none⟩)), (1, .slice A nums.length cp)] ∧ Inv (DL P0) wb w (triE tb sb (.iface T (at0 bv)) q pp t1.b t1.em :: tapeE q (.slice A3 nums.length c3) t1.u :: (LG1 ++ spt L1 t1.st))) ?_ ?_
  ·refine W_block ?_
   refine W_loopN (fun mu ρ w => ∃ (t1 : Tr) (L1 : StL) (LG1 : List Ent) (M1 : Nat), mu = nums.length - t1.u ∧ MvS (s0 n' k' a' t' bk) t1.st ∧ (t1 = ⟨s0 n' k' a' t' bk, g0, 0, 0, false⟩ ∨ 0 < nums.length) ∧ Rep t1.g (.iface T (at0 bv)) LG1 ∧ t1.g.sz ≤ g0.sz ∧ SOk L1 t1.st M1 ∧ M1 ≤ nums.length ∧ M1 ≤ t1.u ∧ L1.sb = sb ∧ t1.u ≤ 5000 ∧ t1.b ≤ 40 ∧ t1.st.k = k' ∧
    Has ρ [(9, at0 tb), (6, .pointer (some ⟨sb, 0, none⟩)), (4, .pointer (some ⟨b4, 0, none⟩)), (2, .pointer (some ⟨b2, 0, none⟩)), (1, .slice A nums.length cp)] ∧ Inv (DL P0) wb w (triE tb sb (.iface T (at0 bv)) q pp t1.b t1.em :: tapeE q (.slice A3 nums.length c3) t1.u :: (LG1 ++ spt L1 t1.st))) nums.length
    ⟨⟨s0 n' k' a' t' bk, g0, 0, 0, false⟩, zL sb nb cb, Lg, 0, rfl, .refl _, .inl rfl, hr0, Nat.le_refl _, hok0, by omega, by omega, rfl, by show 0 ≤ 5000; omega, by show 0 ≤ 40; omega, rfl, ⟨rfl, rfl, rfl, rfl, rfl, trivial⟩, hIT⟩ ?_
   clear hI hH
   rintro mu ρ w ⟨t1, L1, LG1, M1, rfl, hmv, h00, hr1, hsz1, hok1, hM1, hMu, hsb1, hu1, hb1, hk1, hH, hI⟩
   obtain ⟨σ, rfl⟩ := hH.open
   rw [← hsb1] at hI
   by_cases hult : t1.u < nums.length
   rotate_left
   ·refine W_seq (W_seq (W_region (V7 rfl (Vb rfl (V5 2 rfl (V3 (.pointer _) rfl (hI.c0 rfl) (V6 [.pointer _] rfl Tryz.func15 rfl ?_)))))))
    refine (used_any (DL P0) wb _ _ q _ t1.u (hI.perm (.swap ..))).mono ?_
    rintro e w1 ⟨rfl, hI1⟩
    refine ⟨_, rfl, ?_⟩
    replace hI := hI1.perm (.swap ..)
    clear hI1
    refine Ve rfl (Vs rfl Tryz.underlying26 rfl (Vn rfl (WL_nil (W_cond false rfl ?_))))
    refine W_exit ?_
    rw [hsb1] at hI
    refine ⟨t1, L1, LG1, M1, hmv, fun hn => ?_, hr1, hsz1, hok1, by omega, hsb1, hu1, hb1, hk1, ⟨rfl, rfl, rfl, rfl, rfl, trivial⟩, hI⟩
    rcases h00 with h | h
    ·exact h
    ·rw [hn] at h; exact absurd h (by simp)
   ·refine W_seq (W_seq (W_region (V7 rfl (Vb rfl (V5 2 rfl (V3 (.pointer _) rfl (hI.c0 rfl) (V6 [.pointer _] rfl Tryz.func15 rfl ?_)))))))
    refine (used_any (DL P0) wb _ _ q _ t1.u (hI.perm (.swap ..))).mono ?_
    rintro e w1 ⟨rfl, hI1⟩
    refine ⟨_, rfl, ?_⟩
    replace hI := hI1.perm (.swap ..)
    clear hI1
    refine Ve rfl (Vs rfl Tryz.underlying26 rfl (Vp rfl (WL_nil (W_cond true rfl (W_skip (W_block (W_region (V7 rfl (V6 [.pointer _] rfl Tryz.func16 rfl ?_)))))))))
    refine (move_any _ L1 t1 M1 hI hr1 hok1 (by omega) hNb hap (by omega) (by omega) hpn hpk).mono ?_
    rintro e w3 ⟨⟨v3, rfl⟩, t2, L2, LG2, hmv2, hr2, hsz2, hok2, hsb2, hu2, hu3, hb2, hb3, hI2⟩
    refine ⟨_, rfl, ?_⟩
    replace hI := hI2
    clear hI2
    refine WL_nil ?_
    rw [hsb1] at hI
    exact ⟨nums.length - t2.u, by omega, t2, L2, LG2, M1 + 1, rfl, .step hmv hmv2, .inr (by omega), hr2, by omega, hok2, by omega, by omega, hsb2.trans hsb1, by omega, hb3 hb1, hmv2.nk.2.trans hk1, ⟨rfl, rfl, rfl, rfl, rfl, trivial⟩, hI⟩
  clear hI hIT
  rintro ρ w ⟨t1, L1, LG1, M1, hmv, h00, hr1, hsz1, hok1, hM1, hsb1, hu1, hb1, hk1, hH, hI⟩
  obtain ⟨σ, rfl⟩ := hH.open
  have hmu := mu_le (K := 0) hok1.mlen hok1.n1.2 hok1.k1.2
  have hmul : (90000 - M1) * 2000 ≤ 90000 * 2000 := Nat.mul_le_mul_right _ (by omega)
  refine W_seq (W_region (V7 rfl (V6 [.pointer _] rfl Tryz.func17 rfl ?_)))
  rw [← hsb1] at hI
  refine (finish_any (SZ := 2000) (C := 90000) _ L1 LG1 t1 M1 hI hr1 hok1 (by omega) (by omega) hNb hap (by omega) (by omega) hb1 (by rw [hk1, hppk])).mono ?_
  rintro e w3 ⟨⟨v3, rfl⟩, t2, L2, LG2, M2, hfin, hr2, hok2, hsb2, hI2⟩
  refine ⟨_, rfl, ?_⟩
  replace hI := hI2
  clear hI2
  rw [hsb1] at hI
  refine WL_nil ?_
  have hrun : RunTo nums n' k' a' t' bk gen t2 := ⟨g0, t1, hpg, hmv, h00, by rw [← hppk]; exact hfin⟩
  have helen := hok2.elen
  have hesb : L2.sb = sb := hsb2.trans hsb1
  replace hI := hIP.turnL hI
  replace hI : Inv (fun _ => False) w0 w3 (B b4 36 zRep :: B b2 25 #[.int .i64 (n' : Int), .int .i64 (k' : Int), .int .i64 (a' : Int), .int .i64 (t' : Int), .bool bk, strV title, strV gen, .int .i64 bud] :: spt L2 t2.st) :=
   Inv.sub (hI.perm List.perm_append_comm) (.cons _ (.cons_cons _ (.cons_cons _ (.cons _ (.cons _ (List.sublist_append_right ..))))))
  have hEv := events_any L2 t2.st (DLs (spt L2 t2.st)) w3 (Inv.fromB (X := [B b4 36 zRep, B b2 25 #[.int .i64 (n' : Int), .int .i64 (k' : Int), .int .i64 (a' : Int), .int .i64 (t' : Int), .bool bk, strV title, strV gen, .int .i64 bud]]) hI) (by omega)
  rw [hesb] at hEv
  refine W_seq (W_region (V7 rfl (V6 [.pointer _] rfl Tryz.func18 rfl ?_)))
  refine hEv.mono ?_
  rintro e w4 ⟨A1, c1, rfl, hJ⟩
  refine ⟨_, rfl, ?_⟩
  replace hI := Inv.callB (X := [B b4 36 zRep, B b2 25 #[.int .i64 (n' : Int), .int .i64 (k' : Int), .int .i64 (a' : Int), .int .i64 (t' : Int), .bool bk, strV title, strV gen, .int .i64 bud]]) hI hJ
  replace hI : Inv (fun _ => False) w0 w4 [B b4 36 zRep, B b2 25 #[.int .i64 (n' : Int), .int .i64 (k' : Int), .int .i64 (a' : Int), .int .i64 (t' : Int), .bool bk, strV title, strV gen, .int .i64 bud], Row 0 48 7 A1 t2.st.evs.length c1 (t2.st.evs.flatMap evL)] := Inv.sub hI (.cons_cons _ (.cons_cons _ (.cons_cons _ (List.nil_sublist _))))
  refine Vl rfl (WL_nil ?_)
  have hOps := evops_any A1 _ c1 t2.st.evs (fun _ => True) w4 (Rd.of_own hI.g2 (fun _ _ _ => trivial)) (hG.pure hI.pu).err
  cases hev : evF t2.st.evs with
  | none =>
   rw [hev] at hOps
   refine W_seq (W_region (Ve rfl (V6 [.slice _ _ _] rfl Tryz.func9 rfl ?_)))
   refine hOps.mono ?_
   rintro e w5 ⟨hp, U, u, rfl⟩
   refine ⟨_, rfl, ?_⟩
   replace hI := hI.pure hp
   refine Vv rfl (Vg rfl (Vg rfl (Vl rfl (Vk rfl (WL_nil (W_seq (W_seq (W_region (Vo rfl (Tf rfl Tryz.underlying29 rfl (WL_nil (W_cond true rfl (W_seq ?_)))))))))))))
   refine W_region (T6 [] [_, _, _, _, _] rfl [.string ⟨#[]⟩, .slice none 0 0, .int .i64 0, .slice none 0 0, .int .i64 0] [] rfl (fun _ => by kernel_rfl) (Vo rfl (T1 5 (#[_, _, _, _, _]) (.agg _) hI rfl ?_)))
   clear hI; intro w hI
   refine Vk rfl (WL_nil ?_)
   refine W_ret ?_
   exact hBad hI (.inr (.inr (.inr (.inr (.inr ⟨n', k', a', t', t2, rfl, rfl, rfl, rfl, hrun, .inl hev⟩))))) rfl rfl
  | some ops =>
   rw [hev] at hOps
   refine W_seq (W_region (Ve rfl (V6 [.slice _ _ _] rfl Tryz.func9 rfl ?_)))
   refine hOps.mono ?_
   rintro e w5 ⟨A6, c6, rfl, hT⟩
   refine ⟨_, rfl, ?_⟩
   replace hI := hI.app1 hT
   refine Vv rfl (Vg rfl (Vg rfl (Vl rfl (Vf rfl (WL_nil (W_seq (W_seq (W_region (T3 rfl (Tc rfl Tryz.underlying29 rfl (WL_nil (W_cond false rfl (W_skip ?_)))))))))))))
   have hChk := chk_any 1 A6 ops.length c6 ops bud (fun _ => True) w5 (Rd.of_own hI.g0 (fun _ _ _ => trivial)) (hG.pure hI.pu).kn
   by_cases hok : OkLin 1 ops bud
   rotate_left
   ·refine W_seq (W_region (Ve rfl (V5 7 rfl (V3 (.int .i64 _) rfl (hI.c2 rfl) (V6 [.int .i64 _, .slice _ _ _, .int .i64 _] rfl Tryz.func19 rfl ?_)))))
    refine hChk.mono ?_
    rintro e w6 (⟨h1, _⟩ | ⟨_, ⟨x, ⟨z, rfl⟩, rfl⟩, hp⟩)
    ·exact absurd h1 hok
    refine ⟨_, rfl, ?_⟩
    replace hI := hI.pure hp
    refine Vv rfl (Vg rfl (Vg rfl (T0 (.agg #[.int .i64 0, .slice none 0 0, .int .i64 0]) (#[.int .i64 0, .slice none 0 0, .int .i64 0]) hI rfl ?_)))
    clear hI; rintro b12 w - - hI
    refine T1 3 (#[_, _, _]) (.agg _) hI rfl ?_
    clear hI; intro w hI
    refine Vk rfl (WL_nil (W_seq (W_seq (W_region (Vo rfl (Tf rfl Tryz.underlying29 rfl (WL_nil (W_cond true rfl (W_seq (W_region (T6 [] [_, _, _, _, _] rfl [.string ⟨#[]⟩, .slice none 0 0, .int .i64 0, .slice none 0 0, .int .i64 0] [] rfl (fun _ => by kernel_rfl) (Vo rfl ?_))))))))))))
    refine WL_stw2 (u := .agg _) (vs := #[_, _, _, _, _]) (n := 5) hI rfl rfl rfl rfl rfl rfl (by kernel_rfl) rfl rfl rfl ?_
    clear hI; intro w hI
    refine Vk rfl (WL_nil ?_)
    refine W_ret ?_
    exact hBad (hI.pull 2 rfl) (.inr (.inr (.inr (.inr (.inr ⟨n', k', a', t', t2, rfl, rfl, rfl, rfl, hrun, .inr ⟨ops, hev, hok⟩⟩))))) rfl rfl
   ·refine W_seq (W_region (Ve rfl (V5 7 rfl (V3 (.int .i64 _) rfl (hI.c2 rfl) (V6 [.int .i64 _, .slice _ _ _, .int .i64 _] rfl Tryz.func19 rfl ?_)))))
    refine hChk.mono ?_
    rintro e w6 (⟨_, A7, c7, rfl, hT⟩ | ⟨h1, _⟩)
    rotate_left
    ·exact absurd hok h1
    refine ⟨_, rfl, ?_⟩
    replace hI := hI.app1 hT
    refine Vv rfl (Vg rfl (Vg rfl (T0 (.agg #[.int .i64 0, .slice none 0 0, .int .i64 0]) (#[.int .i64 0, .slice none 0 0, .int .i64 0]) hI rfl ?_)))
    clear hI; rintro b12 w - - hI
    refine T1 3 (#[_, _, _]) (.agg _) hI rfl ?_
    clear hI; intro w hI
    refine Vf rfl (WL_nil (W_seq (W_seq (W_region (T3 rfl (Tc rfl Tryz.underlying29 rfl (WL_nil (W_cond false rfl (W_skip (W_seq (W_region (V5 5 rfl (V3 (.string _) rfl (hI.c4 rfl) ?_)))))))))))))
    refine Ve rfl (Tn 3 rfl hI.g0 (T6 [(0, .string _), (1, .slice _ _ _), (2, .agg #[_, _, _])] [_, _, _, _, _] rfl [.string ⟨#[]⟩, .slice none 0 0, .int .i64 0, .slice none 0 0, .int .i64 0] [0, 1, 2] rfl (fun _ => by kernel_rfl) ?_))
    refine WL_stw3 (u := .agg _) (vs := #[_, _, _, _, _]) (n := 5) hI rfl rfl rfl rfl rfl rfl (by kernel_rfl) rfl rfl rfl ?_
    clear hI; intro w hI
    refine Vf rfl (WL_nil ?_)
    refine W_ret ?_
    refine retC2 (n := 5) (t := 36) (.inr rfl) rfl rfl (by kernel_rfl) (by kernel_rfl) rfl hI.g3 (.inr ⟨n', k', a', t', t2, ops, A1, c1, A7, c7, rfl, rfl, rfl, rfl, hs, hbud, hrun, helen, hev, hok, rfl, ?_⟩)
    exact (Inv.sub hI (.cons _ (.cons_cons _ (.cons _ (.cons _ (.cons _ (.cons_cons _ (List.nil_sublist _)))))))).perm (.swap ..)
def genT : List UInt8 := [108, 105, 109, 105, 116, 32, 49, 32, 119, 114, 105, 116, 101, 32, 48, 32, 53, 32, 53]
def nodesT : List UInt8 := [110, 111, 100, 101, 115]
def clientsT : List UInt8 := [99, 108, 105, 101, 110, 116, 115]
def quorumT : List UInt8 := [113, 117, 111, 114, 117, 109]
def gennT : List UInt8 := [103, 101, 110]
theorem parsed_genT : parsedT genT = some (.lim 1 (.wr 0 5 5)) := by kernel_rfl
def pC (n k a t : Nat) (gen : List UInt8) : Array Value := #[.int .i64 (n : Int), .int .i64 (k : Int), .int .i64 (a : Int), .int .i64 (t : Int), .bool true, strV [], strV gen, .int .i64 10000]
def two2 (a b : Array Value) : Nat → Array Value
 | 0 => a
 | _ => b
def three3 (a b c : Array Value) : Nat → Array Value
 | 0 => a
 | 1 => b
 | _ => c
section
variable {w0 : World} {H : List Ent} {b : Nat}
theorem lineNodes (w : World) (hI : Inv (fun _ => False) w0 w (B b 25 (pC 0 0 0 0 []) :: H)) (hG : NumG w0) (hM : MaxOk w0) :
  Calls Tryz.prog 29 #[.pointer (some ⟨b, 0, none⟩), strV nodesT, strV [51]] w fun e w' => e = .returned .nilIface ∧ Inv (fun _ => False) w0 w' (B b 25 (pC 3 0 0 0 []) :: H) := by
 refine Vm Tryz.f29.ntmps Tryz.func29 rfl ?_
 refine W_seq (W_region (Vf rfl (WL_nil (W_seq (W_seq (W_region (Vq rfl (WL_nil (W_block (W_seq (W_region (Uc rfl (V4 rfl ?_)))))))))))))
 refine WL_nil (W_cond false rfl (W_seq (W_region (Uc rfl (V4 rfl (WL_nil (W_cond false rfl (W_seq (W_region (Uc rfl (V4 rfl (WL_nil (W_cond false rfl ?_)))))))))))))
 refine W_seq (W_region (Ui rfl (V4 rfl (WL_nil (W_cond true rfl (W_seq (W_region (Vq rfl (V7 rfl (Vb rfl (V5 0 rfl (V5 0 rfl (Vy [(0, .pointer _)] [_] [.pointer none] [0] hI rfl Tryz.underlying190 (fun _ => by kernel_rfl) ?_)))))))))))))
 clear hI; rintro b55 w - - hI
 refine V6 [.string _, .slice _ _ _] rfl Tryz.func53 rfl ?_
 refine (numbers_any w0 _ H b _ 25 [51] [[51]] 1 (fun _ => 0) (fun _ => 3) (two2 (pC 0 0 0 0 []) (pC 3 0 0 0 [])) _ hI (fun k hk => ?_) (fun k hk => ?_) (fun k hk => ?_) rfl (by decide) (by decide) (by decide +kernel) (by decide +kernel) hG hM).mono ?_
 ·obtain rfl : k = 0 := by omega
  rfl
 ·obtain rfl : k = 0 := by omega
  exact ⟨rfl, rfl⟩
 ·obtain rfl : k = 0 := by omega
  exact ⟨by decide +kernel, by decide⟩
 rintro e w1 ⟨rfl, hI1⟩
 refine ⟨_, rfl, ?_⟩
 replace hI := hI1
 refine Vf rfl (WL_nil ?_)
 refine W_ret ?_
 exact ret1 6 (.inr rfl) rfl ⟨rfl, hI⟩
theorem lineClients (w : World) (hI : Inv (fun _ => False) w0 w (B b 25 (pC 3 0 0 0 []) :: H)) (hG : NumG w0) (hM : MaxOk w0) :
  Calls Tryz.prog 29 #[.pointer (some ⟨b, 0, none⟩), strV clientsT, strV [49]] w fun e w' => e = .returned .nilIface ∧ Inv (fun _ => False) w0 w' (B b 25 (pC 3 1 0 0 []) :: H) := by
 refine Vm Tryz.f29.ntmps Tryz.func29 rfl ?_
 refine W_seq (W_region (Vf rfl (WL_nil (W_seq (W_seq (W_region (Vq rfl (WL_nil (W_block (W_seq (W_region (Uc rfl (V4 rfl ?_)))))))))))))
 refine WL_nil (W_cond false rfl (W_seq (W_region (Uc rfl (V4 rfl (WL_nil (W_cond false rfl (W_seq (W_region (Uc rfl (V4 rfl (WL_nil (W_cond false rfl ?_)))))))))))))
 refine W_seq (W_region (Uc rfl (V4 rfl (WL_nil (W_cond false rfl (W_seq (W_region (Ui rfl (V4 rfl (WL_nil (W_cond true rfl (W_seq (W_region ?_)))))))))))))
 refine Vq rfl (V7 rfl (Vb rfl (V5 0 rfl (V5 1 rfl (Vy [(0, .pointer _)] [_] [.pointer none] [0] hI rfl Tryz.underlying190 (fun _ => by kernel_rfl) ?_)))))
 clear hI; rintro b64 w - - hI
 refine V6 [.string _, .slice _ _ _] rfl Tryz.func53 rfl ?_
 refine (numbers_any w0 _ H b _ 25 [49] [[49]] 1 (fun _ => 1) (fun _ => 1) (two2 (pC 3 0 0 0 []) (pC 3 1 0 0 [])) _ hI (fun k hk => ?_) (fun k hk => ?_) (fun k hk => ?_) rfl (by decide) (by decide) (by decide +kernel) (by decide +kernel) hG hM).mono ?_
 ·obtain rfl : k = 0 := by omega
  rfl
 ·obtain rfl : k = 0 := by omega
  exact ⟨rfl, rfl⟩
 ·obtain rfl : k = 0 := by omega
  exact ⟨by decide +kernel, by decide⟩
 rintro e w1 ⟨rfl, hI1⟩
 refine ⟨_, rfl, ?_⟩
 replace hI := hI1
 refine Vf rfl (WL_nil ?_)
 refine W_ret ?_
 exact ret1 6 (.inr rfl) rfl ⟨rfl, hI⟩
theorem lineQuorum (w : World) (hI : Inv (fun _ => False) w0 w (B b 25 (pC 3 1 0 0 []) :: H)) (hG : NumG w0) (hM : MaxOk w0) :
  Calls Tryz.prog 29 #[.pointer (some ⟨b, 0, none⟩), strV quorumT, strV [50, 32, 50]] w fun e w' => e = .returned .nilIface ∧ Inv (fun _ => False) w0 w' (B b 25 (pC 3 1 2 2 []) :: H) := by
 refine Vm Tryz.f29.ntmps Tryz.func29 rfl ?_
 refine W_seq (W_region (Vf rfl (WL_nil (W_seq (W_seq (W_region (Vq rfl (WL_nil (W_block (W_seq (W_region (Uc rfl (V4 rfl ?_)))))))))))))
 refine WL_nil (W_cond false rfl (W_seq (W_region (Uc rfl (V4 rfl (WL_nil (W_cond false rfl (W_seq (W_region (Uc rfl (V4 rfl (WL_nil (W_cond false rfl ?_)))))))))))))
 refine W_seq (W_region (Uc rfl (V4 rfl (WL_nil (W_cond false rfl (W_seq (W_region (Uc rfl (V4 rfl (WL_nil (W_cond false rfl (W_seq (W_region ?_)))))))))))))
 refine Ui rfl (V4 rfl (WL_nil (W_cond true rfl (W_seq (W_draw (by kernel_rfl) ?_)))))
 refine WA_inv (T := [10]) hI.drew ?_
 intro Sx hSx hXS
 replace hI := hI.drew
 refine WT_take 0 rfl rfl (by kernel_rfl) (hXS _ hI) rfl (fun W hW => have hI := hSx W hW; (by exact rMoveStr rfl rfl)) ?_
 refine Vh 1 (hXS _ hI) rfl (Vi 2 (hXS _ hI) rfl (Vc 3 0 (hXS _ hI) rfl (Vc 4 2 (hXS _ hI) rfl (Vh 5 (hXS _ hI) rfl (Vi 6 (hXS _ hI) rfl (Vc 7 0 (hXS _ hI) rfl (Vc 8 3 (hXS _ hI) rfl (Vt 9 rfl ?_))))))))
 refine Vy [(0, .pointer _), (1, .pointer _)] [_, _] [.pointer none, .pointer none] [0, 1] hI rfl Tryz.underlying190 (fun _ => by kernel_rfl) ?_
 clear hI; rintro b77 w - - hI
 refine WL_nil ⟨hXS _ hI.d0, ?_⟩
 refine WT_A (by kernel_rfl) ?_
 clear hXS hSx
 refine T2 10 rfl ?_
 refine V6 [.string _, .slice _ _ _] rfl Tryz.func53 rfl ?_
 refine (numbers_any w0 _ H b _ 25 [50, 32, 50] [[50], [50]] 2 (fun k => k + 2) (fun _ => 2) (three3 (pC 3 1 0 0 []) (pC 3 1 2 0 []) (pC 3 1 2 2 [])) _ hI (fun k hk => ?_) (fun k hk => ?_) (fun k hk => ?_) rfl (by decide) (by decide) (by decide +kernel) (by decide +kernel) hG hM).mono ?_
 ·match k, hk with
  | 0, _ => rfl
  | 1, _ => rfl
 ·match k, hk with
  | 0, _ => exact ⟨rfl, rfl⟩
  | 1, _ => exact ⟨rfl, rfl⟩
 ·match k, hk with
  | 0, _ => exact ⟨by decide +kernel, by decide⟩
  | 1, _ => exact ⟨by decide +kernel, by decide⟩
 rintro e w1 ⟨rfl, hI1⟩
 refine ⟨_, rfl, ?_⟩
 replace hI := hI1
 refine WL_nil (T2 11 rfl ?_)
 refine Vf rfl (WL_nil ?_)
 refine WA_end (by kernel_rfl) ?_
 refine W_ret ?_
 exact ret1 6 (.inr rfl) rfl ⟨rfl, hI⟩
theorem lineGen (w : World) (hI : Inv (fun _ => False) w0 w (B b 25 (pC 3 1 2 2 []) :: H)) (hG : NumG w0) :
  Calls Tryz.prog 29 #[.pointer (some ⟨b, 0, none⟩), strV gennT, strV genT] w fun e w' => e = .returned .nilIface ∧ Inv (fun _ => False) w0 w' (B b 25 (pC 3 1 2 2 genT) :: H) := by
 refine Vm Tryz.f29.ntmps Tryz.func29 rfl ?_
 refine W_seq (W_region (Vf rfl (WL_nil (W_seq (W_seq (W_region (Vq rfl (WL_nil (W_block (W_seq (W_region (Uc rfl (V4 rfl ?_)))))))))))))
 refine WL_nil (W_cond false rfl (W_seq (W_region (Ui rfl (V4 rfl (WL_nil (W_cond true rfl (W_seq (W_region (V7 rfl (Vq rfl (Vb rfl (V5 6 rfl ?_)))))))))))))
 refine WL_st0 (u := .string _) hI rfl rfl rfl rfl rfl rfl (by kernel_rfl) rfl rfl rfl ?_
 clear hI; intro w hI
 refine WL_nil (W_seq (W_region (Vq rfl (V6 [.string _] rfl Tryz.func13 rfl ?_))))
 refine (parse_any genT _ (hG.chg (hI.pu.chg (fun _ => False)) NoG.none) (by decide)).mono ?_
 rintro e w1 (⟨g, v, Lg, hg, rfl, hr0, hT⟩ | ⟨hg, _⟩)
 rotate_left
 ·rw [parsed_genT] at hg; cases hg
 obtain ⟨T, bv, rfl⟩ := hr0.val
 refine ⟨_, rfl, ?_⟩
 replace hI := hI.pure hT.pu
 refine Vv rfl (Vg rfl (Vg rfl (Vk rfl (Vf rfl (WL_nil (W_seq (W_region (T3 rfl (Tc rfl Tryz.underlying29 rfl (WL_nil (W_cond false rfl (W_skip (W_seq ?_)))))))))))))
 refine W_region (Vf rfl (WL_nil ?_))
 refine W_ret ?_
 exact ret1 6 (.inr rfl) rfl ⟨rfl, hI⟩
end
def nmL : List (List UInt8) := [nodesT, clientsT, quorumT, gennT]
def pieL : List (List UInt8) := [nodesT ++ 32 :: [51], clientsT ++ 32 :: [49], quorumT ++ 32 :: [50, 32, 50], gennT ++ 32 :: genT, []]
def triedT : List UInt8 := (nodesT ++ 32 :: [51]) ++ 10 :: ((clientsT ++ 32 :: [49]) ++ 10 :: ((quorumT ++ 32 :: [50, 32, 50]) ++ 10 :: ((gennT ++ 32 :: genT) ++ [10])))
def pK : Nat → Array Value
 | 0 => pC 0 0 0 0 []
 | 1 => pC 3 0 0 0 []
 | 2 => pC 3 1 0 0 []
 | 3 => pC 3 1 2 2 []
 | _ => pC 3 1 2 2 genT
theorem round_facts {w0 : World} {b : Nat} (hG : NumG w0) (hM : MaxOk w0) (k : Nat) (hk : k < 4) : ∃ nm rs, nmL[k]? = some nm ∧ pieL[k]? = some (nm ++ 32 :: rs) ∧ (nm ++ 32 :: rs).length ≤ 100 ∧ Lib.cut (nm ++ 32 :: rs) [32] = (nm, rs, true) ∧ false = decide (nm ∈ nmL.take k) ∧
  ∀ (H : List Ent) (w : World), Inv (fun _ => False) w0 w (B b 25 (pK k) :: H) → Calls Tryz.prog 29 #[.pointer (some ⟨b, 0, none⟩), strV nm, strV rs] w fun e w' => e = .returned .nilIface ∧ Inv (fun _ => False) w0 w' (B b 25 (pK (k + 1)) :: H) := by
 match k, hk with
 | 0, _ => exact ⟨nodesT, [51], rfl, rfl, by decide, by decide +kernel, by decide +kernel, fun H w hI => lineNodes w hI hG hM⟩
 | 1, _ => exact ⟨clientsT, [49], rfl, rfl, by decide, by decide +kernel, by decide +kernel, fun H w hI => lineClients w hI hG hM⟩
 | 2, _ => exact ⟨quorumT, [50, 32, 50], rfl, rfl, by decide, by decide +kernel, by decide +kernel, fun H w hI => lineQuorum w hI hG hM⟩
 | 3, _ => exact ⟨gennT, genT, rfl, rfl, by decide, by decide +kernel, by decide +kernel, fun H w hI => lineGen w hI hG⟩
set_option maxHeartbeats 4000000 in
theorem fparse_any (w0 : World) (hG : NumG w0) (hM : MaxOk w0) :
  Calls Tryz.prog 11 #[strV triedT] w0 fun en w' => en = .returned (.tuple #[.agg (pC 3 1 2 2 genT), .nilIface]) ∧ Pure w0 w' := by
 have hI := Inv.start (fun _ => False) w0
 refine Vm Tryz.f11.ntmps Tryz.func11 rfl ?_
 refine W_seq (W_region (T0 (.agg #[.int .i64 0, .int .i64 0, .int .i64 0, .int .i64 0, .bool false, .string ⟨#[]⟩, .string ⟨#[]⟩, .int .i64 0]) (#[.int .i64 0, .int .i64 0, .int .i64 0, .int .i64 0, .bool false, .string ⟨#[]⟩, .string ⟨#[]⟩, .int .i64 0]) hI rfl ?_))
 clear hI; rintro b2 w - - hI
 refine Vf rfl (WL_nil (W_seq (W_seq (W_region (Vq rfl (Tp rfl Tryz.underlying9 rfl ?_))))))
 refine WL_val rfl rfl rfl (by exact rGtr rfl rfl rfl) ?_
 refine WL_nil (W_cond false rfl (W_skip (W_seq (W_region (T6 [(4, .bool _)] [_, _, _, _, _] rfl [.int .i64 0, .int .i64 0, .int .i64 0, .int .i64 0, .bool false] [4] rfl (fun _ => by kernel_rfl) (T6 [(0, .agg #[_, _, _, _, _]), (3, .int .i64 _)] [_, _, _, _, _, _, _, _] rfl [.int .i64 0, .int .i64 0, .int .i64 0, .int .i64 0, .bool false, .string ⟨#[]⟩, .string ⟨#[]⟩, .int .i64 0] [0, 7] rfl (fun _ => by kernel_rfl) (T0 (.agg #[.int .i64 0, .int .i64 0, .int .i64 0, .int .i64 0, .bool false, .string ⟨#[]⟩, .string ⟨#[]⟩, .int .i64 0]) (#[.int .i64 0, .int .i64 0, .int .i64 0, .int .i64 0, .bool false, .string ⟨#[]⟩, .string ⟨#[]⟩, .int .i64 0]) hI rfl ?_)))))))
 clear hI; rintro b4 w - - hI
 refine T1 8 (#[_, _, _, _, _, _, _, _]) (.agg _) hI rfl ?_
 clear hI; intro w hI
 refine WL_nil (W_seq (W_region (Vl rfl (WL_nil (W_seq (W_region (Va rfl (WL_nil ?_))))))))
 refine W_seq_cut (fun ρ w => ∃ (A5 : Option Addr) (c5 : Nat), Has ρ [(5, .slice A5 4 c5), (4, .pointer (some ⟨b4, 0, none⟩)), (2, .pointer (some ⟨b2, 0, none⟩)), (0, strV triedT)] ∧ Inv (fun _ => False) w0 w [B b4 25 (pK 4), Row 0 9 1 A5 4 c5 (nmL.map strV), B b2 25 #[.int .i64 0, .int .i64 0, .int .i64 0, .int .i64 0, .bool false, strV [], strV [], .int .i64 0]]) ?_ ?_
 ·refine W_seq (W_region (Vq rfl (V6 [.string _, .string _] rfl Tryz.func27 rfl ?_)))
  refine (splitS_any triedT [10] pieL (by decide) (by decide) (by decide +kernel) (by decide +kernel) _ (hM.pure hI.pu)).mono ?_
  rintro e w1 ⟨g1, rfl, hT⟩
  refine ⟨_, rfl, ?_⟩
  replace hI := hI.app1 hT
  refine Vs rfl Tryz.underlying81 rfl (V0 rfl (WL_nil ?_))
  replace hI : Inv (fun _ => False) w0 _ [B g1 9 (pieL.map strV).toArray, B b4 25 (pK 0), B b2 25 #[.int .i64 0, .int .i64 0, .int .i64 0, .int .i64 0, .bool false, strV [], strV [], .int .i64 0]] := hI
  have hI0 := (hI.fresh (Pure.refl _) (Row.nil _ 0 9 1) (fun k hk => by simp [Row] at hk)).pull 2 rfl
  refine W_block ?_
  refine W_loopN (fun mu ρ w => ∃ (k : Nat) (z : Int) (A5 : Option Addr) (c5 : Nat), mu = 5 - k ∧ k ≤ 5 ∧ 0 ≤ z ∧ z ≤ 1000 * k ∧ Has ρ [(26, .int .i64 (k : Int)), (25, .int .i64 5), (24, .slice (some ⟨g1, 0, none⟩) 5 5), (6, .int .i64 z), (5, .slice A5 (min k 4) c5), (4, .pointer (some ⟨b4, 0, none⟩)), (2, .pointer (some ⟨b2, 0, none⟩)), (0, strV triedT)] ∧
    Inv (fun _ => False) w0 w [B b4 25 (pK k), Row 0 9 1 A5 (min k 4) c5 ((nmL.take k).map strV), B g1 9 (pieL.map strV).toArray, B b2 25 #[.int .i64 0, .int .i64 0, .int .i64 0, .int .i64 0, .bool false, strV [], strV [], .int .i64 0]]) 5
   ⟨0, 0, none, 0, rfl, by omega, by omega, by omega, ⟨rfl, rfl, rfl, rfl, rfl, rfl, rfl, rfl, trivial⟩, hI0⟩ ?_
  clear hI hI0
  rintro mu ρ w ⟨k, z, A5, c5, rfl, hk, hz1, hz2, hH, hI⟩
  obtain ⟨σ, rfl⟩ := hH.open
  by_cases hk5 : k < 5
  rotate_left
  ·obtain rfl : k = 5 := by omega
   refine W_seq (W_region (Vn rfl (WL_nil (W_seq (W_cond false rfl ?_)))))
   refine W_exit ?_
   exact ⟨A5, c5, ⟨rfl, rfl, rfl, rfl, trivial⟩, hI.erase 2⟩
  by_cases hk4 : k < 4
  ·obtain ⟨nm, rs, hnm, hpi, hpl, hcut, hcon, hline⟩ := round_facts (b := b4) hG hM k hk4
   have hcp : (pieL.map strV).toArray[k]? = some (strV (nm ++ 32 :: rs)) := by rw [List.getElem?_toArray, List.getElem?_map, hpi]; rfl
   have hmin : min k 4 = k := by omega
   have htl : (nmL.take k).length = k := by rw [List.length_take]; exact hmin
   have hnx : (nmL.take (k + 1)).map strV = (nmL.take k).map strV ++ [strV nm] := by rw [List.take_add_one, hnm, List.map_append]; rfl
   have hne : nm ++ 32 :: rs ≠ [] := by simp
   rw [hmin] at hI ⊢
   refine W_seq (W_region (Vp rfl (WL_nil (W_seq (W_cond true rfl (W_skip (W_seq (W_block (W_seq (W_region (Tj rfl Tryz.underlying81 rfl (V3 (.string _) rfl (hI.c2 hcp) (U2 rfl ?_)))))))))))))
   refine WL_nil (W_seq (W_seq (W_region (Vq rfl ?_))))
   refine WL_val rfl rfl rfl (by exact rStrNeT rfl rfl rfl (by assumption)) ?_
   refine WL_nil (W_cond true rfl (W_seq (W_region (Vq rfl (V6 [.string _, .string _] rfl Tryz.func28 rfl ?_)))))
   refine (cutS_any (nm ++ 32 :: rs) [32] nm rs true (by omega) hcut _ (hM.pure hI.pu)).mono ?_
   rintro e w1 ⟨rfl, hp1⟩
   refine ⟨_, rfl, ?_⟩
   replace hI := hI.pure hp1
   refine Vv rfl (Vg rfl (Vg rfl (Vg rfl (U2 rfl (U2 rfl (V4 rfl (WL_nil (W_seq (W_region (Vq rfl (Vq rfl (V6 [.pointer _, .string _, .string _] rfl Tryz.func29 rfl ?_))))))))))))
   refine (hline _ _ hI).mono ?_
   rintro e w1 ⟨rfl, hI1⟩
   refine ⟨_, rfl, ?_⟩
   replace hI := hI1
   clear hI1
   refine Vf rfl (WL_nil ?_)
   have hC := fun (w : World) (hI : Inv (fun _ => False) w0 w [B b4 25 (pK (k + 1)), Row 0 9 1 A5 k c5 ((nmL.take k).map strV), B g1 9 (pieL.map strV).toArray, B b2 25 #[.int .i64 0, .int .i64 0, .int .i64 0, .int .i64 0, .bool false, strV [], strV [], .int .i64 0]]) =>
    conS_any A5 c5 (nmL.take k) nm (fun _ => True) w (by rw [htl]; exact Rd.of_own hI.g1 (fun _ _ _ => trivial)) (by omega) false hcon
   rw [htl] at hC
   refine W_seq (W_seq (W_region (T3 rfl ?_)))
   refine WL_val rfl rfl rfl (by exact rNilEq rfl Tryz.underlying29 rfl) ?_
   refine V2 rfl (Ve rfl (Vq rfl (V6 [.slice _ _ _, .string _] rfl Tryz.func30 rfl ?_)))
   refine (hC _ hI).mono ?_
   rintro e w1 ⟨rfl, hp1⟩
   refine ⟨_, rfl, ?_⟩
   replace hI := hI.pure hp1
   refine Vd rfl (WL_nil (W_cond false rfl (W_skip (W_seq (W_seq (W_region (T3 rfl (Tc rfl Tryz.underlying29 rfl (WL_nil (W_cond false rfl (W_skip (W_region (Ve rfl ?_)))))))))))))
   refine Vq rfl (Vy [(0, .string _)] [_] [.string ⟨#[]⟩] [0] hI rfl Tryz.underlying81 (fun _ => by kernel_rfl) ?_)
   clear hI; rintro b60 w - - hI
   refine WL_app2 (z := .string ⟨#[]⟩) (by_ := 16) hI rfl rfl rfl rfl rfl rfl Tryz.underlying81 (by kernel_rfl) rfl (by omega) (by rfl) hI.lit0 (by rfl) (by omega) (by omega) (by exact Nat.zero_le _) ?_
   clear hI; rintro A61 c61 w hA61 hc61 hI
   replace hI := hI.d0
   refine Vl rfl (WL_nil (W_region (V0 rfl (Vq rfl (Tp rfl Tryz.underlying9 rfl (Vu rfl ?_))))))
   refine WL_val rfl rfl rfl (by exact rAdd rfl rfl rfl (by omega)) ?_
   refine Va rfl (WL_nil (W_region (Vu rfl (V0 rfl (WL_nil ?_)))))
   refine ⟨5 - (k + 1), by omega, k + 1, z + (((nm ++ 32 :: rs).length : Int) + 1), A61, c61, rfl, by omega, by omega, by omega, ⟨rfl, rfl, rfl, rfl, ?_, rfl, rfl, rfl, trivial⟩, ?_⟩
   ·rw [show min (k + 1) 4 = k + 1 by omega]; rfl
   ·rw [show min (k + 1) 4 = k + 1 by omega, hnx]; exact hI
  ·obtain rfl : k = 4 := by omega
   have hcp : (pieL.map strV).toArray[4]? = some (strV []) := rfl
   refine W_seq (W_region (Vp rfl (WL_nil (W_seq (W_cond true rfl (W_skip (W_seq (W_block (W_seq (W_region (Tj rfl Tryz.underlying81 rfl (V3 (.string _) rfl (hI.c2 hcp) (U2 rfl ?_)))))))))))))
   refine WL_nil (W_seq (W_seq (W_region (Vq rfl ?_))))
   refine WL_val rfl rfl rfl (by exact rStrNeF rfl rfl rfl (by decide)) ?_
   refine WL_nil (W_cond false rfl (W_skip (W_region (V0 rfl (Vq rfl (Tp rfl Tryz.underlying9 rfl ?_))))))
   refine WL_val rfl rfl rfl (by exact rAddW rfl rfl rfl) ?_
   refine WL_val rfl rfl rfl (by exact rAddW rfl rfl rfl) ?_
   refine Va rfl (WL_nil (W_region (Vu rfl (V0 rfl (WL_nil ?_)))))
   have hw1 : IntKind.i64.wrap (((0 : Nat) : Int) + 1) = 1 := wrap64_in (by omega) (by omega)
   have hw2 : IntKind.i64.wrap (z + 1) = z + 1 := wrap64_in (by omega) (by omega)
   refine ⟨5 - (4 + 1), by omega, 5, _, A5, c5, rfl, by omega, ?_, ?_, ⟨rfl, rfl, rfl, rfl, rfl, rfl, rfl, rfl, trivial⟩, hI⟩
   ·show 0 ≤ IntKind.i64.wrap (z + IntKind.i64.wrap (((0 : Nat) : Int) + 1))
    rw [hw1, hw2]; omega
   ·show IntKind.i64.wrap (z + IntKind.i64.wrap (((0 : Nat) : Int) + 1)) ≤ _
    rw [hw1, hw2]; omega
 clear hI
 rintro ρ w ⟨A5, c5, hH, hI⟩
 obtain ⟨σ, rfl⟩ := hH.open
 refine W_seq_cut (fun ρ w => Has ρ [(4, .pointer (some ⟨b4, 0, none⟩)), (2, .pointer (some ⟨b2, 0, none⟩))] ∧ Inv (fun _ => False) w0 w [B b4 25 (pK 4), Row 0 9 1 A5 4 c5 (nmL.map strV), B b2 25 #[.int .i64 0, .int .i64 0, .int .i64 0, .int .i64 0, .bool false, strV [], strV [], .int .i64 0]]) ?_ ?_
 ·refine W_seq (W_region (Vy [(0, .string _), (1, .string _), (2, .string _), (3, .string _)] [_, _, _, _] [.string ⟨#[]⟩, .string ⟨#[]⟩, .string ⟨#[]⟩, .string ⟨#[]⟩] [0, 1, 2, 3] hI rfl Tryz.underlying81 (fun _ => by kernel_rfl) ?_))
  clear hI; rintro b68 w - - hI
  refine Vs rfl Tryz.underlying81 rfl (V0 rfl (WL_nil (W_block ?_)))
  refine W_loopN (fun mu ρ w => ∃ k : Nat, mu = 4 - k ∧ k ≤ 4 ∧ Has ρ [(70, .int .i64 (k : Int)), (69, .int .i64 4), (68, .slice (some ⟨b68, 0, none⟩) 4 4), (5, .slice A5 4 c5), (4, .pointer (some ⟨b4, 0, none⟩)), (2, .pointer (some ⟨b2, 0, none⟩))] ∧
    Inv (fun _ => False) w0 w [B b68 9 (nmL.map strV).toArray, B b4 25 (pK 4), Row 0 9 1 A5 4 c5 (nmL.map strV), B b2 25 #[.int .i64 0, .int .i64 0, .int .i64 0, .int .i64 0, .bool false, strV [], strV [], .int .i64 0]]) 4
   ⟨0, rfl, by omega, ⟨rfl, rfl, rfl, rfl, rfl, rfl, trivial⟩, hI⟩ ?_
  clear hI
  rintro mu ρ w ⟨k, rfl, hk, hH, hI⟩
  obtain ⟨σ, rfl⟩ := hH.open
  by_cases hk4 : k < 4
  rotate_left
  ·obtain rfl : k = 4 := by omega
   refine W_seq (W_region (Vn rfl (WL_nil (W_seq (W_cond false rfl ?_)))))
   refine W_exit ?_
   exact ⟨⟨rfl, rfl, trivial⟩, hI.d0⟩
  obtain ⟨nm, rs, hnm, -⟩ := round_facts (b := b4) hG hM k hk4
  have hcp : (nmL.map strV).toArray[k]? = some (strV nm) := by rw [List.getElem?_toArray, List.getElem?_map, hnm]; rfl
  refine W_seq (W_region (Vp rfl (WL_nil (W_seq (W_cond true rfl (W_skip (W_seq (W_block (W_seq (W_region (Tj rfl Tryz.underlying81 rfl (V3 (.string _) rfl (hI.c0 hcp) (U2 rfl ?_)))))))))))))
  refine WL_nil (W_seq (W_region (Ve rfl (Vq rfl (V6 [.slice _ _ _, .string _] rfl Tryz.func30 rfl ?_)))))
  refine (conS_any A5 c5 nmL nm (fun _ => True) _ (Rd.of_own hI.g2 (fun _ _ _ => trivial)) (by decide) true (by rw [decide_eq_true (List.mem_of_getElem? hnm)])).mono ?_
  rintro e w1 ⟨rfl, hp1⟩
  refine ⟨_, rfl, ?_⟩
  replace hI := hI.pure hp1
  refine T4 rfl (WL_nil (W_cond false rfl (W_skip (W_region (Vu rfl (V0 rfl (WL_nil ?_)))))))
  exact ⟨4 - (k + 1), by omega, k + 1, rfl, by omega, ⟨rfl, rfl, rfl, rfl, rfl, rfl, trivial⟩, hI⟩
 clear hI
 rintro ρ w ⟨hH, hI⟩
 obtain ⟨σ, rfl⟩ := hH.open
 have hSet : ∀ (w : World), Inv (fun _ => False) w0 w [B b4 25 (pK 4), Row 0 9 1 A5 4 c5 (nmL.map strV), B b2 25 #[.int .i64 0, .int .i64 0, .int .i64 0, .int .i64 0, .bool false, strV [], strV [], .int .i64 0]] → ∀ (j : Nat) (u : Value), [.int .i64 3, .int .i64 1, .int .i64 2, .int .i64 2, .bool true][j]? = some u → w.cell? ⟨b4, 0 + j, none⟩ = some u := by
  intro w hI j u hj
  rw [Nat.zero_add]
  refine hI.c0 ?_
  match j, hj with
  | 0, h => exact h
  | 1, h => exact h
  | 2, h => exact h
  | 3, h => exact h
  | 4, h => exact h
  | j + 5, h => simp at h
 refine W_seq (W_seq (W_region (V5 0 rfl (U6 5 [.int .i64 3, .int .i64 1, .int .i64 2, .int .i64 2, .bool true] rfl (hSet _ hI) (V6 [.agg _] rfl Tryz.func6 rfl ?_)))))
 refine (scheck_any 3 1 2 2 true _).mono ?_
 rintro e w1 ⟨⟨_, rfl⟩ | ⟨hb, _⟩, hp⟩
 rotate_left
 ·exact absurd (by decide) hb
 refine ⟨_, rfl, ?_⟩
 replace hI := hI.pure hp
 refine Vf rfl (WL_nil (W_seq (W_region (T3 rfl (Tc rfl Tryz.underlying29 rfl (WL_nil (W_cond false rfl (W_skip (W_seq (W_region (Tn 8 rfl hI.g0 ?_)))))))))))
 refine WL_stw2 (u := .agg _) (vs := #[_, _, _, _, _, _, _, _]) (n := 8) hI rfl rfl rfl rfl rfl rfl (by kernel_rfl) rfl rfl rfl ?_
 clear hI; intro w hI
 refine Vf rfl (WL_nil ?_)
 refine W_ret ?_
 exact retC2 (n := 8) (t := 25) (.inr rfl) rfl rfl (by kernel_rfl) (by kernel_rfl) rfl hI.g2 ⟨rfl, hI.pu⟩
end Go.Proofs.YthndpiopbdecfaaGreatDoor
namespace Go.Proofs.YthndpiopbdecfaaGreatDoor
set_option linter.unusedVariables false
set_option linter.unusedSimpArgs false
def delAll : Nat → StS → StS
 | 0, s => s
 | n + 1, s => match s.mails with
  | [] => s
  | m :: _ => delAll n (deliverF s 0 m)
theorem DelR.eq : ∀ (n : Nat) (s s' : StS), DelR s s' → (delAll n s).mails = [] → s' = delAll n s
 | 0, s, s', h, hn => by
  cases h with
  | nil _ => rfl
  | step hm _ =>
   have hn : s.mails = [] := hn
   rw [hn] at hm
   cases hm
 | n + 1, s, s', h, hn => by
  cases h with
  | nil h0 => unfold delAll; rw [h0]
  | @step _ _ m hm hd =>
   obtain ⟨r, hr⟩ : ∃ r, s.mails = m :: r := by
    cases hs : s.mails with
    | nil => rw [hs] at hm; cases hm
    | cons a r =>
     rw [hs] at hm
     exact ⟨r, by rw [Option.some.inj hm]⟩
   have e : delAll (n + 1) s = delAll n (deliverF s 0 m) := by
    show (match s.mails with | [] => s | m :: _ => delAll n (deliverF s 0 m)) = _
    rw [hr]
   rw [e] at hn ⊢
   exact DelR.eq n _ s' hd hn
def sT0 : StS := s0 3 1 2 2 true
def sT1 : StS := begS sT0 0 0 true 5
def sT2 : StS := delAll 30 sT1
def evT2 : List Ev := [⟨0, 1, 0, 2, 5, 0, 0⟩, ⟨0, 2, 0, 2, 5, 0, 0⟩]
theorem sT2_mails : sT2.mails = [] := by kernel_rfl
theorem sT2_evs : sT2.evs = evT2 := by kernel_rfl
theorem sT0_mails : sT0.mails = [] := by kernel_rfl
def opsT : List Op8 := [⟨0, 0, 2, 5, 0, 0, 0, 1⟩]
theorem evF_T : evF evT2 = some opsT := by decide +kernel
theorem ver_T : (verdF 1 opsT befB 10000).1 = 1 := by decide +kernel
theorem okLin_T : OkLin 1 opsT 10000 := by
 refine ⟨by decide, by decide, by decide, by decide, ⟨by decide, fun k hk => ?_⟩, fun k hk => ?_⟩
 ·obtain rfl : k = 0 := by have : k < 1 := hk; omega
  unfold OkOp ordOk twiceAt
  decide +kernel
 ·obtain rfl : k = 0 := by have : k < 1 := hk; omega
  decide +kernel
theorem mayB_T : MayB sT0 ((0 : Nat) : Int) 0 := ⟨rfl, by decide, rfl, rfl, by decide⟩
theorem nx_T : Nx [] (.lim 1 (.wr 0 5 5)) 0 (some (true, 0, 5)) (.lim 0 (.wr 0 5 5)) 1 := by
 have h := @Nx.lim [] (.wr 0 5 5) 0 _ _ _ 0 .wr
 have e : (5 : Int) + belF [] 0 (5 - 5 + 1) = 5 := by decide +kernel
 rw [e] at h
 exact h
theorem RndR.one {nums : List Int} {t t' : Tr} {m m' : Bool} (h : RndR nums 1 0 t m t' m') : ∃ r, BegR nums t ((0 : Nat) : Int) r t' ∧ m' = (r || m) := by
 cases h with
 | step hi hb h2 =>
  cases h2 with
  | done => exact ⟨_, hb, rfl⟩
  | step hi2 _ _ => omega
theorem run_T {t2 : Tr} {gT : List UInt8} (hpg : parsedT gT = some (.lim 1 (.wr 0 5 5))) (h : RunTo [] 3 1 2 2 true gT t2) : t2.st = sT2 := by
 obtain ⟨g, t1, hg, -, ht1, hfin⟩ := h.go
 rw [hpg] at hg
 obtain rfl := Option.some.inj hg
 have ht1 := ht1 rfl
 subst ht1
 have key : ∀ (s1 : StS) (t' : Tr) (m : Bool), DelR sT0 s1 → RndR [] 1 0 ⟨s1, .lim 1 (.wr 0 5 5), 0, 0, false⟩ false t' m → t' = ⟨sT1, .lim 0 (.wr 0 5 5), 1, 1, false⟩ ∧ m = true := by
  intro s1 t' m hd hr
  obtain rfl : s1 = sT0 := DelR.eq 0 _ _ hd sT0_mails
  obtain ⟨r, hb, rfl⟩ := hr.one
  rcases hb with ⟨hbad, _, _⟩ | ⟨_, _, c', hm, rr, g', u', hnx, hc⟩
  ·rcases hbad with h | h | h
   ·cases h
   ·exact absurd h (by show ¬ 40 ≤ 0; omega)
   ·exact absurd mayB_T (h 0)
  ·obtain ⟨e1, e2, e3⟩ := hnx.det nx_T
   subst e1 e2 e3
   have hc0 : c' = 0 := by have := hm.eq; omega
   subst hc0
   rcases hc with ⟨h, _⟩ | ⟨w, k, v, h, hh⟩
   ·cases h
   ·injection h with h
    injection h with h1 h2
    injection h2 with h2 h3
    subst h1 h2 h3
    rcases hh with ⟨hno, _⟩ | ⟨_, rfl, rfl⟩
    ·exact absurd ⟨⟨by omega, by omega⟩, ⟨by omega, by omega⟩, fun h => by cases h⟩ hno
    ·exact ⟨rfl, rfl⟩
 have key2 : ∀ (s1 : StS) (t' : Tr) (m : Bool), DelR sT1 s1 → RndR [] 1 0 ⟨s1, .lim 0 (.wr 0 5 5), 1, 1, false⟩ false t' m → t'.st = sT2 ∧ m = false := by
  intro s1 t' m hd hr
  obtain rfl : s1 = sT2 := DelR.eq 30 _ _ hd sT2_mails
  obtain ⟨r, hb, rfl⟩ := hr.one
  rcases hb with ⟨_, rfl, rfl⟩ | ⟨_, _, c', hm, rr, g', u', hnx, hc⟩
  ·exact ⟨rfl, rfl⟩
  ·obtain ⟨e1, e2, e3⟩ := hnx.det .lim0
   subst e1 e2 e3
   rcases hc with ⟨_, rfl, rfl⟩ | ⟨w, k, v, h, _⟩
   ·exact ⟨rfl, rfl⟩
   ·cases h
 cases hfin with
 | last hd hr =>
  have := (key _ _ _ hd hr).2
  cases this
 | more hd hr hfin =>
  obtain ⟨rfl, -⟩ := key _ _ _ hd hr
  cases hfin with
  | last hd hr => exact (key2 _ _ _ hd hr).1
  | more hd hr _ =>
   have := (key2 _ _ _ hd hr).2
   cases this
end Go.Proofs.YthndpiopbdecfaaGreatDoor
namespace Go.Proofs.YthndpiopbdecfaaGreatDoor
open Go.RowKit
set_option linter.unusedVariables false
set_option linter.unusedSimpArgs false
set_option maxHeartbeats 4000000 in
theorem tried_any (w0 : World) (hG : FaG w0) (hM : MaxOk w0) : Calls Tryz.prog 5 #[] w0 fun en w' => en = .returned (.bool true) ∧ Pure w0 w' := by
 have hI := Inv.start (fun _ => False) w0
 have hRun : ∀ (w : World), Pure w0 w → Calls Tryz.prog 8 #[.agg (pC 3 1 2 2 genT), .slice none 0 0] w fun en w' => ∃ (A1 : Option Addr) (c1 : Nat) (A2 : Option Addr) (c2 n2 : Nat) (en2 : Int),
   en = .returned (.tuple #[.agg #[strV [], .slice A1 2 c1, .int .i64 1, .slice A2 n2 c2, .int .i64 en2], .nilIface]) ∧ Inv (fun _ => False) w w' [Row 0 48 7 A1 2 c1 (evT2.flatMap evL)] := by
  intro w hp
  refine (frun_any 3 1 2 2 true [] genT 10000 none 0 0 [] (fun _ => False) w (Rd.nil w _ 1) (hG.pure hp) (by decide)).mono ?_
  rintro en w' (⟨hbad, _⟩ | ⟨n', k', a', t', t2, ops, A1, c1, A2, c2, e1, e2, e3, e4, hs, hb, hrun, hlen, hev, hok, rfl, hJ⟩)
  ·exfalso
   rcases hbad with h | h | h | h | h | ⟨n', k', a', t', t2, e1, e2, e3, e4, hrun, h⟩
   ·simp at h
   ·omega
   ·omega
   ·exact h (by decide)
   ·rw [parsed_genT] at h; cases h
   ·obtain rfl : n' = 3 := by omega
    obtain rfl : k' = 1 := by omega
    obtain rfl : a' = 2 := by omega
    obtain rfl : t' = 2 := by omega
    have hst := run_T parsed_genT hrun
    rw [hst, sT2_evs, evF_T] at h
    rcases h with h | ⟨ops, h, hno⟩
    ·cases h
    ·obtain rfl := Option.some.inj h
     exact hno okLin_T
  ·obtain rfl : n' = 3 := by omega
   obtain rfl : k' = 1 := by omega
   obtain rfl : a' = 2 := by omega
   obtain rfl : t' = 2 := by omega
   have hst := run_T parsed_genT hrun
   rw [hst, sT2_evs] at hev hJ ⊢
   rw [evF_T] at hev
   obtain rfl := Option.some.inj hev
   have hv : (verdF 1 opsT befB (10000 : Int).toNat).1 = 1 := ver_T
   rw [hv]
   exact ⟨A1, c1, A2, c2, _, _, rfl, hJ.hd1⟩
 refine Vm Tryz.f5.ntmps Tryz.func5 rfl ?_
 refine W_seq (W_region (V4 rfl (WL_nil (W_seq (W_region (V6 [.string _] rfl Tryz.func11 rfl ?_))))))
 refine (fparse_any _ (hG.pure hI.pu).num (hM.pure hI.pu)).mono ?_
 rintro e w1 ⟨rfl, hp1⟩
 refine ⟨_, rfl, ?_⟩
 replace hI := hI.pure hp1
 refine Vv rfl (Vg rfl (Vg rfl (T0 (.agg #[.int .i64 0, .int .i64 0, .int .i64 0, .int .i64 0, .bool false, .string ⟨#[]⟩, .string ⟨#[]⟩, .int .i64 0]) (#[.int .i64 0, .int .i64 0, .int .i64 0, .int .i64 0, .bool false, .string ⟨#[]⟩, .string ⟨#[]⟩, .int .i64 0]) hI rfl ?_)))
 clear hI; rintro b1 w - - hI
 refine T1 8 (#[_, _, _, _, _, _, _, _]) (.agg _) hI rfl ?_
 clear hI; intro w hI
 refine Vf rfl (WL_nil (W_seq (W_region (Tn 8 rfl hI.g0 (V6 [.agg _, .slice _ _ _] rfl Tryz.func8 rfl ?_)))))
 refine (hRun _ hI.pu).mono ?_
 rintro e w1 ⟨A1, c1, A2, c2, n2, en2, rfl, hT⟩
 refine ⟨_, rfl, ?_⟩
 replace hI := hI.app1 hT
 refine Vv rfl (Vg rfl (Vg rfl (T0 (.agg #[.string ⟨#[]⟩, .slice none 0 0, .int .i64 0, .slice none 0 0, .int .i64 0]) (#[.string ⟨#[]⟩, .slice none 0 0, .int .i64 0, .slice none 0 0, .int .i64 0]) hI rfl ?_)))
 clear hI; rintro b3 w - - hI
 refine T1 5 (#[_, _, _, _, _]) (.agg _) hI rfl ?_
 clear hI; intro w hI
 refine Vf rfl (WL_nil ?_)
 obtain ⟨gA, _, rfl, -⟩ := row_openB hI.g1 (by decide)
 have he5 : ∀ (w : World) (e0 : Ent) (H : List Ent), Inv (fun _ => False) w0 w (e0 :: Row 0 48 7 (some ⟨gA, 0, none⟩) 2 c1 (evT2.flatMap evL) :: H) → w.cell? ⟨gA, 11, none⟩ = some (.int .i64 5) := fun w e0 H hI => row_cellS hI.g1 (i := 11) rfl (by decide)
 refine W_seq (W_region (T3 rfl ?_))
 refine WL_val rfl rfl rfl (by exact rNilEq rfl Tryz.underlying29 rfl) ?_
 refine V2 rfl (T3 rfl ?_)
 refine WL_val rfl rfl rfl (by exact rNilEq rfl Tryz.underlying29 rfl) ?_
 refine Vd rfl (V2 rfl (V5 2 rfl (Te rfl (V3 (.int .i64 _) rfl (hI.c0 rfl) (Vz rfl (Vd rfl (V2 rfl (V5 1 rfl (V3 (.slice _ _ _) rfl (hI.c0 rfl) (Vs rfl Tryz.underlying32 rfl (Vz rfl (Vd rfl (V2 rfl ?_)))))))))))))
 refine V5 1 rfl (V3 (.slice _ _ _) rfl (hI.c0 rfl) ?_)
 refine WL_val rfl rfl rfl (rIdx (sz := 7) (i := 1) rfl Tryz.underlying32 (by kernel_rfl) rfl rfl (by decide)) ?_
 refine Tb 4 rfl (V3 (.int .i64 _) rfl (he5 _ _ _ hI) (Vz rfl (Vd rfl (V4 rfl (WL_nil ?_)))))
 refine W_ret ?_
 exact ret1 0 (.inr rfl) rfl ⟨rfl, hI.pu⟩
set_option maxHeartbeats 8000000 in
theorem farmWitness_any (n k a t : Int) (bk : Bool) (title gen : List UInt8) (bud : Int) (A : Option Addr) (len cp : Nat) (nums : List Int) (D : Nat → Prop) (w0 : World) (hN : Ints w0 D (.slice A len cp) nums) (hG : FaG w0) (hM : MaxOk w0) :
  Calls Tryz.prog 4 #[.agg #[.int .i64 n, .int .i64 k, .int .i64 a, .int .i64 t, .bool bk, strV title, strV gen, .int .i64 bud], .slice A len cp] w0 fun en w' => en = .returned (.bool true) ∧ Pure w0 w' := by
 have hI := Inv.start (fun _ => False) w0
 have hln : len = nums.length := by
  obtain ⟨A', c', hv, _⟩ := hN
  injection hv
 subst hln
 refine Vm Tryz.f4.ntmps Tryz.func4 rfl ?_
 refine W_seq (W_region (T7 (.agg _) (#[_, _, _, _, _, _, _, _]) hI rfl ?_))
 clear hI; rintro b2 w - - hI
 refine V4 rfl (WL_nil ?_)
 by_cases h1 : 200 < nums.length
 ·refine W_seq (W_seq (W_region (Ve rfl (Vs rfl Tryz.underlying26 rfl (Ts rfl (V2 rfl (V1 rfl (V1 rfl (V1 rfl (V1 rfl (Vd rfl (WL_nil (W_cond true rfl ?_)))))))))))))
  refine W_seq (W_region (V4 rfl (WL_nil ?_)))
  refine W_ret ?_
  exact ret1 4 (.inr rfl) rfl ⟨rfl, hI.pu⟩
 by_cases h2 : 500 < gen.length
 ·refine W_seq (W_seq (W_region (Ve rfl (Vs rfl Tryz.underlying26 rfl (Td rfl (V2 rfl (V5 6 rfl (V3 (.string _) rfl (hI.c0 rfl) (Tp rfl Tryz.underlying9 rfl (Ts rfl (V8 rfl (WL_nil (W_cond true rfl ?_)))))))))))))
  refine W_seq (W_region (V4 rfl (WL_nil ?_)))
  refine W_ret ?_
  exact ret1 4 (.inr rfl) rfl ⟨rfl, hI.pu⟩
 refine W_seq (W_seq (W_region (Ve rfl (Vs rfl Tryz.underlying26 rfl (Td rfl (V2 rfl (V5 6 rfl (V3 (.string _) rfl (hI.c0 rfl) (Tp rfl Tryz.underlying9 rfl (Td rfl (V8 rfl (WL_nil (W_cond false rfl ?_)))))))))))))
 refine W_skip (W_seq (W_region (V5 7 rfl ?_)))
 refine WL_st0 (u := .int .i64 _) hI rfl rfl rfl rfl rfl rfl (by kernel_rfl) rfl rfl rfl ?_
 clear hI; intro w hI
 refine WL_nil (W_seq (W_region (Tn 8 rfl hI.g0 (Ve rfl (V6 [.agg _, .slice _ _ _] rfl Tryz.func8 rfl ?_)))))
 refine (frun_any n k a t bk title gen 2000 A _ cp nums D _ (Rd.pure hN hI.pu) (hG.pure hI.pu) (by omega)).mono ?_
 rintro e w1 (⟨_, ⟨T, v, rfl⟩, hp⟩ | ⟨n', k', a', t', t2, ops, A1, c1, A2, c2, -, -, -, -, -, -, hrun, hlen, hev, hok, rfl, hT⟩)
 ·refine ⟨_, rfl, ?_⟩
  replace hI := hI.pure hp
  refine Vv rfl (Vg rfl (Vg rfl (T0 (.agg #[.string ⟨#[]⟩, .slice none 0 0, .int .i64 0, .slice none 0 0, .int .i64 0]) (#[.string ⟨#[]⟩, .slice none 0 0, .int .i64 0, .slice none 0 0, .int .i64 0]) hI rfl ?_)))
  clear hI; rintro b5 w - - hI
  refine T1 5 (#[_, _, _, _, _]) (.agg _) hI rfl ?_
  clear hI; intro w hI
  refine Vk rfl (WL_nil (W_seq (W_seq (W_region (V6 [] rfl Tryz.func5 rfl ?_)))))
  refine (tried_any _ (hG.pure hI.pu) (hM.pure hI.pu)).mono ?_
  rintro e w2 ⟨rfl, hp⟩
  refine ⟨_, rfl, ?_⟩
  replace hI := hI.pure hp
  refine T4 rfl (V2 rfl (Vo rfl (Tf rfl Tryz.underlying29 rfl (V8 rfl (WL_nil (W_cond true rfl (W_seq (W_region (V6 [] rfl Tryz.func5 rfl ?_)))))))))
  refine (tried_any _ (hG.pure hI.pu) (hM.pure hI.pu)).mono ?_
  rintro e w2 ⟨rfl, hp⟩
  refine ⟨_, rfl, ?_⟩
  replace hI := hI.pure hp
  refine V2 rfl (V5 2 rfl (Te rfl (V3 (.int .i64 _) rfl (hI.c0 rfl) (Vz rfl (Vd rfl (V4 rfl (WL_nil ?_)))))))
  refine W_ret ?_
  exact ret1 4 (.inr rfl) rfl ⟨rfl, hI.pu⟩
 ·refine ⟨_, rfl, ?_⟩
  replace hI := hI.app2 hT
  obtain ⟨R, hR⟩ : ∃ R, verdF 1 ops befB (2000 : Int).toNat = R := ⟨_, rfl⟩
  have hsh : R.1 = 1 → ShowsP 1 ops R.2.ord := fun h => by rw [← hR] at h ⊢; exact verd_shows (argsOk hok) h
  have hol : (ordF R).length ≤ 10000 := by
   rw [← hR]
   have h2 : (verdF 1 ops befB (2000 : Int).toNat).2.ord.length ≤ (startS 1).ord.length + (ops.length + 1) := enter_ord (ops.length + 1) (startS 1)
   have h3 : (startS 1).ord.length = 0 := rfl
   have h4 := hok.2.2.2.2.1.1
   unfold ordF
   split
   ·omega
   ·simp
  rw [hR] at hI ⊢
  refine Vv rfl (Vg rfl (Vg rfl (T0 (.agg #[.string ⟨#[]⟩, .slice none 0 0, .int .i64 0, .slice none 0 0, .int .i64 0]) (#[.string ⟨#[]⟩, .slice none 0 0, .int .i64 0, .slice none 0 0, .int .i64 0]) hI rfl ?_)))
  clear hI; rintro b5 w - - hI
  refine T1 5 (#[_, _, _, _, _]) (.agg _) hI rfl ?_
  clear hI; intro w hI
  refine Vf rfl (WL_nil (W_seq (W_seq (W_region (V6 [] rfl Tryz.func5 rfl ?_)))))
  refine (tried_any _ (hG.pure hI.pu) (hM.pure hI.pu)).mono ?_
  rintro e w2 ⟨rfl, hp⟩
  refine ⟨_, rfl, ?_⟩
  replace hI := hI.pure hp
  refine T4 rfl (V2 rfl (T3 rfl (Tc rfl Tryz.underlying29 rfl (V8 rfl (WL_nil (W_cond false rfl (W_skip (W_seq (W_region (V5 1 rfl (V3 (.slice _ _ _) rfl (hI.c0 rfl) (V6 [.slice _ _ _] rfl Tryz.func9 rfl ?_))))))))))))
  refine (evops_any A1 _ c1 t2.st.evs (fun _ => True) _ (Rd.of_own hI.g1 (fun _ _ _ => trivial)) (hG.pure hI.pu).err).mono ?_
  rw [hev]
  rintro e w3 ⟨A6, c6, rfl, hT⟩
  refine ⟨_, rfl, ?_⟩
  replace hI := hI.app1 hT
  refine Vv rfl (Vg rfl (Vg rfl (Vl rfl (Vf rfl (WL_nil ?_)))))
  have ho40 := hok.2.2.2.2.1.1
  refine W_seq (W_seq (W_region (T3 rfl (Tc rfl Tryz.underlying29 rfl (V2 rfl (Ve rfl (Vs rfl Tryz.underlying40 rfl (Td rfl (V8 rfl (WL_nil (W_cond false rfl (W_skip ?_))))))))))))
  have hok0 : OkLin 1 ops 0 := ⟨hok.1, hok.2.1, by decide, by decide, hok.2.2.2.2⟩
  have hSh := fun (w : World) (H : List Ent) (hI : Inv (fun _ => False) w0 w (OpsE A6 c6 ops :: H)) (hr : Rd w (fun _ => True) 1 (.slice A2 (ordF R).length c2) (ordF R).length (i64s (ordF R))) =>
   shows_any 1 A6 ops.length c6 ops A2 c2 (ordF R) (fun _ => True) (fun _ => True) w (Rd.of_own hI.g0 (fun _ _ _ => trivial)) hr hol (hG.pure hI.pu).kn
  by_cases hcode : R.1 = 1
  ·have ho : ordF R = R.2.ord := by unfold ordF; exact if_pos hcode
   have hSP : ShowsP 1 ops (ordF R) := by rw [ho]; exact hsh hcode
   refine W_seq (W_region (Ve rfl (V5 2 rfl (Tb 1 rfl (V3 (.slice _ _ _) rfl (hI.c1 rfl) (V6 [.int .i64 _, .slice _ _ _, .slice _ _ _] rfl Tryz.func10 rfl ?_))))))
   refine (hSh _ _ hI (Rd.of_own hI.g3 (fun _ _ _ => trivial))).mono ?_
   rintro e w4 ⟨hp, ⟨_, b, rfl, hb⟩ | ⟨hno, _⟩⟩
   rotate_left
   ·exact absurd hok0 hno
   obtain rfl : b = true := hb.2 hSP
   refine ⟨_, rfl, ?_⟩
   replace hI := hI.pure hp
   refine Vv rfl (Vg rfl (Vg rfl (V4 rfl (Vf rfl (WL_nil (W_seq (W_region (T3 rfl ?_))))))))
   refine WL_val rfl rfl rfl (by exact rNilEq rfl Tryz.underlying29 rfl) ?_
   refine V2 rfl (V5 2 rfl (Te rfl (V3 (.int .i64 _) rfl (hI.c1 rfl) (U5 rfl (V2 rfl (V2 rfl (V8 rfl (Vd rfl (V4 rfl (WL_nil ?_))))))))))
   refine W_ret ?_
   exact ret1 4 (.inr rfl) rfl ⟨rfl, hI.pu⟩
  ·refine W_seq (W_region (Ve rfl (V5 2 rfl (Tb 1 rfl (V3 (.slice _ _ _) rfl (hI.c1 rfl) (V6 [.int .i64 _, .slice _ _ _, .slice _ _ _] rfl Tryz.func10 rfl ?_))))))
   refine (hSh _ _ hI (Rd.of_own hI.g3 (fun _ _ _ => trivial))).mono ?_
   rintro e w4 ⟨hp, ⟨_, b, rfl, hb⟩ | ⟨hno, _⟩⟩
   rotate_left
   ·exact absurd hok0 hno
   refine ⟨_, rfl, ?_⟩
   replace hI := hI.pure hp
   refine Vv rfl (Vg rfl (Vg rfl (V4 rfl (Vf rfl (WL_nil (W_seq (W_region (T3 rfl ?_))))))))
   refine WL_val rfl rfl rfl (by exact rNilEq rfl Tryz.underlying29 rfl) ?_
   refine V2 rfl (V5 2 rfl (Te rfl (V3 (.int .i64 _) rfl (hI.c1 rfl) (Tx rfl (V2 rfl (V1 rfl (Vd rfl (Vd rfl (V4 rfl (WL_nil ?_))))))))))
   refine W_ret ?_
   exact ret1 4 (.inr rfl) rfl ⟨rfl, hI.pu⟩
end Go.Proofs.YthndpiopbdecfaaGreatDoor
