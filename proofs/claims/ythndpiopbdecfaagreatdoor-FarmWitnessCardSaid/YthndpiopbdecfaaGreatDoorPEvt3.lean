/- Texts of the proof, merged: Evo3, Mod1, Mod2, Mod3, Mod4, Mod5, Mod6, Str1, Str2, Evt2, Evt3. -/
import Derived.Test.YthndpiopbdecfaaGreatDoorPTell
import Derived.Test.YthndpiopbdecfaaGreatDoorProg
import Derived.Test.YthndpiopbdecfaaGreatDoorPStoA
namespace Go.Proofs.YthndpiopbdecfaaGreatDoor
open Go.RowKit
set_option linter.unusedVariables false
set_option linter.unusedSimpArgs false
abbrev GlobOk (w : World) : Prop := w.cell? ⟨1, 0, none⟩ = some (.iface 235 (.agg #[hdl 29]))
theorem at_any (z : Int) (i : Int) (w0 : World) (hg : GlobOk w0) : Calls Tryz.prog 23 #[.iface 49 (.int .i64 z), .int .i64 i] w0 fun en w' => (∃ b, en = .returned (.iface 87 (.pointer (some ⟨b, 0, none⟩)))) ∧ Pure w0 w' := by
 have hI := Inv.start (fun _ => False) w0
 refine Vm Tryz.f23.ntmps Tryz.func23 rfl ?_
 refine W_seq (W_region (Vf rfl (WL_nil (W_seq (W_region (Vo rfl (V6 [_] rfl Tryz.func31 rfl ?_)))))))
 refine (tell_any _ z _ (.inl rfl) (hI.oldp hg)).mono ?_
 rintro e w1 ⟨rfl, hp⟩
 refine ⟨_, rfl, ?_⟩
 replace hI := hI.pure hp
 refine V0 rfl (T6 [(0, .int .i64 _), (1, .int .i64 _)] [_, _] rfl [.int .i64 0, .int .i64 0] [0, 1] rfl (fun _ => by kernel_rfl) (T7 (.agg _) (#[_, _]) hI rfl ?_))
 clear hI; rintro b9 w - - hI
 refine Vx rfl Tryz.underlying87 rfl (Vk rfl (WL_nil ?_))
 refine W_ret ?_
 exact ret1 4 (.inr rfl) rfl ⟨⟨_, rfl⟩, hI.pu⟩
def EvsR (w : World) (D : Nat → Prop) (v : Value) (l : List Ev) : Prop := Rd w D 7 v l.length (l.flatMap evL)
def evAt (l : List Ev) (k : Nat) : Ev := l.getD k ⟨0, 0, 0, 0, 0, 0, 0⟩
theorem evAt_get {l : List Ev} {k : Nat} (hk : k < l.length) : l[k]? = some (evAt l k) := by unfold evAt; rw [List.getD_eq_getElem?_getD, List.getElem?_eq_getElem hk]; rfl
theorem EvsR.pure {w w' : World} {D : Nat → Prop} {v : Value} {l : List Ev} (h : EvsR w D v l) (hp : Pure w w') : EvsR w' D v l := Rd.pure h hp
theorem EvsR.at {w : World} {D : Nat → Prop} {A : Option Addr} {n c : Nat} {l : List Ev} (h : EvsR w D (.slice A n c) l) {k : Nat} (hk : k < l.length) : ∃ b o, A = some ⟨b, o, none⟩ ∧ ∀ (j : Nat) (u : Value), (evL (evAt l k))[j]? = some u → w.cell? ⟨b, o + k * 7 + j, none⟩ = some u := by
 obtain ⟨A1, c1, hv, hnc, hcm, hlen, hcell⟩ := h
 injection hv with e1 e2 e3
 subst e1 e3
 obtain ⟨b, o, hbo, _, hcl⟩ := hcell (by omega)
 refine ⟨b, o, hbo, fun j u hj => ?_⟩
 have hj8 : j < 7 := by have := (List.getElem?_eq_some_iff.1 hj).1; simpa [evL] using this
 rw [Nat.add_assoc]
 refine hcl _ u ?_
 rw [flatN (f := evL) (fun a => rfl) l k _ (evAt_get hk) j hj8]
 exact hj
theorem EvsR.len {w : World} {D : Nat → Prop} {A : Option Addr} {n c : Nat} {l : List Ev} (h : EvsR w D (.slice A n c) l) : n = l.length ∧ n ≤ c ∧ c ≤ 9223372036854775807 := by
 obtain ⟨A', c', he, h1, h2⟩ := Rd.form h
 injection he with _ e2 e3
 subst e2 e3
 exact ⟨rfl, h1, h2⟩
def EvPost (r : Option (List Op8)) (w0 : World) (en : Ending) (w' : World) : Prop := match r with
 | none => Pure w0 w' ∧ ∃ t v, en = .returned (.tuple #[.slice none 0 0, .iface t v])
 | some out => ∃ A' c', en = .returned (.tuple #[.slice A' out.length c', .nilIface]) ∧ Inv (fun _ => False) w0 w' [OpsE A' c' out]
theorem EvPost.no {r : Option (List Op8)} {w0 w' : World} {t : TypeId} {v : Value} (h : r = none) (hp : Pure w0 w') : EvPost r w0 (.returned (.tuple #[.slice none 0 0, .iface t v])) w' := by subst h; exact ⟨hp, t, v, rfl⟩
theorem EvPost.yes {r : Option (List Op8)} {out : List Op8} {w0 w' : World} {A' : Option Addr} {c' : Nat} (h : r = some out) (hI : Inv (fun _ => False) w0 w' [OpsE A' c' out]) : EvPost r w0 (.returned (.tuple #[.slice A' out.length c', .nilIface])) w' := by subst h; exact ⟨A', c', rfl, hI⟩
theorem row_cell1 {w : World} {e b n c k : Nat} {xs : List Value} {u : Value} (h : w.ownsRow 0 e 1 (.slice (some ⟨b, 0, none⟩) n c) n xs) (hk : xs[k]? = some u) : w.cell? ⟨b, k, none⟩ = some u := by
 have hn : 0 < n := by
  have h1 := (List.getElem?_eq_some_iff.1 hk).1
  have h2 : xs.length = n * 1 := h.1
  omega
 have := row_cellS h hk hn
 rwa [Nat.zero_add] at this
theorem stepE_len {e : Ev} {i : Nat} {s s' : SeeS} (h : stepE e i s = some s') : s'.ops.length ≤ s.ops.length + 1 := by
 unfold stepE at h
 split at h
 rotate_left
 ·cases h
 split at h
 ·unfold beginF at h
  split at h
  ·cases h
  ·injection h with h; subst h; simp
 ·unfold endF at h
  split at h
  ·cases h
  ·split at h
   ·injection h with h
    subst h
    simp only
    split <;> simp
   ·cases h
set_option maxHeartbeats 8000000 in
theorem evops_any (A : Option Addr) (n c : Nat) (l : List Ev) (D : Nat → Prop) (w0 : World) (h : EvsR w0 D (.slice A n c) l) (hg : GlobOk w0) : Calls Tryz.prog 9 #[.slice A n c] w0 (EvPost (evF l) w0) := by
 obtain ⟨hn, hc1, hc2⟩ := h.len
 subst hn
 have hI := Inv.start (fun _ => False) w0
 refine Vm Tryz.f9.ntmps Tryz.func9 rfl ?_
 refine W_seq (W_region (Vl rfl (Vf rfl (WL_nil ?_))))
 by_cases h120 : l.length ≤ 120
 rotate_left
 ·refine W_seq (W_seq (W_region (Ve rfl (Vs rfl Tryz.underlying32 rfl (Ts rfl (WL_nil (W_cond true rfl (W_seq (W_region (Vx rfl Tryz.underlying49 rfl (Vl rfl (Vk rfl (WL_nil ?_)))))))))))))
  refine W_ret ?_
  exact ret2 2 3 (.inr rfl) rfl (EvPost.no (by unfold evF; exact if_neg h120) hI.pu)
 have hev : evF l = (runE (l.drop 0) 0 initE).map outF := by unfold evF; exact if_pos h120
 refine W_seq (W_seq (W_region (Ve rfl (Vs rfl Tryz.underlying32 rfl (Td rfl (WL_nil (W_cond false rfl (W_skip (W_seq (W_region ?_))))))))))
 refine WL_mkMap hI rfl rfl rfl rfl ?_
 clear hI; rintro b15 w hI
 refine WL_mkMap hI rfl rfl rfl rfl ?_
 clear hI; rintro b16 w hI
 refine T6 [(1, .map _), (2, .map _)] [_, _, _, _] rfl [.slice none 0 0, .map none, .map none, .slice none 0 0] [1, 2] rfl (fun _ => by kernel_rfl) (T7 (.agg _) (#[_, _, _, _]) hI rfl ?_)
 clear hI; rintro b18 w - - hI
 refine U4 rfl (WL_nil ?_)
 replace hI : Inv (fun _ => False) w0 w (prtS b18 none 0 b15 b16 none 0 initE) := by
  have h1 := (hI.sw1).fresh (e := BoolE none 0 []) (Pure.refl w) (Row.nil w 0 4 1) (fun k hk => by cases hk)
  have h2 := (h1.sw0).fresh (e := OpsE none 0 []) (Pure.refl w) (Row.nil w 0 77 8) (fun k hk => by cases hk)
  exact h2.sw0
 refine W_seq_cut (fun ρ w => ∃ (s : SeeS) (Ao : Option Addr) (co : Nat) (Ag : Option Addr) (cg : Nat), evF l = some (outF s) ∧ SeeOk l l.length s ∧ s.ops.length ≤ l.length ∧ Has ρ [(4, .pointer (some ⟨b18, 0, none⟩))] ∧ Inv (fun _ => False) w0 w (prtS b18 Ao co b15 b16 Ag cg s)) ?_ ?_
 ·refine W_seq (W_region (Ve rfl (Vs rfl Tryz.underlying32 rfl (V0 rfl (WL_nil (W_block ?_))))))
  refine W_loopN (fun mu ρ w => ∃ (k : Nat) (s : SeeS) (Ao : Option Addr) (co : Nat) (Ag : Option Addr) (cg : Nat), mu = l.length - k ∧ k ≤ l.length ∧ evF l = (runE (l.drop k) k s).map outF ∧ SeeOk l k s ∧ s.ops.length ≤ k ∧ Has ρ [(21, .int .i64 (k : Int)), (20, .int .i64 (l.length : Int)), (19, .slice A l.length c), (4, .pointer (some ⟨b18, 0, none⟩))] ∧ Inv (fun _ => False) w0 w (prtS b18 Ao co b15 b16 Ag cg s)) l.length
   ⟨0, initE, none, 0, none, 0, rfl, by omega, hev, seeOk_init l, Nat.le_refl _, ⟨rfl, rfl, rfl, rfl, trivial⟩, hI⟩ ?_
  clear hI hev
  rintro mu ρ w ⟨k, s, Ao, co, Ag, cg, rfl, hk, hev, hok, hsl, hH, hI⟩
  obtain ⟨σ, rfl⟩ := hH.open
  by_cases hkl : k < l.length
  rotate_left
  ·obtain rfl : k = l.length := by omega
   rw [List.drop_of_length_le (Nat.le_refl _)] at hev
   refine W_seq (W_region (Vn rfl (WL_nil (W_seq (W_cond false rfl ?_)))))
   refine W_exit ?_
   exact ⟨s, Ao, co, Ag, cg, hev, hok, hsl, ⟨rfl, trivial⟩, hI⟩
  obtain ⟨bA, oA, rfl, hoc⟩ := (h.pure hI.pu).at hkl
  have hget := evAt_get hkl
  have hdrop : l.drop k = evAt l k :: l.drop (k + 1) := by
   rw [List.drop_eq_getElem_cons hkl]
   congr 1
   have := hget
   rw [List.getElem?_eq_getElem hkl] at this
   injection this
  rw [hdrop, runE] at hev
  have hstep := fun s' (hs : stepE (evAt l k) k s = some s') => seeOk_step hok hget hs
  have hbl := fun n (hb : s.busy (evAt l k).proc = some n) => (hok.busy _ n hb).1
  have hgl := hok.glen
  generalize hpk : evAt l k = pk at hoc hev hstep hbl
  obtain ⟨e0, e1, e2, e3, e4, e5, e6⟩ := pk
  refine W_seq (W_region (Vp rfl (WL_nil (W_seq (W_cond true rfl (W_skip (W_seq (W_block (W_seq (W_region (V0 rfl (Ti 7 rfl Tryz.underlying32 rfl (Ue 7 rfl (by rfl) hoc ?_)))))))))))))
  refine T0 (.agg #[.int .i64 0, .int .i64 0, .int .i64 0, .int .i64 0, .int .i64 0, .int .i64 0, .int .i64 0]) (#[.int .i64 0, .int .i64 0, .int .i64 0, .int .i64 0, .int .i64 0, .int .i64 0, .int .i64 0]) hI rfl ?_
  clear hI; rintro b6 w - - hI
  refine Va rfl (T1 7 (#[_, _, _, _, _, _, _]) (.agg _) hI rfl ?_)
  clear hI; intro w hI
  refine WL_nil ?_
  simp only [evL] at hI
  refine W_seq_cut (fun ρ w => ∃ v7, Has ρ [(7, v7), (21, .int .i64 (k : Int)), (20, .int .i64 (l.length : Int)), (19, .slice (some ⟨bA, oA, none⟩) l.length c), (4, .pointer (some ⟨b18, 0, none⟩)), (5, .int .i64 (k : Int)), (6, .pointer (some ⟨b6, 0, none⟩))] ∧ Inv (fun _ => False) w0 w (B b6 48 #[.int .i64 e0, .int .i64 e1, .int .i64 e2, .int .i64 e3, .int .i64 e4, .int .i64 e5, .int .i64 e6] :: prtS b18 Ao co b15 b16 Ag cg s) ∧ ((evOkB ⟨e0, e1, e2, e3, e4, e5, e6⟩ = true ∧ v7 = .nilIface) ∨ (evOkB ⟨e0, e1, e2, e3, e4, e5, e6⟩ = false ∧ ∃ z : Int, v7 = .iface 49 (.int .i64 z)))) ?_ ?_
  ·refine W_region (Tn 7 rfl hI.g0 (V6 [.agg _] rfl Tryz.func20 rfl ?_))
   refine (check_any ⟨e0, e1, e2, e3, e4, e5, e6⟩ _).mono ?_
   rintro e w1 ⟨hp, hr⟩
   obtain ⟨v7, rfl⟩ : ∃ v, e = .returned v := by rcases hr with ⟨_, rfl⟩ | ⟨_, x, _, rfl⟩ <;> exact ⟨_, rfl⟩
   refine ⟨_, rfl, ?_⟩
   replace hI := hI.pure hp
   refine Th rfl (WL_nil ?_)
   refine ⟨v7, ⟨rfl, rfl, rfl, rfl, rfl, rfl, rfl, trivial⟩, hI, ?_⟩
   rcases hr with ⟨q1, q2⟩ | ⟨q1, x, ⟨z, rfl⟩, q2⟩
   ·injection q2 with q2; exact .inl ⟨q1, q2⟩
   ·injection q2 with q2; exact .inr ⟨q1, z, q2⟩
  clear hI
  rintro ρ w ⟨v7, hH, hI, hv⟩
  obtain ⟨σ, rfl⟩ := hH.open
  refine W_seq_cut (fun ρ w => ∃ v7, Has ρ [(7, v7), (21, .int .i64 (k : Int)), (20, .int .i64 (l.length : Int)), (19, .slice (some ⟨bA, oA, none⟩) l.length c), (4, .pointer (some ⟨b18, 0, none⟩)), (5, .int .i64 (k : Int))] ∧ ((stepE ⟨e0, e1, e2, e3, e4, e5, e6⟩ k s = none ∧ (∃ z : Int, v7 = .iface 49 (.int .i64 z)) ∧ Inv (fun _ => False) w0 w []) ∨ (∃ s', stepE ⟨e0, e1, e2, e3, e4, e5, e6⟩ k s = some s' ∧ v7 = .nilIface ∧ ∃ Ao co Ag cg, Inv (fun _ => False) w0 w (prtS b18 Ao co b15 b16 Ag cg s')))) ?_ ?_
  ·refine W_block ?_
   rcases hv with ⟨hv, rfl⟩ | ⟨hv, z, rfl⟩
   rotate_left
   ·refine W_seq (W_region (Vo rfl (Tf rfl Tryz.underlying29 rfl (V4 rfl (WL_nil (W_cond true rfl (W_skip ?_)))))))
    exact ⟨_, ⟨rfl, rfl, rfl, rfl, rfl, rfl, trivial⟩, .inl ⟨by unfold stepE; rw [hv]; rfl, ⟨z, rfl⟩, hI.none⟩⟩
   refine W_seq (W_region (T3 rfl (Tc rfl Tryz.underlying29 rfl (V4 rfl (WL_nil (W_cond false rfl ?_))))))
   replace hI : Inv (fun _ => False) w0 w (prtS b18 Ao co b15 b16 Ag cg s ++ [B b6 48 #[.int .i64 e0, .int .i64 e1, .int .i64 e2, .int .i64 e3, .int .i64 e4, .int .i64 e5, .int .i64 e6]]) := hI.perm (List.perm_append_comm (l₁ := [_]))
   by_cases t1 : e1 = 1
   ·have hse : stepE ⟨e0, e1, e2, e3, e4, e5, e6⟩ k s = beginF ⟨e0, e1, e2, e3, e4, e5, e6⟩ k s := by unfold stepE; rw [if_pos hv]; exact if_pos t1
    refine W_seq (W_region (V5 1 rfl (V3 (.int .i64 _) rfl (hI.c5 rfl) (Vz rfl (V4 rfl (WL_nil (W_cond true rfl (W_region (V7 rfl (Tn 7 rfl hI.g5 (V0 rfl (V6 [.pointer _, .agg _, .int .i64 _] rfl Tryz.func21 rfl ?_))))))))))))
    refine (begin_one e0 e1 e2 e3 e4 e5 e6 k b18 b15 b16 Ao co Ag cg s _ (by omega) hgl hI.from).mono ?_
    rintro e w1 hP
    rw [hse]
    unfold SeerPost at hP
    generalize beginF ⟨e0, e1, e2, e3, e4, e5, e6⟩ k s = r at hP ⊢
    obtain ⟨v, rfl, hQ⟩ : ∃ v, e = .returned v ∧ ((r = none ∧ (∃ z : Int, v = .iface 49 (.int .i64 z)) ∧ Inv (fun _ => False) w0 w1 []) ∨ ∃ s', r = some s' ∧ v = .nilIface ∧ ∃ Ao co Ag cg, Inv (fun _ => False) w0 w1 (prtS b18 Ao co b15 b16 Ag cg s')) := by
     cases r with
     | none => obtain ⟨q1, z, rfl⟩ := hP; exact ⟨_, rfl, .inl ⟨rfl, ⟨z, rfl⟩, (hI.turnL q1).none⟩⟩
     | some s' => obtain ⟨rfl, A1, c1, A2, c2, q1⟩ := hP; exact ⟨_, rfl, .inr ⟨s', rfl, rfl, A1, c1, A2, c2, (hI.turnL q1).d5⟩⟩
    refine ⟨_, rfl, ?_⟩
    refine Th rfl (WL_nil ?_)
    exact ⟨_, ⟨rfl, rfl, rfl, rfl, rfl, rfl, trivial⟩, hQ⟩
   ·have hse : stepE ⟨e0, e1, e2, e3, e4, e5, e6⟩ k s = endF ⟨e0, e1, e2, e3, e4, e5, e6⟩ k s := by unfold stepE; rw [if_pos hv]; exact if_neg t1
    refine W_seq (W_region (V5 1 rfl (V3 (.int .i64 _) rfl (hI.c5 rfl) (Vr rfl (V4 rfl (WL_nil (W_cond false rfl (W_region (V7 rfl (Tn 7 rfl hI.g5 (V0 rfl (V6 [.pointer _, .agg _, .int .i64 _] rfl Tryz.func22 rfl ?_))))))))))))
    refine (end_one e0 e1 e2 e3 e4 e5 e6 k b18 b15 b16 Ao co Ag cg s _ (by omega) hgl hbl hI.from).mono ?_
    rintro e w1 hP
    rw [hse]
    unfold SeerPost at hP
    generalize endF ⟨e0, e1, e2, e3, e4, e5, e6⟩ k s = r at hP ⊢
    obtain ⟨v, rfl, hQ⟩ : ∃ v, e = .returned v ∧ ((r = none ∧ (∃ z : Int, v = .iface 49 (.int .i64 z)) ∧ Inv (fun _ => False) w0 w1 []) ∨ ∃ s', r = some s' ∧ v = .nilIface ∧ ∃ Ao co Ag cg, Inv (fun _ => False) w0 w1 (prtS b18 Ao co b15 b16 Ag cg s')) := by
     cases r with
     | none => obtain ⟨q1, z, rfl⟩ := hP; exact ⟨_, rfl, .inl ⟨rfl, ⟨z, rfl⟩, (hI.turnL q1).none⟩⟩
     | some s' => obtain ⟨rfl, A1, c1, A2, c2, q1⟩ := hP; exact ⟨_, rfl, .inr ⟨s', rfl, rfl, A1, c1, A2, c2, (hI.turnL q1).d5⟩⟩
    refine ⟨_, rfl, ?_⟩
    refine Th rfl (WL_nil ?_)
    exact ⟨_, ⟨rfl, rfl, rfl, rfl, rfl, rfl, trivial⟩, hQ⟩
  clear hI hv
  rintro ρ w ⟨v7, hH, hP⟩
  obtain ⟨σ, rfl⟩ := hH.open
  rcases hP with ⟨hs, ⟨z, rfl⟩, hI⟩ | ⟨s', hs, rfl, Ao', co', Ag', cg', hI⟩
  ·refine W_seq (W_region (Vo rfl (Tf rfl Tryz.underlying29 rfl (WL_nil (W_cond true rfl (W_seq (W_region (Vo rfl (V0 rfl (V6 [_, .int .i64 _] rfl Tryz.func23 rfl ?_))))))))))
   refine (at_any z k _ (hI.oldp hg)).mono ?_
   rintro e w1 ⟨⟨b, rfl⟩, hp⟩
   refine ⟨_, rfl, ?_⟩
   replace hI := hI.pure hp
   refine Vl rfl (Vk rfl (WL_nil ?_))
   refine W_ret ?_
   exact ret2 2 3 (.inr rfl) rfl (EvPost.no (by rw [hev, hs]; rfl) hI.pu)
  ·rw [hs] at hev
   have hok' := hstep s' hs
   have hl' : s'.ops.length ≤ k + 1 := by
    have := stepE_len hs
    omega
   refine W_seq (W_region (T3 rfl (Tc rfl Tryz.underlying29 rfl (WL_nil (W_cond false rfl (W_skip (W_region (Vu rfl (V0 rfl (WL_nil ?_))))))))))
   exact ⟨l.length - (k + 1), by omega, k + 1, s', Ao', co', Ag', cg', rfl, by omega, hev, hok', hl', ⟨rfl, rfl, rfl, rfl, trivial⟩, hI⟩
 clear hI hev
 rintro ρ w ⟨s, Ao, co, Ag, cg, hev, hok, hsl, hH, hI⟩
 obtain ⟨σ, rfl⟩ := hH.open
 refine W_seq (W_region (Vl rfl (WL_nil ?_)))
 refine W_seq_cut (fun ρ w => ∃ (A8 : Option Addr) (c8 : Nat), Has ρ [(8, .slice A8 (outF s).length c8)] ∧ Inv (fun _ => False) w0 w [OpsE A8 c8 (outF s)]) ?_ ?_
 ·replace hI : Inv (fun _ => False) w0 w (OpsE none 0 ((keptF s 0).map (oAt s.ops)) :: prtS b18 Ao co b15 b16 Ag cg s) := hI.fresh (Pure.refl w) (Row.nil w 0 77 8) (fun k hk => by cases hk)
  refine W_seq (W_region (V7 rfl (Vb rfl (V5 0 rfl (V3 (.slice _ _ _) rfl (hI.c1 rfl) (Vs rfl Tryz.underlying40 rfl (V0 rfl (WL_nil (W_block ?_)))))))))
  refine W_loopN (fun mu ρ w => ∃ (k : Nat) (A8 : Option Addr) (c8 : Nat), mu = s.ops.length - k ∧ k ≤ s.ops.length ∧ Has ρ [(54, .int .i64 (k : Int)), (53, .int .i64 (s.ops.length : Int)), (52, .slice Ao s.ops.length co), (4, .pointer (some ⟨b18, 0, none⟩)), (8, .slice A8 ((keptF s k).map (oAt s.ops)).length c8)] ∧ Inv (fun _ => False) w0 w (OpsE A8 c8 ((keptF s k).map (oAt s.ops)) :: prtS b18 Ao co b15 b16 Ag cg s)) s.ops.length
   ⟨0, _, _, rfl, by omega, ⟨rfl, rfl, rfl, rfl, rfl, trivial⟩, hI⟩ ?_
  clear hI
  rintro mu ρ w ⟨k, A8, c8, rfl, hk, hH, hI⟩
  obtain ⟨σ, rfl⟩ := hH.open
  by_cases hkl : k < s.ops.length
  rotate_left
  ·obtain rfl : k = s.ops.length := by omega
   refine W_seq (W_region (Vn rfl (WL_nil (W_seq (W_cond false rfl ?_)))))
   refine W_exit ?_
   refine ⟨A8, c8, ⟨rfl, trivial⟩, hI.d5.d4.d3.d2.d1⟩
  have hglen := hok.glen
  obtain ⟨bO, _, rfl, -, -, -, -, -, -⟩ := row_openB hI.g2 (by omega)
  obtain ⟨bG, _, rfl, -, -, -, -, -, -⟩ := row_openB hI.g3 (by omega)
  have hkc : ((keptF s k).map (oAt s.ops)).length ≤ 120 := by
   have : (keptF s k).length ≤ (List.range k).length := List.length_filter_le ..
   simp at this ⊢
   omega
  have hgc : (s.gone.map Value.bool)[k]? = some (.bool (goneAt s k)) := by
   unfold goneAt
   rw [List.getElem?_map, List.getD_eq_getElem?_getD, List.getElem?_eq_getElem (show k < s.gone.length by omega)]
   rfl
  have hoc : ∀ (j : Nat) (u : Value), (opV (oAt s.ops k))[j]? = some u → w.cell? ⟨bO, 0 + k * 8 + j, none⟩ = some u := fun j u hj => row_op hI.g2 rfl hkl hj
  refine W_seq (W_region (Vp rfl (WL_nil (W_seq (W_cond true rfl (W_skip (W_seq (W_block (W_seq (W_region (V0 rfl (Ti 8 rfl Tryz.underlying40 rfl (Ue 8 rfl (by rfl) hoc ?_)))))))))))))
  refine T0 (.agg #[.int .i64 0, .int .i64 0, .int .i64 0, .int .i64 0, .int .i64 0, .int .i64 0, .int .i64 0, .int .i64 0]) (#[.int .i64 0, .int .i64 0, .int .i64 0, .int .i64 0, .int .i64 0, .int .i64 0, .int .i64 0, .int .i64 0]) hI rfl ?_
  clear hI; rintro b10 w - - hI
  refine Va rfl (T1 8 (#[_, _, _, _, _, _, _, _]) (.agg _) hI rfl ?_)
  clear hI; intro w hI
  refine WL_nil ?_
  have hks := keptF_succ s k
  change keptF s (k + 1) = keptF s k ++ (if goneAt s k = true then [] else [k]) at hks
  cases hg1 : goneAt s k with
  | true =>
   rw [hg1] at hgc hks
   refine W_seq (W_region (V7 rfl (Vb rfl (V5 3 rfl (V3 (.slice _ _ _) rfl (hI.c2 rfl) (V0 rfl (Tj rfl Tryz.underlying70 rfl (V3 (.bool _) rfl (row_cell1 hI.g4 hgc) (T4 rfl (WL_nil (W_cond false rfl (W_skip ?_))))))))))))
   replace hI := hI.d0
   refine W_region (Vu rfl (V0 rfl (WL_nil ?_)))
   refine ⟨s.ops.length - (k + 1), by omega, k + 1, A8, c8, rfl, by omega, ?_, ?_⟩
   ·rw [hks]; simp only [if_true, List.append_nil]; exact ⟨rfl, rfl, rfl, rfl, rfl, trivial⟩
   ·rw [hks]; simp only [if_true, List.append_nil]; exact hI
  | false =>
   rw [hg1] at hgc hks
   refine W_seq (W_region (V7 rfl (Vb rfl (V5 3 rfl (V3 (.slice _ _ _) rfl (hI.c2 rfl) (V0 rfl (Tj rfl Tryz.underlying70 rfl (V3 (.bool _) rfl (row_cell1 hI.g4 hgc) (Ta rfl (WL_nil (W_cond true rfl (W_region (Ve rfl ?_)))))))))))))
   refine Tn 8 rfl hI.g0 (Vy [(0, .agg #[_, _, _, _, _, _, _, _])] [_, _, _, _, _, _, _, _] [.int .i64 0, .int .i64 0, .int .i64 0, .int .i64 0, .int .i64 0, .int .i64 0, .int .i64 0, .int .i64 0] [0] hI rfl Tryz.underlying40 (fun _ => by kernel_rfl) ?_)
   clear hI; rintro b69 w - - hI
   refine WL_app2 (z := .agg #[.int .i64 0, .int .i64 0, .int .i64 0, .int .i64 0, .int .i64 0, .int .i64 0, .int .i64 0, .int .i64 0]) (by_ := 64) hI rfl rfl rfl rfl rfl rfl Tryz.underlying40 (by kernel_rfl) rfl (by omega) (by rfl) hI.lit0 (by rfl) (by omega) (by omega) (by exact Nat.zero_le _) ?_
   clear hI; rintro A70 c70 w hA70 hc70 hI
   replace hI := hI.d0
   refine Vl rfl (WL_nil ?_)
   replace hI : Inv (fun _ => False) w0 w (Row 0 77 8 A70 (((keptF s k).map (oAt s.ops)).length + 1) c70 (((keptF s k).map (oAt s.ops)).flatMap opV ++ opV (oAt s.ops k)) :: prtS b18 (some ⟨bO, 0, none⟩) co b15 b16 (some ⟨bG, 0, none⟩) cg s) := hI.d0
   have hks : (keptF s (k + 1)).map (oAt s.ops) = (keptF s k).map (oAt s.ops) ++ [oAt s.ops k] := by rw [hks]; simp
   refine W_region (Vu rfl (V0 rfl (WL_nil ?_)))
   refine ⟨s.ops.length - (k + 1), by omega, k + 1, A70, c70, rfl, by omega, ?_, ?_⟩
   ·rw [hks, List.length_append]; exact ⟨rfl, rfl, rfl, rfl, rfl, trivial⟩
   ·rw [hks]
    unfold OpsE
    rw [List.length_append, List.flatMap_append, List.flatMap_cons, List.flatMap_nil, List.append_nil]
    exact hI
 clear hI
 rintro ρ w ⟨A8, c8, hH, hI⟩
 obtain ⟨σ, rfl⟩ := hH.open
 refine W_seq (W_region (Ve rfl (Vl rfl (Vf rfl (WL_nil ?_)))))
 refine W_ret ?_
 exact ret2 2 3 (.inr rfl) rfl (EvPost.yes hev hI)
def knT : List Int := [0, 14, 48, 448, 1536, 1536, 6144]
abbrev KnOk (w : World) : Prop := ∀ i, i < 7 → w.cell? ⟨0, i, none⟩ = some (.int .i64 (knT.getD i 0))
theorem KnOk.pure {w w' : World} (h : KnOk w) (hp : Pure w w') : KnOk w' := fun i hi => ((Inv.start (fun _ => False) w).pure hp).oldp (h i hi)
theorem knows_in (o k : Int) (h1 : 1 ≤ o) (h2 : o ≤ 6) (h3 : 1 ≤ k) (h4 : k ≤ 12) : decide (IntKind.i64.wrap ((BitVec.ofInt 64 ((knT.getD o.toNat 0).fdiv (2 ^ min k.toNat 64)) &&& BitVec.ofInt 64 1).toNat : Int) = 1) = knowsF o k := by
 have ho : o = 1 ∨ o = 2 ∨ o = 3 ∨ o = 4 ∨ o = 5 ∨ o = 6 := by omega
 have hk : k = 1 ∨ k = 2 ∨ k = 3 ∨ k = 4 ∨ k = 5 ∨ k = 6 ∨ k = 7 ∨ k = 8 ∨ k = 9 ∨ k = 10 ∨ k = 11 ∨ k = 12 := by omega
 rcases ho with rfl | rfl | rfl | rfl | rfl | rfl <;> rcases hk with rfl | rfl | rfl | rfl | rfl | rfl | rfl | rfl | rfl | rfl | rfl | rfl <;> decide +kernel
theorem knows_out (o k : Int) (h : o < 1 ∨ 6 < o ∨ k < 1 ∨ 12 < k) : knowsF o k = false := by
 unfold knowsF
 have e : ∀ a b : Int, (a == b) = decide (a = b) := fun a b => rfl
 simp only [e]
 rcases h with h | h | h | h
 ·rw [decide_eq_false (show o ≠ 1 by omega), decide_eq_false (show o ≠ 2 by omega), decide_eq_false (show o ≠ 3 by omega), decide_eq_false (show o ≠ 4 by omega), decide_eq_false (show o ≠ 5 by omega), decide_eq_false (show o ≠ 6 by omega)]; rfl
 ·rw [decide_eq_false (show o ≠ 1 by omega), decide_eq_false (show o ≠ 2 by omega), decide_eq_false (show o ≠ 3 by omega), decide_eq_false (show o ≠ 4 by omega), decide_eq_false (show o ≠ 5 by omega), decide_eq_false (show o ≠ 6 by omega)]; rfl
 ·rw [decide_eq_false (show k ≠ 1 by omega), decide_eq_false (show k ≠ 2 by omega), decide_eq_false (show k ≠ 3 by omega), decide_eq_false (show k ≠ 4 by omega), decide_eq_false (show k ≠ 5 by omega), decide_eq_false (show k ≠ 6 by omega), decide_eq_false (show k ≠ 7 by omega), decide_eq_false (show k ≠ 8 by omega), decide_eq_false (show k ≠ 9 by omega), decide_eq_false (show k ≠ 10 by omega), decide_eq_false (show k ≠ 11 by omega), decide_eq_false (show k ≠ 12 by omega)]; simp
 ·rw [decide_eq_false (show k ≠ 1 by omega), decide_eq_false (show k ≠ 2 by omega), decide_eq_false (show k ≠ 3 by omega), decide_eq_false (show k ≠ 4 by omega), decide_eq_false (show k ≠ 5 by omega), decide_eq_false (show k ≠ 6 by omega), decide_eq_false (show k ≠ 7 by omega), decide_eq_false (show k ≠ 8 by omega), decide_eq_false (show k ≠ 9 by omega), decide_eq_false (show k ≠ 10 by omega), decide_eq_false (show k ≠ 11 by omega), decide_eq_false (show k ≠ 12 by omega)]; simp
set_option maxHeartbeats 2000000 in
theorem knows_any (o k : Int) (w0 : World) (hk : KnOk w0) : Calls Tryz.prog 48 #[.int .i64 o, .int .i64 k] w0 fun en w' => en = .returned (.bool (knowsF o k)) ∧ Pure w0 w' := by
 have hI := Inv.start (fun _ => False) w0
 refine Vm Tryz.f48.ntmps Tryz.func48 rfl ?_
 refine W_seq (W_region (V4 rfl (WL_nil ?_)))
 by_cases h1 : o < 1
 ·refine W_seq (W_region (V0 rfl (To rfl (V2 rfl (V1 rfl (V1 rfl (V8 rfl (V2 rfl (V1 rfl (V1 rfl (V8 rfl (V2 rfl (V1 rfl ?_)))))))))))))
  refine V1 rfl (V8 rfl (V2 rfl (V1 rfl (V1 rfl (V1 rfl (V1 rfl (V1 rfl (V1 rfl (V1 rfl (V8 rfl (V4 rfl (WL_nil ?_))))))))))))
  refine W_ret ?_
  exact ret1 4 (.inr rfl) rfl ⟨by rw [knows_out o k (by omega)]; rfl, hI.pu⟩
 by_cases h2 : 6 < o
 ·refine W_seq (W_region (V0 rfl (Tg rfl (V2 rfl (V0 rfl ?_)))))
  refine WL_val rfl rfl rfl (by exact rLeqF rfl rfl rfl (by omega)) ?_
  refine Vd rfl (V2 rfl (V1 rfl (V1 rfl (V8 rfl (V2 rfl (V1 rfl (V1 rfl (V8 rfl (V2 rfl (V1 rfl (V1 rfl (V1 rfl (V1 rfl ?_)))))))))))))
  refine V1 rfl (V1 rfl (V1 rfl (V8 rfl (V4 rfl (WL_nil ?_)))))
  refine W_ret ?_
  exact ret1 4 (.inr rfl) rfl ⟨by rw [knows_out o k (by omega)]; rfl, hI.pu⟩
 by_cases h3 : k < 1
 ·refine W_seq (W_region (V0 rfl (Tg rfl (V2 rfl (V0 rfl ?_)))))
  refine WL_val rfl rfl rfl (by exact rLeqT rfl rfl rfl (by omega)) ?_
  refine Vd rfl (V2 rfl (V0 rfl (To rfl (Vd rfl (V2 rfl (V1 rfl (V1 rfl (V8 rfl (V2 rfl (V1 rfl (V1 rfl (V1 rfl (V1 rfl ?_)))))))))))))
  refine V1 rfl (V1 rfl (V1 rfl (V8 rfl (V4 rfl (WL_nil ?_)))))
  refine W_ret ?_
  exact ret1 4 (.inr rfl) rfl ⟨by rw [knows_out o k (by omega)]; rfl, hI.pu⟩
 by_cases h4 : 12 < k
 ·refine W_seq (W_region (V0 rfl (Tg rfl (V2 rfl (V0 rfl ?_)))))
  refine WL_val rfl rfl rfl (by exact rLeqT rfl rfl rfl (by omega)) ?_
  refine Vd rfl (V2 rfl (V0 rfl (Tg rfl (Vd rfl (V2 rfl (V0 rfl ?_))))))
  refine WL_val rfl rfl rfl (by exact rLeqF rfl rfl rfl (by omega)) ?_
  refine Vd rfl (V2 rfl (V1 rfl (V1 rfl (V1 rfl (V1 rfl (V1 rfl (V1 rfl (V1 rfl (V8 rfl (V4 rfl (WL_nil ?_)))))))))))
  refine W_ret ?_
  exact ret1 4 (.inr rfl) rfl ⟨by rw [knows_out o k (by omega)]; rfl, hI.pu⟩
 have hc : w0.cell? ⟨0, 0 + o.toNat * 1, none⟩ = some (.int .i64 (knT.getD o.toNat 0)) := by
  rw [Nat.zero_add, Nat.mul_one]; exact hk o.toNat (by omega)
 refine W_seq (W_region (V0 rfl (Tg rfl (V2 rfl (V0 rfl ?_)))))
 refine WL_val rfl rfl rfl (by exact rLeqT rfl rfl rfl (by omega)) ?_
 refine Vd rfl (V2 rfl (V0 rfl (Tg rfl (Vd rfl (V2 rfl (V0 rfl ?_))))))
 refine WL_val rfl rfl rfl (by exact rLeqT rfl rfl rfl (by omega)) ?_
 refine Vd rfl (V2 rfl (V0 rfl ?_))
 refine WL_val rfl rfl rfl (rIdxArr (sz := 1) (i := o.toNat) rfl Tryz.underlying181 (by kernel_rfl) rfl rfl (by omega) (by omega)) ?_
 refine V3 (.int .i64 _) rfl (hI.oldp hc) (V0 rfl ?_)
 refine WL_val rfl rfl rfl (rShrW rfl rfl rfl (by omega)) ?_
 refine WL_val rfl rfl rfl (rBits (r := fun p q => p &&& q) rfl rfl rfl rfl) ?_
 refine WL_val rfl rfl rfl (by exact rEql rfl rfl rfl) ?_
 refine Vd rfl (V4 rfl (WL_nil ?_))
 refine W_ret ?_
 refine ret1 4 (.inr rfl) rfl ⟨?_, hI.pu⟩
 rw [← knows_in o k (by omega) (by omega) (by omega) (by omega)]
 rfl
set_option maxHeartbeats 1000000 in
theorem single_any (o : Int) (w0 : World) : Calls Tryz.prog 78 #[.int .i64 o] w0 fun en w' => en = .returned (.bool (singleF o)) ∧ Pure w0 w' := by
 have hI := Inv.start (fun _ => False) w0
 refine Vm Tryz.f78.ntmps Tryz.func78 rfl ?_
 refine W_seq (W_region (V4 rfl (WL_nil ?_)))
 by_cases h1 : o = 1
 ·subst h1
  refine W_seq (W_region (V0 rfl (Vz rfl (V2 rfl (V1 rfl (V1 rfl (Vd rfl (V2 rfl (V1 rfl (V1 rfl (Vd rfl (V4 rfl (WL_nil ?_)))))))))))))
  refine W_ret ?_
  exact ret1 2 (.inr rfl) rfl ⟨rfl, hI.pu⟩
 by_cases h2 : o = 2
 ·subst h2
  refine W_seq (W_region (V0 rfl (Vr rfl (V2 rfl (V0 rfl (Vz rfl (V8 rfl (V2 rfl (V1 rfl (V1 rfl (Vd rfl (V4 rfl (WL_nil ?_)))))))))))))
  refine W_ret ?_
  exact ret1 2 (.inr rfl) rfl ⟨rfl, hI.pu⟩
 have e : singleF o = decide (o = 6) := by
  unfold singleF
  have e : ∀ a b : Int, (a == b) = decide (a = b) := fun a b => rfl
  simp only [e]
  rw [decide_eq_false h1, decide_eq_false h2]; rfl
 by_cases h6 : o = 6
 ·refine W_seq (W_region (V0 rfl (Vr rfl (V2 rfl (V0 rfl (Vr rfl (V8 rfl (V2 rfl (V0 rfl (Vz rfl (V8 rfl (V4 rfl (WL_nil ?_)))))))))))))
  refine W_ret ?_
  exact ret1 2 (.inr rfl) rfl ⟨by rw [e, decide_eq_true h6]; rfl, hI.pu⟩
 ·refine W_seq (W_region (V0 rfl (Vr rfl (V2 rfl (V0 rfl (Vr rfl (V8 rfl (V2 rfl (V0 rfl (Vr rfl (V8 rfl (V4 rfl (WL_nil ?_)))))))))))))
  refine W_ret ?_
  exact ret1 2 (.inr rfl) rfl ⟨by rw [e, decide_eq_false h6]; rfl, hI.pu⟩
theorem one_any (b : Bool) (w0 : World) : Calls Tryz.prog 81 #[.bool b] w0 fun en w' => en = .returned (.int .i64 (oneF b)) ∧ Pure w0 w' := by
 have hI := Inv.start (fun _ => False) w0
 refine Vm Tryz.f81.ntmps Tryz.func81 rfl ?_
 refine W_seq (W_region (Va rfl (WL_nil (W_seq (W_seq (W_region (V2 rfl (WL_nil ?_))))))))
 cases b with
 | true =>
  refine W_cond true rfl (W_seq (W_region (Va rfl (WL_nil ?_))))
  refine W_ret ?_
  exact ret1 2 (.inr rfl) rfl ⟨rfl, hI.pu⟩
 | false =>
  refine W_cond false rfl (W_skip (W_seq (W_region (Va rfl (WL_nil ?_)))))
  refine W_ret ?_
  exact ret1 2 (.inr rfl) rfl ⟨rfl, hI.pu⟩
set_option maxHeartbeats 1000000 in
theorem register_any (n k a b : Int) (w0 : World) : Calls Tryz.prog 79 #[.int .i64 n, .int .i64 k, .int .i64 a, .int .i64 b] w0 fun en w' => en = .returned (.tuple #[.int .i64 (regF n k a b).1, .int .i64 (regF n k a b).2]) ∧ Pure w0 w' := by
 have hI := Inv.start (fun _ => False) w0
 refine Vm Tryz.f79.ntmps Tryz.func79 rfl ?_
 refine W_seq (W_region (Va rfl (Va rfl (WL_nil (W_seq (W_block ?_))))))
 by_cases h1 : k = 1
 ·refine W_seq (W_region (V0 rfl (Vz rfl (V4 rfl (WL_nil (W_cond true rfl (W_seq (W_region (V0 rfl (V0 rfl (Va rfl (Va rfl (WL_nil ?_)))))))))))))
  refine W_ret ?_
  exact ret2 8 9 (.inr rfl) rfl ⟨by unfold regF; rw [if_pos h1]; rfl, hI.pu⟩
 refine W_seq (W_region (V0 rfl (Vr rfl (V4 rfl (WL_nil (W_cond false rfl ?_))))))
 by_cases h2 : k = 2
 ·refine W_seq (W_region (V0 rfl (Vz rfl (V4 rfl (WL_nil (W_cond true rfl (W_seq (W_region (V0 rfl (Va rfl (Va rfl (WL_nil ?_))))))))))))
  refine W_ret ?_
  exact ret2 8 9 (.inr rfl) rfl ⟨by unfold regF; rw [if_neg h1, if_pos h2]; rfl, hI.pu⟩
 refine W_seq (W_region (V0 rfl (Vr rfl (V4 rfl (WL_nil (W_cond false rfl ?_))))))
 by_cases h3 : n = a
 ·refine W_seq (W_region (V0 rfl (V0 rfl (Vz rfl (V4 rfl (WL_nil (W_cond true rfl (W_seq (W_region (V0 rfl (Va rfl (Va rfl (WL_nil ?_)))))))))))))
  refine W_ret ?_
  exact ret2 8 9 (.inr rfl) rfl ⟨by unfold regF; rw [if_neg h1, if_neg h2, if_pos h3]; rfl, hI.pu⟩
 refine W_seq (W_region (V0 rfl (V0 rfl (Vr rfl (V4 rfl (WL_nil (W_cond false rfl (W_skip (W_seq (W_region (V0 rfl (Va rfl (Va rfl ?_)))))))))))))
 refine WL_nil ?_
 refine W_ret ?_
 exact ret2 8 9 (.inr rfl) rfl ⟨by unfold regF; rw [if_neg h1, if_neg h2, if_neg h3]; rfl, hI.pu⟩
/-- A state in memory of its own. -/
abbrev StE (A : Option Addr) (c : Nat) (st : List Int) : Ent := Row 0 3 1 A st.length c (i64s st)
theorem start_any (o : Int) (w0 : World) : Calls Tryz.prog 49 #[.int .i64 o] w0 fun en w' => ∃ A c, en = .returned (.slice A (startF o).length c) ∧ Inv (fun _ => False) w0 w' [StE A c (startF o)] := by
 have hI := Inv.start (fun _ => False) w0
 refine Vm Tryz.f49.ntmps Tryz.func49 rfl ?_
 refine W_seq (W_region (Vl rfl (WL_nil (W_seq (W_seq (W_region (V0 rfl (V6 [.int .i64 _] rfl Tryz.func78 rfl ?_))))))))
 refine (single_any o _).mono ?_
 rintro e w1 ⟨rfl, hp⟩
 refine ⟨_, rfl, ?_⟩
 replace hI := hI.pure hp
 refine WL_nil ?_
 cases hs : singleF o with
 | true =>
  have e : startF o = [0] := by unfold startF; rw [hs]; rfl
  refine W_cond true rfl (W_seq (W_region (Vy [(0, .int .i64 _)] [_] [.int .i64 0] [0] hI rfl Tryz.underlying26 (fun _ => by kernel_rfl) ?_)))
  clear hI; rintro b5 w - - hI
  refine Vl rfl (WL_nil ?_)
  refine W_ret ?_
  refine ret1 2 (.inr rfl) rfl ⟨some ⟨b5, 0, none⟩, 1, by rw [e]; rfl, ?_⟩
  rw [e]
  have hb := hI.g0
  exact hI.u0 (e' := StE (some ⟨b5, 0, none⟩) 1 [0]) (Chg.refl _ _) (Row.of_blk hb (Nat.zero_le _) rfl (by decide)) (fun k hk => .inl (by have : some b5 = some k := hk; injection this with this; exact this.symm))
 | false =>
  have e : startF o = [] := by unfold startF; rw [hs]; rfl
  refine W_cond false rfl (W_skip (W_seq (W_region (Vl rfl (WL_nil ?_)))))
  refine W_ret ?_
  refine ret1 2 (.inr rfl) rfl ⟨none, 0, by rw [e]; rfl, ?_⟩
  rw [e]
  exact hI.fresh (Pure.refl _) (Row.nil _ 0 3 1) (fun k hk => by simp [Row] at hk)
section
variable {S : Nat → Prop} {w0 w w' : World} {H H' : List Ent} {e e' : Ent}
theorem Inv.ownE (h : e.ok w) : Inv e.D w w [e] :=
 ⟨Chg.refl _ w, fun x hx => by rcases List.mem_singleton.1 hx with rfl; exact h, fun x hx k hk => by rcases List.mem_singleton.1 hx with rfl; exact .inl hk, List.pairwise_singleton ..⟩
theorem Inv.one (hc : Chg e.D w w') (ho : e'.ok w') (hD : ∀ k, e'.D k → e.D k ∨ w.heap.size ≤ k) : Inv e.D w w' [e'] :=
 ⟨hc, fun x hx => by rcases List.mem_singleton.1 hx with rfl; exact ho, fun x hx k hk => by rcases List.mem_singleton.1 hx with rfl; exact hD k hk, List.pairwise_singleton ..⟩
/-- Behind a call that was handed a part. -/
theorem Inv.turn (h : Inv S w0 w (e :: H)) (h' : Inv e.D w w' H') : Inv S w0 w' (H' ++ H) := by
 have he := h.ok e (by simp)
 have hp := List.pairwise_cons.1 h.apart
 refine ⟨h.chg.trans' h'.chg fun k hk1 hk2 => ?_, fun x hx => ?_, fun x hx k hk => ?_, List.pairwise_append.2 ⟨h'.apart, hp.2, fun a ha b hb k h1 h2 => ?_⟩⟩
 ·rcases h.own e (by simp) k hk2 with h1 | h1
  ·exact h1
  ·omega
 ·rcases List.mem_append.1 hx with hx | hx
  ·exact h'.ok x hx
  ·exact (h.ok x (by simp [hx])).chg h'.chg (fun k hk hk2 => hp.1 x hx k hk2 hk)
 ·rcases List.mem_append.1 hx with hx | hx
  ·rcases h'.own x hx k hk with h1 | h1
   ·exact h.own e (by simp) k h1
   ·exact .inr (Nat.le_trans h.chg.size h1)
  ·exact h.own x (by simp [hx]) k hk
 ·rcases h'.own a ha k h1 with h3 | h3
  ·exact hp.1 b hb k h3 h2
  ·have := (h.ok b (by simp [hb])).2.1 k h2
   omega
theorem Inv.turn1 {a : Ent} (h : Inv S w0 w (e :: H)) (h' : Inv e.D w w' [a]) : Inv S w0 w' (a :: H) := h.turn h'
end
theorem row_open {w : World} {e n c : Nat} {A : Option Addr} {xs : List Value} (h : w.ownsRow 0 e 1 (.slice A n c) n xs) : (A = none ∧ n = 0 ∧ c = 0 ∧ xs = []) ∨ ∃ g cur, A = some ⟨g, 0, none⟩ ∧ Blk w g e cur ∧ n ≤ c ∧ c ≤ 9223372036854775807 ∧ cur.size = c ∧ cur.toList.take n = xs := by
 obtain ⟨hl, ⟨hv, hn⟩ | ⟨g, cap, cur, hv, _, hb, h1, h2, h3, h4⟩⟩ := h
 ·injection hv with e1 e2 e3
  subst e1 e3 hn
  exact .inl ⟨rfl, rfl, rfl, List.eq_nil_of_length_eq_zero (by simpa using hl)⟩
 ·injection hv with e1 e2 e3
  subst e1 e3
  exact .inr ⟨g, cur, rfl, hb, h1, by simpa [maxLen] using h2, by omega, by simpa using h4⟩
theorem row_close {w : World} {e g n c : Nat} {cur : Array Value} {xs : List Value} (hb : Blk w g e cur) (h1 : n ≤ c) (h2 : c ≤ 9223372036854775807) (h3 : cur.size = c) (h4 : cur.toList.take n = xs) : (Row 0 e 1 (some ⟨g, 0, none⟩) n c xs).ok w :=
 Row.ok ⟨by rw [← h4]; simp; omega, .inr ⟨g, c, cur, rfl, Nat.zero_le _, hb, h1, by simpa [maxLen] using h2, by omega, by simpa using h4⟩⟩
theorem ins_get {α : Type} (xs : List α) (i : Nat) (v : α) (hi : i ≤ xs.length) (j : Nat) : (xs.take i ++ v :: xs.drop i)[j]? = if j < i then xs[j]? else if j = i then some v else xs[j - 1]? := by
 have hl : (xs.take i).length = i := by simp; omega
 by_cases h1 : j < i
 ·rw [if_pos h1, List.getElem?_append_left (by omega), List.getElem?_take_of_lt h1]
 ·rw [if_neg h1, List.getElem?_append_right (by omega), hl]
  by_cases h2 : j = i
  ·rw [if_pos h2, h2, Nat.sub_self, List.getElem?_cons_zero]
  ·rw [if_neg h2, show j - i = (j - i - 1) + 1 by omega, List.getElem?_cons_succ, List.getElem?_drop, show i + (j - i - 1) = j - 1 by omega]
theorem take_of_get {cur : Array Value} {n : Nat} {ys : List Value} (hy : ys.length = n) (h : ∀ j, j < n → cur[j]? = ys[j]?) : cur.toList.take n = ys := by
 refine List.ext_getElem? fun j => ?_
 by_cases hj : j < n
 ·rw [List.getElem?_take_of_lt hj, Array.getElem?_toList, h j hj]
 ·rw [List.getElem?_eq_none (by simp; omega), List.getElem?_eq_none (by omega)]
theorem get_of_take {cur : Array Value} {n : Nat} {xs : List Value} (h : cur.toList.take n = xs) {j : Nat} (hj : j < n) : cur[j]? = xs[j]? := by
 rw [← h, List.getElem?_take_of_lt hj, Array.getElem?_toList]
theorem one_i64s (l : List Int) : ∀ v ∈ i64s l, v.oneCell' = true := by
 intro v hv
 obtain ⟨z, _, rfl⟩ := List.mem_map.1 hv
 rfl
theorem i64s_ins (l : List Int) (i : Nat) (a : Int) : i64s (l.take i ++ a :: l.drop i) = (i64s l).take i ++ .int .i64 a :: (i64s l).drop i := by simp [i64s, List.map_take, List.map_drop]
theorem zc_size (n : Nat) : (Builtin.zeroCells (Value.int .i64 0).cells n).size = n := by simp [Builtin.zeroCells, Value.cells]
theorem blk_shape {w : World} {g t : Nat} {cs : Array Value} (h : Blk w g t cs) : w.shape? g = some (t, cs.size) := by unfold World.shape?; rw [show w.heap[g]? = _ from h]
theorem insert_any (A : Option Addr) (c : Nat) (l : List Int) (i : Nat) (a : Int) (vb : Nat) (w : World) (hR : (StE A c l).ok w) (hi : i ≤ l.length) (hv : Blk w vb 3 #[.int .i64 a]) (hne : A.map (·.block) ≠ some vb) (hbig : l.length + 1 ≤ 1000000) :
  Calls Tryz.prog 113 #[.slice A l.length c, .int .i64 (i : Int), .slice (some ⟨vb, 0, none⟩) 1 1] w fun en w' => ∃ A' c', en = .returned (.slice A' (l.length + 1) c') ∧ Inv (StE A c l).D w w' [StE A' c' (l.take i ++ a :: l.drop i)] := by
 have hlen : (l.take i ++ a :: l.drop i).length = l.length + 1 := by simp; omega
 have hxl : (i64s l).length = l.length := by simp [i64s]
 have hvs : ∀ (j : Nat) (v : Value), [Value.int .i64 a][j]? = some v → w.cell? ⟨vb, 0 + j, none⟩ = some v := fun j v hj => by rw [Nat.zero_add, hv.cell]; simpa using hj
 have h1v : ∀ v ∈ [Value.int .i64 a], v.oneCell' = true := by intro v hv; simp at hv; subst hv; rfl
 rcases row_open hR.1 with ⟨rfl, hn, rfl, hx⟩ | ⟨g, cur, rfl, hb, h1, h2, h3, h4⟩
 ·have hl : l = [] := List.eq_nil_of_length_eq_zero hn
  subst hl
  obtain rfl : i = 0 := by simpa using hi
  refine (Any2.slices_Insert_int_end_grow Tryz.lays2_21 none 0 0 vb 0 1 1 [] [.int .i64 a] w (by omega) (by omega) (by omega) (by omega) rfl rfl (fun _ => rfl) (fun a h => by cases h) hvs h1v).mono ?_
  rintro e w' ⟨rfl, rfl⟩
  have hge := grownCap_ge w (0 + 1) 0 (Tryz.lays2_21_ren.t 3)
  have hle := grownCap_le_maxLen w (0 + 1) 0 (Tryz.lays2_21_ren.t 3) (by decide)
  generalize grownCap w (0 + 1) 0 (Tryz.lays2_21_ren.t 3) = gc at hge hle ⊢
  refine ⟨_, _, rfl, Inv.one ((Chg.pure (Chg.refl _ w) (Pure.refl w).drew).pure ((Pure.refl _).alloc _)) (row_close (Blk.new _ _ _) hge (by simpa [maxLen] using hle) ?_ ?_) (fun k hk => .inr ?_)⟩
  ·rw [Array.size_append, zc_size]; simp; omega
  ·simp [i64s]
  ·have : some w.heap.size = some k := hk
   injection this with this; omega
 ·have hcs : ∀ (j : Nat) (v : Value), (i64s l)[j]? = some v → w.cell? ⟨g, 0 + j, none⟩ = some v := fun j v hj => by
   have hjl := (List.getElem?_eq_some_iff.1 hj).1
   rw [Nat.zero_add, hb.cell, get_of_take h4 (by omega), hj]
  have hne' : vb ≠ g := fun e => hne (by subst e; rfl)
  rcases Nat.lt_or_ge i l.length with hil | hil
  ·rcases Nat.lt_or_ge c (l.length + 1) with hroom | hroom
   ·refine (Any2.slices_Insert_int_grow Tryz.lays2_21 g 0 l.length c i vb 0 1 1 (i64s l) [.int .i64 a] w hil (by omega) h1 hroom (by omega) hxl rfl hcs hvs (one_i64s l) h1v).mono ?_
    rintro e w' ⟨rfl, rfl⟩
    have hge := grownCap_ge w (l.length + 1) c (Tryz.lays2_21_ren.t 3)
    have hle := grownCap_le_maxLen w (l.length + 1) c (Tryz.lays2_21_ren.t 3) (by simp [maxLen]; omega)
    generalize grownCap w (l.length + 1) c (Tryz.lays2_21_ren.t 3) = gc at hge hle ⊢
    refine ⟨_, _, rfl, Inv.one (Chg.setCells (.inr (Nat.le_refl _)) _ _ ((Chg.setCells (.inr (Nat.le_refl _)) _ _ ((Chg.pure (Chg.refl _ w) ((Pure.refl w).alloc _)).pure (Pure.refl _).drew)).pure (Pure.refl _).drew)) (row_close ((((Blk.new w 3 _).drew).setCells _ _).drew.setCells _ _) (by rw [hlen]; exact hge) (by simpa [maxLen] using hle) ?_ ?_) (fun k hk => .inr ?_)⟩
    ·rw [splice_size, splice_size]
     simp only [Array.size_append, zc_size, List.size_toArray, List.length_take, hxl]; omega
    ·rw [i64s_ins]
     refine take_of_get (by rw [← i64s_ins]; simp only [i64s, List.length_map]) fun j hj => ?_
     rw [hlen] at hj
     rw [ins_get _ _ _ (by omega), splice_get _ _ _ _ (by rw [splice_size]; simp only [Array.size_append, zc_size, List.size_toArray, List.length_take, List.length_drop, hxl]; omega), splice_get _ _ _ _ (by simp only [Array.size_append, zc_size, List.size_toArray, List.length_take, hxl, List.length_cons, List.length_nil]; omega)]
     simp only [List.length_drop, hxl, List.length_cons, List.length_nil]
     by_cases e1 : j < i
     ·rw [if_neg (by omega), if_neg (by omega), if_pos e1, Array.append_assoc, Array.getElem?_append_left (by simp [i64s]; omega)]
      simp [e1]
     ·by_cases e2 : j = i
      ·subst e2
       rw [if_neg (by omega), if_pos (by omega), if_neg (by omega), if_pos rfl, Nat.sub_self]; rfl
      ·rw [if_pos (by omega), if_neg e1, if_neg e2, List.getElem?_drop, show i + (j - (i + 1)) = j - 1 by omega]
    ·have : some w.heap.size = some k := hk
     injection this with this; omega
   ·refine (Any2.slices_Insert_int_shift Tryz.lays2_21 g 0 l.length c i vb 0 1 1 (i64s l) [.int .i64 a] w hil (by omega) (by omega) h2 hne' hxl rfl hcs (fun j hj => by rw [Nat.zero_add, hb.cell]; simp; omega) (fun j _ => hb.frozen _) hvs (one_i64s l) h1v 3 3 1 c (blk_shape hv) (by rw [blk_shape hb, h3]) (by omega) (hv.frozen _) (hv.frozen _)).mono ?_
    rintro e w' ⟨rfl, rfl⟩
    refine ⟨_, _, rfl, Inv.one (Chg.setCells (S := (StE (some ⟨g, 0, none⟩) c l).D) (.inl rfl) _ _ (Chg.setCells (S := (StE (some ⟨g, 0, none⟩) c l).D) (.inl rfl) _ _ (Chg.pure (Chg.refl _ w) (Pure.refl w).drew))) (row_close ((hb.drew.setCells _ _).setCells _ _) (by rw [hlen]; exact hroom) h2 (by rw [splice_size, splice_size, h3]) ?_) (fun k hk => .inl hk)⟩
    rw [i64s_ins]
    refine take_of_get (by rw [← i64s_ins]; simp only [i64s, List.length_map]) fun j hj => ?_
    rw [ins_get _ _ _ (by omega), splice_get _ _ _ _ (by rw [splice_size]; simp; omega), splice_get _ _ _ _ (by simp [i64s]; omega)]
    simp only [List.length_drop, hxl, List.length_cons, List.length_nil, Nat.zero_add]
    rw [hlen] at hj
    by_cases e1 : j < i
    ·rw [if_neg (by omega), if_neg (by omega), if_pos e1, get_of_take h4 (by omega)]
    ·by_cases e2 : j = i
     ·subst e2
      rw [if_pos (by omega), if_neg (by omega), if_pos rfl, Nat.sub_self]; rfl
     ·rw [if_neg (by omega), if_pos (by omega), if_neg e1, if_neg e2, List.getElem?_drop, show i + (j - (i + 1)) = j - 1 by omega]
  ·obtain rfl : i = l.length := by omega
   rcases Nat.lt_or_ge c (l.length + 1) with hroom | hroom
   ·refine (Any2.slices_Insert_int_end_grow Tryz.lays2_21 (some ⟨g, 0, none⟩) l.length c vb 0 1 1 (i64s l) [.int .i64 a] w (by omega) h1 hroom (by omega) hxl rfl (fun h => by cases h) (fun a h => by injection h with h; subst h; intro j v hj; rw [Addr.add_lit]; exact hcs j v hj) hvs h1v).mono ?_
    rintro e w' ⟨rfl, rfl⟩
    have hge := grownCap_ge w (l.length + 1) c (Tryz.lays2_21_ren.t 3)
    have hle := grownCap_le_maxLen w (l.length + 1) c (Tryz.lays2_21_ren.t 3) (by simp [maxLen]; omega)
    generalize grownCap w (l.length + 1) c (Tryz.lays2_21_ren.t 3) = gc at hge hle ⊢
    refine ⟨_, _, rfl, Inv.one ((Chg.pure (Chg.refl _ w) (Pure.refl w).drew).pure ((Pure.refl _).alloc _)) (row_close (Blk.new _ _ _) (by rw [hlen]; exact hge) (by simpa [maxLen] using hle) ?_ ?_) (fun k hk => .inr ?_)⟩
    ·simp only [Array.size_append, zc_size, List.size_toArray, List.length_append, hxl, List.length_cons, List.length_nil]; omega
    ·rw [hlen, i64s_ins]
     have e1 : (i64s l).take l.length = i64s l := List.take_of_length_le (by omega)
     have e2 : (i64s l).drop l.length = [] := List.drop_eq_nil_of_le (by omega)
     rw [e1, e2, Array.toList_append, List.take_append_of_le_length (by simp [hxl])]
     exact List.take_of_length_le (by simp [hxl])
    ·have : some w.heap.size = some k := hk
     injection this with this; omega
   ·refine (Any2.slices_Insert_int_end_room Tryz.lays2_21 g 0 l.length c vb 0 1 1 [.int .i64 a] w (by omega) hroom h2 rfl (fun j hj => by rw [hb.cell]; simp; omega) (fun j _ => hb.frozen _) hvs h1v).mono ?_
    rintro e w' ⟨rfl, rfl⟩
    refine ⟨_, _, rfl, Inv.one (Chg.setCells (S := (StE (some ⟨g, 0, none⟩) c l).D) (.inl rfl) _ _ (Chg.refl _ w)) (row_close (hb.setCells _ _) (by rw [hlen]; exact hroom) h2 (by rw [splice_size, h3]) ?_) (fun k hk => .inl hk)⟩
    rw [i64s_ins]
    refine take_of_get (by rw [← i64s_ins]; simp only [i64s, List.length_map]) fun j hj => ?_
    rw [ins_get _ _ _ (by omega), splice_get _ _ _ _ (by simp; omega)]
    simp only [List.length_cons, List.length_nil, Nat.zero_add]
    rw [hlen] at hj
    by_cases e1 : j < l.length
    ·rw [if_neg (by omega), if_pos e1, get_of_take h4 e1]
    ·obtain rfl : j = l.length := by omega
     rw [if_pos (by omega), if_neg (by omega), if_pos rfl, Nat.sub_self]; rfl
section
variable {P : Program} {ρ : Env} {o : Oper} {w : World} {x y : Operand} {t t' e : TypeId}
theorem rSlNilT {n c : Nat} (ho : o.op = .binOp .eql t x (.const (.slice none 0 0)) t') (ht : P.underlying t = some (.slice e)) (hx : ev ρ x = .slice none n c) : Runs P ρ o w (.bool true) := by
 have h := run_equal (P := P) (w := w) (t := t) (x := .slice none n c) (y := .slice none 0 0) (r := true) (fun d => by simp [Op.equalIn, run_underlying ht])
 simp [Runs, execOp, ho, hx, show ev ρ (.const (.slice none 0 0)) = .slice none 0 0 from rfl, eqGuard, binOp, h]
theorem rSlNilF {n c : Nat} {p : Addr} (ho : o.op = .binOp .eql t x (.const (.slice none 0 0)) t') (ht : P.underlying t = some (.slice e)) (hx : ev ρ x = .slice (some p) n c) : Runs P ρ o w (.bool false) := by
 have h := run_equal (P := P) (w := w) (t := t) (x := .slice (some p) n c) (y := .slice none 0 0) (r := false) (fun d => by simp [Op.equalIn, run_underlying ht])
 simp [Runs, execOp, ho, hx, show ev ρ (.const (.slice none 0 0)) = .slice none 0 0 from rfl, eqGuard, binOp, h]
end
theorem i64s_len (l : List Int) : (i64s l).length = l.length := by simp [i64s]
theorem i64s_one (l : List Int) : (i64s l).all (·.oneCell') = true := by simp [i64s, Value.oneCell']
set_option maxHeartbeats 1000000 in
theorem clone_any (A : Option Addr) (c : Nat) (l : List Int) (D : Nat → Prop) (w0 : World) (h : Rd w0 D 1 (.slice A l.length c) l.length (i64s l)) (hb : l.length ≤ 1000000) :
  Calls Tryz.prog 14 #[.slice A l.length c] w0 fun en w' => ∃ A' c', en = .returned (.slice A' l.length c') ∧ Inv (fun _ => False) w0 w' [StE A' c' l] := by
 obtain ⟨A1, c1, hv, hnc, hcm, hlen, hcell⟩ := h
 injection hv with e1 e2 e3
 subst e1 e3
 have hI := Inv.start (fun _ => False) w0
 refine Vm Tryz.f14.ntmps Tryz.func14 rfl ?_
 refine W_seq (W_region (Vl rfl (WL_nil ?_)))
 cases A with
 | none =>
  have hl : l = [] := by
   rcases Nat.eq_zero_or_pos l.length with h0 | h0
   ·exact List.eq_nil_of_length_eq_zero h0
   ·obtain ⟨b, o, hbo, _⟩ := hcell h0
    cases hbo
  subst hl
  refine W_seq (W_seq (W_region (Ve rfl ?_)))
  refine WL_val rfl rfl rfl (rSlNilT rfl Tryz.underlying26 rfl) ?_
  refine WL_nil (W_cond true rfl (W_seq (W_region (Vl rfl (WL_nil ?_)))))
  refine W_ret ?_
  exact ret1 2 (.inr rfl) rfl ⟨none, 0, rfl, hI.fresh (Pure.refl _) (Row.nil _ 0 3 1) (fun k hk => by simp [Row] at hk)⟩
 | some p =>
  refine W_seq (W_seq (W_region (Ve rfl ?_)))
  refine WL_val rfl rfl rfl (rSlNilF rfl Tryz.underlying26 rfl) ?_
  refine WL_nil (W_cond false rfl (W_skip (W_seq (W_region (Vy [] [] [] [] hI rfl Tryz.underlying26 (fun _ => by kernel_rfl) ?_)))))
  clear hI; rintro b5 w - - hI
  refine Ve rfl ?_
  replace hI : Inv (fun _ => False) w0 w [StE (some ⟨b5, 0, none⟩) 0 []] := hI.u0 (e' := StE (some ⟨b5, 0, none⟩) 0 []) (Chg.refl _ _) (row_close hI.g0 (Nat.le_refl _) (by omega) rfl rfl) (fun k hk => .inl (by have : some b5 = some k := hk; injection this with this; exact this.symm))
  rcases Nat.eq_zero_or_pos l.length with h0 | h0
  ·have hl : l = [] := List.eq_nil_of_length_eq_zero h0
   subst hl
   refine WL_val rfl rfl rfl (rApp0 rfl Tryz.underlying26 (sz := 1) (by kernel_rfl) rfl rfl (Nat.le_refl _)) ?_
   refine Vl rfl (WL_nil ?_)
   refine W_ret ?_
   exact ret1 2 (.inr rfl) rfl ⟨_, _, rfl, hI⟩
  ·obtain ⟨b, o, hbo, _, hcl⟩ := hcell h0
   injection hbo with hbo
   subst hbo
   refine WL_app0 (z := .int .i64 0) (by_ := 8) (news := i64s l) hI rfl rfl rfl rfl rfl rfl Tryz.underlying26 (by kernel_rfl) rfl (by omega) (by rw [i64s_len]; omega) (fun k u hk => hI.oldp (hcl k u hk)) (i64s_one l) (by simp; omega) (by simp; omega) (Nat.zero_le _) ?_
   clear hI; rintro A2 c2 w _ _ hI
   refine Vl rfl (WL_nil ?_)
   refine W_ret ?_
   refine ret1 2 (.inr rfl) rfl ⟨A2, c2, ?_, ?_⟩
   ·show Ending.returned (.slice A2 (0 + l.length) c2) = _; rw [Nat.zero_add]
   ·have h' : Inv (fun _ => False) w0 w [Row 0 3 1 A2 (0 + l.length) c2 ([] ++ i64s l)] := hI
    rw [Nat.zero_add, List.nil_append] at h'; exact h'
theorem Row_rd {w : World} {A : Option Addr} {c : Nat} {l : List Int} (h : (StE A c l).Φ w) : Rd w (fun _ => True) 1 (.slice A l.length c) l.length (i64s l) := Rd.of_own (D := fun _ => True) h (fun _ _ _ => trivial)
theorem bsearch_any (A : Option Addr) (c : Nat) (l : List Int) (a : Int) (w : World) (h : (StE A c l).ok w) (hs : l.Pairwise (· < ·)) (hb : l.length ≤ 1000000) :
  Calls Tryz.prog 112 #[.slice A l.length c, .int .i64 a] w fun en w' => en = .returned (.tuple #[.int .i64 ((posF l a : Nat) : Int), .bool (decide (a ∈ l))]) ∧ Pure w w' := by
 rcases Nat.eq_zero_or_pos l.length with h0 | h0
 ·have hl : l = [] := List.eq_nil_of_length_eq_zero h0
  subst hl
  refine (Any.slices_BinarySearch_int_empty Tryz.lays2_25 A c a w).mono ?_
  rintro e w' ⟨rfl, rfl⟩
  exact ⟨rfl, Pure.refl _⟩
 ·obtain ⟨b, o, rfl⟩ := row_addrS h.1 h0 (by omega)
  refine (Any.slices_BinarySearch_int Tryz.lays2_25 b o l.length c l a w (Nat.le_refl _) (by omega) (fun j hj => ?_) ?_).mono ?_
  ·exact row_cellS h.1 (by simp [i64s, List.getElem?_eq_getElem hj]) h0
  ·rw [List.take_of_length_le (Nat.le_refl _)]
   exact hs.imp (fun h => by omega)
  ·rintro e w' ⟨rfl, q, rfl⟩
   refine ⟨?_, (Pure.refl w).drewN q⟩
   rw [List.take_of_length_le (Nat.le_refl _)]
   have e1 : List.countP (fun x => decide (x < a)) l = posF l a := by unfold posF; rw [List.countP_eq_length_filter]
   have e2 : l.contains a = decide (a ∈ l) := by
    rw [Bool.eq_iff_iff]; simp
   rw [e1, e2]
theorem delete_any (A : Option Addr) (c : Nat) (l : List Int) (i : Nat) (w : World) (hR : (StE A c l).ok w) (hi : i < l.length) (hbig : l.length ≤ 1000000) :
  Calls Tryz.prog 114 #[.slice A l.length c, .int .i64 (i : Int), .int .i64 ((i + 1 : Nat) : Int)] w fun en w' => en = .returned (.slice A (l.length - 1) c) ∧ Inv (StE A c l).D w w' [StE A c (l.take i ++ l.drop (i + 1))] := by
 have hlen : (l.take i ++ l.drop (i + 1)).length = l.length - 1 := by simp; omega
 rcases row_open hR.1 with ⟨rfl, hn, rfl, hx⟩ | ⟨g, cur, rfl, hb, h1, h2, h3, h4⟩
 ·omega
 ·refine (Any.slices_Delete_int_cells Tryz.lays2_23 g 0 l.length c i (i + 1) l w (Nat.le_refl _) h1 h2 (by omega) (by omega) (fun j hj => ?_) (fun j _ => hb.frozen _)).mono ?_
  ·exact row_cellS hR.1 (by simp [i64s, List.getElem?_eq_getElem hj]) (by omega)
  ·rintro e w' ⟨rfl, q, rfl⟩
   refine ⟨by rw [Nat.add_sub_cancel_left], Inv.one (Chg.setCells (S := (StE (some ⟨g, 0, none⟩) c l).D) (.inl rfl) _ _ ((Chg.refl _ w).drewN q)) (row_close ((hb.drewN q).setCells _ _) (by rw [hlen]; omega) h2 (by rw [splice_size, h3]) ?_) (fun k hk => .inl hk)⟩
   rw [List.take_of_length_le (Nat.le_refl _)]
   refine take_of_get (i64s_len _) fun j hj => ?_
   rw [splice_get _ _ _ _ (by simp; omega), if_pos (by simp; omega)]
   simp only [i64s, List.map_append, Nat.sub_zero]
   rw [List.getElem?_append_left (by simp; omega)]
theorem Row_part {A : Option Addr} {c : Nat} {l : List Int} {w : World} (h : (StE A c l).ok w) (k : Nat) (hk : k ≤ l.length) : (StE A c (l.take k)).ok w := by
 rcases row_open h.1 with ⟨rfl, hn, rfl, hx⟩ | ⟨g, cur, rfl, hb, h1, h2, h3, h4⟩
 ·have hl : l = [] := List.eq_nil_of_length_eq_zero hn
  subst hl
  rw [List.take_nil]; exact h
 ·refine row_close hb (by simp; omega) h2 h3 ?_
  refine take_of_get (i64s_len _) fun j hj => ?_
  have hjk : j < k := by simp at hj; omega
  rw [get_of_take h4 (by omega)]
  simp [i64s, List.getElem?_take_of_lt hjk]
set_option maxHeartbeats 2000000 in
theorem set_any (A : Option Addr) (c : Nat) (l : List Int) (k a : Int) (w0 : World) (h : (StE A c l).ok w0) (hs : l.Pairwise (· < ·)) (hb : l.length ≤ 100000) :
  Calls Tryz.prog 80 #[.slice A l.length c, .int .i64 k, .int .i64 a] w0 fun en w' => ∃ A' c', en = .returned (.tuple #[.slice A' (setF l k a).1.length c', .int .i64 (setF l k a).2]) ∧ Inv (StE A c l).D w0 w' [StE A' c' (setF l k a).1] := by
 have hI := Inv.ownE h
 have hpl := posF_le l a
 refine Vm Tryz.f80.ntmps Tryz.func80 rfl ?_
 refine W_seq (W_region (Vl rfl (Va rfl (WL_nil (W_seq (W_region (Ve rfl (V0 rfl (V6 [.slice _ _ _, .int .i64 _] rfl Tryz.func112 rfl ?_)))))))))
 refine (bsearch_any A c l a _ (hI.ok _ (by simp)) hs (by omega)).mono ?_
 rintro e w1 ⟨rfl, hp⟩
 refine ⟨_, rfl, ?_⟩
 replace hI := hI.pure hp
 refine Vv rfl (Vg rfl (Vg rfl (Va rfl (V4 rfl (WL_nil (W_seq (W_block ?_)))))))
 by_cases hm : a ∈ l
 ·rw [decide_eq_true hm]
  have hlt : posF l a < l.length := by
   rcases Nat.lt_or_ge (posF l a) l.length with h1 | h1
   ·exact h1
   ·obtain ⟨h2, h3⟩ := posF_split l a hs
    rw [List.take_of_length_le h1] at h2
    have := h2 a hm
    omega
  by_cases k7 : k = 7
  ·have e : setF l k a = (delF l a, 1) := by unfold setF; rw [if_neg (by omega), if_pos ⟨k7, hm⟩]
   refine W_seq (W_region (V0 rfl (Vr rfl (V2 rfl (V1 rfl (V1 rfl (V8 rfl (V4 rfl (WL_nil (W_cond false rfl (W_seq (W_region (V0 rfl ?_)))))))))))))
   refine Vz rfl (V2 rfl (V2 rfl (Vd rfl (V4 rfl (WL_nil (W_cond true rfl (W_seq (W_region (Ve rfl (V0 rfl (V0 rfl (Vu rfl (V6 [.slice _ _ _, .int .i64 _, .int .i64 _] rfl Tryz.func114 rfl ?_)))))))))))))
   refine (delete_any A c l (posF l a) _ (hI.ok _ (by simp)) hlt (by omega)).mono ?_
   rintro e w1 ⟨rfl, hT⟩
   refine ⟨_, rfl, ?_⟩
   replace hI := hI.turn1 hT
   refine Vl rfl (Va rfl (WL_nil ?_))
   refine W_ret ?_
   refine ret2 6 7 (.inr rfl) rfl ⟨A, c, ?_, ?_⟩
   ·rw [e]
    have hl : (delF l a).length = l.length - 1 := by unfold delF; simp; omega
    rw [hl]; rfl
   ·rw [e]; exact hI
  ·by_cases k6 : k = 6
   ·have e : setF l k a = (l, 0) := by unfold setF; rw [if_neg (fun h => h.2 hm), if_neg (by omega), decide_eq_false (by omega)]; rfl
    refine W_seq (W_region (V0 rfl (Vz rfl (V2 rfl (V2 rfl (T4 rfl (Vd rfl (V4 rfl (WL_nil (W_cond false rfl (W_seq (W_region (V0 rfl ?_)))))))))))))
    refine Vr rfl (V2 rfl (V1 rfl (V8 rfl (V4 rfl (WL_nil (W_cond false rfl (W_skip (W_seq (W_region (Ve rfl (V0 rfl (Vr rfl (V2 rfl ?_)))))))))))))
    refine V1 rfl (V8 rfl (V6 [.bool _] rfl Tryz.func81 rfl ?_))
    refine (one_any _ _).mono ?_
    rintro e w1 ⟨rfl, hp2⟩
    refine ⟨_, rfl, ?_⟩
    replace hI := hI.pure hp2
    refine Vl rfl (Va rfl (WL_nil ?_))
    refine W_ret ?_
    refine ret2 6 7 (.inr rfl) rfl ⟨A, c, by rw [e]; rfl, by rw [e]; exact hI⟩
   ·by_cases k8 : k = 8
    ·have e : setF l k a = (l, 1) := by unfold setF; rw [if_neg (fun h => h.2 hm), if_neg (by omega), decide_eq_true ⟨k8, hm⟩]; rfl
     refine W_seq (W_region (V0 rfl (Vr rfl (V2 rfl (V1 rfl (V1 rfl (V8 rfl (V4 rfl (WL_nil (W_cond false rfl (W_seq (W_region (V0 rfl ?_)))))))))))))
     refine Vr rfl (V2 rfl (V1 rfl (V8 rfl (V4 rfl (WL_nil (W_cond false rfl (W_skip (W_seq (W_region (Ve rfl (V0 rfl (Vz rfl (V2 rfl ?_)))))))))))))
     refine V2 rfl (Vd rfl (V6 [.bool _] rfl Tryz.func81 rfl ?_))
     refine (one_any _ _).mono ?_
     rintro e w1 ⟨rfl, hp2⟩
     refine ⟨_, rfl, ?_⟩
     replace hI := hI.pure hp2
     refine Vl rfl (Va rfl (WL_nil ?_))
     refine W_ret ?_
     refine ret2 6 7 (.inr rfl) rfl ⟨A, c, by rw [e]; rfl, by rw [e]; exact hI⟩
    ·have e : setF l k a = (l, 0) := by unfold setF; rw [if_neg (fun h => h.2 hm), if_neg (by omega), decide_eq_false (by omega)]; rfl
     refine W_seq (W_region (V0 rfl (Vr rfl (V2 rfl (V1 rfl (V1 rfl (V8 rfl (V4 rfl (WL_nil (W_cond false rfl (W_seq (W_region (V0 rfl ?_)))))))))))))
     refine Vr rfl (V2 rfl (V1 rfl (V8 rfl (V4 rfl (WL_nil (W_cond false rfl (W_skip (W_seq (W_region (Ve rfl (V0 rfl (Vr rfl (V2 rfl ?_)))))))))))))
     refine V1 rfl (V8 rfl (V6 [.bool _] rfl Tryz.func81 rfl ?_))
     refine (one_any _ _).mono ?_
     rintro e w1 ⟨rfl, hp2⟩
     refine ⟨_, rfl, ?_⟩
     replace hI := hI.pure hp2
     refine Vl rfl (Va rfl (WL_nil ?_))
     refine W_ret ?_
     refine ret2 6 7 (.inr rfl) rfl ⟨A, c, by rw [e]; rfl, by rw [e]; exact hI⟩
 ·rw [decide_eq_false hm]
  by_cases k6 : k = 6
  ·have e : setF l k a = (insF l a, 1) := by unfold setF; rw [if_pos ⟨k6, hm⟩]
   refine W_seq (W_region (V0 rfl (Vz rfl (V2 rfl (V2 rfl (Ta rfl (Vd rfl (V4 rfl (WL_nil (W_cond true rfl (W_seq (W_region (Ve rfl ?_)))))))))))))
   refine V0 rfl (V0 rfl (Vy [(0, .int .i64 _)] [_] [.int .i64 0] [0] hI rfl Tryz.underlying26 (fun _ => by kernel_rfl) ?_))
   clear hI; rintro b26 w - - hI
   refine V6 [.slice _ _ _, .int .i64 _, .slice _ _ _] rfl Tryz.func113 rfl ?_
   refine (insert_any A c l (posF l a) a b26 _ (hI.ok (StE A c l) (by simp)) hpl hI.g0 (fun he => ?_) (by omega)).mono ?_
   ·exact hI.disj (i := 1) (j := 0) rfl rfl (by omega) b26 he rfl
   rintro e w1 ⟨A', c', rfl, hT⟩
   refine ⟨_, rfl, ?_⟩
   replace hI := hI.d0.turn1 hT
   refine Vl rfl (Va rfl (WL_nil ?_))
   refine W_ret ?_
   refine ret2 6 7 (.inr rfl) rfl ⟨A', c', ?_, ?_⟩
   ·rw [e]
    have hl : (insF l a).length = l.length + 1 := by unfold insF; simp; omega
    rw [hl]; rfl
   ·rw [e]; exact hI
  ·have e : setF l k a = (l, 0) := by unfold setF; rw [if_neg (by omega), if_neg (fun h => hm h.2), decide_eq_false (fun h => hm h.2)]; rfl
   by_cases k7 : k = 7
   ·refine W_seq (W_region (V0 rfl (Vr rfl (V2 rfl (V1 rfl (V1 rfl (V8 rfl (V4 rfl (WL_nil (W_cond false rfl (W_seq (W_region (V0 rfl ?_)))))))))))))
    refine Vz rfl (V2 rfl (V2 rfl (Vd rfl (V4 rfl (WL_nil (W_cond false rfl (W_skip (W_seq (W_region (Ve rfl (V0 rfl (Vr rfl (V2 rfl ?_)))))))))))))
    refine V1 rfl (V8 rfl (V6 [.bool _] rfl Tryz.func81 rfl ?_))
    refine (one_any _ _).mono ?_
    rintro e w1 ⟨rfl, hp2⟩
    refine ⟨_, rfl, ?_⟩
    replace hI := hI.pure hp2
    refine Vl rfl (Va rfl (WL_nil ?_))
    refine W_ret ?_
    refine ret2 6 7 (.inr rfl) rfl ⟨A, c, by rw [e]; rfl, by rw [e]; exact hI⟩
   ·by_cases k8 : k = 8
    ·refine W_seq (W_region (V0 rfl (Vr rfl (V2 rfl (V1 rfl (V1 rfl (V8 rfl (V4 rfl (WL_nil (W_cond false rfl (W_seq (W_region (V0 rfl ?_)))))))))))))
     refine Vr rfl (V2 rfl (V1 rfl (V8 rfl (V4 rfl (WL_nil (W_cond false rfl (W_skip (W_seq (W_region (Ve rfl (V0 rfl (Vz rfl (V2 rfl ?_)))))))))))))
     refine V2 rfl (Vd rfl (V6 [.bool _] rfl Tryz.func81 rfl ?_))
     refine (one_any _ _).mono ?_
     rintro e w1 ⟨rfl, hp2⟩
     refine ⟨_, rfl, ?_⟩
     replace hI := hI.pure hp2
     refine Vl rfl (Va rfl (WL_nil ?_))
     refine W_ret ?_
     refine ret2 6 7 (.inr rfl) rfl ⟨A, c, by rw [e]; rfl, by rw [e]; exact hI⟩
    ·refine W_seq (W_region (V0 rfl (Vr rfl (V2 rfl (V1 rfl (V1 rfl (V8 rfl (V4 rfl (WL_nil (W_cond false rfl (W_seq (W_region (V0 rfl ?_)))))))))))))
     refine Vr rfl (V2 rfl (V1 rfl (V8 rfl (V4 rfl (WL_nil (W_cond false rfl (W_skip (W_seq (W_region (Ve rfl (V0 rfl (Vr rfl (V2 rfl ?_)))))))))))))
     refine V1 rfl (V8 rfl (V6 [.bool _] rfl Tryz.func81 rfl ?_))
     refine (one_any _ _).mono ?_
     rintro e w1 ⟨rfl, hp2⟩
     refine ⟨_, rfl, ?_⟩
     replace hI := hI.pure hp2
     refine Vl rfl (Va rfl (WL_nil ?_))
     refine W_ret ?_
     refine ret2 6 7 (.inr rfl) rfl ⟨A, c, by rw [e]; rfl, by rw [e]; exact hI⟩
theorem i64s_app (l : List Int) (a : Int) : i64s (l ++ [a]) = i64s l ++ [.int .i64 a] := by simp [i64s]
theorem Rd_tail {w : World} {g o c : Nat} {l : List Int} (h : Rd w (fun _ => True) 1 (.slice (some ⟨g, o, none⟩) l.length c) l.length (i64s l)) (h2 : 2 ≤ l.length) : Rd w (fun _ => True) 1 (.slice (some ⟨g, o + 1 * 1, none⟩) (l.drop 1).length (c - 1)) (l.drop 1).length (i64s (l.drop 1)) := by
 obtain ⟨A1, c1, hv, hnc, hcm, hlen, hcell⟩ := h
 injection hv with e1 e2 e3
 subst e1 e3
 obtain ⟨b, o', hbo, _, hcl⟩ := hcell (by omega)
 injection hbo with hbo
 injection hbo with e4 e5
 subst e4 e5
 refine ⟨_, _, rfl, by simp; omega, by omega, by simp [i64s], fun _ => ⟨g, o + 1 * 1, rfl, trivial, fun j u hj => ?_⟩⟩
 have : (i64s l)[1 + j]? = some u := by rw [← hj]; simp [i64s, List.getElem?_drop, Nat.add_comm]
 have := hcl (1 + j) u this
 rwa [Nat.mul_one, Nat.add_assoc]
theorem Rd_none {w : World} {A : Option Addr} {c : Nat} (hc : c ≤ 9223372036854775807) : Rd w (fun _ => True) 1 (.slice A ([] : List Int).length c) ([] : List Int).length (i64s []) :=
 ⟨A, c, rfl, Nat.zero_le _, hc, rfl, fun h => absurd h (Nat.lt_irrefl 0)⟩
set_option maxHeartbeats 2000000 in
theorem line_any (o : Int) (A : Option Addr) (c : Nat) (l : List Int) (k a : Int) (w0 : World) (h : (StE A c l).ok w0) (hb : l.length ≤ 100000) :
  Calls Tryz.prog 82 #[.int .i64 o, .slice A l.length c, .int .i64 k, .int .i64 a] w0 fun en w' => ∃ A' c', en = .returned (.tuple #[.slice A' (lineF o l k a).1.length c', .int .i64 (lineF o l k a).2]) ∧ Inv (StE A c l).D w0 w' [StE A' c' (lineF o l k a).1] := by
 have hI := Inv.ownE h
 refine Vm Tryz.f82.ntmps Tryz.func82 rfl ?_
 refine W_seq (W_region (Vl rfl (Va rfl (WL_nil ?_))))
 rcases Nat.eq_zero_or_pos l.length with h00 | h00
 ·have hl : l = [] := List.eq_nil_of_length_eq_zero h00
  subst hl
  refine W_seq (W_region (Ve rfl (Vs rfl Tryz.underlying26 rfl ?_)))
  refine WL_val rfl rfl rfl (by exact rSub rfl rfl rfl (by omega)) ?_
  refine Va rfl (WL_nil (W_seq (W_block ?_)))
  by_cases k9 : k = 9
  ·have e : lineF o [] k a = ([] ++ [a], 0) := by unfold lineF; rw [if_pos k9]
   refine W_seq (W_region (V0 rfl (Vz rfl (V4 rfl (WL_nil (W_cond true rfl (W_seq (W_region (Ve rfl (V0 rfl (Vy [(0, .int .i64 _)] [_] [.int .i64 0] [0] hI rfl Tryz.underlying26 (fun _ => by kernel_rfl) ?_)))))))))))
   clear hI; rintro b19 w - - hI
   refine Tq 8 (.int .i64 0) hI rfl Tryz.underlying26 rfl (by rfl) hI.lit0 (by rfl) (Nat.zero_le _) ?_
   clear hI; rintro A20 c20 w hA20 hc20 hI
   replace hI := hI.d0
   refine Vl rfl (Va rfl (WL_nil ?_))
   refine W_ret ?_
   refine ret2 8 9 (.inr rfl) rfl ⟨A20, c20, ?_, ?_⟩
   ·rw [e]; rfl
   ·rw [e]; exact hI
  refine W_seq (W_region (V0 rfl (Vr rfl (V4 rfl (WL_nil (W_cond false rfl ?_))))))
  have e : lineF o [] k a = ([], -1) := by unfold lineF; rw [if_neg k9, if_pos rfl]
  refine W_seq (W_region (V0 rfl (Vp rfl (V4 rfl (WL_nil (W_cond true rfl (W_seq (W_region (Ve rfl (Vl rfl (Va rfl (WL_nil ?_))))))))))))
  refine W_ret ?_
  exact ret2 8 9 (.inr rfl) rfl ⟨A, c, by rw [e]; rfl, by rw [e]; exact hI⟩
 refine W_seq (W_region (Ve rfl (Vs rfl Tryz.underlying26 rfl ?_)))
 refine WL_val rfl rfl rfl (rDecN (b := 1) rfl rfl rfl (by omega) (by omega)) ?_
 refine Va rfl (WL_nil (W_seq (W_block ?_)))
 by_cases k9 : k = 9
 ·have e : lineF o l k a = (l ++ [a], 0) := by unfold lineF; rw [if_pos k9]
  refine W_seq (W_region (V0 rfl (Vz rfl (V4 rfl (WL_nil (W_cond true rfl (W_seq (W_region (Ve rfl (V0 rfl (Vy [(0, .int .i64 _)] [_] [.int .i64 0] [0] hI rfl Tryz.underlying26 (fun _ => by kernel_rfl) ?_)))))))))))
  clear hI; rintro b19 w - - hI
  refine Tq 8 (.int .i64 0) hI rfl Tryz.underlying26 rfl (by rfl) hI.lit0 (by rfl) (Nat.zero_le _) ?_
  clear hI; rintro A20 c20 w hA20 hc20 hI
  replace hI := hI.d0
  refine Vl rfl (Va rfl (WL_nil ?_))
  refine W_ret ?_
  refine ret2 8 9 (.inr rfl) rfl ⟨A20, c20, ?_, ?_⟩
  ·rw [e]; simp only [List.length_append, List.length_cons, List.length_nil, Nat.zero_add]; rfl
  ·rw [e]
   have h' : Inv (StE A c l).D w0 w [Row 0 3 1 A20 (l.length + 1) c20 (i64s l ++ [.int .i64 a])] := hI
   rw [← i64s_app] at h'
   simpa [StE] using h'
 refine W_seq (W_region (V0 rfl (Vr rfl (V4 rfl (WL_nil (W_cond false rfl ?_))))))
 have h0 := h00
 have hne : l ≠ [] := fun e => by subst e; simp at h0
 obtain ⟨g, og, rfl⟩ := row_addrS h.1 h0 (by omega)
 have hcap : l.length ≤ c ∧ c ≤ 9223372036854775807 := by
  rcases row_open h.1 with ⟨hA, _⟩ | ⟨_, _, _, _, h1, h2, _⟩
  ·cases hA
  ·exact ⟨h1, h2⟩
 refine W_seq (W_region (V0 rfl (Vn rfl (V4 rfl (WL_nil (W_cond false rfl ?_))))))
 have c0 : (i64s l)[0]? = some (.int .i64 (l.getD 0 0)) := by simp [i64s, List.getD, List.getElem?_eq_getElem h0]
 have c1 : (i64s l)[l.length - 1]? = some (.int .i64 (l.getD (l.length - 1) 0)) := by simp [i64s, List.getD, List.getElem?_eq_getElem (show l.length - 1 < l.length by omega)]
 by_cases ho : o = 4
 ·have e : lineF o l k a = (l.drop 1, l.getD 0 0) := by unfold lineF; rw [if_neg k9, if_neg hne, if_pos ho]
  have hld : (l.drop 1).length = l.length - 1 := by simp
  refine W_seq (W_region (V0 rfl (Vz rfl (V4 rfl (WL_nil (W_cond true rfl ?_))))))
  rcases Nat.lt_or_ge 1 l.length with h2 | h2
  ·refine W_seq (W_draw (by kernel_rfl) ?_)
   refine WA_inv (T := []) hI.drew ?_
   intro Sx hSx hXS
   replace hI := hI.drew
   refine T9 0 (hXS _ hI) rfl ?_
   refine WT_take 1 rfl rfl (by kernel_rfl) (hXS _ hI) rfl (fun W hW => have hI := hSx W hW; (by exact rSliceFrom (sz := 1) (i := 1) rfl Tryz.underlying26 (by kernel_rfl) rfl rfl (by omega) (by omega))) ?_
   refine T9 3 (hXS _ hI) rfl ?_
   refine WT_take 4 rfl rfl (by kernel_rfl) (hXS _ hI) rfl (fun W hW => have hI := hSx W hW; (by exact rIdx1 (i := 0) rfl Tryz.underlying26 (by kernel_rfl) rfl rfl (by omega))) ?_
   refine V9 5 (.int .i64 _) (hXS _ hI) rfl (fun W hW => have hI := hSx W hW; row_cellS hI.g0 c0 h0) (Vt 2 rfl ?_)
   refine V6 [.slice _ _ _] rfl Tryz.func14 rfl ?_
   rw [← hld]
   refine (clone_any _ (c - 1) (l.drop 1) _ _ (Rd_tail (Row_rd hI.g0) h2) (by omega)).mono ?_
   rintro e1 w1 ⟨A', c', rfl, hT⟩
   refine ⟨_, rfl, ?_⟩
   replace hI := hI.app1 hT
   refine WL_nil ⟨hXS _ hI.d0, ?_⟩
   refine WT_take 6 rfl rfl (by kernel_rfl) (hXS _ hI.d0) rfl (fun W hW => have hI := hSx W hW; (by exact rAsgnS rfl rfl)) ?_
   refine Ua 7 (hXS _ hI.d0) rfl (WT_end (by kernel_rfl) ?_)
   refine W_ret ?_
   refine ret2 8 9 (.inr rfl) rfl ⟨A', c', by rw [e]; rfl, by rw [e]; exact hI.d1⟩
  ·have hd0 : l.drop 1 = [] := List.drop_eq_nil_of_le h2
   refine W_seq (W_draw (by kernel_rfl) ?_)
   refine WA_inv (T := []) hI.drew ?_
   intro Sx hSx hXS
   replace hI := hI.drew
   refine T9 0 (hXS _ hI) rfl ?_
   refine WT_take 1 rfl rfl (by kernel_rfl) (hXS _ hI) rfl (fun W hW => have hI := hSx W hW; (rSliceFromG (sz := 1) (i := 1) rfl Tryz.underlying26 (by kernel_rfl) rfl rfl (by omega))) ?_
   refine T9 3 (hXS _ hI) rfl ?_
   refine WT_take 4 rfl rfl (by kernel_rfl) (hXS _ hI) rfl (fun W hW => have hI := hSx W hW; (by exact rIdx1 (i := 0) rfl Tryz.underlying26 (by kernel_rfl) rfl rfl (by omega))) ?_
   refine V9 5 (.int .i64 _) (hXS _ hI) rfl (fun W hW => have hI := hSx W hW; row_cellS hI.g0 c0 h0) (Vt 2 rfl ?_)
   refine V6 [.slice _ _ _] rfl Tryz.func14 rfl ?_
   rw [show l.length - 1 = ([] : List Int).length from by simp; omega]
   refine (clone_any _ (c - 1) [] _ _ (Rd_none (by omega)) (by simp)).mono ?_
   rintro e1 w1 ⟨A', c', rfl, hT⟩
   refine ⟨_, rfl, ?_⟩
   replace hI := hI.app1 hT
   refine WL_nil ⟨hXS _ hI.d0, ?_⟩
   refine WT_take 6 rfl rfl (by kernel_rfl) (hXS _ hI.d0) rfl (fun W hW => have hI := hSx W hW; (by exact rAsgnS rfl rfl)) ?_
   refine Ua 7 (hXS _ hI.d0) rfl (WT_end (by kernel_rfl) ?_)
   refine W_ret ?_
   refine ret2 8 9 (.inr rfl) rfl ⟨A', c', by rw [e, hd0]; rfl, by rw [e, hd0]; exact hI.d1⟩
 have e : lineF o l k a = (l.take (l.length - 1), l.getD (l.length - 1) 0) := by unfold lineF; rw [if_neg k9, if_neg hne, if_neg ho]
 refine W_seq (W_region (V0 rfl (Vr rfl (V4 rfl (WL_nil (W_cond false rfl (W_skip (W_seq (W_draw (by kernel_rfl) ?_)))))))))
 refine WA_inv (T := []) hI.drew ?_
 intro Sx hSx hXS
 replace hI := hI.drew
 refine T9 0 (hXS _ hI) rfl (Vw 1 (hXS _ hI) rfl ?_)
 refine WT_take 2 rfl rfl (by kernel_rfl) (hXS _ hI) rfl (fun W hW => have hI := hSx W hW; (rSliceTo (sz := 1) (i := l.length - 1) rfl Tryz.underlying26 (by kernel_rfl) rfl rfl (by omega))) ?_
 refine T9 3 (hXS _ hI) rfl (Vw 4 (hXS _ hI) rfl ?_)
 refine WT_take 5 rfl rfl (by kernel_rfl) (hXS _ hI) rfl (fun W hW => have hI := hSx W hW; (by exact rIdx1 rfl Tryz.underlying26 (by kernel_rfl) rfl rfl (by omega))) ?_
 refine V9 6 (.int .i64 _) (hXS _ hI) rfl (fun W hW => have hI := hSx W hW; row_cellS hI.g0 c1 h0) ?_
 refine WT_take 7 rfl rfl (by kernel_rfl) (hXS _ hI) rfl (fun W hW => have hI := hSx W hW; (by exact rAsgnS rfl rfl)) ?_
 refine Ua 8 (hXS _ hI) rfl (WT_end (by kernel_rfl) ?_)
 refine W_ret ?_
 refine ret2 8 9 (.inr rfl) rfl ⟨some ⟨g, og, none⟩, c, ?_, ?_⟩
 ·rw [e]
  have hl : (l.take (l.length - 1)).length = l.length - 1 := by simp
  rw [hl]; rfl
 ·rw [e]
  exact hI.u0 (e' := StE (some ⟨g, og, none⟩) c (l.take (l.length - 1))) (Chg.refl _ _) (Row_part (hI.ok _ (by simp)) _ (by omega)) (fun k hk => .inl hk)
def StepPost (o : Int) (st : List Int) (k a b : Int) (w0 : World) (en : Ending) (w' : World) : Prop :=
 match stepF o st k a b with
 | none => en = .returned (.tuple #[.slice none 0 0, .int .i64 0, .bool false]) ∧ Pure w0 w'
 | some (st', r) => ∃ A' c', en = .returned (.tuple #[.slice A' st'.length c', .int .i64 r, .bool true]) ∧ Inv (fun _ => False) w0 w' [StE A' c' st']
theorem StepPost.none {o : Int} {st : List Int} {k a b : Int} {w0 w' : World} (h : stepF o st k a b = .none) (hp : Pure w0 w') : StepPost o st k a b w0 (.returned (.tuple #[.slice none 0 0, .int .i64 0, .bool false])) w' := by
 unfold StepPost; rw [h]; exact ⟨rfl, hp⟩
theorem StepPost.some {o : Int} {st st' : List Int} {k a b r : Int} {w0 w' : World} {A' : Option Addr} {c' n' : Nat} (h : stepF o st k a b = .some (st', r)) (hn : n' = st'.length) (hI : Inv (fun _ => False) w0 w' [StE A' c' st']) : StepPost o st k a b w0 (.returned (.tuple #[.slice A' n' c', .int .i64 r, .bool true])) w' := by
 unfold StepPost; rw [h]; subst hn; exact ⟨A', c', rfl, hI⟩
theorem knows_cases {o k : Int} (h : knowsF o k = true) : o = 1 ∨ o = 2 ∨ o = 3 ∨ o = 4 ∨ o = 5 ∨ o = 6 := by
 rcases Classical.em (o < 1 ∨ 6 < o) with h1 | h1
 ·rw [knows_out o k (by omega)] at h; cases h
 ·omega
theorem lit1 {S : Nat → Prop} {w0 w : World} {H : List Ent} {g : Nat} {z : Int} (hI : Inv S w0 w (B g 3 #[.int .i64 z] :: H)) : Inv S w0 w (StE (some ⟨g, 0, none⟩) 1 [z] :: H) :=
 hI.u0 (e' := StE (some ⟨g, 0, none⟩) 1 [z]) (Chg.refl _ _) (Row.of_blk hI.g0 (Nat.zero_le _) rfl (by simp)) (fun k hk => .inl (by have : some g = some k := hk; injection this with this; exact this.symm))
set_option maxHeartbeats 4000000 in
theorem step_any (o : Int) (A : Option Addr) (c : Nat) (st : List Int) (k a b : Int) (D : Nat → Prop) (w0 : World) (h : Rd w0 D 1 (.slice A st.length c) st.length (i64s st)) (hs : okSt o st) (hb : st.length ≤ 100000) (hk : KnOk w0) :
  Calls Tryz.prog 50 #[.int .i64 o, .slice A st.length c, .int .i64 k, .int .i64 a, .int .i64 b] w0 (StepPost o st k a b w0) := by
 have hI := Inv.start (fun _ => False) w0
 refine Vm Tryz.f50.ntmps Tryz.func50 rfl ?_
 refine W_seq (W_region (Vl rfl (Va rfl (V4 rfl (WL_nil ?_)))))
 by_cases hkn : knowsF o k = true
 rotate_left
 ·have hkn : knowsF o k = false := by simpa using hkn
  refine W_seq (W_seq (W_region (V0 rfl (V0 rfl (V6 [.int .i64 _, .int .i64 _] rfl Tryz.func48 rfl ?_)))))
  refine (knows_any o k _ (hk.pure hI.pu)).mono ?_
  rw [hkn]
  rintro e w1 ⟨rfl, hp⟩
  refine ⟨_, rfl, ?_⟩
  replace hI := hI.pure hp
  refine Ta rfl (V2 rfl (V1 rfl (V1 rfl (V1 rfl (V1 rfl (V1 rfl (V1 rfl (V1 rfl (Vd rfl (WL_nil (W_cond true rfl (W_seq (W_region ?_)))))))))))))
  refine Vl rfl (Va rfl (V4 rfl (WL_nil ?_)))
  refine W_ret ?_
  exact ret3 10 11 12 (.inr rfl) rfl (StepPost.none (by unfold stepF; rw [if_pos (.inl hkn)]) hI.pu)
 by_cases hsi : singleF o = true ∧ st.length ≠ 1
 ·refine W_seq (W_seq (W_region (V0 rfl (V0 rfl (V6 [.int .i64 _, .int .i64 _] rfl Tryz.func48 rfl ?_)))))
  refine (knows_any o k _ (hk.pure hI.pu)).mono ?_
  rw [hkn]
  rintro e w1 ⟨rfl, hp⟩
  refine ⟨_, rfl, ?_⟩
  replace hI := hI.pure hp
  refine T4 rfl (V2 rfl (V0 rfl (V6 [.int .i64 _] rfl Tryz.func78 rfl ?_)))
  refine (single_any o _).mono ?_
  rw [hsi.1]
  rintro e w1 ⟨rfl, hp⟩
  refine ⟨_, rfl, ?_⟩
  replace hI := hI.pure hp
  refine V2 rfl (Ve rfl (Vs rfl Tryz.underlying26 rfl (Tx rfl (Vd rfl (V8 rfl (WL_nil (W_cond true rfl (W_seq (W_region (Vl rfl (Va rfl (V4 rfl (WL_nil ?_)))))))))))))
  refine W_ret ?_
  exact ret3 10 11 12 (.inr rfl) rfl (StepPost.none (by unfold stepF; rw [if_pos (.inr hsi)]) hI.pu)
 have hgo : ¬ (knowsF o k = false ∨ (singleF o = true ∧ st.length ≠ 1)) := fun hh => by
  rcases hh with hh | hh
  ·rw [hkn] at hh; cases hh
  ·exact hsi hh
 refine W_seq_cut (fun ρ w => Has ρ [(0, .int .i64 o), (1, .slice A st.length c), (2, .int .i64 k), (3, .int .i64 a), (4, .int .i64 b)] ∧ Inv (fun _ => False) w0 w []) ?_ ?_
 ·cases hsg : singleF o with
  | true =>
   have hl1 : st.length = 1 := by
    rcases Classical.em (st.length = 1) with h1 | h1
    ·exact h1
    ·exact absurd ⟨hsg, h1⟩ hsi
   refine W_seq (W_region (V0 rfl (V0 rfl (V6 [.int .i64 _, .int .i64 _] rfl Tryz.func48 rfl ?_))))
   refine (knows_any o k _ (hk.pure hI.pu)).mono ?_
   rw [hkn]
   rintro e w1 ⟨rfl, hp⟩
   refine ⟨_, rfl, ?_⟩
   replace hI := hI.pure hp
   refine T4 rfl (V2 rfl (V0 rfl (V6 [.int .i64 _] rfl Tryz.func78 rfl ?_)))
   refine (single_any o _).mono ?_
   rw [hsg]
   rintro e w1 ⟨rfl, hp⟩
   refine ⟨_, rfl, ?_⟩
   replace hI := hI.pure hp
   refine V2 rfl (Ve rfl (Vs rfl Tryz.underlying26 rfl (U5 rfl (Vd rfl (V8 rfl (WL_nil (W_cond false rfl (W_skip ?_))))))))
   exact ⟨⟨rfl, rfl, rfl, rfl, rfl, trivial⟩, hI⟩
  | false =>
   refine W_seq (W_region (V0 rfl (V0 rfl (V6 [.int .i64 _, .int .i64 _] rfl Tryz.func48 rfl ?_))))
   refine (knows_any o k _ (hk.pure hI.pu)).mono ?_
   rw [hkn]
   rintro e w1 ⟨rfl, hp⟩
   refine ⟨_, rfl, ?_⟩
   replace hI := hI.pure hp
   refine T4 rfl (V2 rfl (V0 rfl (V6 [.int .i64 _] rfl Tryz.func78 rfl ?_)))
   refine (single_any o _).mono ?_
   rw [hsg]
   rintro e w1 ⟨rfl, hp⟩
   refine ⟨_, rfl, ?_⟩
   replace hI := hI.pure hp
   refine V2 rfl (V1 rfl (V1 rfl (V1 rfl (V8 rfl (V8 rfl (WL_nil (W_cond false rfl (W_skip ?_))))))))
   exact ⟨⟨rfl, rfl, rfl, rfl, rfl, trivial⟩, hI⟩
 clear hI
 rintro ρ w ⟨hH, hI⟩
 obtain ⟨σ, rfl⟩ := hH.open
 have one : singleF o = true → ∃ bA oA z, A = some ⟨bA, oA, none⟩ ∧ st = [z] ∧ w0.cell? ⟨bA, oA, none⟩ = some (.int .i64 z) := by
  intro hsg
  have hl1 : st.length = 1 := by
   rcases Classical.em (st.length = 1) with h1 | h1
   ·exact h1
   ·exact absurd ⟨hsg, h1⟩ hsi
  obtain ⟨z, rfl⟩ : ∃ z, st = [z] := List.length_eq_one_iff.1 hl1
  obtain ⟨b', o', h1, _, _, h2⟩ := h.get (k := 0) (u := .int .i64 z) rfl (by simp)
  exact ⟨b', o', z, h1, rfl, h2⟩
 have hcl := fun (W : World) (hp : Pure w0 W) => clone_any A c st D W (h.pure hp) (by omega)
 rcases knows_cases hkn with rfl | rfl | rfl | rfl | rfl | rfl
 ·-- a register
  obtain ⟨bA, oA, z, rfl, rfl, hz⟩ := one rfl
  have e : stepF 1 [z] k a b = some ([(regF z k a b).1], (regF z k a b).2) := by unfold stepF; rw [if_neg hgo, if_pos rfl]; rfl
  refine W_seq (W_seq (W_region (V0 rfl (WL_nil (W_block (W_seq (W_region (Vz rfl (V4 rfl (WL_nil (W_cond true rfl (W_seq (W_region ?_)))))))))))))
  refine Ve rfl ?_
  refine WL_val rfl rfl rfl (rIdx1 (i := 0) rfl Tryz.underlying26 (by kernel_rfl) rfl rfl (by simp)) ?_
  refine V3 (.int .i64 _) rfl (hI.oldp hz) (V0 rfl (V0 rfl (V0 rfl (V6 [.int .i64 _, .int .i64 _, .int .i64 _, .int .i64 _] rfl Tryz.func79 rfl ?_))))
  refine (register_any z k a b _).mono ?_
  rintro e1 w1 ⟨rfl, hp⟩
  refine ⟨_, rfl, ?_⟩
  replace hI := hI.pure hp
  refine Vv rfl (Vg rfl (Vg rfl (Va rfl (Va rfl (WL_nil (W_seq (W_region (V0 rfl (Vy [(0, .int .i64 _)] [_] [.int .i64 0] [0] hI rfl Tryz.underlying26 (fun _ => by kernel_rfl) ?_)))))))))
  clear hI; rintro b43 w - - hI
  refine V0 rfl (Vl rfl (Va rfl (V4 rfl (WL_nil ?_))))
  refine W_ret ?_
  exact ret3 10 11 12 (.inr rfl) rfl (StepPost.some e rfl (lit1 hI))
 ·-- a counter
  obtain ⟨bA, oA, z, rfl, rfl, hz⟩ := one rfl
  refine W_seq (W_seq (W_region (V0 rfl (WL_nil (W_block (W_seq (W_region (Vr rfl (V4 rfl (WL_nil (W_cond false rfl (W_seq (W_region ?_)))))))))))))
  refine Vz rfl (V4 rfl (WL_nil (W_cond true rfl (W_seq (W_region (Ve rfl ?_))))))
  refine WL_val rfl rfl rfl (rIdx1 (i := 0) rfl Tryz.underlying26 (by kernel_rfl) rfl rfl (by simp)) ?_
  refine V3 (.int .i64 _) rfl (hI.oldp hz) (Va rfl (WL_nil ?_))
  by_cases k4 : k = 4
  ·have e : stepF 2 [z] k a b = some ([IntKind.i64.wrap (z + a)], IntKind.i64.wrap (z + a)) := by unfold stepF; rw [if_neg hgo, if_neg (by decide), if_pos rfl, if_pos k4]; rfl
   refine W_seq (W_seq (W_region (V0 rfl (Vz rfl (WL_nil (W_cond true rfl (W_region (V0 rfl (V0 rfl ?_)))))))))
   refine WL_val rfl rfl rfl (rAddW rfl rfl rfl) ?_
   refine Va rfl (WL_nil (W_seq (W_region (V0 rfl (Vy [(0, .int .i64 _)] [_] [.int .i64 0] [0] hI rfl Tryz.underlying26 (fun _ => by kernel_rfl) ?_)))))
   clear hI; rintro b56 w - - hI
   refine V0 rfl (Vl rfl (Va rfl (V4 rfl (WL_nil ?_))))
   refine W_ret ?_
   exact ret3 10 11 12 (.inr rfl) rfl (StepPost.some e rfl (lit1 hI))
  ·have e : stepF 2 [z] k a b = some ([z], z) := by unfold stepF; rw [if_neg hgo, if_neg (by decide), if_pos rfl, if_neg k4]; rfl
   refine W_seq (W_seq (W_region (V0 rfl (Vr rfl (WL_nil (W_cond false rfl (W_skip (W_seq (W_region (V0 rfl (Vy [(0, .int .i64 _)] [_] [.int .i64 0] [0] hI rfl Tryz.underlying26 (fun _ => by kernel_rfl) ?_)))))))))))
   clear hI; rintro b56 w - - hI
   refine V0 rfl (Vl rfl (Va rfl (V4 rfl (WL_nil ?_))))
   refine W_ret ?_
   exact ret3 10 11 12 (.inr rfl) rfl (StepPost.some e rfl (lit1 hI))
 ·-- a set
  have e : stepF 3 st k a b = some (setF st k a) := by unfold stepF; rw [if_neg hgo, if_neg (by decide), if_neg (by decide), if_pos rfl]
  refine W_seq (W_seq (W_region (V0 rfl (WL_nil (W_block (W_seq (W_region (Vr rfl (V4 rfl (WL_nil (W_cond false rfl (W_seq (W_region ?_)))))))))))))
  refine Vr rfl (V4 rfl (WL_nil (W_cond false rfl (W_seq (W_region (Vz rfl (V4 rfl (WL_nil (W_cond true rfl (W_seq (W_region (Ve rfl (V6 [.slice _ _ _] rfl Tryz.func14 rfl ?_)))))))))))))
  refine (hcl _ hI.pu).mono ?_
  rintro e1 w1 ⟨A1, c1, rfl, hT⟩
  refine ⟨_, rfl, ?_⟩
  replace hI := hI.app1 hT
  refine V0 rfl (V0 rfl (V6 [.slice _ _ _, .int .i64 _, .int .i64 _] rfl Tryz.func80 rfl ?_))
  refine (set_any A1 c1 st k a _ (hI.ok (StE A1 c1 st) (by simp)) (hs rfl) hb).mono ?_
  rintro e1 w1 ⟨A2, c2, rfl, hT2⟩
  refine ⟨_, rfl, ?_⟩
  replace hI := hI.turn1 hT2
  refine Vv rfl (Vg rfl (Vg rfl (Vl rfl (Va rfl (WL_nil (W_seq (W_region (Ve rfl (V0 rfl (Vl rfl (Va rfl (V4 rfl (WL_nil ?_)))))))))))))
  refine W_ret ?_
  exact ret3 10 11 12 (.inr rfl) rfl (StepPost.some (st' := (setF st k a).1) (r := (setF st k a).2) e rfl hI)
 ·-- a line
  have e : stepF 4 st k a b = some (lineF 4 st k a) := by unfold stepF; rw [if_neg hgo, if_neg (by decide), if_neg (by decide), if_neg (by decide), if_neg (by decide)]
  refine W_seq (W_seq (W_region (V0 rfl (WL_nil (W_block (W_seq (W_region (Vr rfl (V4 rfl (WL_nil (W_cond false rfl (W_seq (W_region ?_)))))))))))))
  refine Vr rfl (V4 rfl (WL_nil (W_cond false rfl (W_seq (W_region (Vr rfl (V4 rfl (WL_nil (W_cond false rfl (W_seq (W_region (Vr rfl (V4 rfl ?_)))))))))))))
  refine WL_nil (W_cond false rfl (W_skip (W_seq (W_region (V0 rfl (Ve rfl (V6 [.slice _ _ _] rfl Tryz.func14 rfl ?_)))))))
  refine (hcl _ hI.pu).mono ?_
  rintro e1 w1 ⟨A1, c1, rfl, hT⟩
  refine ⟨_, rfl, ?_⟩
  replace hI := hI.app1 hT
  refine V0 rfl (V0 rfl (V6 [.int .i64 _, .slice _ _ _, .int .i64 _, .int .i64 _] rfl Tryz.func82 rfl ?_))
  refine (line_any 4 A1 c1 st k a _ (hI.ok (StE A1 c1 st) (by simp)) hb).mono ?_
  rintro e1 w1 ⟨A2, c2, rfl, hT2⟩
  refine ⟨_, rfl, ?_⟩
  replace hI := hI.turn1 hT2
  refine Vv rfl (Vg rfl (Vg rfl (Vl rfl (Va rfl (WL_nil (W_seq (W_region (Ve rfl (V0 rfl (Vl rfl (Va rfl (V4 rfl (WL_nil ?_)))))))))))))
  refine W_ret ?_
  exact ret3 10 11 12 (.inr rfl) rfl (StepPost.some (st' := (lineF 4 st k a).1) (r := (lineF 4 st k a).2) e rfl hI)
 ·-- a line
  have e : stepF 5 st k a b = some (lineF 5 st k a) := by unfold stepF; rw [if_neg hgo, if_neg (by decide), if_neg (by decide), if_neg (by decide), if_neg (by decide)]
  refine W_seq (W_seq (W_region (V0 rfl (WL_nil (W_block (W_seq (W_region (Vr rfl (V4 rfl (WL_nil (W_cond false rfl (W_seq (W_region ?_)))))))))))))
  refine Vr rfl (V4 rfl (WL_nil (W_cond false rfl (W_seq (W_region (Vr rfl (V4 rfl (WL_nil (W_cond false rfl (W_seq (W_region (Vr rfl (V4 rfl ?_)))))))))))))
  refine WL_nil (W_cond false rfl (W_skip (W_seq (W_region (V0 rfl (Ve rfl (V6 [.slice _ _ _] rfl Tryz.func14 rfl ?_)))))))
  refine (hcl _ hI.pu).mono ?_
  rintro e1 w1 ⟨A1, c1, rfl, hT⟩
  refine ⟨_, rfl, ?_⟩
  replace hI := hI.app1 hT
  refine V0 rfl (V0 rfl (V6 [.int .i64 _, .slice _ _ _, .int .i64 _, .int .i64 _] rfl Tryz.func82 rfl ?_))
  refine (line_any 5 A1 c1 st k a _ (hI.ok (StE A1 c1 st) (by simp)) hb).mono ?_
  rintro e1 w1 ⟨A2, c2, rfl, hT2⟩
  refine ⟨_, rfl, ?_⟩
  replace hI := hI.turn1 hT2
  refine Vv rfl (Vg rfl (Vg rfl (Vl rfl (Va rfl (WL_nil (W_seq (W_region (Ve rfl (V0 rfl (Vl rfl (Va rfl (V4 rfl (WL_nil ?_)))))))))))))
  refine W_ret ?_
  exact ret3 10 11 12 (.inr rfl) rfl (StepPost.some (st' := (lineF 5 st k a).1) (r := (lineF 5 st k a).2) e rfl hI)
 ·-- a mutex
  obtain ⟨bA, oA, z, rfl, rfl, hz⟩ := one rfl
  refine W_seq (W_seq (W_region (V0 rfl (WL_nil (W_block (W_seq (W_region (Vr rfl (V4 rfl (WL_nil (W_cond false rfl (W_seq (W_region ?_)))))))))))))
  refine Vr rfl (V4 rfl (WL_nil (W_cond false rfl (W_seq (W_region (Vr rfl (V4 rfl (WL_nil (W_cond false rfl (W_seq (W_region (Vz rfl (V4 rfl ?_)))))))))))))
  refine WL_nil (W_cond true rfl ?_)
  by_cases hz1 : z = oneF (k == 12)
  ·have e : stepF 6 [z] k a b = some ([oneF (k == 11)], 0) := by unfold stepF; rw [if_neg hgo, if_neg (by decide), if_neg (by decide), if_neg (by decide), if_pos rfl, if_pos (by simpa using hz1)]
   refine W_seq (W_seq (W_draw (by kernel_rfl) ?_))
   refine WA_inv (T := []) hI.drew ?_
   intro Sx hSx hXS
   replace hI := hI.drew
   refine T9 0 (hXS _ hI) rfl ?_
   refine WT_take 1 rfl rfl (by kernel_rfl) (hXS _ hI) rfl (fun W hW => have hI := hSx W hW; (rIdx1 (i := 0) rfl Tryz.underlying26 (by kernel_rfl) rfl rfl (by simp))) ?_
   refine V9 2 (.int .i64 _) (hXS _ hI) rfl (fun W hW => (hSx W hW).oldp hz) (Vw 3 (hXS _ hI) rfl ?_)
   refine WT_take 4 rfl rfl (by kernel_rfl) (hXS _ hI) rfl (fun W hW => have hI := hSx W hW; (rEql rfl rfl rfl)) ?_
   refine Vt 5 rfl ?_
   refine V6 [.bool _] rfl Tryz.func81 rfl ?_
   refine (one_any (k == 12) _).mono ?_
   rw [← hz1]
   rintro e1 w1 ⟨rfl, hp⟩
   refine ⟨_, rfl, ?_⟩
   replace hI := hI.pure hp
   refine WL_nil ⟨hXS _ hI, ?_⟩
   refine U8 6 (hXS _ hI) rfl (WT_end (by kernel_rfl) (W_cond false rfl (W_skip (W_seq (W_region (V0 rfl ?_))))))
   refine WL_val rfl rfl rfl (rEql rfl rfl rfl) ?_
   refine V6 [.bool _] rfl Tryz.func81 rfl ?_
   refine (one_any (k == 11) _).mono ?_
   rintro e1 w1 ⟨rfl, hp⟩
   refine ⟨_, rfl, ?_⟩
   replace hI := hI.pure hp
   refine Vy [(0, .int .i64 _)] [_] [.int .i64 0] [0] hI rfl Tryz.underlying26 (fun _ => by kernel_rfl) ?_
   clear hI; rintro b82 w - - hI
   refine Vl rfl (Va rfl (V4 rfl (WL_nil ?_)))
   refine W_ret ?_
   exact ret3 10 11 12 (.inr rfl) rfl (StepPost.some e rfl (lit1 hI))
  ·have e : stepF 6 [z] k a b = none := by unfold stepF; rw [if_neg hgo, if_neg (by decide), if_neg (by decide), if_neg (by decide), if_pos rfl, if_neg (by simpa using hz1)]
   refine W_seq (W_seq (W_draw (by kernel_rfl) ?_))
   refine WA_inv (T := []) hI.drew ?_
   intro Sx hSx hXS
   replace hI := hI.drew
   refine T9 0 (hXS _ hI) rfl ?_
   refine WT_take 1 rfl rfl (by kernel_rfl) (hXS _ hI) rfl (fun W hW => have hI := hSx W hW; (rIdx1 (i := 0) rfl Tryz.underlying26 (by kernel_rfl) rfl rfl (by simp))) ?_
   refine V9 2 (.int .i64 _) (hXS _ hI) rfl (fun W hW => (hSx W hW).oldp hz) (Vw 3 (hXS _ hI) rfl ?_)
   refine WT_take 4 rfl rfl (by kernel_rfl) (hXS _ hI) rfl (fun W hW => have hI := hSx W hW; (rEql rfl rfl rfl)) ?_
   refine Vt 5 rfl ?_
   refine V6 [.bool _] rfl Tryz.func81 rfl ?_
   refine (one_any (k == 12) _).mono ?_
   generalize hzz : oneF (k == 12) = zz at hz1 ⊢
   rintro e1 w1 ⟨rfl, hp⟩
   refine ⟨_, rfl, ?_⟩
   replace hI := hI.pure hp
   refine WL_nil ⟨hXS _ hI, ?_⟩
   refine Uj 6 (hXS _ hI) rfl (WT_end (by kernel_rfl) (W_cond true rfl (W_seq (W_region (Vl rfl (Va rfl (V4 rfl (WL_nil ?_))))))))
   refine W_ret ?_
   exact ret3 10 11 12 (.inr rfl) rfl (StepPost.none e hI.pu)
def OpsR (w : World) (D : Nat → Prop) (v : Value) (l : List Op8) : Prop := Rd w D 8 v l.length (l.flatMap opV)
theorem OpsR.pure {w w' : World} {D : Nat → Prop} {v : Value} {l : List Op8} (h : OpsR w D v l) (hp : Pure w w') : OpsR w' D v l := Rd.pure h hp
theorem OpsR.at {w : World} {D : Nat → Prop} {A : Option Addr} {n c : Nat} {l : List Op8} (h : OpsR w D (.slice A n c) l) {k : Nat} (hk : k < l.length) : ∃ b o, A = some ⟨b, o, none⟩ ∧ ∀ (j : Nat) (u : Value), (opV (oAt l k))[j]? = some u → w.cell? ⟨b, o + k * 8 + j, none⟩ = some u := by
 obtain ⟨A1, c1, hv, hnc, hcm, hlen, hcell⟩ := h
 injection hv with e1 e2 e3
 subst e1 e3
 obtain ⟨b, o, hbo, _, hcl⟩ := hcell (by omega)
 refine ⟨b, o, hbo, fun j u hj => ?_⟩
 have hj8 : j < 8 := by have := (List.getElem?_eq_some_iff.1 hj).1; simpa [opV] using this
 have hg : l[k]? = some (oAt l k) := by unfold oAt; rw [List.getD_eq_getElem?_getD, List.getElem?_eq_getElem hk]; rfl
 rw [Nat.add_assoc]
 refine hcl _ u ?_
 rw [flatN (f := opV) (fun a => rfl) l k _ hg j hj8]
 exact hj
theorem OpsR.len {w : World} {D : Nat → Prop} {A : Option Addr} {n c : Nat} {l : List Op8} (h : OpsR w D (.slice A n c) l) : n = l.length ∧ n ≤ c ∧ c ≤ 9223372036854775807 := by
 obtain ⟨A', c', he, h1, h2⟩ := Rd.form h
 injection he with _ e2 e3
 subst e2 e3
 exact ⟨rfl, h1, h2⟩
/-- Where states lie. -/
abbrev Loc := Nat → Option Addr × Nat
def stV8 (g : Sts8) (L : Loc) : Int → Option Value := fun m => if 0 ≤ m ∧ m < 8 then (g m.toNat).map (fun st => .slice (L m.toNat).1 st.length (L m.toNat).2) else none
def stE8 (g : Sts8) (L : Loc) (k : Nat) : Ent := match g k with | none => Ent.nil | some st => StE (L k).1 (L k).2 st
def updL (L : Loc) (k : Nat) (A : Option Addr) (c : Nat) : Loc := fun j => if j = k then (A, c) else L j
theorem stV8_set {g : Sts8} {L : Loc} {k : Nat} {z : Int} (hz : z = (k : Int)) (hk : k < 8) (st : List Int) (A : Option Addr) (c : Nat) : (fun j => if j = z then some (.slice A st.length c) else stV8 g L j) = stV8 (updS g k st) (updL L k A c) := by
 subst hz
 funext j
 unfold stV8
 by_cases hj : j = (k : Int)
 ·subst hj
  rw [if_pos rfl, if_pos (by omega)]
  simp [updS, updL]
 ·rw [if_neg hj]
  by_cases hr : 0 ≤ j ∧ j < 8
  ·rw [if_pos hr, if_pos hr]
   have : j.toNat ≠ k := by omega
   simp [updS, updL, this]
  ·rw [if_neg hr, if_neg hr]
theorem stE8_set (g : Sts8) (L : Loc) (k : Nat) (st : List Int) (A : Option Addr) (c : Nat) (j : Nat) : (if j = k then StE A c st else stE8 g L j) = stE8 (updS g k st) (updL L k A c) j := by
 unfold stE8
 by_cases hj : j = k
 ·subst hj; simp [updS, updL]
 ·simp [updS, updL, hj]
theorem Inv.many_set {S : Nat → Prop} {w0 w : World} {H : List Ent} {e : Ent} {n i : Nat} {es : Nat → Ent} (h : Inv S w0 w (e :: Many n es :: H)) (hi : i < n) : Inv S w0 w (Many n (fun j => if j = i then e else es j) :: H) := by
 have h1 := (h.sw0.many_out hi).d0.sw0.many_in hi (by simp)
 refine h1.many_congr fun j hj => ?_
 by_cases e : j = i
 ·simp [e]
 ·simp [e]
set_option maxHeartbeats 4000000 in
theorem run_any (o : Int) (A : Option Addr) (n c : Nat) (ops : List Op8) (A' : Option Addr) (c' : Nat) (order : List Int) (D D' : Nat → Prop) (w0 : World) (h : OpsR w0 D (.slice A n c) ops) (hr : Rd w0 D' 1 (.slice A' order.length c') order.length (i64s order)) (hkey : ∀ i, i < ops.length → 0 ≤ (oAt ops i).key ∧ (oAt ops i).key < 8) (hb : order.length ≤ 10000) (hk : KnOk w0) :
  Calls Tryz.prog 26 #[.int .i64 o, .slice A n c, .slice A' order.length c'] w0 fun en w' => en = .returned (.int .i64 (runF o ops order)) ∧ Pure w0 w' := by
 obtain ⟨hn, hc1, hc2⟩ := h.len
 have hI := Inv.start (fun _ => False) w0
 refine Vm Tryz.f26.ntmps Tryz.func26 rfl ?_
 refine W_seq (W_region (Va rfl (WL_nil (W_seq (W_region ?_)))))
 refine WL_mkMap hI rfl rfl rfl rfl ?_
 clear hI; intro b16 w hI
 refine WL_val rfl rfl rfl (by exact rAsgnM rfl rfl) ?_
 refine WL_nil (W_seq (W_seq (W_region (Ve rfl (Vs rfl Tryz.underlying26 rfl (V0 rfl (WL_nil ?_)))))))
 replace hI : Inv (fun _ => False) w0 w [Many 8 (stE8 (fun _ => none) (fun _ => (none, 0))), MapE b16 (stV8 (fun _ => none) (fun _ => (none, 0)))] := by
  have h1 : Inv (fun _ => False) w0 w [MapE b16 (stV8 (fun _ => none) (fun _ => (none, 0)))] := by
   have e : stV8 (fun _ => none) (fun _ => (none, 0)) = fun _ => none := by funext m; unfold stV8; split <;> rfl
   rw [e]; exact hI
  exact h1.fresh (Pure.refl _) (Many.ok (fun i _ => Ent.nil_ok _) (fun i j _ _ _ k hk => hk.elim)) (fun k hk => by obtain ⟨i, _, hk⟩ := hk; exact hk.elim)
 refine W_block ?_
 refine W_loopN (fun mu ρ w => ∃ (p : Nat) (g : Sts8) (L : Loc), mu = order.length - p ∧ p ≤ order.length ∧ runF o ops order = runTo o ops (order.drop p) p g ∧ (∀ k st, g k = some st → okSt o st ∧ st.length ≤ p + 1) ∧ Has ρ [(19, .int .i64 (p : Int)), (18, .int .i64 (order.length : Int)), (17, .slice A' order.length c'), (0, .int .i64 o), (1, .slice A n c), (7, .map (some b16))] ∧ Inv (fun _ => False) w0 w [Many 8 (stE8 g L), MapE b16 (stV8 g L)]) order.length
  ⟨0, _, _, rfl, by omega, rfl, (fun k st hst => by cases hst), ⟨rfl, rfl, rfl, rfl, rfl, rfl, trivial⟩, hI⟩ ?_
 clear hI
 rintro mu ρ w ⟨p, g, L, rfl, hp, hrun, hok, hH, hI⟩
 obtain ⟨σ, rfl⟩ := hH.open
 by_cases hpl : p < order.length
 rotate_left
 ·obtain rfl : p = order.length := by omega
  refine W_seq (W_region (Vn rfl (WL_nil (W_seq (W_cond false rfl ?_)))))
  refine W_exit ?_
  refine W_seq (W_region (Va rfl (WL_nil ?_)))
  refine W_ret ?_
  exact ret1 6 (.inr rfl) rfl ⟨by rw [hrun, List.drop_eq_nil_of_le (Nat.le_refl _)]; rfl, hI.pu⟩
 have hi0 : (i64s order)[p]? = some (.int .i64 (order[p]'hpl)) := by simp [i64s, hpl]
 obtain ⟨ob, oo, rfl, _, _, hcell⟩ := hr.get hi0 (by omega)
 have hdrop : order.drop p = (order[p]'hpl) :: order.drop (p + 1) := List.drop_eq_getElem_cons hpl
 generalize order[p]'hpl = i at hi0 hcell hdrop
 rw [hdrop] at hrun
 refine W_seq (W_region (Vp rfl (WL_nil (W_seq (W_cond true rfl (W_skip (W_seq (W_block (W_seq (W_region (V0 rfl (Uf rfl Tryz.underlying26 rfl (V3 (.int .i64 _) rfl (hI.oldp hcell) ?_)))))))))))))
 refine Va rfl (Va rfl (WL_nil ?_))
 by_cases hneg : i < 0
 ·refine W_seq (W_seq (W_region (V0 rfl (Vp rfl (V2 rfl (V1 rfl (V1 rfl (V1 rfl (V1 rfl (Vd rfl (WL_nil (W_cond true rfl (W_seq ?_)))))))))))))
  refine W_region (V0 rfl (Va rfl (WL_nil ?_)))
  refine W_ret ?_
  exact ret1 6 (.inr rfl) rfl ⟨by rw [hrun, runTo, if_pos (.inl hneg)]; rfl, hI.pu⟩
 by_cases hbig : (ops.length : Int) ≤ i
 ·refine W_seq (W_seq (W_region (V0 rfl (Vn rfl (V2 rfl (V0 rfl (Ve rfl (Vs rfl Tryz.underlying40 rfl (Tg rfl (V8 rfl (WL_nil (W_cond true rfl (W_seq ?_)))))))))))))
  refine W_region (V0 rfl (Va rfl (WL_nil ?_)))
  refine W_ret ?_
  exact ret1 6 (.inr rfl) rfl ⟨by rw [hrun, runTo, if_pos (.inr hbig)]; rfl, hI.pu⟩
 refine W_seq (W_seq (W_region (V0 rfl (Vn rfl (V2 rfl (V0 rfl (Ve rfl (Vs rfl Tryz.underlying40 rfl (To rfl (V8 rfl (WL_nil (W_cond false rfl (W_skip ?_)))))))))))))
 rw [runTo, if_neg (by omega)] at hrun
 obtain ⟨m, rfl⟩ : ∃ m : Nat, i = (m : Int) := ⟨i.toNat, by omega⟩
 have hm : m < ops.length := by omega
 rw [Int.toNat_natCast] at hrun
 obtain ⟨ab, ao, rfl, hoc⟩ := h.at hm
 obtain ⟨hk0, hk8⟩ := hkey m hm
 generalize hop : oAt ops m = op at hrun hoc hk0 hk8
 obtain ⟨proc, key, kind, a, b, res, call, ret⟩ := op
 simp only at hrun hk0 hk8
 obtain ⟨kn, rfl⟩ : ∃ kn : Nat, key = (kn : Int) := ⟨key.toNat, by omega⟩
 have hkn : kn < 8 := by omega
 rw [Int.toNat_natCast] at hrun
 refine W_seq (W_region (Ve rfl (V0 rfl (Ti 8 rfl Tryz.underlying40 rfl (Ue 8 rfl (by rfl) (fun k u hk => hI.oldp (hoc k u hk)) (T0 (.agg #[.int .i64 0, .int .i64 0, .int .i64 0, .int .i64 0, .int .i64 0, .int .i64 0, .int .i64 0, .int .i64 0]) (#[.int .i64 0, .int .i64 0, .int .i64 0, .int .i64 0, .int .i64 0, .int .i64 0, .int .i64 0, .int .i64 0]) hI rfl ?_))))))
 clear hI; rintro b10 w - - hI
 refine T1 8 (#[_, _, _, _, _, _, _, _]) (.agg _) hI rfl ?_
 clear hI; intro w hI
 refine WL_nil ?_
 simp only [opV] at hI
 obtain ⟨st, hst⟩ : ∃ st, st = (g kn).getD (startF o) := ⟨_, rfl⟩
 rw [← hst] at hrun
 have hsto : okSt o st ∧ st.length ≤ p + 1 := by
  cases hg : g kn with
  | none => rw [hg] at hst; subst hst; exact ⟨okSt_start o, by have := startF_len o; simp only [Option.getD_none]; omega⟩
  | some s1 => rw [hg] at hst; subst hst; exact hok kn _ hg
 have hlook : stV8 g L (kn : Int) = (g kn).map (fun st => .slice (L kn).1 st.length (L kn).2) := by unfold stV8; rw [if_pos (by omega), Int.toNat_natCast]
 refine W_seq (W_region ?_)
 refine WL_val rfl rfl rfl (by exact rMoveM rfl rfl) ?_
 refine V5 1 rfl (V3 (.int .i64 _) rfl (hI.c0 rfl) ?_)
 refine WL_val rfl rfl rfl (rLook (zv := .slice none 0 0) rfl Tryz.underlying125 Tryz.underlying3 (by kernel_rfl) rfl rfl hI.g2) ?_
 refine Vv rfl (Vg rfl (Vg rfl (Th rfl (V4 rfl (WL_nil ?_)))))
 rw [hlook]
 refine W_seq_cut (fun ρ w => ∃ (A1 : Option Addr) (c1 : Nat), Has ρ [(19, .int .i64 (p : Int)), (18, .int .i64 (order.length : Int)), (17, .slice (some ⟨ob, oo, none⟩) order.length c'), (0, .int .i64 o), (1, .slice (some ⟨ab, ao, none⟩) n c), (7, .map (some b16)), (8, .int .i64 (p : Int)), (10, .pointer (some ⟨b10, 0, none⟩)), (11, .slice A1 st.length c1)] ∧ Rd w (fun _ => True) 1 (.slice A1 st.length c1) st.length (i64s st) ∧ Inv (fun _ => False) w0 w [B b10 77 #[.int .i64 proc, .int .i64 (kn : Int), .int .i64 kind, .int .i64 a, .int .i64 b, .int .i64 res, .int .i64 call, .int .i64 ret], Many 8 (stE8 g L), MapE b16 (stV8 g L)]) ?_ ?_
 ·cases hg : g kn with
  | none =>
   rw [hg] at hst
   simp only [Option.map_none, Option.getD_none, Option.isSome_none] at hst ⊢
   subst hst
   refine W_seq (W_region (V2 rfl (Ta rfl (WL_nil (W_cond true rfl (W_region (V0 rfl (V6 [.int .i64 _] rfl Tryz.func49 rfl ?_))))))))
   refine (start_any o _).mono ?_
   rintro e1 w1 ⟨A1, c1, rfl, hT⟩
   refine ⟨_, rfl, ?_⟩
   replace hI := hI.app1 hT
   refine Vl rfl (WL_nil ?_)
   exact ⟨A1, c1, ⟨rfl, rfl, rfl, rfl, rfl, rfl, rfl, rfl, rfl, trivial⟩, Row_rd hI.g0, hI.d0⟩
  | some s1 =>
   rw [hg] at hst
   simp only [Option.map_some, Option.getD_some, Option.isSome_some] at hst ⊢
   subst hst
   refine W_seq (W_region (V2 rfl (T4 rfl (WL_nil (W_cond false rfl (W_skip ?_))))))
   have hE : (stE8 g L kn).Φ _ := hI.d0.many_at hkn
   unfold stE8 at hE
   rw [hg] at hE
   exact ⟨_, _, ⟨rfl, rfl, rfl, rfl, rfl, rfl, rfl, rfl, rfl, trivial⟩, Row_rd hE, hI⟩
 clear hI
 rintro ρ w ⟨A1, c1, hH, hRd, hI⟩
 obtain ⟨σ, rfl⟩ := hH.open
 cases hs : stepF o st kind a b with
 | none =>
  rw [hs] at hrun
  refine W_seq (W_region (V0 rfl (Ve rfl (V5 2 rfl (V3 (.int .i64 _) rfl (hI.c0 rfl) (V5 3 rfl (V3 (.int .i64 _) rfl (hI.c0 rfl) (V5 4 rfl (V3 (.int .i64 _) rfl (hI.c0 rfl) (V6 [.int .i64 _, .slice _ _ _, .int .i64 _, .int .i64 _, .int .i64 _] rfl Tryz.func50 rfl ?_))))))))))
  refine (step_any o A1 c1 st kind a b _ _ hRd hsto.1 (by omega) (hk.pure hI.pu)).mono ?_
  rintro e1 w1 hpost
  unfold StepPost at hpost
  rw [hs] at hpost
  obtain ⟨rfl, hp1⟩ := hpost
  refine ⟨_, rfl, ?_⟩
  replace hI := hI.pure hp1
  refine Vv rfl (Vg rfl (Vg rfl (Vg rfl (Vl rfl (Va rfl (V4 rfl (WL_nil (W_seq (W_seq (W_region (V2 rfl (Ta rfl (V2 rfl ?_)))))))))))))
  refine V1 rfl (V1 rfl (V1 rfl (V1 rfl (V1 rfl (V1 rfl (V1 rfl (V1 rfl (V1 rfl (Vd rfl (WL_nil (W_cond true rfl (W_seq (W_region ?_)))))))))))))
  refine V0 rfl (Va rfl (WL_nil ?_))
  refine W_ret ?_
  exact ret1 6 (.inr rfl) rfl ⟨by rw [hrun]; rfl, hI.pu⟩
 | some q =>
  obtain ⟨st', r⟩ := q
  rw [hs] at hrun
  simp only at hrun
  by_cases hret : 0 ≤ ret ∧ r ≠ res
  ·rw [if_pos hret] at hrun
   refine W_seq (W_region (V0 rfl (Ve rfl (V5 2 rfl (V3 (.int .i64 _) rfl (hI.c0 rfl) (V5 3 rfl (V3 (.int .i64 _) rfl (hI.c0 rfl) (V5 4 rfl (V3 (.int .i64 _) rfl (hI.c0 rfl) (V6 [.int .i64 _, .slice _ _ _, .int .i64 _, .int .i64 _, .int .i64 _] rfl Tryz.func50 rfl ?_))))))))))
   refine (step_any o A1 c1 st kind a b _ _ hRd hsto.1 (by omega) (hk.pure hI.pu)).mono ?_
   rintro e1 w1 hpost
   unfold StepPost at hpost
   rw [hs] at hpost
   obtain ⟨A2, c2, rfl, hT⟩ := hpost
   refine ⟨_, rfl, ?_⟩
   replace hI := hI.app1 hT
   refine Vv rfl (Vg rfl (Vg rfl (Vg rfl (Vl rfl (Va rfl (V4 rfl (WL_nil ?_)))))))
   obtain ⟨hr0, hrne⟩ := hret
   refine W_seq (W_seq (W_region (V2 rfl (T4 rfl (V2 rfl (V5 7 rfl (V3 (.int .i64 _) rfl (hI.c1 rfl) (Tg rfl (V2 rfl (V0 rfl (V5 5 rfl (V3 (.int .i64 _) rfl (hI.c1 rfl) (Tx rfl ?_)))))))))))))
   refine Vd rfl (V8 rfl (WL_nil (W_cond true rfl (W_seq (W_region (V0 rfl (Va rfl (WL_nil ?_))))))))
   refine W_ret ?_
   exact ret1 6 (.inr rfl) rfl ⟨by rw [hrun]; rfl, hI.pu⟩
  ·rw [if_neg hret] at hrun
   have hnext : ∀ k s1, updS g kn st' k = some s1 → okSt o s1 ∧ s1.length ≤ p + 1 + 1 := fun k s1 hk1 => by
    unfold updS at hk1
    split at hk1
    ·injection hk1 with hk1
     subst hk1
     exact ⟨stepF_ok hs hsto.1, by have := stepF_len hs; omega⟩
    ·have := hok k s1 hk1
     exact ⟨this.1, by omega⟩
   refine W_seq_cut (fun ρ w => ∃ (A2 : Option Addr) (c2 : Nat), Has ρ [(19, .int .i64 (p : Int)), (18, .int .i64 (order.length : Int)), (17, .slice (some ⟨ob, oo, none⟩) order.length c'), (0, .int .i64 o), (1, .slice (some ⟨ab, ao, none⟩) n c), (7, .map (some b16)), (10, .pointer (some ⟨b10, 0, none⟩)), (13, .slice A2 st'.length c2), (14, .int .i64 r), (15, .bool true), (8, .int .i64 (p : Int))] ∧ Inv (fun _ => False) w0 w [StE A2 c2 st', B b10 77 #[.int .i64 proc, .int .i64 (kn : Int), .int .i64 kind, .int .i64 a, .int .i64 b, .int .i64 res, .int .i64 call, .int .i64 ret], Many 8 (stE8 g L), MapE b16 (stV8 g L)]) ?_ ?_
   ·refine W_region (V0 rfl (Ve rfl (V5 2 rfl (V3 (.int .i64 _) rfl (hI.c0 rfl) (V5 3 rfl (V3 (.int .i64 _) rfl (hI.c0 rfl) (V5 4 rfl (V3 (.int .i64 _) rfl (hI.c0 rfl) (V6 [.int .i64 _, .slice _ _ _, .int .i64 _, .int .i64 _, .int .i64 _] rfl Tryz.func50 rfl ?_)))))))))
    refine (step_any o A1 c1 st kind a b _ _ hRd hsto.1 (by omega) (hk.pure hI.pu)).mono ?_
    rintro e1 w1 hpost
    unfold StepPost at hpost
    rw [hs] at hpost
    obtain ⟨A2, c2, rfl, hT⟩ := hpost
    refine ⟨_, rfl, ?_⟩
    replace hI := hI.app1 hT
    refine Vv rfl (Vg rfl (Vg rfl (Vg rfl (Vl rfl (Va rfl (V4 rfl (WL_nil ?_)))))))
    exact ⟨A2, c2, ⟨rfl, rfl, rfl, rfl, rfl, rfl, rfl, rfl, rfl, rfl, rfl, trivial⟩, hI⟩
   clear hI
   rintro ρ w ⟨A2, c2, hH, hI⟩
   obtain ⟨σ, rfl⟩ := hH.open
   refine W_seq_cut (fun ρ w => Has ρ [(19, .int .i64 (p : Int)), (18, .int .i64 (order.length : Int)), (17, .slice (some ⟨ob, oo, none⟩) order.length c'), (0, .int .i64 o), (1, .slice (some ⟨ab, ao, none⟩) n c), (7, .map (some b16)), (10, .pointer (some ⟨b10, 0, none⟩)), (13, .slice A2 st'.length c2)] ∧ Inv (fun _ => False) w0 w [StE A2 c2 st', B b10 77 #[.int .i64 proc, .int .i64 (kn : Int), .int .i64 kind, .int .i64 a, .int .i64 b, .int .i64 res, .int .i64 call, .int .i64 ret], Many 8 (stE8 g L), MapE b16 (stV8 g L)]) ?_ ?_
   ·by_cases hr0 : 0 ≤ ret
    ·have hre : r = res := by
      rcases Classical.em (r = res) with h1 | h1
      ·exact h1
      ·exact absurd ⟨hr0, h1⟩ hret
     refine W_seq (W_region (V2 rfl (T4 rfl (V2 rfl (V5 7 rfl (V3 (.int .i64 _) rfl (hI.c1 rfl) (Tg rfl (V2 rfl (V0 rfl (V5 5 rfl (V3 (.int .i64 _) rfl (hI.c1 rfl) (U5 rfl (Vd rfl ?_)))))))))))))
     refine V8 rfl (WL_nil (W_cond false rfl (W_skip ?_)))
     exact ⟨⟨rfl, rfl, rfl, rfl, rfl, rfl, rfl, rfl, trivial⟩, hI⟩
    ·refine W_seq (W_region (V2 rfl (T4 rfl (V2 rfl (V5 7 rfl (V3 (.int .i64 _) rfl (hI.c1 rfl) (To rfl (V2 rfl (V1 rfl (V1 rfl (V1 rfl (V1 rfl (V8 rfl ?_)))))))))))))
     refine V8 rfl (WL_nil (W_cond false rfl (W_skip ?_)))
     exact ⟨⟨rfl, rfl, rfl, rfl, rfl, rfl, rfl, rfl, trivial⟩, hI⟩
   clear hI
   rintro ρ w ⟨hH, hI⟩
   obtain ⟨σ, rfl⟩ := hH.open
   refine W_region ?_
   refine WL_val rfl rfl rfl (by exact rMoveM rfl rfl) ?_
   refine V5 1 rfl (V3 (.int .i64 _) rfl (hI.c1 rfl) (Ve rfl ?_))
   refine WL_mapSet 3 rfl hI rfl rfl rfl Tryz.underlying125 Tryz.underlying3 rfl rfl rfl ?_
   clear hI; intro w hI
   replace hI : Inv (fun _ => False) w0 w [StE A2 c2 st', B b10 77 _, Many 8 (stE8 g L), MapE b16 (fun j => if j = (kn : Int) then some (.slice A2 st'.length c2) else stV8 g L j)] := hI
   rw [stV8_set (k := kn) rfl hkn] at hI
   replace hI := hI.d1.many_set hkn
   refine WL_nil (W_region (Vu rfl (V0 rfl (WL_nil ?_))))
   refine ⟨order.length - (p + 1), by omega, p + 1, updS g kn st', updL L kn A2 c2, rfl, by omega, hrun, hnext, ⟨rfl, rfl, rfl, rfl, rfl, rfl, trivial⟩, ?_⟩
   exact hI.many_congr fun j hj => stE8_set g L kn st' A2 c2 j
section
variable {P : Program} {ρ : Env} {o : Oper} {w : World} {x y : Operand} {t t' : TypeId}
theorem rQuoU {a b : Nat} (ho : o.op = .binOp .quo t x y t') (hx : ev ρ x = .int .u64 (a : Int)) (hy : ev ρ y = .int .u64 (b : Int)) (hb : 0 < b) (ha : a < 18446744073709551616) : Runs P ρ o w (.int .u64 ((a / b : Nat) : Int)) := by
 have h := rQuoW (P := P) (w := w) ho hx hy (by omega)
 have hl : a / b ≤ a := Nat.div_le_self a b
 have e : (a : Int).tdiv (b : Int) = ((a / b : Nat) : Int) := by simp [Int.ofNat_tdiv]
 rwa [e, wrap_u64 (by omega)] at h
theorem rMulU {a b : Nat} (ho : o.op = .binOp .mul t x y t') (hx : ev ρ x = .int .u64 (a : Int)) (hy : ev ρ y = .int .u64 (b : Int)) (ha : a * b < 18446744073709551616) : Runs P ρ o w (.int .u64 ((a * b : Nat) : Int)) := by
 have h := rMulW (P := P) (w := w) ho hx hy
 rwa [← Int.natCast_mul, wrap_u64 ha] at h
theorem rSubU {a b : Nat} (ho : o.op = .binOp .sub t x y t') (hx : ev ρ x = .int .u64 (a : Int)) (hy : ev ρ y = .int .u64 (b : Int)) (hb : b ≤ a) (ha : a < 18446744073709551616) : Runs P ρ o w (.int .u64 ((a - b : Nat) : Int)) := by
 have h := rSubW (P := P) (w := w) ho hx hy
 rwa [show (a : Int) - (b : Int) = ((a - b : Nat) : Int) by omega, wrap_u64 (by omega)] at h
end
def bytC (l : List Nat) : List Value := l.map fun b : Nat => Value.int .u8 (b : Int)
theorem bytC_len (l : List Nat) : (bytC l).length = l.length := by simp [bytC]
theorem bytC_app (l m : List Nat) : bytC (l ++ m) = bytC l ++ bytC m := by simp [bytC]
theorem bytC_one (l : List Nat) : (bytC l).all (·.oneCell') = true := by
 rw [List.all_eq_true]
 intro v hv
 obtain ⟨b, _, rfl⟩ := List.mem_map.1 hv
 rfl
def BytE (base : Nat) (A : Option Addr) (c : Nat) (l : List Nat) : Ent := Row base 5 1 A l.length c (bytC l)
theorem dig_str : ∀ i, i < 36 → (⟨#[48, 49, 50, 51, 52, 53, 54, 55, 56, 57, 97, 98, 99, 100, 101, 102, 103, 104, 105, 106, 107, 108, 109, 110, 111, 112, 113, 114, 115, 116, 117, 118, 119, 120, 121, 122]⟩ : ByteArray)[i]? = some (UInt8.ofNat (dig36 i)) := by decide +kernel
theorem dig_u8 {i : Nat} (h : i < 36) : ((UInt8.ofNat (dig36 i)).toNat : Int) = (dig36 i : Int) := by
 have := (okC_dig h).1.2.2
 simp
 omega
theorem pow2_36 (w0 : World) : Calls Tryz.prog 159 #[.int .i64 36] w0 fun en w' => en = .returned (.bool false) ∧ Pure w0 w' := by
 have hI := Inv.start (fun _ => False) w0
 refine Vm Tryz.f159.ntmps Tryz.func159 rfl ?_
 refine W_seq (W_region (V4 rfl (WL_nil (W_seq (W_region (V0 rfl (V0 rfl ?_)))))))
 refine WL_val rfl rfl rfl (by exact rSub rfl rfl rfl (by omega)) ?_
 refine WL_val rfl rfl rfl (rBits (r := fun p q => p &&& q) rfl rfl rfl rfl) ?_
 refine WL_val rfl rfl rfl (by exact rEql rfl rfl rfl) ?_
 refine V4 rfl (WL_nil ?_)
 refine W_ret ?_
 exact ret1 2 (.inr rfl) rfl ⟨rfl, hI.pu⟩
theorem drop_set65 {cs : Array Value} {k : Nat} (hk : k < 65) (hcs : cs.size = 65) (v : Value) : (cs.setIfInBounds (0 + (65 - k - 1) * 1) v).toList.drop (65 - (k + 1)) = v :: cs.toList.drop (65 - k) := by
 have e : 0 + (65 - k - 1) * 1 = 65 - (k + 1) := by omega
 have hl : 65 - (k + 1) < (cs.toList.set (65 - (k + 1)) v).length := by simp [hcs]; omega
 rw [e, Array.toList_setIfInBounds, List.drop_eq_getElem_cons hl, List.getElem_set_self, List.drop_set_of_lt (by omega), show 65 - (k + 1) + 1 = 65 - k by omega]
set_option maxHeartbeats 2000000 in
theorem fmt_any (base : Nat) (A : Option Addr) (c : Nat) (l : List Nat) (u : Nat) (w0 : World) (hR : (BytE base A c l).ok w0) (hu : u < 18446744073709551616) (hn : l.length ≤ 1000000) (hb : base ≤ w0.heap.size) :
  Calls Tryz.prog 151 #[.slice A l.length c, .int .u64 (u : Int), .int .i64 36, .bool false, .bool true] w0 fun en w' => ∃ A' c', en = .returned (.tuple #[.slice A' (l ++ dig u).length c', .string ⟨#[]⟩]) ∧ Inv (BytE base A c l).D w0 w' [BytE base A' c' (l ++ dig u)] := by
 have hI := Inv.ownE hR
 refine Vm Tryz.f151.ntmps Tryz.func151 rfl ?_
 refine W_seq (W_region (Vl rfl (U2 rfl (WL_nil (W_seq (W_seq (W_region (V0 rfl (Vn rfl (V2 rfl (V0 rfl (Vr rfl (V8 rfl ?_)))))))))))))
 refine V2 rfl (V0 rfl (Td rfl (V8 rfl (WL_nil (W_cond false rfl (W_skip (W_seq (W_region (T0 (.agg #[.int .u8 0, .int .u8 0, .int .u8 0, .int .u8 0, .int .u8 0, .int .u8 0, .int .u8 0, .int .u8 0, .int .u8 0, .int .u8 0, .int .u8 0, .int .u8 0, .int .u8 0, .int .u8 0, .int .u8 0, .int .u8 0, .int .u8 0, .int .u8 0, .int .u8 0, .int .u8 0, .int .u8 0, .int .u8 0, .int .u8 0, .int .u8 0, .int .u8 0, .int .u8 0, .int .u8 0, .int .u8 0, .int .u8 0, .int .u8 0, .int .u8 0, .int .u8 0, .int .u8 0, .int .u8 0, .int .u8 0, .int .u8 0, .int .u8 0, .int .u8 0, .int .u8 0, .int .u8 0, .int .u8 0, .int .u8 0, .int .u8 0, .int .u8 0, .int .u8 0, .int .u8 0, .int .u8 0, .int .u8 0, .int .u8 0, .int .u8 0, .int .u8 0, .int .u8 0, .int .u8 0, .int .u8 0, .int .u8 0, .int .u8 0, .int .u8 0, .int .u8 0, .int .u8 0, .int .u8 0, .int .u8 0, .int .u8 0, .int .u8 0, .int .u8 0, .int .u8 0]) (#[.int .u8 0, .int .u8 0, .int .u8 0, .int .u8 0, .int .u8 0, .int .u8 0, .int .u8 0, .int .u8 0, .int .u8 0, .int .u8 0, .int .u8 0, .int .u8 0, .int .u8 0, .int .u8 0, .int .u8 0, .int .u8 0, .int .u8 0, .int .u8 0, .int .u8 0, .int .u8 0, .int .u8 0, .int .u8 0, .int .u8 0, .int .u8 0, .int .u8 0, .int .u8 0, .int .u8 0, .int .u8 0, .int .u8 0, .int .u8 0, .int .u8 0, .int .u8 0, .int .u8 0, .int .u8 0, .int .u8 0, .int .u8 0, .int .u8 0, .int .u8 0, .int .u8 0, .int .u8 0, .int .u8 0, .int .u8 0, .int .u8 0, .int .u8 0, .int .u8 0, .int .u8 0, .int .u8 0, .int .u8 0, .int .u8 0, .int .u8 0, .int .u8 0, .int .u8 0, .int .u8 0, .int .u8 0, .int .u8 0, .int .u8 0, .int .u8 0, .int .u8 0, .int .u8 0, .int .u8 0, .int .u8 0, .int .u8 0, .int .u8 0, .int .u8 0, .int .u8 0]) hI rfl ?_)))))))))
 clear hI; rintro b12 w - - hI
 refine WL_nil (W_seq (W_region (Va rfl (WL_nil (W_seq (W_seq (W_region (V2 rfl (WL_nil (W_cond false rfl (W_skip (W_seq (W_seq ?_)))))))))))))
 refine W_region (V0 rfl (V6 [.int .i64 _] rfl Tryz.func159 rfl ?_))
 refine (pow2_36 _).mono ?_
 rintro e w1 ⟨rfl, hp⟩
 refine ⟨_, rfl, ?_⟩
 replace hI := hI.pure hp
 refine WL_nil (W_cond false rfl (W_seq (W_region (V0 rfl ?_))))
 refine WL_val rfl rfl rfl (by exact rConvW rfl Tryz.underlying3 Tryz.underlying158 rfl) ?_
 refine Va rfl (WL_nil ?_)
 obtain ⟨cs, hcs, hI⟩ : ∃ cs : Array Value, cs.size = 65 ∧ Inv (BytE base A c l).D w0 w1 [B b12 285 cs, BytE base A c l] := ⟨_, by rfl, hI⟩
 refine W_seq (W_block ?_)
 refine W_loopN (fun mu ρ w => ∃ (k u' : Nat) (acc : List Nat) (cs : Array Value), mu = 13 - k ∧ k ≤ 13 ∧ acc.length = k ∧ dig u = digs36 (13 - k) u' acc ∧ u' < 36 ^ (13 - k + 1) ∧ u' < 18446744073709551616 ∧ cs.size = 65 ∧ cs.toList.drop (65 - k) = bytC acc ∧ Has ρ [(13, .int .i64 ((65 - k : Nat) : Int)), (1, .int .u64 (u' : Int)), (17, .int .u64 36), (12, .pointer (some ⟨b12, 0, none⟩)), (0, .slice A l.length c), (3, .bool false), (4, .bool true), (11, .string ⟨#[]⟩)] ∧ Inv (BytE base A c l).D w0 w [B b12 285 cs, BytE base A c l]) 13
  ⟨0, u, [], cs, rfl, by omega, rfl, rfl, Nat.lt_of_lt_of_le hu (by decide), hu, hcs, by rw [List.drop_eq_nil_of_le (by simp [hcs])]; rfl, ⟨rfl, rfl, rfl, rfl, rfl, rfl, rfl, rfl, trivial⟩, hI⟩ ?_
 clear hI
 rintro mu ρ w ⟨k, u', acc, cs, rfl, hk, hacc, hdig, hu1, hu2, hcs, hdrop, hH, hI⟩
 obtain ⟨σ, rfl⟩ := hH.open
 by_cases h36 : 36 ≤ u'
 ·have hk13 : k < 13 := by
   rcases Nat.lt_or_ge k 13 with h | h
   ·exact h
   ·obtain rfl : k = 13 := by omega
    simp at hu1
    omega
  have hq : u' / 36 * 36 ≤ u' := Nat.div_mul_le_self u' 36
  have hr : u' - u' / 36 * 36 = u' % 36 := by omega
  have hr36 : u' % 36 < 36 := Nat.mod_lt _ (by omega)
  refine W_seq (W_seq (W_region (V0 rfl (V0 rfl (Tg rfl (WL_nil (W_cond true rfl (W_skip (W_block (W_seq (W_region (V0 rfl ?_))))))))))))
  refine WL_val rfl rfl rfl (rDecN (b := 1) rfl rfl rfl (by omega) (by omega)) ?_
  refine Va rfl (WL_nil (W_seq (W_region (V0 rfl (V0 rfl ?_)))))
  refine WL_val rfl rfl rfl (rQuoU (b := 36) rfl rfl rfl (by omega) (by omega)) ?_
  refine Va rfl (WL_nil (W_seq (W_region (V0 rfl (V0 rfl (V0 rfl (V0 rfl ?_)))))))
  refine WL_val rfl rfl rfl (rMulU (b := 36) rfl rfl rfl (by omega)) ?_
  refine WL_val rfl rfl rfl (rSubU rfl rfl rfl (by omega) (by omega)) ?_
  refine WL_val rfl rfl rfl (rIdxStr rfl Tryz.underlying9 rfl rfl (dig_str _ (by omega)) (dig_u8 (by omega))) ?_
  refine WL_val rfl rfl rfl (rIdxArr (sz := 1) rfl Tryz.underlying285 (by kernel_rfl) rfl rfl rfl (by omega)) ?_
  refine WL_st0 (u := .int .u8 (dig36 (u' - u' / 36 * 36) : Int)) (j := 0 + (65 - k - 1) * 1) hI rfl rfl rfl rfl rfl rfl (by kernel_rfl) rfl (by simp [Nat.blt, hcs]) rfl ?_
  clear hI; intro w hI
  refine WL_nil (W_region (V0 rfl (Va rfl (WL_nil ?_))))
  rw [hr] at hI
  refine ⟨13 - (k + 1), by omega, k + 1, u' / 36, dig36 (u' % 36) :: acc, _, rfl, by omega, by simp [hacc], ?_, ?_, by omega, by simp [hcs], ?_, ⟨by show Value.int .i64 ((65 - k - 1 : Nat) : Int) = .int .i64 ((65 - (k + 1) : Nat) : Int); rw [Nat.sub_sub], rfl, rfl, rfl, rfl, rfl, rfl, rfl, trivial⟩, hI⟩
  ·rw [hdig, show 13 - k = (13 - (k + 1)) + 1 by omega, digs36, if_neg (by omega)]
  ·rw [Nat.div_lt_iff_lt_mul (by omega), ← Nat.pow_succ]
   rwa [show (13 - (k + 1) + 1).succ = 13 - k + 1 by omega]
  ·rw [drop_set65 (by omega) hcs, hdrop]; rfl
 ·refine W_seq (W_seq (W_region (V0 rfl (V0 rfl (To rfl (WL_nil (W_cond false rfl ?_)))))))
  refine W_exit ?_
  refine W_seq (W_region (V0 rfl ?_))
  refine WL_val rfl rfl rfl (rDecN (b := 1) rfl rfl rfl (by omega) (by omega)) ?_
  refine Va rfl (WL_nil (W_region (V0 rfl (V0 rfl ?_))))
  refine WL_val rfl rfl rfl (rIdxStr rfl Tryz.underlying9 rfl rfl (dig_str _ (by omega)) (dig_u8 (by omega))) ?_
  refine WL_val rfl rfl rfl (rIdxArr (sz := 1) rfl Tryz.underlying285 (by kernel_rfl) rfl rfl rfl (by omega)) ?_
  refine WL_st0 (u := .int .u8 (dig36 u' : Int)) (j := 0 + (65 - k - 1) * 1) hI rfl rfl rfl rfl rfl rfl (by kernel_rfl) rfl (by simp [Nat.blt, hcs]) rfl ?_
  clear hI; intro w hI
  refine WL_nil ?_
  have hfin : dig u = dig36 u' :: acc := by
   rw [hdig]
   cases h13 : 13 - k with
   | zero => rw [digs36, Nat.mod_eq_of_lt (by omega)]
   | succ f => rw [digs36, if_pos (by omega)]
  have hd65 := drop_set65 (k := k) (by omega) hcs (.int .u8 (dig36 u' : Int))
  rw [hdrop] at hd65
  have hd65 : (cs.setIfInBounds (0 + (65 - k - 1) * 1) (.int .u8 (dig36 u' : Int))).toList.drop (65 - (k + 1)) = bytC (dig u) := by rw [hd65, hfin]; rfl
  have hsz : (cs.setIfInBounds (0 + (65 - k - 1) * 1) (.int .u8 (dig36 u' : Int))).size = 65 := by simp [hcs]
  have hlen : (dig u).length = k + 1 := by rw [hfin]; simp [hacc]
  replace hI : ∃ cs' : Array Value, cs'.size = 65 ∧ cs'.toList.drop (65 - (k + 1)) = bytC (dig u) ∧ Inv (BytE base A c l).D w0 w [B b12 285 cs', BytE base A c l] := ⟨_, hsz, hd65, hI⟩
  obtain ⟨cs', hsz', hd', hI⟩ := hI
  refine W_seq (W_seq (W_region (V2 rfl (WL_nil (W_cond false rfl (W_skip (W_seq (W_seq (W_region (V2 rfl (WL_nil (W_cond true rfl (W_seq ?_)))))))))))))
  refine W_region (Ve rfl (V0 rfl ?_))
  refine WL_val rfl rfl rfl (rSliceArr (i := 65 - k - 1) rfl Tryz.underlying285 (by kernel_rfl) rfl rfl (by omega)) ?_
  -- STOP: call ['Op.call', ('st', {'callee': ['Callee.builtin', 'Builtin.append'], 'args': ('arr', [['Operand.tmp', '95'], ['Operand.tmp', '97']]), 'argTypes': ('arr
  refine WL_app1 (z := .int .u8 0) (by_ := 1) (news := bytC (dig u)) hI rfl rfl rfl rfl rfl rfl Tryz.underlying248 (by kernel_rfl) rfl (by omega) (by rw [bytC_len]; omega) (fun q v hq => ?_) (bytC_one _) (by omega) (by omega) (by have := hI.chg.size; omega) ?_
  ·rw [← hd', List.getElem?_drop] at hq
   rw [Nat.zero_add, show 65 - k - 1 = 65 - (k + 1) by omega]
   exact hI.c0 (by simpa using hq)
  clear hI; rintro A' c' w hc1 hc2 hI
  refine Vl rfl (WL_nil ?_)
  refine W_ret ?_
  have el : l.length + (65 - (65 - k - 1)) = (l ++ dig u).length := by simp [hlen]; omega
  rw [el, ← bytC_app] at hI
  refine ret2 10 11 (.inr rfl) rfl ⟨A', c', ?_, hI.d0⟩
  rw [← el]; rfl
theorem appU_any (base : Nat) (A : Option Addr) (c : Nat) (l : List Nat) (u : Nat) (w0 : World) (hR : (BytE base A c l).ok w0) (hu : u < 18446744073709551616) (hn : l.length ≤ 1000000) (hb : base ≤ w0.heap.size) :
  Calls Tryz.prog 152 #[.slice A l.length c, .int .u64 (u : Int), .int .i64 36] w0 fun en w' => ∃ A' c', en = .returned (.slice A' (l ++ dig u).length c') ∧ Inv (BytE base A c l).D w0 w' [BytE base A' c' (l ++ dig u)] := by
 have hI := Inv.ownE hR
 refine Vm Tryz.f152.ntmps Tryz.func152 rfl ?_
 refine W_seq (W_region (Vl rfl (WL_nil (W_seq (W_seq (W_region (V0 rfl (Vr rfl (WL_nil (W_cond false rfl (W_skip (W_seq (W_region ?_)))))))))))))
 refine Ve rfl (V0 rfl (V0 rfl (V6 [.slice _ _ _, .int .u64 _, .int .i64 _, .bool _, .bool _] rfl Tryz.func151 rfl ?_)))
 refine (fmt_any base A c l u _ (hI.ok _ (by simp)) hu hn hb).mono ?_
 rintro e w1 ⟨A', c', rfl, hT⟩
 refine ⟨_, rfl, ?_⟩
 replace hI := hI.turn1 hT
 refine Vv rfl (Vg rfl (Vg rfl (Vl rfl (WL_nil (W_seq (W_region (Ve rfl (Vl rfl (WL_nil ?_)))))))))
 refine W_ret ?_
 exact ret1 6 (.inr rfl) rfl ⟨A', c', rfl, hI⟩
section
variable {P : Program} {ρ : Env} {o : Oper} {w : World} {x y : Operand} {t t' : TypeId}
theorem rNegU {n : Int} (ho : o.op = .unOp .neg t x) (hx : ev ρ x = .int .u64 (IntKind.u64.wrap n)) (h0 : n < 0) (h1 : -9223372036854775808 ≤ n) : Runs P ρ o w (.int .u64 (n.natAbs : Int)) := by
 have h := rNegW (P := P) (w := w) ho hx
 have e : IntKind.u64.wrap (0 - IntKind.u64.wrap n) = (n.natAbs : Int) := by
  simp [IntKind.wrap, IntKind.signed, IntKind.bits]
  omega
 rwa [e] at h
end
theorem appI_any (base : Nat) (A : Option Addr) (c : Nat) (l : List Nat) (n : Int) (w0 : World) (hR : (BytE base A c l).ok w0) (hn : i64B n) (hl : l.length ≤ 999999) (hb : base ≤ w0.heap.size) :
  Calls Tryz.prog 142 #[.slice A l.length c, .int .i64 n, .int .i64 36] w0 fun en w' => ∃ A' c', en = .returned (.slice A' (l ++ itoa36 n).length c') ∧ Inv (BytE base A c l).D w0 w' [BytE base A' c' (l ++ itoa36 n)] := by
 have hI := Inv.ownE hR
 unfold i64B at hn
 refine Vm Tryz.f142.ntmps Tryz.func142 rfl ?_
 refine W_seq (W_region (Vl rfl (WL_nil ?_)))
 by_cases hneg : n < 0
 ·refine W_seq (W_region (V0 rfl ?_))
  refine WL_val rfl rfl rfl (rConvW rfl Tryz.underlying2 Tryz.underlying158 rfl) ?_
  refine Va rfl (WL_nil (W_seq (W_seq (W_region (V0 rfl (Vp rfl (WL_nil (W_cond true rfl (W_seq (W_region (Ve rfl (Vy [(0, .int .u8 _)] [_] [.int .u8 0] [0] hI rfl Tryz.underlying248 (fun _ => by kernel_rfl) ?_))))))))))))
  clear hI; rintro b13 w - - hI
  refine Tq 1 (.int .u8 0) hI rfl Tryz.underlying248 rfl (by rfl) hI.lit0 (by rfl) (by (have := hI.chg.size; omega)) ?_
  clear hI; rintro A14 c14 w hA14 hc14 hI
  replace hI := hI.d0
  refine Vl rfl (WL_nil ?_)
  replace hI : Inv (BytE base A c l).D w0 w [BytE base A14 c14 (l ++ [45])] := by
   have e : BytE base A14 c14 (l ++ [45]) = Row base 5 1 A14 (l.length + 1) c14 (bytC l ++ [.int .u8 45]) := by
    unfold BytE
    rw [bytC_app, List.length_append]
    rfl
   rw [e]; exact hI
  refine W_region (V0 rfl ?_)
  refine WL_val rfl rfl rfl (rNegU (n := n) rfl rfl hneg (by omega)) ?_
  refine Va rfl (WL_nil ?_)
  have e : l ++ itoa36 n = (l ++ [45]) ++ dig n.natAbs := by unfold itoa36; rw [if_pos hneg]; simp
  rw [e]
  refine W_seq (W_region (Ve rfl (V0 rfl (V0 rfl (V6 [.slice _ _ _, .int .u64 _, .int .i64 _] rfl Tryz.func152 rfl ?_)))))
  refine Calls.mono (by have h := appU_any base A14 c14 (l ++ [45]) n.natAbs _ (hI.ok _ (by simp)) (by omega) (by simp; omega) (by have := hI.chg.size; omega); rw [List.length_append] at h; exact h) ?_
  rintro e w1 ⟨A', c', rfl, hT⟩
  refine ⟨_, rfl, ?_⟩
  replace hI := hI.turn1 hT
  refine Vl rfl (WL_nil ?_)
  refine W_ret ?_
  exact ret1 6 (.inr rfl) rfl ⟨A', c', rfl, hI⟩
 ·obtain ⟨m, rfl⟩ : ∃ m : Nat, n = (m : Int) := ⟨n.toNat, by omega⟩
  refine W_seq (W_region (V0 rfl ?_))
  refine WL_val rfl rfl rfl (by exact rConv_u64s rfl Tryz.underlying2 Tryz.underlying158 rfl (by omega)) ?_
  refine Va rfl (WL_nil (W_seq (W_seq (W_region (V0 rfl (Vn rfl (WL_nil (W_cond false rfl (W_skip ?_)))))))))
  have e : l ++ itoa36 (m : Int) = l ++ dig m := by unfold itoa36; rw [if_neg hneg]; simp
  rw [e]
  refine W_seq (W_region (Ve rfl (V0 rfl (V0 rfl (V6 [.slice _ _ _, .int .u64 _, .int .i64 _] rfl Tryz.func152 rfl ?_)))))
  refine (appU_any base A c l m _ (hI.ok _ (by simp)) (by omega) (by omega) (by have := hI.chg.size; omega)).mono ?_
  rintro e w1 ⟨A', c', rfl, hT⟩
  refine ⟨_, rfl, ?_⟩
  replace hI := hI.turn1 hT
  refine Vl rfl (WL_nil ?_)
  refine W_ret ?_
  exact ret1 6 (.inr rfl) rfl ⟨A', c', rfl, hI⟩
theorem appP_any (base : Nat) (A : Option Addr) (c : Nat) (l : List Nat) (n : Int) (w0 : World) (hR : (BytE base A c l).ok w0) (hn : i64B n) (hl : l.length ≤ 999999) (hb : base ≤ w0.heap.size) :
  Calls Tryz.prog 128 #[.slice A l.length c, .int .i64 n, .int .i64 36] w0 fun en w' => ∃ A' c', en = .returned (.slice A' (l ++ itoa36 n).length c') ∧ Inv (BytE base A c l).D w0 w' [BytE base A' c' (l ++ itoa36 n)] := by
 have hI := Inv.ownE hR
 refine Vm Tryz.f128.ntmps Tryz.func128 rfl ?_
 refine W_seq (W_region (Vl rfl (WL_nil (W_seq (W_region (Ve rfl (V0 rfl (V0 rfl (V6 [.slice _ _ _, .int .i64 _, .int .i64 _] rfl Tryz.func142 rfl ?_)))))))))
 refine (appI_any base A c l n _ (hI.ok _ (by simp)) hn hl hb).mono ?_
 rintro e w1 ⟨A', c', rfl, hT⟩
 refine ⟨_, rfl, ?_⟩
 replace hI := hI.turn1 hT
 refine Vl rfl (WL_nil ?_)
 refine W_ret ?_
 exact ret1 6 (.inr rfl) rfl ⟨A', c', rfl, hI⟩
theorem digs_len : ∀ (f u : Nat) (acc : List Nat), (digs36 f u acc).length ≤ acc.length + f + 1
 | 0, u, acc => by simp [digs36]
 | f + 1, u, acc => by
  rw [digs36]
  split
  ·simp
  ·have := digs_len f (u / 36) (dig36 (u % 36) :: acc)
   simp at this ⊢
   omega
theorem itoa_len (n : Int) : (itoa36 n).length ≤ 15 := by
 have h : ∀ u, (dig u).length ≤ 14 := fun u => digs_len 13 u []
 have := h n.natAbs
 unfold itoa36
 split
 ·simp; omega
 ·omega
def befB (p q : Op8) : Bool := decide (0 ≤ p.ret) && decide (p.ret < q.call)
set_option maxHeartbeats 1000000 in
theorem before_one (p0 p1 p2 p3 p4 p5 p6 p7 q0 q1 q2 q3 q4 q5 q6 q7 : Int) (w0 : World) : Calls Tryz.prog 25 #[.agg #[.int .i64 p0, .int .i64 p1, .int .i64 p2, .int .i64 p3, .int .i64 p4, .int .i64 p5, .int .i64 p6, .int .i64 p7], .agg #[.int .i64 q0, .int .i64 q1, .int .i64 q2, .int .i64 q3, .int .i64 q4, .int .i64 q5, .int .i64 q6, .int .i64 q7]] w0 fun en w' => en = .returned (.bool (befB ⟨p0, p1, p2, p3, p4, p5, p6, p7⟩ ⟨q0, q1, q2, q3, q4, q5, q6, q7⟩)) ∧ Pure w0 w' := by
 have hI := Inv.start (fun _ => False) w0
 refine Vm Tryz.f25.ntmps Tryz.func25 rfl ?_
 refine W_seq (W_region (T7 (.agg _) (#[_, _, _, _, _, _, _, _]) hI rfl ?_))
 clear hI; rintro b2 w - - hI
 refine T7 (.agg _) (#[_, _, _, _, _, _, _, _]) hI rfl ?_
 clear hI; rintro b3 w - - hI
 refine V4 rfl (WL_nil ?_)
 obtain ⟨r, hr⟩ : ∃ r, befB ⟨p0, p1, p2, p3, p4, p5, p6, p7⟩ ⟨q0, q1, q2, q3, q4, q5, q6, q7⟩ = r := ⟨_, rfl⟩
 rw [hr]
 have hr' : (decide (0 ≤ p7) && decide (p7 < q6)) = r := hr
 by_cases h : 0 ≤ p7
 ·rw [decide_eq_true h, Bool.true_and] at hr'
  by_cases h2 : p7 < q6
  ·rw [decide_eq_true h2] at hr'; subst hr'
   refine W_seq (W_region (V5 7 rfl (V3 (.int .i64 _) rfl (hI.c1 rfl) (Tg rfl (V2 rfl (V5 7 rfl (V3 (.int .i64 _) rfl (hI.c1 rfl) (V5 6 rfl (V3 (.int .i64 _) rfl (hI.c0 rfl) (Vp rfl (Vd rfl (V4 rfl (WL_nil ?_)))))))))))))
   refine W_ret ?_
   exact ret1 4 (.inr rfl) rfl ⟨rfl, hI.pu⟩
  ·rw [decide_eq_false h2] at hr'; subst hr'
   refine W_seq (W_region (V5 7 rfl (V3 (.int .i64 _) rfl (hI.c1 rfl) (Tg rfl (V2 rfl (V5 7 rfl (V3 (.int .i64 _) rfl (hI.c1 rfl) (V5 6 rfl (V3 (.int .i64 _) rfl (hI.c0 rfl) (Vn rfl (Vd rfl (V4 rfl (WL_nil ?_)))))))))))))
   refine W_ret ?_
   exact ret1 4 (.inr rfl) rfl ⟨rfl, hI.pu⟩
 ·rw [decide_eq_false h, Bool.false_and] at hr'; subst hr'
  refine W_seq (W_region (V5 7 rfl (V3 (.int .i64 _) rfl (hI.c1 rfl) (To rfl (V2 rfl (V1 rfl (V1 rfl (V1 rfl (V1 rfl (V1 rfl (V8 rfl (V4 rfl (WL_nil ?_)))))))))))))
  refine W_ret ?_
  exact ret1 4 (.inr rfl) rfl ⟨rfl, hI.pu⟩
theorem before_any (p q : Op8) (w0 : World) : Calls Tryz.prog 25 #[.agg (opV p).toArray, .agg (opV q).toArray] w0 fun en w' => en = .returned (.bool (befB p q)) ∧ Pure w0 w' := by
 obtain ⟨p0, p1, p2, p3, p4, p5, p6, p7⟩ := p
 obtain ⟨q0, q1, q2, q3, q4, q5, q6, q7⟩ := q
 exact before_one p0 p1 p2 p3 p4 p5 p6 p7 q0 q1 q2 q3 q4 q5 q6 q7 w0
/-- Whether an op may stand behind others. -/
def ordOk (o : Op8) (ah : List Op8) : Prop := ¬ (o.call < 0) ∧ ¬ (0 < ah.length ∧ o.call ≤ (oAt ah (ah.length - 1)).call) ∧ ¬ (o.ret ≠ -1 ∧ o.ret ≤ o.call) ∧ ¬ (o.ret = -1 ∧ o.res ≠ 0)
def twiceAt (o : Op8) (n : Int) : Prop := n ≠ -1 ∧ (n = o.call ∨ n = o.ret)
def OkOp (o : Op8) (ah : List Op8) : Prop :=
 toldB o.proc o.key [o.a, o.b, o.res, o.call, o.ret] = true ∧ inB o.kind 1 12 = true ∧ ordOk o ah ∧
  (∀ k, k < ah.length → ¬ twiceAt o (oAt ah k).call ∧ ¬ twiceAt o (oAt ah k).ret) ∧ (∀ k, k < ah.length → (oAt ah k).proc = o.proc → befB (oAt ah k) o = true)
/-- An error that isn't api.ErrNone. -/
def IsErr8 (v : Value) : Prop := ∃ u : Int, v = .iface 49 (.int .i64 u) ∧ u ≠ 8
theorem IsErr8.any {v : Value} (h : IsErr8 v) : IsErr v := by obtain ⟨u, h1, _⟩ := h; exact ⟨u, h1⟩
def OpPost (o : Op8) (ah : List Op8) (w0 : World) (en : Ending) (w' : World) : Prop := Pure w0 w' ∧ ((OkOp o ah ∧ en = .returned .nilIface) ∨ (¬ OkOp o ah ∧ ∃ x, IsErr8 x ∧ en = .returned x))
theorem OpPost.bad {o : Op8} {ah : List Op8} {w0 w' : World} {z : Int} (h : ¬ OkOp o ah) (hp : Pure w0 w') (hz : z ≠ 8 := by decide) : OpPost o ah w0 (.returned (.iface 49 (.int .i64 z))) w' := ⟨hp, .inr ⟨h, _, ⟨z, rfl, hz⟩, rfl⟩⟩
set_option maxHeartbeats 4000000 in
theorem checkOp_one (o0 o1 o2 o3 o4 o5 o6 o7 : Int) (A : Option Addr) (n c : Nat) (ah : List Op8) (D : Nat → Prop) (w0 : World) (h : OpsR w0 D (.slice A n c) ah) (hn40 : n ≤ 1000) :
  Calls Tryz.prog 77 #[.agg #[.int .i64 o0, .int .i64 o1, .int .i64 o2, .int .i64 o3, .int .i64 o4, .int .i64 o5, .int .i64 o6, .int .i64 o7], .slice A n c] w0 (OpPost ⟨o0, o1, o2, o3, o4, o5, o6, o7⟩ ah w0) := by
 obtain ⟨hn, hc1, hc2⟩ := h.len
 subst hn
 have hI := Inv.start (fun _ => False) w0
 refine Vm Tryz.f77.ntmps Tryz.func77 rfl ?_
 refine W_seq (W_region (T7 (.agg _) (#[_, _, _, _, _, _, _, _]) hI rfl ?_))
 clear hI; rintro b2 w - - hI
 refine Vf rfl (WL_nil (W_seq (W_region (V5 7 rfl (V3 (.int .i64 _) rfl (hI.c0 rfl) ?_)))))
 refine WL_val rfl rfl rfl (rEql rfl rfl rfl) ?_
 refine V4 rfl (WL_nil (W_seq (W_block ?_)))
 cases ht : toldB o0 o1 [o3, o4, o5, o6, o7] with
 | false =>
  refine W_seq (W_region (V5 0 rfl (V3 (.int .i64 _) rfl (hI.c0 rfl) (V5 1 rfl (V3 (.int .i64 _) rfl (hI.c0 rfl) (V5 3 rfl (V3 (.int .i64 _) rfl (hI.c0 rfl) (V5 4 rfl (V3 (.int .i64 _) rfl (hI.c0 rfl) (V5 5 rfl (V3 (.int .i64 _) rfl (hI.c0 rfl) (V5 6 rfl (V3 (.int .i64 _) rfl (hI.c0 rfl) ?_)))))))))))))
  refine V5 7 rfl (V3 (.int .i64 _) rfl (hI.c0 rfl) (Vy [(0, .int .i64 _), (1, .int .i64 _), (2, .int .i64 _), (3, .int .i64 _), (4, .int .i64 _)] [_, _, _, _, _] [.int .i64 0, .int .i64 0, .int .i64 0, .int .i64 0, .int .i64 0] [0, 1, 2, 3, 4] hI rfl Tryz.underlying26 (fun _ => by kernel_rfl) ?_))
  clear hI; rintro b30 w - - hI
  refine V6 [.int .i64 _, .int .i64 _, .slice _ _ _] rfl Tryz.func45 rfl ?_
  refine (told_any o0 o1 _ 5 5 [o3, o4, o5, o6, o7] _ _ (ints_lit hI.g0 rfl rfl (by omega)) rfl (by omega)).mono ?_
  rw [ht]
  rintro e w1 ⟨rfl, rfl⟩
  refine ⟨_, rfl, ?_⟩
  refine Ta rfl (V4 rfl (WL_nil (W_cond true rfl (W_seq (W_region (Vx rfl Tryz.underlying49 rfl (Vk rfl (WL_nil ?_))))))))
  refine W_ret ?_
  exact ret1 4 (.inr rfl) rfl (OpPost.bad (fun hh => by have := hh.1; rw [show toldB _ _ _ = false from ht] at this; cases this) hI.pu)
 | true =>
 refine W_seq (W_region (V5 0 rfl (V3 (.int .i64 _) rfl (hI.c0 rfl) (V5 1 rfl (V3 (.int .i64 _) rfl (hI.c0 rfl) (V5 3 rfl (V3 (.int .i64 _) rfl (hI.c0 rfl) (V5 4 rfl (V3 (.int .i64 _) rfl (hI.c0 rfl) (V5 5 rfl (V3 (.int .i64 _) rfl (hI.c0 rfl) (V5 6 rfl (V3 (.int .i64 _) rfl (hI.c0 rfl) ?_)))))))))))))
 refine V5 7 rfl (V3 (.int .i64 _) rfl (hI.c0 rfl) (Vy [(0, .int .i64 _), (1, .int .i64 _), (2, .int .i64 _), (3, .int .i64 _), (4, .int .i64 _)] [_, _, _, _, _] [.int .i64 0, .int .i64 0, .int .i64 0, .int .i64 0, .int .i64 0] [0, 1, 2, 3, 4] hI rfl Tryz.underlying26 (fun _ => by kernel_rfl) ?_))
 clear hI; rintro b30 w - - hI
 refine V6 [.int .i64 _, .int .i64 _, .slice _ _ _] rfl Tryz.func45 rfl ?_
 refine (told_any o0 o1 _ 5 5 [o3, o4, o5, o6, o7] _ _ (ints_lit hI.g0 rfl rfl (by omega)) rfl (by omega)).mono ?_
 rw [ht]
 rintro e w1 ⟨rfl, rfl⟩
 refine ⟨_, rfl, ?_⟩
 refine T4 rfl (V4 rfl (WL_nil (W_cond false rfl ?_)))
 replace hI := hI.d0
 cases hkd : inB o2 1 12 with
 | false =>
  refine W_seq (W_region (V5 2 rfl (V3 (.int .i64 _) rfl (hI.c0 rfl) (V6 [.int .i64 _, .int .i64 _, .int .i64 _] rfl Tryz.func46 rfl ?_))))
  refine (ein_any o2 1 12 _).mono ?_
  rw [hkd]
  rintro e w1 ⟨rfl, rfl⟩
  refine ⟨_, rfl, ?_⟩
  refine Ta rfl (V4 rfl (WL_nil (W_cond true rfl (W_seq (W_region (Vx rfl Tryz.underlying49 rfl (Vk rfl (WL_nil ?_))))))))
  refine W_ret ?_
  exact ret1 4 (.inr rfl) rfl (OpPost.bad (fun hh => by have := hh.2.1; rw [show inB _ _ _ = false from hkd] at this; cases this) hI.pu)
 | true =>
 refine W_seq (W_region (V5 2 rfl (V3 (.int .i64 _) rfl (hI.c0 rfl) (V6 [.int .i64 _, .int .i64 _, .int .i64 _] rfl Tryz.func46 rfl ?_))))
 refine (ein_any o2 1 12 _).mono ?_
 rw [hkd]
 rintro e w1 ⟨rfl, rfl⟩
 refine ⟨_, rfl, ?_⟩
 refine T4 rfl (V4 rfl (WL_nil (W_cond false rfl ?_)))
 refine W_seq_cut (fun ρ w => ∃ bb : Bool, (bb = true ↔ ¬ ordOk ⟨o0, o1, o2, o3, o4, o5, o6, o7⟩ ah) ∧ Has ρ [(40, .bool bb), (1, .slice A ah.length c), (2, .pointer (some ⟨b2, 0, none⟩))] ∧ Inv (fun _ => False) w0 w [B b2 77 #[.int .i64 o0, .int .i64 o1, .int .i64 o2, .int .i64 o3, .int .i64 o4, .int .i64 o5, .int .i64 o6, .int .i64 o7]]) ?_ ?_
 ·by_cases c1 : o6 < 0
  ·refine W_seq (W_region (V5 6 rfl (V3 (.int .i64 _) rfl (hI.c0 rfl) (Vp rfl (V4 rfl (WL_nil (W_cond true rfl (W_skip ?_))))))))
   exact ⟨true, by simp; exact fun hh => hh.1 c1, ⟨rfl, rfl, rfl, trivial⟩, hI⟩
  refine W_seq (W_region (V5 6 rfl (V3 (.int .i64 _) rfl (hI.c0 rfl) (Vn rfl (V4 rfl (WL_nil (W_cond false rfl ?_)))))))
  obtain ⟨lb, hlb⟩ : ∃ lb : Bool, (lb = true ↔ (0 < ah.length ∧ o6 ≤ (oAt ah (ah.length - 1)).call)) := ⟨decide (0 < ah.length ∧ o6 ≤ (oAt ah (ah.length - 1)).call), by simp⟩
  refine W_seq_cut (fun ρ w => Has ρ [(40, .bool lb), (1, .slice A ah.length c), (2, .pointer (some ⟨b2, 0, none⟩)), (5, .bool (decide (o7 = -1)))] ∧ Inv (fun _ => False) w0 w [B b2 77 #[.int .i64 o0, .int .i64 o1, .int .i64 o2, .int .i64 o3, .int .i64 o4, .int .i64 o5, .int .i64 o6, .int .i64 o7]]) ?_ ?_
  ·rcases Nat.eq_zero_or_pos ah.length with h0 | h0
   ·have : lb = false := by
     cases lb
     ·rfl
     ·have := hlb.1 rfl; omega
    subst this
    refine W_draw (by kernel_rfl) ?_
    refine WA_inv (T := []) hI.drew ?_
    intro Sx hSx hXS
    replace hI := hI.drew
    refine T9 0 (hXS _ hI) rfl (Uh 1 (hXS _ hI) rfl Tryz.underlying40 rfl ?_)
    refine WT_take 2 rfl rfl (by kernel_rfl) (hXS _ hI) rfl (fun W hW => have hI := hSx W hW; (by exact rGtrF rfl rfl rfl (by omega))) ?_
    refine T5 3 (hXS _ hI) rfl (Vj 4 rfl (hXS _ hI) rfl (Vj 5 rfl (hXS _ hI) rfl (Vj 6 rfl (hXS _ hI) rfl (Vj 7 rfl (hXS _ hI) rfl (Vj 8 rfl (hXS _ hI) rfl (Vj 9 rfl (hXS _ hI) rfl (Vj 10 rfl (hXS _ hI) rfl (Vj 11 rfl (hXS _ hI) rfl (Vj 12 rfl (hXS _ hI) rfl (Vj 13 rfl (hXS _ hI) rfl (Tm 14 (hXS _ hI) rfl (U3 15 (hXS _ hI) rfl (WT_end (by kernel_rfl) ?_)))))))))))))
    exact ⟨⟨rfl, rfl, rfl, rfl, trivial⟩, hI⟩
   ·obtain ⟨ab, ao, rfl, hoc⟩ := h.at (show ah.length - 1 < ah.length by omega)
    have hcl := hoc 6 _ rfl
    by_cases hle : o6 ≤ (oAt ah (ah.length - 1)).call
    ·have : lb = true := hlb.2 ⟨h0, hle⟩
     subst this
     refine W_draw (by kernel_rfl) ?_
     refine WA_inv (T := []) hI.drew ?_
     intro Sx hSx hXS
     replace hI := hI.drew
     refine T9 0 (hXS _ hI) rfl (Uh 1 (hXS _ hI) rfl Tryz.underlying40 rfl ?_)
     refine WT_take 2 rfl rfl (by kernel_rfl) (hXS _ hI) rfl (fun W hW => have hI := hSx W hW; (by exact rGtrT rfl rfl rfl (by omega))) ?_
     refine T5 3 (hXS _ hI) rfl (Vc 4 6 (hXS _ hI) rfl (V9 5 (.int .i64 _) (hXS _ hI) rfl (fun W hW => (hSx W hW).c0 rfl) (T9 6 (hXS _ hI) rfl (T9 7 (hXS _ hI) rfl (Uh 8 (hXS _ hI) rfl Tryz.underlying40 rfl ?_)))))
     refine WT_take 9 rfl rfl (by kernel_rfl) (hXS _ hI) rfl (fun W hW => have hI := hSx W hW; (rDecN (a := ah.length) (b := 1) rfl rfl rfl (by omega) (by omega))) ?_
     refine WT_take 10 rfl rfl (by kernel_rfl) (hXS _ hI) rfl (fun W hW => have hI := hSx W hW; (rIdx (sz := 8) (i := ah.length - 1) rfl Tryz.underlying40 (by kernel_rfl) rfl rfl (by omega))) ?_
     refine T8 11 6 (hXS _ hI) rfl (V9 12 (.int .i64 _) (hXS _ hI) rfl (fun W hW => (hSx W hW).oldp hcl) ?_)
     refine WT_take 13 rfl rfl (by kernel_rfl) (hXS _ hI) rfl (fun W hW => have hI := hSx W hW; (by exact rLeqT rfl rfl rfl (by omega))) ?_
     refine Tu 14 (hXS _ hI) rfl (U3 15 (hXS _ hI) rfl (WT_end (by kernel_rfl) ?_))
     exact ⟨⟨rfl, rfl, rfl, rfl, trivial⟩, hI⟩
    ·have : lb = false := by
      cases lb
      ·rfl
      ·exact absurd (hlb.1 rfl).2 hle
     subst this
     refine W_draw (by kernel_rfl) ?_
     refine WA_inv (T := []) hI.drew ?_
     intro Sx hSx hXS
     replace hI := hI.drew
     refine T9 0 (hXS _ hI) rfl (Uh 1 (hXS _ hI) rfl Tryz.underlying40 rfl ?_)
     refine WT_take 2 rfl rfl (by kernel_rfl) (hXS _ hI) rfl (fun W hW => have hI := hSx W hW; (by exact rGtrT rfl rfl rfl (by omega))) ?_
     refine T5 3 (hXS _ hI) rfl (Vc 4 6 (hXS _ hI) rfl (V9 5 (.int .i64 _) (hXS _ hI) rfl (fun W hW => (hSx W hW).c0 rfl) (T9 6 (hXS _ hI) rfl (T9 7 (hXS _ hI) rfl (Uh 8 (hXS _ hI) rfl Tryz.underlying40 rfl ?_)))))
     refine WT_take 9 rfl rfl (by kernel_rfl) (hXS _ hI) rfl (fun W hW => have hI := hSx W hW; (rDecN (a := ah.length) (b := 1) rfl rfl rfl (by omega) (by omega))) ?_
     refine WT_take 10 rfl rfl (by kernel_rfl) (hXS _ hI) rfl (fun W hW => have hI := hSx W hW; (rIdx (sz := 8) (i := ah.length - 1) rfl Tryz.underlying40 (by kernel_rfl) rfl rfl (by omega))) ?_
     refine T8 11 6 (hXS _ hI) rfl (V9 12 (.int .i64 _) (hXS _ hI) rfl (fun W hW => (hSx W hW).oldp hcl) ?_)
     refine WT_take 13 rfl rfl (by kernel_rfl) (hXS _ hI) rfl (fun W hW => have hI := hSx W hW; (by exact rLeqF rfl rfl rfl (by omega))) ?_
     refine Tu 14 (hXS _ hI) rfl (U3 15 (hXS _ hI) rfl (WT_end (by kernel_rfl) ?_))
     exact ⟨⟨rfl, rfl, rfl, rfl, trivial⟩, hI⟩
  clear hI
  rintro ρ w ⟨hH, hI⟩
  obtain ⟨σ, rfl⟩ := hH.open
  cases lb with
  | true =>
   refine W_cond true rfl (W_skip ?_)
   exact ⟨true, by simp; exact fun hh => hh.2.1 (hlb.1 rfl), ⟨rfl, rfl, rfl, trivial⟩, hI⟩
  | false =>
  have hnl : ¬ (0 < ah.length ∧ o6 ≤ (oAt ah (ah.length - 1)).call) := fun hh => by have := hlb.2 hh; cases this
  refine W_cond false rfl ?_
  by_cases hu : o7 = -1
  ·rw [decide_eq_true hu]
   refine W_seq (W_region (V2 rfl (T4 rfl (V2 rfl (V1 rfl (V1 rfl (V1 rfl (V1 rfl (V1 rfl (V8 rfl (V4 rfl (WL_nil (W_cond false rfl ?_)))))))))))))
   by_cases hres : o5 = 0
   ·refine W_region (V2 rfl (V2 rfl (V5 5 rfl (V3 (.int .i64 _) rfl (hI.c0 rfl) (U5 rfl (Vd rfl (V4 rfl (WL_nil ?_))))))))
    exact ⟨false, by simp; exact ⟨by exact c1, hnl, fun hh => hh.1 hu, fun hh => hh.2 hres⟩, ⟨rfl, rfl, rfl, trivial⟩, hI⟩
   ·refine W_region (V2 rfl (V2 rfl (V5 5 rfl (V3 (.int .i64 _) rfl (hI.c0 rfl) (Tx rfl (Vd rfl (V4 rfl (WL_nil ?_))))))))
    exact ⟨true, by simp; exact fun hh => hh.2.2.2 ⟨hu, hres⟩, ⟨rfl, rfl, rfl, trivial⟩, hI⟩
  ·rw [decide_eq_false hu]
   by_cases hrc : o7 ≤ o6
   ·refine W_seq (W_region (V2 rfl (Ta rfl (V2 rfl (V5 7 rfl (V3 (.int .i64 _) rfl (hI.c0 rfl) (V5 6 rfl (V3 (.int .i64 _) rfl (hI.c0 rfl) ?_))))))))
    refine WL_val rfl rfl rfl (by exact rLeqT rfl rfl rfl (by omega)) ?_
    refine Vd rfl (V4 rfl (WL_nil (W_cond true rfl (W_skip ?_))))
    exact ⟨true, by simp; exact fun hh => hh.2.2.1 ⟨hu, hrc⟩, ⟨rfl, rfl, rfl, trivial⟩, hI⟩
   ·refine W_seq (W_region (V2 rfl (Ta rfl (V2 rfl (V5 7 rfl (V3 (.int .i64 _) rfl (hI.c0 rfl) (V5 6 rfl (V3 (.int .i64 _) rfl (hI.c0 rfl) ?_))))))))
    refine WL_val rfl rfl rfl (by exact rLeqF rfl rfl rfl (by omega)) ?_
    refine Vd rfl (V4 rfl (WL_nil (W_cond false rfl (W_region (V2 rfl (V2 rfl (V1 rfl (V1 rfl (V1 rfl (V8 rfl (V4 rfl (WL_nil ?_))))))))))))
    exact ⟨false, by simp; exact ⟨by exact c1, hnl, fun hh => hrc hh.2, fun hh => hu hh.1⟩, ⟨rfl, rfl, rfl, trivial⟩, hI⟩
 clear hI
 rintro ρ w ⟨bb, hbb, hH, hI⟩
 obtain ⟨σ, rfl⟩ := hH.open
 cases bb with
 | true =>
  refine W_cond true rfl (W_seq (W_region (Vx rfl Tryz.underlying49 rfl (Vk rfl (WL_nil ?_)))))
  refine W_ret ?_
  exact ret1 4 (.inr rfl) rfl (OpPost.bad (fun hh => hbb.1 rfl hh.2.2.1) hI.pu)
 | false =>
 have hord : ordOk ⟨o0, o1, o2, o3, o4, o5, o6, o7⟩ ah := by
  rcases Classical.em (ordOk ⟨o0, o1, o2, o3, o4, o5, o6, o7⟩ ah) with h1 | h1
  ·exact h1
  ·have := hbb.2 h1; cases this
 refine W_cond false rfl (W_skip ?_)
 refine W_seq_cut (fun ρ w => (∀ k, k < ah.length → ¬ twiceAt ⟨o0, o1, o2, o3, o4, o5, o6, o7⟩ (oAt ah k).call ∧ ¬ twiceAt ⟨o0, o1, o2, o3, o4, o5, o6, o7⟩ (oAt ah k).ret) ∧ Has ρ [(1, .slice A ah.length c), (2, .pointer (some ⟨b2, 0, none⟩))] ∧ Inv (fun _ => False) w0 w [B b2 77 #[.int .i64 o0, .int .i64 o1, .int .i64 o2, .int .i64 o3, .int .i64 o4, .int .i64 o5, .int .i64 o6, .int .i64 o7]]) ?_ ?_
 ·refine W_seq (W_region (Ve rfl (Vs rfl Tryz.underlying40 rfl (V0 rfl (WL_nil (W_block ?_))))))
  refine W_loopN (fun mu ρ w => ∃ k : Nat, mu = ah.length - k ∧ k ≤ ah.length ∧ (∀ j, j < k → ¬ twiceAt ⟨o0, o1, o2, o3, o4, o5, o6, o7⟩ (oAt ah j).call ∧ ¬ twiceAt ⟨o0, o1, o2, o3, o4, o5, o6, o7⟩ (oAt ah j).ret) ∧ Has ρ [(77, .int .i64 (k : Int)), (76, .int .i64 (ah.length : Int)), (75, .slice A ah.length c), (1, .slice A ah.length c), (2, .pointer (some ⟨b2, 0, none⟩))] ∧ Inv (fun _ => False) w0 w [B b2 77 #[.int .i64 o0, .int .i64 o1, .int .i64 o2, .int .i64 o3, .int .i64 o4, .int .i64 o5, .int .i64 o6, .int .i64 o7]]) ah.length
   ⟨0, rfl, by omega, fun j hj => by omega, ⟨rfl, rfl, rfl, rfl, rfl, trivial⟩, hI⟩ ?_
  clear hI
  rintro mu ρ w ⟨k, rfl, hk, hall, hH, hI⟩
  obtain ⟨σ, rfl⟩ := hH.open
  by_cases hkl : k < ah.length
  rotate_left
  ·obtain rfl : k = ah.length := by omega
   refine W_seq (W_region (Vn rfl (WL_nil (W_seq (W_cond false rfl ?_)))))
   refine W_exit ?_
   exact ⟨hall, ⟨rfl, rfl, trivial⟩, hI⟩
  obtain ⟨ab, ao, rfl, hoc⟩ := h.at hkl
  generalize hpk : oAt ah k = pk at hoc
  obtain ⟨p0, p1, p2, p3, p4, p5, p6, p7⟩ := pk
  refine W_seq (W_region (Vp rfl (WL_nil (W_seq (W_cond true rfl (W_skip ?_))))))
  refine W_seq_cut (fun ρ w => (¬ twiceAt ⟨o0, o1, o2, o3, o4, o5, o6, o7⟩ p6 ∧ ¬ twiceAt ⟨o0, o1, o2, o3, o4, o5, o6, o7⟩ p7) ∧ Has ρ [(77, .int .i64 (k : Int)), (76, .int .i64 (ah.length : Int)), (75, .slice (some ⟨ab, ao, none⟩) ah.length c), (1, .slice (some ⟨ab, ao, none⟩) ah.length c), (2, .pointer (some ⟨b2, 0, none⟩))] ∧ Inv (fun _ => False) w0 w [B b2 77 #[.int .i64 o0, .int .i64 o1, .int .i64 o2, .int .i64 o3, .int .i64 o4, .int .i64 o5, .int .i64 o6, .int .i64 o7]]) ?_ ?_
  rotate_left
  ·clear hI
   rintro ρ w ⟨hno, hH, hI⟩
   obtain ⟨σ, rfl⟩ := hH.open
   refine W_region (Vu rfl (V0 rfl (WL_nil ?_)))
   refine ⟨ah.length - (k + 1), by omega, k + 1, rfl, by omega, fun j hj => ?_, ⟨rfl, rfl, rfl, rfl, rfl, trivial⟩, hI⟩
   rcases Nat.lt_or_ge j k with h1 | h1
   ·exact hall j h1
   ·obtain rfl : j = k := by omega
    rw [hpk]; exact hno
  refine W_block (W_seq (W_region (Ti 8 rfl Tryz.underlying40 rfl (Ue 8 rfl (by rfl) (fun k u hk => hI.oldp (hoc k u hk)) (T0 (.agg #[.int .i64 0, .int .i64 0, .int .i64 0, .int .i64 0, .int .i64 0, .int .i64 0, .int .i64 0, .int .i64 0]) (#[.int .i64 0, .int .i64 0, .int .i64 0, .int .i64 0, .int .i64 0, .int .i64 0, .int .i64 0, .int .i64 0]) hI rfl ?_)))))
  clear hI; rintro b7 w - - hI
  refine T1 8 (#[_, _, _, _, _, _, _, _]) (.agg _) hI rfl ?_
  clear hI; intro w hI
  refine WL_nil ?_
  simp only [opV] at hI
  refine W_seq (W_region (V5 6 rfl (V3 (.int .i64 _) rfl (hI.c0 rfl) (V5 7 rfl (V3 (.int .i64 _) rfl (hI.c0 rfl) (Vy [(0, .int .i64 _), (1, .int .i64 _)] [_, _] [.int .i64 0, .int .i64 0] [0, 1] hI rfl Tryz.underlying26 (fun _ => by kernel_rfl) ?_))))))
  clear hI; rintro b85 w - - hI
  refine Vs rfl Tryz.underlying26 rfl (V0 rfl (WL_nil (W_block ?_)))
  refine W_loopN (fun mu ρ w => ∃ m : Nat, mu = 2 - m ∧ m ≤ 2 ∧ (0 < m → ¬ twiceAt ⟨o0, o1, o2, o3, o4, o5, o6, o7⟩ p6) ∧ (1 < m → ¬ twiceAt ⟨o0, o1, o2, o3, o4, o5, o6, o7⟩ p7) ∧ Has ρ [(87, .int .i64 (m : Int)), (86, .int .i64 2), (85, .slice (some ⟨b85, 0, none⟩) 2 2), (77, .int .i64 (k : Int)), (76, .int .i64 (ah.length : Int)), (75, .slice (some ⟨ab, ao, none⟩) ah.length c), (1, .slice (some ⟨ab, ao, none⟩) ah.length c), (2, .pointer (some ⟨b2, 0, none⟩))] ∧ Inv (fun _ => False) w0 w [B b85 3 #[.int .i64 p6, .int .i64 p7], B b2 77 #[.int .i64 o0, .int .i64 o1, .int .i64 o2, .int .i64 o3, .int .i64 o4, .int .i64 o5, .int .i64 o6, .int .i64 o7]]) 2
   ⟨0, rfl, by omega, fun h => by omega, fun h => by omega, ⟨rfl, rfl, rfl, rfl, rfl, rfl, rfl, rfl, trivial⟩, hI.d1⟩ ?_
  clear hI
  rintro mu ρ w ⟨m, rfl, hm, hm0, hm1, hH, hI⟩
  obtain ⟨σ, rfl⟩ := hH.open
  by_cases hm2 : m < 2
  rotate_left
  ·obtain rfl : m = 2 := by omega
   refine W_seq (W_region (Vn rfl (WL_nil (W_seq (W_cond false rfl ?_)))))
   refine W_exit ?_
   exact ⟨⟨hm0 (by omega), hm1 (by omega)⟩, ⟨rfl, rfl, rfl, rfl, rfl, trivial⟩, hI.d0⟩
  obtain ⟨z, hz, hzt⟩ : ∃ z : Int, (#[.int .i64 p6, .int .i64 p7] : Array Value)[m]? = some (.int .i64 z) ∧ (z = p6 ∧ m = 0 ∨ z = p7 ∧ m = 1) := by
   match m, hm2 with
   | 0, _ => exact ⟨p6, rfl, .inl ⟨rfl, rfl⟩⟩
   | 1, _ => exact ⟨p7, rfl, .inr ⟨rfl, rfl⟩⟩
  refine W_seq (W_region (Vp rfl (WL_nil (W_seq (W_cond true rfl (W_skip (W_seq (W_block (W_seq (W_region (Tj rfl Tryz.underlying26 rfl (V3 (.int .i64 _) rfl (hI.c0 hz) (Va rfl ?_)))))))))))))
  refine WL_nil ?_
  have hbadz : twiceAt ⟨o0, o1, o2, o3, o4, o5, o6, o7⟩ z → ¬ OkOp ⟨o0, o1, o2, o3, o4, o5, o6, o7⟩ ah := fun ht hh => by
   have := hh.2.2.2.1 k hkl
   rw [hpk] at this
   rcases hzt with ⟨rfl, _⟩ | ⟨rfl, _⟩
   ·exact this.1 ht
   ·exact this.2 ht
  have hgo : ¬ twiceAt ⟨o0, o1, o2, o3, o4, o5, o6, o7⟩ z → (0 < m + 1 → ¬ twiceAt ⟨o0, o1, o2, o3, o4, o5, o6, o7⟩ p6) ∧ (1 < m + 1 → ¬ twiceAt ⟨o0, o1, o2, o3, o4, o5, o6, o7⟩ p7) := fun hnt => by
   rcases hzt with ⟨rfl, rfl⟩ | ⟨rfl, rfl⟩
   ·exact ⟨fun _ => hnt, fun h => by omega⟩
   ·exact ⟨fun _ => hm0 (by omega), fun _ => hnt⟩
  by_cases z1 : z = -1
  ·have hnt : ¬ twiceAt ⟨o0, o1, o2, o3, o4, o5, o6, o7⟩ z := fun ht => ht.1 z1
   refine W_seq (W_region (V0 rfl (U5 rfl (V2 rfl (V1 rfl (V1 rfl (V1 rfl (V1 rfl (V1 rfl (V1 rfl (V1 rfl (V1 rfl (V1 rfl ?_)))))))))))))
   refine V1 rfl (V8 rfl (WL_nil (W_cond false rfl (W_skip (W_region (Vu rfl (V0 rfl (WL_nil ?_))))))))
   exact ⟨2 - (m + 1), by omega, m + 1, rfl, by omega, (hgo hnt).1, (hgo hnt).2, ⟨rfl, rfl, rfl, rfl, rfl, rfl, rfl, rfl, trivial⟩, hI⟩
  by_cases z2 : z = o6
  ·refine W_seq (W_region (V0 rfl (Tx rfl (V2 rfl (V0 rfl (V5 6 rfl (V3 (.int .i64 _) rfl (hI.c1 rfl) (Vz rfl (V2 rfl (V1 rfl (V1 rfl (V1 rfl (V1 rfl ?_)))))))))))))
   refine Vd rfl (Vd rfl (WL_nil (W_cond true rfl (W_seq (W_region (Vx rfl Tryz.underlying49 rfl (Vk rfl (WL_nil ?_))))))))
   refine W_ret ?_
   exact ret1 4 (.inr rfl) rfl (OpPost.bad (hbadz ⟨z1, .inl z2⟩) hI.pu)
  by_cases z3 : z = o7
  ·refine W_seq (W_region (V0 rfl (Tx rfl (V2 rfl (V0 rfl (V5 6 rfl (V3 (.int .i64 _) rfl (hI.c1 rfl) (Vr rfl (V2 rfl (V0 rfl (V5 7 rfl (V3 (.int .i64 _) rfl (hI.c1 rfl) (Vz rfl ?_)))))))))))))
   refine V8 rfl (Vd rfl (WL_nil (W_cond true rfl (W_seq (W_region (Vx rfl Tryz.underlying49 rfl (Vk rfl (WL_nil ?_))))))))
   refine W_ret ?_
   exact ret1 4 (.inr rfl) rfl (OpPost.bad (hbadz ⟨z1, .inr z3⟩) hI.pu)
  have hnt : ¬ twiceAt ⟨o0, o1, o2, o3, o4, o5, o6, o7⟩ z := fun ht => by rcases ht.2 with h1 | h1; exact z2 h1; exact z3 h1
  refine W_seq (W_region (V0 rfl (Tx rfl (V2 rfl (V0 rfl (V5 6 rfl (V3 (.int .i64 _) rfl (hI.c1 rfl) (Vr rfl (V2 rfl (V0 rfl (V5 7 rfl (V3 (.int .i64 _) rfl (hI.c1 rfl) (Vr rfl ?_)))))))))))))
  refine V8 rfl (Vd rfl (WL_nil (W_cond false rfl (W_skip (W_region (Vu rfl (V0 rfl (WL_nil ?_))))))))
  exact ⟨2 - (m + 1), by omega, m + 1, rfl, by omega, (hgo hnt).1, (hgo hnt).2, ⟨rfl, rfl, rfl, rfl, rfl, rfl, rfl, rfl, trivial⟩, hI⟩
 clear hI
 rintro ρ w ⟨hall1, hH, hI⟩
 obtain ⟨σ, rfl⟩ := hH.open
 refine W_seq (W_seq (W_region (Ve rfl (Vs rfl Tryz.underlying40 rfl (V0 rfl (WL_nil (W_block ?_)))))))
 refine W_loopN (fun mu ρ w => ∃ k : Nat, mu = ah.length - k ∧ k ≤ ah.length ∧ (∀ j, j < k → (oAt ah j).proc = o0 → befB (oAt ah j) ⟨o0, o1, o2, o3, o4, o5, o6, o7⟩ = true) ∧ Has ρ [(110, .int .i64 (k : Int)), (109, .int .i64 (ah.length : Int)), (108, .slice A ah.length c), (2, .pointer (some ⟨b2, 0, none⟩))] ∧ Inv (fun _ => False) w0 w [B b2 77 #[.int .i64 o0, .int .i64 o1, .int .i64 o2, .int .i64 o3, .int .i64 o4, .int .i64 o5, .int .i64 o6, .int .i64 o7]]) ah.length
  ⟨0, rfl, by omega, fun j hj => by omega, ⟨rfl, rfl, rfl, rfl, trivial⟩, hI⟩ ?_
 clear hI
 rintro mu ρ w ⟨k, rfl, hk, hall, hH, hI⟩
 obtain ⟨σ, rfl⟩ := hH.open
 by_cases hkl : k < ah.length
 rotate_left
 ·obtain rfl : k = ah.length := by omega
  refine W_seq (W_region (Vn rfl (WL_nil (W_seq (W_cond false rfl ?_)))))
  refine W_exit ?_
  refine W_seq (W_region (Vf rfl (WL_nil ?_)))
  refine W_ret ?_
  exact ret1 4 (.inr rfl) rfl ⟨hI.pu, .inl ⟨⟨ht, hkd, hord, hall1, hall⟩, rfl⟩⟩
 obtain ⟨ab, ao, rfl, hoc⟩ := h.at hkl
 generalize hpk : oAt ah k = pk at hoc
 obtain ⟨p0, p1, p2, p3, p4, p5, p6, p7⟩ := pk
 refine W_seq (W_region (Vp rfl (WL_nil (W_seq (W_cond true rfl (W_skip (W_seq (W_block (W_seq (W_region (Ti 8 rfl Tryz.underlying40 rfl (Ue 8 rfl (by rfl) (fun k u hk => hI.oldp (hoc k u hk)) (T0 (.agg #[.int .i64 0, .int .i64 0, .int .i64 0, .int .i64 0, .int .i64 0, .int .i64 0, .int .i64 0, .int .i64 0]) (#[.int .i64 0, .int .i64 0, .int .i64 0, .int .i64 0, .int .i64 0, .int .i64 0, .int .i64 0, .int .i64 0]) hI rfl ?_)))))))))))))
 clear hI; rintro b11 w - - hI
 refine T1 8 (#[_, _, _, _, _, _, _, _]) (.agg _) hI rfl ?_
 clear hI; intro w hI
 refine WL_nil ?_
 simp only [opV] at hI
 have hnext : (p0 = o0 → befB ⟨p0, p1, p2, p3, p4, p5, p6, p7⟩ ⟨o0, o1, o2, o3, o4, o5, o6, o7⟩ = true) → ∀ j, j < k + 1 → (oAt ah j).proc = o0 → befB (oAt ah j) ⟨o0, o1, o2, o3, o4, o5, o6, o7⟩ = true := fun hb j hj => by
  rcases Nat.lt_or_ge j k with h1 | h1
  ·exact hall j h1
  ·obtain rfl : j = k := by omega
   rw [hpk]; exact hb
 by_cases hpp : p0 = o0
 ·cases hbf : befB ⟨p0, p1, p2, p3, p4, p5, p6, p7⟩ ⟨o0, o1, o2, o3, o4, o5, o6, o7⟩ with
  | true =>
   refine W_seq (W_region (V5 0 rfl (V3 (.int .i64 _) rfl (hI.c0 rfl) (V5 0 rfl (V3 (.int .i64 _) rfl (hI.c1 rfl) (Vz rfl (V2 rfl (Tn 8 rfl hI.g0 (Tn 8 rfl hI.g1 (V6 [.agg _, .agg _] rfl Tryz.func25 rfl ?_))))))))))
   refine (before_one p0 p1 p2 p3 p4 p5 p6 p7 o0 o1 o2 o3 o4 o5 o6 o7 _).mono ?_
   rw [hbf]
   rintro e w1 ⟨rfl, hp⟩
   refine ⟨_, rfl, ?_⟩
   replace hI := hI.pure hp
   refine T4 rfl (Vd rfl (WL_nil (W_cond false rfl (W_skip ?_))))
   replace hI := hI.d0
   refine W_region (Vu rfl (V0 rfl (WL_nil ?_)))
   exact ⟨ah.length - (k + 1), by omega, k + 1, rfl, by omega, hnext (fun _ => hbf), ⟨rfl, rfl, rfl, rfl, trivial⟩, hI⟩
  | false =>
   refine W_seq (W_region (V5 0 rfl (V3 (.int .i64 _) rfl (hI.c0 rfl) (V5 0 rfl (V3 (.int .i64 _) rfl (hI.c1 rfl) (Vz rfl (V2 rfl (Tn 8 rfl hI.g0 (Tn 8 rfl hI.g1 (V6 [.agg _, .agg _] rfl Tryz.func25 rfl ?_))))))))))
   refine (before_one p0 p1 p2 p3 p4 p5 p6 p7 o0 o1 o2 o3 o4 o5 o6 o7 _).mono ?_
   rw [hbf]
   rintro e w1 ⟨rfl, hp⟩
   refine ⟨_, rfl, ?_⟩
   replace hI := hI.pure hp
   refine Ta rfl (Vd rfl (WL_nil (W_cond true rfl (W_seq (W_region (Vx rfl Tryz.underlying49 rfl (Vk rfl (WL_nil ?_))))))))
   refine W_ret ?_
   exact ret1 4 (.inr rfl) rfl (OpPost.bad (fun hh => by have := hh.2.2.2.2 k hkl (by rw [hpk]; exact hpp); rw [hpk, hbf] at this; cases this) hI.pu)
 ·refine W_seq (W_region (V5 0 rfl (V3 (.int .i64 _) rfl (hI.c0 rfl) (V5 0 rfl (V3 (.int .i64 _) rfl (hI.c1 rfl) (Vr rfl (V2 rfl (V1 rfl (V1 rfl (V1 rfl (V1 rfl (V8 rfl (WL_nil ?_)))))))))))))
  refine W_cond false rfl (W_skip ?_)
  replace hI := hI.d0
  refine W_region (Vu rfl (V0 rfl (WL_nil ?_)))
  exact ⟨ah.length - (k + 1), by omega, k + 1, rfl, by omega, hnext (fun e => absurd e hpp), ⟨rfl, rfl, rfl, rfl, trivial⟩, hI⟩
end Go.Proofs.YthndpiopbdecfaaGreatDoor
