/- event: at, Ops. -/
import Derived.Test.YtgppljdfhhgkiaaGreatDoorEvo2
import Derived.Test.YtgppljdfhhgkiaaGreatDoorEvLaw
import Derived.Test.YtgppljdfhhgkiaaGreatDoorTell
namespace Go.Proofs.YtgppljdfhhgkiaaGreatDoor
open Go.RowKit
set_option linter.unusedVariables false
set_option linter.unusedSimpArgs false
abbrev GlobOk (w : World) : Prop := w.cell? ⟨2, 0, none⟩ = some (.iface 131 (.agg #[hdl 24]))
theorem at_any (z : Int) (i : Int) (w0 : World) (hg : GlobOk w0) : Calls Tryz.prog 8 #[.iface 33 (.int .i64 z), .int .i64 i] w0 fun en w' => (∃ b, en = .returned (.iface 59 (.pointer (some ⟨b, 0, none⟩)))) ∧ Pure w0 w' := by
  have hI := Inv.start (fun _ => False) w0
  refine calls_of_W (N := Tryz.f8.ntmps) Tryz.func8 rfl rfl rfl ?_
  refine W_seq ?_
  refine W_region ?_
  refine WL_val rfl rfl rfl (by first | exact rAsgnN rfl rfl | exact rAsgnE rfl rfl | exact rAsgn rfl) ?_
  refine WL_nil ?_
  refine W_seq ?_
  refine W_region ?_
  refine WL_val rfl rfl rfl (by first | exact rMoveN rfl rfl | exact rMoveE rfl rfl | exact rMove rfl) ?_
  refine WL_call rfl rfl rfl (rCall (vs := [_]) rfl Tryz.func19 rfl rfl rfl) ?_
  refine (tell_any _ z _ (.inl rfl) (hI.oldp hg)).mono ?_
  rintro e w1 ⟨rfl, hp⟩
  refine ⟨_, rfl, ?_⟩
  replace hI := hI.pure hp
  refine WL_val rfl rfl rfl (by first | exact rMoveI rfl rfl | exact rMove rfl) ?_
  refine WL_val rfl rfl rfl (rBuild (qs := [(0, .int .i64 _), (1, .int .i64 _)]) (vs := [_, _]) [.int .i64 0, .int .i64 0] [0, 1] rfl rfl rfl (fun _ => by kernel_rfl)) ?_
  refine WL_box (u := .agg _) (vs := #[_, _]) hI rfl rfl rfl rfl rfl rfl ?_
  clear hI; rintro b9 w - - hI
  refine WL_val rfl rfl rfl (rIface rfl Tryz.underlying59 rfl rfl) ?_
  refine WL_val rfl rfl rfl (by first | exact rAsgnN rfl rfl | exact rAsgnE rfl rfl | exact rAsgn rfl) ?_
  refine WL_nil ?_
  refine W_ret ?_
  exact ret1 4 (.inr rfl) rfl ⟨⟨_, rfl⟩, hI.pu⟩
def EvsR (w : World) (D : Nat → Prop) (v : Value) (l : List Ev) : Prop := Rd w D 7 v l.length (l.flatMap evL)
def evAt (l : List Ev) (k : Nat) : Ev := l.getD k ⟨0, 0, 0, 0, 0, 0, 0⟩
theorem evAt_get {l : List Ev} {k : Nat} (hk : k < l.length) : l[k]? = some (evAt l k) := by unfold evAt; rw [List.getD_eq_getElem?_getD, List.getElem?_eq_getElem hk]; rfl
theorem EvsR.pure {w w' : World} {D : Nat → Prop} {v : Value} {l : List Ev} (h : EvsR w D v l) (hp : Pure w w') : EvsR w' D v l := Rd.pure h hp
theorem EvsR.at {w : World} {D : Nat → Prop} {A : Option Addr} {n c : Nat} {l : List Ev} (h : EvsR w D (.slice A n c) l) {k : Nat} (hk : k < l.length) : ∃ b o, A = some ⟨b, o, none⟩ ∧ ∀ (j : Nat) (u : Value), (evL (evAt l k))[j]? = some u → w.cell? ⟨b, o + k * 7 + j, none⟩ = some u := by
  obtain ⟨A1, c1, hv, hnc, hcm, hlen, hcell⟩ := h
  injection hv with e1 e2 e3
  subst e1 e3
  obtain ⟨b, o, hbo, _, hcl⟩ := hcell (by omega)
  refine ⟨b, o, hbo, fun j u hj => ?_⟩
  have hj8 : j < 7 := by have := (List.getElem?_eq_some_iff.1 hj).1; simpa [evL] using this
  rw [Nat.add_assoc]
  refine hcl _ u ?_
  rw [flatN (f := evL) (fun a => rfl) l k _ (evAt_get hk) j hj8]
  exact hj
theorem EvsR.len {w : World} {D : Nat → Prop} {A : Option Addr} {n c : Nat} {l : List Ev} (h : EvsR w D (.slice A n c) l) : n = l.length ∧ n ≤ c ∧ c ≤ 9223372036854775807 := by
  obtain ⟨A', c', he, h1, h2⟩ := Rd.form h
  injection he with _ e2 e3
  subst e2 e3
  exact ⟨rfl, h1, h2⟩
def EvPost (r : Option (List Op8)) (w0 : World) (en : Ending) (w' : World) : Prop := match r with
  | none => Pure w0 w' ∧ ∃ t v, en = .returned (.tuple #[.slice none 0 0, .iface t v])
  | some out => ∃ A' c', en = .returned (.tuple #[.slice A' out.length c', .nilIface]) ∧ Inv (fun _ => False) w0 w' [OpsE A' c' out]
theorem EvPost.no {r : Option (List Op8)} {w0 w' : World} {t : TypeId} {v : Value} (h : r = none) (hp : Pure w0 w') : EvPost r w0 (.returned (.tuple #[.slice none 0 0, .iface t v])) w' := by subst h; exact ⟨hp, t, v, rfl⟩
theorem EvPost.yes {r : Option (List Op8)} {out : List Op8} {w0 w' : World} {A' : Option Addr} {c' : Nat} (h : r = some out) (hI : Inv (fun _ => False) w0 w' [OpsE A' c' out]) : EvPost r w0 (.returned (.tuple #[.slice A' out.length c', .nilIface])) w' := by subst h; exact ⟨A', c', rfl, hI⟩
theorem row_cell1 {w : World} {e b n c k : Nat} {xs : List Value} {u : Value} (h : w.ownsRow 0 e 1 (.slice (some ⟨b, 0, none⟩) n c) n xs) (hk : xs[k]? = some u) : w.cell? ⟨b, k, none⟩ = some u := by
  have hn : 0 < n := by
    have h1 := (List.getElem?_eq_some_iff.1 hk).1
    have h2 : xs.length = n * 1 := h.1
    omega
  have := row_cellS h hk hn
  rwa [Nat.zero_add] at this
theorem stepE_len {e : Ev} {i : Nat} {s s' : SeeS} (h : stepE e i s = some s') : s'.ops.length ≤ s.ops.length + 1 := by
  unfold stepE at h
  split at h
  rotate_left
  · cases h
  split at h
  · unfold beginF at h
    split at h
    · cases h
    · injection h with h; subst h; simp
  · unfold endF at h
    split at h
    · cases h
    · split at h
      · injection h with h
        subst h
        simp only
        split <;> simp
      · cases h
set_option maxHeartbeats 8000000 in
theorem evops_any (A : Option Addr) (n c : Nat) (l : List Ev) (D : Nat → Prop) (w0 : World) (h : EvsR w0 D (.slice A n c) l) (hg : GlobOk w0) : Calls Tryz.prog 14 #[.slice A n c] w0 (EvPost (evF l) w0) := by
  obtain ⟨hn, hc1, hc2⟩ := h.len
  subst hn
  have hI := Inv.start (fun _ => False) w0
  refine calls_of_W (N := Tryz.f14.ntmps) Tryz.func14 rfl rfl rfl ?_
  refine W_seq ?_
  refine W_region ?_
  refine WL_val rfl rfl rfl (by first | exact rAsgnS rfl rfl | exact rAsgn rfl) ?_
  refine WL_val rfl rfl rfl (by first | exact rAsgnN rfl rfl | exact rAsgnE rfl rfl | exact rAsgn rfl) ?_
  refine WL_nil ?_
  by_cases h120 : l.length ≤ 120
  rotate_left
  · refine W_seq ?_
    refine W_seq ?_
    refine W_region ?_
    refine WL_val rfl rfl rfl (by first | exact rMoveS rfl rfl | exact rMove rfl) ?_
    refine WL_val rfl rfl rfl (rLen rfl Tryz.underlying22 rfl) ?_
    refine WL_val rfl rfl rfl (by first | exact rGtrT rfl rfl rfl (by omega) | exact rGtrF rfl rfl rfl (by omega) | exact rGtr rfl rfl rfl) ?_
    refine WL_nil ?_
    refine W_cond true rfl ?_
    refine W_seq ?_
    refine W_region ?_
    refine WL_val rfl rfl rfl (rIface rfl Tryz.underlying33 rfl rfl) ?_
    refine WL_val rfl rfl rfl (by first | exact rAsgnS rfl rfl | exact rAsgn rfl) ?_
    refine WL_val rfl rfl rfl (by first | exact rAsgnN rfl rfl | exact rAsgnE rfl rfl | exact rAsgn rfl) ?_
    refine WL_nil ?_
    refine W_ret ?_
    exact ret2 2 3 (.inr rfl) rfl (EvPost.no (by unfold evF; exact if_neg h120) hI.pu)
  have hev : evF l = (runE (l.drop 0) 0 initE).map outF := by unfold evF; exact if_pos h120
  refine W_seq ?_
  refine W_seq ?_
  refine W_region ?_
  refine WL_val rfl rfl rfl (by first | exact rMoveS rfl rfl | exact rMove rfl) ?_
  refine WL_val rfl rfl rfl (rLen rfl Tryz.underlying22 rfl) ?_
  refine WL_val rfl rfl rfl (by first | exact rGtrT rfl rfl rfl (by omega) | exact rGtrF rfl rfl rfl (by omega) | exact rGtr rfl rfl rfl) ?_
  refine WL_nil ?_
  refine W_cond false rfl ?_
  refine W_skip ?_
  refine W_seq ?_
  refine W_region ?_
  refine WL_mkMap hI rfl rfl rfl rfl ?_
  clear hI; rintro b15 w hI
  refine WL_mkMap hI rfl rfl rfl rfl ?_
  clear hI; rintro b16 w hI
  refine WL_val rfl rfl rfl (rBuild (qs := [(1, .map _), (2, .map _)]) (vs := [_, _, _, _]) [.slice none 0 0, .map none, .map none, .slice none 0 0] [1, 2] rfl rfl rfl (fun _ => by kernel_rfl)) ?_
  refine WL_box (u := .agg _) (vs := #[_, _, _, _]) hI rfl rfl rfl rfl rfl rfl ?_
  clear hI; rintro b18 w - - hI
  refine WL_val rfl rfl rfl (by first | exact rAsgnP rfl rfl | exact rAsgn rfl) ?_
  refine WL_nil ?_
  replace hI : Inv (fun _ => False) w0 w (prtS b18 none 0 b15 b16 none 0 initE) := by
    have h1 := (hI.sw1).fresh (e := BoolE none 0 []) (Pure.refl w) (Row.nil w 0 4 1) (fun k hk => by cases hk)
    have h2 := (h1.sw0).fresh (e := OpsE none 0 []) (Pure.refl w) (Row.nil w 0 52 8) (fun k hk => by cases hk)
    exact h2.sw0
  refine W_seq_cut (fun ρ w => ∃ (s : SeeS) (Ao : Option Addr) (co : Nat) (Ag : Option Addr) (cg : Nat), evF l = some (outF s) ∧ SeeOk l l.length s ∧ s.ops.length ≤ l.length ∧ Has ρ [(4, .pointer (some ⟨b18, 0, none⟩))] ∧ Inv (fun _ => False) w0 w (prtS b18 Ao co b15 b16 Ag cg s)) ?_ ?_
  · refine W_seq ?_
    refine W_region ?_
    refine WL_val rfl rfl rfl (by first | exact rMoveS rfl rfl | exact rMove rfl) ?_
    refine WL_val rfl rfl rfl (rLen rfl Tryz.underlying22 rfl) ?_
    refine WL_val rfl rfl rfl (by first | exact rMoveI rfl rfl | exact rMove rfl) ?_
    refine WL_nil ?_
    refine W_block ?_
    refine W_loopN (fun mu ρ w => ∃ (k : Nat) (s : SeeS) (Ao : Option Addr) (co : Nat) (Ag : Option Addr) (cg : Nat), mu = l.length - k ∧ k ≤ l.length ∧ evF l = (runE (l.drop k) k s).map outF ∧ SeeOk l k s ∧ s.ops.length ≤ k ∧ Has ρ [(21, .int .i64 (k : Int)), (20, .int .i64 (l.length : Int)), (19, .slice A l.length c), (4, .pointer (some ⟨b18, 0, none⟩))] ∧ Inv (fun _ => False) w0 w (prtS b18 Ao co b15 b16 Ag cg s)) l.length
      ⟨0, initE, none, 0, none, 0, rfl, by omega, hev, seeOk_init l, Nat.le_refl _, ⟨rfl, rfl, rfl, rfl, trivial⟩, hI⟩ ?_
    clear hI hev
    rintro mu ρ w ⟨k, s, Ao, co, Ag, cg, rfl, hk, hev, hok, hsl, hH, hI⟩
    obtain ⟨σ, rfl⟩ := hH.open
    by_cases hkl : k < l.length
    rotate_left
    · obtain rfl : k = l.length := by omega
      rw [List.drop_of_length_le (Nat.le_refl _)] at hev
      refine W_seq ?_
      refine W_region ?_
      refine WL_val rfl rfl rfl (by first | exact rLssT rfl rfl rfl (by omega) | exact rLssF rfl rfl rfl (by omega) | exact rLss rfl rfl rfl) ?_
      refine WL_nil ?_
      refine W_seq ?_
      refine W_cond false rfl ?_
      refine W_exit ?_
      exact ⟨s, Ao, co, Ag, cg, hev, hok, hsl, ⟨rfl, trivial⟩, hI⟩
    obtain ⟨bA, oA, rfl, hoc⟩ := (h.pure hI.pu).at hkl
    have hget := evAt_get hkl
    have hdrop : l.drop k = evAt l k :: l.drop (k + 1) := by
      rw [List.drop_eq_getElem_cons hkl]
      congr 1
      have := hget
      rw [List.getElem?_eq_getElem hkl] at this
      injection this
    rw [hdrop, runE] at hev
    have hstep := fun s' (hs : stepE (evAt l k) k s = some s') => seeOk_step hok hget hs
    have hbl := fun n (hb : s.busy (evAt l k).proc = some n) => (hok.busy _ n hb).1
    have hgl := hok.glen
    generalize hpk : evAt l k = pk at hoc hev hstep hbl
    obtain ⟨e0, e1, e2, e3, e4, e5, e6⟩ := pk
    refine W_seq ?_
    refine W_region ?_
    refine WL_val rfl rfl rfl (by first | exact rLssT rfl rfl rfl (by omega) | exact rLssF rfl rfl rfl (by omega) | exact rLss rfl rfl rfl) ?_
    refine WL_nil ?_
    refine W_seq ?_
    refine W_cond true rfl ?_
    refine W_skip ?_
    refine W_seq ?_
    refine W_block ?_
    refine W_seq ?_
    refine W_region ?_
    refine WL_val rfl rfl rfl (by first | exact rMoveI rfl rfl | exact rMove rfl) ?_
    refine WL_val rfl rfl rfl (rIdx (sz := 7) rfl Tryz.underlying22 (by kernel_rfl) rfl rfl (by omega)) ?_
    refine WL_val rfl rfl rfl (by first | exact rLdB (n := 7) rfl (by kernel_rfl) (by kernel_rfl) rfl rfl hI.g0 | exact rLdA (n := 7) rfl (by kernel_rfl) (by kernel_rfl) rfl (by rfl) (fun k u hk => hI.oldp (hoc k u hk)) | exact rLdA (n := 7) rfl (by kernel_rfl) (by kernel_rfl) rfl (by rfl) hoc) ?_
    refine WL_alloc (u := .agg #[.int .i64 0, .int .i64 0, .int .i64 0, .int .i64 0, .int .i64 0, .int .i64 0, .int .i64 0]) (vs := #[.int .i64 0, .int .i64 0, .int .i64 0, .int .i64 0, .int .i64 0, .int .i64 0, .int .i64 0]) hI rfl rfl rfl rfl (by kernel_rfl) rfl ?_
    clear hI; rintro b6 w - - hI
    refine WL_val rfl rfl rfl (by first | exact rAsgnI rfl rfl | exact rAsgn rfl) ?_
    first | refine WL_stw0 (u := .agg _) (vs := #[_, _, _, _, _, _, _]) (n := 7) hI rfl rfl rfl rfl rfl rfl (by kernel_rfl) rfl rfl rfl ?_
    clear hI; intro w hI
    refine WL_nil ?_
    simp only [evL] at hI
    refine W_seq_cut (fun ρ w => ∃ v7, Has ρ [(7, v7), (21, .int .i64 (k : Int)), (20, .int .i64 (l.length : Int)), (19, .slice (some ⟨bA, oA, none⟩) l.length c), (4, .pointer (some ⟨b18, 0, none⟩)), (5, .int .i64 (k : Int)), (6, .pointer (some ⟨b6, 0, none⟩))] ∧ Inv (fun _ => False) w0 w (B b6 31 #[.int .i64 e0, .int .i64 e1, .int .i64 e2, .int .i64 e3, .int .i64 e4, .int .i64 e5, .int .i64 e6] :: prtS b18 Ao co b15 b16 Ag cg s) ∧ ((evOkB ⟨e0, e1, e2, e3, e4, e5, e6⟩ = true ∧ v7 = .nilIface) ∨ (evOkB ⟨e0, e1, e2, e3, e4, e5, e6⟩ = false ∧ ∃ z : Int, v7 = .iface 33 (.int .i64 z)))) ?_ ?_
    · refine W_region ?_
      refine WL_val rfl rfl rfl (by first | exact rLdB (n := 7) rfl (by kernel_rfl) (by kernel_rfl) rfl rfl hI.g0 | exact rLdB (n := 7) rfl (by kernel_rfl) (by kernel_rfl) rfl rfl hI.g1 | exact rLdB (n := 7) rfl (by kernel_rfl) (by kernel_rfl) rfl rfl hI.g2 | exact rLdB (n := 7) rfl (by kernel_rfl) (by kernel_rfl) rfl rfl hI.g3 | exact rLdB (n := 7) rfl (by kernel_rfl) (by kernel_rfl) rfl rfl hI.g4 | exact rLdB (n := 7) rfl (by kernel_rfl) (by kernel_rfl) rfl rfl hI.g5) ?_
      refine WL_call rfl rfl rfl (rCall (vs := [.agg _]) rfl Tryz.func7 rfl rfl rfl) ?_
      refine (check_any ⟨e0, e1, e2, e3, e4, e5, e6⟩ _).mono ?_
      rintro e w1 ⟨hp, hr⟩
      obtain ⟨v7, rfl⟩ : ∃ v, e = .returned v := by rcases hr with ⟨_, rfl⟩ | ⟨_, x, _, rfl⟩ <;> exact ⟨_, rfl⟩
      refine ⟨_, rfl, ?_⟩
      replace hI := hI.pure hp
      refine WL_val rfl rfl rfl (by first | exact rAsgnN rfl rfl | exact rAsgnE rfl rfl | exact rAsgn rfl) ?_
      refine WL_nil ?_
      refine ⟨v7, ⟨rfl, rfl, rfl, rfl, rfl, rfl, rfl, trivial⟩, hI, ?_⟩
      rcases hr with ⟨q1, q2⟩ | ⟨q1, x, ⟨z, rfl⟩, q2⟩
      · injection q2 with q2; exact .inl ⟨q1, q2⟩
      · injection q2 with q2; exact .inr ⟨q1, z, q2⟩
    clear hI
    rintro ρ w ⟨v7, hH, hI, hv⟩
    obtain ⟨σ, rfl⟩ := hH.open
    refine W_seq_cut (fun ρ w => ∃ v7, Has ρ [(7, v7), (21, .int .i64 (k : Int)), (20, .int .i64 (l.length : Int)), (19, .slice (some ⟨bA, oA, none⟩) l.length c), (4, .pointer (some ⟨b18, 0, none⟩)), (5, .int .i64 (k : Int))] ∧ ((stepE ⟨e0, e1, e2, e3, e4, e5, e6⟩ k s = none ∧ (∃ z : Int, v7 = .iface 33 (.int .i64 z)) ∧ Inv (fun _ => False) w0 w []) ∨ (∃ s', stepE ⟨e0, e1, e2, e3, e4, e5, e6⟩ k s = some s' ∧ v7 = .nilIface ∧ ∃ Ao co Ag cg, Inv (fun _ => False) w0 w (prtS b18 Ao co b15 b16 Ag cg s')))) ?_ ?_
    · refine W_block ?_
      rcases hv with ⟨hv, rfl⟩ | ⟨hv, z, rfl⟩
      rotate_left
      · refine W_seq ?_
        refine W_region ?_
        refine WL_val rfl rfl rfl (by first | exact rMoveN rfl rfl | exact rMoveE rfl rfl | exact rMove rfl) ?_
        refine WL_val rfl rfl rfl (by first | exact rIfaceNe rfl Tryz.underlying24 rfl rfl | exact rNilNe rfl Tryz.underlying24 rfl) ?_
        refine WL_val rfl rfl rfl (by first | exact rAsgnB rfl rfl | exact rAsgn rfl) ?_
        refine WL_nil ?_
        refine W_cond true rfl ?_
        refine W_skip ?_
        exact ⟨_, ⟨rfl, rfl, rfl, rfl, rfl, rfl, trivial⟩, .inl ⟨by unfold stepE; rw [hv]; rfl, ⟨z, rfl⟩, hI.none⟩⟩
      refine W_seq ?_
      refine W_region ?_
      refine WL_val rfl rfl rfl (by first | exact rMoveN rfl rfl | exact rMoveE rfl rfl | exact rMove rfl) ?_
      refine WL_val rfl rfl rfl (by first | exact rIfaceNe rfl Tryz.underlying24 rfl rfl | exact rNilNe rfl Tryz.underlying24 rfl) ?_
      refine WL_val rfl rfl rfl (by first | exact rAsgnB rfl rfl | exact rAsgn rfl) ?_
      refine WL_nil ?_
      refine W_cond false rfl ?_
      replace hI : Inv (fun _ => False) w0 w (prtS b18 Ao co b15 b16 Ag cg s ++ [B b6 31 #[.int .i64 e0, .int .i64 e1, .int .i64 e2, .int .i64 e3, .int .i64 e4, .int .i64 e5, .int .i64 e6]]) := hI.perm (List.perm_append_comm (l₁ := [_]))
      by_cases t1 : e1 = 1
      · have hse : stepE ⟨e0, e1, e2, e3, e4, e5, e6⟩ k s = beginF ⟨e0, e1, e2, e3, e4, e5, e6⟩ k s := by unfold stepE; rw [if_pos hv]; exact if_pos t1
        refine W_seq ?_
        refine W_region ?_
        refine WL_val rfl rfl rfl (by first | exact rFldN (off := 1) rfl (by kernel_rfl) rfl | exact rFld (off := 1) rfl (by kernel_rfl) rfl) ?_
        refine WL_val rfl rfl rfl (by first | exact rLd (v := .int .i64 _) rfl (by kernel_rfl) rfl (by first | exact (hI.c5 rfl)) | exact rLd rfl (by kernel_rfl) rfl (by first | exact (hI.c5 rfl))) ?_
        refine WL_val rfl rfl rfl (by first | exact rEqlT rfl rfl rfl (by omega) | exact rEqlF rfl rfl rfl (by omega) | exact rEql rfl rfl rfl) ?_
        refine WL_val rfl rfl rfl (by first | exact rAsgnB rfl rfl | exact rAsgn rfl) ?_
        refine WL_nil ?_
        refine W_cond true rfl ?_
        refine W_region ?_
        refine WL_val rfl rfl rfl (by first | exact rMoveP rfl rfl | exact rMove rfl) ?_
        refine WL_val rfl rfl rfl (by first | exact rLdB (n := 7) rfl (by kernel_rfl) (by kernel_rfl) rfl rfl hI.g0 | exact rLdB (n := 7) rfl (by kernel_rfl) (by kernel_rfl) rfl rfl hI.g1 | exact rLdB (n := 7) rfl (by kernel_rfl) (by kernel_rfl) rfl rfl hI.g2 | exact rLdB (n := 7) rfl (by kernel_rfl) (by kernel_rfl) rfl rfl hI.g3 | exact rLdB (n := 7) rfl (by kernel_rfl) (by kernel_rfl) rfl rfl hI.g4 | exact rLdB (n := 7) rfl (by kernel_rfl) (by kernel_rfl) rfl rfl hI.g5) ?_
        refine WL_val rfl rfl rfl (by first | exact rMoveI rfl rfl | exact rMove rfl) ?_
        refine WL_call rfl rfl rfl (rCall (vs := [.pointer _, .agg _, .int .i64 _]) rfl Tryz.func25 rfl rfl rfl) ?_
        refine (begin_one e0 e1 e2 e3 e4 e5 e6 k b18 b15 b16 Ao co Ag cg s _ (by omega) hgl hI.from).mono ?_
        rintro e w1 hP
        rw [hse]
        unfold SeerPost at hP
        generalize beginF ⟨e0, e1, e2, e3, e4, e5, e6⟩ k s = r at hP ⊢
        obtain ⟨v, rfl, hQ⟩ : ∃ v, e = .returned v ∧ ((r = none ∧ (∃ z : Int, v = .iface 33 (.int .i64 z)) ∧ Inv (fun _ => False) w0 w1 []) ∨ ∃ s', r = some s' ∧ v = .nilIface ∧ ∃ Ao co Ag cg, Inv (fun _ => False) w0 w1 (prtS b18 Ao co b15 b16 Ag cg s')) := by
          cases r with
          | none => obtain ⟨q1, z, rfl⟩ := hP; exact ⟨_, rfl, .inl ⟨rfl, ⟨z, rfl⟩, (hI.turnL q1).none⟩⟩
          | some s' => obtain ⟨rfl, A1, c1, A2, c2, q1⟩ := hP; exact ⟨_, rfl, .inr ⟨s', rfl, rfl, A1, c1, A2, c2, (hI.turnL q1).d5⟩⟩
        refine ⟨_, rfl, ?_⟩
        refine WL_val rfl rfl rfl (by first | exact rAsgnN rfl rfl | exact rAsgnE rfl rfl | exact rAsgn rfl) ?_
        refine WL_nil ?_
        exact ⟨_, ⟨rfl, rfl, rfl, rfl, rfl, rfl, trivial⟩, hQ⟩
      · have hse : stepE ⟨e0, e1, e2, e3, e4, e5, e6⟩ k s = endF ⟨e0, e1, e2, e3, e4, e5, e6⟩ k s := by unfold stepE; rw [if_pos hv]; exact if_neg t1
        refine W_seq ?_
        refine W_region ?_
        refine WL_val rfl rfl rfl (by first | exact rFldN (off := 1) rfl (by kernel_rfl) rfl | exact rFld (off := 1) rfl (by kernel_rfl) rfl) ?_
        refine WL_val rfl rfl rfl (by first | exact rLd (v := .int .i64 _) rfl (by kernel_rfl) rfl (by first | exact (hI.c5 rfl)) | exact rLd rfl (by kernel_rfl) rfl (by first | exact (hI.c5 rfl))) ?_
        refine WL_val rfl rfl rfl (by first | exact rEqlT rfl rfl rfl (by omega) | exact rEqlF rfl rfl rfl (by omega) | exact rEql rfl rfl rfl) ?_
        refine WL_val rfl rfl rfl (by first | exact rAsgnB rfl rfl | exact rAsgn rfl) ?_
        refine WL_nil ?_
        refine W_cond false rfl ?_
        refine W_region ?_
        refine WL_val rfl rfl rfl (by first | exact rMoveP rfl rfl | exact rMove rfl) ?_
        refine WL_val rfl rfl rfl (by first | exact rLdB (n := 7) rfl (by kernel_rfl) (by kernel_rfl) rfl rfl hI.g0 | exact rLdB (n := 7) rfl (by kernel_rfl) (by kernel_rfl) rfl rfl hI.g1 | exact rLdB (n := 7) rfl (by kernel_rfl) (by kernel_rfl) rfl rfl hI.g2 | exact rLdB (n := 7) rfl (by kernel_rfl) (by kernel_rfl) rfl rfl hI.g3 | exact rLdB (n := 7) rfl (by kernel_rfl) (by kernel_rfl) rfl rfl hI.g4 | exact rLdB (n := 7) rfl (by kernel_rfl) (by kernel_rfl) rfl rfl hI.g5) ?_
        refine WL_val rfl rfl rfl (by first | exact rMoveI rfl rfl | exact rMove rfl) ?_
        refine WL_call rfl rfl rfl (rCall (vs := [.pointer _, .agg _, .int .i64 _]) rfl Tryz.func26 rfl rfl rfl) ?_
        refine (end_one e0 e1 e2 e3 e4 e5 e6 k b18 b15 b16 Ao co Ag cg s _ (by omega) hgl hbl hI.from).mono ?_
        rintro e w1 hP
        rw [hse]
        unfold SeerPost at hP
        generalize endF ⟨e0, e1, e2, e3, e4, e5, e6⟩ k s = r at hP ⊢
        obtain ⟨v, rfl, hQ⟩ : ∃ v, e = .returned v ∧ ((r = none ∧ (∃ z : Int, v = .iface 33 (.int .i64 z)) ∧ Inv (fun _ => False) w0 w1 []) ∨ ∃ s', r = some s' ∧ v = .nilIface ∧ ∃ Ao co Ag cg, Inv (fun _ => False) w0 w1 (prtS b18 Ao co b15 b16 Ag cg s')) := by
          cases r with
          | none => obtain ⟨q1, z, rfl⟩ := hP; exact ⟨_, rfl, .inl ⟨rfl, ⟨z, rfl⟩, (hI.turnL q1).none⟩⟩
          | some s' => obtain ⟨rfl, A1, c1, A2, c2, q1⟩ := hP; exact ⟨_, rfl, .inr ⟨s', rfl, rfl, A1, c1, A2, c2, (hI.turnL q1).d5⟩⟩
        refine ⟨_, rfl, ?_⟩
        refine WL_val rfl rfl rfl (by first | exact rAsgnN rfl rfl | exact rAsgnE rfl rfl | exact rAsgn rfl) ?_
        refine WL_nil ?_
        exact ⟨_, ⟨rfl, rfl, rfl, rfl, rfl, rfl, trivial⟩, hQ⟩
    clear hI hv
    rintro ρ w ⟨v7, hH, hP⟩
    obtain ⟨σ, rfl⟩ := hH.open
    rcases hP with ⟨hs, ⟨z, rfl⟩, hI⟩ | ⟨s', hs, rfl, Ao', co', Ag', cg', hI⟩
    · refine W_seq ?_
      refine W_region ?_
      refine WL_val rfl rfl rfl (by first | exact rMoveN rfl rfl | exact rMoveE rfl rfl | exact rMove rfl) ?_
      refine WL_val rfl rfl rfl (by first | exact rIfaceNe rfl Tryz.underlying24 rfl rfl | exact rNilNe rfl Tryz.underlying24 rfl) ?_
      refine WL_nil ?_
      refine W_cond true rfl ?_
      refine W_seq ?_
      refine W_region ?_
      refine WL_val rfl rfl rfl (by first | exact rMoveN rfl rfl | exact rMoveE rfl rfl | exact rMove rfl) ?_
      refine WL_val rfl rfl rfl (by first | exact rMoveI rfl rfl | exact rMove rfl) ?_
      refine WL_call rfl rfl rfl (rCall (vs := [_, .int .i64 _]) rfl Tryz.func8 rfl rfl rfl) ?_
      refine (at_any z k _ (hI.oldp hg)).mono ?_
      rintro e w1 ⟨⟨b, rfl⟩, hp⟩
      refine ⟨_, rfl, ?_⟩
      replace hI := hI.pure hp
      refine WL_val rfl rfl rfl (by first | exact rAsgnS rfl rfl | exact rAsgn rfl) ?_
      refine WL_val rfl rfl rfl (by first | exact rAsgnN rfl rfl | exact rAsgnE rfl rfl | exact rAsgn rfl) ?_
      refine WL_nil ?_
      refine W_ret ?_
      exact ret2 2 3 (.inr rfl) rfl (EvPost.no (by rw [hev, hs]; rfl) hI.pu)
    · rw [hs] at hev
      have hok' := hstep s' hs
      have hl' : s'.ops.length ≤ k + 1 := by
        have := stepE_len hs
        omega
      refine W_seq ?_
      refine W_region ?_
      refine WL_val rfl rfl rfl (by first | exact rMoveN rfl rfl | exact rMoveE rfl rfl | exact rMove rfl) ?_
      refine WL_val rfl rfl rfl (by first | exact rIfaceNe rfl Tryz.underlying24 rfl rfl | exact rNilNe rfl Tryz.underlying24 rfl) ?_
      refine WL_nil ?_
      refine W_cond false rfl ?_
      refine W_skip ?_
      refine W_region ?_
      refine WL_val rfl rfl rfl (by first | exact rInc rfl rfl rfl (by omega) | exact rAdd rfl rfl rfl (by omega) | exact rAddW rfl rfl rfl) ?_
      refine WL_val rfl rfl rfl (by first | exact rMoveI rfl rfl | exact rMove rfl) ?_
      refine WL_nil ?_
      exact ⟨l.length - (k + 1), by omega, k + 1, s', Ao', co', Ag', cg', rfl, by omega, hev, hok', hl', ⟨rfl, rfl, rfl, rfl, trivial⟩, hI⟩
  clear hI hev
  rintro ρ w ⟨s, Ao, co, Ag, cg, hev, hok, hsl, hH, hI⟩
  obtain ⟨σ, rfl⟩ := hH.open
  refine W_seq ?_
  refine W_region ?_
  refine WL_val rfl rfl rfl (by first | exact rAsgnS rfl rfl | exact rAsgn rfl) ?_
  refine WL_nil ?_
  refine W_seq_cut (fun ρ w => ∃ (A8 : Option Addr) (c8 : Nat), Has ρ [(8, .slice A8 (outF s).length c8)] ∧ Inv (fun _ => False) w0 w [OpsE A8 c8 (outF s)]) ?_ ?_
  · replace hI : Inv (fun _ => False) w0 w (OpsE none 0 ((keptF s 0).map (oAt s.ops)) :: prtS b18 Ao co b15 b16 Ag cg s) := hI.fresh (Pure.refl w) (Row.nil w 0 52 8) (fun k hk => by cases hk)
    refine W_seq ?_
    refine W_region ?_
    refine WL_val rfl rfl rfl (by first | exact rMoveP rfl rfl | exact rMove rfl) ?_
    refine WL_val rfl rfl rfl (rNilChk rfl rfl) ?_
    refine WL_val rfl rfl rfl (by first | exact rFldN (off := 0) rfl (by kernel_rfl) rfl | exact rFld0 rfl (by kernel_rfl) rfl) ?_
    refine WL_val rfl rfl rfl (by first | exact rLd (v := .slice _ _ _) rfl (by kernel_rfl) rfl (by first | exact hI.c0 rfl | exact hI.c1 rfl | exact hI.c2 rfl | exact hI.c3 rfl | exact hI.c4 rfl | exact hI.c5 rfl) | exact rLd rfl (by kernel_rfl) rfl (by first | exact hI.c0 rfl | exact hI.c1 rfl | exact hI.c2 rfl | exact hI.c3 rfl | exact hI.c4 rfl | exact hI.c5 rfl)) ?_
    refine WL_val rfl rfl rfl (rLen rfl Tryz.underlying48 rfl) ?_
    refine WL_val rfl rfl rfl (by first | exact rMoveI rfl rfl | exact rMove rfl) ?_
    refine WL_nil ?_
    refine W_block ?_
    refine W_loopN (fun mu ρ w => ∃ (k : Nat) (A8 : Option Addr) (c8 : Nat), mu = s.ops.length - k ∧ k ≤ s.ops.length ∧ Has ρ [(54, .int .i64 (k : Int)), (53, .int .i64 (s.ops.length : Int)), (52, .slice Ao s.ops.length co), (4, .pointer (some ⟨b18, 0, none⟩)), (8, .slice A8 ((keptF s k).map (oAt s.ops)).length c8)] ∧ Inv (fun _ => False) w0 w (OpsE A8 c8 ((keptF s k).map (oAt s.ops)) :: prtS b18 Ao co b15 b16 Ag cg s)) s.ops.length
      ⟨0, _, _, rfl, by omega, ⟨rfl, rfl, rfl, rfl, rfl, trivial⟩, hI⟩ ?_
    clear hI
    rintro mu ρ w ⟨k, A8, c8, rfl, hk, hH, hI⟩
    obtain ⟨σ, rfl⟩ := hH.open
    by_cases hkl : k < s.ops.length
    rotate_left
    · obtain rfl : k = s.ops.length := by omega
      refine W_seq ?_
      refine W_region ?_
      refine WL_val rfl rfl rfl (by first | exact rLssT rfl rfl rfl (by omega) | exact rLssF rfl rfl rfl (by omega) | exact rLss rfl rfl rfl) ?_
      refine WL_nil ?_
      refine W_seq ?_
      refine W_cond false rfl ?_
      refine W_exit ?_
      refine ⟨A8, c8, ⟨rfl, trivial⟩, hI.d5.d4.d3.d2.d1⟩
    have hglen := hok.glen
    obtain ⟨bO, _, rfl, -, -, -, -, -, -⟩ := row_openB hI.g2 (by omega)
    obtain ⟨bG, _, rfl, -, -, -, -, -, -⟩ := row_openB hI.g3 (by omega)
    have hkc : ((keptF s k).map (oAt s.ops)).length ≤ 120 := by
      have : (keptF s k).length ≤ (List.range k).length := List.length_filter_le ..
      simp at this ⊢
      omega
    have hgc : (s.gone.map Value.bool)[k]? = some (.bool (goneAt s k)) := by
      unfold goneAt
      rw [List.getElem?_map, List.getD_eq_getElem?_getD, List.getElem?_eq_getElem (show k < s.gone.length by omega)]
      rfl
    have hoc : ∀ (j : Nat) (u : Value), (opV (oAt s.ops k))[j]? = some u → w.cell? ⟨bO, 0 + k * 8 + j, none⟩ = some u := fun j u hj => row_op hI.g2 rfl hkl hj
    refine W_seq ?_
    refine W_region ?_
    refine WL_val rfl rfl rfl (by first | exact rLssT rfl rfl rfl (by omega) | exact rLssF rfl rfl rfl (by omega) | exact rLss rfl rfl rfl) ?_
    refine WL_nil ?_
    refine W_seq ?_
    refine W_cond true rfl ?_
    refine W_skip ?_
    refine W_seq ?_
    refine W_block ?_
    refine W_seq ?_
    refine W_region ?_
    refine WL_val rfl rfl rfl (by first | exact rMoveI rfl rfl | exact rMove rfl) ?_
    refine WL_val rfl rfl rfl (rIdx (sz := 8) rfl Tryz.underlying48 (by kernel_rfl) rfl rfl (by omega)) ?_
    refine WL_val rfl rfl rfl (by first | exact rLdB (n := 8) rfl (by kernel_rfl) (by kernel_rfl) rfl rfl hI.g0 | exact rLdA (n := 8) rfl (by kernel_rfl) (by kernel_rfl) rfl (by rfl) (fun k u hk => hI.oldp (hoc k u hk)) | exact rLdA (n := 8) rfl (by kernel_rfl) (by kernel_rfl) rfl (by rfl) hoc) ?_
    refine WL_alloc (u := .agg #[.int .i64 0, .int .i64 0, .int .i64 0, .int .i64 0, .int .i64 0, .int .i64 0, .int .i64 0, .int .i64 0]) (vs := #[.int .i64 0, .int .i64 0, .int .i64 0, .int .i64 0, .int .i64 0, .int .i64 0, .int .i64 0, .int .i64 0]) hI rfl rfl rfl rfl (by kernel_rfl) rfl ?_
    clear hI; rintro b10 w - - hI
    refine WL_val rfl rfl rfl (by first | exact rAsgnI rfl rfl | exact rAsgn rfl) ?_
    first | refine WL_stw0 (u := .agg _) (vs := #[_, _, _, _, _, _, _, _]) (n := 8) hI rfl rfl rfl rfl rfl rfl (by kernel_rfl) rfl rfl rfl ?_
    clear hI; intro w hI
    refine WL_nil ?_
    have hks := keptF_succ s k
    change keptF s (k + 1) = keptF s k ++ (if goneAt s k = true then [] else [k]) at hks
    cases hg1 : goneAt s k with
    | true =>
      rw [hg1] at hgc hks
      refine W_seq ?_
      refine W_region ?_
      refine WL_val rfl rfl rfl (by first | exact rMoveP rfl rfl | exact rMove rfl) ?_
      refine WL_val rfl rfl rfl (rNilChk rfl rfl) ?_
      refine WL_val rfl rfl rfl (by first | exact rFldN (off := 3) rfl (by kernel_rfl) rfl | exact rFld (off := 3) rfl (by kernel_rfl) rfl) ?_
      refine WL_val rfl rfl rfl (by first | exact rLd (v := .slice _ _ _) rfl (by kernel_rfl) rfl (by first | exact hI.c0 rfl | exact hI.c1 rfl | exact hI.c2 rfl | exact hI.c3 rfl | exact hI.c4 rfl | exact hI.c5 rfl | exact (row_cell1 hI.g4 hgc)) | exact rLd rfl (by kernel_rfl) rfl (by first | exact hI.c0 rfl | exact hI.c1 rfl | exact hI.c2 rfl | exact hI.c3 rfl | exact hI.c4 rfl | exact hI.c5 rfl | exact (row_cell1 hI.g4 hgc))) ?_
      refine WL_val rfl rfl rfl (by first | exact rMoveI rfl rfl | exact rMove rfl) ?_
      refine WL_val rfl rfl rfl (by first | exact rIdx0 rfl Tryz.underlying70 (by kernel_rfl) rfl rfl rfl (by omega) | exact rIdx1 rfl Tryz.underlying70 (by kernel_rfl) rfl rfl (by omega)) ?_
      refine WL_val rfl rfl rfl (by first | exact rLd (v := .bool _) rfl (by kernel_rfl) rfl (by first | exact hI.c0 rfl | exact hI.c1 rfl | exact hI.c2 rfl | exact hI.c3 rfl | exact hI.c4 rfl | exact hI.c5 rfl | exact (row_cell1 hI.g4 hgc)) | exact rLd rfl (by kernel_rfl) rfl (by first | exact hI.c0 rfl | exact hI.c1 rfl | exact hI.c2 rfl | exact hI.c3 rfl | exact hI.c4 rfl | exact hI.c5 rfl | exact (row_cell1 hI.g4 hgc))) ?_
      refine WL_val rfl rfl rfl (by first | exact rNotT rfl rfl | exact rNotF rfl rfl | exact rNot rfl rfl) ?_
      refine WL_nil ?_
      refine W_cond false rfl ?_
      refine W_skip ?_
      replace hI := hI.d0
      refine W_region ?_
      refine WL_val rfl rfl rfl (by first | exact rInc rfl rfl rfl (by omega) | exact rAdd rfl rfl rfl (by omega) | exact rAddW rfl rfl rfl) ?_
      refine WL_val rfl rfl rfl (by first | exact rMoveI rfl rfl | exact rMove rfl) ?_
      refine WL_nil ?_
      refine ⟨s.ops.length - (k + 1), by omega, k + 1, A8, c8, rfl, by omega, ?_, ?_⟩
      · rw [hks]; simp only [if_true, List.append_nil]; exact ⟨rfl, rfl, rfl, rfl, rfl, trivial⟩
      · rw [hks]; simp only [if_true, List.append_nil]; exact hI
    | false =>
      rw [hg1] at hgc hks
      refine W_seq ?_
      refine W_region ?_
      refine WL_val rfl rfl rfl (by first | exact rMoveP rfl rfl | exact rMove rfl) ?_
      refine WL_val rfl rfl rfl (rNilChk rfl rfl) ?_
      refine WL_val rfl rfl rfl (by first | exact rFldN (off := 3) rfl (by kernel_rfl) rfl | exact rFld (off := 3) rfl (by kernel_rfl) rfl) ?_
      refine WL_val rfl rfl rfl (by first | exact rLd (v := .slice _ _ _) rfl (by kernel_rfl) rfl (by first | exact hI.c0 rfl | exact hI.c1 rfl | exact hI.c2 rfl | exact hI.c3 rfl | exact hI.c4 rfl | exact hI.c5 rfl | exact (row_cell1 hI.g4 hgc)) | exact rLd rfl (by kernel_rfl) rfl (by first | exact hI.c0 rfl | exact hI.c1 rfl | exact hI.c2 rfl | exact hI.c3 rfl | exact hI.c4 rfl | exact hI.c5 rfl | exact (row_cell1 hI.g4 hgc))) ?_
      refine WL_val rfl rfl rfl (by first | exact rMoveI rfl rfl | exact rMove rfl) ?_
      refine WL_val rfl rfl rfl (by first | exact rIdx0 rfl Tryz.underlying70 (by kernel_rfl) rfl rfl rfl (by omega) | exact rIdx1 rfl Tryz.underlying70 (by kernel_rfl) rfl rfl (by omega)) ?_
      refine WL_val rfl rfl rfl (by first | exact rLd (v := .bool _) rfl (by kernel_rfl) rfl (by first | exact hI.c0 rfl | exact hI.c1 rfl | exact hI.c2 rfl | exact hI.c3 rfl | exact hI.c4 rfl | exact hI.c5 rfl | exact (row_cell1 hI.g4 hgc)) | exact rLd rfl (by kernel_rfl) rfl (by first | exact hI.c0 rfl | exact hI.c1 rfl | exact hI.c2 rfl | exact hI.c3 rfl | exact hI.c4 rfl | exact hI.c5 rfl | exact (row_cell1 hI.g4 hgc))) ?_
      refine WL_val rfl rfl rfl (by first | exact rNotT rfl rfl | exact rNotF rfl rfl | exact rNot rfl rfl) ?_
      refine WL_nil ?_
      refine W_cond true rfl ?_
      refine W_region ?_
      refine WL_val rfl rfl rfl (by first | exact rMoveS rfl rfl | exact rMove rfl) ?_
      refine WL_val rfl rfl rfl (by first | exact rLdB (n := 8) rfl (by kernel_rfl) (by kernel_rfl) rfl rfl hI.g0 | exact rLdB (n := 8) rfl (by kernel_rfl) (by kernel_rfl) rfl rfl hI.g1 | exact rLdB (n := 8) rfl (by kernel_rfl) (by kernel_rfl) rfl rfl hI.g2 | exact rLdB (n := 8) rfl (by kernel_rfl) (by kernel_rfl) rfl rfl hI.g3 | exact rLdB (n := 8) rfl (by kernel_rfl) (by kernel_rfl) rfl rfl hI.g4 | exact rLdB (n := 8) rfl (by kernel_rfl) (by kernel_rfl) rfl rfl hI.g5) ?_
      refine WL_lit (vs := [_, _, _, _, _, _, _, _]) (qs := [(0, .agg #[_, _, _, _, _, _, _, _])]) [.int .i64 0, .int .i64 0, .int .i64 0, .int .i64 0, .int .i64 0, .int .i64 0, .int .i64 0, .int .i64 0] [0] hI rfl rfl rfl rfl rfl rfl Tryz.underlying48 (fun _ => by kernel_rfl) ?_
      clear hI; rintro b69 w - - hI
      first | refine WL_app2 (z := .agg #[.int .i64 0, .int .i64 0, .int .i64 0, .int .i64 0, .int .i64 0, .int .i64 0, .int .i64 0, .int .i64 0]) (by_ := 64) hI rfl rfl rfl rfl rfl rfl Tryz.underlying48 (by kernel_rfl) rfl (by omega) (by rfl) hI.lit0 (by first | rfl | simp [i64s, Value.oneCell']) (by omega) (by omega) (by first | exact Nat.zero_le _ | (have := hI.chg.size; omega)) ?_
      clear hI; rintro A70 c70 w hA70 hc70 hI
      replace hI := hI.d0
      refine WL_val rfl rfl rfl (by first | exact rAsgnS rfl rfl | exact rAsgn rfl) ?_
      refine WL_nil ?_
      replace hI : Inv (fun _ => False) w0 w (Row 0 52 8 A70 (((keptF s k).map (oAt s.ops)).length + 1) c70 (((keptF s k).map (oAt s.ops)).flatMap opV ++ opV (oAt s.ops k)) :: prtS b18 (some ⟨bO, 0, none⟩) co b15 b16 (some ⟨bG, 0, none⟩) cg s) := hI.d0
      have hks : (keptF s (k + 1)).map (oAt s.ops) = (keptF s k).map (oAt s.ops) ++ [oAt s.ops k] := by rw [hks]; simp
      refine W_region ?_
      refine WL_val rfl rfl rfl (by first | exact rInc rfl rfl rfl (by omega) | exact rAdd rfl rfl rfl (by omega) | exact rAddW rfl rfl rfl) ?_
      refine WL_val rfl rfl rfl (by first | exact rMoveI rfl rfl | exact rMove rfl) ?_
      refine WL_nil ?_
      refine ⟨s.ops.length - (k + 1), by omega, k + 1, A70, c70, rfl, by omega, ?_, ?_⟩
      · rw [hks, List.length_append]; exact ⟨rfl, rfl, rfl, rfl, rfl, trivial⟩
      · rw [hks]
        unfold OpsE
        rw [List.length_append, List.flatMap_append, List.flatMap_cons, List.flatMap_nil, List.append_nil]
        exact hI
  clear hI
  rintro ρ w ⟨A8, c8, hH, hI⟩
  obtain ⟨σ, rfl⟩ := hH.open
  refine W_seq ?_
  refine W_region ?_
  refine WL_val rfl rfl rfl (by first | exact rMoveS rfl rfl | exact rMove rfl) ?_
  refine WL_val rfl rfl rfl (by first | exact rAsgnS rfl rfl | exact rAsgn rfl) ?_
  refine WL_val rfl rfl rfl (by first | exact rAsgnN rfl rfl | exact rAsgnE rfl rfl | exact rAsgn rfl) ?_
  refine WL_nil ?_
  refine W_ret ?_
  exact ret2 2 3 (.inr rfl) rfl (EvPost.yes hev hI)
end Go.Proofs.YtgppljdfhhgkiaaGreatDoor
