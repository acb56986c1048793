/- model.Run. -/
import Derived.Test.YtlmpolmalgpodaaDoorMod5
import Derived.Test.YtlmpolmalgpodaaDoorModLaw2
namespace Go.Proofs.YtlmpolmalgpodaaDoor
open Go.RowKit
set_option linter.unusedVariables false
set_option linter.unusedSimpArgs false
def OpsR (w : World) (D : Nat → Prop) (v : Value) (l : List Op8) : Prop := Rd w D 8 v l.length (l.flatMap opV)
theorem OpsR.pure {w w' : World} {D : Nat → Prop} {v : Value} {l : List Op8} (h : OpsR w D v l) (hp : Pure w w') : OpsR w' D v l := Rd.pure h hp
theorem OpsR.at {w : World} {D : Nat → Prop} {A : Option Addr} {n c : Nat} {l : List Op8} (h : OpsR w D (.slice A n c) l) {k : Nat} (hk : k < l.length) : ∃ b o, A = some ⟨b, o, none⟩ ∧ ∀ (j : Nat) (u : Value), (opV (oAt l k))[j]? = some u → w.cell? ⟨b, o + k * 8 + j, none⟩ = some u := by
  obtain ⟨A1, c1, hv, hnc, hcm, hlen, hcell⟩ := h
  injection hv with e1 e2 e3
  subst e1 e3
  obtain ⟨b, o, hbo, _, hcl⟩ := hcell (by omega)
  refine ⟨b, o, hbo, fun j u hj => ?_⟩
  have hj8 : j < 8 := by have := (List.getElem?_eq_some_iff.1 hj).1; simpa [opV] using this
  have hg : l[k]? = some (oAt l k) := by unfold oAt; rw [List.getD_eq_getElem?_getD, List.getElem?_eq_getElem hk]; rfl
  rw [Nat.add_assoc]
  refine hcl _ u ?_
  rw [flatN (f := opV) (fun a => rfl) l k _ hg j hj8]
  exact hj
theorem OpsR.len {w : World} {D : Nat → Prop} {A : Option Addr} {n c : Nat} {l : List Op8} (h : OpsR w D (.slice A n c) l) : n = l.length ∧ n ≤ c ∧ c ≤ 9223372036854775807 := by
  obtain ⟨A', c', he, h1, h2⟩ := Rd.form h
  injection he with _ e2 e3
  subst e2 e3
  exact ⟨rfl, h1, h2⟩
/-- Where states lie. -/
abbrev Loc := Nat → Option Addr × Nat
def stV8 (g : Sts8) (L : Loc) : Int → Option Value := fun m => if 0 ≤ m ∧ m < 8 then (g m.toNat).map (fun st => .slice (L m.toNat).1 st.length (L m.toNat).2) else none
def stE8 (g : Sts8) (L : Loc) (k : Nat) : Ent := match g k with | none => Ent.nil | some st => StE (L k).1 (L k).2 st
def updL (L : Loc) (k : Nat) (A : Option Addr) (c : Nat) : Loc := fun j => if j = k then (A, c) else L j
theorem stV8_set {g : Sts8} {L : Loc} {k : Nat} {z : Int} (hz : z = (k : Int)) (hk : k < 8) (st : List Int) (A : Option Addr) (c : Nat) : (fun j => if j = z then some (.slice A st.length c) else stV8 g L j) = stV8 (updS g k st) (updL L k A c) := by
  subst hz
  funext j
  unfold stV8
  by_cases hj : j = (k : Int)
  · subst hj
    rw [if_pos rfl, if_pos (by omega)]
    simp [updS, updL]
  · rw [if_neg hj]
    by_cases hr : 0 ≤ j ∧ j < 8
    · rw [if_pos hr, if_pos hr]
      have : j.toNat ≠ k := by omega
      simp [updS, updL, this]
    · rw [if_neg hr, if_neg hr]
theorem stE8_set (g : Sts8) (L : Loc) (k : Nat) (st : List Int) (A : Option Addr) (c : Nat) (j : Nat) : (if j = k then StE A c st else stE8 g L j) = stE8 (updS g k st) (updL L k A c) j := by
  unfold stE8
  by_cases hj : j = k
  · subst hj; simp [updS, updL]
  · simp [updS, updL, hj]
theorem Inv.many_set {S : Nat → Prop} {w0 w : World} {H : List Ent} {e : Ent} {n i : Nat} {es : Nat → Ent} (h : Inv S w0 w (e :: Many n es :: H)) (hi : i < n) : Inv S w0 w (Many n (fun j => if j = i then e else es j) :: H) := by
  have h1 := (h.sw0.many_out hi).d0.sw0.many_in hi (by simp)
  refine h1.many_congr fun j hj => ?_
  by_cases e : j = i
  · simp [e]
  · simp [e]
set_option maxHeartbeats 4000000 in
theorem run_any (o : Int) (A : Option Addr) (n c : Nat) (ops : List Op8) (A' : Option Addr) (c' : Nat) (order : List Int) (D D' : Nat → Prop) (w0 : World) (h : OpsR w0 D (.slice A n c) ops) (hr : Rd w0 D' 1 (.slice A' order.length c') order.length (i64s order)) (hkey : ∀ i, i < ops.length → 0 ≤ (oAt ops i).key ∧ (oAt ops i).key < 8) (hb : order.length ≤ 10000) (hk : KnOk w0) :
    Calls Tryd.prog 15 #[.int .i64 o, .slice A n c, .slice A' order.length c'] w0 fun en w' => en = .returned (.int .i64 (runF o ops order)) ∧ Pure w0 w' := by
  obtain ⟨hn, hc1, hc2⟩ := h.len
  have hI := Inv.start (fun _ => False) w0
  refine calls_of_W (N := Tryd.f15.ntmps) Tryd.func15 rfl rfl rfl ?_
  refine W_seq ?_
  refine W_region ?_
  refine WL_val rfl rfl rfl (by first | exact rAsgnI rfl rfl | exact rAsgn rfl) ?_
  refine WL_nil ?_
  refine W_seq ?_
  refine W_region ?_
  refine WL_mkMap hI rfl rfl rfl rfl ?_
  clear hI; intro b16 w hI
  refine WL_val rfl rfl rfl (by first | exact rAsgnM rfl rfl | exact rAsgn rfl) ?_
  refine WL_nil ?_
  refine W_seq ?_
  refine W_seq ?_
  refine W_region ?_
  refine WL_val rfl rfl rfl (by first | exact rMoveS rfl rfl | exact rMove rfl) ?_
  refine WL_val rfl rfl rfl (rLen rfl Tryd.underlying22 rfl) ?_
  refine WL_val rfl rfl rfl (by first | exact rMoveI rfl rfl | exact rMove rfl) ?_
  refine WL_nil ?_
  replace hI : Inv (fun _ => False) w0 w [Many 8 (stE8 (fun _ => none) (fun _ => (none, 0))), MapE b16 (stV8 (fun _ => none) (fun _ => (none, 0)))] := by
    have h1 : Inv (fun _ => False) w0 w [MapE b16 (stV8 (fun _ => none) (fun _ => (none, 0)))] := by
      have e : stV8 (fun _ => none) (fun _ => (none, 0)) = fun _ => none := by funext m; unfold stV8; split <;> rfl
      rw [e]; exact hI
    exact h1.fresh (Pure.refl _) (Many.ok (fun i _ => Ent.nil_ok _) (fun i j _ _ _ k hk => hk.elim)) (fun k hk => by obtain ⟨i, _, hk⟩ := hk; exact hk.elim)
  refine W_block ?_
  refine W_loopN (fun mu ρ w => ∃ (p : Nat) (g : Sts8) (L : Loc), mu = order.length - p ∧ p ≤ order.length ∧ runF o ops order = runTo o ops (order.drop p) p g ∧ (∀ k st, g k = some st → okSt o st ∧ st.length ≤ p + 1) ∧ Has ρ [(19, .int .i64 (p : Int)), (18, .int .i64 (order.length : Int)), (17, .slice A' order.length c'), (0, .int .i64 o), (1, .slice A n c), (7, .map (some b16))] ∧ Inv (fun _ => False) w0 w [Many 8 (stE8 g L), MapE b16 (stV8 g L)]) order.length
    ⟨0, _, _, rfl, by omega, rfl, (fun k st hst => by cases hst), ⟨rfl, rfl, rfl, rfl, rfl, rfl, trivial⟩, hI⟩ ?_
  clear hI
  rintro mu ρ w ⟨p, g, L, rfl, hp, hrun, hok, hH, hI⟩
  obtain ⟨σ, rfl⟩ := hH.open
  by_cases hpl : p < order.length
  rotate_left
  · obtain rfl : p = order.length := by omega
    refine W_seq ?_
    refine W_region ?_
    refine WL_val rfl rfl rfl (by first | exact rLssT rfl rfl rfl (by omega) | exact rLssF rfl rfl rfl (by omega) | exact rLss rfl rfl rfl) ?_
    refine WL_nil ?_
    refine W_seq ?_
    refine W_cond false rfl ?_
    refine W_exit ?_
    refine W_seq ?_
    refine W_region ?_
    refine WL_val rfl rfl rfl (by first | exact rAsgnI rfl rfl | exact rAsgn rfl) ?_
    refine WL_nil ?_
    refine W_ret ?_
    exact ret1 6 (.inr rfl) rfl ⟨by rw [hrun, List.drop_eq_nil_of_le (Nat.le_refl _)]; rfl, hI.pu⟩
  have hi0 : (i64s order)[p]? = some (.int .i64 (order[p]'hpl)) := by simp [i64s, hpl]
  obtain ⟨ob, oo, rfl, _, _, hcell⟩ := hr.get hi0 (by omega)
  have hdrop : order.drop p = (order[p]'hpl) :: order.drop (p + 1) := List.drop_eq_getElem_cons hpl
  generalize order[p]'hpl = i at hi0 hcell hdrop
  rw [hdrop] at hrun
  refine W_seq ?_
  refine W_region ?_
  refine WL_val rfl rfl rfl (by first | exact rLssT rfl rfl rfl (by omega) | exact rLssF rfl rfl rfl (by omega) | exact rLss rfl rfl rfl) ?_
  refine WL_nil ?_
  refine W_seq ?_
  refine W_cond true rfl ?_
  refine W_skip ?_
  refine W_seq ?_
  refine W_block ?_
  refine W_seq ?_
  refine W_region ?_
  refine WL_val rfl rfl rfl (by first | exact rMoveI rfl rfl | exact rMove rfl) ?_
  refine WL_val rfl rfl rfl (by first | exact rIdx0 rfl Tryd.underlying22 (by kernel_rfl) rfl rfl rfl (by omega) | exact rIdx1 rfl Tryd.underlying22 (by kernel_rfl) rfl rfl (by omega)) ?_
  refine WL_val rfl rfl rfl (by first | exact rLd (v := .int .i64 _) rfl (by kernel_rfl) rfl (by first | exact hI.oldp hcell | exact hcell) | exact rLd rfl (by kernel_rfl) rfl (by first | exact hI.oldp hcell | exact hcell)) ?_
  refine WL_val rfl rfl rfl (by first | exact rAsgnI rfl rfl | exact rAsgn rfl) ?_
  refine WL_val rfl rfl rfl (by first | exact rAsgnI rfl rfl | exact rAsgn rfl) ?_
  refine WL_nil ?_
  by_cases hneg : i < 0
  · refine W_seq ?_
    refine W_seq ?_
    refine W_region ?_
    refine WL_val rfl rfl rfl (by first | exact rMoveI rfl rfl | exact rMove rfl) ?_
    refine WL_val rfl rfl rfl (by first | exact rLssT rfl rfl rfl (by omega) | exact rLssF rfl rfl rfl (by omega) | exact rLss rfl rfl rfl) ?_
    refine WL_val rfl rfl rfl (by first | exact rMoveB rfl rfl | exact rMove rfl) ?_
    first | refine WL_val rfl rfl rfl (by first | exact rMoveI rfl rfl | exact rMove rfl) ?_ | refine WL_skip rfl rfl rfl ?_
    first | refine WL_val rfl rfl rfl (by first | exact rMoveS rfl rfl | exact rMove rfl) ?_ | refine WL_skip rfl rfl rfl ?_
    first | refine WL_val rfl rfl rfl (rLen rfl Tryd.underlying24 rfl) ?_ | refine WL_skip rfl rfl rfl ?_
    first | refine WL_val rfl rfl rfl (by first | exact rGeqT rfl rfl rfl (by omega) | exact rGeqF rfl rfl rfl (by omega) | exact rGeq rfl rfl rfl) ?_ | refine WL_skip rfl rfl rfl ?_
    refine WL_val rfl rfl rfl (by first | exact rPickTB rfl rfl rfl | exact rPickFB rfl rfl rfl | exact rPickB rfl rfl rfl rfl) ?_
    refine WL_nil ?_
    refine W_cond true rfl ?_
    refine W_seq ?_
    refine W_region ?_
    refine WL_val rfl rfl rfl (by first | exact rMoveI rfl rfl | exact rMove rfl) ?_
    refine WL_val rfl rfl rfl (by first | exact rAsgnI rfl rfl | exact rAsgn rfl) ?_
    refine WL_nil ?_
    refine W_ret ?_
    exact ret1 6 (.inr rfl) rfl ⟨by rw [hrun, runTo, if_pos (.inl hneg)]; rfl, hI.pu⟩
  by_cases hbig : (ops.length : Int) ≤ i
  · refine W_seq ?_
    refine W_seq ?_
    refine W_region ?_
    refine WL_val rfl rfl rfl (by first | exact rMoveI rfl rfl | exact rMove rfl) ?_
    refine WL_val rfl rfl rfl (by first | exact rLssT rfl rfl rfl (by omega) | exact rLssF rfl rfl rfl (by omega) | exact rLss rfl rfl rfl) ?_
    refine WL_val rfl rfl rfl (by first | exact rMoveB rfl rfl | exact rMove rfl) ?_
    first | refine WL_val rfl rfl rfl (by first | exact rMoveI rfl rfl | exact rMove rfl) ?_ | refine WL_skip rfl rfl rfl ?_
    first | refine WL_val rfl rfl rfl (by first | exact rMoveS rfl rfl | exact rMove rfl) ?_ | refine WL_skip rfl rfl rfl ?_
    first | refine WL_val rfl rfl rfl (rLen rfl Tryd.underlying24 rfl) ?_ | refine WL_skip rfl rfl rfl ?_
    first | refine WL_val rfl rfl rfl (by first | exact rGeqT rfl rfl rfl (by omega) | exact rGeqF rfl rfl rfl (by omega) | exact rGeq rfl rfl rfl) ?_ | refine WL_skip rfl rfl rfl ?_
    refine WL_val rfl rfl rfl (by first | exact rPickTB rfl rfl rfl | exact rPickFB rfl rfl rfl | exact rPickB rfl rfl rfl rfl) ?_
    refine WL_nil ?_
    refine W_cond true rfl ?_
    refine W_seq ?_
    refine W_region ?_
    refine WL_val rfl rfl rfl (by first | exact rMoveI rfl rfl | exact rMove rfl) ?_
    refine WL_val rfl rfl rfl (by first | exact rAsgnI rfl rfl | exact rAsgn rfl) ?_
    refine WL_nil ?_
    refine W_ret ?_
    exact ret1 6 (.inr rfl) rfl ⟨by rw [hrun, runTo, if_pos (.inr hbig)]; rfl, hI.pu⟩
  refine W_seq ?_
  refine W_seq ?_
  refine W_region ?_
  refine WL_val rfl rfl rfl (by first | exact rMoveI rfl rfl | exact rMove rfl) ?_
  refine WL_val rfl rfl rfl (by first | exact rLssT rfl rfl rfl (by omega) | exact rLssF rfl rfl rfl (by omega) | exact rLss rfl rfl rfl) ?_
  refine WL_val rfl rfl rfl (by first | exact rMoveB rfl rfl | exact rMove rfl) ?_
  first | refine WL_val rfl rfl rfl (by first | exact rMoveI rfl rfl | exact rMove rfl) ?_ | refine WL_skip rfl rfl rfl ?_
  first | refine WL_val rfl rfl rfl (by first | exact rMoveS rfl rfl | exact rMove rfl) ?_ | refine WL_skip rfl rfl rfl ?_
  first | refine WL_val rfl rfl rfl (rLen rfl Tryd.underlying24 rfl) ?_ | refine WL_skip rfl rfl rfl ?_
  first | refine WL_val rfl rfl rfl (by first | exact rGeqT rfl rfl rfl (by omega) | exact rGeqF rfl rfl rfl (by omega) | exact rGeq rfl rfl rfl) ?_ | refine WL_skip rfl rfl rfl ?_
  refine WL_val rfl rfl rfl (by first | exact rPickTB rfl rfl rfl | exact rPickFB rfl rfl rfl | exact rPickB rfl rfl rfl rfl) ?_
  refine WL_nil ?_
  refine W_cond false rfl ?_
  refine W_skip ?_
  rw [runTo, if_neg (by omega)] at hrun
  obtain ⟨m, rfl⟩ : ∃ m : Nat, i = (m : Int) := ⟨i.toNat, by omega⟩
  have hm : m < ops.length := by omega
  rw [Int.toNat_natCast] at hrun
  obtain ⟨ab, ao, rfl, hoc⟩ := h.at hm
  obtain ⟨hk0, hk8⟩ := hkey m hm
  generalize hop : oAt ops m = op at hrun hoc hk0 hk8
  obtain ⟨proc, key, kind, a, b, res, call, ret⟩ := op
  simp only at hrun hk0 hk8
  obtain ⟨kn, rfl⟩ : ∃ kn : Nat, key = (kn : Int) := ⟨key.toNat, by omega⟩
  have hkn : kn < 8 := by omega
  rw [Int.toNat_natCast] at hrun
  refine W_seq ?_
  refine W_region ?_
  refine WL_val rfl rfl rfl (by first | exact rMoveS rfl rfl | exact rMove rfl) ?_
  refine WL_val rfl rfl rfl (by first | exact rMoveI rfl rfl | exact rMove rfl) ?_
  refine WL_val rfl rfl rfl (rIdx (sz := 8) rfl Tryd.underlying24 (by kernel_rfl) rfl rfl (by omega)) ?_
  refine WL_val rfl rfl rfl (by first | exact rLdB (n := 8) rfl (by kernel_rfl) (by kernel_rfl) rfl rfl hI.g0 | exact rLdA (n := 8) rfl (by kernel_rfl) (by kernel_rfl) rfl (by rfl) (fun k u hk => hI.oldp (hoc k u hk)) | exact rLdA (n := 8) rfl (by kernel_rfl) (by kernel_rfl) rfl (by rfl) hoc) ?_
  refine WL_alloc (u := .agg #[.int .i64 0, .int .i64 0, .int .i64 0, .int .i64 0, .int .i64 0, .int .i64 0, .int .i64 0, .int .i64 0]) (vs := #[.int .i64 0, .int .i64 0, .int .i64 0, .int .i64 0, .int .i64 0, .int .i64 0, .int .i64 0, .int .i64 0]) hI rfl rfl rfl rfl (by kernel_rfl) rfl ?_
  clear hI; rintro b10 w - - hI
  first | refine WL_stw0 (u := .agg _) (vs := #[_, _, _, _, _, _, _, _]) (n := 8) hI rfl rfl rfl rfl rfl rfl (by kernel_rfl) rfl rfl rfl ?_
  clear hI; intro w hI
  refine WL_nil ?_
  simp only [opV] at hI
  obtain ⟨st, hst⟩ : ∃ st, st = (g kn).getD (startF o) := ⟨_, rfl⟩
  rw [← hst] at hrun
  have hsto : okSt o st ∧ st.length ≤ p + 1 := by
    cases hg : g kn with
    | none => rw [hg] at hst; subst hst; exact ⟨okSt_start o, by have := startF_len o; simp only [Option.getD_none]; omega⟩
    | some s1 => rw [hg] at hst; subst hst; exact hok kn _ hg
  have hlook : stV8 g L (kn : Int) = (g kn).map (fun st => .slice (L kn).1 st.length (L kn).2) := by unfold stV8; rw [if_pos (by omega), Int.toNat_natCast]
  refine W_seq ?_
  refine W_region ?_
  refine WL_val rfl rfl rfl (by first | exact rMoveM rfl rfl | exact rMove rfl) ?_
  refine WL_val rfl rfl rfl (by first | exact rFldN (off := 1) rfl (by kernel_rfl) rfl | exact rFld (off := 1) rfl (by kernel_rfl) rfl) ?_
  refine WL_val rfl rfl rfl (by first | exact rLd (v := .int .i64 _) rfl (by kernel_rfl) rfl (by first | exact hI.c0 rfl) | exact rLd rfl (by kernel_rfl) rfl (by first | exact hI.c0 rfl)) ?_
  refine WL_val rfl rfl rfl (rLook (zv := .slice none 0 0) rfl Tryd.underlying64 Tryd.underlying3 (by kernel_rfl) rfl rfl hI.g2) ?_
  refine WL_val rfl rfl rfl (by first | exact rMoveT rfl rfl | exact rMove rfl) ?_
  refine WL_val rfl rfl rfl (rExtr rfl rfl rfl) ?_
  refine WL_val rfl rfl rfl (rExtr rfl rfl rfl) ?_
  refine WL_val rfl rfl rfl (by first | exact rAsgnS rfl rfl | exact rAsgn rfl) ?_
  refine WL_val rfl rfl rfl (by first | exact rAsgnB rfl rfl | exact rAsgn rfl) ?_
  refine WL_nil ?_
  rw [hlook]
  refine W_seq_cut (fun ρ w => ∃ (A1 : Option Addr) (c1 : Nat), Has ρ [(19, .int .i64 (p : Int)), (18, .int .i64 (order.length : Int)), (17, .slice (some ⟨ob, oo, none⟩) order.length c'), (0, .int .i64 o), (1, .slice (some ⟨ab, ao, none⟩) n c), (7, .map (some b16)), (8, .int .i64 (p : Int)), (10, .pointer (some ⟨b10, 0, none⟩)), (11, .slice A1 st.length c1)] ∧ Rd w (fun _ => True) 1 (.slice A1 st.length c1) st.length (i64s st) ∧ Inv (fun _ => False) w0 w [B b10 29 #[.int .i64 proc, .int .i64 (kn : Int), .int .i64 kind, .int .i64 a, .int .i64 b, .int .i64 res, .int .i64 call, .int .i64 ret], Many 8 (stE8 g L), MapE b16 (stV8 g L)]) ?_ ?_
  · cases hg : g kn with
    | none =>
      rw [hg] at hst
      simp only [Option.map_none, Option.getD_none, Option.isSome_none] at hst ⊢
      subst hst
      refine W_seq ?_
      refine W_region ?_
      refine WL_val rfl rfl rfl (by first | exact rMoveB rfl rfl | exact rMove rfl) ?_
      refine WL_val rfl rfl rfl (by first | exact rNotT rfl rfl | exact rNotF rfl rfl | exact rNot rfl rfl) ?_
      refine WL_nil ?_
      refine W_cond true rfl ?_
      refine W_region ?_
      refine WL_val rfl rfl rfl (by first | exact rMoveI rfl rfl | exact rMove rfl) ?_
      refine WL_call rfl rfl rfl (rCall (vs := [.int .i64 _]) rfl Tryd.func11 rfl rfl rfl) ?_
      refine (start_any o _).mono ?_
      rintro e1 w1 ⟨A1, c1, rfl, hT⟩
      refine ⟨_, rfl, ?_⟩
      replace hI := hI.app1 hT
      refine WL_val rfl rfl rfl (by first | exact rAsgnS rfl rfl | exact rAsgn rfl) ?_
      refine WL_nil ?_
      exact ⟨A1, c1, ⟨rfl, rfl, rfl, rfl, rfl, rfl, rfl, rfl, rfl, trivial⟩, Row_rd hI.g0, hI.d0⟩
    | some s1 =>
      rw [hg] at hst
      simp only [Option.map_some, Option.getD_some, Option.isSome_some] at hst ⊢
      subst hst
      refine W_seq ?_
      refine W_region ?_
      refine WL_val rfl rfl rfl (by first | exact rMoveB rfl rfl | exact rMove rfl) ?_
      refine WL_val rfl rfl rfl (by first | exact rNotT rfl rfl | exact rNotF rfl rfl | exact rNot rfl rfl) ?_
      refine WL_nil ?_
      refine W_cond false rfl ?_
      refine W_skip ?_
      have hE : (stE8 g L kn).Φ _ := hI.d0.many_at hkn
      unfold stE8 at hE
      rw [hg] at hE
      exact ⟨_, _, ⟨rfl, rfl, rfl, rfl, rfl, rfl, rfl, rfl, rfl, trivial⟩, Row_rd hE, hI⟩
  clear hI
  rintro ρ w ⟨A1, c1, hH, hRd, hI⟩
  obtain ⟨σ, rfl⟩ := hH.open
  cases hs : stepF o st kind a b with
  | none =>
    rw [hs] at hrun
    refine W_seq ?_
    refine W_region ?_
    refine WL_val rfl rfl rfl (by first | exact rMoveI rfl rfl | exact rMove rfl) ?_
    refine WL_val rfl rfl rfl (by first | exact rMoveS rfl rfl | exact rMove rfl) ?_
    refine WL_val rfl rfl rfl (by first | exact rFldN (off := 2) rfl (by kernel_rfl) rfl | exact rFld (off := 2) rfl (by kernel_rfl) rfl) ?_
    refine WL_val rfl rfl rfl (by first | exact rLd (v := .int .i64 _) rfl (by kernel_rfl) rfl (by first | exact hI.c0 rfl) | exact rLd rfl (by kernel_rfl) rfl (by first | exact hI.c0 rfl)) ?_
    refine WL_val rfl rfl rfl (by first | exact rFldN (off := 3) rfl (by kernel_rfl) rfl | exact rFld (off := 3) rfl (by kernel_rfl) rfl) ?_
    refine WL_val rfl rfl rfl (by first | exact rLd (v := .int .i64 _) rfl (by kernel_rfl) rfl (by first | exact hI.c0 rfl) | exact rLd rfl (by kernel_rfl) rfl (by first | exact hI.c0 rfl)) ?_
    refine WL_val rfl rfl rfl (by first | exact rFldN (off := 4) rfl (by kernel_rfl) rfl | exact rFld (off := 4) rfl (by kernel_rfl) rfl) ?_
    refine WL_val rfl rfl rfl (by first | exact rLd (v := .int .i64 _) rfl (by kernel_rfl) rfl (by first | exact hI.c0 rfl) | exact rLd rfl (by kernel_rfl) rfl (by first | exact hI.c0 rfl)) ?_
    refine WL_call rfl rfl rfl (rCall (vs := [.int .i64 _, .slice _ _ _, .int .i64 _, .int .i64 _, .int .i64 _]) rfl Tryd.func13 rfl rfl rfl) ?_
    refine (step_any o A1 c1 st kind a b _ _ hRd hsto.1 (by omega) (hk.pure hI.pu)).mono ?_
    rintro e1 w1 hpost
    unfold StepPost at hpost
    rw [hs] at hpost
    obtain ⟨rfl, hp1⟩ := hpost
    refine ⟨_, rfl, ?_⟩
    replace hI := hI.pure hp1
    refine WL_val rfl rfl rfl (by first | exact rMoveT rfl rfl | exact rMove rfl) ?_
    refine WL_val rfl rfl rfl (rExtr rfl rfl rfl) ?_
    refine WL_val rfl rfl rfl (rExtr rfl rfl rfl) ?_
    refine WL_val rfl rfl rfl (rExtr rfl rfl rfl) ?_
    refine WL_val rfl rfl rfl (by first | exact rAsgnS rfl rfl | exact rAsgn rfl) ?_
    refine WL_val rfl rfl rfl (by first | exact rAsgnI rfl rfl | exact rAsgn rfl) ?_
    refine WL_val rfl rfl rfl (by first | exact rAsgnB rfl rfl | exact rAsgn rfl) ?_
    refine WL_nil ?_
    refine W_seq ?_
    refine W_seq ?_
    refine W_region ?_
    refine WL_val rfl rfl rfl (by first | exact rMoveB rfl rfl | exact rMove rfl) ?_
    refine WL_val rfl rfl rfl (by first | exact rNotT rfl rfl | exact rNotF rfl rfl | exact rNot rfl rfl) ?_
    refine WL_val rfl rfl rfl (by first | exact rMoveB rfl rfl | exact rMove rfl) ?_
    first | refine WL_val rfl rfl rfl (by first | exact rFldN (off := 7) rfl (by kernel_rfl) rfl | exact rFld (off := 7) rfl (by kernel_rfl) rfl) ?_ | refine WL_skip rfl rfl rfl ?_
    first | refine WL_val rfl rfl rfl (by first | exact rLd (v := .int .i64 _) rfl (by kernel_rfl) rfl (by first | exact hI.c0 rfl) | exact rLd rfl (by kernel_rfl) rfl (by first | exact hI.c0 rfl)) ?_ | refine WL_skip rfl rfl rfl ?_
    first | refine WL_val rfl rfl rfl (by first | exact rGeqT rfl rfl rfl (by omega) | exact rGeqF rfl rfl rfl (by omega) | exact rGeq rfl rfl rfl) ?_ | refine WL_skip rfl rfl rfl ?_
    first | refine WL_val rfl rfl rfl (by first | exact rMoveB rfl rfl | exact rMove rfl) ?_ | refine WL_skip rfl rfl rfl ?_
    first | refine WL_val rfl rfl rfl (by first | exact rMoveI rfl rfl | exact rMove rfl) ?_ | refine WL_skip rfl rfl rfl ?_
    first | refine WL_val rfl rfl rfl (by first | exact rFldN (off := 5) rfl (by kernel_rfl) rfl | exact rFld (off := 5) rfl (by kernel_rfl) rfl) ?_ | refine WL_skip rfl rfl rfl ?_
    first | refine WL_val rfl rfl rfl (by first | exact rLd (v := .int .i64 _) rfl (by kernel_rfl) rfl (by first | exact hI.c0 rfl) | exact rLd rfl (by kernel_rfl) rfl (by first | exact hI.c0 rfl)) ?_ | refine WL_skip rfl rfl rfl ?_
    first | refine WL_val rfl rfl rfl (by first | exact rNeqT rfl rfl rfl (by omega) | exact rNeqF rfl rfl rfl (by omega) | exact rNeq rfl rfl rfl) ?_ | refine WL_skip rfl rfl rfl ?_
    first | refine WL_val rfl rfl rfl (by first | exact rPickTB rfl rfl rfl | exact rPickFB rfl rfl rfl | exact rPickB rfl rfl rfl rfl) ?_ | refine WL_skip rfl rfl rfl ?_
    refine WL_val rfl rfl rfl (by first | exact rPickTB rfl rfl rfl | exact rPickFB rfl rfl rfl | exact rPickB rfl rfl rfl rfl) ?_
    refine WL_nil ?_
    refine W_cond true rfl ?_
    refine W_seq ?_
    refine W_region ?_
    refine WL_val rfl rfl rfl (by first | exact rMoveI rfl rfl | exact rMove rfl) ?_
    refine WL_val rfl rfl rfl (by first | exact rAsgnI rfl rfl | exact rAsgn rfl) ?_
    refine WL_nil ?_
    refine W_ret ?_
    exact ret1 6 (.inr rfl) rfl ⟨by rw [hrun]; rfl, hI.pu⟩
  | some q =>
    obtain ⟨st', r⟩ := q
    rw [hs] at hrun
    simp only at hrun
    by_cases hret : 0 ≤ ret ∧ r ≠ res
    · rw [if_pos hret] at hrun
      refine W_seq ?_
      refine W_region ?_
      refine WL_val rfl rfl rfl (by first | exact rMoveI rfl rfl | exact rMove rfl) ?_
      refine WL_val rfl rfl rfl (by first | exact rMoveS rfl rfl | exact rMove rfl) ?_
      refine WL_val rfl rfl rfl (by first | exact rFldN (off := 2) rfl (by kernel_rfl) rfl | exact rFld (off := 2) rfl (by kernel_rfl) rfl) ?_
      refine WL_val rfl rfl rfl (by first | exact rLd (v := .int .i64 _) rfl (by kernel_rfl) rfl (by first | exact hI.c0 rfl) | exact rLd rfl (by kernel_rfl) rfl (by first | exact hI.c0 rfl)) ?_
      refine WL_val rfl rfl rfl (by first | exact rFldN (off := 3) rfl (by kernel_rfl) rfl | exact rFld (off := 3) rfl (by kernel_rfl) rfl) ?_
      refine WL_val rfl rfl rfl (by first | exact rLd (v := .int .i64 _) rfl (by kernel_rfl) rfl (by first | exact hI.c0 rfl) | exact rLd rfl (by kernel_rfl) rfl (by first | exact hI.c0 rfl)) ?_
      refine WL_val rfl rfl rfl (by first | exact rFldN (off := 4) rfl (by kernel_rfl) rfl | exact rFld (off := 4) rfl (by kernel_rfl) rfl) ?_
      refine WL_val rfl rfl rfl (by first | exact rLd (v := .int .i64 _) rfl (by kernel_rfl) rfl (by first | exact hI.c0 rfl) | exact rLd rfl (by kernel_rfl) rfl (by first | exact hI.c0 rfl)) ?_
      refine WL_call rfl rfl rfl (rCall (vs := [.int .i64 _, .slice _ _ _, .int .i64 _, .int .i64 _, .int .i64 _]) rfl Tryd.func13 rfl rfl rfl) ?_
      refine (step_any o A1 c1 st kind a b _ _ hRd hsto.1 (by omega) (hk.pure hI.pu)).mono ?_
      rintro e1 w1 hpost
      unfold StepPost at hpost
      rw [hs] at hpost
      obtain ⟨A2, c2, rfl, hT⟩ := hpost
      refine ⟨_, rfl, ?_⟩
      replace hI := hI.app1 hT
      refine WL_val rfl rfl rfl (by first | exact rMoveT rfl rfl | exact rMove rfl) ?_
      refine WL_val rfl rfl rfl (rExtr rfl rfl rfl) ?_
      refine WL_val rfl rfl rfl (rExtr rfl rfl rfl) ?_
      refine WL_val rfl rfl rfl (rExtr rfl rfl rfl) ?_
      refine WL_val rfl rfl rfl (by first | exact rAsgnS rfl rfl | exact rAsgn rfl) ?_
      refine WL_val rfl rfl rfl (by first | exact rAsgnI rfl rfl | exact rAsgn rfl) ?_
      refine WL_val rfl rfl rfl (by first | exact rAsgnB rfl rfl | exact rAsgn rfl) ?_
      refine WL_nil ?_
      obtain ⟨hr0, hrne⟩ := hret
      refine W_seq ?_
      refine W_seq ?_
      refine W_region ?_
      refine WL_val rfl rfl rfl (by first | exact rMoveB rfl rfl | exact rMove rfl) ?_
      refine WL_val rfl rfl rfl (by first | exact rNotT rfl rfl | exact rNotF rfl rfl | exact rNot rfl rfl) ?_
      refine WL_val rfl rfl rfl (by first | exact rMoveB rfl rfl | exact rMove rfl) ?_
      first | refine WL_val rfl rfl rfl (by first | exact rFldN (off := 7) rfl (by kernel_rfl) rfl | exact rFld (off := 7) rfl (by kernel_rfl) rfl) ?_ | refine WL_skip rfl rfl rfl ?_
      first | refine WL_val rfl rfl rfl (by first | exact rLd (v := .int .i64 _) rfl (by kernel_rfl) rfl (by first | exact hI.c0 rfl | exact hI.c1 rfl) | exact rLd rfl (by kernel_rfl) rfl (by first | exact hI.c0 rfl | exact hI.c1 rfl)) ?_ | refine WL_skip rfl rfl rfl ?_
      first | refine WL_val rfl rfl rfl (by first | exact rGeqT rfl rfl rfl (by omega) | exact rGeqF rfl rfl rfl (by omega) | exact rGeq rfl rfl rfl) ?_ | refine WL_skip rfl rfl rfl ?_
      first | refine WL_val rfl rfl rfl (by first | exact rMoveB rfl rfl | exact rMove rfl) ?_ | refine WL_skip rfl rfl rfl ?_
      first | refine WL_val rfl rfl rfl (by first | exact rMoveI rfl rfl | exact rMove rfl) ?_ | refine WL_skip rfl rfl rfl ?_
      first | refine WL_val rfl rfl rfl (by first | exact rFldN (off := 5) rfl (by kernel_rfl) rfl | exact rFld (off := 5) rfl (by kernel_rfl) rfl) ?_ | refine WL_skip rfl rfl rfl ?_
      first | refine WL_val rfl rfl rfl (by first | exact rLd (v := .int .i64 _) rfl (by kernel_rfl) rfl (by first | exact hI.c0 rfl | exact hI.c1 rfl) | exact rLd rfl (by kernel_rfl) rfl (by first | exact hI.c0 rfl | exact hI.c1 rfl)) ?_ | refine WL_skip rfl rfl rfl ?_
      first | refine WL_val rfl rfl rfl (by first | exact rNeqT rfl rfl rfl (by omega) | exact rNeqF rfl rfl rfl (by omega) | exact rNeq rfl rfl rfl) ?_ | refine WL_skip rfl rfl rfl ?_
      first | refine WL_val rfl rfl rfl (by first | exact rPickTB rfl rfl rfl | exact rPickFB rfl rfl rfl | exact rPickB rfl rfl rfl rfl) ?_ | refine WL_skip rfl rfl rfl ?_
      refine WL_val rfl rfl rfl (by first | exact rPickTB rfl rfl rfl | exact rPickFB rfl rfl rfl | exact rPickB rfl rfl rfl rfl) ?_
      refine WL_nil ?_
      refine W_cond true rfl ?_
      refine W_seq ?_
      refine W_region ?_
      refine WL_val rfl rfl rfl (by first | exact rMoveI rfl rfl | exact rMove rfl) ?_
      refine WL_val rfl rfl rfl (by first | exact rAsgnI rfl rfl | exact rAsgn rfl) ?_
      refine WL_nil ?_
      refine W_ret ?_
      exact ret1 6 (.inr rfl) rfl ⟨by rw [hrun]; rfl, hI.pu⟩
    · rw [if_neg hret] at hrun
      have hnext : ∀ k s1, updS g kn st' k = some s1 → okSt o s1 ∧ s1.length ≤ p + 1 + 1 := fun k s1 hk1 => by
        unfold updS at hk1
        split at hk1
        · injection hk1 with hk1
          subst hk1
          exact ⟨stepF_ok hs hsto.1, by have := stepF_len hs; omega⟩
        · have := hok k s1 hk1
          exact ⟨this.1, by omega⟩
      refine W_seq_cut (fun ρ w => ∃ (A2 : Option Addr) (c2 : Nat), Has ρ [(19, .int .i64 (p : Int)), (18, .int .i64 (order.length : Int)), (17, .slice (some ⟨ob, oo, none⟩) order.length c'), (0, .int .i64 o), (1, .slice (some ⟨ab, ao, none⟩) n c), (7, .map (some b16)), (10, .pointer (some ⟨b10, 0, none⟩)), (13, .slice A2 st'.length c2), (14, .int .i64 r), (15, .bool true), (8, .int .i64 (p : Int))] ∧ Inv (fun _ => False) w0 w [StE A2 c2 st', B b10 29 #[.int .i64 proc, .int .i64 (kn : Int), .int .i64 kind, .int .i64 a, .int .i64 b, .int .i64 res, .int .i64 call, .int .i64 ret], Many 8 (stE8 g L), MapE b16 (stV8 g L)]) ?_ ?_
      · refine W_region ?_
        refine WL_val rfl rfl rfl (by first | exact rMoveI rfl rfl | exact rMove rfl) ?_
        refine WL_val rfl rfl rfl (by first | exact rMoveS rfl rfl | exact rMove rfl) ?_
        refine WL_val rfl rfl rfl (by first | exact rFldN (off := 2) rfl (by kernel_rfl) rfl | exact rFld (off := 2) rfl (by kernel_rfl) rfl) ?_
        refine WL_val rfl rfl rfl (by first | exact rLd (v := .int .i64 _) rfl (by kernel_rfl) rfl (by first | exact hI.c0 rfl) | exact rLd rfl (by kernel_rfl) rfl (by first | exact hI.c0 rfl)) ?_
        refine WL_val rfl rfl rfl (by first | exact rFldN (off := 3) rfl (by kernel_rfl) rfl | exact rFld (off := 3) rfl (by kernel_rfl) rfl) ?_
        refine WL_val rfl rfl rfl (by first | exact rLd (v := .int .i64 _) rfl (by kernel_rfl) rfl (by first | exact hI.c0 rfl) | exact rLd rfl (by kernel_rfl) rfl (by first | exact hI.c0 rfl)) ?_
        refine WL_val rfl rfl rfl (by first | exact rFldN (off := 4) rfl (by kernel_rfl) rfl | exact rFld (off := 4) rfl (by kernel_rfl) rfl) ?_
        refine WL_val rfl rfl rfl (by first | exact rLd (v := .int .i64 _) rfl (by kernel_rfl) rfl (by first | exact hI.c0 rfl) | exact rLd rfl (by kernel_rfl) rfl (by first | exact hI.c0 rfl)) ?_
        refine WL_call rfl rfl rfl (rCall (vs := [.int .i64 _, .slice _ _ _, .int .i64 _, .int .i64 _, .int .i64 _]) rfl Tryd.func13 rfl rfl rfl) ?_
        refine (step_any o A1 c1 st kind a b _ _ hRd hsto.1 (by omega) (hk.pure hI.pu)).mono ?_
        rintro e1 w1 hpost
        unfold StepPost at hpost
        rw [hs] at hpost
        obtain ⟨A2, c2, rfl, hT⟩ := hpost
        refine ⟨_, rfl, ?_⟩
        replace hI := hI.app1 hT
        refine WL_val rfl rfl rfl (by first | exact rMoveT rfl rfl | exact rMove rfl) ?_
        refine WL_val rfl rfl rfl (rExtr rfl rfl rfl) ?_
        refine WL_val rfl rfl rfl (rExtr rfl rfl rfl) ?_
        refine WL_val rfl rfl rfl (rExtr rfl rfl rfl) ?_
        refine WL_val rfl rfl rfl (by first | exact rAsgnS rfl rfl | exact rAsgn rfl) ?_
        refine WL_val rfl rfl rfl (by first | exact rAsgnI rfl rfl | exact rAsgn rfl) ?_
        refine WL_val rfl rfl rfl (by first | exact rAsgnB rfl rfl | exact rAsgn rfl) ?_
        refine WL_nil ?_
        exact ⟨A2, c2, ⟨rfl, rfl, rfl, rfl, rfl, rfl, rfl, rfl, rfl, rfl, rfl, trivial⟩, hI⟩
      clear hI
      rintro ρ w ⟨A2, c2, hH, hI⟩
      obtain ⟨σ, rfl⟩ := hH.open
      refine W_seq_cut (fun ρ w => Has ρ [(19, .int .i64 (p : Int)), (18, .int .i64 (order.length : Int)), (17, .slice (some ⟨ob, oo, none⟩) order.length c'), (0, .int .i64 o), (1, .slice (some ⟨ab, ao, none⟩) n c), (7, .map (some b16)), (10, .pointer (some ⟨b10, 0, none⟩)), (13, .slice A2 st'.length c2)] ∧ Inv (fun _ => False) w0 w [StE A2 c2 st', B b10 29 #[.int .i64 proc, .int .i64 (kn : Int), .int .i64 kind, .int .i64 a, .int .i64 b, .int .i64 res, .int .i64 call, .int .i64 ret], Many 8 (stE8 g L), MapE b16 (stV8 g L)]) ?_ ?_
      · by_cases hr0 : 0 ≤ ret
        · have hre : r = res := by
            rcases Classical.em (r = res) with h1 | h1
            · exact h1
            · exact absurd ⟨hr0, h1⟩ hret
          refine W_seq ?_
          refine W_region ?_
          refine WL_val rfl rfl rfl (by first | exact rMoveB rfl rfl | exact rMove rfl) ?_
          refine WL_val rfl rfl rfl (by first | exact rNotT rfl rfl | exact rNotF rfl rfl | exact rNot rfl rfl) ?_
          refine WL_val rfl rfl rfl (by first | exact rMoveB rfl rfl | exact rMove rfl) ?_
          first | refine WL_val rfl rfl rfl (by first | exact rFldN (off := 7) rfl (by kernel_rfl) rfl | exact rFld (off := 7) rfl (by kernel_rfl) rfl) ?_ | refine WL_skip rfl rfl rfl ?_
          first | refine WL_val rfl rfl rfl (by first | exact rLd (v := .int .i64 _) rfl (by kernel_rfl) rfl (by first | exact hI.c0 rfl | exact hI.c1 rfl) | exact rLd rfl (by kernel_rfl) rfl (by first | exact hI.c0 rfl | exact hI.c1 rfl)) ?_ | refine WL_skip rfl rfl rfl ?_
          first | refine WL_val rfl rfl rfl (by first | exact rGeqT rfl rfl rfl (by omega) | exact rGeqF rfl rfl rfl (by omega) | exact rGeq rfl rfl rfl) ?_ | refine WL_skip rfl rfl rfl ?_
          first | refine WL_val rfl rfl rfl (by first | exact rMoveB rfl rfl | exact rMove rfl) ?_ | refine WL_skip rfl rfl rfl ?_
          first | refine WL_val rfl rfl rfl (by first | exact rMoveI rfl rfl | exact rMove rfl) ?_ | refine WL_skip rfl rfl rfl ?_
          first | refine WL_val rfl rfl rfl (by first | exact rFldN (off := 5) rfl (by kernel_rfl) rfl | exact rFld (off := 5) rfl (by kernel_rfl) rfl) ?_ | refine WL_skip rfl rfl rfl ?_
          first | refine WL_val rfl rfl rfl (by first | exact rLd (v := .int .i64 _) rfl (by kernel_rfl) rfl (by first | exact hI.c0 rfl | exact hI.c1 rfl) | exact rLd rfl (by kernel_rfl) rfl (by first | exact hI.c0 rfl | exact hI.c1 rfl)) ?_ | refine WL_skip rfl rfl rfl ?_
          first | refine WL_val rfl rfl rfl (by first | exact rNeqT rfl rfl rfl (by omega) | exact rNeqF rfl rfl rfl (by omega) | exact rNeq rfl rfl rfl) ?_ | refine WL_skip rfl rfl rfl ?_
          first | refine WL_val rfl rfl rfl (by first | exact rPickTB rfl rfl rfl | exact rPickFB rfl rfl rfl | exact rPickB rfl rfl rfl rfl) ?_ | refine WL_skip rfl rfl rfl ?_
          refine WL_val rfl rfl rfl (by first | exact rPickTB rfl rfl rfl | exact rPickFB rfl rfl rfl | exact rPickB rfl rfl rfl rfl) ?_
          refine WL_nil ?_
          refine W_cond false rfl ?_
          refine W_skip ?_
          exact ⟨⟨rfl, rfl, rfl, rfl, rfl, rfl, rfl, rfl, trivial⟩, hI⟩
        · refine W_seq ?_
          refine W_region ?_
          refine WL_val rfl rfl rfl (by first | exact rMoveB rfl rfl | exact rMove rfl) ?_
          refine WL_val rfl rfl rfl (by first | exact rNotT rfl rfl | exact rNotF rfl rfl | exact rNot rfl rfl) ?_
          refine WL_val rfl rfl rfl (by first | exact rMoveB rfl rfl | exact rMove rfl) ?_
          first | refine WL_val rfl rfl rfl (by first | exact rFldN (off := 7) rfl (by kernel_rfl) rfl | exact rFld (off := 7) rfl (by kernel_rfl) rfl) ?_ | refine WL_skip rfl rfl rfl ?_
          first | refine WL_val rfl rfl rfl (by first | exact rLd (v := .int .i64 _) rfl (by kernel_rfl) rfl (by first | exact hI.c0 rfl | exact hI.c1 rfl) | exact rLd rfl (by kernel_rfl) rfl (by first | exact hI.c0 rfl | exact hI.c1 rfl)) ?_ | refine WL_skip rfl rfl rfl ?_
          first | refine WL_val rfl rfl rfl (by first | exact rGeqT rfl rfl rfl (by omega) | exact rGeqF rfl rfl rfl (by omega) | exact rGeq rfl rfl rfl) ?_ | refine WL_skip rfl rfl rfl ?_
          first | refine WL_val rfl rfl rfl (by first | exact rMoveB rfl rfl | exact rMove rfl) ?_ | refine WL_skip rfl rfl rfl ?_
          first | refine WL_val rfl rfl rfl (by first | exact rMoveI rfl rfl | exact rMove rfl) ?_ | refine WL_skip rfl rfl rfl ?_
          first | refine WL_val rfl rfl rfl (by first | exact rFldN (off := 5) rfl (by kernel_rfl) rfl | exact rFld (off := 5) rfl (by kernel_rfl) rfl) ?_ | refine WL_skip rfl rfl rfl ?_
          first | refine WL_val rfl rfl rfl (by first | exact rLd (v := .int .i64 _) rfl (by kernel_rfl) rfl (by first | exact hI.c0 rfl | exact hI.c1 rfl) | exact rLd rfl (by kernel_rfl) rfl (by first | exact hI.c0 rfl | exact hI.c1 rfl)) ?_ | refine WL_skip rfl rfl rfl ?_
          first | refine WL_val rfl rfl rfl (by first | exact rNeqT rfl rfl rfl (by omega) | exact rNeqF rfl rfl rfl (by omega) | exact rNeq rfl rfl rfl) ?_ | refine WL_skip rfl rfl rfl ?_
          first | refine WL_val rfl rfl rfl (by first | exact rPickTB rfl rfl rfl | exact rPickFB rfl rfl rfl | exact rPickB rfl rfl rfl rfl) ?_ | refine WL_skip rfl rfl rfl ?_
          refine WL_val rfl rfl rfl (by first | exact rPickTB rfl rfl rfl | exact rPickFB rfl rfl rfl | exact rPickB rfl rfl rfl rfl) ?_
          refine WL_nil ?_
          refine W_cond false rfl ?_
          refine W_skip ?_
          exact ⟨⟨rfl, rfl, rfl, rfl, rfl, rfl, rfl, rfl, trivial⟩, hI⟩
      clear hI
      rintro ρ w ⟨hH, hI⟩
      obtain ⟨σ, rfl⟩ := hH.open
      refine W_region ?_
      refine WL_val rfl rfl rfl (by first | exact rMoveM rfl rfl | exact rMove rfl) ?_
      refine WL_val rfl rfl rfl (by first | exact rFldN (off := 1) rfl (by kernel_rfl) rfl | exact rFld (off := 1) rfl (by kernel_rfl) rfl) ?_
      refine WL_val rfl rfl rfl (by first | exact rLd (v := .int .i64 _) rfl (by kernel_rfl) rfl (by first | exact hI.c0 rfl | exact hI.c1 rfl) | exact rLd rfl (by kernel_rfl) rfl (by first | exact hI.c0 rfl | exact hI.c1 rfl)) ?_
      refine WL_val rfl rfl rfl (by first | exact rMoveS rfl rfl | exact rMove rfl) ?_
      refine WL_mapSet 3 rfl hI rfl rfl rfl Tryd.underlying64 Tryd.underlying3 rfl rfl rfl ?_
      clear hI; intro w hI
      replace hI : Inv (fun _ => False) w0 w [StE A2 c2 st', B b10 29 _, Many 8 (stE8 g L), MapE b16 (fun j => if j = (kn : Int) then some (.slice A2 st'.length c2) else stV8 g L j)] := hI
      rw [stV8_set (k := kn) rfl hkn] at hI
      replace hI := hI.d1.many_set hkn
      refine WL_nil ?_
      refine W_region ?_
      refine WL_val rfl rfl rfl (by first | exact rInc rfl rfl rfl (by omega) | exact rAdd rfl rfl rfl (by omega) | exact rAddW rfl rfl rfl) ?_
      refine WL_val rfl rfl rfl (by first | exact rMoveI rfl rfl | exact rMove rfl) ?_
      refine WL_nil ?_
      refine ⟨order.length - (p + 1), by omega, p + 1, updS g kn st', updL L kn A2 c2, rfl, by omega, hrun, hnext, ⟨rfl, rfl, rfl, rfl, rfl, rfl, trivial⟩, ?_⟩
      exact hI.many_congr fun j hj => stE8_set g L kn st' A2 c2 j
end Go.Proofs.YtlmpolmalgpodaaDoor
