/- linear: verdict, Check, Same. -/
import Derived.Test.YtijgkocolajghaaDoorLin8
namespace Go.Proofs.YtijgkocolajghaaDoor
open Go.RowKit
set_option linter.unusedVariables false
set_option linter.unusedSimpArgs false
/-- A cell of a block. -/
def CellE (g j : Nat) (v : Value) : Ent := ⟨fun k => k = g, fun w => w.cell? ⟨g, j, none⟩ = some v⟩
theorem CellE.ok {w : World} {g j : Nat} {v : Value} (h : w.cell? ⟨g, j, none⟩ = some v) : (CellE g j v).ok w := by
  refine Ent.mk_ok h (fun k hk => ?_) (fun S w1 w2 hc hS h1 => ?_)
  · have : k = g := hk
    subst this
    exact World.block_lt_of_cell? w _ h
  · exact (World.cell?_of_block (hc.block g (World.block_lt_of_cell? w1 _ h1) (hS g rfl))).trans h1
section
variable {S : Nat → Prop} {w0 w : World} {H : List Ent}
theorem Inv.cellE {g t j : Nat} {cs : Array Value} {v : Value} (h : Inv S w0 w (B g t cs :: H)) (hc : cs[j]? = some v) : Inv S w0 w [CellE g j v] :=
  ⟨h.chg, fun e he => by rw [List.mem_singleton.1 he]; exact CellE.ok (h.c0 hc), fun e he k hk => by rw [List.mem_singleton.1 he] at hk; exact h.own (B g t cs) (by simp) k hk, List.pairwise_singleton ..⟩
theorem Inv.mapE {o : Int} {A : Option Addr} {n c bud f db eb sb : Nat} {L : Loc} {sts : Nat → List Int} {A' : Option Addr} {m c' : Nat} (h : Inv S w0 w (B sb 64 (srcC o A n c bud f db eb L sts A' m c') :: H)) : Inv S w0 w [CellE sb 14 (.map (some eb))] := h.cellE rfl
theorem Inv.all0 (h : Inv (fun _ => False) w0 w H) {size n : Nat} {v : Value} {xs : List Value} {D : Nat → Prop} (hr : Rd w0 D size v n xs) (hs : 0 < size) : Rd w (fun b => ¬ DL H b) size v n xs := by
  have h' : Inv (DL []) w0 w H := ⟨h.chg.mono (fun _ _ hk => hk.elim), h.ok, fun e he k hk => (h.own e he k hk).imp (fun hh => hh.elim) id, h.apart⟩
  exact Rd.now h' (hr.mono fun _ _ => fun ⟨e, he, _⟩ => by cases he) hs
theorem Inv.kn0 (h : Inv (fun _ => False) w0 w H) (hk : KnOk w0) : KnOk w ∧ ¬ DL H 1 := by
  have h' : Inv (DL []) w0 w H := ⟨h.chg.mono (fun _ _ hk => hk.elim), h.ok, fun e he k hk => (h.own e he k hk).imp (fun hh => hh.elim) id, h.apart⟩
  exact kn_now h' hk (fun ⟨e, he, _⟩ => by cases he)
theorem Many.rd {n i : Nat} {es : Nat → Ent} {l : List Ent} {A : Option Addr} {c : Nat} {st : List Int} (hI : Inv S w0 w (Many n es :: l)) (hi : i < n) (he : es i = StE A c st) : Rd w (fun b => ¬ DL l b) 1 (.slice A st.length c) st.length (i64s st) := by
  have hg : (es i).Φ w := hI.many_at hi
  rw [he] at hg
  have hg : w.ownsRow 0 3 1 (.slice A st.length c) st.length (i64s st) := hg
  refine Rd.of_own hg fun k hk _ => ?_
  rintro ⟨e, hel, hke⟩
  rw [ownBlock_slice] at hk
  exact (List.pairwise_cons.1 hI.apart).1 e hel k ⟨i, hi, by rw [he]; exact hk⟩ hke
end
/-- The first k states are laid. -/
def stK (o : Int) (k : Nat) : Nat → List Int := fun j => if j < k then startF o else []
def locK (L : Loc) (k : Nat) : Loc := fun j => if j < k then L j else (none, 0)
def ordF (r : Int × SSt) : List Int := if r.1 = 1 then r.2.ord else []
def VerdPost (o : Int) (l : List Op8) (ab : Op8 → Op8 → Bool) (bud : Int) (w0 : World) (en : Ending) (w' : World) : Prop :=
  (OkLin o l bud ∧ ∃ A' c', en = .returned (.tuple #[.agg #[.int .i64 (verdF o l ab bud.toNat).1, .slice A' (ordF (verdF o l ab bud.toNat)).length c', .int .i64 ((verdF o l ab bud.toNat).2.ent.length : Int)], .nilIface]) ∧ Inv (fun _ => False) w0 w' [StE A' c' (ordF (verdF o l ab bud.toNat))]) ∨
  (¬ OkLin o l bud ∧ (∃ x, IsErr x ∧ en = .returned (.tuple #[.agg #[.int .i64 0, .slice none 0 0, .int .i64 0], x])) ∧ Pure w0 w')
theorem stK_succ (o : Int) (k : Nat) : stSet (stK o k) k (startF o) = stK o (k + 1) := by
  funext j
  unfold stSet stK
  by_cases h : j = k
  · subst h; simp
  · rw [if_neg h]
    by_cases h2 : j < k
    · rw [if_pos h2, if_pos (by omega)]
    · rw [if_neg h2, if_neg (by omega)]
theorem locK_succ (L : Loc) (k : Nat) (A1 : Option Addr) (c1 : Nat) : updL (locK L k) k A1 c1 = locK (updL L k A1 c1) (k + 1) := by
  funext j
  unfold updL locK
  by_cases h : j = k
  · subst h; simp
  · rw [if_neg h]
    by_cases h2 : j < k
    · rw [if_pos h2, if_pos (by omega)]; simp [h]
    · rw [if_neg h2, if_neg (by omega)]
set_option maxHeartbeats 8000000 in
theorem verdict_any (o : Int) (A : Option Addr) (n c : Nat) (l : List Op8) (bud : Int) (f : Nat) (ab : Op8 → Op8 → Bool) (D : Nat → Prop) (w0 : World) (h : OpsR w0 D (.slice A n c) l) (hk : KnOk w0) (hf : AheadC f ab) :
    Calls Tryd.prog 18 #[.int .i64 o, .slice A n c, .int .i64 bud, .func (.func f) #[] #[]] w0 (VerdPost o l ab bud w0) := by
  obtain ⟨hn, hc1, hc2⟩ := h.len
  subst hn
  have hI := Inv.start (fun _ => False) w0
  refine calls_of_W (N := Tryd.f18.ntmps) Tryd.func18 rfl rfl rfl ?_
  refine W_seq ?_
  refine W_region ?_
  refine WL_alloc (u := .agg #[.int .i64 0, .slice none 0 0, .int .i64 0]) (vs := #[.int .i64 0, .slice none 0 0, .int .i64 0]) hI rfl rfl rfl rfl (by kernel_rfl) rfl ?_
  clear hI; rintro b8 w - - hI
  refine WL_val rfl rfl rfl (by first | exact rAsgnN rfl rfl | exact rAsgnE rfl rfl | exact rAsgn rfl) ?_
  refine WL_nil ?_
  by_cases hok : OkLin o l bud
  rotate_left
  · refine W_seq ?_
    refine W_seq ?_
    refine W_region ?_
    refine WL_val rfl rfl rfl (by first | exact rMoveI rfl rfl | exact rMove rfl) ?_
    refine WL_val rfl rfl rfl (by first | exact rMoveS rfl rfl | exact rMove rfl) ?_
    refine WL_val rfl rfl rfl (by first | exact rMoveI rfl rfl | exact rMove rfl) ?_
    refine WL_call rfl rfl rfl (rCall (vs := [.int .i64 _, .slice _ _ _, .int .i64 _]) rfl Tryd.func23 rfl rfl rfl) ?_
    refine (lcheck_any o A l.length c l bud D _ (h.pure hI.pu) (hk.pure hI.pu)).mono ?_
    rintro e w1 ⟨hp, ⟨h1, _⟩ | ⟨_, x, hx, rfl⟩⟩
    · exact absurd h1 hok
    refine ⟨_, rfl, ?_⟩
    obtain ⟨z, rfl⟩ := hx
    replace hI := hI.pure hp
    refine WL_val rfl rfl rfl (by first | exact rAsgnN rfl rfl | exact rAsgnE rfl rfl | exact rAsgn rfl) ?_
    refine WL_nil ?_
    refine W_seq ?_
    refine W_region ?_
    refine WL_val rfl rfl rfl (by first | exact rMoveN rfl rfl | exact rMoveE rfl rfl | exact rMove rfl) ?_
    refine WL_val rfl rfl rfl (by first | exact rIfaceNe rfl Tryd.underlying24 rfl rfl | exact rNilNe rfl Tryd.underlying24 rfl) ?_
    refine WL_nil ?_
    refine W_cond true rfl ?_
    refine W_seq ?_
    refine W_region ?_
    refine WL_val rfl rfl rfl (rBuild (qs := []) (vs := [_, _, _]) [.int .i64 0, .slice none 0 0, .int .i64 0] [] rfl rfl rfl (fun _ => by kernel_rfl)) ?_
    refine WL_val rfl rfl rfl (by first | exact rMoveN rfl rfl | exact rMoveE rfl rfl | exact rMove rfl) ?_
    first | refine WL_stw0 (u := .agg _) (vs := #[_, _, _]) (n := 3) hI rfl rfl rfl rfl rfl rfl (by kernel_rfl) rfl rfl rfl ?_ | refine WL_stw1 (u := .agg _) (vs := #[_, _, _]) (n := 3) hI rfl rfl rfl rfl rfl rfl (by kernel_rfl) rfl rfl rfl ?_ | refine WL_stw2 (u := .agg _) (vs := #[_, _, _]) (n := 3) hI rfl rfl rfl rfl rfl rfl (by kernel_rfl) rfl rfl rfl ?_ | refine WL_stw3 (u := .agg _) (vs := #[_, _, _]) (n := 3) hI rfl rfl rfl rfl rfl rfl (by kernel_rfl) rfl rfl rfl ?_ | refine WL_stw4 (u := .agg _) (vs := #[_, _, _]) (n := 3) hI rfl rfl rfl rfl rfl rfl (by kernel_rfl) rfl rfl rfl ?_ | refine WL_stw5 (u := .agg _) (vs := #[_, _, _]) (n := 3) hI rfl rfl rfl rfl rfl rfl (by kernel_rfl) rfl rfl rfl ?_
    clear hI; intro w hI
    refine WL_val rfl rfl rfl (by first | exact rAsgnN rfl rfl | exact rAsgnE rfl rfl | exact rAsgn rfl) ?_
    refine WL_nil ?_
    refine W_ret ?_
    refine retC2 (n := 3) (t := 30) (.inr rfl) rfl rfl (by kernel_rfl) (by kernel_rfl) rfl hI.g0 ?_
    exact .inr ⟨hok, ⟨_, ⟨z, rfl⟩, rfl⟩, hI.pu⟩
  have hA := argsOk hok
  obtain ⟨hb0, hb1⟩ : 0 ≤ bud ∧ bud ≤ 1000000 := ⟨hok.2.2.1, hok.2.2.2.1⟩
  have h40 : l.length ≤ 40 := hok.2.2.2.2.1.1
  obtain ⟨bn, rfl⟩ : ∃ bn : Nat, bud = (bn : Int) := ⟨bud.toNat, by omega⟩
  refine W_seq ?_
  refine W_seq ?_
  refine W_region ?_
  refine WL_val rfl rfl rfl (by first | exact rMoveI rfl rfl | exact rMove rfl) ?_
  refine WL_val rfl rfl rfl (by first | exact rMoveS rfl rfl | exact rMove rfl) ?_
  refine WL_val rfl rfl rfl (by first | exact rMoveI rfl rfl | exact rMove rfl) ?_
  refine WL_call rfl rfl rfl (rCall (vs := [.int .i64 _, .slice _ _ _, .int .i64 _]) rfl Tryd.func23 rfl rfl rfl) ?_
  refine (lcheck_any o A l.length c l _ D _ (h.pure hI.pu) (hk.pure hI.pu)).mono ?_
  rintro e w1 ⟨hp, ⟨_, rfl⟩ | ⟨h1, _⟩⟩
  rotate_left
  · exact absurd hok h1
  refine ⟨_, rfl, ?_⟩
  replace hI := hI.pure hp
  refine WL_val rfl rfl rfl (by first | exact rAsgnN rfl rfl | exact rAsgnE rfl rfl | exact rAsgn rfl) ?_
  refine WL_nil ?_
  refine W_seq ?_
  refine W_region ?_
  refine WL_val rfl rfl rfl (by first | exact rMoveN rfl rfl | exact rMoveE rfl rfl | exact rMove rfl) ?_
  refine WL_val rfl rfl rfl (by first | exact rIfaceNe rfl Tryd.underlying24 rfl rfl | exact rNilNe rfl Tryd.underlying24 rfl) ?_
  refine WL_nil ?_
  refine W_cond false rfl ?_
  refine W_skip ?_
  refine W_seq ?_
  refine W_region ?_
  refine WL_val rfl rfl rfl (by first | exact rMoveI rfl rfl | exact rMove rfl) ?_
  refine WL_val rfl rfl rfl (by first | exact rMoveS rfl rfl | exact rMove rfl) ?_
  refine WL_val rfl rfl rfl (by first | exact rMoveI rfl rfl | exact rMove rfl) ?_
  refine WL_val rfl rfl rfl (by first | exact rMoveF rfl rfl | exact rMove rfl) ?_
  refine WL_val rfl rfl rfl (by first | exact rMoveS rfl rfl | exact rMove rfl) ?_
  refine WL_val rfl rfl rfl (rLen rfl Tryd.underlying22 rfl) ?_
  refine WL_mk (by_ := 1) (z := .bool false) hI rfl rfl rfl rfl rfl rfl Tryd.underlying60 (by kernel_rfl) rfl (by omega) (by omega) ?_
  clear hI; rintro b28 w - - hI
  refine WL_mkSet hI rfl rfl rfl rfl ?_
  clear hI; rintro b29 w - - hI
  refine WL_val rfl rfl rfl (rBuild (qs := [(0, .int .i64 _), (1, .slice _ _ _), (2, .int .i64 _), (3, .func _ _ _), (4, .slice _ _ _), (7, .map _)]) (vs := [_, _, _, _, _, _, _, _, _, _, _, _, _, _, _]) [.int .i64 0, .slice none 0 0, .int .i64 0, .nilFunc, .slice none 0 0, .slice none 0 0, .slice none 0 0, .slice none 0 0, .slice none 0 0, .slice none 0 0, .slice none 0 0, .slice none 0 0, .slice none 0 0, .slice none 0 0, .map none] [0, 1, 2, 3, 4, 14] rfl rfl rfl (fun _ => by kernel_rfl)) ?_
  refine WL_box (u := .agg _) (vs := #[_, _, _, _, _, _, _, _, _, _, _, _, _, _, _]) hI rfl rfl rfl rfl rfl rfl ?_
  clear hI; rintro b31 w - - hI
  refine WL_val rfl rfl rfl (by first | exact rAsgnP rfl rfl | exact rAsgn rfl) ?_
  refine WL_nil ?_
  have hI' := hI
  rw [boolC_zero] at hI'
  replace hI : Inv (fun _ => False) w0 w [Many 0 (fun j => StE ((fun _ => (none, 0) : Loc) j).1 ((fun _ => (none, 0) : Loc) j).2 (startF o)), B b31 64 (srcC o A l.length c bn f b28 b29 (locK (fun _ => (none, 0)) 0) (stK o 0) none 0 0), B b28 4 (boolC l.length (fun _ => false)), StE none 0 [], SetE b29 [], B b8 30 #[.int .i64 0, .slice none 0 0, .int .i64 0]] := by
    have h1 := (hI'.sw1).fresh (e := StE none 0 []) (Pure.refl w) (Row.nil w 0 3 1) (fun k hk => by cases hk)
    exact h1.sw0.sw1.many_nil _
  clear hI'
  refine W_seq_cut (fun ρ w => ∃ L : Loc, Has ρ [(0, .int .i64 o), (11, .pointer (some ⟨b31, 0, none⟩)), (8, .pointer (some ⟨b8, 0, none⟩))] ∧ Inv (fun _ => False) w0 w [Many 8 (fun j => StE (L j).1 (L j).2 (startF o)), B b31 64 (srcC o A l.length c bn f b28 b29 (locK L 8) (stK o 8) none 0 0), B b28 4 (boolC l.length (fun _ => false)), StE none 0 [], SetE b29 [], B b8 30 #[.int .i64 0, .slice none 0 0, .int .i64 0]]) ?_ ?_
  · refine W_seq ?_
    refine W_region ?_
    refine WL_val rfl rfl rfl (by first | exact rMoveI rfl rfl | exact rMove rfl) ?_
    refine WL_nil ?_
    refine W_block ?_
    refine W_loopN (fun mu ρ w => ∃ (k : Nat) (L : Loc), mu = 8 - k ∧ k ≤ 8 ∧ Has ρ [(32, .int .i64 (k : Int)), (0, .int .i64 o), (11, .pointer (some ⟨b31, 0, none⟩)), (8, .pointer (some ⟨b8, 0, none⟩))] ∧ Inv (fun _ => False) w0 w [Many k (fun j => StE (L j).1 (L j).2 (startF o)), B b31 64 (srcC o A l.length c bn f b28 b29 (locK L k) (stK o k) none 0 0), B b28 4 (boolC l.length (fun _ => false)), StE none 0 [], SetE b29 [], B b8 30 #[.int .i64 0, .slice none 0 0, .int .i64 0]]) 8
      ⟨0, _, rfl, by omega, ⟨rfl, rfl, rfl, rfl, trivial⟩, hI⟩ ?_
    clear hI
    rintro mu ρ w ⟨k, L, rfl, hk8, hH, hI⟩
    obtain ⟨σ, rfl⟩ := hH.open
    by_cases hk : k < 8
    rotate_left
    · obtain rfl : k = 8 := by omega
      refine W_seq ?_
      refine W_region ?_
      refine WL_val rfl rfl rfl (by first | exact rLssT rfl rfl rfl (by omega) | exact rLssF rfl rfl rfl (by omega) | exact rLss rfl rfl rfl) ?_
      refine WL_nil ?_
      refine W_seq ?_
      refine W_cond false rfl ?_
      refine W_exit ?_
      exact ⟨L, ⟨rfl, rfl, rfl, trivial⟩, hI⟩
    refine W_seq ?_
    refine W_region ?_
    refine WL_val rfl rfl rfl (by first | exact rLssT rfl rfl rfl (by omega) | exact rLssF rfl rfl rfl (by omega) | exact rLss rfl rfl rfl) ?_
    refine WL_nil ?_
    refine W_seq ?_
    refine W_cond true rfl ?_
    refine W_skip ?_
    refine W_seq ?_
    refine W_block ?_
    refine W_seq ?_
    refine W_region ?_
    refine WL_val rfl rfl rfl (by first | exact rMoveI rfl rfl | exact rMove rfl) ?_
    refine WL_val rfl rfl rfl (by first | exact rAsgnI rfl rfl | exact rAsgn rfl) ?_
    refine WL_nil ?_
    refine W_draw (by kernel_rfl) ?_
    refine WA_inv (T := [7]) hI.drew ?_
    intro Sx hSx hXS
    replace hI := hI.drew
    refine WT_take 0 rfl rfl (by kernel_rfl) (hXS _ hI) rfl (fun W hW => have hI := hSx W hW; (by first | exact rMoveP rfl rfl | exact rMove rfl)) ?_
    refine WT_take 1 rfl rfl (by kernel_rfl) (hXS _ hI) rfl (fun W hW => have hI := hSx W hW; (by first | exact rMoveI rfl rfl | exact rMove rfl)) ?_
    refine WT_take 2 rfl rfl (by kernel_rfl) (hXS _ hI) rfl (fun W hW => have hI := hSx W hW; (by first | exact rMoveI rfl rfl | exact rMove rfl)) ?_
    refine WT_take 4 rfl rfl (by kernel_rfl) (hXS _ hI) rfl (fun W hW => have hI := hSx W hW; (rNilChk rfl rfl)) ?_
    refine WT_take 5 rfl rfl (by kernel_rfl) (hXS _ hI) rfl (fun W hW => have hI := hSx W hW; (by first | exact rFldN (off := 6) rfl (by kernel_rfl) rfl | exact rFld (off := 6) rfl (by kernel_rfl) rfl)) ?_
    refine WT_one 3 rfl (by kernel_rfl) rfl ?_
    refine WL_call rfl rfl rfl (rCall (vs := [.int .i64 _]) rfl Tryd.func24 rfl rfl rfl) ?_
    refine (start_any o _).mono ?_
    rintro e w1 ⟨A1, c1, rfl, hT⟩
    refine ⟨_, rfl, ?_⟩
    replace hI := hI.app1 hT
    refine WL_nil ⟨hXS _ hI.d0, ?_⟩
    refine WT_take 6 rfl rfl (by kernel_rfl) (hXS _ hI.d0) rfl (fun W hW => have hI := hSx W hW; (rIdxArr (sz := 1) (i := k) rfl Tryd.underlying62 (by kernel_rfl) rfl rfl rfl hk)) ?_
    refine WT_A (by kernel_rfl) ?_
    clear hXS hSx
    refine WA_one 7 rfl (by kernel_rfl) ?_
    refine WL_st 2 rfl (u := .slice A1 (startF o).length c1) (j := 6 + k * 1) hI rfl rfl rfl rfl rfl rfl (by kernel_rfl) rfl (by simp [Nat.blt, srcC]; omega) rfl ?_
    clear hI; intro w hI
    simp only [List.set_cons_succ, List.set_cons_zero] at hI
    rw [Nat.mul_one, srcC_set hk, stK_succ, locK_succ] at hI
    refine WL_nil ?_
    refine WA_end (by kernel_rfl) ?_
    replace hI := (hI.many_push).many_congr (es' := fun j => StE (updL L k A1 c1 j).1 (updL L k A1 c1 j).2 (startF o)) (fun j hj => by
      unfold updL
      by_cases hjk : j = k
      · rw [if_pos hjk, if_pos hjk]
      · rw [if_neg hjk, if_neg hjk])
    refine W_region ?_
    refine WL_val rfl rfl rfl (by first | exact rInc rfl rfl rfl (by omega) | exact rAdd rfl rfl rfl (by omega) | exact rAddW rfl rfl rfl) ?_
    refine WL_val rfl rfl rfl (by first | exact rMoveI rfl rfl | exact rMove rfl) ?_
    refine WL_nil ?_
    exact ⟨8 - (k + 1), by omega, k + 1, _, rfl, by omega, ⟨rfl, rfl, rfl, rfl, trivial⟩, hI⟩
  clear hI
  rintro ρ w ⟨L, hH, hI⟩
  obtain ⟨σ, rfl⟩ := hH.open
  generalize hL8 : locK L 8 = L8 at hI
  generalize hvb : B b8 30 #[.int .i64 0, .slice none 0 0, .int .i64 0] = VB at hI
  have hlen0 : undn l.length (startS o).dn = l.length := undn_start l.length
  have hcall : ∀ (W : World) (H : List Ent), Inv (fun _ => False) w0 W (prt b31 o A l.length c bn f b28 b29 L8 (startS o) none 0 ++ Many 8 (fun j => StE (L j).1 (L j).2 (startF o)) :: H) → Calls Tryd.prog 25 #[.pointer (some ⟨b31, 0, none⟩)] W fun en w' => ∃ L' A'' c'', en = .returned (.int .i64 (verdF o l ab bn).1) ∧ Inv (fun _ => False) w0 w' (prt b31 o A l.length c bn f b28 b29 L' (verdF o l ab bn).2 A'' c'' ++ Many 8 (fun j => StE (L j).1 (L j).2 (startF o)) :: H) := by
    intro W H hI
    have hIm := hI.perm (List.perm_middle)
    have hst : StOk W (prt b31 o A l.length c bn f b28 b29 L8 (startS o) none 0) L8 (startS o).sts := by
      intro j hj
      have e1 : L8 j = L j := by rw [← hL8]; unfold locK; rw [if_pos hj]
      have e2 : (startS o).sts j = startF o := by unfold startS; exact if_pos hj
      rw [e1, e2]
      exact (Many.rd (st := startF o) hIm hj rfl).mono fun _ hb => DL.mono (fun e he => List.mem_append_left _ he) hb
    obtain ⟨hk1, hk2⟩ := hI.kn0 hk
    have ho1 := hI.all0 h (by decide)
    have hsub : ∀ e ∈ prt b31 o A l.length c bn f b28 b29 L8 (startS o) none 0, e ∈ prt b31 o A l.length c bn f b28 b29 L8 (startS o) none 0 ++ Many 8 (fun j => StE (L j).1 (L j).2 (startF o)) :: H := fun e he => List.mem_append_left _ he
    refine (enter_any o b31 b28 b29 f A c l ab bn hA hf h40 (by omega) (l.length + 1) (startS o) L8 none 0 W (by omega) (goodS_start o l.length) (by rw [hlen0]; simp [startS]; omega) (Nat.zero_le _) hI.from (ho1.mono fun _ hb => DL.mono hsub hb) hk1 (DL.mono hsub hk2) hst).mono ?_
    rintro e w' ⟨L', A'', c'', rfl, hT, _⟩
    exact ⟨L', A'', c'', rfl, hI.turnL hT⟩
  have hcall1 : ∀ (W : World) (e : Ent), Inv (fun _ => False) w0 W (e :: (prt b31 o A l.length c bn f b28 b29 L8 (startS o) none 0 ++ [Many 8 (fun j => StE (L j).1 (L j).2 (startF o)), VB])) → Calls Tryd.prog 25 #[.pointer (some ⟨b31, 0, none⟩)] W fun en w' => ∃ L' A'' c'', en = .returned (.int .i64 (verdF o l ab bn).1) ∧ Inv (fun _ => False) w0 w' (e :: (prt b31 o A l.length c bn f b28 b29 L' (verdF o l ab bn).2 A'' c'' ++ [Many 8 (fun j => StE (L j).1 (L j).2 (startF o)), VB])) := by
    intro W e hI
    have pm : ∀ l : List Ent, (e :: (l ++ [Many 8 (fun j => StE (L j).1 (L j).2 (startF o)), VB])).Perm (l ++ Many 8 (fun j => StE (L j).1 (L j).2 (startF o)) :: [VB, e]) := fun l => by
      have h1 : (e :: (l ++ [Many 8 (fun j => StE (L j).1 (L j).2 (startF o)), VB])).Perm ((l ++ [Many 8 (fun j => StE (L j).1 (L j).2 (startF o)), VB]) ++ [e]) := (List.perm_append_singleton _ _).symm
      rwa [List.append_assoc] at h1
    refine (hcall W [VB, e] (hI.perm (pm _))).mono ?_
    rintro en w' ⟨L', A'', c'', rfl, hT⟩
    exact ⟨L', A'', c'', rfl, hT.perm (pm _).symm⟩
  replace hI : Inv (fun _ => False) w0 w (prt b31 o A l.length c bn f b28 b29 L8 (startS o) none 0 ++ Many 8 (fun j => StE (L j).1 (L j).2 (startF o)) :: [VB]) := hI.perm (List.perm_middle (l₁ := [_, _, _, _])).symm
  refine W_seq_cut (fun ρ w => ∃ (b13 : Nat) (L' : Loc) (A'' : Option Addr) (c'' : Nat), Has ρ [(11, .pointer (some ⟨b31, 0, none⟩)), (8, .pointer (some ⟨b8, 0, none⟩)), (13, .pointer (some ⟨b13, 0, none⟩))] ∧ Inv (fun _ => False) w0 w (B b13 30 #[.int .i64 (verdF o l ab bn).1, .slice none 0 0, .int .i64 ((verdF o l ab bn).2.ent.length : Int)] :: (prt b31 o A l.length c bn f b28 b29 L' (verdF o l ab bn).2 A'' c'' ++ [Many 8 (fun j => StE (L j).1 (L j).2 (startF o)), VB]))) ?_ ?_
  · refine W_draw (by kernel_rfl) ?_
    refine WA_inv (T := [9]) hI.mapE.drew ?_
    intro Sx hSx hXS
    replace hI := hI.drew
    refine WT_take 0 rfl rfl (by kernel_rfl) (hXS _ hI.mapE) rfl (fun W hW => have hI := hSx W hW; (by first | exact rMoveP rfl rfl | exact rMove rfl)) ?_
    refine WT_take 2 rfl rfl (by kernel_rfl) (hXS _ hI.mapE) rfl (fun W hW => have hI := hSx W hW; (by first | exact rMoveP rfl rfl | exact rMove rfl)) ?_
    refine WT_take 3 rfl rfl (by kernel_rfl) (hXS _ hI.mapE) rfl (fun W hW => have hI := hSx W hW; (rNilChk rfl rfl)) ?_
    refine WT_take 4 rfl rfl (by kernel_rfl) (hXS _ hI.mapE) rfl (fun W hW => have hI := hSx W hW; (by first | exact rFldN (off := 14) rfl (by kernel_rfl) rfl | exact rFld (off := 14) rfl (by kernel_rfl) rfl)) ?_
    refine WT_take 5 rfl rfl (by kernel_rfl) (hXS _ hI.mapE) rfl (fun W hW => have hI := hSx W hW; (by first | exact rLd (v := .map _) rfl (by kernel_rfl) rfl (by first | exact hI.c0 rfl | exact hI.c1 rfl | exact hI.c2 rfl | exact hI.c3 rfl | exact hI.c4 rfl | exact hI.c5 rfl | exact hI.g0) | exact rLd rfl (by kernel_rfl) rfl (by first | exact hI.c0 rfl | exact hI.c1 rfl | exact hI.c2 rfl | exact hI.c3 rfl | exact hI.c4 rfl | exact hI.c5 rfl | exact hI.g0))) ?_
    refine WT_two 1 8 rfl rfl (by kernel_rfl) rfl rfl ?_ ?_
    · refine WL_call rfl rfl rfl (rCall (vs := [.pointer _]) rfl Tryd.func25 rfl rfl rfl) ?_
      first | refine (hcall _ [VB] hI).mono ?_ | refine (hcall1 _ _ hI).mono ?_
      rintro e w1 ⟨L', A'', c'', rfl, hT⟩
      refine ⟨_, rfl, ?_⟩
      clear hI
      have hI := hT
      refine WL_nil ⟨hXS _ hI.mapE, ?_⟩
      refine WT_two 6 8 rfl rfl (by kernel_rfl) rfl rfl ?_ ?_
      · refine WL_val rfl rfl rfl (rLenSet rfl Tryd.underlying61 rfl (by first | exact hI.g3 | exact hI.g4)) ?_
        refine WL_nil ⟨hXS _ hI.mapE, ?_⟩
        refine WT_take 7 rfl rfl (by kernel_rfl) (hXS _ hI.mapE) rfl (fun W hW => have hI := hSx W hW; (rBuild (qs := [(0, .int .i64 _), (2, .int .i64 _)]) (vs := [_, _, _]) [.int .i64 0, .slice none 0 0, .int .i64 0] [0, 2] rfl rfl rfl (fun _ => by kernel_rfl))) ?_
        refine WT_one 8 rfl (by kernel_rfl) rfl ?_
        refine WL_alloc (u := .agg #[.int .i64 0, .slice none 0 0, .int .i64 0]) (vs := #[.int .i64 0, .slice none 0 0, .int .i64 0]) hI rfl rfl rfl rfl (by kernel_rfl) rfl ?_
        clear hI; rintro b13 w - - hI
        refine WL_nil ⟨hXS _ hI.d0.mapE, ?_⟩
        refine WT_A (by kernel_rfl) ?_
        clear hXS hSx
        refine WA_one 9 rfl (by kernel_rfl) ?_
        first | refine WL_stw0 (u := .agg _) (vs := #[_, _, _]) (n := 3) hI rfl rfl rfl rfl rfl rfl (by kernel_rfl) rfl rfl rfl ?_ | refine WL_stw1 (u := .agg _) (vs := #[_, _, _]) (n := 3) hI rfl rfl rfl rfl rfl rfl (by kernel_rfl) rfl rfl rfl ?_ | refine WL_stw2 (u := .agg _) (vs := #[_, _, _]) (n := 3) hI rfl rfl rfl rfl rfl rfl (by kernel_rfl) rfl rfl rfl ?_ | refine WL_stw3 (u := .agg _) (vs := #[_, _, _]) (n := 3) hI rfl rfl rfl rfl rfl rfl (by kernel_rfl) rfl rfl rfl ?_ | refine WL_stw4 (u := .agg _) (vs := #[_, _, _]) (n := 3) hI rfl rfl rfl rfl rfl rfl (by kernel_rfl) rfl rfl rfl ?_ | refine WL_stw5 (u := .agg _) (vs := #[_, _, _]) (n := 3) hI rfl rfl rfl rfl rfl rfl (by kernel_rfl) rfl rfl rfl ?_
        clear hI; intro w hI
        refine WL_nil ?_
        refine WA_end (by kernel_rfl) ?_
        exact ⟨_, _, _, _, ⟨rfl, rfl, rfl, trivial⟩, hI⟩
      · refine WL_alloc (u := .agg #[.int .i64 0, .slice none 0 0, .int .i64 0]) (vs := #[.int .i64 0, .slice none 0 0, .int .i64 0]) hI rfl rfl rfl rfl (by kernel_rfl) rfl ?_
        clear hI; rintro b13 w - - hI
        refine WL_nil ⟨hXS _ hI.d0.mapE, ?_⟩
        refine WT_one 6 rfl (by kernel_rfl) rfl ?_
        refine WL_val rfl rfl rfl (rLenSet rfl Tryd.underlying61 rfl (by first | exact hI.g3 | exact hI.g4)) ?_
        refine WL_nil ⟨hXS _ hI.d0.mapE, ?_⟩
        refine WT_take 7 rfl rfl (by kernel_rfl) (hXS _ hI.d0.mapE) rfl (fun W hW => have hI := hSx W hW; (rBuild (qs := [(0, .int .i64 _), (2, .int .i64 _)]) (vs := [_, _, _]) [.int .i64 0, .slice none 0 0, .int .i64 0] [0, 2] rfl rfl rfl (fun _ => by kernel_rfl))) ?_
        refine WT_A (by kernel_rfl) ?_
        clear hXS hSx
        refine WA_one 9 rfl (by kernel_rfl) ?_
        first | refine WL_stw0 (u := .agg _) (vs := #[_, _, _]) (n := 3) hI rfl rfl rfl rfl rfl rfl (by kernel_rfl) rfl rfl rfl ?_ | refine WL_stw1 (u := .agg _) (vs := #[_, _, _]) (n := 3) hI rfl rfl rfl rfl rfl rfl (by kernel_rfl) rfl rfl rfl ?_ | refine WL_stw2 (u := .agg _) (vs := #[_, _, _]) (n := 3) hI rfl rfl rfl rfl rfl rfl (by kernel_rfl) rfl rfl rfl ?_ | refine WL_stw3 (u := .agg _) (vs := #[_, _, _]) (n := 3) hI rfl rfl rfl rfl rfl rfl (by kernel_rfl) rfl rfl rfl ?_ | refine WL_stw4 (u := .agg _) (vs := #[_, _, _]) (n := 3) hI rfl rfl rfl rfl rfl rfl (by kernel_rfl) rfl rfl rfl ?_ | refine WL_stw5 (u := .agg _) (vs := #[_, _, _]) (n := 3) hI rfl rfl rfl rfl rfl rfl (by kernel_rfl) rfl rfl rfl ?_
        clear hI; intro w hI
        refine WL_nil ?_
        refine WA_end (by kernel_rfl) ?_
        exact ⟨_, _, _, _, ⟨rfl, rfl, rfl, trivial⟩, hI⟩
    · refine WL_alloc (u := .agg #[.int .i64 0, .slice none 0 0, .int .i64 0]) (vs := #[.int .i64 0, .slice none 0 0, .int .i64 0]) hI rfl rfl rfl rfl (by kernel_rfl) rfl ?_
      clear hI; rintro b13 w - - hI
      refine WL_nil ⟨hXS _ hI.d0.mapE, ?_⟩
      refine WT_one 1 rfl (by kernel_rfl) rfl ?_
      refine WL_call rfl rfl rfl (rCall (vs := [.pointer _]) rfl Tryd.func25 rfl rfl rfl) ?_
      first | refine (hcall _ [VB] hI).mono ?_ | refine (hcall1 _ _ hI).mono ?_
      rintro e w1 ⟨L', A'', c'', rfl, hT⟩
      refine ⟨_, rfl, ?_⟩
      clear hI
      have hI := hT
      refine WL_nil ⟨hXS _ hI.d0.mapE, ?_⟩
      refine WT_one 6 rfl (by kernel_rfl) rfl ?_
      refine WL_val rfl rfl rfl (rLenSet rfl Tryd.underlying61 rfl (by first | exact hI.g3 | exact hI.g4)) ?_
      refine WL_nil ⟨hXS _ hI.d0.mapE, ?_⟩
      refine WT_take 7 rfl rfl (by kernel_rfl) (hXS _ hI.d0.mapE) rfl (fun W hW => have hI := hSx W hW; (rBuild (qs := [(0, .int .i64 _), (2, .int .i64 _)]) (vs := [_, _, _]) [.int .i64 0, .slice none 0 0, .int .i64 0] [0, 2] rfl rfl rfl (fun _ => by kernel_rfl))) ?_
      refine WT_A (by kernel_rfl) ?_
      clear hXS hSx
      refine WA_one 9 rfl (by kernel_rfl) ?_
      first | refine WL_stw0 (u := .agg _) (vs := #[_, _, _]) (n := 3) hI rfl rfl rfl rfl rfl rfl (by kernel_rfl) rfl rfl rfl ?_ | refine WL_stw1 (u := .agg _) (vs := #[_, _, _]) (n := 3) hI rfl rfl rfl rfl rfl rfl (by kernel_rfl) rfl rfl rfl ?_ | refine WL_stw2 (u := .agg _) (vs := #[_, _, _]) (n := 3) hI rfl rfl rfl rfl rfl rfl (by kernel_rfl) rfl rfl rfl ?_ | refine WL_stw3 (u := .agg _) (vs := #[_, _, _]) (n := 3) hI rfl rfl rfl rfl rfl rfl (by kernel_rfl) rfl rfl rfl ?_ | refine WL_stw4 (u := .agg _) (vs := #[_, _, _]) (n := 3) hI rfl rfl rfl rfl rfl rfl (by kernel_rfl) rfl rfl rfl ?_ | refine WL_stw5 (u := .agg _) (vs := #[_, _, _]) (n := 3) hI rfl rfl rfl rfl rfl rfl (by kernel_rfl) rfl rfl rfl ?_
      clear hI; intro w hI
      refine WL_nil ?_
      refine WA_end (by kernel_rfl) ?_
      exact ⟨_, _, _, _, ⟨rfl, rfl, rfl, trivial⟩, hI⟩
  clear hI hcall hcall1
  rintro ρ w ⟨b13, L', A'', c'', hH, hI⟩
  obtain ⟨σ, rfl⟩ := hH.open
  subst hvb
  generalize hR : verdF o l ab bn = R at hI
  obtain ⟨z, s'⟩ := R
  simp only at hI
  replace hI : Inv (fun _ => False) w0 w [B b13 30 #[.int .i64 z, .slice none 0 0, .int .i64 (s'.ent.length : Int)], B b31 64 (srcC o A l.length c bn f b28 b29 L' s'.sts A'' s'.ord.length c''), B b28 4 (boolC l.length s'.dn), StE A'' c'' s'.ord, SetE b29 s'.ent, Many 8 (fun j => StE (L j).1 (L j).2 (startF o)), B b8 30 #[.int .i64 0, .slice none 0 0, .int .i64 0]] := hI
  have hres : ∀ (A3 : Option Addr) (c3 : Nat) (W : World), Inv (fun _ => False) w0 W [StE A3 c3 (if z = 1 then s'.ord else [])] → VerdPost o l ab ((bn : Nat) : Int) w0 (.returned (.tuple #[.agg #[.int .i64 z, .slice A3 (if z = 1 then s'.ord else []).length c3, .int .i64 (s'.ent.length : Int)], .nilIface])) W := by
    intro A3 c3 W hI
    refine .inl ⟨hok, A3, c3, ?_⟩
    rw [Int.toNat_natCast, hR]
    exact ⟨rfl, hI⟩
  by_cases hz : z = 1
  · refine W_seq ?_
    refine W_seq ?_
    refine W_region ?_
    refine WL_val rfl rfl rfl (by first | exact rFldN (off := 0) rfl (by kernel_rfl) rfl | exact rFld0 rfl (by kernel_rfl) rfl) ?_
    refine WL_val rfl rfl rfl (by first | exact rLd (v := .int .i64 _) rfl (by kernel_rfl) rfl (by first | exact hI.c0 rfl | exact hI.c1 rfl | exact hI.c2 rfl | exact hI.c3 rfl | exact hI.c4 rfl | exact hI.c5 rfl) | exact rLd rfl (by kernel_rfl) rfl (by first | exact hI.c0 rfl | exact hI.c1 rfl | exact hI.c2 rfl | exact hI.c3 rfl | exact hI.c4 rfl | exact hI.c5 rfl)) ?_
    refine WL_val rfl rfl rfl (by first | exact rEqlT rfl rfl rfl (by omega) | exact rEqlF rfl rfl rfl (by omega) | exact rEql rfl rfl rfl) ?_
    refine WL_nil ?_
    refine W_cond true rfl ?_
    refine W_region ?_
    refine WL_val rfl rfl rfl (by first | exact rMoveP rfl rfl | exact rMove rfl) ?_
    refine WL_val rfl rfl rfl (rNilChk rfl rfl) ?_
    refine WL_val rfl rfl rfl (by first | exact rFldN (off := 5) rfl (by kernel_rfl) rfl | exact rFld (off := 5) rfl (by kernel_rfl) rfl) ?_
    refine WL_val rfl rfl rfl (by first | exact rLd (v := .slice _ _ _) rfl (by kernel_rfl) rfl (by first | exact hI.c0 rfl | exact hI.c1 rfl | exact hI.c2 rfl | exact hI.c3 rfl | exact hI.c4 rfl | exact hI.c5 rfl) | exact rLd rfl (by kernel_rfl) rfl (by first | exact hI.c0 rfl | exact hI.c1 rfl | exact hI.c2 rfl | exact hI.c3 rfl | exact hI.c4 rfl | exact hI.c5 rfl)) ?_
    refine WL_val rfl rfl rfl (by first | exact rFldN (off := 1) rfl (by kernel_rfl) rfl | exact rFld (off := 1) rfl (by kernel_rfl) rfl) ?_
    first | refine WL_stw0 (u := .slice _ _ _) (vs := #[_]) (n := 1) hI rfl rfl rfl rfl rfl rfl (by kernel_rfl) rfl rfl rfl ?_ | refine WL_stw1 (u := .slice _ _ _) (vs := #[_]) (n := 1) hI rfl rfl rfl rfl rfl rfl (by kernel_rfl) rfl rfl rfl ?_ | refine WL_stw2 (u := .slice _ _ _) (vs := #[_]) (n := 1) hI rfl rfl rfl rfl rfl rfl (by kernel_rfl) rfl rfl rfl ?_ | refine WL_stw3 (u := .slice _ _ _) (vs := #[_]) (n := 1) hI rfl rfl rfl rfl rfl rfl (by kernel_rfl) rfl rfl rfl ?_ | refine WL_stw4 (u := .slice _ _ _) (vs := #[_]) (n := 1) hI rfl rfl rfl rfl rfl rfl (by kernel_rfl) rfl rfl rfl ?_ | refine WL_stw5 (u := .slice _ _ _) (vs := #[_]) (n := 1) hI rfl rfl rfl rfl rfl rfl (by kernel_rfl) rfl rfl rfl ?_ | refine WL_st0 (u := .slice _ _ _) hI rfl rfl rfl rfl rfl rfl (by kernel_rfl) rfl rfl rfl ?_ | refine WL_st1 (u := .slice _ _ _) hI rfl rfl rfl rfl rfl rfl (by kernel_rfl) rfl rfl rfl ?_ | refine WL_st2 (u := .slice _ _ _) hI rfl rfl rfl rfl rfl rfl (by kernel_rfl) rfl rfl rfl ?_ | refine WL_st3 (u := .slice _ _ _) hI rfl rfl rfl rfl rfl rfl (by kernel_rfl) rfl rfl rfl ?_ | refine WL_st4 (u := .slice _ _ _) hI rfl rfl rfl rfl rfl rfl (by kernel_rfl) rfl rfl rfl ?_ | refine WL_st5 (u := .slice _ _ _) hI rfl rfl rfl rfl rfl rfl (by kernel_rfl) rfl rfl rfl ?_
    clear hI; intro w hI
    refine WL_nil ?_
    refine W_seq ?_
    refine W_region ?_
    refine WL_val rfl rfl rfl (by first | exact rLdB (n := 3) rfl (by kernel_rfl) (by kernel_rfl) rfl rfl hI.g0 | exact rLdB (n := 3) rfl (by kernel_rfl) (by kernel_rfl) rfl rfl hI.g1 | exact rLdB (n := 3) rfl (by kernel_rfl) (by kernel_rfl) rfl rfl hI.g2 | exact rLdB (n := 3) rfl (by kernel_rfl) (by kernel_rfl) rfl rfl hI.g3 | exact rLdB (n := 3) rfl (by kernel_rfl) (by kernel_rfl) rfl rfl hI.g4 | exact rLdB (n := 3) rfl (by kernel_rfl) (by kernel_rfl) rfl rfl hI.g5 | exact rLdB (n := 3) rfl (by kernel_rfl) (by kernel_rfl) rfl rfl hI.g6 | exact rLdB (n := 3) rfl (by kernel_rfl) (by kernel_rfl) rfl rfl hI.g7 | exact rLd3 rfl (by kernel_rfl) (by kernel_rfl) rfl (by first | exact hI.c0 rfl | exact hI.c1 rfl | exact hI.c2 rfl | exact hI.c3 rfl | exact hI.c4 rfl | exact hI.c5 rfl | exact hI.c6 rfl | exact hI.c7 rfl) (by first | exact hI.c0 rfl | exact hI.c1 rfl | exact hI.c2 rfl | exact hI.c3 rfl | exact hI.c4 rfl | exact hI.c5 rfl | exact hI.c6 rfl | exact hI.c7 rfl) (by first | exact hI.c0 rfl | exact hI.c1 rfl | exact hI.c2 rfl | exact hI.c3 rfl | exact hI.c4 rfl | exact hI.c5 rfl | exact hI.c6 rfl | exact hI.c7 rfl)) ?_
    first | refine WL_stw0 (u := .agg _) (vs := #[_, _, _]) (n := 3) hI rfl rfl rfl rfl rfl rfl (by kernel_rfl) rfl rfl rfl ?_ | refine WL_stw1 (u := .agg _) (vs := #[_, _, _]) (n := 3) hI rfl rfl rfl rfl rfl rfl (by kernel_rfl) rfl rfl rfl ?_ | refine WL_stw2 (u := .agg _) (vs := #[_, _, _]) (n := 3) hI rfl rfl rfl rfl rfl rfl (by kernel_rfl) rfl rfl rfl ?_ | refine WL_stw3 (u := .agg _) (vs := #[_, _, _]) (n := 3) hI rfl rfl rfl rfl rfl rfl (by kernel_rfl) rfl rfl rfl ?_ | refine WL_stw4 (u := .agg _) (vs := #[_, _, _]) (n := 3) hI rfl rfl rfl rfl rfl rfl (by kernel_rfl) rfl rfl rfl ?_ | refine WL_stw5 (u := .agg _) (vs := #[_, _, _]) (n := 3) hI rfl rfl rfl rfl rfl rfl (by kernel_rfl) rfl rfl rfl ?_ | refine WL_stw6 (u := .agg _) (vs := #[_, _, _]) (n := 3) hI rfl rfl rfl rfl rfl rfl (by kernel_rfl) rfl rfl rfl ?_ | refine WL_stw7 (u := .agg _) (vs := #[_, _, _]) (n := 3) hI rfl rfl rfl rfl rfl rfl (by kernel_rfl) rfl rfl rfl ?_
    clear hI; intro w hI
    refine WL_val rfl rfl rfl (by first | exact rAsgnN rfl rfl | exact rAsgnE rfl rfl | exact rAsgn rfl) ?_
    refine WL_nil ?_
    refine W_ret ?_
    refine retC2 (n := 3) (t := 30) (.inr rfl) rfl rfl (by kernel_rfl) (by kernel_rfl) rfl hI.g6 ?_
    rw [if_pos hz] at hres
    exact hres _ _ _ hI.d6.d5.d4.d2.d1.d0
  · refine W_seq ?_
    refine W_seq ?_
    refine W_region ?_
    refine WL_val rfl rfl rfl (by first | exact rFldN (off := 0) rfl (by kernel_rfl) rfl | exact rFld0 rfl (by kernel_rfl) rfl) ?_
    refine WL_val rfl rfl rfl (by first | exact rLd (v := .int .i64 _) rfl (by kernel_rfl) rfl (by first | exact hI.c0 rfl | exact hI.c1 rfl | exact hI.c2 rfl | exact hI.c3 rfl | exact hI.c4 rfl | exact hI.c5 rfl) | exact rLd rfl (by kernel_rfl) rfl (by first | exact hI.c0 rfl | exact hI.c1 rfl | exact hI.c2 rfl | exact hI.c3 rfl | exact hI.c4 rfl | exact hI.c5 rfl)) ?_
    refine WL_val rfl rfl rfl (by first | exact rEqlT rfl rfl rfl (by omega) | exact rEqlF rfl rfl rfl (by omega) | exact rEql rfl rfl rfl) ?_
    refine WL_nil ?_
    refine W_cond false rfl ?_
    refine W_skip ?_
    refine W_seq ?_
    refine W_region ?_
    refine WL_val rfl rfl rfl (by first | exact rLdB (n := 3) rfl (by kernel_rfl) (by kernel_rfl) rfl rfl hI.g0 | exact rLdB (n := 3) rfl (by kernel_rfl) (by kernel_rfl) rfl rfl hI.g1 | exact rLdB (n := 3) rfl (by kernel_rfl) (by kernel_rfl) rfl rfl hI.g2 | exact rLdB (n := 3) rfl (by kernel_rfl) (by kernel_rfl) rfl rfl hI.g3 | exact rLdB (n := 3) rfl (by kernel_rfl) (by kernel_rfl) rfl rfl hI.g4 | exact rLdB (n := 3) rfl (by kernel_rfl) (by kernel_rfl) rfl rfl hI.g5 | exact rLdB (n := 3) rfl (by kernel_rfl) (by kernel_rfl) rfl rfl hI.g6 | exact rLdB (n := 3) rfl (by kernel_rfl) (by kernel_rfl) rfl rfl hI.g7 | exact rLd3 rfl (by kernel_rfl) (by kernel_rfl) rfl (by first | exact hI.c0 rfl | exact hI.c1 rfl | exact hI.c2 rfl | exact hI.c3 rfl | exact hI.c4 rfl | exact hI.c5 rfl | exact hI.c6 rfl | exact hI.c7 rfl) (by first | exact hI.c0 rfl | exact hI.c1 rfl | exact hI.c2 rfl | exact hI.c3 rfl | exact hI.c4 rfl | exact hI.c5 rfl | exact hI.c6 rfl | exact hI.c7 rfl) (by first | exact hI.c0 rfl | exact hI.c1 rfl | exact hI.c2 rfl | exact hI.c3 rfl | exact hI.c4 rfl | exact hI.c5 rfl | exact hI.c6 rfl | exact hI.c7 rfl)) ?_
    first | refine WL_stw0 (u := .agg _) (vs := #[_, _, _]) (n := 3) hI rfl rfl rfl rfl rfl rfl (by kernel_rfl) rfl rfl rfl ?_ | refine WL_stw1 (u := .agg _) (vs := #[_, _, _]) (n := 3) hI rfl rfl rfl rfl rfl rfl (by kernel_rfl) rfl rfl rfl ?_ | refine WL_stw2 (u := .agg _) (vs := #[_, _, _]) (n := 3) hI rfl rfl rfl rfl rfl rfl (by kernel_rfl) rfl rfl rfl ?_ | refine WL_stw3 (u := .agg _) (vs := #[_, _, _]) (n := 3) hI rfl rfl rfl rfl rfl rfl (by kernel_rfl) rfl rfl rfl ?_ | refine WL_stw4 (u := .agg _) (vs := #[_, _, _]) (n := 3) hI rfl rfl rfl rfl rfl rfl (by kernel_rfl) rfl rfl rfl ?_ | refine WL_stw5 (u := .agg _) (vs := #[_, _, _]) (n := 3) hI rfl rfl rfl rfl rfl rfl (by kernel_rfl) rfl rfl rfl ?_ | refine WL_stw6 (u := .agg _) (vs := #[_, _, _]) (n := 3) hI rfl rfl rfl rfl rfl rfl (by kernel_rfl) rfl rfl rfl ?_ | refine WL_stw7 (u := .agg _) (vs := #[_, _, _]) (n := 3) hI rfl rfl rfl rfl rfl rfl (by kernel_rfl) rfl rfl rfl ?_
    clear hI; intro w hI
    refine WL_val rfl rfl rfl (by first | exact rAsgnN rfl rfl | exact rAsgnE rfl rfl | exact rAsgn rfl) ?_
    refine WL_nil ?_
    refine W_ret ?_
    refine retC2 (n := 3) (t := 30) (.inr rfl) rfl rfl (by kernel_rfl) (by kernel_rfl) rfl hI.g6 ?_
    rw [if_neg hz] at hres
    have h1 : Inv (fun _ => False) w0 w [] := hI.d6.d5.d4.d3.d2.d1.d0
    exact hres none 0 _ (h1.fresh (Pure.refl w) (Row.nil w 0 3 1) (fun k hk => by cases hk))
/-- linear.Check. -/
theorem before_ahead : AheadC 15 befB := ⟨⟨_, Tryd.func15, rfl, rfl⟩, before_any⟩
end Go.Proofs.YtijgkocolajghaaDoor
