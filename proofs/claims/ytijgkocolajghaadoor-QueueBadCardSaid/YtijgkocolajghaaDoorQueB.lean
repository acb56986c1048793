/- Que3, Que4, Que5, Que6, Que7, Que8, Que9, Que10, in one text. -/
import Derived.Test.YtijgkocolajghaaDoorQueA
import Derived.Test.YtijgkocolajghaaDoorRegH
/-! Que3: queue: the last closure of Finds. -/
namespace Go.Proofs.YtijgkocolajghaaDoor
open Go.RowKit
set_option linter.unusedVariables false
set_option linter.unusedSimpArgs false
section
variable {l : List Op8} {A : Option Addr} {c b1 b18 : Nat}
theorem mapP {κ : Type} {ok : κ → Prop} {K : κ → Value} {w w' : World} {b : Nat} {g : κ → Option Value} (hp : Pure w w') (h : MapKIs ok K w b g) : MapKIs ok K w' b g :=
  ((MapKE.ok h).chg (hp.chg (fun _ => False)) (fun _ _ h => h)).1
set_option maxHeartbeats 4000000 in
theorem cross_any (b8 mb : Nat) (w0 : World) (h : QB l A c b1 b18 w0) (h8 : w0.cell? ⟨b8, 0, none⟩ = some (.map (some mb))) (hM : MapKIs okI kI w0 mb (mpF (popB l) l.length)) (i k : Nat) (hi : i < l.length) (hk : k < l.length) :
    Calls Tryd.prog 16 #[.int .i64 (i : Int), .int .i64 (k : Int), .pointer (some ⟨b18, 0, none⟩), .pointer (some ⟨b1, 0, none⟩), .pointer (some ⟨b8, 0, none⟩)] w0 fun en w' => en = .returned (.bool (crossB l i k)) ∧ Pure w0 w' := by
  have hI := Inv.start (fun _ => False) w0
  obtain ⟨_, hc1, hc2⟩ := h.ops.len
  have hbx := h.box
  have hps := h.psh
  have hat := fun m hm => h.ops.at (k := m) hm
  obtain ⟨bA, oA, rfl, hoi⟩ := h.ops.at hi
  obtain ⟨bA', oA', hae, hok⟩ := h.ops.at hk
  injection hae with hae
  injection hae with e1 e2
  subst e1 e2
  have hoi3 := hoi 3 _ rfl
  have hok3 := hok 3 _ rfl
  unfold crossB
  cases hbi : pshB l i with
  | false =>
    rw [Bool.false_and, Bool.false_and, Bool.false_and]
    refine calls_of_W (N := Tryd.f16.ntmps) Tryd.func16 rfl rfl rfl ?_
    refine W_seq ?_
    refine W_region ?_
    refine WL_val rfl rfl rfl (by first | exact rAsgnB rfl rfl | exact rAsgn rfl) ?_
    refine WL_nil ?_
    refine W_seq ?_
    refine W_seq ?_
    refine W_draw (by kernel_rfl) ?_
    refine WA_inv (T := []) hI.drew ?_
    intro Sx hSx hXS
    replace hI := hI.drew
    refine WT_take 0 rfl rfl (by kernel_rfl) (hXS _ hI) rfl (fun W hW => have hI := hSx W hW; (by first | exact rLd (v := .func _ _ _) rfl (by kernel_rfl) rfl (by first | exact hI.oldp hbx | exact hbx | exact hI.oldp hps | exact hps) | exact rLd rfl (by kernel_rfl) rfl (by first | exact hI.oldp hbx | exact hbx | exact hI.oldp hps | exact hps))) ?_
    refine WT_take 1 rfl rfl (by kernel_rfl) (hXS _ hI) rfl (fun W hW => have hI := hSx W hW; (by first | exact rMoveI rfl rfl | exact rMove rfl)) ?_
    refine WT_one 2 rfl (by kernel_rfl) rfl ?_
    refine WL_call rfl rfl rfl (rCallF (f := 11) (first := []) (cap := [_]) (vs := [.int .i64 _, .pointer _]) rfl rfl Tryd.func11 rfl rfl rfl) ?_
    refine (push_any _ (h.ops.pure hI.pu) (cellP hI.pu h.box) i (by assumption)).mono ?_
    rw [hbi]
    rintro e w1 ⟨rfl, hp⟩
    refine ⟨_, rfl, ?_⟩
    replace hI := hI.pure hp
    refine WL_nil ⟨hXS _ hI, ?_⟩
    refine WT_take 3 rfl rfl (by kernel_rfl) (hXS _ hI) rfl (fun W hW => have hI := hSx W hW; (by first | exact rNotT rfl rfl | exact rNotF rfl rfl | exact rNot rfl rfl)) ?_
    refine WT_take 4 rfl rfl (by kernel_rfl) (hXS _ hI) rfl (fun W hW => have hI := hSx W hW; (by first | exact rMoveB rfl rfl | exact rMove rfl)) ?_
    refine WT_skip 5 rfl rfl (by kernel_rfl) (hXS _ hI) rfl ?_
    refine WT_skip 6 rfl rfl (by kernel_rfl) (hXS _ hI) rfl ?_
    refine WT_skip 7 rfl rfl (by kernel_rfl) (hXS _ hI) rfl ?_
    refine WT_skip 8 rfl rfl (by kernel_rfl) (hXS _ hI) rfl ?_
    refine WT_take 9 rfl rfl (by kernel_rfl) (hXS _ hI) rfl (fun W hW => have hI := hSx W hW; (by first | exact rPickTB rfl rfl rfl | exact rPickFB rfl rfl rfl | exact rPickB rfl rfl rfl rfl)) ?_
    refine WT_take 10 rfl rfl (by kernel_rfl) (hXS _ hI) rfl (fun W hW => have hI := hSx W hW; (by first | exact rMoveB rfl rfl | exact rMove rfl)) ?_
    refine WT_skip 11 rfl rfl (by kernel_rfl) (hXS _ hI) rfl ?_
    refine WT_skip 12 rfl rfl (by kernel_rfl) (hXS _ hI) rfl ?_
    refine WT_skip 13 rfl rfl (by kernel_rfl) (hXS _ hI) rfl ?_
    refine WT_skip 14 rfl rfl (by kernel_rfl) (hXS _ hI) rfl ?_
    refine WT_skip 15 rfl rfl (by kernel_rfl) (hXS _ hI) rfl ?_
    refine WT_skip 16 rfl rfl (by kernel_rfl) (hXS _ hI) rfl ?_
    refine WT_skip 17 rfl rfl (by kernel_rfl) (hXS _ hI) rfl ?_
    refine WT_skip 18 rfl rfl (by kernel_rfl) (hXS _ hI) rfl ?_
    refine WT_skip 19 rfl rfl (by kernel_rfl) (hXS _ hI) rfl ?_
    refine WT_skip 20 rfl rfl (by kernel_rfl) (hXS _ hI) rfl ?_
    refine WT_take 21 rfl rfl (by kernel_rfl) (hXS _ hI) rfl (fun W hW => have hI := hSx W hW; (by first | exact rPickTB rfl rfl rfl | exact rPickFB rfl rfl rfl | exact rPickB rfl rfl rfl rfl)) ?_
    refine WT_end (by kernel_rfl) ?_
    refine W_cond true rfl ?_
    refine W_seq ?_
    refine W_region ?_
    refine WL_val rfl rfl rfl (by first | exact rAsgnB rfl rfl | exact rAsgn rfl) ?_
    refine WL_nil ?_
    refine W_ret ?_
    exact ret1 7 (.inr rfl) rfl ⟨rfl, hI.pu⟩
  | true =>
  cases hbk : pshB l k with
  | false =>
    rw [Bool.true_and, Bool.false_and, Bool.false_and]
    refine calls_of_W (N := Tryd.f16.ntmps) Tryd.func16 rfl rfl rfl ?_
    refine W_seq ?_
    refine W_region ?_
    refine WL_val rfl rfl rfl (by first | exact rAsgnB rfl rfl | exact rAsgn rfl) ?_
    refine WL_nil ?_
    refine W_seq ?_
    refine W_seq ?_
    refine W_draw (by kernel_rfl) ?_
    refine WA_inv (T := []) hI.drew ?_
    intro Sx hSx hXS
    replace hI := hI.drew
    refine WT_take 0 rfl rfl (by kernel_rfl) (hXS _ hI) rfl (fun W hW => have hI := hSx W hW; (by first | exact rLd (v := .func _ _ _) rfl (by kernel_rfl) rfl (by first | exact hI.oldp hbx | exact hbx | exact hI.oldp hps | exact hps) | exact rLd rfl (by kernel_rfl) rfl (by first | exact hI.oldp hbx | exact hbx | exact hI.oldp hps | exact hps))) ?_
    refine WT_take 1 rfl rfl (by kernel_rfl) (hXS _ hI) rfl (fun W hW => have hI := hSx W hW; (by first | exact rMoveI rfl rfl | exact rMove rfl)) ?_
    refine WT_one 2 rfl (by kernel_rfl) rfl ?_
    refine WL_call rfl rfl rfl (rCallF (f := 11) (first := []) (cap := [_]) (vs := [.int .i64 _, .pointer _]) rfl rfl Tryd.func11 rfl rfl rfl) ?_
    refine (push_any _ (h.ops.pure hI.pu) (cellP hI.pu h.box) i (by assumption)).mono ?_
    rw [hbi]
    rintro e w1 ⟨rfl, hp⟩
    refine ⟨_, rfl, ?_⟩
    replace hI := hI.pure hp
    refine WL_nil ⟨hXS _ hI, ?_⟩
    refine WT_take 3 rfl rfl (by kernel_rfl) (hXS _ hI) rfl (fun W hW => have hI := hSx W hW; (by first | exact rNotT rfl rfl | exact rNotF rfl rfl | exact rNot rfl rfl)) ?_
    refine WT_take 4 rfl rfl (by kernel_rfl) (hXS _ hI) rfl (fun W hW => have hI := hSx W hW; (by first | exact rMoveB rfl rfl | exact rMove rfl)) ?_
    first | refine WT_take 5 rfl rfl (by kernel_rfl) (hXS _ hI) rfl (fun W hW => have hI := hSx W hW; (by first | exact rLd (v := .func _ _ _) rfl (by kernel_rfl) rfl (by first | exact hI.oldp hbx | exact hbx | exact hI.oldp hps | exact hps) | exact rLd rfl (by kernel_rfl) rfl (by first | exact hI.oldp hbx | exact hbx | exact hI.oldp hps | exact hps))) ?_ | refine WT_skip 5 rfl rfl (by kernel_rfl) (hXS _ hI) rfl ?_
    first | refine WT_take 6 rfl rfl (by kernel_rfl) (hXS _ hI) rfl (fun W hW => have hI := hSx W hW; (by first | exact rMoveI rfl rfl | exact rMove rfl)) ?_ | refine WT_skip 6 rfl rfl (by kernel_rfl) (hXS _ hI) rfl ?_
    refine WT_one 7 rfl (by kernel_rfl) rfl ?_
    refine WL_call rfl rfl rfl (rCallF (f := 11) (first := []) (cap := [_]) (vs := [.int .i64 _, .pointer _]) rfl rfl Tryd.func11 rfl rfl rfl) ?_
    refine (push_any _ (h.ops.pure hI.pu) (cellP hI.pu h.box) k (by assumption)).mono ?_
    rw [hbk]
    rintro e w1 ⟨rfl, hp⟩
    refine ⟨_, rfl, ?_⟩
    replace hI := hI.pure hp
    refine WL_nil ⟨hXS _ hI, ?_⟩
    first | refine WT_take 8 rfl rfl (by kernel_rfl) (hXS _ hI) rfl (fun W hW => have hI := hSx W hW; (by first | exact rNotT rfl rfl | exact rNotF rfl rfl | exact rNot rfl rfl)) ?_ | refine WT_skip 8 rfl rfl (by kernel_rfl) (hXS _ hI) rfl ?_
    refine WT_take 9 rfl rfl (by kernel_rfl) (hXS _ hI) rfl (fun W hW => have hI := hSx W hW; (by first | exact rPickTB rfl rfl rfl | exact rPickFB rfl rfl rfl | exact rPickB rfl rfl rfl rfl)) ?_
    refine WT_take 10 rfl rfl (by kernel_rfl) (hXS _ hI) rfl (fun W hW => have hI := hSx W hW; (by first | exact rMoveB rfl rfl | exact rMove rfl)) ?_
    refine WT_skip 11 rfl rfl (by kernel_rfl) (hXS _ hI) rfl ?_
    refine WT_skip 12 rfl rfl (by kernel_rfl) (hXS _ hI) rfl ?_
    refine WT_skip 13 rfl rfl (by kernel_rfl) (hXS _ hI) rfl ?_
    refine WT_skip 14 rfl rfl (by kernel_rfl) (hXS _ hI) rfl ?_
    refine WT_skip 15 rfl rfl (by kernel_rfl) (hXS _ hI) rfl ?_
    refine WT_skip 16 rfl rfl (by kernel_rfl) (hXS _ hI) rfl ?_
    refine WT_skip 17 rfl rfl (by kernel_rfl) (hXS _ hI) rfl ?_
    refine WT_skip 18 rfl rfl (by kernel_rfl) (hXS _ hI) rfl ?_
    refine WT_skip 19 rfl rfl (by kernel_rfl) (hXS _ hI) rfl ?_
    refine WT_skip 20 rfl rfl (by kernel_rfl) (hXS _ hI) rfl ?_
    refine WT_take 21 rfl rfl (by kernel_rfl) (hXS _ hI) rfl (fun W hW => have hI := hSx W hW; (by first | exact rPickTB rfl rfl rfl | exact rPickFB rfl rfl rfl | exact rPickB rfl rfl rfl rfl)) ?_
    refine WT_end (by kernel_rfl) ?_
    refine W_cond true rfl ?_
    refine W_seq ?_
    refine W_region ?_
    refine WL_val rfl rfl rfl (by first | exact rAsgnB rfl rfl | exact rAsgn rfl) ?_
    refine WL_nil ?_
    refine W_ret ?_
    exact ret1 7 (.inr rfl) rfl ⟨rfl, hI.pu⟩
  | true =>
  cases hbf : befB (oAt l i) (oAt l k) with
  | false =>
    rw [Bool.true_and, Bool.true_and, Bool.false_and]
    refine calls_of_W (N := Tryd.f16.ntmps) Tryd.func16 rfl rfl rfl ?_
    refine W_seq ?_
    refine W_region ?_
    refine WL_val rfl rfl rfl (by first | exact rAsgnB rfl rfl | exact rAsgn rfl) ?_
    refine WL_nil ?_
    refine W_seq ?_
    refine W_seq ?_
    refine W_draw (by kernel_rfl) ?_
    refine WA_inv (T := []) hI.drew ?_
    intro Sx hSx hXS
    replace hI := hI.drew
    refine WT_take 0 rfl rfl (by kernel_rfl) (hXS _ hI) rfl (fun W hW => have hI := hSx W hW; (by first | exact rLd (v := .func _ _ _) rfl (by kernel_rfl) rfl (by first | exact hI.oldp hbx | exact hbx | exact hI.oldp hps | exact hps) | exact rLd rfl (by kernel_rfl) rfl (by first | exact hI.oldp hbx | exact hbx | exact hI.oldp hps | exact hps))) ?_
    refine WT_take 1 rfl rfl (by kernel_rfl) (hXS _ hI) rfl (fun W hW => have hI := hSx W hW; (by first | exact rMoveI rfl rfl | exact rMove rfl)) ?_
    refine WT_one 2 rfl (by kernel_rfl) rfl ?_
    refine WL_call rfl rfl rfl (rCallF (f := 11) (first := []) (cap := [_]) (vs := [.int .i64 _, .pointer _]) rfl rfl Tryd.func11 rfl rfl rfl) ?_
    refine (push_any _ (h.ops.pure hI.pu) (cellP hI.pu h.box) i (by assumption)).mono ?_
    rw [hbi]
    rintro e w1 ⟨rfl, hp⟩
    refine ⟨_, rfl, ?_⟩
    replace hI := hI.pure hp
    refine WL_nil ⟨hXS _ hI, ?_⟩
    refine WT_take 3 rfl rfl (by kernel_rfl) (hXS _ hI) rfl (fun W hW => have hI := hSx W hW; (by first | exact rNotT rfl rfl | exact rNotF rfl rfl | exact rNot rfl rfl)) ?_
    refine WT_take 4 rfl rfl (by kernel_rfl) (hXS _ hI) rfl (fun W hW => have hI := hSx W hW; (by first | exact rMoveB rfl rfl | exact rMove rfl)) ?_
    first | refine WT_take 5 rfl rfl (by kernel_rfl) (hXS _ hI) rfl (fun W hW => have hI := hSx W hW; (by first | exact rLd (v := .func _ _ _) rfl (by kernel_rfl) rfl (by first | exact hI.oldp hbx | exact hbx | exact hI.oldp hps | exact hps) | exact rLd rfl (by kernel_rfl) rfl (by first | exact hI.oldp hbx | exact hbx | exact hI.oldp hps | exact hps))) ?_ | refine WT_skip 5 rfl rfl (by kernel_rfl) (hXS _ hI) rfl ?_
    first | refine WT_take 6 rfl rfl (by kernel_rfl) (hXS _ hI) rfl (fun W hW => have hI := hSx W hW; (by first | exact rMoveI rfl rfl | exact rMove rfl)) ?_ | refine WT_skip 6 rfl rfl (by kernel_rfl) (hXS _ hI) rfl ?_
    refine WT_one 7 rfl (by kernel_rfl) rfl ?_
    refine WL_call rfl rfl rfl (rCallF (f := 11) (first := []) (cap := [_]) (vs := [.int .i64 _, .pointer _]) rfl rfl Tryd.func11 rfl rfl rfl) ?_
    refine (push_any _ (h.ops.pure hI.pu) (cellP hI.pu h.box) k (by assumption)).mono ?_
    rw [hbk]
    rintro e w1 ⟨rfl, hp⟩
    refine ⟨_, rfl, ?_⟩
    replace hI := hI.pure hp
    refine WL_nil ⟨hXS _ hI, ?_⟩
    first | refine WT_take 8 rfl rfl (by kernel_rfl) (hXS _ hI) rfl (fun W hW => have hI := hSx W hW; (by first | exact rNotT rfl rfl | exact rNotF rfl rfl | exact rNot rfl rfl)) ?_ | refine WT_skip 8 rfl rfl (by kernel_rfl) (hXS _ hI) rfl ?_
    refine WT_take 9 rfl rfl (by kernel_rfl) (hXS _ hI) rfl (fun W hW => have hI := hSx W hW; (by first | exact rPickTB rfl rfl rfl | exact rPickFB rfl rfl rfl | exact rPickB rfl rfl rfl rfl)) ?_
    refine WT_take 10 rfl rfl (by kernel_rfl) (hXS _ hI) rfl (fun W hW => have hI := hSx W hW; (by first | exact rMoveB rfl rfl | exact rMove rfl)) ?_
    first | refine WT_take 11 rfl rfl (by kernel_rfl) (hXS _ hI) rfl (fun W hW => have hI := hSx W hW; (by first | exact rLd (v := .slice _ _ _) rfl (by kernel_rfl) rfl (by first | exact hI.oldp hbx | exact hbx | exact hI.oldp hps | exact hps) | exact rLd rfl (by kernel_rfl) rfl (by first | exact hI.oldp hbx | exact hbx | exact hI.oldp hps | exact hps))) ?_ | refine WT_skip 11 rfl rfl (by kernel_rfl) (hXS _ hI) rfl ?_
    first | refine WT_take 12 rfl rfl (by kernel_rfl) (hXS _ hI) rfl (fun W hW => have hI := hSx W hW; (by first | exact rMoveI rfl rfl | exact rMove rfl)) ?_ | refine WT_skip 12 rfl rfl (by kernel_rfl) (hXS _ hI) rfl ?_
    first | refine WT_take 13 rfl rfl (by kernel_rfl) (hXS _ hI) rfl (fun W hW => have hI := hSx W hW; (rIdx (sz := 8) rfl Tryd.underlying22 (by kernel_rfl) rfl rfl (by omega))) ?_ | refine WT_skip 13 rfl rfl (by kernel_rfl) (hXS _ hI) rfl ?_
    first | refine WT_take 14 rfl rfl (by kernel_rfl) (hXS _ hI) rfl (fun W hW => have hI := hSx W hW; (by first | exact rLdA (n := 8) rfl (by kernel_rfl) (by kernel_rfl) rfl (by rfl) (fun k u hk => hI.oldp (hoi k u hk)) | exact rLdA (n := 8) rfl (by kernel_rfl) (by kernel_rfl) rfl (by rfl) hoi | exact rLdA (n := 8) rfl (by kernel_rfl) (by kernel_rfl) rfl (by rfl) (fun k u hk => hI.oldp (hok k u hk)) | exact rLdA (n := 8) rfl (by kernel_rfl) (by kernel_rfl) rfl (by rfl) hok)) ?_ | refine WT_skip 14 rfl rfl (by kernel_rfl) (hXS _ hI) rfl ?_
    first | refine WT_take 15 rfl rfl (by kernel_rfl) (hXS _ hI) rfl (fun W hW => have hI := hSx W hW; (by first | exact rLd (v := .slice _ _ _) rfl (by kernel_rfl) rfl (by first | exact hI.oldp hbx | exact hbx | exact hI.oldp hps | exact hps) | exact rLd rfl (by kernel_rfl) rfl (by first | exact hI.oldp hbx | exact hbx | exact hI.oldp hps | exact hps))) ?_ | refine WT_skip 15 rfl rfl (by kernel_rfl) (hXS _ hI) rfl ?_
    first | refine WT_take 16 rfl rfl (by kernel_rfl) (hXS _ hI) rfl (fun W hW => have hI := hSx W hW; (by first | exact rMoveI rfl rfl | exact rMove rfl)) ?_ | refine WT_skip 16 rfl rfl (by kernel_rfl) (hXS _ hI) rfl ?_
    first | refine WT_take 17 rfl rfl (by kernel_rfl) (hXS _ hI) rfl (fun W hW => have hI := hSx W hW; (rIdx (sz := 8) rfl Tryd.underlying22 (by kernel_rfl) rfl rfl (by omega))) ?_ | refine WT_skip 17 rfl rfl (by kernel_rfl) (hXS _ hI) rfl ?_
    first | refine WT_take 18 rfl rfl (by kernel_rfl) (hXS _ hI) rfl (fun W hW => have hI := hSx W hW; (by first | exact rLdA (n := 8) rfl (by kernel_rfl) (by kernel_rfl) rfl (by rfl) (fun k u hk => hI.oldp (hoi k u hk)) | exact rLdA (n := 8) rfl (by kernel_rfl) (by kernel_rfl) rfl (by rfl) hoi | exact rLdA (n := 8) rfl (by kernel_rfl) (by kernel_rfl) rfl (by rfl) (fun k u hk => hI.oldp (hok k u hk)) | exact rLdA (n := 8) rfl (by kernel_rfl) (by kernel_rfl) rfl (by rfl) hok)) ?_ | refine WT_skip 18 rfl rfl (by kernel_rfl) (hXS _ hI) rfl ?_
    refine WT_one 19 rfl (by kernel_rfl) rfl ?_
    refine WL_call rfl rfl rfl (rCall (vs := [.agg _, .agg _]) rfl Tryd.func15 rfl rfl rfl) ?_
    refine (before_any (oAt l i) (oAt l k) _).mono ?_
    rw [hbf]
    rintro e w1 ⟨rfl, hp⟩
    refine ⟨_, rfl, ?_⟩
    replace hI := hI.pure hp
    refine WL_nil ⟨hXS _ hI, ?_⟩
    first | refine WT_take 20 rfl rfl (by kernel_rfl) (hXS _ hI) rfl (fun W hW => have hI := hSx W hW; (by first | exact rNotT rfl rfl | exact rNotF rfl rfl | exact rNot rfl rfl)) ?_ | refine WT_skip 20 rfl rfl (by kernel_rfl) (hXS _ hI) rfl ?_
    refine WT_take 21 rfl rfl (by kernel_rfl) (hXS _ hI) rfl (fun W hW => have hI := hSx W hW; (by first | exact rPickTB rfl rfl rfl | exact rPickFB rfl rfl rfl | exact rPickB rfl rfl rfl rfl)) ?_
    refine WT_end (by kernel_rfl) ?_
    refine W_cond true rfl ?_
    refine W_seq ?_
    refine W_region ?_
    refine WL_val rfl rfl rfl (by first | exact rAsgnB rfl rfl | exact rAsgn rfl) ?_
    refine WL_nil ?_
    refine W_ret ?_
    exact ret1 7 (.inr rfl) rfl ⟨rfl, hI.pu⟩
  | true =>
  rw [Bool.true_and, Bool.true_and, Bool.true_and]
  cases hs : fdN (popB l (oAt l k).a) l.length with
  | none =>
    cases hf : fdN (popB l (oAt l i).a) l.length with
    | none =>
      refine calls_of_W (N := Tryd.f16.ntmps) Tryd.func16 rfl rfl rfl ?_
      refine W_seq ?_
      refine W_region ?_
      refine WL_val rfl rfl rfl (by first | exact rAsgnB rfl rfl | exact rAsgn rfl) ?_
      refine WL_nil ?_
      refine W_seq ?_
      refine W_seq ?_
      refine W_draw (by kernel_rfl) ?_
      refine WA_inv (T := []) hI.drew ?_
      intro Sx hSx hXS
      replace hI := hI.drew
      refine WT_take 0 rfl rfl (by kernel_rfl) (hXS _ hI) rfl (fun W hW => have hI := hSx W hW; (by first | exact rLd (v := .func _ _ _) rfl (by kernel_rfl) rfl (by first | exact hI.oldp hbx | exact hbx | exact hI.oldp hps | exact hps) | exact rLd rfl (by kernel_rfl) rfl (by first | exact hI.oldp hbx | exact hbx | exact hI.oldp hps | exact hps))) ?_
      refine WT_take 1 rfl rfl (by kernel_rfl) (hXS _ hI) rfl (fun W hW => have hI := hSx W hW; (by first | exact rMoveI rfl rfl | exact rMove rfl)) ?_
      refine WT_one 2 rfl (by kernel_rfl) rfl ?_
      refine WL_call rfl rfl rfl (rCallF (f := 11) (first := []) (cap := [_]) (vs := [.int .i64 _, .pointer _]) rfl rfl Tryd.func11 rfl rfl rfl) ?_
      refine (push_any _ (h.ops.pure hI.pu) (cellP hI.pu h.box) i (by assumption)).mono ?_
      rw [hbi]
      rintro e w1 ⟨rfl, hp⟩
      refine ⟨_, rfl, ?_⟩
      replace hI := hI.pure hp
      refine WL_nil ⟨hXS _ hI, ?_⟩
      refine WT_take 3 rfl rfl (by kernel_rfl) (hXS _ hI) rfl (fun W hW => have hI := hSx W hW; (by first | exact rNotT rfl rfl | exact rNotF rfl rfl | exact rNot rfl rfl)) ?_
      refine WT_take 4 rfl rfl (by kernel_rfl) (hXS _ hI) rfl (fun W hW => have hI := hSx W hW; (by first | exact rMoveB rfl rfl | exact rMove rfl)) ?_
      first | refine WT_take 5 rfl rfl (by kernel_rfl) (hXS _ hI) rfl (fun W hW => have hI := hSx W hW; (by first | exact rLd (v := .func _ _ _) rfl (by kernel_rfl) rfl (by first | exact hI.oldp hbx | exact hbx | exact hI.oldp hps | exact hps) | exact rLd rfl (by kernel_rfl) rfl (by first | exact hI.oldp hbx | exact hbx | exact hI.oldp hps | exact hps))) ?_ | refine WT_skip 5 rfl rfl (by kernel_rfl) (hXS _ hI) rfl ?_
      first | refine WT_take 6 rfl rfl (by kernel_rfl) (hXS _ hI) rfl (fun W hW => have hI := hSx W hW; (by first | exact rMoveI rfl rfl | exact rMove rfl)) ?_ | refine WT_skip 6 rfl rfl (by kernel_rfl) (hXS _ hI) rfl ?_
      refine WT_one 7 rfl (by kernel_rfl) rfl ?_
      refine WL_call rfl rfl rfl (rCallF (f := 11) (first := []) (cap := [_]) (vs := [.int .i64 _, .pointer _]) rfl rfl Tryd.func11 rfl rfl rfl) ?_
      refine (push_any _ (h.ops.pure hI.pu) (cellP hI.pu h.box) k (by assumption)).mono ?_
      rw [hbk]
      rintro e w1 ⟨rfl, hp⟩
      refine ⟨_, rfl, ?_⟩
      replace hI := hI.pure hp
      refine WL_nil ⟨hXS _ hI, ?_⟩
      first | refine WT_take 8 rfl rfl (by kernel_rfl) (hXS _ hI) rfl (fun W hW => have hI := hSx W hW; (by first | exact rNotT rfl rfl | exact rNotF rfl rfl | exact rNot rfl rfl)) ?_ | refine WT_skip 8 rfl rfl (by kernel_rfl) (hXS _ hI) rfl ?_
      refine WT_take 9 rfl rfl (by kernel_rfl) (hXS _ hI) rfl (fun W hW => have hI := hSx W hW; (by first | exact rPickTB rfl rfl rfl | exact rPickFB rfl rfl rfl | exact rPickB rfl rfl rfl rfl)) ?_
      refine WT_take 10 rfl rfl (by kernel_rfl) (hXS _ hI) rfl (fun W hW => have hI := hSx W hW; (by first | exact rMoveB rfl rfl | exact rMove rfl)) ?_
      first | refine WT_take 11 rfl rfl (by kernel_rfl) (hXS _ hI) rfl (fun W hW => have hI := hSx W hW; (by first | exact rLd (v := .slice _ _ _) rfl (by kernel_rfl) rfl (by first | exact hI.oldp hbx | exact hbx | exact hI.oldp hps | exact hps) | exact rLd rfl (by kernel_rfl) rfl (by first | exact hI.oldp hbx | exact hbx | exact hI.oldp hps | exact hps))) ?_ | refine WT_skip 11 rfl rfl (by kernel_rfl) (hXS _ hI) rfl ?_
      first | refine WT_take 12 rfl rfl (by kernel_rfl) (hXS _ hI) rfl (fun W hW => have hI := hSx W hW; (by first | exact rMoveI rfl rfl | exact rMove rfl)) ?_ | refine WT_skip 12 rfl rfl (by kernel_rfl) (hXS _ hI) rfl ?_
      first | refine WT_take 13 rfl rfl (by kernel_rfl) (hXS _ hI) rfl (fun W hW => have hI := hSx W hW; (rIdx (sz := 8) rfl Tryd.underlying22 (by kernel_rfl) rfl rfl (by omega))) ?_ | refine WT_skip 13 rfl rfl (by kernel_rfl) (hXS _ hI) rfl ?_
      first | refine WT_take 14 rfl rfl (by kernel_rfl) (hXS _ hI) rfl (fun W hW => have hI := hSx W hW; (by first | exact rLdA (n := 8) rfl (by kernel_rfl) (by kernel_rfl) rfl (by rfl) (fun k u hk => hI.oldp (hoi k u hk)) | exact rLdA (n := 8) rfl (by kernel_rfl) (by kernel_rfl) rfl (by rfl) hoi | exact rLdA (n := 8) rfl (by kernel_rfl) (by kernel_rfl) rfl (by rfl) (fun k u hk => hI.oldp (hok k u hk)) | exact rLdA (n := 8) rfl (by kernel_rfl) (by kernel_rfl) rfl (by rfl) hok)) ?_ | refine WT_skip 14 rfl rfl (by kernel_rfl) (hXS _ hI) rfl ?_
      first | refine WT_take 15 rfl rfl (by kernel_rfl) (hXS _ hI) rfl (fun W hW => have hI := hSx W hW; (by first | exact rLd (v := .slice _ _ _) rfl (by kernel_rfl) rfl (by first | exact hI.oldp hbx | exact hbx | exact hI.oldp hps | exact hps) | exact rLd rfl (by kernel_rfl) rfl (by first | exact hI.oldp hbx | exact hbx | exact hI.oldp hps | exact hps))) ?_ | refine WT_skip 15 rfl rfl (by kernel_rfl) (hXS _ hI) rfl ?_
      first | refine WT_take 16 rfl rfl (by kernel_rfl) (hXS _ hI) rfl (fun W hW => have hI := hSx W hW; (by first | exact rMoveI rfl rfl | exact rMove rfl)) ?_ | refine WT_skip 16 rfl rfl (by kernel_rfl) (hXS _ hI) rfl ?_
      first | refine WT_take 17 rfl rfl (by kernel_rfl) (hXS _ hI) rfl (fun W hW => have hI := hSx W hW; (rIdx (sz := 8) rfl Tryd.underlying22 (by kernel_rfl) rfl rfl (by omega))) ?_ | refine WT_skip 17 rfl rfl (by kernel_rfl) (hXS _ hI) rfl ?_
      first | refine WT_take 18 rfl rfl (by kernel_rfl) (hXS _ hI) rfl (fun W hW => have hI := hSx W hW; (by first | exact rLdA (n := 8) rfl (by kernel_rfl) (by kernel_rfl) rfl (by rfl) (fun k u hk => hI.oldp (hoi k u hk)) | exact rLdA (n := 8) rfl (by kernel_rfl) (by kernel_rfl) rfl (by rfl) hoi | exact rLdA (n := 8) rfl (by kernel_rfl) (by kernel_rfl) rfl (by rfl) (fun k u hk => hI.oldp (hok k u hk)) | exact rLdA (n := 8) rfl (by kernel_rfl) (by kernel_rfl) rfl (by rfl) hok)) ?_ | refine WT_skip 18 rfl rfl (by kernel_rfl) (hXS _ hI) rfl ?_
      refine WT_one 19 rfl (by kernel_rfl) rfl ?_
      refine WL_call rfl rfl rfl (rCall (vs := [.agg _, .agg _]) rfl Tryd.func15 rfl rfl rfl) ?_
      refine (before_any (oAt l i) (oAt l k) _).mono ?_
      rw [hbf]
      rintro e w1 ⟨rfl, hp⟩
      refine ⟨_, rfl, ?_⟩
      replace hI := hI.pure hp
      refine WL_nil ⟨hXS _ hI, ?_⟩
      first | refine WT_take 20 rfl rfl (by kernel_rfl) (hXS _ hI) rfl (fun W hW => have hI := hSx W hW; (by first | exact rNotT rfl rfl | exact rNotF rfl rfl | exact rNot rfl rfl)) ?_ | refine WT_skip 20 rfl rfl (by kernel_rfl) (hXS _ hI) rfl ?_
      refine WT_take 21 rfl rfl (by kernel_rfl) (hXS _ hI) rfl (fun W hW => have hI := hSx W hW; (by first | exact rPickTB rfl rfl rfl | exact rPickFB rfl rfl rfl | exact rPickB rfl rfl rfl rfl)) ?_
      refine WT_end (by kernel_rfl) ?_
      refine W_cond false rfl ?_
      refine W_skip ?_
      have hv3 : mpF (popB l) l.length (oAt l i).a = none := by unfold mpF; rw [hf]; rfl
      refine W_seq ?_
      refine W_draw (by kernel_rfl) ?_
      refine WA_inv (T := []) hI.drew ?_
      intro Sx hSx hXS
      replace hI := hI.drew
      refine WT_take 0 rfl rfl (by kernel_rfl) (hXS _ hI) rfl (fun W hW => have hI := hSx W hW; (by first | exact rLd (v := .map _) rfl (by kernel_rfl) rfl (by first | exact hI.oldp hbx | exact hbx | exact hI.oldp h8 | exact h8 | exact hI.oldp hoi3 | exact hoi3 | exact hI.oldp hok3 | exact hok3) | exact rLd rfl (by kernel_rfl) rfl (by first | exact hI.oldp hbx | exact hbx | exact hI.oldp h8 | exact h8 | exact hI.oldp hoi3 | exact hoi3 | exact hI.oldp hok3 | exact hok3))) ?_
      refine WT_take 1 rfl rfl (by kernel_rfl) (hXS _ hI) rfl (fun W hW => have hI := hSx W hW; (by first | exact rLd (v := .slice _ _ _) rfl (by kernel_rfl) rfl (by first | exact hI.oldp hbx | exact hbx | exact hI.oldp h8 | exact h8 | exact hI.oldp hoi3 | exact hoi3 | exact hI.oldp hok3 | exact hok3) | exact rLd rfl (by kernel_rfl) rfl (by first | exact hI.oldp hbx | exact hbx | exact hI.oldp h8 | exact h8 | exact hI.oldp hoi3 | exact hoi3 | exact hI.oldp hok3 | exact hok3))) ?_
      refine WT_take 2 rfl rfl (by kernel_rfl) (hXS _ hI) rfl (fun W hW => have hI := hSx W hW; (by first | exact rMoveI rfl rfl | exact rMove rfl)) ?_
      refine WT_take 3 rfl rfl (by kernel_rfl) (hXS _ hI) rfl (fun W hW => have hI := hSx W hW; (rIdx (sz := 8) rfl Tryd.underlying22 (by kernel_rfl) rfl rfl (by omega))) ?_
      refine WT_take 4 rfl rfl (by kernel_rfl) (hXS _ hI) rfl (fun W hW => have hI := hSx W hW; (by first | exact rFldN (off := 3) rfl (by kernel_rfl) rfl | exact rFld (off := 3) rfl (by kernel_rfl) rfl)) ?_
      refine WT_take 5 rfl rfl (by kernel_rfl) (hXS _ hI) rfl (fun W hW => have hI := hSx W hW; (by first | exact rLd (v := .int .i64 _) rfl (by kernel_rfl) rfl (by first | exact hI.oldp hbx | exact hbx | exact hI.oldp h8 | exact h8 | exact hI.oldp hoi3 | exact hoi3 | exact hI.oldp hok3 | exact hok3) | exact rLd rfl (by kernel_rfl) rfl (by first | exact hI.oldp hbx | exact hbx | exact hI.oldp h8 | exact h8 | exact hI.oldp hoi3 | exact hoi3 | exact hI.oldp hok3 | exact hok3))) ?_
      refine WT_take 6 rfl rfl (by kernel_rfl) (hXS _ hI) rfl (fun W hW => have hI := hSx W hW; (rLookKN (a := (oAt l i).a) (zv := .int .i64 0) keyI hv3 rfl Tryd.underlying39 (by kernel_rfl) rfl rfl trivial (mapP hI.pu hM))) ?_
      refine WT_take 7 rfl rfl (by kernel_rfl) (hXS _ hI) rfl (fun W hW => have hI := hSx W hW; (by first | exact rMoveT rfl rfl | exact rMove rfl)) ?_
      refine WT_take 8 rfl rfl (by kernel_rfl) (hXS _ hI) rfl (fun W hW => have hI := hSx W hW; (rExtr rfl rfl rfl)) ?_
      refine WT_take 9 rfl rfl (by kernel_rfl) (hXS _ hI) rfl (fun W hW => have hI := hSx W hW; (rExtr rfl rfl rfl)) ?_
      refine WT_take 10 rfl rfl (by kernel_rfl) (hXS _ hI) rfl (fun W hW => have hI := hSx W hW; (by first | exact rAsgnI rfl rfl | exact rAsgn rfl)) ?_
      refine WT_take 11 rfl rfl (by kernel_rfl) (hXS _ hI) rfl (fun W hW => have hI := hSx W hW; (by first | exact rAsgnB rfl rfl | exact rAsgn rfl)) ?_
      refine WT_end (by kernel_rfl) ?_
      have hv4 : mpF (popB l) l.length (oAt l k).a = none := by unfold mpF; rw [hs]; rfl
      refine W_seq ?_
      refine W_draw (by kernel_rfl) ?_
      refine WA_inv (T := []) hI.drew ?_
      intro Sx hSx hXS
      replace hI := hI.drew
      refine WT_take 0 rfl rfl (by kernel_rfl) (hXS _ hI) rfl (fun W hW => have hI := hSx W hW; (by first | exact rLd (v := .map _) rfl (by kernel_rfl) rfl (by first | exact hI.oldp hbx | exact hbx | exact hI.oldp h8 | exact h8 | exact hI.oldp hoi3 | exact hoi3 | exact hI.oldp hok3 | exact hok3) | exact rLd rfl (by kernel_rfl) rfl (by first | exact hI.oldp hbx | exact hbx | exact hI.oldp h8 | exact h8 | exact hI.oldp hoi3 | exact hoi3 | exact hI.oldp hok3 | exact hok3))) ?_
      refine WT_take 1 rfl rfl (by kernel_rfl) (hXS _ hI) rfl (fun W hW => have hI := hSx W hW; (by first | exact rLd (v := .slice _ _ _) rfl (by kernel_rfl) rfl (by first | exact hI.oldp hbx | exact hbx | exact hI.oldp h8 | exact h8 | exact hI.oldp hoi3 | exact hoi3 | exact hI.oldp hok3 | exact hok3) | exact rLd rfl (by kernel_rfl) rfl (by first | exact hI.oldp hbx | exact hbx | exact hI.oldp h8 | exact h8 | exact hI.oldp hoi3 | exact hoi3 | exact hI.oldp hok3 | exact hok3))) ?_
      refine WT_take 2 rfl rfl (by kernel_rfl) (hXS _ hI) rfl (fun W hW => have hI := hSx W hW; (by first | exact rMoveI rfl rfl | exact rMove rfl)) ?_
      refine WT_take 3 rfl rfl (by kernel_rfl) (hXS _ hI) rfl (fun W hW => have hI := hSx W hW; (rIdx (sz := 8) rfl Tryd.underlying22 (by kernel_rfl) rfl rfl (by omega))) ?_
      refine WT_take 4 rfl rfl (by kernel_rfl) (hXS _ hI) rfl (fun W hW => have hI := hSx W hW; (by first | exact rFldN (off := 3) rfl (by kernel_rfl) rfl | exact rFld (off := 3) rfl (by kernel_rfl) rfl)) ?_
      refine WT_take 5 rfl rfl (by kernel_rfl) (hXS _ hI) rfl (fun W hW => have hI := hSx W hW; (by first | exact rLd (v := .int .i64 _) rfl (by kernel_rfl) rfl (by first | exact hI.oldp hbx | exact hbx | exact hI.oldp h8 | exact h8 | exact hI.oldp hoi3 | exact hoi3 | exact hI.oldp hok3 | exact hok3) | exact rLd rfl (by kernel_rfl) rfl (by first | exact hI.oldp hbx | exact hbx | exact hI.oldp h8 | exact h8 | exact hI.oldp hoi3 | exact hoi3 | exact hI.oldp hok3 | exact hok3))) ?_
      refine WT_take 6 rfl rfl (by kernel_rfl) (hXS _ hI) rfl (fun W hW => have hI := hSx W hW; (rLookKN (a := (oAt l k).a) (zv := .int .i64 0) keyI hv4 rfl Tryd.underlying39 (by kernel_rfl) rfl rfl trivial (mapP hI.pu hM))) ?_
      refine WT_take 7 rfl rfl (by kernel_rfl) (hXS _ hI) rfl (fun W hW => have hI := hSx W hW; (by first | exact rMoveT rfl rfl | exact rMove rfl)) ?_
      refine WT_take 8 rfl rfl (by kernel_rfl) (hXS _ hI) rfl (fun W hW => have hI := hSx W hW; (rExtr rfl rfl rfl)) ?_
      refine WT_take 9 rfl rfl (by kernel_rfl) (hXS _ hI) rfl (fun W hW => have hI := hSx W hW; (rExtr rfl rfl rfl)) ?_
      refine WT_take 10 rfl rfl (by kernel_rfl) (hXS _ hI) rfl (fun W hW => have hI := hSx W hW; (by first | exact rAsgnI rfl rfl | exact rAsgn rfl)) ?_
      refine WT_take 11 rfl rfl (by kernel_rfl) (hXS _ hI) rfl (fun W hW => have hI := hSx W hW; (by first | exact rAsgnB rfl rfl | exact rAsgn rfl)) ?_
      refine WT_end (by kernel_rfl) ?_
      refine W_seq ?_
      refine W_draw (by kernel_rfl) ?_
      refine WA_inv (T := []) hI.drew ?_
      intro Sx hSx hXS
      replace hI := hI.drew
      refine WT_take 0 rfl rfl (by kernel_rfl) (hXS _ hI) rfl (fun W hW => have hI := hSx W hW; (by first | exact rMoveB rfl rfl | exact rMove rfl)) ?_
      refine WT_take 1 rfl rfl (by kernel_rfl) (hXS _ hI) rfl (fun W hW => have hI := hSx W hW; (by first | exact rMoveB rfl rfl | exact rMove rfl)) ?_
      refine WT_skip 2 rfl rfl (by kernel_rfl) (hXS _ hI) rfl ?_
      refine WT_skip 3 rfl rfl (by kernel_rfl) (hXS _ hI) rfl ?_
      refine WT_skip 4 rfl rfl (by kernel_rfl) (hXS _ hI) rfl ?_
      refine WT_skip 5 rfl rfl (by kernel_rfl) (hXS _ hI) rfl ?_
      refine WT_skip 6 rfl rfl (by kernel_rfl) (hXS _ hI) rfl ?_
      refine WT_skip 7 rfl rfl (by kernel_rfl) (hXS _ hI) rfl ?_
      refine WT_skip 8 rfl rfl (by kernel_rfl) (hXS _ hI) rfl ?_
      refine WT_skip 9 rfl rfl (by kernel_rfl) (hXS _ hI) rfl ?_
      refine WT_skip 10 rfl rfl (by kernel_rfl) (hXS _ hI) rfl ?_
      refine WT_skip 11 rfl rfl (by kernel_rfl) (hXS _ hI) rfl ?_
      refine WT_skip 12 rfl rfl (by kernel_rfl) (hXS _ hI) rfl ?_
      refine WT_skip 13 rfl rfl (by kernel_rfl) (hXS _ hI) rfl ?_
      refine WT_skip 14 rfl rfl (by kernel_rfl) (hXS _ hI) rfl ?_
      refine WT_take 15 rfl rfl (by kernel_rfl) (hXS _ hI) rfl (fun W hW => have hI := hSx W hW; (by first | exact rPickTB rfl rfl rfl | exact rPickFB rfl rfl rfl | exact rPickB rfl rfl rfl rfl)) ?_
      refine WT_take 16 rfl rfl (by kernel_rfl) (hXS _ hI) rfl (fun W hW => have hI := hSx W hW; (by first | exact rAsgnB rfl rfl | exact rAsgn rfl)) ?_
      refine WT_end (by kernel_rfl) ?_
      refine W_ret ?_
      exact ret1 7 (.inr rfl) rfl ⟨rfl, hI.pu⟩
    | some f =>
      refine calls_of_W (N := Tryd.f16.ntmps) Tryd.func16 rfl rfl rfl ?_
      refine W_seq ?_
      refine W_region ?_
      refine WL_val rfl rfl rfl (by first | exact rAsgnB rfl rfl | exact rAsgn rfl) ?_
      refine WL_nil ?_
      refine W_seq ?_
      refine W_seq ?_
      refine W_draw (by kernel_rfl) ?_
      refine WA_inv (T := []) hI.drew ?_
      intro Sx hSx hXS
      replace hI := hI.drew
      refine WT_take 0 rfl rfl (by kernel_rfl) (hXS _ hI) rfl (fun W hW => have hI := hSx W hW; (by first | exact rLd (v := .func _ _ _) rfl (by kernel_rfl) rfl (by first | exact hI.oldp hbx | exact hbx | exact hI.oldp hps | exact hps) | exact rLd rfl (by kernel_rfl) rfl (by first | exact hI.oldp hbx | exact hbx | exact hI.oldp hps | exact hps))) ?_
      refine WT_take 1 rfl rfl (by kernel_rfl) (hXS _ hI) rfl (fun W hW => have hI := hSx W hW; (by first | exact rMoveI rfl rfl | exact rMove rfl)) ?_
      refine WT_one 2 rfl (by kernel_rfl) rfl ?_
      refine WL_call rfl rfl rfl (rCallF (f := 11) (first := []) (cap := [_]) (vs := [.int .i64 _, .pointer _]) rfl rfl Tryd.func11 rfl rfl rfl) ?_
      refine (push_any _ (h.ops.pure hI.pu) (cellP hI.pu h.box) i (by assumption)).mono ?_
      rw [hbi]
      rintro e w1 ⟨rfl, hp⟩
      refine ⟨_, rfl, ?_⟩
      replace hI := hI.pure hp
      refine WL_nil ⟨hXS _ hI, ?_⟩
      refine WT_take 3 rfl rfl (by kernel_rfl) (hXS _ hI) rfl (fun W hW => have hI := hSx W hW; (by first | exact rNotT rfl rfl | exact rNotF rfl rfl | exact rNot rfl rfl)) ?_
      refine WT_take 4 rfl rfl (by kernel_rfl) (hXS _ hI) rfl (fun W hW => have hI := hSx W hW; (by first | exact rMoveB rfl rfl | exact rMove rfl)) ?_
      first | refine WT_take 5 rfl rfl (by kernel_rfl) (hXS _ hI) rfl (fun W hW => have hI := hSx W hW; (by first | exact rLd (v := .func _ _ _) rfl (by kernel_rfl) rfl (by first | exact hI.oldp hbx | exact hbx | exact hI.oldp hps | exact hps) | exact rLd rfl (by kernel_rfl) rfl (by first | exact hI.oldp hbx | exact hbx | exact hI.oldp hps | exact hps))) ?_ | refine WT_skip 5 rfl rfl (by kernel_rfl) (hXS _ hI) rfl ?_
      first | refine WT_take 6 rfl rfl (by kernel_rfl) (hXS _ hI) rfl (fun W hW => have hI := hSx W hW; (by first | exact rMoveI rfl rfl | exact rMove rfl)) ?_ | refine WT_skip 6 rfl rfl (by kernel_rfl) (hXS _ hI) rfl ?_
      refine WT_one 7 rfl (by kernel_rfl) rfl ?_
      refine WL_call rfl rfl rfl (rCallF (f := 11) (first := []) (cap := [_]) (vs := [.int .i64 _, .pointer _]) rfl rfl Tryd.func11 rfl rfl rfl) ?_
      refine (push_any _ (h.ops.pure hI.pu) (cellP hI.pu h.box) k (by assumption)).mono ?_
      rw [hbk]
      rintro e w1 ⟨rfl, hp⟩
      refine ⟨_, rfl, ?_⟩
      replace hI := hI.pure hp
      refine WL_nil ⟨hXS _ hI, ?_⟩
      first | refine WT_take 8 rfl rfl (by kernel_rfl) (hXS _ hI) rfl (fun W hW => have hI := hSx W hW; (by first | exact rNotT rfl rfl | exact rNotF rfl rfl | exact rNot rfl rfl)) ?_ | refine WT_skip 8 rfl rfl (by kernel_rfl) (hXS _ hI) rfl ?_
      refine WT_take 9 rfl rfl (by kernel_rfl) (hXS _ hI) rfl (fun W hW => have hI := hSx W hW; (by first | exact rPickTB rfl rfl rfl | exact rPickFB rfl rfl rfl | exact rPickB rfl rfl rfl rfl)) ?_
      refine WT_take 10 rfl rfl (by kernel_rfl) (hXS _ hI) rfl (fun W hW => have hI := hSx W hW; (by first | exact rMoveB rfl rfl | exact rMove rfl)) ?_
      first | refine WT_take 11 rfl rfl (by kernel_rfl) (hXS _ hI) rfl (fun W hW => have hI := hSx W hW; (by first | exact rLd (v := .slice _ _ _) rfl (by kernel_rfl) rfl (by first | exact hI.oldp hbx | exact hbx | exact hI.oldp hps | exact hps) | exact rLd rfl (by kernel_rfl) rfl (by first | exact hI.oldp hbx | exact hbx | exact hI.oldp hps | exact hps))) ?_ | refine WT_skip 11 rfl rfl (by kernel_rfl) (hXS _ hI) rfl ?_
      first | refine WT_take 12 rfl rfl (by kernel_rfl) (hXS _ hI) rfl (fun W hW => have hI := hSx W hW; (by first | exact rMoveI rfl rfl | exact rMove rfl)) ?_ | refine WT_skip 12 rfl rfl (by kernel_rfl) (hXS _ hI) rfl ?_
      first | refine WT_take 13 rfl rfl (by kernel_rfl) (hXS _ hI) rfl (fun W hW => have hI := hSx W hW; (rIdx (sz := 8) rfl Tryd.underlying22 (by kernel_rfl) rfl rfl (by omega))) ?_ | refine WT_skip 13 rfl rfl (by kernel_rfl) (hXS _ hI) rfl ?_
      first | refine WT_take 14 rfl rfl (by kernel_rfl) (hXS _ hI) rfl (fun W hW => have hI := hSx W hW; (by first | exact rLdA (n := 8) rfl (by kernel_rfl) (by kernel_rfl) rfl (by rfl) (fun k u hk => hI.oldp (hoi k u hk)) | exact rLdA (n := 8) rfl (by kernel_rfl) (by kernel_rfl) rfl (by rfl) hoi | exact rLdA (n := 8) rfl (by kernel_rfl) (by kernel_rfl) rfl (by rfl) (fun k u hk => hI.oldp (hok k u hk)) | exact rLdA (n := 8) rfl (by kernel_rfl) (by kernel_rfl) rfl (by rfl) hok)) ?_ | refine WT_skip 14 rfl rfl (by kernel_rfl) (hXS _ hI) rfl ?_
      first | refine WT_take 15 rfl rfl (by kernel_rfl) (hXS _ hI) rfl (fun W hW => have hI := hSx W hW; (by first | exact rLd (v := .slice _ _ _) rfl (by kernel_rfl) rfl (by first | exact hI.oldp hbx | exact hbx | exact hI.oldp hps | exact hps) | exact rLd rfl (by kernel_rfl) rfl (by first | exact hI.oldp hbx | exact hbx | exact hI.oldp hps | exact hps))) ?_ | refine WT_skip 15 rfl rfl (by kernel_rfl) (hXS _ hI) rfl ?_
      first | refine WT_take 16 rfl rfl (by kernel_rfl) (hXS _ hI) rfl (fun W hW => have hI := hSx W hW; (by first | exact rMoveI rfl rfl | exact rMove rfl)) ?_ | refine WT_skip 16 rfl rfl (by kernel_rfl) (hXS _ hI) rfl ?_
      first | refine WT_take 17 rfl rfl (by kernel_rfl) (hXS _ hI) rfl (fun W hW => have hI := hSx W hW; (rIdx (sz := 8) rfl Tryd.underlying22 (by kernel_rfl) rfl rfl (by omega))) ?_ | refine WT_skip 17 rfl rfl (by kernel_rfl) (hXS _ hI) rfl ?_
      first | refine WT_take 18 rfl rfl (by kernel_rfl) (hXS _ hI) rfl (fun W hW => have hI := hSx W hW; (by first | exact rLdA (n := 8) rfl (by kernel_rfl) (by kernel_rfl) rfl (by rfl) (fun k u hk => hI.oldp (hoi k u hk)) | exact rLdA (n := 8) rfl (by kernel_rfl) (by kernel_rfl) rfl (by rfl) hoi | exact rLdA (n := 8) rfl (by kernel_rfl) (by kernel_rfl) rfl (by rfl) (fun k u hk => hI.oldp (hok k u hk)) | exact rLdA (n := 8) rfl (by kernel_rfl) (by kernel_rfl) rfl (by rfl) hok)) ?_ | refine WT_skip 18 rfl rfl (by kernel_rfl) (hXS _ hI) rfl ?_
      refine WT_one 19 rfl (by kernel_rfl) rfl ?_
      refine WL_call rfl rfl rfl (rCall (vs := [.agg _, .agg _]) rfl Tryd.func15 rfl rfl rfl) ?_
      refine (before_any (oAt l i) (oAt l k) _).mono ?_
      rw [hbf]
      rintro e w1 ⟨rfl, hp⟩
      refine ⟨_, rfl, ?_⟩
      replace hI := hI.pure hp
      refine WL_nil ⟨hXS _ hI, ?_⟩
      first | refine WT_take 20 rfl rfl (by kernel_rfl) (hXS _ hI) rfl (fun W hW => have hI := hSx W hW; (by first | exact rNotT rfl rfl | exact rNotF rfl rfl | exact rNot rfl rfl)) ?_ | refine WT_skip 20 rfl rfl (by kernel_rfl) (hXS _ hI) rfl ?_
      refine WT_take 21 rfl rfl (by kernel_rfl) (hXS _ hI) rfl (fun W hW => have hI := hSx W hW; (by first | exact rPickTB rfl rfl rfl | exact rPickFB rfl rfl rfl | exact rPickB rfl rfl rfl rfl)) ?_
      refine WT_end (by kernel_rfl) ?_
      refine W_cond false rfl ?_
      refine W_skip ?_
      have hv3 : mpF (popB l) l.length (oAt l i).a = some (.int .i64 (f : Int)) := by unfold mpF; rw [hf]; rfl
      refine W_seq ?_
      refine W_draw (by kernel_rfl) ?_
      refine WA_inv (T := []) hI.drew ?_
      intro Sx hSx hXS
      replace hI := hI.drew
      refine WT_take 0 rfl rfl (by kernel_rfl) (hXS _ hI) rfl (fun W hW => have hI := hSx W hW; (by first | exact rLd (v := .map _) rfl (by kernel_rfl) rfl (by first | exact hI.oldp hbx | exact hbx | exact hI.oldp h8 | exact h8 | exact hI.oldp hoi3 | exact hoi3 | exact hI.oldp hok3 | exact hok3) | exact rLd rfl (by kernel_rfl) rfl (by first | exact hI.oldp hbx | exact hbx | exact hI.oldp h8 | exact h8 | exact hI.oldp hoi3 | exact hoi3 | exact hI.oldp hok3 | exact hok3))) ?_
      refine WT_take 1 rfl rfl (by kernel_rfl) (hXS _ hI) rfl (fun W hW => have hI := hSx W hW; (by first | exact rLd (v := .slice _ _ _) rfl (by kernel_rfl) rfl (by first | exact hI.oldp hbx | exact hbx | exact hI.oldp h8 | exact h8 | exact hI.oldp hoi3 | exact hoi3 | exact hI.oldp hok3 | exact hok3) | exact rLd rfl (by kernel_rfl) rfl (by first | exact hI.oldp hbx | exact hbx | exact hI.oldp h8 | exact h8 | exact hI.oldp hoi3 | exact hoi3 | exact hI.oldp hok3 | exact hok3))) ?_
      refine WT_take 2 rfl rfl (by kernel_rfl) (hXS _ hI) rfl (fun W hW => have hI := hSx W hW; (by first | exact rMoveI rfl rfl | exact rMove rfl)) ?_
      refine WT_take 3 rfl rfl (by kernel_rfl) (hXS _ hI) rfl (fun W hW => have hI := hSx W hW; (rIdx (sz := 8) rfl Tryd.underlying22 (by kernel_rfl) rfl rfl (by omega))) ?_
      refine WT_take 4 rfl rfl (by kernel_rfl) (hXS _ hI) rfl (fun W hW => have hI := hSx W hW; (by first | exact rFldN (off := 3) rfl (by kernel_rfl) rfl | exact rFld (off := 3) rfl (by kernel_rfl) rfl)) ?_
      refine WT_take 5 rfl rfl (by kernel_rfl) (hXS _ hI) rfl (fun W hW => have hI := hSx W hW; (by first | exact rLd (v := .int .i64 _) rfl (by kernel_rfl) rfl (by first | exact hI.oldp hbx | exact hbx | exact hI.oldp h8 | exact h8 | exact hI.oldp hoi3 | exact hoi3 | exact hI.oldp hok3 | exact hok3) | exact rLd rfl (by kernel_rfl) rfl (by first | exact hI.oldp hbx | exact hbx | exact hI.oldp h8 | exact h8 | exact hI.oldp hoi3 | exact hoi3 | exact hI.oldp hok3 | exact hok3))) ?_
      refine WT_take 6 rfl rfl (by kernel_rfl) (hXS _ hI) rfl (fun W hW => have hI := hSx W hW; (rLookKY (a := (oAt l i).a) keyI hv3 rfl Tryd.underlying39 rfl rfl trivial (mapP hI.pu hM))) ?_
      refine WT_take 7 rfl rfl (by kernel_rfl) (hXS _ hI) rfl (fun W hW => have hI := hSx W hW; (by first | exact rMoveT rfl rfl | exact rMove rfl)) ?_
      refine WT_take 8 rfl rfl (by kernel_rfl) (hXS _ hI) rfl (fun W hW => have hI := hSx W hW; (rExtr rfl rfl rfl)) ?_
      refine WT_take 9 rfl rfl (by kernel_rfl) (hXS _ hI) rfl (fun W hW => have hI := hSx W hW; (rExtr rfl rfl rfl)) ?_
      refine WT_take 10 rfl rfl (by kernel_rfl) (hXS _ hI) rfl (fun W hW => have hI := hSx W hW; (by first | exact rAsgnI rfl rfl | exact rAsgn rfl)) ?_
      refine WT_take 11 rfl rfl (by kernel_rfl) (hXS _ hI) rfl (fun W hW => have hI := hSx W hW; (by first | exact rAsgnB rfl rfl | exact rAsgn rfl)) ?_
      refine WT_end (by kernel_rfl) ?_
      have hv4 : mpF (popB l) l.length (oAt l k).a = none := by unfold mpF; rw [hs]; rfl
      refine W_seq ?_
      refine W_draw (by kernel_rfl) ?_
      refine WA_inv (T := []) hI.drew ?_
      intro Sx hSx hXS
      replace hI := hI.drew
      refine WT_take 0 rfl rfl (by kernel_rfl) (hXS _ hI) rfl (fun W hW => have hI := hSx W hW; (by first | exact rLd (v := .map _) rfl (by kernel_rfl) rfl (by first | exact hI.oldp hbx | exact hbx | exact hI.oldp h8 | exact h8 | exact hI.oldp hoi3 | exact hoi3 | exact hI.oldp hok3 | exact hok3) | exact rLd rfl (by kernel_rfl) rfl (by first | exact hI.oldp hbx | exact hbx | exact hI.oldp h8 | exact h8 | exact hI.oldp hoi3 | exact hoi3 | exact hI.oldp hok3 | exact hok3))) ?_
      refine WT_take 1 rfl rfl (by kernel_rfl) (hXS _ hI) rfl (fun W hW => have hI := hSx W hW; (by first | exact rLd (v := .slice _ _ _) rfl (by kernel_rfl) rfl (by first | exact hI.oldp hbx | exact hbx | exact hI.oldp h8 | exact h8 | exact hI.oldp hoi3 | exact hoi3 | exact hI.oldp hok3 | exact hok3) | exact rLd rfl (by kernel_rfl) rfl (by first | exact hI.oldp hbx | exact hbx | exact hI.oldp h8 | exact h8 | exact hI.oldp hoi3 | exact hoi3 | exact hI.oldp hok3 | exact hok3))) ?_
      refine WT_take 2 rfl rfl (by kernel_rfl) (hXS _ hI) rfl (fun W hW => have hI := hSx W hW; (by first | exact rMoveI rfl rfl | exact rMove rfl)) ?_
      refine WT_take 3 rfl rfl (by kernel_rfl) (hXS _ hI) rfl (fun W hW => have hI := hSx W hW; (rIdx (sz := 8) rfl Tryd.underlying22 (by kernel_rfl) rfl rfl (by omega))) ?_
      refine WT_take 4 rfl rfl (by kernel_rfl) (hXS _ hI) rfl (fun W hW => have hI := hSx W hW; (by first | exact rFldN (off := 3) rfl (by kernel_rfl) rfl | exact rFld (off := 3) rfl (by kernel_rfl) rfl)) ?_
      refine WT_take 5 rfl rfl (by kernel_rfl) (hXS _ hI) rfl (fun W hW => have hI := hSx W hW; (by first | exact rLd (v := .int .i64 _) rfl (by kernel_rfl) rfl (by first | exact hI.oldp hbx | exact hbx | exact hI.oldp h8 | exact h8 | exact hI.oldp hoi3 | exact hoi3 | exact hI.oldp hok3 | exact hok3) | exact rLd rfl (by kernel_rfl) rfl (by first | exact hI.oldp hbx | exact hbx | exact hI.oldp h8 | exact h8 | exact hI.oldp hoi3 | exact hoi3 | exact hI.oldp hok3 | exact hok3))) ?_
      refine WT_take 6 rfl rfl (by kernel_rfl) (hXS _ hI) rfl (fun W hW => have hI := hSx W hW; (rLookKN (a := (oAt l k).a) (zv := .int .i64 0) keyI hv4 rfl Tryd.underlying39 (by kernel_rfl) rfl rfl trivial (mapP hI.pu hM))) ?_
      refine WT_take 7 rfl rfl (by kernel_rfl) (hXS _ hI) rfl (fun W hW => have hI := hSx W hW; (by first | exact rMoveT rfl rfl | exact rMove rfl)) ?_
      refine WT_take 8 rfl rfl (by kernel_rfl) (hXS _ hI) rfl (fun W hW => have hI := hSx W hW; (rExtr rfl rfl rfl)) ?_
      refine WT_take 9 rfl rfl (by kernel_rfl) (hXS _ hI) rfl (fun W hW => have hI := hSx W hW; (rExtr rfl rfl rfl)) ?_
      refine WT_take 10 rfl rfl (by kernel_rfl) (hXS _ hI) rfl (fun W hW => have hI := hSx W hW; (by first | exact rAsgnI rfl rfl | exact rAsgn rfl)) ?_
      refine WT_take 11 rfl rfl (by kernel_rfl) (hXS _ hI) rfl (fun W hW => have hI := hSx W hW; (by first | exact rAsgnB rfl rfl | exact rAsgn rfl)) ?_
      refine WT_end (by kernel_rfl) ?_
      refine W_seq ?_
      refine W_draw (by kernel_rfl) ?_
      refine WA_inv (T := []) hI.drew ?_
      intro Sx hSx hXS
      replace hI := hI.drew
      refine WT_take 0 rfl rfl (by kernel_rfl) (hXS _ hI) rfl (fun W hW => have hI := hSx W hW; (by first | exact rMoveB rfl rfl | exact rMove rfl)) ?_
      refine WT_take 1 rfl rfl (by kernel_rfl) (hXS _ hI) rfl (fun W hW => have hI := hSx W hW; (by first | exact rMoveB rfl rfl | exact rMove rfl)) ?_
      refine WT_skip 2 rfl rfl (by kernel_rfl) (hXS _ hI) rfl ?_
      refine WT_skip 3 rfl rfl (by kernel_rfl) (hXS _ hI) rfl ?_
      refine WT_skip 4 rfl rfl (by kernel_rfl) (hXS _ hI) rfl ?_
      refine WT_skip 5 rfl rfl (by kernel_rfl) (hXS _ hI) rfl ?_
      refine WT_skip 6 rfl rfl (by kernel_rfl) (hXS _ hI) rfl ?_
      refine WT_skip 7 rfl rfl (by kernel_rfl) (hXS _ hI) rfl ?_
      refine WT_skip 8 rfl rfl (by kernel_rfl) (hXS _ hI) rfl ?_
      refine WT_skip 9 rfl rfl (by kernel_rfl) (hXS _ hI) rfl ?_
      refine WT_skip 10 rfl rfl (by kernel_rfl) (hXS _ hI) rfl ?_
      refine WT_skip 11 rfl rfl (by kernel_rfl) (hXS _ hI) rfl ?_
      refine WT_skip 12 rfl rfl (by kernel_rfl) (hXS _ hI) rfl ?_
      refine WT_skip 13 rfl rfl (by kernel_rfl) (hXS _ hI) rfl ?_
      refine WT_skip 14 rfl rfl (by kernel_rfl) (hXS _ hI) rfl ?_
      refine WT_take 15 rfl rfl (by kernel_rfl) (hXS _ hI) rfl (fun W hW => have hI := hSx W hW; (by first | exact rPickTB rfl rfl rfl | exact rPickFB rfl rfl rfl | exact rPickB rfl rfl rfl rfl)) ?_
      refine WT_take 16 rfl rfl (by kernel_rfl) (hXS _ hI) rfl (fun W hW => have hI := hSx W hW; (by first | exact rAsgnB rfl rfl | exact rAsgn rfl)) ?_
      refine WT_end (by kernel_rfl) ?_
      refine W_ret ?_
      exact ret1 7 (.inr rfl) rfl ⟨rfl, hI.pu⟩
  | some s =>
    have hsl := (fdN_some hs).1
    cases hf : fdN (popB l (oAt l i).a) l.length with
    | none =>
      refine calls_of_W (N := Tryd.f16.ntmps) Tryd.func16 rfl rfl rfl ?_
      refine W_seq ?_
      refine W_region ?_
      refine WL_val rfl rfl rfl (by first | exact rAsgnB rfl rfl | exact rAsgn rfl) ?_
      refine WL_nil ?_
      refine W_seq ?_
      refine W_seq ?_
      refine W_draw (by kernel_rfl) ?_
      refine WA_inv (T := []) hI.drew ?_
      intro Sx hSx hXS
      replace hI := hI.drew
      refine WT_take 0 rfl rfl (by kernel_rfl) (hXS _ hI) rfl (fun W hW => have hI := hSx W hW; (by first | exact rLd (v := .func _ _ _) rfl (by kernel_rfl) rfl (by first | exact hI.oldp hbx | exact hbx | exact hI.oldp hps | exact hps) | exact rLd rfl (by kernel_rfl) rfl (by first | exact hI.oldp hbx | exact hbx | exact hI.oldp hps | exact hps))) ?_
      refine WT_take 1 rfl rfl (by kernel_rfl) (hXS _ hI) rfl (fun W hW => have hI := hSx W hW; (by first | exact rMoveI rfl rfl | exact rMove rfl)) ?_
      refine WT_one 2 rfl (by kernel_rfl) rfl ?_
      refine WL_call rfl rfl rfl (rCallF (f := 11) (first := []) (cap := [_]) (vs := [.int .i64 _, .pointer _]) rfl rfl Tryd.func11 rfl rfl rfl) ?_
      refine (push_any _ (h.ops.pure hI.pu) (cellP hI.pu h.box) i (by assumption)).mono ?_
      rw [hbi]
      rintro e w1 ⟨rfl, hp⟩
      refine ⟨_, rfl, ?_⟩
      replace hI := hI.pure hp
      refine WL_nil ⟨hXS _ hI, ?_⟩
      refine WT_take 3 rfl rfl (by kernel_rfl) (hXS _ hI) rfl (fun W hW => have hI := hSx W hW; (by first | exact rNotT rfl rfl | exact rNotF rfl rfl | exact rNot rfl rfl)) ?_
      refine WT_take 4 rfl rfl (by kernel_rfl) (hXS _ hI) rfl (fun W hW => have hI := hSx W hW; (by first | exact rMoveB rfl rfl | exact rMove rfl)) ?_
      first | refine WT_take 5 rfl rfl (by kernel_rfl) (hXS _ hI) rfl (fun W hW => have hI := hSx W hW; (by first | exact rLd (v := .func _ _ _) rfl (by kernel_rfl) rfl (by first | exact hI.oldp hbx | exact hbx | exact hI.oldp hps | exact hps) | exact rLd rfl (by kernel_rfl) rfl (by first | exact hI.oldp hbx | exact hbx | exact hI.oldp hps | exact hps))) ?_ | refine WT_skip 5 rfl rfl (by kernel_rfl) (hXS _ hI) rfl ?_
      first | refine WT_take 6 rfl rfl (by kernel_rfl) (hXS _ hI) rfl (fun W hW => have hI := hSx W hW; (by first | exact rMoveI rfl rfl | exact rMove rfl)) ?_ | refine WT_skip 6 rfl rfl (by kernel_rfl) (hXS _ hI) rfl ?_
      refine WT_one 7 rfl (by kernel_rfl) rfl ?_
      refine WL_call rfl rfl rfl (rCallF (f := 11) (first := []) (cap := [_]) (vs := [.int .i64 _, .pointer _]) rfl rfl Tryd.func11 rfl rfl rfl) ?_
      refine (push_any _ (h.ops.pure hI.pu) (cellP hI.pu h.box) k (by assumption)).mono ?_
      rw [hbk]
      rintro e w1 ⟨rfl, hp⟩
      refine ⟨_, rfl, ?_⟩
      replace hI := hI.pure hp
      refine WL_nil ⟨hXS _ hI, ?_⟩
      first | refine WT_take 8 rfl rfl (by kernel_rfl) (hXS _ hI) rfl (fun W hW => have hI := hSx W hW; (by first | exact rNotT rfl rfl | exact rNotF rfl rfl | exact rNot rfl rfl)) ?_ | refine WT_skip 8 rfl rfl (by kernel_rfl) (hXS _ hI) rfl ?_
      refine WT_take 9 rfl rfl (by kernel_rfl) (hXS _ hI) rfl (fun W hW => have hI := hSx W hW; (by first | exact rPickTB rfl rfl rfl | exact rPickFB rfl rfl rfl | exact rPickB rfl rfl rfl rfl)) ?_
      refine WT_take 10 rfl rfl (by kernel_rfl) (hXS _ hI) rfl (fun W hW => have hI := hSx W hW; (by first | exact rMoveB rfl rfl | exact rMove rfl)) ?_
      first | refine WT_take 11 rfl rfl (by kernel_rfl) (hXS _ hI) rfl (fun W hW => have hI := hSx W hW; (by first | exact rLd (v := .slice _ _ _) rfl (by kernel_rfl) rfl (by first | exact hI.oldp hbx | exact hbx | exact hI.oldp hps | exact hps) | exact rLd rfl (by kernel_rfl) rfl (by first | exact hI.oldp hbx | exact hbx | exact hI.oldp hps | exact hps))) ?_ | refine WT_skip 11 rfl rfl (by kernel_rfl) (hXS _ hI) rfl ?_
      first | refine WT_take 12 rfl rfl (by kernel_rfl) (hXS _ hI) rfl (fun W hW => have hI := hSx W hW; (by first | exact rMoveI rfl rfl | exact rMove rfl)) ?_ | refine WT_skip 12 rfl rfl (by kernel_rfl) (hXS _ hI) rfl ?_
      first | refine WT_take 13 rfl rfl (by kernel_rfl) (hXS _ hI) rfl (fun W hW => have hI := hSx W hW; (rIdx (sz := 8) rfl Tryd.underlying22 (by kernel_rfl) rfl rfl (by omega))) ?_ | refine WT_skip 13 rfl rfl (by kernel_rfl) (hXS _ hI) rfl ?_
      first | refine WT_take 14 rfl rfl (by kernel_rfl) (hXS _ hI) rfl (fun W hW => have hI := hSx W hW; (by first | exact rLdA (n := 8) rfl (by kernel_rfl) (by kernel_rfl) rfl (by rfl) (fun k u hk => hI.oldp (hoi k u hk)) | exact rLdA (n := 8) rfl (by kernel_rfl) (by kernel_rfl) rfl (by rfl) hoi | exact rLdA (n := 8) rfl (by kernel_rfl) (by kernel_rfl) rfl (by rfl) (fun k u hk => hI.oldp (hok k u hk)) | exact rLdA (n := 8) rfl (by kernel_rfl) (by kernel_rfl) rfl (by rfl) hok)) ?_ | refine WT_skip 14 rfl rfl (by kernel_rfl) (hXS _ hI) rfl ?_
      first | refine WT_take 15 rfl rfl (by kernel_rfl) (hXS _ hI) rfl (fun W hW => have hI := hSx W hW; (by first | exact rLd (v := .slice _ _ _) rfl (by kernel_rfl) rfl (by first | exact hI.oldp hbx | exact hbx | exact hI.oldp hps | exact hps) | exact rLd rfl (by kernel_rfl) rfl (by first | exact hI.oldp hbx | exact hbx | exact hI.oldp hps | exact hps))) ?_ | refine WT_skip 15 rfl rfl (by kernel_rfl) (hXS _ hI) rfl ?_
      first | refine WT_take 16 rfl rfl (by kernel_rfl) (hXS _ hI) rfl (fun W hW => have hI := hSx W hW; (by first | exact rMoveI rfl rfl | exact rMove rfl)) ?_ | refine WT_skip 16 rfl rfl (by kernel_rfl) (hXS _ hI) rfl ?_
      first | refine WT_take 17 rfl rfl (by kernel_rfl) (hXS _ hI) rfl (fun W hW => have hI := hSx W hW; (rIdx (sz := 8) rfl Tryd.underlying22 (by kernel_rfl) rfl rfl (by omega))) ?_ | refine WT_skip 17 rfl rfl (by kernel_rfl) (hXS _ hI) rfl ?_
      first | refine WT_take 18 rfl rfl (by kernel_rfl) (hXS _ hI) rfl (fun W hW => have hI := hSx W hW; (by first | exact rLdA (n := 8) rfl (by kernel_rfl) (by kernel_rfl) rfl (by rfl) (fun k u hk => hI.oldp (hoi k u hk)) | exact rLdA (n := 8) rfl (by kernel_rfl) (by kernel_rfl) rfl (by rfl) hoi | exact rLdA (n := 8) rfl (by kernel_rfl) (by kernel_rfl) rfl (by rfl) (fun k u hk => hI.oldp (hok k u hk)) | exact rLdA (n := 8) rfl (by kernel_rfl) (by kernel_rfl) rfl (by rfl) hok)) ?_ | refine WT_skip 18 rfl rfl (by kernel_rfl) (hXS _ hI) rfl ?_
      refine WT_one 19 rfl (by kernel_rfl) rfl ?_
      refine WL_call rfl rfl rfl (rCall (vs := [.agg _, .agg _]) rfl Tryd.func15 rfl rfl rfl) ?_
      refine (before_any (oAt l i) (oAt l k) _).mono ?_
      rw [hbf]
      rintro e w1 ⟨rfl, hp⟩
      refine ⟨_, rfl, ?_⟩
      replace hI := hI.pure hp
      refine WL_nil ⟨hXS _ hI, ?_⟩
      first | refine WT_take 20 rfl rfl (by kernel_rfl) (hXS _ hI) rfl (fun W hW => have hI := hSx W hW; (by first | exact rNotT rfl rfl | exact rNotF rfl rfl | exact rNot rfl rfl)) ?_ | refine WT_skip 20 rfl rfl (by kernel_rfl) (hXS _ hI) rfl ?_
      refine WT_take 21 rfl rfl (by kernel_rfl) (hXS _ hI) rfl (fun W hW => have hI := hSx W hW; (by first | exact rPickTB rfl rfl rfl | exact rPickFB rfl rfl rfl | exact rPickB rfl rfl rfl rfl)) ?_
      refine WT_end (by kernel_rfl) ?_
      refine W_cond false rfl ?_
      refine W_skip ?_
      have hv3 : mpF (popB l) l.length (oAt l i).a = none := by unfold mpF; rw [hf]; rfl
      refine W_seq ?_
      refine W_draw (by kernel_rfl) ?_
      refine WA_inv (T := []) hI.drew ?_
      intro Sx hSx hXS
      replace hI := hI.drew
      refine WT_take 0 rfl rfl (by kernel_rfl) (hXS _ hI) rfl (fun W hW => have hI := hSx W hW; (by first | exact rLd (v := .map _) rfl (by kernel_rfl) rfl (by first | exact hI.oldp hbx | exact hbx | exact hI.oldp h8 | exact h8 | exact hI.oldp hoi3 | exact hoi3 | exact hI.oldp hok3 | exact hok3) | exact rLd rfl (by kernel_rfl) rfl (by first | exact hI.oldp hbx | exact hbx | exact hI.oldp h8 | exact h8 | exact hI.oldp hoi3 | exact hoi3 | exact hI.oldp hok3 | exact hok3))) ?_
      refine WT_take 1 rfl rfl (by kernel_rfl) (hXS _ hI) rfl (fun W hW => have hI := hSx W hW; (by first | exact rLd (v := .slice _ _ _) rfl (by kernel_rfl) rfl (by first | exact hI.oldp hbx | exact hbx | exact hI.oldp h8 | exact h8 | exact hI.oldp hoi3 | exact hoi3 | exact hI.oldp hok3 | exact hok3) | exact rLd rfl (by kernel_rfl) rfl (by first | exact hI.oldp hbx | exact hbx | exact hI.oldp h8 | exact h8 | exact hI.oldp hoi3 | exact hoi3 | exact hI.oldp hok3 | exact hok3))) ?_
      refine WT_take 2 rfl rfl (by kernel_rfl) (hXS _ hI) rfl (fun W hW => have hI := hSx W hW; (by first | exact rMoveI rfl rfl | exact rMove rfl)) ?_
      refine WT_take 3 rfl rfl (by kernel_rfl) (hXS _ hI) rfl (fun W hW => have hI := hSx W hW; (rIdx (sz := 8) rfl Tryd.underlying22 (by kernel_rfl) rfl rfl (by omega))) ?_
      refine WT_take 4 rfl rfl (by kernel_rfl) (hXS _ hI) rfl (fun W hW => have hI := hSx W hW; (by first | exact rFldN (off := 3) rfl (by kernel_rfl) rfl | exact rFld (off := 3) rfl (by kernel_rfl) rfl)) ?_
      refine WT_take 5 rfl rfl (by kernel_rfl) (hXS _ hI) rfl (fun W hW => have hI := hSx W hW; (by first | exact rLd (v := .int .i64 _) rfl (by kernel_rfl) rfl (by first | exact hI.oldp hbx | exact hbx | exact hI.oldp h8 | exact h8 | exact hI.oldp hoi3 | exact hoi3 | exact hI.oldp hok3 | exact hok3) | exact rLd rfl (by kernel_rfl) rfl (by first | exact hI.oldp hbx | exact hbx | exact hI.oldp h8 | exact h8 | exact hI.oldp hoi3 | exact hoi3 | exact hI.oldp hok3 | exact hok3))) ?_
      refine WT_take 6 rfl rfl (by kernel_rfl) (hXS _ hI) rfl (fun W hW => have hI := hSx W hW; (rLookKN (a := (oAt l i).a) (zv := .int .i64 0) keyI hv3 rfl Tryd.underlying39 (by kernel_rfl) rfl rfl trivial (mapP hI.pu hM))) ?_
      refine WT_take 7 rfl rfl (by kernel_rfl) (hXS _ hI) rfl (fun W hW => have hI := hSx W hW; (by first | exact rMoveT rfl rfl | exact rMove rfl)) ?_
      refine WT_take 8 rfl rfl (by kernel_rfl) (hXS _ hI) rfl (fun W hW => have hI := hSx W hW; (rExtr rfl rfl rfl)) ?_
      refine WT_take 9 rfl rfl (by kernel_rfl) (hXS _ hI) rfl (fun W hW => have hI := hSx W hW; (rExtr rfl rfl rfl)) ?_
      refine WT_take 10 rfl rfl (by kernel_rfl) (hXS _ hI) rfl (fun W hW => have hI := hSx W hW; (by first | exact rAsgnI rfl rfl | exact rAsgn rfl)) ?_
      refine WT_take 11 rfl rfl (by kernel_rfl) (hXS _ hI) rfl (fun W hW => have hI := hSx W hW; (by first | exact rAsgnB rfl rfl | exact rAsgn rfl)) ?_
      refine WT_end (by kernel_rfl) ?_
      have hv4 : mpF (popB l) l.length (oAt l k).a = some (.int .i64 (s : Int)) := by unfold mpF; rw [hs]; rfl
      refine W_seq ?_
      refine W_draw (by kernel_rfl) ?_
      refine WA_inv (T := []) hI.drew ?_
      intro Sx hSx hXS
      replace hI := hI.drew
      refine WT_take 0 rfl rfl (by kernel_rfl) (hXS _ hI) rfl (fun W hW => have hI := hSx W hW; (by first | exact rLd (v := .map _) rfl (by kernel_rfl) rfl (by first | exact hI.oldp hbx | exact hbx | exact hI.oldp h8 | exact h8 | exact hI.oldp hoi3 | exact hoi3 | exact hI.oldp hok3 | exact hok3) | exact rLd rfl (by kernel_rfl) rfl (by first | exact hI.oldp hbx | exact hbx | exact hI.oldp h8 | exact h8 | exact hI.oldp hoi3 | exact hoi3 | exact hI.oldp hok3 | exact hok3))) ?_
      refine WT_take 1 rfl rfl (by kernel_rfl) (hXS _ hI) rfl (fun W hW => have hI := hSx W hW; (by first | exact rLd (v := .slice _ _ _) rfl (by kernel_rfl) rfl (by first | exact hI.oldp hbx | exact hbx | exact hI.oldp h8 | exact h8 | exact hI.oldp hoi3 | exact hoi3 | exact hI.oldp hok3 | exact hok3) | exact rLd rfl (by kernel_rfl) rfl (by first | exact hI.oldp hbx | exact hbx | exact hI.oldp h8 | exact h8 | exact hI.oldp hoi3 | exact hoi3 | exact hI.oldp hok3 | exact hok3))) ?_
      refine WT_take 2 rfl rfl (by kernel_rfl) (hXS _ hI) rfl (fun W hW => have hI := hSx W hW; (by first | exact rMoveI rfl rfl | exact rMove rfl)) ?_
      refine WT_take 3 rfl rfl (by kernel_rfl) (hXS _ hI) rfl (fun W hW => have hI := hSx W hW; (rIdx (sz := 8) rfl Tryd.underlying22 (by kernel_rfl) rfl rfl (by omega))) ?_
      refine WT_take 4 rfl rfl (by kernel_rfl) (hXS _ hI) rfl (fun W hW => have hI := hSx W hW; (by first | exact rFldN (off := 3) rfl (by kernel_rfl) rfl | exact rFld (off := 3) rfl (by kernel_rfl) rfl)) ?_
      refine WT_take 5 rfl rfl (by kernel_rfl) (hXS _ hI) rfl (fun W hW => have hI := hSx W hW; (by first | exact rLd (v := .int .i64 _) rfl (by kernel_rfl) rfl (by first | exact hI.oldp hbx | exact hbx | exact hI.oldp h8 | exact h8 | exact hI.oldp hoi3 | exact hoi3 | exact hI.oldp hok3 | exact hok3) | exact rLd rfl (by kernel_rfl) rfl (by first | exact hI.oldp hbx | exact hbx | exact hI.oldp h8 | exact h8 | exact hI.oldp hoi3 | exact hoi3 | exact hI.oldp hok3 | exact hok3))) ?_
      refine WT_take 6 rfl rfl (by kernel_rfl) (hXS _ hI) rfl (fun W hW => have hI := hSx W hW; (rLookKY (a := (oAt l k).a) keyI hv4 rfl Tryd.underlying39 rfl rfl trivial (mapP hI.pu hM))) ?_
      refine WT_take 7 rfl rfl (by kernel_rfl) (hXS _ hI) rfl (fun W hW => have hI := hSx W hW; (by first | exact rMoveT rfl rfl | exact rMove rfl)) ?_
      refine WT_take 8 rfl rfl (by kernel_rfl) (hXS _ hI) rfl (fun W hW => have hI := hSx W hW; (rExtr rfl rfl rfl)) ?_
      refine WT_take 9 rfl rfl (by kernel_rfl) (hXS _ hI) rfl (fun W hW => have hI := hSx W hW; (rExtr rfl rfl rfl)) ?_
      refine WT_take 10 rfl rfl (by kernel_rfl) (hXS _ hI) rfl (fun W hW => have hI := hSx W hW; (by first | exact rAsgnI rfl rfl | exact rAsgn rfl)) ?_
      refine WT_take 11 rfl rfl (by kernel_rfl) (hXS _ hI) rfl (fun W hW => have hI := hSx W hW; (by first | exact rAsgnB rfl rfl | exact rAsgn rfl)) ?_
      refine WT_end (by kernel_rfl) ?_
      refine W_seq ?_
      refine W_draw (by kernel_rfl) ?_
      refine WA_inv (T := []) hI.drew ?_
      intro Sx hSx hXS
      replace hI := hI.drew
      refine WT_take 0 rfl rfl (by kernel_rfl) (hXS _ hI) rfl (fun W hW => have hI := hSx W hW; (by first | exact rMoveB rfl rfl | exact rMove rfl)) ?_
      refine WT_take 1 rfl rfl (by kernel_rfl) (hXS _ hI) rfl (fun W hW => have hI := hSx W hW; (by first | exact rMoveB rfl rfl | exact rMove rfl)) ?_
      first | refine WT_take 2 rfl rfl (by kernel_rfl) (hXS _ hI) rfl (fun W hW => have hI := hSx W hW; (by first | exact rMoveB rfl rfl | exact rMove rfl)) ?_ | refine WT_skip 2 rfl rfl (by kernel_rfl) (hXS _ hI) rfl ?_
      first | refine WT_take 3 rfl rfl (by kernel_rfl) (hXS _ hI) rfl (fun W hW => have hI := hSx W hW; (by first | exact rNotT rfl rfl | exact rNotF rfl rfl | exact rNot rfl rfl)) ?_ | refine WT_skip 3 rfl rfl (by kernel_rfl) (hXS _ hI) rfl ?_
      first | refine WT_take 4 rfl rfl (by kernel_rfl) (hXS _ hI) rfl (fun W hW => have hI := hSx W hW; (by first | exact rMoveB rfl rfl | exact rMove rfl)) ?_ | refine WT_skip 4 rfl rfl (by kernel_rfl) (hXS _ hI) rfl ?_
      refine WT_skip 5 rfl rfl (by kernel_rfl) (hXS _ hI) rfl ?_
      refine WT_skip 6 rfl rfl (by kernel_rfl) (hXS _ hI) rfl ?_
      refine WT_skip 7 rfl rfl (by kernel_rfl) (hXS _ hI) rfl ?_
      refine WT_skip 8 rfl rfl (by kernel_rfl) (hXS _ hI) rfl ?_
      refine WT_skip 9 rfl rfl (by kernel_rfl) (hXS _ hI) rfl ?_
      refine WT_skip 10 rfl rfl (by kernel_rfl) (hXS _ hI) rfl ?_
      refine WT_skip 11 rfl rfl (by kernel_rfl) (hXS _ hI) rfl ?_
      refine WT_skip 12 rfl rfl (by kernel_rfl) (hXS _ hI) rfl ?_
      refine WT_skip 13 rfl rfl (by kernel_rfl) (hXS _ hI) rfl ?_
      first | refine WT_take 14 rfl rfl (by kernel_rfl) (hXS _ hI) rfl (fun W hW => have hI := hSx W hW; (by first | exact rPickTB rfl rfl rfl | exact rPickFB rfl rfl rfl | exact rPickB rfl rfl rfl rfl)) ?_ | refine WT_skip 14 rfl rfl (by kernel_rfl) (hXS _ hI) rfl ?_
      refine WT_take 15 rfl rfl (by kernel_rfl) (hXS _ hI) rfl (fun W hW => have hI := hSx W hW; (by first | exact rPickTB rfl rfl rfl | exact rPickFB rfl rfl rfl | exact rPickB rfl rfl rfl rfl)) ?_
      refine WT_take 16 rfl rfl (by kernel_rfl) (hXS _ hI) rfl (fun W hW => have hI := hSx W hW; (by first | exact rAsgnB rfl rfl | exact rAsgn rfl)) ?_
      refine WT_end (by kernel_rfl) ?_
      refine W_ret ?_
      exact ret1 7 (.inr rfl) rfl ⟨rfl, hI.pu⟩
    | some f =>
      have hfl := (fdN_some hf).1
      obtain ⟨bA', oA', hae, hos⟩ := hat s hsl
      injection hae with hae
      injection hae with e1 e2
      subst e1 e2
      obtain ⟨bA', oA', hae, hof⟩ := hat f hfl
      injection hae with hae
      injection hae with e1 e2
      subst e1 e2
      refine calls_of_W (N := Tryd.f16.ntmps) Tryd.func16 rfl rfl rfl ?_
      refine W_seq ?_
      refine W_region ?_
      refine WL_val rfl rfl rfl (by first | exact rAsgnB rfl rfl | exact rAsgn rfl) ?_
      refine WL_nil ?_
      refine W_seq ?_
      refine W_seq ?_
      refine W_draw (by kernel_rfl) ?_
      refine WA_inv (T := []) hI.drew ?_
      intro Sx hSx hXS
      replace hI := hI.drew
      refine WT_take 0 rfl rfl (by kernel_rfl) (hXS _ hI) rfl (fun W hW => have hI := hSx W hW; (by first | exact rLd (v := .func _ _ _) rfl (by kernel_rfl) rfl (by first | exact hI.oldp hbx | exact hbx | exact hI.oldp hps | exact hps) | exact rLd rfl (by kernel_rfl) rfl (by first | exact hI.oldp hbx | exact hbx | exact hI.oldp hps | exact hps))) ?_
      refine WT_take 1 rfl rfl (by kernel_rfl) (hXS _ hI) rfl (fun W hW => have hI := hSx W hW; (by first | exact rMoveI rfl rfl | exact rMove rfl)) ?_
      refine WT_one 2 rfl (by kernel_rfl) rfl ?_
      refine WL_call rfl rfl rfl (rCallF (f := 11) (first := []) (cap := [_]) (vs := [.int .i64 _, .pointer _]) rfl rfl Tryd.func11 rfl rfl rfl) ?_
      refine (push_any _ (h.ops.pure hI.pu) (cellP hI.pu h.box) i (by assumption)).mono ?_
      rw [hbi]
      rintro e w1 ⟨rfl, hp⟩
      refine ⟨_, rfl, ?_⟩
      replace hI := hI.pure hp
      refine WL_nil ⟨hXS _ hI, ?_⟩
      refine WT_take 3 rfl rfl (by kernel_rfl) (hXS _ hI) rfl (fun W hW => have hI := hSx W hW; (by first | exact rNotT rfl rfl | exact rNotF rfl rfl | exact rNot rfl rfl)) ?_
      refine WT_take 4 rfl rfl (by kernel_rfl) (hXS _ hI) rfl (fun W hW => have hI := hSx W hW; (by first | exact rMoveB rfl rfl | exact rMove rfl)) ?_
      first | refine WT_take 5 rfl rfl (by kernel_rfl) (hXS _ hI) rfl (fun W hW => have hI := hSx W hW; (by first | exact rLd (v := .func _ _ _) rfl (by kernel_rfl) rfl (by first | exact hI.oldp hbx | exact hbx | exact hI.oldp hps | exact hps) | exact rLd rfl (by kernel_rfl) rfl (by first | exact hI.oldp hbx | exact hbx | exact hI.oldp hps | exact hps))) ?_ | refine WT_skip 5 rfl rfl (by kernel_rfl) (hXS _ hI) rfl ?_
      first | refine WT_take 6 rfl rfl (by kernel_rfl) (hXS _ hI) rfl (fun W hW => have hI := hSx W hW; (by first | exact rMoveI rfl rfl | exact rMove rfl)) ?_ | refine WT_skip 6 rfl rfl (by kernel_rfl) (hXS _ hI) rfl ?_
      refine WT_one 7 rfl (by kernel_rfl) rfl ?_
      refine WL_call rfl rfl rfl (rCallF (f := 11) (first := []) (cap := [_]) (vs := [.int .i64 _, .pointer _]) rfl rfl Tryd.func11 rfl rfl rfl) ?_
      refine (push_any _ (h.ops.pure hI.pu) (cellP hI.pu h.box) k (by assumption)).mono ?_
      rw [hbk]
      rintro e w1 ⟨rfl, hp⟩
      refine ⟨_, rfl, ?_⟩
      replace hI := hI.pure hp
      refine WL_nil ⟨hXS _ hI, ?_⟩
      first | refine WT_take 8 rfl rfl (by kernel_rfl) (hXS _ hI) rfl (fun W hW => have hI := hSx W hW; (by first | exact rNotT rfl rfl | exact rNotF rfl rfl | exact rNot rfl rfl)) ?_ | refine WT_skip 8 rfl rfl (by kernel_rfl) (hXS _ hI) rfl ?_
      refine WT_take 9 rfl rfl (by kernel_rfl) (hXS _ hI) rfl (fun W hW => have hI := hSx W hW; (by first | exact rPickTB rfl rfl rfl | exact rPickFB rfl rfl rfl | exact rPickB rfl rfl rfl rfl)) ?_
      refine WT_take 10 rfl rfl (by kernel_rfl) (hXS _ hI) rfl (fun W hW => have hI := hSx W hW; (by first | exact rMoveB rfl rfl | exact rMove rfl)) ?_
      first | refine WT_take 11 rfl rfl (by kernel_rfl) (hXS _ hI) rfl (fun W hW => have hI := hSx W hW; (by first | exact rLd (v := .slice _ _ _) rfl (by kernel_rfl) rfl (by first | exact hI.oldp hbx | exact hbx | exact hI.oldp hps | exact hps) | exact rLd rfl (by kernel_rfl) rfl (by first | exact hI.oldp hbx | exact hbx | exact hI.oldp hps | exact hps))) ?_ | refine WT_skip 11 rfl rfl (by kernel_rfl) (hXS _ hI) rfl ?_
      first | refine WT_take 12 rfl rfl (by kernel_rfl) (hXS _ hI) rfl (fun W hW => have hI := hSx W hW; (by first | exact rMoveI rfl rfl | exact rMove rfl)) ?_ | refine WT_skip 12 rfl rfl (by kernel_rfl) (hXS _ hI) rfl ?_
      first | refine WT_take 13 rfl rfl (by kernel_rfl) (hXS _ hI) rfl (fun W hW => have hI := hSx W hW; (rIdx (sz := 8) rfl Tryd.underlying22 (by kernel_rfl) rfl rfl (by omega))) ?_ | refine WT_skip 13 rfl rfl (by kernel_rfl) (hXS _ hI) rfl ?_
      first | refine WT_take 14 rfl rfl (by kernel_rfl) (hXS _ hI) rfl (fun W hW => have hI := hSx W hW; (by first | exact rLdA (n := 8) rfl (by kernel_rfl) (by kernel_rfl) rfl (by rfl) (fun k u hk => hI.oldp (hoi k u hk)) | exact rLdA (n := 8) rfl (by kernel_rfl) (by kernel_rfl) rfl (by rfl) hoi | exact rLdA (n := 8) rfl (by kernel_rfl) (by kernel_rfl) rfl (by rfl) (fun k u hk => hI.oldp (hok k u hk)) | exact rLdA (n := 8) rfl (by kernel_rfl) (by kernel_rfl) rfl (by rfl) hok)) ?_ | refine WT_skip 14 rfl rfl (by kernel_rfl) (hXS _ hI) rfl ?_
      first | refine WT_take 15 rfl rfl (by kernel_rfl) (hXS _ hI) rfl (fun W hW => have hI := hSx W hW; (by first | exact rLd (v := .slice _ _ _) rfl (by kernel_rfl) rfl (by first | exact hI.oldp hbx | exact hbx | exact hI.oldp hps | exact hps) | exact rLd rfl (by kernel_rfl) rfl (by first | exact hI.oldp hbx | exact hbx | exact hI.oldp hps | exact hps))) ?_ | refine WT_skip 15 rfl rfl (by kernel_rfl) (hXS _ hI) rfl ?_
      first | refine WT_take 16 rfl rfl (by kernel_rfl) (hXS _ hI) rfl (fun W hW => have hI := hSx W hW; (by first | exact rMoveI rfl rfl | exact rMove rfl)) ?_ | refine WT_skip 16 rfl rfl (by kernel_rfl) (hXS _ hI) rfl ?_
      first | refine WT_take 17 rfl rfl (by kernel_rfl) (hXS _ hI) rfl (fun W hW => have hI := hSx W hW; (rIdx (sz := 8) rfl Tryd.underlying22 (by kernel_rfl) rfl rfl (by omega))) ?_ | refine WT_skip 17 rfl rfl (by kernel_rfl) (hXS _ hI) rfl ?_
      first | refine WT_take 18 rfl rfl (by kernel_rfl) (hXS _ hI) rfl (fun W hW => have hI := hSx W hW; (by first | exact rLdA (n := 8) rfl (by kernel_rfl) (by kernel_rfl) rfl (by rfl) (fun k u hk => hI.oldp (hoi k u hk)) | exact rLdA (n := 8) rfl (by kernel_rfl) (by kernel_rfl) rfl (by rfl) hoi | exact rLdA (n := 8) rfl (by kernel_rfl) (by kernel_rfl) rfl (by rfl) (fun k u hk => hI.oldp (hok k u hk)) | exact rLdA (n := 8) rfl (by kernel_rfl) (by kernel_rfl) rfl (by rfl) hok)) ?_ | refine WT_skip 18 rfl rfl (by kernel_rfl) (hXS _ hI) rfl ?_
      refine WT_one 19 rfl (by kernel_rfl) rfl ?_
      refine WL_call rfl rfl rfl (rCall (vs := [.agg _, .agg _]) rfl Tryd.func15 rfl rfl rfl) ?_
      refine (before_any (oAt l i) (oAt l k) _).mono ?_
      rw [hbf]
      rintro e w1 ⟨rfl, hp⟩
      refine ⟨_, rfl, ?_⟩
      replace hI := hI.pure hp
      refine WL_nil ⟨hXS _ hI, ?_⟩
      first | refine WT_take 20 rfl rfl (by kernel_rfl) (hXS _ hI) rfl (fun W hW => have hI := hSx W hW; (by first | exact rNotT rfl rfl | exact rNotF rfl rfl | exact rNot rfl rfl)) ?_ | refine WT_skip 20 rfl rfl (by kernel_rfl) (hXS _ hI) rfl ?_
      refine WT_take 21 rfl rfl (by kernel_rfl) (hXS _ hI) rfl (fun W hW => have hI := hSx W hW; (by first | exact rPickTB rfl rfl rfl | exact rPickFB rfl rfl rfl | exact rPickB rfl rfl rfl rfl)) ?_
      refine WT_end (by kernel_rfl) ?_
      refine W_cond false rfl ?_
      refine W_skip ?_
      have hv3 : mpF (popB l) l.length (oAt l i).a = some (.int .i64 (f : Int)) := by unfold mpF; rw [hf]; rfl
      refine W_seq ?_
      refine W_draw (by kernel_rfl) ?_
      refine WA_inv (T := []) hI.drew ?_
      intro Sx hSx hXS
      replace hI := hI.drew
      refine WT_take 0 rfl rfl (by kernel_rfl) (hXS _ hI) rfl (fun W hW => have hI := hSx W hW; (by first | exact rLd (v := .map _) rfl (by kernel_rfl) rfl (by first | exact hI.oldp hbx | exact hbx | exact hI.oldp h8 | exact h8 | exact hI.oldp hoi3 | exact hoi3 | exact hI.oldp hok3 | exact hok3) | exact rLd rfl (by kernel_rfl) rfl (by first | exact hI.oldp hbx | exact hbx | exact hI.oldp h8 | exact h8 | exact hI.oldp hoi3 | exact hoi3 | exact hI.oldp hok3 | exact hok3))) ?_
      refine WT_take 1 rfl rfl (by kernel_rfl) (hXS _ hI) rfl (fun W hW => have hI := hSx W hW; (by first | exact rLd (v := .slice _ _ _) rfl (by kernel_rfl) rfl (by first | exact hI.oldp hbx | exact hbx | exact hI.oldp h8 | exact h8 | exact hI.oldp hoi3 | exact hoi3 | exact hI.oldp hok3 | exact hok3) | exact rLd rfl (by kernel_rfl) rfl (by first | exact hI.oldp hbx | exact hbx | exact hI.oldp h8 | exact h8 | exact hI.oldp hoi3 | exact hoi3 | exact hI.oldp hok3 | exact hok3))) ?_
      refine WT_take 2 rfl rfl (by kernel_rfl) (hXS _ hI) rfl (fun W hW => have hI := hSx W hW; (by first | exact rMoveI rfl rfl | exact rMove rfl)) ?_
      refine WT_take 3 rfl rfl (by kernel_rfl) (hXS _ hI) rfl (fun W hW => have hI := hSx W hW; (rIdx (sz := 8) rfl Tryd.underlying22 (by kernel_rfl) rfl rfl (by omega))) ?_
      refine WT_take 4 rfl rfl (by kernel_rfl) (hXS _ hI) rfl (fun W hW => have hI := hSx W hW; (by first | exact rFldN (off := 3) rfl (by kernel_rfl) rfl | exact rFld (off := 3) rfl (by kernel_rfl) rfl)) ?_
      refine WT_take 5 rfl rfl (by kernel_rfl) (hXS _ hI) rfl (fun W hW => have hI := hSx W hW; (by first | exact rLd (v := .int .i64 _) rfl (by kernel_rfl) rfl (by first | exact hI.oldp hbx | exact hbx | exact hI.oldp h8 | exact h8 | exact hI.oldp hoi3 | exact hoi3 | exact hI.oldp hok3 | exact hok3) | exact rLd rfl (by kernel_rfl) rfl (by first | exact hI.oldp hbx | exact hbx | exact hI.oldp h8 | exact h8 | exact hI.oldp hoi3 | exact hoi3 | exact hI.oldp hok3 | exact hok3))) ?_
      refine WT_take 6 rfl rfl (by kernel_rfl) (hXS _ hI) rfl (fun W hW => have hI := hSx W hW; (rLookKY (a := (oAt l i).a) keyI hv3 rfl Tryd.underlying39 rfl rfl trivial (mapP hI.pu hM))) ?_
      refine WT_take 7 rfl rfl (by kernel_rfl) (hXS _ hI) rfl (fun W hW => have hI := hSx W hW; (by first | exact rMoveT rfl rfl | exact rMove rfl)) ?_
      refine WT_take 8 rfl rfl (by kernel_rfl) (hXS _ hI) rfl (fun W hW => have hI := hSx W hW; (rExtr rfl rfl rfl)) ?_
      refine WT_take 9 rfl rfl (by kernel_rfl) (hXS _ hI) rfl (fun W hW => have hI := hSx W hW; (rExtr rfl rfl rfl)) ?_
      refine WT_take 10 rfl rfl (by kernel_rfl) (hXS _ hI) rfl (fun W hW => have hI := hSx W hW; (by first | exact rAsgnI rfl rfl | exact rAsgn rfl)) ?_
      refine WT_take 11 rfl rfl (by kernel_rfl) (hXS _ hI) rfl (fun W hW => have hI := hSx W hW; (by first | exact rAsgnB rfl rfl | exact rAsgn rfl)) ?_
      refine WT_end (by kernel_rfl) ?_
      have hv4 : mpF (popB l) l.length (oAt l k).a = some (.int .i64 (s : Int)) := by unfold mpF; rw [hs]; rfl
      refine W_seq ?_
      refine W_draw (by kernel_rfl) ?_
      refine WA_inv (T := []) hI.drew ?_
      intro Sx hSx hXS
      replace hI := hI.drew
      refine WT_take 0 rfl rfl (by kernel_rfl) (hXS _ hI) rfl (fun W hW => have hI := hSx W hW; (by first | exact rLd (v := .map _) rfl (by kernel_rfl) rfl (by first | exact hI.oldp hbx | exact hbx | exact hI.oldp h8 | exact h8 | exact hI.oldp hoi3 | exact hoi3 | exact hI.oldp hok3 | exact hok3) | exact rLd rfl (by kernel_rfl) rfl (by first | exact hI.oldp hbx | exact hbx | exact hI.oldp h8 | exact h8 | exact hI.oldp hoi3 | exact hoi3 | exact hI.oldp hok3 | exact hok3))) ?_
      refine WT_take 1 rfl rfl (by kernel_rfl) (hXS _ hI) rfl (fun W hW => have hI := hSx W hW; (by first | exact rLd (v := .slice _ _ _) rfl (by kernel_rfl) rfl (by first | exact hI.oldp hbx | exact hbx | exact hI.oldp h8 | exact h8 | exact hI.oldp hoi3 | exact hoi3 | exact hI.oldp hok3 | exact hok3) | exact rLd rfl (by kernel_rfl) rfl (by first | exact hI.oldp hbx | exact hbx | exact hI.oldp h8 | exact h8 | exact hI.oldp hoi3 | exact hoi3 | exact hI.oldp hok3 | exact hok3))) ?_
      refine WT_take 2 rfl rfl (by kernel_rfl) (hXS _ hI) rfl (fun W hW => have hI := hSx W hW; (by first | exact rMoveI rfl rfl | exact rMove rfl)) ?_
      refine WT_take 3 rfl rfl (by kernel_rfl) (hXS _ hI) rfl (fun W hW => have hI := hSx W hW; (rIdx (sz := 8) rfl Tryd.underlying22 (by kernel_rfl) rfl rfl (by omega))) ?_
      refine WT_take 4 rfl rfl (by kernel_rfl) (hXS _ hI) rfl (fun W hW => have hI := hSx W hW; (by first | exact rFldN (off := 3) rfl (by kernel_rfl) rfl | exact rFld (off := 3) rfl (by kernel_rfl) rfl)) ?_
      refine WT_take 5 rfl rfl (by kernel_rfl) (hXS _ hI) rfl (fun W hW => have hI := hSx W hW; (by first | exact rLd (v := .int .i64 _) rfl (by kernel_rfl) rfl (by first | exact hI.oldp hbx | exact hbx | exact hI.oldp h8 | exact h8 | exact hI.oldp hoi3 | exact hoi3 | exact hI.oldp hok3 | exact hok3) | exact rLd rfl (by kernel_rfl) rfl (by first | exact hI.oldp hbx | exact hbx | exact hI.oldp h8 | exact h8 | exact hI.oldp hoi3 | exact hoi3 | exact hI.oldp hok3 | exact hok3))) ?_
      refine WT_take 6 rfl rfl (by kernel_rfl) (hXS _ hI) rfl (fun W hW => have hI := hSx W hW; (rLookKY (a := (oAt l k).a) keyI hv4 rfl Tryd.underlying39 rfl rfl trivial (mapP hI.pu hM))) ?_
      refine WT_take 7 rfl rfl (by kernel_rfl) (hXS _ hI) rfl (fun W hW => have hI := hSx W hW; (by first | exact rMoveT rfl rfl | exact rMove rfl)) ?_
      refine WT_take 8 rfl rfl (by kernel_rfl) (hXS _ hI) rfl (fun W hW => have hI := hSx W hW; (rExtr rfl rfl rfl)) ?_
      refine WT_take 9 rfl rfl (by kernel_rfl) (hXS _ hI) rfl (fun W hW => have hI := hSx W hW; (rExtr rfl rfl rfl)) ?_
      refine WT_take 10 rfl rfl (by kernel_rfl) (hXS _ hI) rfl (fun W hW => have hI := hSx W hW; (by first | exact rAsgnI rfl rfl | exact rAsgn rfl)) ?_
      refine WT_take 11 rfl rfl (by kernel_rfl) (hXS _ hI) rfl (fun W hW => have hI := hSx W hW; (by first | exact rAsgnB rfl rfl | exact rAsgn rfl)) ?_
      refine WT_end (by kernel_rfl) ?_
      refine W_seq ?_
      refine W_draw (by kernel_rfl) ?_
      refine WA_inv (T := []) hI.drew ?_
      intro Sx hSx hXS
      replace hI := hI.drew
      refine WT_take 0 rfl rfl (by kernel_rfl) (hXS _ hI) rfl (fun W hW => have hI := hSx W hW; (by first | exact rMoveB rfl rfl | exact rMove rfl)) ?_
      refine WT_take 1 rfl rfl (by kernel_rfl) (hXS _ hI) rfl (fun W hW => have hI := hSx W hW; (by first | exact rMoveB rfl rfl | exact rMove rfl)) ?_
      first | refine WT_take 2 rfl rfl (by kernel_rfl) (hXS _ hI) rfl (fun W hW => have hI := hSx W hW; (by first | exact rMoveB rfl rfl | exact rMove rfl)) ?_ | refine WT_skip 2 rfl rfl (by kernel_rfl) (hXS _ hI) rfl ?_
      first | refine WT_take 3 rfl rfl (by kernel_rfl) (hXS _ hI) rfl (fun W hW => have hI := hSx W hW; (by first | exact rNotT rfl rfl | exact rNotF rfl rfl | exact rNot rfl rfl)) ?_ | refine WT_skip 3 rfl rfl (by kernel_rfl) (hXS _ hI) rfl ?_
      first | refine WT_take 4 rfl rfl (by kernel_rfl) (hXS _ hI) rfl (fun W hW => have hI := hSx W hW; (by first | exact rMoveB rfl rfl | exact rMove rfl)) ?_ | refine WT_skip 4 rfl rfl (by kernel_rfl) (hXS _ hI) rfl ?_
      first | refine WT_take 5 rfl rfl (by kernel_rfl) (hXS _ hI) rfl (fun W hW => have hI := hSx W hW; (by first | exact rLd (v := .slice _ _ _) rfl (by kernel_rfl) rfl (by first | exact hI.oldp hbx | exact hbx) | exact rLd rfl (by kernel_rfl) rfl (by first | exact hI.oldp hbx | exact hbx))) ?_ | refine WT_skip 5 rfl rfl (by kernel_rfl) (hXS _ hI) rfl ?_
      first | refine WT_take 6 rfl rfl (by kernel_rfl) (hXS _ hI) rfl (fun W hW => have hI := hSx W hW; (by first | exact rMoveI rfl rfl | exact rMove rfl)) ?_ | refine WT_skip 6 rfl rfl (by kernel_rfl) (hXS _ hI) rfl ?_
      first | refine WT_take 7 rfl rfl (by kernel_rfl) (hXS _ hI) rfl (fun W hW => have hI := hSx W hW; (rIdx (sz := 8) rfl Tryd.underlying22 (by kernel_rfl) rfl rfl (by omega))) ?_ | refine WT_skip 7 rfl rfl (by kernel_rfl) (hXS _ hI) rfl ?_
      first | refine WT_take 8 rfl rfl (by kernel_rfl) (hXS _ hI) rfl (fun W hW => have hI := hSx W hW; (by first | exact rLdA (n := 8) rfl (by kernel_rfl) (by kernel_rfl) rfl (by rfl) (fun k u hk => hI.oldp (hos k u hk)) | exact rLdA (n := 8) rfl (by kernel_rfl) (by kernel_rfl) rfl (by rfl) hos | exact rLdA (n := 8) rfl (by kernel_rfl) (by kernel_rfl) rfl (by rfl) (fun k u hk => hI.oldp (hof k u hk)) | exact rLdA (n := 8) rfl (by kernel_rfl) (by kernel_rfl) rfl (by rfl) hof)) ?_ | refine WT_skip 8 rfl rfl (by kernel_rfl) (hXS _ hI) rfl ?_
      first | refine WT_take 9 rfl rfl (by kernel_rfl) (hXS _ hI) rfl (fun W hW => have hI := hSx W hW; (by first | exact rLd (v := .slice _ _ _) rfl (by kernel_rfl) rfl (by first | exact hI.oldp hbx | exact hbx) | exact rLd rfl (by kernel_rfl) rfl (by first | exact hI.oldp hbx | exact hbx))) ?_ | refine WT_skip 9 rfl rfl (by kernel_rfl) (hXS _ hI) rfl ?_
      first | refine WT_take 10 rfl rfl (by kernel_rfl) (hXS _ hI) rfl (fun W hW => have hI := hSx W hW; (by first | exact rMoveI rfl rfl | exact rMove rfl)) ?_ | refine WT_skip 10 rfl rfl (by kernel_rfl) (hXS _ hI) rfl ?_
      first | refine WT_take 11 rfl rfl (by kernel_rfl) (hXS _ hI) rfl (fun W hW => have hI := hSx W hW; (rIdx (sz := 8) rfl Tryd.underlying22 (by kernel_rfl) rfl rfl (by omega))) ?_ | refine WT_skip 11 rfl rfl (by kernel_rfl) (hXS _ hI) rfl ?_
      first | refine WT_take 12 rfl rfl (by kernel_rfl) (hXS _ hI) rfl (fun W hW => have hI := hSx W hW; (by first | exact rLdA (n := 8) rfl (by kernel_rfl) (by kernel_rfl) rfl (by rfl) (fun k u hk => hI.oldp (hos k u hk)) | exact rLdA (n := 8) rfl (by kernel_rfl) (by kernel_rfl) rfl (by rfl) hos | exact rLdA (n := 8) rfl (by kernel_rfl) (by kernel_rfl) rfl (by rfl) (fun k u hk => hI.oldp (hof k u hk)) | exact rLdA (n := 8) rfl (by kernel_rfl) (by kernel_rfl) rfl (by rfl) hof)) ?_ | refine WT_skip 12 rfl rfl (by kernel_rfl) (hXS _ hI) rfl ?_
      refine WT_one 13 rfl (by kernel_rfl) rfl ?_
      refine WL_call rfl rfl rfl (rCall (vs := [.agg _, .agg _]) rfl Tryd.func15 rfl rfl rfl) ?_
      refine (before_any (oAt l s) (oAt l f) _).mono ?_
      rintro e w1 ⟨rfl, hp⟩
      refine ⟨_, rfl, ?_⟩
      replace hI := hI.pure hp
      refine WL_nil ⟨hXS _ hI, ?_⟩
      first | refine WT_take 14 rfl rfl (by kernel_rfl) (hXS _ hI) rfl (fun W hW => have hI := hSx W hW; (by first | exact rPickTB rfl rfl rfl | exact rPickFB rfl rfl rfl | exact rPickB rfl rfl rfl rfl)) ?_ | refine WT_skip 14 rfl rfl (by kernel_rfl) (hXS _ hI) rfl ?_
      refine WT_take 15 rfl rfl (by kernel_rfl) (hXS _ hI) rfl (fun W hW => have hI := hSx W hW; (by first | exact rPickTB rfl rfl rfl | exact rPickFB rfl rfl rfl | exact rPickB rfl rfl rfl rfl)) ?_
      refine WT_take 16 rfl rfl (by kernel_rfl) (hXS _ hI) rfl (fun W hW => have hI := hSx W hW; (by first | exact rAsgnB rfl rfl | exact rAsgn rfl)) ?_
      refine WT_end (by kernel_rfl) ?_
      refine W_ret ?_
      exact ret1 7 (.inr rfl) rfl ⟨rfl, hI.pu⟩
end
end Go.Proofs.YtijgkocolajghaaDoor

/-! Que4: queue.Finds. -/
namespace Go.Proofs.YtijgkocolajghaaDoor
open Go.RowKit
set_option linter.unusedVariables false
set_option linter.unusedSimpArgs false
theorem ret4q {P : Program} {ρ : Env} {w : World} {fn : Func} {R : Ending → World → Prop} {e : Exit} (s t u v : Tmp) (he : e = .normal ∨ e = .ret) (hr : fn.results = #[.tmp s, .tmp t, .tmp u, .tmp v]) (h : R (.returned (.tuple #[ρ s, ρ t, ρ u, ρ v])) w) : retQ P fn R e ρ w := by
  refine retQ_intro he fun a ha => ⟨_, ?_, h⟩
  have h1 := ha.get t; have h2 := ha.get s; have h3 := ha.get u; have h4 := ha.get v
  simp only [Array.getD_eq_getD_getElem?] at h1 h2 h3 h4
  simp [results, hr, h1, h2, h3, h4]
def ThinQ (l : List Op8) : Prop := ∃ i, i < l.length ∧ (oAt l i).kind = 10 ∧ fdN (pushB l (oAt l i).res) l.length = none
def AnyB (n : Nat) (p : Nat → Nat → Bool) : Prop := ∃ i k, i < n ∧ k < n ∧ p i k = true
def BadQ (l : List Op8) : Prop := ThinQ l ∨ AnyB l.length (twiceB l) ∨ AnyB l.length (earlyB l) ∨ AnyB l.length (crossB l)
def QfPost (l : List Op8) (w0 : World) (en : Ending) (w' : World) : Prop := Pure w0 w' ∧ ((¬ OkQ l ∧ ∃ z : Int, en = .returned (.tuple #[.int .i64 0, .int .i64 0, .int .i64 0, .iface 36 (.int .i64 z)])) ∨
  (OkQ l ∧ ∃ code a b : Int, en = .returned (.tuple #[.int .i64 code, .int .i64 a, .int .i64 b, .nilIface]) ∧ (code = 0 ↔ ¬ BadQ l)))
/-- What is known of the first thin pop, some values being left. -/
def ThinI (l : List Op8) (left : Int → Prop) (thin : Int) : Prop :=
  (thin = -1 ∧ ∀ v j, fdN (popB l v) l.length = some j → ¬ left v → fdN (pushB l v) l.length ≠ none) ∨
  ∃ v j, thin = ((j : Nat) : Int) ∧ fdN (popB l v) l.length = some j ∧ fdN (pushB l v) l.length = none
theorem ThinI.start (l : List Op8) : ThinI l (fun v => (mpF (popB l) l.length v).isSome = true) (-1) := .inl ⟨rfl, fun v j hj hn => by
  exfalso; apply hn; unfold mpF; rw [hj]; rfl⟩
theorem ThinI.pushed {l : List Op8} {left : Int → Prop} {thin a : Int} (h : ThinI l left thin) (ha : fdN (pushB l a) l.length ≠ none) : ThinI l (fun k => left k ∧ k ≠ a) thin := by
  rcases h with ⟨h1, h2⟩ | h
  · refine .inl ⟨h1, fun v j hj hn => ?_⟩
    by_cases hva : v = a
    · subst hva; exact ha
    · exact h2 v j hj (fun hl => hn ⟨hl, hva⟩)
  · exact .inr h
theorem ThinI.none {l : List Op8} {left left' : Int → Prop} {thin : Int} (h : ThinI l left thin) (h0 : 0 ≤ thin) : ThinI l left' thin := by
  rcases h with ⟨h1, h2⟩ | h
  · omega
  · exact .inr h
theorem ThinI.at {l : List Op8} {left : Int → Prop} {a : Int} {j : Nat} (h1 : fdN (popB l a) l.length = some j) (h2 : fdN (pushB l a) l.length = .none) : ThinI l left (j : Int) := .inr ⟨a, j, rfl, h1, h2⟩
def thinB (thin : Int) (i k : Nat) : Bool := decide ((i : Int) = thin) && decide ((k : Int) = thin)
theorem ThinI.done {l : List Op8} {left : Int → Prop} {thin : Int} (h : ThinI l left thin) (hl : ∀ v, ¬ left v) : AnyB l.length (thinB thin) ↔ ThinQ l := by
  constructor
  · rintro ⟨i, k, hi, hk, hp⟩
    unfold thinB at hp
    simp only [Bool.and_eq_true, decide_eq_true_eq] at hp
    rcases h with ⟨h1, _⟩ | ⟨v, j, h1, h2, h3⟩
    · omega
    · obtain ⟨q1, q2⟩ := fdN_some h2
      unfold popB at q2
      simp only [Bool.and_eq_true, decide_eq_true_eq] at q2
      exact ⟨j, q1, q2.1, by rw [q2.2]; exact h3⟩
  · rintro ⟨i, hi, hk, hn⟩
    rcases h with ⟨h1, h2⟩ | ⟨v, j, h1, h2, h3⟩
    · exfalso
      cases hf : fdN (popB l (oAt l i).res) l.length with
      | none =>
        have := fdN_none.1 hf i hi
        unfold popB at this
        simp [hk] at this
      | some j => exact h2 _ j hf (hl _) hn
    · obtain ⟨q1, _⟩ := fdN_some h2
      exact ⟨j, j, q1, q1, by unfold thinB; simp [h1]⟩
def testC (b1 b8 b13 b18 : Nat) : Array Value := #[.nilFunc, .func (.func 12) #[] #[.pointer (some ⟨b13, 0, none⟩)], .func (.func 13) #[] #[.pointer (some ⟨b18, 0, none⟩), .pointer (some ⟨b1, 0, none⟩)], .func (.func 14) #[] #[.pointer (some ⟨b18, 0, none⟩), .pointer (some ⟨b1, 0, none⟩)], .func (.func 16) #[] #[.pointer (some ⟨b18, 0, none⟩), .pointer (some ⟨b1, 0, none⟩), .pointer (some ⟨b8, 0, none⟩)]]
def tstQ (l : List Op8) (thin : Int) : Nat → Nat → Nat → Bool
  | 1 => thinB thin
  | 2 => twiceB l
  | 3 => earlyB l
  | _ => crossB l
theorem tests_any {l : List Op8} {A : Option Addr} {c b1 b8 b13 b18 mb : Nat} {thin : Int} (w : World) (hQ : QB l A c b1 b18 w) (h13 : w.cell? ⟨b13, 0, none⟩ = some (.int .i64 thin)) (h8 : w.cell? ⟨b8, 0, none⟩ = some (.map (some mb))) (hM : MapKIs okI kI w mb (mpF (popB l) l.length)) (t : Nat) (h1 : 1 ≤ t) (h4 : t ≤ 4) :
    ∃ f cap, (testC b1 b8 b13 b18)[t]? = some (.func (.func f) #[] (List.toArray cap)) ∧ PairC f cap l.length (tstQ l thin t) w := by
  obtain rfl | rfl | rfl | rfl : t = 1 ∨ t = 2 ∨ t = 3 ∨ t = 4 := by omega
  · exact ⟨12, [.pointer (some ⟨b13, 0, none⟩)], rfl, ⟨_, Tryd.func12, rfl, rfl⟩, fun i k w2 hi hk hp => qthin_any b13 thin w2 (cellP hp h13) i k⟩
  · exact ⟨13, [.pointer (some ⟨b18, 0, none⟩), .pointer (some ⟨b1, 0, none⟩)], rfl, ⟨_, Tryd.func13, rfl, rfl⟩, fun i k w2 hi hk hp => twice_any w2 (hQ.pure hp) i k hi hk⟩
  · exact ⟨14, [.pointer (some ⟨b18, 0, none⟩), .pointer (some ⟨b1, 0, none⟩)], rfl, ⟨_, Tryd.func14, rfl, rfl⟩, fun i k w2 hi hk hp => early_any w2 (hQ.pure hp) i k hi hk⟩
  · exact ⟨16, [.pointer (some ⟨b18, 0, none⟩), .pointer (some ⟨b1, 0, none⟩), .pointer (some ⟨b8, 0, none⟩)], rfl, ⟨_, Tryd.func16, rfl, rfl⟩, fun i k w2 hi hk hp => cross_any b8 mb w2 (hQ.pure hp) (cellP hp h8) (mapP hp hM) i k hi hk⟩
set_option maxHeartbeats 16000000 in
theorem qfinds_any (A : Option Addr) (n c : Nat) (l : List Op8) (D : Nat → Prop) (w0 : World) (h : OpsR w0 D (.slice A n c) l) : Calls Tryd.prog 5 #[.slice A n c] w0 (QfPost l w0) := by
  obtain ⟨hn, hc1, hc2⟩ := h.len
  subst hn
  have hI := Inv.start (fun _ => False) w0
  refine calls_of_W (N := Tryd.f5.ntmps) Tryd.func5 rfl rfl rfl ?_
  refine W_seq ?_
  refine W_region ?_
  refine WL_box (u := .slice _ _ _) (vs := #[_]) hI rfl rfl rfl rfl rfl rfl ?_
  clear hI; rintro b1 w - - hI
  refine WL_val rfl rfl rfl (by first | exact rAsgnI rfl rfl | exact rAsgn rfl) ?_
  refine WL_val rfl rfl rfl (by first | exact rAsgnI rfl rfl | exact rAsgn rfl) ?_
  refine WL_val rfl rfl rfl (by first | exact rAsgnI rfl rfl | exact rAsgn rfl) ?_
  refine WL_val rfl rfl rfl (by first | exact rAsgnN rfl rfl | exact rAsgnE rfl rfl | exact rAsgn rfl) ?_
  refine WL_nil ?_
  by_cases hok : OkQ l
  rotate_left
  · refine W_seq ?_
    refine W_seq ?_
    refine W_region ?_
    refine WL_val rfl rfl rfl (by first | exact rLd (v := .slice _ _ _) rfl (by kernel_rfl) rfl (by first | exact hI.c0 rfl | exact hI.c1 rfl | exact hI.c2 rfl | exact hI.c3 rfl | exact hI.c4 rfl | exact hI.c5 rfl) | exact rLd rfl (by kernel_rfl) rfl (by first | exact hI.c0 rfl | exact hI.c1 rfl | exact hI.c2 rfl | exact hI.c3 rfl | exact hI.c4 rfl | exact hI.c5 rfl)) ?_
    refine WL_call rfl rfl rfl (rCall (vs := [.slice _ _ _]) rfl Tryd.func10 rfl rfl rfl) ?_
    refine (qcheck_any A l.length c l D _ (h.pure hI.pu)).mono ?_
    rintro e w1 ⟨hp, ⟨h1, _⟩ | ⟨_, x, ⟨z, rfl⟩, rfl⟩⟩
    · exact absurd h1 hok
    refine ⟨_, rfl, ?_⟩
    replace hI := hI.pure hp
    refine WL_val rfl rfl rfl (by first | exact rAsgnN rfl rfl | exact rAsgnE rfl rfl | exact rAsgn rfl) ?_
    refine WL_nil ?_
    refine W_seq ?_
    refine W_region ?_
    refine WL_val rfl rfl rfl (by first | exact rMoveN rfl rfl | exact rMoveE rfl rfl | exact rMove rfl) ?_
    refine WL_val rfl rfl rfl (by first | exact rIfaceNe rfl Tryd.underlying24 rfl rfl | exact rNilNe rfl Tryd.underlying24 rfl) ?_
    refine WL_nil ?_
    refine W_cond true rfl ?_
    refine W_seq ?_
    refine W_region ?_
    refine WL_val rfl rfl rfl (by first | exact rMoveN rfl rfl | exact rMoveE rfl rfl | exact rMove rfl) ?_
    refine WL_val rfl rfl rfl (by first | exact rAsgnI rfl rfl | exact rAsgn rfl) ?_
    refine WL_val rfl rfl rfl (by first | exact rAsgnI rfl rfl | exact rAsgn rfl) ?_
    refine WL_val rfl rfl rfl (by first | exact rAsgnI rfl rfl | exact rAsgn rfl) ?_
    refine WL_val rfl rfl rfl (by first | exact rAsgnN rfl rfl | exact rAsgnE rfl rfl | exact rAsgn rfl) ?_
    refine WL_nil ?_
    refine W_ret ?_
    exact ret4q 2 3 4 5 (.inr rfl) rfl ⟨hI.pu, .inl ⟨hok, z, rfl⟩⟩
  refine W_seq ?_
  refine W_seq ?_
  refine W_region ?_
  refine WL_val rfl rfl rfl (by first | exact rLd (v := .slice _ _ _) rfl (by kernel_rfl) rfl (by first | exact hI.c0 rfl | exact hI.c1 rfl | exact hI.c2 rfl | exact hI.c3 rfl | exact hI.c4 rfl | exact hI.c5 rfl) | exact rLd rfl (by kernel_rfl) rfl (by first | exact hI.c0 rfl | exact hI.c1 rfl | exact hI.c2 rfl | exact hI.c3 rfl | exact hI.c4 rfl | exact hI.c5 rfl)) ?_
  refine WL_call rfl rfl rfl (rCall (vs := [.slice _ _ _]) rfl Tryd.func10 rfl rfl rfl) ?_
  refine (qcheck_any A l.length c l D _ (h.pure hI.pu)).mono ?_
  rintro e w1 ⟨hp, ⟨_, rfl⟩ | ⟨h1, _⟩⟩
  rotate_left
  · exact absurd hok h1
  refine ⟨_, rfl, ?_⟩
  replace hI := hI.pure hp
  refine WL_val rfl rfl rfl (by first | exact rAsgnN rfl rfl | exact rAsgnE rfl rfl | exact rAsgn rfl) ?_
  refine WL_nil ?_
  have h40 := hok.ops.1
  refine W_seq ?_
  refine W_region ?_
  refine WL_val rfl rfl rfl (by first | exact rMoveN rfl rfl | exact rMoveE rfl rfl | exact rMove rfl) ?_
  refine WL_val rfl rfl rfl (by first | exact rIfaceNe rfl Tryd.underlying24 rfl rfl | exact rNilNe rfl Tryd.underlying24 rfl) ?_
  refine WL_nil ?_
  refine W_cond false rfl ?_
  refine W_skip ?_
  refine W_seq ?_
  refine W_region ?_
  refine WL_mkMapK okI kI hI rfl rfl rfl rfl ?_
  clear hI; rintro b29 w hI
  refine WL_mkMapK okI kI hI rfl rfl rfl rfl ?_
  clear hI; rintro b30 w hI
  refine WL_alloc (u := .map none) (vs := #[.map none]) hI rfl rfl rfl rfl (by kernel_rfl) rfl ?_
  clear hI; rintro b8 w - - hI
  refine WL_val rfl rfl rfl (by first | exact rAsgnM rfl rfl | exact rAsgn rfl) ?_
  first | refine WL_stw0 (u := .map _) (vs := #[_]) (n := 1) hI rfl rfl rfl rfl rfl rfl (by kernel_rfl) rfl rfl rfl ?_ | refine WL_stw1 (u := .map _) (vs := #[_]) (n := 1) hI rfl rfl rfl rfl rfl rfl (by kernel_rfl) rfl rfl rfl ?_ | refine WL_stw2 (u := .map _) (vs := #[_]) (n := 1) hI rfl rfl rfl rfl rfl rfl (by kernel_rfl) rfl rfl rfl ?_ | refine WL_stw3 (u := .map _) (vs := #[_]) (n := 1) hI rfl rfl rfl rfl rfl rfl (by kernel_rfl) rfl rfl rfl ?_ | refine WL_stw4 (u := .map _) (vs := #[_]) (n := 1) hI rfl rfl rfl rfl rfl rfl (by kernel_rfl) rfl rfl rfl ?_ | refine WL_stw5 (u := .map _) (vs := #[_]) (n := 1) hI rfl rfl rfl rfl rfl rfl (by kernel_rfl) rfl rfl rfl ?_ | refine WL_st0 (u := .map _) hI rfl rfl rfl rfl rfl rfl (by kernel_rfl) rfl rfl rfl ?_ | refine WL_st1 (u := .map _) hI rfl rfl rfl rfl rfl rfl (by kernel_rfl) rfl rfl rfl ?_ | refine WL_st2 (u := .map _) hI rfl rfl rfl rfl rfl rfl (by kernel_rfl) rfl rfl rfl ?_ | refine WL_st3 (u := .map _) hI rfl rfl rfl rfl rfl rfl (by kernel_rfl) rfl rfl rfl ?_ | refine WL_st4 (u := .map _) hI rfl rfl rfl rfl rfl rfl (by kernel_rfl) rfl rfl rfl ?_ | refine WL_st5 (u := .map _) hI rfl rfl rfl rfl rfl rfl (by kernel_rfl) rfl rfl rfl ?_
  clear hI; intro w hI
  refine WL_nil ?_
  replace hI : Inv (fun _ => False) w0 w [B b8 39 #[.map (some b30)], MapKE okI kI b30 (mpF (popB l) 0), MapKE okI kI b29 (mpF (pushB l) 0), B b1 22 #[.slice A l.length c]] := hI
  refine W_seq ?_
  refine W_seq ?_
  refine W_region ?_
  refine WL_val rfl rfl rfl (by first | exact rLd (v := .slice _ _ _) rfl (by kernel_rfl) rfl (by first | exact hI.c0 rfl | exact hI.c1 rfl | exact hI.c2 rfl | exact hI.c3 rfl | exact hI.c4 rfl | exact hI.c5 rfl) | exact rLd rfl (by kernel_rfl) rfl (by first | exact hI.c0 rfl | exact hI.c1 rfl | exact hI.c2 rfl | exact hI.c3 rfl | exact hI.c4 rfl | exact hI.c5 rfl)) ?_
  refine WL_val rfl rfl rfl (rLen rfl Tryd.underlying22 rfl) ?_
  refine WL_val rfl rfl rfl (by first | exact rMoveI rfl rfl | exact rMove rfl) ?_
  refine WL_nil ?_
  refine W_block ?_
  refine W_loopN (fun mu ρ w => ∃ k : Nat, mu = l.length - k ∧ k ≤ l.length ∧ Has ρ [(33, .int .i64 (k : Int)), (32, .int .i64 (l.length : Int)), (31, .slice A l.length c), (1, .pointer (some ⟨b1, 0, none⟩)), (7, .map (some b29)), (8, .pointer (some ⟨b8, 0, none⟩))] ∧ Inv (fun _ => False) w0 w [B b8 39 #[.map (some b30)], MapKE okI kI b30 (mpF (popB l) k), MapKE okI kI b29 (mpF (pushB l) k), B b1 22 #[.slice A l.length c]]) l.length
    ⟨0, rfl, by omega, ⟨rfl, rfl, rfl, rfl, rfl, rfl, trivial⟩, hI⟩ ?_
  clear hI
  rintro mu ρ w ⟨k, rfl, hk, hH, hI⟩
  obtain ⟨σ, rfl⟩ := hH.open
  by_cases hkl : k < l.length
  · obtain ⟨bA, oA, rfl, hoc⟩ := (h.pure hI.pu).at hkl
    have hkd := hok.kind k hkl
    have hsame := mpF_same (f := pushB l) (k := k)
    have hnew := mpF_new (f := pushB l) (k := k) (a := (oAt l k).a)
    have hsameP := mpF_same (f := popB l) (k := k)
    have hnewP := mpF_new (f := popB l) (k := k) (a := (oAt l k).res)
    have hpb : ∀ v, pushB l v k = (decide ((oAt l k).kind = 9) && decide ((oAt l k).a = v)) := fun v => rfl
    have hqb : ∀ v, popB l v k = (decide ((oAt l k).kind = 10) && decide ((oAt l k).res = v)) := fun v => rfl
    have hone : (oAt l k).kind = 9 → fdN (pushB l (oAt l k).a) k = none := fun h9 => by
      rw [fdN_none]
      intro j hj
      unfold pushB
      cases hkj : decide ((oAt l j).kind = 9) with
      | false => rfl
      | true =>
        have := hok.once j k hj hkl (by simpa using hkj) h9
        simp [this]
    generalize hpk : oAt l k = pk at hoc hnew hnewP hpb hqb hone hkd
    obtain ⟨p0, p1, p2, p3, p4, p5, p6, p7⟩ := pk
    simp only at hnew hnewP hpb hqb hone hkd
    refine W_seq ?_
    refine W_region ?_
    refine WL_val rfl rfl rfl (by first | exact rLssT rfl rfl rfl (by omega) | exact rLssF rfl rfl rfl (by omega) | exact rLss rfl rfl rfl) ?_
    refine WL_nil ?_
    refine W_seq ?_
    refine W_cond true rfl ?_
    refine W_skip ?_
    refine W_seq ?_
    refine W_block ?_
    refine W_seq ?_
    refine W_region ?_
    refine WL_val rfl rfl rfl (by first | exact rMoveI rfl rfl | exact rMove rfl) ?_
    refine WL_val rfl rfl rfl (rIdx (sz := 8) rfl Tryd.underlying22 (by kernel_rfl) rfl rfl (by omega)) ?_
    refine WL_val rfl rfl rfl (by first | exact rLdB (n := 8) rfl (by kernel_rfl) (by kernel_rfl) rfl rfl hI.g0 | exact rLdA (n := 8) rfl (by kernel_rfl) (by kernel_rfl) rfl (by rfl) (fun k u hk => hI.oldp (hoc k u hk)) | exact rLdA (n := 8) rfl (by kernel_rfl) (by kernel_rfl) rfl (by rfl) hoc) ?_
    refine WL_alloc (u := .agg #[.int .i64 0, .int .i64 0, .int .i64 0, .int .i64 0, .int .i64 0, .int .i64 0, .int .i64 0, .int .i64 0]) (vs := #[.int .i64 0, .int .i64 0, .int .i64 0, .int .i64 0, .int .i64 0, .int .i64 0, .int .i64 0, .int .i64 0]) hI rfl rfl rfl rfl (by kernel_rfl) rfl ?_
    clear hI; rintro b10 w - - hI
    refine WL_val rfl rfl rfl (by first | exact rAsgnI rfl rfl | exact rAsgn rfl) ?_
    first | refine WL_stw0 (u := .agg _) (vs := #[_, _, _, _, _, _, _, _]) (n := 8) hI rfl rfl rfl rfl rfl rfl (by kernel_rfl) rfl rfl rfl ?_
    clear hI; intro w hI
    refine WL_nil ?_
    simp only [opV] at hI
    refine W_seq_cut (fun ρ w => Has ρ [(33, .int .i64 (k : Int)), (32, .int .i64 (l.length : Int)), (31, .slice (some ⟨bA, oA, none⟩) l.length c), (1, .pointer (some ⟨b1, 0, none⟩)), (7, .map (some b29)), (8, .pointer (some ⟨b8, 0, none⟩)), (9, .int .i64 (k : Int)), (10, .pointer (some ⟨b10, 0, none⟩))] ∧ Inv (fun _ => False) w0 w [B b10 41 #[.int .i64 p0, .int .i64 p1, .int .i64 p2, .int .i64 p3, .int .i64 p4, .int .i64 p5, .int .i64 p6, .int .i64 p7], B b8 39 #[.map (some b30)], MapKE okI kI b30 (mpF (popB l) (k + 1)), MapKE okI kI b29 (mpF (pushB l) k), B b1 22 #[.slice (some ⟨bA, oA, none⟩) l.length c]]) ?_ ?_
    · cases hwm : fdN (popB l p5) k with
      | some j =>
        have hv : mpF (popB l) k p5 = some (.int .i64 (j : Int)) := by unfold mpF; rw [hwm]; rfl
        have hS := hsameP (fun v hv2 => by rw [hqb] at hv2; simp only [Bool.and_eq_true, decide_eq_true_eq] at hv2; rw [← hv2.2, hwm]; simp)
        refine W_seq ?_
        refine W_region ?_
        refine WL_val rfl rfl rfl (by first | exact rLd (v := .map _) rfl (by kernel_rfl) rfl (by first | exact hI.c0 rfl | exact hI.c1 rfl | exact hI.c2 rfl | exact hI.c3 rfl | exact hI.c4 rfl | exact hI.c5 rfl) | exact rLd rfl (by kernel_rfl) rfl (by first | exact hI.c0 rfl | exact hI.c1 rfl | exact hI.c2 rfl | exact hI.c3 rfl | exact hI.c4 rfl | exact hI.c5 rfl)) ?_
        refine WL_val rfl rfl rfl (by first | exact rFldN (off := 5) rfl (by kernel_rfl) rfl | exact rFld (off := 5) rfl (by kernel_rfl) rfl) ?_
        refine WL_val rfl rfl rfl (by first | exact rLd (v := .int .i64 _) rfl (by kernel_rfl) rfl (by first | exact hI.c0 rfl | exact hI.c1 rfl | exact hI.c2 rfl | exact hI.c3 rfl | exact hI.c4 rfl | exact hI.c5 rfl) | exact rLd rfl (by kernel_rfl) rfl (by first | exact hI.c0 rfl | exact hI.c1 rfl | exact hI.c2 rfl | exact hI.c3 rfl | exact hI.c4 rfl | exact hI.c5 rfl)) ?_
        refine WL_val rfl rfl rfl (rLookKY (a := p5) keyI hv rfl Tryd.underlying39 rfl rfl trivial hI.g2) ?_
        refine WL_val rfl rfl rfl (by first | exact rMoveT rfl rfl | exact rMove rfl) ?_
        refine WL_val rfl rfl rfl (rExtr rfl rfl rfl) ?_
        refine WL_val rfl rfl rfl (rExtr rfl rfl rfl) ?_
        refine WL_val rfl rfl rfl (by first | exact rAsgnI rfl rfl | exact rAsgn rfl) ?_
        refine WL_val rfl rfl rfl (by first | exact rAsgnB rfl rfl | exact rAsgn rfl) ?_
        refine WL_nil ?_
        rw [← hS] at hI
        by_cases k10 : p2 = 10
        · refine W_seq ?_
          refine W_region ?_
          refine WL_val rfl rfl rfl (by first | exact rFldN (off := 2) rfl (by kernel_rfl) rfl | exact rFld (off := 2) rfl (by kernel_rfl) rfl) ?_
          refine WL_val rfl rfl rfl (by first | exact rLd (v := .int .i64 _) rfl (by kernel_rfl) rfl (by first | exact hI.c0 rfl | exact hI.c1 rfl | exact hI.c2 rfl | exact hI.c3 rfl | exact hI.c4 rfl | exact hI.c5 rfl) | exact rLd rfl (by kernel_rfl) rfl (by first | exact hI.c0 rfl | exact hI.c1 rfl | exact hI.c2 rfl | exact hI.c3 rfl | exact hI.c4 rfl | exact hI.c5 rfl)) ?_
          refine WL_val rfl rfl rfl (by first | exact rEqlT rfl rfl rfl (by omega) | exact rEqlF rfl rfl rfl (by omega) | exact rEql rfl rfl rfl) ?_
          refine WL_val rfl rfl rfl (by first | exact rMoveB rfl rfl | exact rMove rfl) ?_
          first | refine WL_val rfl rfl rfl (by first | exact rMoveB rfl rfl | exact rMove rfl) ?_ | refine WL_skip rfl rfl rfl ?_
          first | refine WL_val rfl rfl rfl (by first | exact rNotT rfl rfl | exact rNotF rfl rfl | exact rNot rfl rfl) ?_ | refine WL_skip rfl rfl rfl ?_
          refine WL_val rfl rfl rfl (by first | exact rPickTB rfl rfl rfl | exact rPickFB rfl rfl rfl | exact rPickB rfl rfl rfl rfl) ?_
          refine WL_nil ?_
          refine W_cond false rfl ?_
          refine W_skip ?_
          exact ⟨⟨rfl, rfl, rfl, rfl, rfl, rfl, rfl, rfl, trivial⟩, hI⟩
        · refine W_seq ?_
          refine W_region ?_
          refine WL_val rfl rfl rfl (by first | exact rFldN (off := 2) rfl (by kernel_rfl) rfl | exact rFld (off := 2) rfl (by kernel_rfl) rfl) ?_
          refine WL_val rfl rfl rfl (by first | exact rLd (v := .int .i64 _) rfl (by kernel_rfl) rfl (by first | exact hI.c0 rfl | exact hI.c1 rfl | exact hI.c2 rfl | exact hI.c3 rfl | exact hI.c4 rfl | exact hI.c5 rfl) | exact rLd rfl (by kernel_rfl) rfl (by first | exact hI.c0 rfl | exact hI.c1 rfl | exact hI.c2 rfl | exact hI.c3 rfl | exact hI.c4 rfl | exact hI.c5 rfl)) ?_
          refine WL_val rfl rfl rfl (by first | exact rEqlT rfl rfl rfl (by omega) | exact rEqlF rfl rfl rfl (by omega) | exact rEql rfl rfl rfl) ?_
          refine WL_val rfl rfl rfl (by first | exact rMoveB rfl rfl | exact rMove rfl) ?_
          refine WL_skip rfl rfl rfl ?_
          refine WL_skip rfl rfl rfl ?_
          refine WL_val rfl rfl rfl (by first | exact rPickTB rfl rfl rfl | exact rPickFB rfl rfl rfl | exact rPickB rfl rfl rfl rfl) ?_
          refine WL_nil ?_
          refine W_cond false rfl ?_
          refine W_skip ?_
          exact ⟨⟨rfl, rfl, rfl, rfl, rfl, rfl, rfl, rfl, trivial⟩, hI⟩
      | none =>
        have hv : mpF (popB l) k p5 = none := by unfold mpF; rw [hwm]; rfl
        refine W_seq ?_
        refine W_region ?_
        refine WL_val rfl rfl rfl (by first | exact rLd (v := .map _) rfl (by kernel_rfl) rfl (by first | exact hI.c0 rfl | exact hI.c1 rfl | exact hI.c2 rfl | exact hI.c3 rfl | exact hI.c4 rfl | exact hI.c5 rfl) | exact rLd rfl (by kernel_rfl) rfl (by first | exact hI.c0 rfl | exact hI.c1 rfl | exact hI.c2 rfl | exact hI.c3 rfl | exact hI.c4 rfl | exact hI.c5 rfl)) ?_
        refine WL_val rfl rfl rfl (by first | exact rFldN (off := 5) rfl (by kernel_rfl) rfl | exact rFld (off := 5) rfl (by kernel_rfl) rfl) ?_
        refine WL_val rfl rfl rfl (by first | exact rLd (v := .int .i64 _) rfl (by kernel_rfl) rfl (by first | exact hI.c0 rfl | exact hI.c1 rfl | exact hI.c2 rfl | exact hI.c3 rfl | exact hI.c4 rfl | exact hI.c5 rfl) | exact rLd rfl (by kernel_rfl) rfl (by first | exact hI.c0 rfl | exact hI.c1 rfl | exact hI.c2 rfl | exact hI.c3 rfl | exact hI.c4 rfl | exact hI.c5 rfl)) ?_
        refine WL_val rfl rfl rfl (rLookKN (a := p5) (zv := .int .i64 0) keyI hv rfl Tryd.underlying39 (by kernel_rfl) rfl rfl trivial hI.g2) ?_
        refine WL_val rfl rfl rfl (by first | exact rMoveT rfl rfl | exact rMove rfl) ?_
        refine WL_val rfl rfl rfl (rExtr rfl rfl rfl) ?_
        refine WL_val rfl rfl rfl (rExtr rfl rfl rfl) ?_
        refine WL_val rfl rfl rfl (by first | exact rAsgnI rfl rfl | exact rAsgn rfl) ?_
        refine WL_val rfl rfl rfl (by first | exact rAsgnB rfl rfl | exact rAsgn rfl) ?_
        refine WL_nil ?_
        by_cases k10 : p2 = 10
        · refine W_seq ?_
          refine W_region ?_
          refine WL_val rfl rfl rfl (by first | exact rFldN (off := 2) rfl (by kernel_rfl) rfl | exact rFld (off := 2) rfl (by kernel_rfl) rfl) ?_
          refine WL_val rfl rfl rfl (by first | exact rLd (v := .int .i64 _) rfl (by kernel_rfl) rfl (by first | exact hI.c0 rfl | exact hI.c1 rfl | exact hI.c2 rfl | exact hI.c3 rfl | exact hI.c4 rfl | exact hI.c5 rfl) | exact rLd rfl (by kernel_rfl) rfl (by first | exact hI.c0 rfl | exact hI.c1 rfl | exact hI.c2 rfl | exact hI.c3 rfl | exact hI.c4 rfl | exact hI.c5 rfl)) ?_
          refine WL_val rfl rfl rfl (by first | exact rEqlT rfl rfl rfl (by omega) | exact rEqlF rfl rfl rfl (by omega) | exact rEql rfl rfl rfl) ?_
          refine WL_val rfl rfl rfl (by first | exact rMoveB rfl rfl | exact rMove rfl) ?_
          first | refine WL_val rfl rfl rfl (by first | exact rMoveB rfl rfl | exact rMove rfl) ?_ | refine WL_skip rfl rfl rfl ?_
          first | refine WL_val rfl rfl rfl (by first | exact rNotT rfl rfl | exact rNotF rfl rfl | exact rNot rfl rfl) ?_ | refine WL_skip rfl rfl rfl ?_
          refine WL_val rfl rfl rfl (by first | exact rPickTB rfl rfl rfl | exact rPickFB rfl rfl rfl | exact rPickB rfl rfl rfl rfl) ?_
          refine WL_nil ?_
          refine W_cond true rfl ?_
          refine W_region ?_
          refine WL_val rfl rfl rfl (by first | exact rLd (v := .map _) rfl (by kernel_rfl) rfl (by first | exact hI.c0 rfl | exact hI.c1 rfl | exact hI.c2 rfl | exact hI.c3 rfl | exact hI.c4 rfl | exact hI.c5 rfl) | exact rLd rfl (by kernel_rfl) rfl (by first | exact hI.c0 rfl | exact hI.c1 rfl | exact hI.c2 rfl | exact hI.c3 rfl | exact hI.c4 rfl | exact hI.c5 rfl)) ?_
          refine WL_val rfl rfl rfl (by first | exact rFldN (off := 5) rfl (by kernel_rfl) rfl | exact rFld (off := 5) rfl (by kernel_rfl) rfl) ?_
          refine WL_val rfl rfl rfl (by first | exact rLd (v := .int .i64 _) rfl (by kernel_rfl) rfl (by first | exact hI.c0 rfl | exact hI.c1 rfl | exact hI.c2 rfl | exact hI.c3 rfl | exact hI.c4 rfl | exact hI.c5 rfl) | exact rLd rfl (by kernel_rfl) rfl (by first | exact hI.c0 rfl | exact hI.c1 rfl | exact hI.c2 rfl | exact hI.c3 rfl | exact hI.c4 rfl | exact hI.c5 rfl)) ?_
          refine WL_val rfl rfl rfl (by first | exact rMoveI rfl rfl | exact rMove rfl) ?_
          refine WL_mapSetK (a := p5) (v := .int .i64 (k : Int)) keyI 2 rfl hI rfl rfl rfl Tryd.underlying39 rfl rfl rfl trivial ?_
          clear hI; intro w hI
          simp only [List.set_cons_succ, List.set_cons_zero] at hI
          refine WL_nil ?_
          rw [hnewP (fun v => by rw [hqb]; simp [k10, eq_comm]) hwm] at hI
          exact ⟨⟨rfl, rfl, rfl, rfl, rfl, rfl, rfl, rfl, trivial⟩, hI⟩
        · rw [← hsameP (fun v hv2 => by rw [hqb] at hv2; simp [k10] at hv2)] at hI
          refine W_seq ?_
          refine W_region ?_
          refine WL_val rfl rfl rfl (by first | exact rFldN (off := 2) rfl (by kernel_rfl) rfl | exact rFld (off := 2) rfl (by kernel_rfl) rfl) ?_
          refine WL_val rfl rfl rfl (by first | exact rLd (v := .int .i64 _) rfl (by kernel_rfl) rfl (by first | exact hI.c0 rfl | exact hI.c1 rfl | exact hI.c2 rfl | exact hI.c3 rfl | exact hI.c4 rfl | exact hI.c5 rfl) | exact rLd rfl (by kernel_rfl) rfl (by first | exact hI.c0 rfl | exact hI.c1 rfl | exact hI.c2 rfl | exact hI.c3 rfl | exact hI.c4 rfl | exact hI.c5 rfl)) ?_
          refine WL_val rfl rfl rfl (by first | exact rEqlT rfl rfl rfl (by omega) | exact rEqlF rfl rfl rfl (by omega) | exact rEql rfl rfl rfl) ?_
          refine WL_val rfl rfl rfl (by first | exact rMoveB rfl rfl | exact rMove rfl) ?_
          refine WL_skip rfl rfl rfl ?_
          refine WL_skip rfl rfl rfl ?_
          refine WL_val rfl rfl rfl (by first | exact rPickTB rfl rfl rfl | exact rPickFB rfl rfl rfl | exact rPickB rfl rfl rfl rfl) ?_
          refine WL_nil ?_
          refine W_cond false rfl ?_
          refine W_skip ?_
          exact ⟨⟨rfl, rfl, rfl, rfl, rfl, rfl, rfl, rfl, trivial⟩, hI⟩
    clear hI
    rintro ρ w ⟨hH, hI⟩
    obtain ⟨σ, rfl⟩ := hH.open
    by_cases k9 : p2 = 9
    · refine W_seq ?_
      refine W_region ?_
      refine WL_val rfl rfl rfl (by first | exact rFldN (off := 2) rfl (by kernel_rfl) rfl | exact rFld (off := 2) rfl (by kernel_rfl) rfl) ?_
      refine WL_val rfl rfl rfl (by first | exact rLd (v := .int .i64 _) rfl (by kernel_rfl) rfl (by first | exact hI.c0 rfl | exact hI.c1 rfl | exact hI.c2 rfl | exact hI.c3 rfl | exact hI.c4 rfl | exact hI.c5 rfl) | exact rLd rfl (by kernel_rfl) rfl (by first | exact hI.c0 rfl | exact hI.c1 rfl | exact hI.c2 rfl | exact hI.c3 rfl | exact hI.c4 rfl | exact hI.c5 rfl)) ?_
      refine WL_val rfl rfl rfl (by first | exact rEqlT rfl rfl rfl (by omega) | exact rEqlF rfl rfl rfl (by omega) | exact rEql rfl rfl rfl) ?_
      refine WL_nil ?_
      refine W_cond true rfl ?_
      refine W_region ?_
      refine WL_val rfl rfl rfl (by first | exact rMoveM rfl rfl | exact rMove rfl) ?_
      refine WL_val rfl rfl rfl (by first | exact rFldN (off := 3) rfl (by kernel_rfl) rfl | exact rFld (off := 3) rfl (by kernel_rfl) rfl) ?_
      refine WL_val rfl rfl rfl (by first | exact rLd (v := .int .i64 _) rfl (by kernel_rfl) rfl (by first | exact hI.c0 rfl | exact hI.c1 rfl | exact hI.c2 rfl | exact hI.c3 rfl | exact hI.c4 rfl | exact hI.c5 rfl) | exact rLd rfl (by kernel_rfl) rfl (by first | exact hI.c0 rfl | exact hI.c1 rfl | exact hI.c2 rfl | exact hI.c3 rfl | exact hI.c4 rfl | exact hI.c5 rfl)) ?_
      refine WL_val rfl rfl rfl (by first | exact rMoveI rfl rfl | exact rMove rfl) ?_
      refine WL_mapSetK (a := p3) (v := .int .i64 (k : Int)) keyI 3 rfl hI rfl rfl rfl Tryd.underlying39 rfl rfl rfl trivial ?_
      clear hI; intro w hI
      simp only [List.set_cons_succ, List.set_cons_zero] at hI
      refine WL_nil ?_
      rw [hnew (fun v => by rw [hpb]; simp [k9, eq_comm]) (hone k9)] at hI
      refine W_region ?_
      refine WL_val rfl rfl rfl (by first | exact rInc rfl rfl rfl (by omega) | exact rAdd rfl rfl rfl (by omega) | exact rAddW rfl rfl rfl) ?_
      refine WL_val rfl rfl rfl (by first | exact rMoveI rfl rfl | exact rMove rfl) ?_
      refine WL_nil ?_
      exact ⟨l.length - (k + 1), by omega, k + 1, rfl, by omega, ⟨rfl, rfl, rfl, rfl, rfl, rfl, trivial⟩, hI.d0⟩
    · rw [← hsame (fun v hv2 => by rw [hpb] at hv2; simp [k9] at hv2)] at hI
      refine W_seq ?_
      refine W_region ?_
      refine WL_val rfl rfl rfl (by first | exact rFldN (off := 2) rfl (by kernel_rfl) rfl | exact rFld (off := 2) rfl (by kernel_rfl) rfl) ?_
      refine WL_val rfl rfl rfl (by first | exact rLd (v := .int .i64 _) rfl (by kernel_rfl) rfl (by first | exact hI.c0 rfl | exact hI.c1 rfl | exact hI.c2 rfl | exact hI.c3 rfl | exact hI.c4 rfl | exact hI.c5 rfl) | exact rLd rfl (by kernel_rfl) rfl (by first | exact hI.c0 rfl | exact hI.c1 rfl | exact hI.c2 rfl | exact hI.c3 rfl | exact hI.c4 rfl | exact hI.c5 rfl)) ?_
      refine WL_val rfl rfl rfl (by first | exact rEqlT rfl rfl rfl (by omega) | exact rEqlF rfl rfl rfl (by omega) | exact rEql rfl rfl rfl) ?_
      refine WL_nil ?_
      refine W_cond false rfl ?_
      refine W_skip ?_
      refine W_region ?_
      refine WL_val rfl rfl rfl (by first | exact rInc rfl rfl rfl (by omega) | exact rAdd rfl rfl rfl (by omega) | exact rAddW rfl rfl rfl) ?_
      refine WL_val rfl rfl rfl (by first | exact rMoveI rfl rfl | exact rMove rfl) ?_
      refine WL_nil ?_
      exact ⟨l.length - (k + 1), by omega, k + 1, rfl, by omega, ⟨rfl, rfl, rfl, rfl, rfl, rfl, trivial⟩, hI.d0⟩
  obtain rfl : k = l.length := by omega
  refine W_seq ?_
  refine W_region ?_
  refine WL_val rfl rfl rfl (by first | exact rLssT rfl rfl rfl (by omega) | exact rLssF rfl rfl rfl (by omega) | exact rLss rfl rfl rfl) ?_
  refine WL_nil ?_
  refine W_seq ?_
  refine W_cond false rfl ?_
  refine W_exit ?_
  refine W_seq ?_
  refine W_region ?_
  refine WL_alloc (u := .int .i64 0) (vs := #[.int .i64 0]) hI rfl rfl rfl rfl (by kernel_rfl) rfl ?_
  clear hI; rintro b13 w - - hI
  first | refine WL_stw0 (u := .int .i64 _) (vs := #[_]) (n := 1) hI rfl rfl rfl rfl rfl rfl (by kernel_rfl) rfl rfl rfl ?_ | refine WL_stw1 (u := .int .i64 _) (vs := #[_]) (n := 1) hI rfl rfl rfl rfl rfl rfl (by kernel_rfl) rfl rfl rfl ?_ | refine WL_stw2 (u := .int .i64 _) (vs := #[_]) (n := 1) hI rfl rfl rfl rfl rfl rfl (by kernel_rfl) rfl rfl rfl ?_ | refine WL_stw3 (u := .int .i64 _) (vs := #[_]) (n := 1) hI rfl rfl rfl rfl rfl rfl (by kernel_rfl) rfl rfl rfl ?_ | refine WL_stw4 (u := .int .i64 _) (vs := #[_]) (n := 1) hI rfl rfl rfl rfl rfl rfl (by kernel_rfl) rfl rfl rfl ?_ | refine WL_stw5 (u := .int .i64 _) (vs := #[_]) (n := 1) hI rfl rfl rfl rfl rfl rfl (by kernel_rfl) rfl rfl rfl ?_ | refine WL_st0 (u := .int .i64 _) hI rfl rfl rfl rfl rfl rfl (by kernel_rfl) rfl rfl rfl ?_ | refine WL_st1 (u := .int .i64 _) hI rfl rfl rfl rfl rfl rfl (by kernel_rfl) rfl rfl rfl ?_ | refine WL_st2 (u := .int .i64 _) hI rfl rfl rfl rfl rfl rfl (by kernel_rfl) rfl rfl rfl ?_ | refine WL_st3 (u := .int .i64 _) hI rfl rfl rfl rfl rfl rfl (by kernel_rfl) rfl rfl rfl ?_ | refine WL_st4 (u := .int .i64 _) hI rfl rfl rfl rfl rfl rfl (by kernel_rfl) rfl rfl rfl ?_ | refine WL_st5 (u := .int .i64 _) hI rfl rfl rfl rfl rfl rfl (by kernel_rfl) rfl rfl rfl ?_
  clear hI; intro w hI
  refine WL_nil ?_
  refine W_seq ?_
  refine W_seq ?_
  refine W_region ?_
  refine WL_val rfl rfl rfl (by first | exact rLd (v := .map _) rfl (by kernel_rfl) rfl (by first | exact hI.c0 rfl | exact hI.c1 rfl | exact hI.c2 rfl | exact hI.c3 rfl | exact hI.c4 rfl | exact hI.c5 rfl) | exact rLd rfl (by kernel_rfl) rfl (by first | exact hI.c0 rfl | exact hI.c1 rfl | exact hI.c2 rfl | exact hI.c3 rfl | exact hI.c4 rfl | exact hI.c5 rfl)) ?_
  refine WL_rangeK 2 rfl hI rfl rfl rfl rfl Tryd.underlying39 rfl ?_
  clear hI; intro br cnt w hI
  simp only [List.set_cons_succ, List.set_cons_zero] at hI
  refine WL_nil ?_
  refine W_block ?_
  refine W_loopN (fun mu ρ w => ∃ (left : Int → Prop) (cur : Option Int) (thin : Int), ThinI l left thin ∧ Has ρ [(65, .pointer (some ⟨br, 0, none⟩)), (1, .pointer (some ⟨b1, 0, none⟩)), (7, .map (some b29)), (8, .pointer (some ⟨b8, 0, none⟩)), (13, .pointer (some ⟨b13, 0, none⟩))] ∧ Inv (fun _ => False) w0 w [B b13 3 #[.int .i64 thin], B b8 39 #[.map (some b30)], RngE okI kI b30 br (mpF (popB l) l.length) left mu cur, MapKE okI kI b29 (mpF (pushB l) l.length), B b1 22 #[.slice A l.length c]]) cnt
    ⟨_, _, -1, ThinI.start l, ⟨rfl, rfl, rfl, rfl, rfl, trivial⟩, hI⟩ ?_
  clear hI
  rintro mu ρ w ⟨left, cur, thin, hT, hH, hI⟩
  obtain ⟨σ, rfl⟩ := hH.open
  refine W_seq ?_
  refine W_region ?_
  refine WL_nextK 2 rfl hI rfl rfl rfl rfl rfl (fun hnone => ?_) ?_
  rotate_left
  · clear hI
    rintro a v w hla hga hmu hI
    simp only [List.set_cons_succ, List.set_cons_zero] at hI
    obtain ⟨j, hj, rfl⟩ : ∃ j : Nat, fdN (popB l a) l.length = some j ∧ v = .int .i64 (j : Int) := by
      unfold mpF at hga
      cases hf : fdN (popB l a) l.length with
      | none => rw [hf] at hga; cases hga
      | some j => rw [hf] at hga; exact ⟨j, rfl, by injection hga with hga; exact hga.symm⟩
    refine WL_val rfl rfl rfl (rExtr rfl rfl rfl) ?_
    refine WL_nil ?_
    refine W_seq ?_
    refine W_cond true rfl ?_
    refine W_skip ?_
    refine W_block ?_
    refine W_seq ?_
    refine W_region ?_
    refine WL_val rfl rfl rfl (rEntryK hga rfl rfl hI.g2) ?_
    refine WL_val rfl rfl rfl (rExtr rfl rfl rfl) ?_
    refine WL_val rfl rfl rfl (rExtr rfl rfl rfl) ?_
    refine WL_val rfl rfl rfl (by first | exact rAsgnI rfl rfl | exact rAsgn rfl) ?_
    refine WL_val rfl rfl rfl (by first | exact rAsgnI rfl rfl | exact rAsgn rfl) ?_
    refine WL_nil ?_
    cases hf : fdN (pushB l a) l.length with
    | some q =>
      have hv : mpF (pushB l) l.length a = some (.int .i64 (q : Int)) := by unfold mpF; rw [hf]; rfl
      refine W_seq ?_
      refine W_region ?_
      refine WL_val rfl rfl rfl (by first | exact rMoveM rfl rfl | exact rMove rfl) ?_
      refine WL_val rfl rfl rfl (by first | exact rMoveI rfl rfl | exact rMove rfl) ?_
      refine WL_val rfl rfl rfl (rLookKY (a := a) keyI hv rfl Tryd.underlying39 rfl rfl trivial hI.g3) ?_
      refine WL_val rfl rfl rfl (by first | exact rMoveT rfl rfl | exact rMove rfl) ?_
      refine WL_val rfl rfl rfl (rExtr rfl rfl rfl) ?_
      refine WL_val rfl rfl rfl (rExtr rfl rfl rfl) ?_
      refine WL_val rfl rfl rfl (by first | exact rAsgnI rfl rfl | exact rAsgn rfl) ?_
      refine WL_val rfl rfl rfl (by first | exact rAsgnB rfl rfl | exact rAsgn rfl) ?_
      refine WL_nil ?_
      refine W_seq ?_
      refine W_region ?_
      refine WL_val rfl rfl rfl (by first | exact rMoveB rfl rfl | exact rMove rfl) ?_
      refine WL_val rfl rfl rfl (by first | exact rNotT rfl rfl | exact rNotF rfl rfl | exact rNot rfl rfl) ?_
      refine WL_val rfl rfl rfl (by first | exact rMoveB rfl rfl | exact rMove rfl) ?_
      refine WL_skip rfl rfl rfl ?_
      refine WL_skip rfl rfl rfl ?_
      refine WL_skip rfl rfl rfl ?_
      refine WL_skip rfl rfl rfl ?_
      refine WL_skip rfl rfl rfl ?_
      refine WL_skip rfl rfl rfl ?_
      refine WL_skip rfl rfl rfl ?_
      refine WL_val rfl rfl rfl (by first | exact rPickTB rfl rfl rfl | exact rPickFB rfl rfl rfl | exact rPickB rfl rfl rfl rfl) ?_
      refine WL_nil ?_
      refine W_cond false rfl ?_
      refine W_skip ?_
      exact ⟨mu - 1, by omega, _, _, thin, hT.pushed (by rw [hf]; simp), ⟨rfl, rfl, rfl, rfl, rfl, trivial⟩, hI⟩
    | none =>
      have hv : mpF (pushB l) l.length a = none := by unfold mpF; rw [hf]; rfl
      refine W_seq ?_
      refine W_region ?_
      refine WL_val rfl rfl rfl (by first | exact rMoveM rfl rfl | exact rMove rfl) ?_
      refine WL_val rfl rfl rfl (by first | exact rMoveI rfl rfl | exact rMove rfl) ?_
      refine WL_val rfl rfl rfl (rLookKN (a := a) (zv := .int .i64 0) keyI hv rfl Tryd.underlying39 (by kernel_rfl) rfl rfl trivial hI.g3) ?_
      refine WL_val rfl rfl rfl (by first | exact rMoveT rfl rfl | exact rMove rfl) ?_
      refine WL_val rfl rfl rfl (rExtr rfl rfl rfl) ?_
      refine WL_val rfl rfl rfl (rExtr rfl rfl rfl) ?_
      refine WL_val rfl rfl rfl (by first | exact rAsgnI rfl rfl | exact rAsgn rfl) ?_
      refine WL_val rfl rfl rfl (by first | exact rAsgnB rfl rfl | exact rAsgn rfl) ?_
      refine WL_nil ?_
      by_cases ht : thin < 0
      · refine W_seq ?_
        refine W_region ?_
        refine WL_val rfl rfl rfl (by first | exact rMoveB rfl rfl | exact rMove rfl) ?_
        refine WL_val rfl rfl rfl (by first | exact rNotT rfl rfl | exact rNotF rfl rfl | exact rNot rfl rfl) ?_
        refine WL_val rfl rfl rfl (by first | exact rMoveB rfl rfl | exact rMove rfl) ?_
        first | refine WL_val rfl rfl rfl (by first | exact rLd (v := .int .i64 _) rfl (by kernel_rfl) rfl (by first | exact hI.c0 rfl | exact hI.c1 rfl | exact hI.c2 rfl | exact hI.c3 rfl | exact hI.c4 rfl | exact hI.c5 rfl) | exact rLd rfl (by kernel_rfl) rfl (by first | exact hI.c0 rfl | exact hI.c1 rfl | exact hI.c2 rfl | exact hI.c3 rfl | exact hI.c4 rfl | exact hI.c5 rfl)) ?_ | refine WL_skip rfl rfl rfl ?_
        first | refine WL_val rfl rfl rfl (by first | exact rLssT rfl rfl rfl (by omega) | exact rLssF rfl rfl rfl (by omega) | exact rLss rfl rfl rfl) ?_ | refine WL_skip rfl rfl rfl ?_
        first | refine WL_val rfl rfl rfl (by first | exact rMoveB rfl rfl | exact rMove rfl) ?_ | refine WL_skip rfl rfl rfl ?_
        refine WL_skip rfl rfl rfl ?_
        refine WL_skip rfl rfl rfl ?_
        refine WL_skip rfl rfl rfl ?_
        first | refine WL_val rfl rfl rfl (by first | exact rPickTB rfl rfl rfl | exact rPickFB rfl rfl rfl | exact rPickB rfl rfl rfl rfl) ?_ | refine WL_skip rfl rfl rfl ?_
        refine WL_val rfl rfl rfl (by first | exact rPickTB rfl rfl rfl | exact rPickFB rfl rfl rfl | exact rPickB rfl rfl rfl rfl) ?_
        refine WL_nil ?_
        refine W_cond true rfl ?_
        refine W_region ?_
        refine WL_val rfl rfl rfl (by first | exact rMoveI rfl rfl | exact rMove rfl) ?_
        first | refine WL_stw0 (u := .int .i64 _) (vs := #[_]) (n := 1) hI rfl rfl rfl rfl rfl rfl (by kernel_rfl) rfl rfl rfl ?_ | refine WL_stw1 (u := .int .i64 _) (vs := #[_]) (n := 1) hI rfl rfl rfl rfl rfl rfl (by kernel_rfl) rfl rfl rfl ?_ | refine WL_stw2 (u := .int .i64 _) (vs := #[_]) (n := 1) hI rfl rfl rfl rfl rfl rfl (by kernel_rfl) rfl rfl rfl ?_ | refine WL_stw3 (u := .int .i64 _) (vs := #[_]) (n := 1) hI rfl rfl rfl rfl rfl rfl (by kernel_rfl) rfl rfl rfl ?_ | refine WL_stw4 (u := .int .i64 _) (vs := #[_]) (n := 1) hI rfl rfl rfl rfl rfl rfl (by kernel_rfl) rfl rfl rfl ?_ | refine WL_stw5 (u := .int .i64 _) (vs := #[_]) (n := 1) hI rfl rfl rfl rfl rfl rfl (by kernel_rfl) rfl rfl rfl ?_ | refine WL_st0 (u := .int .i64 _) hI rfl rfl rfl rfl rfl rfl (by kernel_rfl) rfl rfl rfl ?_ | refine WL_st1 (u := .int .i64 _) hI rfl rfl rfl rfl rfl rfl (by kernel_rfl) rfl rfl rfl ?_ | refine WL_st2 (u := .int .i64 _) hI rfl rfl rfl rfl rfl rfl (by kernel_rfl) rfl rfl rfl ?_ | refine WL_st3 (u := .int .i64 _) hI rfl rfl rfl rfl rfl rfl (by kernel_rfl) rfl rfl rfl ?_ | refine WL_st4 (u := .int .i64 _) hI rfl rfl rfl rfl rfl rfl (by kernel_rfl) rfl rfl rfl ?_ | refine WL_st5 (u := .int .i64 _) hI rfl rfl rfl rfl rfl rfl (by kernel_rfl) rfl rfl rfl ?_
        clear hI; intro w hI
        refine WL_nil ?_
        exact ⟨mu - 1, by omega, _, _, (j : Int), ThinI.at hj hf, ⟨rfl, rfl, rfl, rfl, rfl, trivial⟩, hI⟩
      · by_cases ht2 : (j : Int) < thin
        · refine W_seq ?_
          refine W_region ?_
          refine WL_val rfl rfl rfl (by first | exact rMoveB rfl rfl | exact rMove rfl) ?_
          refine WL_val rfl rfl rfl (by first | exact rNotT rfl rfl | exact rNotF rfl rfl | exact rNot rfl rfl) ?_
          refine WL_val rfl rfl rfl (by first | exact rMoveB rfl rfl | exact rMove rfl) ?_
          first | refine WL_val rfl rfl rfl (by first | exact rLd (v := .int .i64 _) rfl (by kernel_rfl) rfl (by first | exact hI.c0 rfl | exact hI.c1 rfl | exact hI.c2 rfl | exact hI.c3 rfl | exact hI.c4 rfl | exact hI.c5 rfl) | exact rLd rfl (by kernel_rfl) rfl (by first | exact hI.c0 rfl | exact hI.c1 rfl | exact hI.c2 rfl | exact hI.c3 rfl | exact hI.c4 rfl | exact hI.c5 rfl)) ?_ | refine WL_skip rfl rfl rfl ?_
          first | refine WL_val rfl rfl rfl (by first | exact rLssT rfl rfl rfl (by omega) | exact rLssF rfl rfl rfl (by omega) | exact rLss rfl rfl rfl) ?_ | refine WL_skip rfl rfl rfl ?_
          first | refine WL_val rfl rfl rfl (by first | exact rMoveB rfl rfl | exact rMove rfl) ?_ | refine WL_skip rfl rfl rfl ?_
          first | refine WL_val rfl rfl rfl (by first | exact rMoveI rfl rfl | exact rMove rfl) ?_ | refine WL_skip rfl rfl rfl ?_
          first | refine WL_val rfl rfl rfl (by first | exact rLd (v := .int .i64 _) rfl (by kernel_rfl) rfl (by first | exact hI.c0 rfl | exact hI.c1 rfl | exact hI.c2 rfl | exact hI.c3 rfl | exact hI.c4 rfl | exact hI.c5 rfl) | exact rLd rfl (by kernel_rfl) rfl (by first | exact hI.c0 rfl | exact hI.c1 rfl | exact hI.c2 rfl | exact hI.c3 rfl | exact hI.c4 rfl | exact hI.c5 rfl)) ?_ | refine WL_skip rfl rfl rfl ?_
          first | refine WL_val rfl rfl rfl (by first | exact rLssT rfl rfl rfl (by omega) | exact rLssF rfl rfl rfl (by omega) | exact rLss rfl rfl rfl) ?_ | refine WL_skip rfl rfl rfl ?_
          first | refine WL_val rfl rfl rfl (by first | exact rPickTB rfl rfl rfl | exact rPickFB rfl rfl rfl | exact rPickB rfl rfl rfl rfl) ?_ | refine WL_skip rfl rfl rfl ?_
          refine WL_val rfl rfl rfl (by first | exact rPickTB rfl rfl rfl | exact rPickFB rfl rfl rfl | exact rPickB rfl rfl rfl rfl) ?_
          refine WL_nil ?_
          refine W_cond true rfl ?_
          refine W_region ?_
          refine WL_val rfl rfl rfl (by first | exact rMoveI rfl rfl | exact rMove rfl) ?_
          first | refine WL_stw0 (u := .int .i64 _) (vs := #[_]) (n := 1) hI rfl rfl rfl rfl rfl rfl (by kernel_rfl) rfl rfl rfl ?_ | refine WL_stw1 (u := .int .i64 _) (vs := #[_]) (n := 1) hI rfl rfl rfl rfl rfl rfl (by kernel_rfl) rfl rfl rfl ?_ | refine WL_stw2 (u := .int .i64 _) (vs := #[_]) (n := 1) hI rfl rfl rfl rfl rfl rfl (by kernel_rfl) rfl rfl rfl ?_ | refine WL_stw3 (u := .int .i64 _) (vs := #[_]) (n := 1) hI rfl rfl rfl rfl rfl rfl (by kernel_rfl) rfl rfl rfl ?_ | refine WL_stw4 (u := .int .i64 _) (vs := #[_]) (n := 1) hI rfl rfl rfl rfl rfl rfl (by kernel_rfl) rfl rfl rfl ?_ | refine WL_stw5 (u := .int .i64 _) (vs := #[_]) (n := 1) hI rfl rfl rfl rfl rfl rfl (by kernel_rfl) rfl rfl rfl ?_ | refine WL_st0 (u := .int .i64 _) hI rfl rfl rfl rfl rfl rfl (by kernel_rfl) rfl rfl rfl ?_ | refine WL_st1 (u := .int .i64 _) hI rfl rfl rfl rfl rfl rfl (by kernel_rfl) rfl rfl rfl ?_ | refine WL_st2 (u := .int .i64 _) hI rfl rfl rfl rfl rfl rfl (by kernel_rfl) rfl rfl rfl ?_ | refine WL_st3 (u := .int .i64 _) hI rfl rfl rfl rfl rfl rfl (by kernel_rfl) rfl rfl rfl ?_ | refine WL_st4 (u := .int .i64 _) hI rfl rfl rfl rfl rfl rfl (by kernel_rfl) rfl rfl rfl ?_ | refine WL_st5 (u := .int .i64 _) hI rfl rfl rfl rfl rfl rfl (by kernel_rfl) rfl rfl rfl ?_
          clear hI; intro w hI
          refine WL_nil ?_
          exact ⟨mu - 1, by omega, _, _, (j : Int), ThinI.at hj hf, ⟨rfl, rfl, rfl, rfl, rfl, trivial⟩, hI⟩
        · refine W_seq ?_
          refine W_region ?_
          refine WL_val rfl rfl rfl (by first | exact rMoveB rfl rfl | exact rMove rfl) ?_
          refine WL_val rfl rfl rfl (by first | exact rNotT rfl rfl | exact rNotF rfl rfl | exact rNot rfl rfl) ?_
          refine WL_val rfl rfl rfl (by first | exact rMoveB rfl rfl | exact rMove rfl) ?_
          first | refine WL_val rfl rfl rfl (by first | exact rLd (v := .int .i64 _) rfl (by kernel_rfl) rfl (by first | exact hI.c0 rfl | exact hI.c1 rfl | exact hI.c2 rfl | exact hI.c3 rfl | exact hI.c4 rfl | exact hI.c5 rfl) | exact rLd rfl (by kernel_rfl) rfl (by first | exact hI.c0 rfl | exact hI.c1 rfl | exact hI.c2 rfl | exact hI.c3 rfl | exact hI.c4 rfl | exact hI.c5 rfl)) ?_ | refine WL_skip rfl rfl rfl ?_
          first | refine WL_val rfl rfl rfl (by first | exact rLssT rfl rfl rfl (by omega) | exact rLssF rfl rfl rfl (by omega) | exact rLss rfl rfl rfl) ?_ | refine WL_skip rfl rfl rfl ?_
          first | refine WL_val rfl rfl rfl (by first | exact rMoveB rfl rfl | exact rMove rfl) ?_ | refine WL_skip rfl rfl rfl ?_
          first | refine WL_val rfl rfl rfl (by first | exact rMoveI rfl rfl | exact rMove rfl) ?_ | refine WL_skip rfl rfl rfl ?_
          first | refine WL_val rfl rfl rfl (by first | exact rLd (v := .int .i64 _) rfl (by kernel_rfl) rfl (by first | exact hI.c0 rfl | exact hI.c1 rfl | exact hI.c2 rfl | exact hI.c3 rfl | exact hI.c4 rfl | exact hI.c5 rfl) | exact rLd rfl (by kernel_rfl) rfl (by first | exact hI.c0 rfl | exact hI.c1 rfl | exact hI.c2 rfl | exact hI.c3 rfl | exact hI.c4 rfl | exact hI.c5 rfl)) ?_ | refine WL_skip rfl rfl rfl ?_
          first | refine WL_val rfl rfl rfl (by first | exact rLssT rfl rfl rfl (by omega) | exact rLssF rfl rfl rfl (by omega) | exact rLss rfl rfl rfl) ?_ | refine WL_skip rfl rfl rfl ?_
          first | refine WL_val rfl rfl rfl (by first | exact rPickTB rfl rfl rfl | exact rPickFB rfl rfl rfl | exact rPickB rfl rfl rfl rfl) ?_ | refine WL_skip rfl rfl rfl ?_
          refine WL_val rfl rfl rfl (by first | exact rPickTB rfl rfl rfl | exact rPickFB rfl rfl rfl | exact rPickB rfl rfl rfl rfl) ?_
          refine WL_nil ?_
          refine W_cond false rfl ?_
          refine W_skip ?_
          exact ⟨mu - 1, by omega, _, _, thin, hT.none (by omega), ⟨rfl, rfl, rfl, rfl, rfl, trivial⟩, hI⟩
  refine WL_val rfl rfl rfl (rExtr rfl rfl rfl) ?_
  refine WL_nil ?_
  refine W_seq ?_
  refine W_cond false rfl ?_
  refine W_exit ?_
  have hTd := hT.done hnone
  clear hT
  replace hI := hI.rngOff 2 rfl
  simp only [List.set_cons_succ, List.set_cons_zero] at hI
  refine W_seq ?_
  refine W_region ?_
  refine WL_val rfl rfl rfl (rFunc (l := []) (m := [_]) rfl rfl rfl) ?_
  refine WL_alloc (u := .nilFunc) (vs := #[.nilFunc]) hI rfl rfl rfl rfl (by kernel_rfl) rfl ?_
  clear hI; rintro b18 w - - hI
  first | refine WL_stw0 (u := .func _ _ _) (vs := #[_]) (n := 1) hI rfl rfl rfl rfl rfl rfl (by kernel_rfl) rfl rfl rfl ?_ | refine WL_stw1 (u := .func _ _ _) (vs := #[_]) (n := 1) hI rfl rfl rfl rfl rfl rfl (by kernel_rfl) rfl rfl rfl ?_ | refine WL_stw2 (u := .func _ _ _) (vs := #[_]) (n := 1) hI rfl rfl rfl rfl rfl rfl (by kernel_rfl) rfl rfl rfl ?_ | refine WL_stw3 (u := .func _ _ _) (vs := #[_]) (n := 1) hI rfl rfl rfl rfl rfl rfl (by kernel_rfl) rfl rfl rfl ?_ | refine WL_stw4 (u := .func _ _ _) (vs := #[_]) (n := 1) hI rfl rfl rfl rfl rfl rfl (by kernel_rfl) rfl rfl rfl ?_ | refine WL_stw5 (u := .func _ _ _) (vs := #[_]) (n := 1) hI rfl rfl rfl rfl rfl rfl (by kernel_rfl) rfl rfl rfl ?_ | refine WL_st0 (u := .func _ _ _) hI rfl rfl rfl rfl rfl rfl (by kernel_rfl) rfl rfl rfl ?_ | refine WL_st1 (u := .func _ _ _) hI rfl rfl rfl rfl rfl rfl (by kernel_rfl) rfl rfl rfl ?_ | refine WL_st2 (u := .func _ _ _) hI rfl rfl rfl rfl rfl rfl (by kernel_rfl) rfl rfl rfl ?_ | refine WL_st3 (u := .func _ _ _) hI rfl rfl rfl rfl rfl rfl (by kernel_rfl) rfl rfl rfl ?_ | refine WL_st4 (u := .func _ _ _) hI rfl rfl rfl rfl rfl rfl (by kernel_rfl) rfl rfl rfl ?_ | refine WL_st5 (u := .func _ _ _) hI rfl rfl rfl rfl rfl rfl (by kernel_rfl) rfl rfl rfl ?_
  clear hI; intro w hI
  refine WL_nil ?_
  refine W_seq ?_
  refine W_region ?_
  refine WL_val rfl rfl rfl (rFunc (l := []) (m := [_]) rfl rfl rfl) ?_
  refine WL_val rfl rfl rfl (rFunc (l := []) (m := [_, _]) rfl rfl rfl) ?_
  refine WL_val rfl rfl rfl (rFunc (l := []) (m := [_, _]) rfl rfl rfl) ?_
  refine WL_val rfl rfl rfl (rFunc (l := []) (m := [_, _, _]) rfl rfl rfl) ?_
  refine WL_lit (vs := [_, _, _, _, _]) (qs := [(1, .func _ _ _), (2, .func _ _ _), (3, .func _ _ _), (4, .func _ _ _)]) [.nilFunc, .nilFunc, .nilFunc, .nilFunc, .nilFunc] [1, 2, 3, 4] hI rfl rfl rfl rfl rfl rfl Tryd.underlying46 (fun _ => by kernel_rfl) ?_
  clear hI; rintro b94 w - - hI
  refine WL_val rfl rfl rfl (by first | exact rAsgnS rfl rfl | exact rAsgn rfl) ?_
  refine WL_nil ?_
  refine W_seq ?_
  refine W_seq ?_
  refine W_region ?_
  refine WL_val rfl rfl rfl (by first | exact rAsgnI rfl rfl | exact rAsgn rfl) ?_
  refine WL_nil ?_
  replace hI : Inv (fun _ => False) w0 w [B b94 44 (testC b1 b8 b13 b18), B b18 43 #[.func (.func 11) #[] #[.pointer (some ⟨b1, 0, none⟩)]], B b13 3 #[.int .i64 thin], B b8 39 #[.map (some b30)], MapKE okI kI b30 (mpF (popB l) l.length), MapKE okI kI b29 (mpF (pushB l) l.length), B b1 22 #[.slice A l.length c]] := hI
  refine W_block ?_
  refine W_loopN (fun mu ρ w => ∃ q : Nat, mu = 5 - q ∧ 1 ≤ q ∧ q ≤ 5 ∧ (∀ t, 1 ≤ t → t < q → ¬ AnyB l.length (tstQ l thin t)) ∧ Has ρ [(20, .int .i64 (q : Int)), (1, .pointer (some ⟨b1, 0, none⟩)), (19, .slice (some ⟨b94, 0, none⟩) 5 5)] ∧ Inv (fun _ => False) w0 w [B b94 44 (testC b1 b8 b13 b18), B b18 43 #[.func (.func 11) #[] #[.pointer (some ⟨b1, 0, none⟩)]], B b13 3 #[.int .i64 thin], B b8 39 #[.map (some b30)], MapKE okI kI b30 (mpF (popB l) l.length), MapKE okI kI b29 (mpF (pushB l) l.length), B b1 22 #[.slice A l.length c]]) 4
    ⟨1, rfl, by omega, by omega, fun t h1 h2 => by omega, ⟨rfl, rfl, rfl, trivial⟩, hI⟩ ?_
  clear hI
  rintro mu ρ w ⟨q, rfl, hq1, hq5, hno, hH, hI⟩
  obtain ⟨σ, rfl⟩ := hH.open
  by_cases hq : q ≤ 4
  rotate_left
  · obtain rfl : q = 5 := by omega
    refine W_seq ?_
    refine W_seq ?_
    refine W_region ?_
    refine WL_val rfl rfl rfl (by first | exact rMoveI rfl rfl | exact rMove rfl) ?_
    refine WL_val rfl rfl rfl (by first | exact rLeqT rfl rfl rfl (by omega) | exact rLeqF rfl rfl rfl (by omega) | exact rLeq rfl rfl rfl) ?_
    refine WL_nil ?_
    refine W_cond false rfl ?_
    refine W_exit ?_
    refine W_seq ?_
    refine W_region ?_
    refine WL_val rfl rfl rfl (by first | exact rAsgnI rfl rfl | exact rAsgn rfl) ?_
    refine WL_val rfl rfl rfl (by first | exact rAsgnI rfl rfl | exact rAsgn rfl) ?_
    refine WL_val rfl rfl rfl (by first | exact rAsgnI rfl rfl | exact rAsgn rfl) ?_
    refine WL_val rfl rfl rfl (by first | exact rAsgnN rfl rfl | exact rAsgnE rfl rfl | exact rAsgn rfl) ?_
    refine WL_nil ?_
    refine W_ret ?_
    refine ret4q 2 3 4 5 (.inr rfl) rfl ⟨hI.pu, .inr ⟨hok, 0, _, _, rfl, ⟨fun _ hb => ?_, fun _ => rfl⟩⟩⟩
    rcases hb with hb | hb | hb | hb
    · exact hno 1 (by omega) (by omega) (hTd.2 hb)
    · exact hno 2 (by omega) (by omega) hb
    · exact hno 3 (by omega) (by omega) hb
    · exact hno 4 (by omega) (by omega) hb
  have hQ : QB l A c b1 b18 w := ⟨(h.pure hI.pu).mono fun _ _ => trivial, hI.cell 6 rfl rfl, hI.cell 1 rfl rfl⟩
  obtain ⟨f, cap, hcf, hPC⟩ := tests_any w hQ (hI.cell 2 rfl rfl) (hI.cell 3 rfl rfl) (hI.ok _ (List.mem_of_getElem? (i := 4) rfl)).1 q hq1 hq (thin := thin)
  refine W_seq ?_
  refine W_seq ?_
  refine W_region ?_
  refine WL_val rfl rfl rfl (by first | exact rMoveI rfl rfl | exact rMove rfl) ?_
  refine WL_val rfl rfl rfl (by first | exact rLeqT rfl rfl rfl (by omega) | exact rLeqF rfl rfl rfl (by omega) | exact rLeq rfl rfl rfl) ?_
  refine WL_nil ?_
  refine W_cond true rfl ?_
  refine W_skip ?_
  refine W_seq ?_
  refine W_block ?_
  refine W_seq ?_
  refine W_draw (by kernel_rfl) ?_
  refine WA_inv (T := []) hI.drew ?_
  intro Sx hSx hXS
  replace hI := hI.drew
  refine WT_take 0 rfl rfl (by kernel_rfl) (hXS _ hI) rfl (fun W hW => have hI := hSx W hW; (by first | exact rLd (v := .slice _ _ _) rfl (by kernel_rfl) rfl (by first | exact hI.c0 rfl | exact hI.c1 rfl | exact hI.c2 rfl | exact hI.c3 rfl | exact hI.c4 rfl | exact hI.c5 rfl | exact hI.c6 rfl | exact (hI.c0 hcf) | exact (hI.cell 6 rfl rfl)) | exact rLd rfl (by kernel_rfl) rfl (by first | exact hI.c0 rfl | exact hI.c1 rfl | exact hI.c2 rfl | exact hI.c3 rfl | exact hI.c4 rfl | exact hI.c5 rfl | exact hI.c6 rfl | exact (hI.c0 hcf) | exact (hI.cell 6 rfl rfl)))) ?_
  refine WT_take 1 rfl rfl (by kernel_rfl) (hXS _ hI) rfl (fun W hW => have hI := hSx W hW; (rLen rfl Tryd.underlying22 rfl)) ?_
  refine WT_take 2 rfl rfl (by kernel_rfl) (hXS _ hI) rfl (fun W hW => have hI := hSx W hW; (by first | exact rMoveS rfl rfl | exact rMove rfl)) ?_
  refine WT_take 3 rfl rfl (by kernel_rfl) (hXS _ hI) rfl (fun W hW => have hI := hSx W hW; (by first | exact rMoveI rfl rfl | exact rMove rfl)) ?_
  refine WT_take 4 rfl rfl (by kernel_rfl) (hXS _ hI) rfl (fun W hW => have hI := hSx W hW; (by first | exact rIdx0 rfl Tryd.underlying46 (by kernel_rfl) rfl rfl rfl (by omega) | exact rIdx1 rfl Tryd.underlying46 (by kernel_rfl) rfl rfl (by omega))) ?_
  refine WT_take 5 rfl rfl (by kernel_rfl) (hXS _ hI) rfl (fun W hW => have hI := hSx W hW; (by first | exact rLd (v := .func _ _ _) rfl (by kernel_rfl) rfl (by first | exact hI.c0 rfl | exact hI.c1 rfl | exact hI.c2 rfl | exact hI.c3 rfl | exact hI.c4 rfl | exact hI.c5 rfl | exact hI.c6 rfl | exact (hI.c0 hcf) | exact (hI.cell 6 rfl rfl)) | exact rLd rfl (by kernel_rfl) rfl (by first | exact hI.c0 rfl | exact hI.c1 rfl | exact hI.c2 rfl | exact hI.c3 rfl | exact hI.c4 rfl | exact hI.c5 rfl | exact hI.c6 rfl | exact (hI.c0 hcf) | exact (hI.cell 6 rfl rfl)))) ?_
  refine WT_one 6 rfl (by kernel_rfl) rfl ?_
  refine WL_call rfl rfl rfl (rCall (vs := [.int .i64 _, .func _ _ _]) rfl Tryd.func17 rfl rfl rfl) ?_
  refine (pairs_any f cap l.length (by omega) _ _ ⟨hPC.fn, fun i k w2 hi hk hp => hPC.call i k w2 hi hk hp.undrew⟩).mono ?_
  rintro e w1 ⟨a, b, fnd, rfl, hfnd, hp⟩
  refine ⟨_, rfl, ?_⟩
  replace hI := hI.pure hp
  refine WL_nil ⟨hXS _ hI, ?_⟩
  refine WT_take 7 rfl rfl (by kernel_rfl) (hXS _ hI) rfl (fun W hW => have hI := hSx W hW; (by first | exact rMoveT rfl rfl | exact rMove rfl)) ?_
  refine WT_take 8 rfl rfl (by kernel_rfl) (hXS _ hI) rfl (fun W hW => have hI := hSx W hW; (rExtr rfl rfl rfl)) ?_
  refine WT_take 9 rfl rfl (by kernel_rfl) (hXS _ hI) rfl (fun W hW => have hI := hSx W hW; (rExtr rfl rfl rfl)) ?_
  refine WT_take 10 rfl rfl (by kernel_rfl) (hXS _ hI) rfl (fun W hW => have hI := hSx W hW; (rExtr rfl rfl rfl)) ?_
  refine WT_take 11 rfl rfl (by kernel_rfl) (hXS _ hI) rfl (fun W hW => have hI := hSx W hW; (by first | exact rAsgnI rfl rfl | exact rAsgn rfl)) ?_
  refine WT_take 12 rfl rfl (by kernel_rfl) (hXS _ hI) rfl (fun W hW => have hI := hSx W hW; (by first | exact rAsgnI rfl rfl | exact rAsgn rfl)) ?_
  refine WT_take 13 rfl rfl (by kernel_rfl) (hXS _ hI) rfl (fun W hW => have hI := hSx W hW; (by first | exact rAsgnB rfl rfl | exact rAsgn rfl)) ?_
  refine WT_end (by kernel_rfl) ?_
  refine W_seq ?_
  refine W_region ?_
  refine WL_val rfl rfl rfl (by first | exact rMoveB rfl rfl | exact rMove rfl) ?_
  refine WL_nil ?_
  cases fnd with
  | true =>
    refine W_cond true rfl ?_
    refine W_seq ?_
    refine W_region ?_
    refine WL_val rfl rfl rfl (by first | exact rMoveI rfl rfl | exact rMove rfl) ?_
    refine WL_val rfl rfl rfl (by first | exact rMoveI rfl rfl | exact rMove rfl) ?_
    refine WL_val rfl rfl rfl (by first | exact rMoveI rfl rfl | exact rMove rfl) ?_
    refine WL_val rfl rfl rfl (by first | exact rAsgnI rfl rfl | exact rAsgn rfl) ?_
    refine WL_val rfl rfl rfl (by first | exact rAsgnI rfl rfl | exact rAsgn rfl) ?_
    refine WL_val rfl rfl rfl (by first | exact rAsgnI rfl rfl | exact rAsgn rfl) ?_
    refine WL_val rfl rfl rfl (by first | exact rAsgnN rfl rfl | exact rAsgnE rfl rfl | exact rAsgn rfl) ?_
    refine WL_nil ?_
    refine W_ret ?_
    refine ret4q 2 3 4 5 (.inr rfl) rfl ⟨hI.pu, .inr ⟨hok, (q : Int), _, _, rfl, ⟨fun h0 => by omega, fun hb => ?_⟩⟩⟩
    exfalso
    apply hb
    have hA := hfnd.1 rfl
    obtain rfl | rfl | rfl | rfl : q = 1 ∨ q = 2 ∨ q = 3 ∨ q = 4 := by omega
    · exact .inl (hTd.1 hA)
    · exact .inr (.inl hA)
    · exact .inr (.inr (.inl hA))
    · exact .inr (.inr (.inr hA))
  | false =>
    refine W_cond false rfl ?_
    refine W_skip ?_
    refine W_region ?_
    refine WL_val rfl rfl rfl (by first | exact rMoveI rfl rfl | exact rMove rfl) ?_
    refine WL_val rfl rfl rfl (by first | exact rInc rfl rfl rfl (by omega) | exact rAdd rfl rfl rfl (by omega) | exact rAddW rfl rfl rfl) ?_
    refine WL_val rfl rfl rfl (by first | exact rAsgnI rfl rfl | exact rAsgn rfl) ?_
    refine WL_nil ?_
    refine ⟨5 - (q + 1), by omega, q + 1, rfl, by omega, by omega, fun t h1 h2 hA => ?_, ⟨rfl, rfl, rfl, trivial⟩, hI⟩
    rcases Nat.lt_or_ge t q with h3 | h3
    · exact hno t h1 h3 hA
    · obtain rfl : t = q := by omega
      have := hfnd.2 hA
      cases this
end Go.Proofs.YtijgkocolajghaaDoor

/-! Que5: Queues: what an order that is found says: nothing bad. Plain. -/
namespace Go.Proofs.YtijgkocolajghaaDoor
set_option linter.unusedVariables false
set_option linter.unusedSimpArgs false
theorem goF_que {l : List Op8} {sts : Nat → List Int} {i : Nat} {st' : List Int} (hk : (oAt l i).kind = 9 ∨ (oAt l i).kind = 10) (hr : 0 ≤ (oAt l i).ret) (hp : (oAt l i).kind = 10 → (oAt l i).res ≠ -1) (h : goF 4 l sts i = some st') :
    ((oAt l i).kind = 9 → st' = sts (keyN l i) ++ [(oAt l i).a]) ∧ ((oAt l i).kind = 10 → sts (keyN l i) ≠ [] ∧ st' = (sts (keyN l i)).drop 1 ∧ (oAt l i).res = (sts (keyN l i)).getD 0 0) := by
  obtain ⟨r, h1, h2⟩ := goF_step h
  generalize sts (keyN l i) = st at h1
  unfold stepF at h1
  split at h1
  · cases h1
  rw [if_neg (by decide), if_neg (by decide), if_neg (by decide), if_neg (by decide)] at h1
  injection h1 with h1
  unfold lineF at h1
  have hrr : r = (oAt l i).res := by
    rcases Classical.em (r = (oAt l i).res) with h3 | h3
    · exact h3
    · exact absurd ⟨by omega, h3⟩ h2
  rcases hk with hk | hk
  · rw [if_pos hk] at h1
    injection h1 with h1 h3
    exact ⟨fun _ => h1.symm, fun h4 => by omega⟩
  · rw [if_neg (by omega)] at h1
    by_cases hs : st = []
    · rw [if_pos hs] at h1
      injection h1 with h1 h3
      exact absurd (hrr.symm.trans h3.symm) (hp hk)
    · rw [if_neg hs, if_pos rfl] at h1
      injection h1 with h1 h3
      exact ⟨fun h4 => by omega, fun _ => ⟨hs, h1.symm, by rw [← hrr, h3]⟩⟩
def pushO (l : List Op8) (i : Int) : Option Int := if (oAt l i.toNat).kind = 9 then some (oAt l i.toNat).a else none
def pushV (l : List Op8) (p : List Int) : List Int := p.filterMap (pushO l)
def popN (l : List Op8) (p : List Int) : Nat := p.countP fun i => decide ((oAt l i.toNat).kind = 10)
theorem pushV_snoc (l : List Op8) (p : List Int) (i : Int) : pushV l (p ++ [i]) = if (oAt l i.toNat).kind = 9 then pushV l p ++ [(oAt l i.toNat).a] else pushV l p := by
  unfold pushV
  rw [List.filterMap_append]
  unfold pushO
  by_cases h : (oAt l i.toNat).kind = 9 <;> simp [h]
theorem popN_snoc (l : List Op8) (p : List Int) (i : Int) : popN l (p ++ [i]) = if (oAt l i.toNat).kind = 10 then popN l p + 1 else popN l p := by
  unfold popN
  rw [List.countP_append]
  by_cases h : (oAt l i.toNat).kind = 10 <;> simp [h]
theorem run_que {l : List Op8} (hQ : OkQ l) : ∀ (r dn : List Int) (a b : Nat → List Int), (∀ i ∈ r, 0 ≤ i ∧ i < l.length) → popN l dn ≤ (pushV l dn).length → a (keyN l 0) = (pushV l dn).drop (popN l dn) → RunL 4 l r a b →
    ∀ p i s, r = p ++ i :: s → (oAt l i.toNat).kind = 10 → (pushV l (dn ++ p))[popN l (dn ++ p)]? = some (oAt l i.toNat).res
  | [], dn, a, b, _, _, _, _ => by intro p i s h; simp at h
  | j :: r, dn, a, b, hr, hle, ha, hrun => by
    obtain ⟨st', h1, h2⟩ := hrun
    have hj := hr j (by simp)
    have hjl : j.toNat < l.length := by omega
    have hkey : keyN l j.toNat = keyN l 0 := by unfold keyN; rw [hQ.key _ hjl]
    obtain ⟨g1, g2⟩ := goF_que (hQ.kind _ hjl) (hQ.ret _ hjl) (hQ.pop _ hjl) h1
    rw [hkey, ha] at g1 g2
    have hst : stSet a (keyN l j.toNat) st' (keyN l 0) = st' := by unfold stSet; rw [hkey, if_pos rfl]
    have hnext : popN l (dn ++ [j]) ≤ (pushV l (dn ++ [j])).length ∧ st' = (pushV l (dn ++ [j])).drop (popN l (dn ++ [j])) ∧ ((oAt l j.toNat).kind = 10 → (pushV l dn)[popN l dn]? = some (oAt l j.toNat).res) := by
      rw [pushV_snoc, popN_snoc]
      rcases hQ.kind _ hjl with hk | hk
      · rw [if_pos hk, if_neg (show ¬ (oAt l j.toNat).kind = 10 by omega)]
        refine ⟨by simp; omega, ?_, fun h => by omega⟩
        rw [g1 hk, List.drop_append_of_le_length hle]
      · rw [if_neg (show ¬ (oAt l j.toNat).kind = 9 by omega), if_pos hk]
        obtain ⟨q1, q2, q3⟩ := g2 hk
        have hlt : popN l dn < (pushV l dn).length := by
          rcases Nat.lt_or_ge (popN l dn) (pushV l dn).length with h3 | h3
          · exact h3
          · exact absurd (List.drop_eq_nil_of_le h3) q1
        refine ⟨hlt, by rw [q2, List.drop_drop], fun _ => ?_⟩
        rw [q3, List.getElem?_eq_getElem hlt, List.drop_eq_getElem_cons hlt]
        rfl
    have ih := run_que hQ r (dn ++ [j]) _ b (fun i hi => hr i (by simp [hi])) hnext.1 (hst.trans hnext.2.1) h2
    intro p i s hp hki
    cases p with
    | nil =>
      rw [List.nil_append] at hp
      injection hp with hp _
      subst hp
      rw [List.append_nil]
      exact hnext.2.2 hki
    | cons x p =>
      rw [List.cons_append] at hp
      injection hp with hx hp
      subst hx
      have := ih p i s hp hki
      rw [List.append_assoc] at this
      exact this
/-- An order of all ops in which a queue goes on. -/
structure QueOrd (l : List Op8) (ord : List Int) : Prop where
  rng : ∀ i ∈ ord, 0 ≤ i ∧ i < l.length
  nodup : ord.Nodup
  all : ∀ i, i < l.length → ((i : Nat) : Int) ∈ ord
  bef : ord.Pairwise fun a b => befB (oAt l b.toNat) (oAt l a.toNat) = false
  read : ∀ p i s, ord = p ++ i :: s → (oAt l i.toNat).kind = 10 → (pushV l p)[popN l p]? = some (oAt l i.toNat).res
theorem okLin_que {l : List Op8} (h : OkQ l) {b : Int} (h0 : 0 ≤ b) (h1 : b ≤ 1000000) : OkLin 4 l b := by
  refine ⟨by decide, by decide, h0, h1, h.ops, fun k hk => ?_⟩
  rcases h.kind k hk with h2 | h2 <;> rw [h2] <;> decide
theorem queOrd_of {l : List Op8} {bud : Nat} (hQ : OkQ l) (hv : (verdF 4 l befB bud).1 = 1) : QueOrd l (verdF 4 l befB bud).2.ord := by
  obtain ⟨h1, h2⟩ := verd_sound hv
  refine ⟨h2.rng, h2.nodup, fun i hi => ?_, h2.ahead, fun p i s hp hk => ?_⟩
  · have h3 := List.all_eq_true.1 h1 i (List.mem_range.2 hi)
    have h4 := hQ.ret i hi
    simp only [decide_eq_true h4, Bool.not_true, Bool.false_or] at h3
    rw [h2.dnE i] at h3
    simpa using h3
  · have hA := argsOk (okLin_que hQ (b := 0) (by omega) (by omega))
    have hi := h2.rng i (by rw [hp]; simp)
    have hk8 : keyN l 0 < 8 := hA.keyN (by omega)
    have e : (startS 4).sts (keyN l 0) = [] := if_pos hk8
    have := run_que hQ _ [] _ _ h2.rng (Nat.zero_le _) (by rw [e]; rfl) h2.run p i s hp hk
    simpa using this
end Go.Proofs.YtijgkocolajghaaDoor

/-! Que6: Queues: where an order is found, nothing is bad. Plain. -/
namespace Go.Proofs.YtijgkocolajghaaDoor
set_option linter.unusedVariables false
set_option linter.unusedSimpArgs false
section
variable {l : List Op8} {ord : List Int}
theorem QueOrd.pos (h : QueOrd l ord) {i : Nat} (hi : i < l.length) : ∃ hlt : posO ord i < ord.length, ord[posO ord i] = (i : Int) := by
  have hm := h.all i hi
  have hlt : posO ord i < ord.length := List.idxOf_lt_length_iff.2 hm
  exact ⟨hlt, List.getElem_idxOf hlt⟩
theorem QueOrd.split (h : QueOrd l ord) {i : Nat} (hi : i < l.length) : ord = ord.take (posO ord i) ++ (i : Int) :: ord.drop (posO ord i + 1) := by
  obtain ⟨hlt, he⟩ := h.pos hi
  rw [← he, ← List.drop_eq_getElem_cons hlt, List.take_append_drop]
theorem QueOrd.ahead_pos (h : QueOrd l ord) {i k : Nat} (hi : i < l.length) (hm : ((i : Nat) : Int) ∈ ord.take k) : posO ord i < k := by
  obtain ⟨j, hj, he⟩ := List.mem_take_iff_getElem.1 hm
  have hjl : j < ord.length := by omega
  obtain ⟨hlt, hp⟩ := h.pos hi
  have : posO ord i = j := (List.getElem_inj (h₀ := hlt) (h₁ := hjl) h.nodup).1 (hp.trans he.symm)
  omega
theorem QueOrd.pos_inj (h : QueOrd l ord) {i k : Nat} (hi : i < l.length) (hk : k < l.length) (he : posO ord i = posO ord k) : i = k := by
  obtain ⟨h1, h2⟩ := h.pos hi
  obtain ⟨h3, h4⟩ := h.pos hk
  have : ord[posO ord i] = ord[posO ord k] := by congr 1
  rw [h2, h4] at this
  omega
theorem QueOrd.bef_pos (h : QueOrd l ord) (hQ : OkQ l) {i k : Nat} (hi : i < l.length) (hk : k < l.length) (hp : befB (oAt l i) (oAt l k) = true) : posO ord i < posO ord k := by
  obtain ⟨h1, h2⟩ := h.pos hi
  obtain ⟨h3, h4⟩ := h.pos hk
  rcases Nat.lt_trichotomy (posO ord i) (posO ord k) with h5 | h5 | h5
  · exact h5
  · have := h.pos_inj hi hk h5
    subst this
    have h6 := (hQ.ops.2 i hi).2.2.1.2.2.1
    have h7 := hQ.ret i hi
    unfold befB at hp
    simp only [Bool.and_eq_true, decide_eq_true_eq] at hp
    exact absurd ⟨by omega, by omega⟩ h6
  · have := List.pairwise_iff_getElem.1 h.bef _ _ h3 h1 h5
    rw [h2, h4, Int.toNat_natCast, Int.toNat_natCast, hp] at this
    cases this
theorem pushV_take (l : List Op8) (ord : List Int) (p : Nat) : ∃ R, pushV l ord = pushV l (ord.take p) ++ R := by
  refine ⟨pushV l (ord.drop p), ?_⟩
  unfold pushV
  rw [← List.filterMap_append, List.take_append_drop]
theorem pushO_some {l : List Op8} {i v : Int} (h : pushO l i = some v) : (oAt l i.toNat).kind = 9 ∧ (oAt l i.toNat).a = v := by
  unfold pushO at h
  split at h
  · rename_i hc; injection h with h; exact ⟨hc, h⟩
  · cases h
theorem OkQ.uniq (hQ : OkQ l) {i j : Nat} (hi : i < l.length) (hj : j < l.length) (ki : (oAt l i).kind = 9) (kj : (oAt l j).kind = 9) (ha : (oAt l i).a = (oAt l j).a) : i = j := by
  rcases Nat.lt_trichotomy i j with h | h | h
  · exact absurd ha (hQ.once i j h hj ki kj)
  · exact h
  · exact absurd ha.symm (hQ.once j i h hi kj ki)
theorem QueOrd.push_nodup (h : QueOrd l ord) (hQ : OkQ l) : (pushV l ord).Nodup := by
  unfold pushV
  have h1 : ord.Pairwise fun a b => a ≠ b ∧ a ∈ ord ∧ b ∈ ord := List.Pairwise.imp_of_mem (fun ha hb hab => ⟨hab, ha, hb⟩) h.nodup
  refine List.Pairwise.filterMap (R := fun a b => a ≠ b ∧ a ∈ ord ∧ b ∈ ord) (pushO l) (fun a b hab v hv v' hv' e => ?_) h1
  obtain ⟨hne, ha, hb⟩ := hab
  have r1 := h.rng a ha
  have r2 := h.rng b hb
  obtain ⟨q1, q2⟩ := pushO_some hv
  obtain ⟨s1, s2⟩ := pushO_some hv'
  have hal : a.toNat < l.length := by omega
  have hbl : b.toNat < l.length := by omega
  have := hQ.uniq hal hbl q1 s1 (by rw [q2, s2, e])
  omega
theorem QueOrd.push_mem (h : QueOrd l ord) {p : Nat} {v : Int} (hv : v ∈ pushV l (ord.take p)) : ∃ i, i < l.length ∧ (oAt l i).kind = 9 ∧ (oAt l i).a = v ∧ posO ord i < p := by
  unfold pushV at hv
  obtain ⟨i, hi, hiv⟩ := List.mem_filterMap.1 hv
  have r := h.rng i (List.mem_of_mem_take hi)
  obtain ⟨q1, q2⟩ := pushO_some hiv
  have hil : i.toNat < l.length := by omega
  exact ⟨i.toNat, hil, q1, q2, h.ahead_pos hil (by rw [Int.toNat_of_nonneg r.1]; exact hi)⟩
theorem QueOrd.pop (h : QueOrd l ord) {i : Nat} (hi : i < l.length) (hk : (oAt l i).kind = 10) : (pushV l (ord.take (posO ord i)))[popN l (ord.take (posO ord i))]? = some (oAt l i).res := by
  have := h.read _ _ _ (h.split hi) (by rw [Int.toNat_natCast]; exact hk)
  rwa [Int.toNat_natCast] at this
theorem QueOrd.popV (h : QueOrd l ord) {i : Nat} (hi : i < l.length) (hk : (oAt l i).kind = 10) : (pushV l ord)[popN l (ord.take (posO ord i))]? = some (oAt l i).res := by
  obtain ⟨R, hR⟩ := pushV_take l ord (posO ord i)
  have h1 := h.pop hi hk
  rw [hR, List.getElem?_append_left (List.getElem?_eq_some_iff.1 h1).1]
  exact h1
theorem QueOrd.pushed (h : QueOrd l ord) {i : Nat} (hi : i < l.length) (hk : (oAt l i).kind = 9) : (pushV l ord)[(pushV l (ord.take (posO ord i))).length]? = some (oAt l i).a := by
  have e : pushV l ord = pushV l (ord.take (posO ord i)) ++ pushV l ((i : Int) :: ord.drop (posO ord i + 1)) := by
    unfold pushV
    rw [← List.filterMap_append, ← h.split hi]
  rw [e, List.getElem?_append_right (Nat.le_refl _), Nat.sub_self]
  unfold pushV
  rw [List.filterMap_cons]
  unfold pushO
  rw [Int.toNat_natCast, if_pos hk]
  rfl
theorem take_pos {i : Nat} (h : QueOrd l ord) (hi : i < l.length) : ord.take (posO ord i + 1) = ord.take (posO ord i) ++ [(i : Int)] := by
  obtain ⟨hlt, he⟩ := h.pos hi
  rw [List.take_add_one, List.getElem?_eq_getElem hlt, he]
  rfl
theorem popN_mono (l : List Op8) (ord : List Int) {p q : Nat} (h : p ≤ q) : popN l (ord.take p) ≤ popN l (ord.take q) := by
  have e : ord.take p = (ord.take q).take p := by rw [List.take_take, Nat.min_eq_left h]
  rw [e]
  exact List.Sublist.countP_le (List.take_sublist _ _)
theorem QueOrd.pop_lt (h : QueOrd l ord) {i k : Nat} (hi : i < l.length) (hki : (oAt l i).kind = 10) (hlt : posO ord i < posO ord k) : popN l (ord.take (posO ord i)) < popN l (ord.take (posO ord k)) := by
  have h1 := popN_mono l ord (show posO ord i + 1 ≤ posO ord k by omega)
  rw [take_pos h hi, popN_snoc, Int.toNat_natCast, if_pos hki] at h1
  omega
theorem QueOrd.push_lt (h : QueOrd l ord) {i k : Nat} (hi : i < l.length) (hki : (oAt l i).kind = 9) (hlt : posO ord i < posO ord k) : (pushV l (ord.take (posO ord i))).length < (pushV l (ord.take (posO ord k))).length := by
  obtain ⟨R, hR⟩ := pushV_take l (ord.take (posO ord k)) (posO ord i + 1)
  rw [List.take_take, Nat.min_eq_left (by omega), take_pos h hi, pushV_snoc, Int.toNat_natCast, if_pos hki] at hR
  rw [hR]
  simp only [List.length_append, List.length_cons, List.length_nil]
  omega
theorem popN_at (l : List Op8) (ord : List Int) (j : Nat) : ∀ m, m ≤ ord.length → j < popN l (ord.take m) → ∃ q, ∃ hq : q < ord.length, q < m ∧ (oAt l ord[q].toNat).kind = 10 ∧ popN l (ord.take q) = j
  | 0, _, h => by simp [popN] at h
  | m + 1, hm, h => by
    have hml : m < ord.length := by omega
    rw [List.take_add_one, List.getElem?_eq_getElem hml] at h
    rw [show (some ord[m]).toList = [ord[m]] from rfl, popN_snoc] at h
    by_cases h1 : j < popN l (ord.take m)
    · obtain ⟨q, hq, h2, h3⟩ := popN_at l ord j m (by omega) h1
      exact ⟨q, hq, by omega, h3⟩
    · by_cases hk : (oAt l ord[m].toNat).kind = 10
      · rw [if_pos hk] at h
        exact ⟨m, hml, by omega, hk, by omega⟩
      · rw [if_neg hk] at h
        omega
theorem pop_of {v : Int} {s : Nat} (h : fdN (popB l v) l.length = some s) : s < l.length ∧ (oAt l s).kind = 10 ∧ (oAt l s).res = v := by
  obtain ⟨h1, h2⟩ := fdN_some h
  unfold popB at h2
  simp only [Bool.and_eq_true, decide_eq_true_eq] at h2
  exact ⟨h1, h2⟩
theorem QueOrd.twice (h : QueOrd l ord) (hQ : OkQ l) {i k : Nat} (hi : i < l.length) (hk : k < l.length) (ki : (oAt l i).kind = 10) (kk : (oAt l k).kind = 10) (hr : (oAt l i).res = (oAt l k).res) : i = k := by
  have hnd := h.push_nodup hQ
  have h1 := h.popV hi ki
  have h2 := h.popV hk kk
  rw [hr] at h1
  have h3 := (List.getElem?_inj (List.getElem?_eq_some_iff.1 h1).1 hnd).1 (h1.trans h2.symm)
  rcases Nat.lt_trichotomy (posO ord i) (posO ord k) with h5 | h5 | h5
  · have := h.pop_lt hi ki h5; omega
  · exact h.pos_inj hi hk h5
  · have := h.pop_lt hk kk h5; omega
theorem QueOrd.fine (h : QueOrd l ord) (hQ : OkQ l) : ¬ BadQ l := by
  have hnd := h.push_nodup hQ
  have hkd : ∀ {i : Nat}, i < l.length → pshB l i = false → (oAt l i).kind = 10 := fun {i} hi hp => by
    unfold pshB at hp
    rcases hQ.kind i hi with h1 | h1
    · simp [h1] at hp
    · exact h1
  rintro (⟨i, hi, hk, hn⟩ | ⟨i, k, hi, hk, hp⟩ | ⟨i, k, hi, hk, hp⟩ | ⟨i, k, hi, hk, hp⟩)
  · obtain ⟨x, hx, q1, q2, _⟩ := h.push_mem (List.mem_of_getElem? (h.pop hi hk))
    have := fdN_none.1 hn x hx
    unfold pushB at this
    simp [q1, q2] at this
  · unfold twiceB at hp
    simp only [Bool.and_eq_true, decide_eq_true_eq, Bool.not_eq_true'] at hp
    obtain ⟨⟨⟨h1, h2⟩, h3⟩, h4⟩ := hp
    have := h.twice hQ hi hk (hkd hi h2) (hkd hk h3) h4
    omega
  · unfold earlyB at hp
    simp only [Bool.and_eq_true, decide_eq_true_eq, Bool.not_eq_true'] at hp
    obtain ⟨⟨⟨h1, h2⟩, h3⟩, h4⟩ := hp
    unfold pshB at h1
    have h5 := h.bef_pos hQ hk hi h4
    obtain ⟨x, hx, q1, q2, q3⟩ := h.push_mem (List.mem_of_getElem? (h.pop hk (hkd hk h2)))
    have := hQ.uniq hx hi q1 (by simpa using h1) (q2.trans h3.symm)
    subst this
    omega
  · unfold crossB at hp
    simp only [Bool.and_eq_true] at hp
    obtain ⟨⟨⟨h1, h2⟩, h3⟩, h4⟩ := hp
    unfold pshB at h1 h2
    simp only [decide_eq_true_eq] at h1 h2
    have hlt := h.bef_pos hQ hi hk h3
    cases hs : fdN (popB l (oAt l k).a) l.length with
    | none => rw [hs] at h4; cases h4
    | some s =>
      rw [hs] at h4
      obtain ⟨s1, s2, s3⟩ := pop_of hs
      have v1 := h.pushed hi h1
      have v2 := h.pushed hk h2
      have v3 := h.popV s1 s2
      rw [s3] at v3
      have e1 := (List.getElem?_inj (List.getElem?_eq_some_iff.1 v2).1 hnd).1 (v2.trans v3.symm)
      have e2 := h.push_lt hi h1 hlt
      obtain ⟨hps, _⟩ := h.pos s1
      obtain ⟨q, hq, hqs, hqk, hqn⟩ := popN_at l ord (pushV l (ord.take (posO ord i))).length (posO ord s) (by omega) (by omega)
      have hr := h.rng _ (List.getElem_mem hq)
      obtain ⟨f, hf⟩ : ∃ f : Nat, ord[q] = (f : Int) := ⟨ord[q].toNat, by omega⟩
      have hfl : f < l.length := by omega
      rw [hf, Int.toNat_natCast] at hqk
      obtain ⟨hpf, hef⟩ := h.pos hfl
      have hpq : posO ord f = q := (List.getElem_inj (h₀ := hpf) (h₁ := hq) h.nodup).1 (hef.trans hf.symm)
      have v4 := h.popV hfl hqk
      rw [hpq, hqn, v1] at v4
      injection v4 with v4
      cases hf2 : fdN (popB l (oAt l i).a) l.length with
      | none =>
        have := fdN_none.1 hf2 f hfl
        unfold popB at this
        simp [hqk, v4] at this
      | some f' =>
        rw [hf2] at h4
        obtain ⟨f1, f2, f3⟩ := pop_of hf2
        have := h.twice hQ f1 hfl f2 hqk (f3.trans v4)
        subst this
        have := h.bef_pos hQ s1 f1 h4
        omega
end
end Go.Proofs.YtijgkocolajghaaDoor

/-! Que7: Queues: values that come in an order where nothing is bad; times. Plain. -/
namespace Go.Proofs.YtijgkocolajghaaDoor
set_option linter.unusedVariables false
set_option linter.unusedSimpArgs false
theorem argmin {f : Nat → Int} : ∀ (E : List Nat), E ≠ [] → ∃ x ∈ E, ∀ z ∈ E, f x ≤ f z
  | [], h => absurd rfl h
  | [a], _ => ⟨a, by simp, fun z hz => by rw [List.mem_singleton.1 hz]; exact Int.le_refl _⟩
  | a :: b :: E, _ => by
    obtain ⟨x, hx, hm⟩ := argmin (f := f) (b :: E) (by simp)
    by_cases h : f a ≤ f x
    · refine ⟨a, by simp, fun z hz => ?_⟩
      rcases List.mem_cons.1 hz with rfl | hz
      · exact Int.le_refl _
      · exact Int.le_trans h (hm z hz)
    · refine ⟨x, by simp [hx], fun z hz => ?_⟩
      rcases List.mem_cons.1 hz with rfl | hz
      · omega
      · exact hm z hz
theorem topo {R : Nat → Nat → Prop} {P : Nat → Prop} (hmin : ∀ E : List Nat, E ≠ [] → (∀ x ∈ E, P x) → ∃ m ∈ E, ∀ z ∈ E, ¬ R z m) : ∀ (k : Nat) (E : List Nat), E.length = k → (∀ x ∈ E, P x) → ∃ V : List Nat, V.Perm E ∧ V.Pairwise (fun v w => ¬ R w v)
  | 0, E, hE, _ => ⟨[], by rw [List.length_eq_zero_iff.1 hE], .nil⟩
  | k + 1, E, hE, hP => by
    obtain ⟨m, hm, hz⟩ := hmin E (by intro e; rw [e] at hE; cases hE) hP
    obtain ⟨V, h1, h2⟩ := topo hmin k (E.erase m) (by rw [List.length_erase_of_mem hm]; omega) (fun x hx => hP x (List.mem_of_mem_erase hx))
    refine ⟨m :: V, (h1.cons m).trans (List.perm_cons_erase hm).symm, List.pairwise_cons.2 ⟨fun w hw => hz w (List.mem_of_mem_erase (h1.mem_iff.1 hw)), h2⟩⟩
/-! ### The values -/
def INF : Int := 2000000
def qcF (l : List Op8) (x : Nat) : Int := match fdN (popB l (oAt l x).a) l.length with | some s => (oAt l s).call | none => INF
def qrF (l : List Op8) (x : Nat) : Int := match fdN (popB l (oAt l x).a) l.length with | some s => (oAt l s).ret | none => INF
def LtQ (l : List Op8) (v w : Nat) : Prop := (oAt l v).ret < (oAt l w).call ∨ qrF l v < qcF l w ∨ qrF l v < (oAt l w).call
section
variable {l : List Op8}
theorem OkQ.num (hQ : OkQ l) {i : Nat} (hi : i < l.length) : 0 ≤ (oAt l i).call ∧ (oAt l i).call < (oAt l i).ret ∧ (oAt l i).ret ≤ 1000000 := by
  have h1 := (hQ.ops.2 i hi).1
  have h2 := (hQ.ops.2 i hi).2.2.1
  have h3 := hQ.ret i hi
  have h4 := told_num h1 (oAt l i).ret (by simp)
  have h5 := h2.2.2.1
  have h6 := h2.1
  refine ⟨by omega, ?_, h4.2⟩
  rcases Int.lt_or_le (oAt l i).call (oAt l i).ret with h7 | h7
  · exact h7
  · exact absurd ⟨by omega, h7⟩ h5
theorem OkQ.q_le (hQ : OkQ l) (x : Nat) : 0 ≤ qcF l x ∧ qcF l x ≤ qrF l x ∧ qrF l x ≤ INF ∧ (qrF l x < INF ↔ fdN (popB l (oAt l x).a) l.length ≠ none) := by
  unfold qcF qrF
  cases h : fdN (popB l (oAt l x).a) l.length with
  | none => simp [INF]
  | some s =>
    have := hQ.num (fdN_some h).1
    refine ⟨by simp only; omega, by simp only; omega, by simp only [INF]; omega, by simp [INF]; omega⟩
structure FineQ (l : List Op8) : Prop where
  thin : ∀ i, i < l.length → (oAt l i).kind = 10 → ∃ x, x < l.length ∧ (oAt l x).kind = 9 ∧ (oAt l x).a = (oAt l i).res
  twice : ∀ i k, i < l.length → k < l.length → (oAt l i).kind = 10 → (oAt l k).kind = 10 → (oAt l i).res = (oAt l k).res → i = k
  early : ∀ x, x < l.length → (oAt l x).kind = 9 → (oAt l x).call ≤ qrF l x
  cross : ∀ x y, x < l.length → y < l.length → (oAt l x).kind = 9 → (oAt l y).kind = 9 → (oAt l x).ret < (oAt l y).call → qcF l x ≤ qrF l y
theorem fine_of (hQ : OkQ l) (h : ¬ BadQ l) : FineQ l := by
  refine ⟨fun i hi hk => ?_, fun i k hi hk ki kk hr => ?_, fun x hx hk => ?_, fun x y hx hy kx ky hb => ?_⟩
  · cases hf : fdN (pushB l (oAt l i).res) l.length with
    | none => exact absurd (.inl ⟨i, hi, hk, hf⟩) h
    | some x =>
      obtain ⟨h1, h2⟩ := fdN_some hf
      unfold pushB at h2
      simp only [Bool.and_eq_true, decide_eq_true_eq] at h2
      exact ⟨x, h1, h2⟩
  · have key : ∀ i k, i < l.length → k < l.length → (oAt l i).kind = 10 → (oAt l k).kind = 10 → (oAt l i).res = (oAt l k).res → ¬ i < k := fun i k hi hk ki kk hr hlt => h (.inr (.inl ⟨i, k, hi, hk, by unfold twiceB pshB; simp [hlt, ki, kk, hr]⟩))
    have h1 := key i k hi hk ki kk hr
    have h2 := key k i hk hi kk ki hr.symm
    omega
  · unfold qrF
    cases hf : fdN (popB l (oAt l x).a) l.length with
    | none => have := hQ.num hx; simp only [INF]; omega
    | some s =>
      obtain ⟨s1, s2, s3⟩ := pop_of hf
      rcases Int.lt_or_le (oAt l s).ret (oAt l x).call with h1 | h1
      · have := hQ.num s1
        exact absurd (.inr (.inr (.inl ⟨x, s, hx, s1, by unfold earlyB pshB befB; simp [hk, s2, s3, h1]; omega⟩))) h
      · exact h1
  · rcases Int.lt_or_le (qrF l y) (qcF l x) with h1 | h1
    · exfalso
      have hbx : befB (oAt l x) (oAt l y) = true := by have := hQ.num hx; unfold befB; simp [hb]; omega
      refine h (.inr (.inr (.inr ⟨x, y, hx, hy, ?_⟩)))
      unfold crossB pshB
      unfold qrF qcF at h1
      cases hfy : fdN (popB l (oAt l y).a) l.length with
      | none =>
        rw [hfy] at h1
        cases hfx : fdN (popB l (oAt l x).a) l.length with
        | none => rw [hfx] at h1; simp only at h1; omega
        | some f => rw [hfx] at h1; have := hQ.num (fdN_some hfx).1; simp only [INF] at h1; omega
      | some s =>
        rw [hfy] at h1
        have hs := hQ.num (fdN_some hfy).1
        cases hfx : fdN (popB l (oAt l x).a) l.length with
        | none => simp [kx, ky, hbx]
        | some f => rw [hfx] at h1; simp only at h1; simp [kx, ky, hbx]; unfold befB; simp [h1]; omega
    · exact h1
theorem FineQ.min (h : FineQ l) (hQ : OkQ l) (E : List Nat) (hE : E ≠ []) (hP : ∀ x ∈ E, x < l.length ∧ (oAt l x).kind = 9) : ∃ m ∈ E, ∀ z ∈ E, ¬ LtQ l z m := by
  obtain ⟨y, hy, hym⟩ := argmin (f := fun x => (oAt l x).ret) E hE
  obtain ⟨x, hx, hxm⟩ := argmin (f := qrF l) E hE
  by_cases hmin : ∀ z ∈ E, ¬ LtQ l z y
  · exact ⟨y, hy, hmin⟩
  refine ⟨x, hx, fun z hz hlt => hmin fun w hw hwy => ?_⟩
  obtain ⟨x1, x2⟩ := hP x hx
  obtain ⟨y1, y2⟩ := hP y hy
  have a1 := h.early x x1 x2
  have a2 := h.cross y x y1 x1 y2 x2
  have a3 := hQ.num x1
  have a4 := hQ.num y1
  have a5 := hQ.q_le x
  have b1 := hym z hz
  have b2 := hxm z hz
  have b3 := hym w hw
  have b4 := hxm w hw
  unfold LtQ at hlt hwy
  omega
/-- All values, none behind one that it must be ahead of. -/
theorem FineQ.values (h : FineQ l) (hQ : OkQ l) : ∃ V : List Nat, V.Nodup ∧ (∀ x, x ∈ V ↔ x < l.length ∧ (oAt l x).kind = 9) ∧ V.Pairwise fun v w => ¬ LtQ l w v := by
  obtain ⟨V, h1, h2⟩ := topo (R := LtQ l) (P := fun x => x < l.length ∧ (oAt l x).kind = 9) (fun E hE hP => h.min hQ E hE hP) _ ((List.range l.length).filter fun x => decide ((oAt l x).kind = 9)) rfl (fun x hx => by
    have := List.mem_filter.1 hx
    exact ⟨List.mem_range.1 this.1, by simpa using this.2⟩)
  refine ⟨V, h1.nodup_iff.2 (List.nodup_range.filter _), fun x => ?_, h2⟩
  rw [h1.mem_iff, List.mem_filter, List.mem_range]
  simp
end
/-! ### Times -/
def mxF (f : Nat → Int) (L : List Nat) : Int := L.foldr (fun y m => max (f y) m) 0
theorem mxF_nonneg (f : Nat → Int) : ∀ L, 0 ≤ mxF f L
  | [] => Int.le_refl _
  | y :: L => by have := mxF_nonneg f L; show 0 ≤ max (f y) (mxF f L); omega
theorem mxF_ge {f : Nat → Int} : ∀ {L : List Nat} {y : Nat}, y ∈ L → f y ≤ mxF f L
  | z :: L, y, h => by
    show f y ≤ max (f z) (mxF f L)
    rcases List.mem_cons.1 h with rfl | h
    · omega
    · have := mxF_ge (f := f) h; omega
theorem mxF_le {f : Nat → Int} {B : Int} (h0 : 0 ≤ B) : ∀ {L : List Nat}, (∀ y ∈ L, f y ≤ B) → mxF f L ≤ B
  | [], _ => h0
  | z :: L, h => by
    have h1 := h z (by simp)
    have h2 := mxF_le (f := f) h0 (L := L) fun y hy => h y (by simp [hy])
    show max (f z) (mxF f L) ≤ B
    omega
theorem mxF_mono {f : Nat → Int} {L L' : List Nat} (h : ∀ y ∈ L, y ∈ L') : mxF f L ≤ mxF f L' := mxF_le (mxF_nonneg f L') fun y hy => mxF_ge (h y hy)
end Go.Proofs.YtijgkocolajghaaDoor

/-! Que8: Queues: a key of each op, by which all ops are put in order. Plain. -/
namespace Go.Proofs.YtijgkocolajghaaDoor
set_option linter.unusedVariables false
set_option linter.unusedSimpArgs false
def vlF (l : List Op8) (i : Nat) : Nat := if (oAt l i).kind = 9 then i else (fdN (pushB l (oAt l i).res) l.length).getD 0
def tPF (l : List Op8) (V : List Nat) (x : Nat) : Int := mxF (fun y => (oAt l y).call) (V.take (V.idxOf x + 1))
def tQF (l : List Op8) (V : List Nat) (x : Nat) : Int := max (mxF (qcF l) (V.take (V.idxOf x + 1))) (tPF l V x)
def tiF (l : List Op8) (V : List Nat) (i : Nat) : Int := if (oAt l i).kind = 9 then tPF l V i else tQF l V (vlF l i)
def lowF (l : List Op8) (V : List Nat) (i : Nat) : Int := 2 * (V.idxOf (vlF l i) : Int) + if (oAt l i).kind = 9 then 0 else 1
def keyQ (l : List Op8) (V : List Nat) (i : Nat) : Int := tiF l V i * (2 * (V.length : Int) + 2) + lowF l V i
/-- What is asked of keys. -/
structure Keyed (l : List Op8) (K : Nat → Int) (rk : Nat → Nat) : Prop where
  vl : ∀ i, i < l.length → (oAt l i).kind = 10 → vlF l i < l.length ∧ (oAt l (vlF l i)).kind = 9 ∧ (oAt l (vlF l i)).a = (oAt l i).res
  inj : ∀ x y, x < l.length → y < l.length → (oAt l x).kind = 9 → (oAt l y).kind = 9 → rk x = rk y → x = y
  push : ∀ x y, x < l.length → y < l.length → (oAt l x).kind = 9 → (oAt l y).kind = 9 → rk x < rk y → K x < K y
  pop : ∀ s t, s < l.length → t < l.length → (oAt l s).kind = 10 → (oAt l t).kind = 10 → rk (vlF l s) < rk (vlF l t) → K s < K t
  own : ∀ s, s < l.length → (oAt l s).kind = 10 → K (vlF l s) < K s
  bef : ∀ i k, i < l.length → k < l.length → befB (oAt l i) (oAt l k) = true → K i < K k
  popped : ∀ s y, s < l.length → (oAt l s).kind = 10 → y < l.length → (oAt l y).kind = 9 → rk y < rk (vlF l s) → ∃ t, t < l.length ∧ (oAt l t).kind = 10 ∧ vlF l t = y
theorem key_lt {a b c d m : Int} (hm : 0 ≤ a) (h : (a < b ∧ c < m ∧ 0 ≤ d) ∨ (a ≤ b ∧ c < d)) (h0 : 0 ≤ m) : a * m + c < b * m + d := by
  rcases h with ⟨h1, h2, h3⟩ | ⟨h1, h2⟩
  · have := Int.mul_le_mul_of_nonneg_right (show a + 1 ≤ b by omega) h0
    rw [Int.add_mul, Int.one_mul] at this
    omega
  · have := Int.mul_le_mul_of_nonneg_right h1 h0
    omega
section
variable {l : List Op8} {V : List Nat}
theorem keyed_of (hQ : OkQ l) (hF : FineQ l) (hnd : V.Nodup) (hV : ∀ x, x ∈ V ↔ x < l.length ∧ (oAt l x).kind = 9) (hp : V.Pairwise fun v w => ¬ LtQ l w v) : Keyed l (keyQ l V) (fun x => V.idxOf x) := by
  have hidx : ∀ {x}, x ∈ V → ∃ h : V.idxOf x < V.length, V[V.idxOf x] = x := fun {x} hx => ⟨List.idxOf_lt_length_iff.2 hx, List.getElem_idxOf _⟩
  have hinj : ∀ x y, x ∈ V → y ∈ V → V.idxOf x = V.idxOf y → x = y := fun x y hx hy e => by
    obtain ⟨h1, h2⟩ := hidx hx
    obtain ⟨h3, h4⟩ := hidx hy
    rw [← h2, ← h4]
    congr 1
  have htk : ∀ {x y}, y ∈ V.take (V.idxOf x + 1) → y ∈ V ∧ V.idxOf y ≤ V.idxOf x := fun {x y} hy => by
    have hyV := List.mem_of_mem_take hy
    obtain ⟨j, hj, he⟩ := List.mem_take_iff_getElem.1 hy
    obtain ⟨h1, h2⟩ := hidx hyV
    have hjl : j < V.length := by omega
    have : V.idxOf y = j := (List.getElem_inj (h₀ := h1) (h₁ := hjl) hnd).1 (h2.trans he.symm)
    exact ⟨hyV, by omega⟩
  have hkt : ∀ {x y}, y ∈ V → V.idxOf y ≤ V.idxOf x → y ∈ V.take (V.idxOf x + 1) := fun {x y} hy hle => by
    obtain ⟨h1, h2⟩ := hidx hy
    exact List.mem_take_iff_getElem.2 ⟨V.idxOf y, by omega, h2⟩
  have hnl : ∀ {x y}, x ∈ V → y ∈ V → V.idxOf y < V.idxOf x → ¬ LtQ l x y := fun {x y} hx hy hlt => by
    obtain ⟨h1, h2⟩ := hidx hx
    obtain ⟨h3, h4⟩ := hidx hy
    have := List.pairwise_iff_getElem.1 hp _ _ h3 h1 hlt
    rwa [h2, h4] at this
  have hle : ∀ {x y}, x ∈ V → y ∈ V.take (V.idxOf x + 1) → y = x ∨ ¬ LtQ l x y := fun {x y} hx hy => by
    obtain ⟨h1, h2⟩ := htk hy
    rcases Nat.lt_or_eq_of_le h2 with h3 | h3
    · exact .inr (hnl hx h1 h3)
    · exact .inl (hinj _ _ h1 hx h3)
  have hvl : ∀ i, i < l.length → (oAt l i).kind = 10 → vlF l i < l.length ∧ (oAt l (vlF l i)).kind = 9 ∧ (oAt l (vlF l i)).a = (oAt l i).res := fun i hi hk => by
    obtain ⟨x, x1, x2, x3⟩ := hF.thin i hi hk
    unfold vlF
    rw [if_neg (by omega)]
    cases hf : fdN (pushB l (oAt l i).res) l.length with
    | none =>
      have := fdN_none.1 hf x x1
      unfold pushB at this
      simp [x2, x3] at this
    | some y =>
      obtain ⟨y1, y2⟩ := fdN_some hf
      unfold pushB at y2
      simp only [Bool.and_eq_true, decide_eq_true_eq] at y2
      exact ⟨y1, y2⟩
  have hpp : ∀ i, i < l.length → (oAt l i).kind = 10 → fdN (popB l (oAt l (vlF l i)).a) l.length = some i := fun i hi hk => by
    obtain ⟨v1, v2, v3⟩ := hvl i hi hk
    cases hf : fdN (popB l (oAt l (vlF l i)).a) l.length with
    | none =>
      have := fdN_none.1 hf i hi
      unfold popB at this
      simp [hk, v3] at this
    | some s =>
      obtain ⟨s1, s2, s3⟩ := pop_of hf
      rw [hF.twice s i s1 hi s2 hk (s3.trans v3)]
  have hq : ∀ i, i < l.length → (oAt l i).kind = 10 → qcF l (vlF l i) = (oAt l i).call ∧ qrF l (vlF l i) = (oAt l i).ret := fun i hi hk => by
    unfold qcF qrF
    rw [hpp i hi hk]
    exact ⟨rfl, rfl⟩
  have hv9 : ∀ i, (oAt l i).kind = 9 → vlF l i = i := fun i hk => if_pos hk
  have hvV : ∀ i, i < l.length → vlF l i ∈ V := fun i hi => by
    rcases hQ.kind i hi with hk | hk
    · rw [hv9 i hk]; exact (hV i).2 ⟨hi, hk⟩
    · obtain ⟨v1, v2, _⟩ := hvl i hi hk
      exact (hV _).2 ⟨v1, v2⟩
  have hmono : ∀ {x y}, V.idxOf x ≤ V.idxOf y → tPF l V x ≤ tPF l V y ∧ tQF l V x ≤ tQF l V y := fun {x y} hxy => by
    have hsub : ∀ z ∈ V.take (V.idxOf x + 1), z ∈ V.take (V.idxOf y + 1) := fun z hz => hkt (htk hz).1 (by have := (htk hz).2; omega)
    have h1 := mxF_mono (f := fun y => (oAt l y).call) hsub
    have h2 := mxF_mono (f := qcF l) hsub
    unfold tQF
    unfold tPF
    omega
  have hti : ∀ i, i < l.length → (oAt l i).call ≤ tiF l V i ∧ tiF l V i ≤ (oAt l i).ret := fun i hi => by
    have hni := hQ.num hi
    unfold tiF
    rcases hQ.kind i hi with hk | hk
    · rw [if_pos hk]
      have hm : i ∈ V := (hV i).2 ⟨hi, hk⟩
      refine ⟨mxF_ge (f := fun y => (oAt l y).call) (hkt hm (Nat.le_refl _)), mxF_le (by omega) fun y hy => ?_⟩
      rcases hle hm hy with rfl | hn
      · omega
      · unfold LtQ at hn; omega
    · rw [if_neg (by omega)]
      obtain ⟨v1, v2, v3⟩ := hvl i hi hk
      obtain ⟨q1, q2⟩ := hq i hi hk
      have hm := hvV i hi
      have g1 := mxF_ge (f := qcF l) (hkt (x := vlF l i) hm (Nat.le_refl _))
      have g2 : mxF (qcF l) (V.take (V.idxOf (vlF l i) + 1)) ≤ (oAt l i).ret := mxF_le (by omega) fun y hy => by
        rcases hle hm hy with rfl | hn
        · omega
        · unfold LtQ at hn; omega
      have g3 : tPF l V (vlF l i) ≤ (oAt l i).ret := mxF_le (by omega) fun y hy => by
        have he := hF.early _ v1 v2
        rcases hle hm hy with rfl | hn
        · omega
        · unfold LtQ at hn; omega
      unfold tQF
      omega
  have hlow : ∀ i, i < l.length → 0 ≤ lowF l V i ∧ lowF l V i < 2 * (V.length : Int) + 2 := fun i hi => by
    obtain ⟨h1, _⟩ := hidx (hvV i hi)
    unfold lowF
    split <;> omega
  have hti0 : ∀ i, i < l.length → 0 ≤ tiF l V i := fun i hi => by have := hti i hi; have := hQ.num hi; omega
  refine ⟨hvl, fun x y hx hy kx ky e => hinj x y ((hV x).2 ⟨hx, kx⟩) ((hV y).2 ⟨hy, ky⟩) e, fun x y hx hy kx ky hlt => ?_, fun s t hs ht ks kt hlt => ?_, fun s hs ks => ?_, fun i k hi hk hb => ?_, fun s y hs ks hy ky hlt => ?_⟩
  · refine key_lt (hti0 x hx) (.inr ⟨?_, ?_⟩) (by omega)
    · unfold tiF; rw [if_pos kx, if_pos ky]; exact (hmono (by omega)).1
    · unfold lowF; rw [if_pos kx, if_pos ky, hv9 x kx, hv9 y ky]; omega
  · refine key_lt (hti0 s hs) (.inr ⟨?_, ?_⟩) (by omega)
    · unfold tiF; rw [if_neg (by omega), if_neg (by omega)]; exact (hmono (by omega)).2
    · unfold lowF; rw [if_neg (by omega), if_neg (by omega)]; omega
  · obtain ⟨v1, v2, v3⟩ := hvl s hs ks
    refine key_lt (hti0 _ v1) (.inr ⟨?_, ?_⟩) (by omega)
    · unfold tiF; rw [if_pos v2, if_neg (by omega)]; unfold tQF; omega
    · unfold lowF; rw [if_pos v2, if_neg (show ¬ (oAt l s).kind = 9 by omega), hv9 _ v2]; omega
  · have h1 := hti i hi
    have h2 := hti k hk
    unfold befB at hb
    simp only [Bool.and_eq_true, decide_eq_true_eq] at hb
    exact key_lt (hti0 i hi) (.inl ⟨by omega, (hlow i hi).2, (hlow k hk).1⟩) (by omega)
  · have hn := hnl (hvV s hs) ((hV y).2 ⟨hy, ky⟩) hlt
    have h1 := hQ.q_le y
    obtain ⟨q1, q2⟩ := hq s hs ks
    have h3 := hQ.num hs
    have h4 : fdN (popB l (oAt l y).a) l.length ≠ none := fun hnone => by
      have : qcF l y = INF := by unfold qcF; rw [hnone]
      unfold LtQ at hn
      simp only [INF] at this
      omega
    cases hf : fdN (popB l (oAt l y).a) l.length with
    | none => exact absurd hf h4
    | some t =>
      obtain ⟨t1, t2, t3⟩ := pop_of hf
      obtain ⟨v1, v2, v3⟩ := hvl t t1 t2
      exact ⟨t, t1, t2, hQ.uniq v1 hy v2 ky (v3.trans t3)⟩
end
end Go.Proofs.YtijgkocolajghaaDoor

/-! Que9: Queues: ops in the order of their keys go on: plain. -/
namespace Go.Proofs.YtijgkocolajghaaDoor
set_option linter.unusedVariables false
set_option linter.unusedSimpArgs false
def castL (p : List Nat) : List Int := p.map fun i => ((i : Nat) : Int)
def popO (l : List Op8) (i : Int) : Option Int := if (oAt l i.toNat).kind = 10 then some (oAt l i.toNat).res else none
def popV (l : List Op8) (p : List Int) : List Int := p.filterMap (popO l)
theorem popV_len (l : List Op8) (p : List Int) : (popV l p).length = popN l p := by
  induction p with
  | nil => rfl
  | cons i p ih =>
    unfold popV popN at ih ⊢
    rw [List.filterMap_cons, List.countP_cons, ← ih]
    unfold popO
    by_cases h : (oAt l i.toNat).kind = 10 <;> simp [h]
theorem mem_pushV {l : List Op8} {p : List Nat} {v : Int} : v ∈ pushV l (castL p) ↔ ∃ x ∈ p, (oAt l x).kind = 9 ∧ (oAt l x).a = v := by
  unfold pushV castL
  rw [List.filterMap_map, List.mem_filterMap]
  constructor
  · rintro ⟨x, hx, hv⟩
    obtain ⟨h1, h2⟩ := pushO_some hv
    rw [Int.toNat_natCast] at h1 h2
    exact ⟨x, hx, h1, h2⟩
  · rintro ⟨x, hx, h1, h2⟩
    refine ⟨x, hx, ?_⟩
    show pushO l (x : Int) = _
    unfold pushO
    rw [Int.toNat_natCast, if_pos h1, h2]
theorem mem_popV {l : List Op8} {p : List Nat} {v : Int} : v ∈ popV l (castL p) ↔ ∃ x ∈ p, (oAt l x).kind = 10 ∧ (oAt l x).res = v := by
  unfold popV castL
  rw [List.filterMap_map, List.mem_filterMap]
  have e : ∀ x : Nat, (popO l ∘ fun i : Nat => (i : Int)) x = if (oAt l x).kind = 10 then some (oAt l x).res else none := fun x => by
    show popO l (x : Int) = _
    unfold popO
    rw [Int.toNat_natCast]
  constructor
  · rintro ⟨x, hx, hv⟩
    rw [e] at hv
    split at hv
    · rename_i hk
      injection hv with hv
      exact ⟨x, hx, hk, hv⟩
    · cases hv
  · rintro ⟨x, hx, h1, h2⟩
    exact ⟨x, hx, by rw [e, if_pos h1, h2]⟩
section
variable {l : List Op8} {K : Nat → Int} {rk : Nat → Nat}
theorem nodup_vals {p : List Nat} {f : Int → Option Int} (hn : p.Nodup) (hf : ∀ x y, x ∈ p → y ∈ p → x ≠ y → ∀ v, f (x : Int) = some v → ∀ v', f (y : Int) = some v' → v ≠ v') : ((castL p).filterMap f).Nodup := by
  have h1 : p.Pairwise fun a b => a ≠ b ∧ a ∈ p ∧ b ∈ p := List.Pairwise.imp_of_mem (fun ha hb hab => ⟨hab, ha, hb⟩) hn
  unfold castL
  rw [List.filterMap_map]
  exact List.Pairwise.filterMap (R := fun a b => a ≠ b ∧ a ∈ p ∧ b ∈ p) _ (fun a b hab v hv v' hv' => hf a b hab.2.1 hab.2.2 hab.1 v hv v' hv') h1
/-- What is at the head when it is popped. -/
theorem Keyed.head (h : Keyed l K rk) (hQ : OkQ l) (hF : FineQ l) {p s : List Nat} {i : Nat} (hall : ∀ x, x ∈ p ++ i :: s ↔ x < l.length) (hnd : (p ++ i :: s).Nodup) (hs : (p ++ i :: s).Pairwise fun a b => K a ≤ K b) (hk : (oAt l i).kind = 10) :
    (pushV l (castL p))[popN l (castL p)]? = some (oAt l i).res := by
  have hi : i < l.length := (hall i).1 (by simp)
  have hin : ∀ k, k < l.length → K k < K i → k ∈ p := fun k hk hlt => by
    rcases List.mem_append.1 ((hall k).2 hk) with h1 | h1
    · exact h1
    · exfalso
      rcases List.mem_cons.1 h1 with rfl | h1
      · omega
      · have := (List.pairwise_cons.1 (List.pairwise_append.1 hs).2.1).1 k h1
        omega
  obtain ⟨v1, v2, v3⟩ := h.vl i hi hk
  have hown := h.own i hi hk
  have hpx := hin _ v1 hown
  generalize hx : vlF l i = x at v1 v2 v3 hown hpx
  obtain ⟨p1, p2, hpe⟩ := List.append_of_mem hpx
  have hpl : ∀ y ∈ p, y < l.length := fun y hy => (hall y).1 (by simp [hy])
  have hpn : p.Nodup := (List.nodup_append.1 hnd).1
  have hps : p.Pairwise fun a b => K a ≤ K b := (List.pairwise_append.1 hs).1
  have hpi : ∀ y ∈ p, y ≠ i := fun y hy e => by
    subst e
    exact (List.nodup_append.1 hnd).2.2 y hy y (by simp) rfl
  have hpk : ∀ y ∈ p, K y ≤ K i := fun y hy => (List.pairwise_append.1 hs).2.2 y hy i (by simp)
  have hp1 : ∀ y, y ∈ p1 → y ∈ p ∧ y ≠ x ∧ K y ≤ K x := fun y hy => by
    rw [hpe] at hps hpn
    refine ⟨by rw [hpe]; simp [hy], fun e => ?_, (List.pairwise_append.1 hps).2.2 y hy x (by simp)⟩
    subst e
    exact (List.nodup_append.1 hpn).2.2 y hy y (by simp) rfl
  have hlt1 : ∀ y, y ∈ p → K y < K x → y ∈ p1 := fun y hy hlt => by
    rw [hpe] at hy hps
    rcases List.mem_append.1 hy with h1 | h1
    · exact h1
    · exfalso
      rcases List.mem_cons.1 h1 with rfl | h1
      · omega
      · have := (List.pairwise_cons.1 (List.pairwise_append.1 hps).2.1).1 y h1
        omega
  have hn1 : (pushV l (castL p1)).Nodup := by
    have hp1n : p1.Nodup := by rw [hpe] at hpn; exact (List.nodup_append.1 hpn).1
    refine nodup_vals hp1n fun a b ha hb hab v hv v' hv' e => ?_
    obtain ⟨q1, q2⟩ := pushO_some hv
    obtain ⟨s1, s2⟩ := pushO_some hv'
    rw [Int.toNat_natCast] at q1 q2 s1 s2
    exact hab (hQ.uniq (hpl a (hp1 a ha).1) (hpl b (hp1 b hb).1) q1 s1 (by rw [q2, s2, e]))
  have hn2 : (popV l (castL p)).Nodup := by
    refine nodup_vals hpn fun a b ha hb hab v hv v' hv' e => ?_
    unfold popO at hv hv'
    rw [Int.toNat_natCast] at hv hv'
    split at hv
    · rename_i ka
      split at hv'
      · rename_i kb
        injection hv with hv
        injection hv' with hv'
        exact hab (hF.twice a b (hpl a ha) (hpl b hb) ka kb (by rw [hv, hv', e]))
      · cases hv'
    · cases hv
  have hperm : (pushV l (castL p1)).Perm (popV l (castL p)) := by
    refine (List.perm_ext_iff_of_nodup hn1 hn2).2 fun v => ?_
    rw [mem_pushV, mem_popV]
    constructor
    · rintro ⟨y, hy, ky, rfl⟩
      obtain ⟨y1, y2, y3⟩ := hp1 y hy
      have hyl := hpl y y1
      have hrk : rk y < rk x := by
        rcases Nat.lt_trichotomy (rk y) (rk x) with h1 | h1 | h1
        · exact h1
        · exact absurd (h.inj y x hyl v1 ky v2 h1) y2
        · have := h.push x y v1 hyl v2 ky h1; omega
      obtain ⟨t, t1, t2, t3⟩ := h.popped i y hi hk hyl ky (by rw [hx]; exact hrk)
      have hlt := h.pop t i t1 hi t2 hk (by rw [t3, hx]; exact hrk)
      obtain ⟨_, _, w3⟩ := h.vl t t1 t2
      exact ⟨t, hin t t1 hlt, t2, by rw [← w3, t3]⟩
    · rintro ⟨t, ht, kt, rfl⟩
      have htl := hpl t ht
      obtain ⟨w1, w2, w3⟩ := h.vl t htl kt
      have hrk : rk (vlF l t) < rk x := by
        rcases Nat.lt_trichotomy (rk (vlF l t)) (rk x) with h1 | h1 | h1
        · exact h1
        · have e := h.inj _ _ w1 v1 w2 v2 h1
          exact absurd (hF.twice t i htl hi kt hk (by rw [← w3, e, v3])) (hpi t ht)
        · have := h.pop i t hi htl hk kt (by rw [hx]; exact h1)
          have := hpk t ht
          omega
      have hKlt := h.push _ x w1 v1 w2 v2 hrk
      exact ⟨vlF l t, hlt1 _ (hin _ w1 (by omega)) hKlt, w2, w3⟩
  have hlen : popN l (castL p) = (pushV l (castL p1)).length := by rw [← popV_len]; exact hperm.length_eq.symm
  have hsplit : pushV l (castL p) = pushV l (castL p1) ++ (oAt l x).a :: pushV l (castL p2) := by
    rw [hpe]
    unfold pushV castL
    rw [List.map_append, List.filterMap_append, List.map_cons, List.filterMap_cons]
    have : pushO l (x : Int) = some (oAt l x).a := by unfold pushO; rw [Int.toNat_natCast, if_pos v2]
    rw [this]
  rw [hsplit, hlen, List.getElem?_append_right (Nat.le_refl _), Nat.sub_self, ← v3]
  rfl
end
end Go.Proofs.YtijgkocolajghaaDoor

/-! Que10: Queues: where nothing is bad, an order is found. Plain. -/
namespace Go.Proofs.YtijgkocolajghaaDoor
set_option linter.unusedVariables false
set_option linter.unusedSimpArgs false
theorem goF_push {l : List Op8} {sts : Nat → List Int} {i : Nat} (hk : (oAt l i).kind = 9) (hr : (oAt l i).res = 0) : goF 4 l sts i = some (sts (keyN l i) ++ [(oAt l i).a]) := by
  have h1 : stepF 4 (sts (keyN l i)) (oAt l i).kind (oAt l i).a (oAt l i).b = some (sts (keyN l i) ++ [(oAt l i).a], 0) := by
    rw [hk]
    unfold stepF
    rw [if_neg (by rintro (h | h); exact absurd h (by decide); exact absurd h.1 (by decide)), if_neg (by decide), if_neg (by decide), if_neg (by decide), if_neg (by decide)]
    unfold lineF
    rw [if_pos rfl]
  unfold goF
  rw [h1]
  simp only
  rw [if_neg (by rw [hr]; rintro ⟨_, h⟩; exact h rfl)]
theorem goF_pop {l : List Op8} {sts : Nat → List Int} {i : Nat} (hk : (oAt l i).kind = 10) {t : List Int} (hs : sts (keyN l i) = (oAt l i).res :: t) : goF 4 l sts i = some t := by
  have h1 : stepF 4 (sts (keyN l i)) (oAt l i).kind (oAt l i).a (oAt l i).b = some (t, (oAt l i).res) := by
    rw [hk, hs]
    unfold stepF
    rw [if_neg (by rintro (h | h); exact absurd h (by decide); exact absurd h.1 (by decide)), if_neg (by decide), if_neg (by decide), if_neg (by decide), if_neg (by decide)]
    unfold lineF
    rw [if_neg (by decide), if_neg (by simp), if_pos rfl]
    rfl
  unfold goF
  rw [h1]
  simp only
  rw [if_neg (by rintro ⟨_, h⟩; exact h rfl)]
section
variable {l : List Op8} {K : Nat → Int} {rk : Nat → Nat}
theorem castL_snoc (p : List Nat) (i : Nat) : castL (p ++ [i]) = castL p ++ [(i : Int)] := by simp [castL]
theorem Keyed.wit (h : Keyed l K rk) (hQ : OkQ l) (hF : FineQ l) : ∀ (s p : List Nat) (sts : Nat → List Int), (∀ x, x ∈ p ++ s ↔ x < l.length) → (p ++ s).Nodup → ((p ++ s).Pairwise fun a b => K a ≤ K b) → popN l (castL p) ≤ (pushV l (castL p)).length → sts (keyN l 0) = (pushV l (castL p)).drop (popN l (castL p)) →
    Wit 4 l befB s (fun i => decide (i ∈ p)) sts
  | [], p, sts, hall, _, _, _, _ => by
    show allF l _ = true
    unfold allF
    rw [List.all_eq_true]
    intro i hi
    have := (hall i).2 (List.mem_range.1 hi)
    rw [List.append_nil] at this
    simp [this]
  | i :: s, p, sts, hall, hnd, hs, hle, hst => by
    have hi : i < l.length := (hall i).1 (by simp)
    have hip : i ∉ p := fun hm => (List.nodup_append.1 hnd).2.2 i hm i (by simp) rfl
    have hkey : keyN l i = keyN l 0 := by unfold keyN; rw [hQ.key _ hi]
    have hin : ∀ k, k < l.length → K k < K i → k ∈ p := fun k hk hlt => by
      rcases List.mem_append.1 ((hall k).2 hk) with h1 | h1
      · exact h1
      · exfalso
        rcases List.mem_cons.1 h1 with rfl | h1
        · omega
        · have := (List.pairwise_cons.1 (List.pairwise_append.1 hs).2.1).1 k h1
          omega
    have hnext : nextF l befB (fun i => decide (i ∈ p)) i = true := by
      unfold nextF
      simp only [Bool.and_eq_true, List.all_eq_true, Bool.not_eq_true', decide_eq_false_iff_not]
      refine ⟨hip, fun k hk => ?_⟩
      cases hb : befB (oAt l k) (oAt l i) with
      | false => simp
      | true => simp [hin k (List.mem_range.1 hk) (h.bef k i (List.mem_range.1 hk) hi hb)]
    have edn : dnSet (fun j => decide (j ∈ p)) i true = fun j => decide (j ∈ p ++ [i]) := by
      funext j
      unfold dnSet
      by_cases hj : j = i
      · subst hj; simp
      · simp [hj]
    have eap : p ++ i :: s = p ++ [i] ++ s := by simp
    have go : ∀ st', goF 4 l sts i = some st' → popN l (castL (p ++ [i])) ≤ (pushV l (castL (p ++ [i]))).length → st' = (pushV l (castL (p ++ [i]))).drop (popN l (castL (p ++ [i]))) → Wit 4 l befB (i :: s) (fun i => decide (i ∈ p)) sts := fun st' hg hle' hst' => by
      refine ⟨hi, hnext, st', hg, ?_⟩
      rw [edn]
      rw [eap] at hall hnd hs
      refine h.wit hQ hF s (p ++ [i]) _ hall hnd hs hle' ?_
      unfold stSet
      rw [if_pos hkey.symm]
      exact hst'
    rcases hQ.kind i hi with hk | hk
    · refine go _ (goF_push hk (hQ.push i hi hk).2) ?_ ?_
      · rw [castL_snoc, pushV_snoc, popN_snoc, Int.toNat_natCast, if_pos hk, if_neg (show ¬ (oAt l i).kind = 10 by omega), List.length_append]
        omega
      · rw [castL_snoc, pushV_snoc, popN_snoc, Int.toNat_natCast, if_pos hk, if_neg (show ¬ (oAt l i).kind = 10 by omega), hkey, hst, List.drop_append_of_le_length hle]
    · have hh := h.head hQ hF hall hnd hs hk
      have hlt := (List.getElem?_eq_some_iff.1 hh).1
      have he := (List.getElem?_eq_some_iff.1 hh).2
      refine go ((pushV l (castL p)).drop (popN l (castL p) + 1)) (goF_pop hk ?_) ?_ ?_
      · rw [hkey, hst, List.drop_eq_getElem_cons hlt, he]
      · rw [castL_snoc, pushV_snoc, popN_snoc, Int.toNat_natCast, if_neg (show ¬ (oAt l i).kind = 9 by omega), if_pos hk]
        omega
      · rw [castL_snoc, pushV_snoc, popN_snoc, Int.toNat_natCast, if_neg (show ¬ (oAt l i).kind = 9 by omega), if_pos hk]
end
theorem que_law {l : List Op8} (hQ : OkQ l) (h8 : l.length ≤ 8) : (verdF 4 l befB 1000000).1 = 1 ↔ ¬ BadQ l := by
  constructor
  · intro hv
    exact (queOrd_of hQ hv).fine hQ
  · intro hb
    have hF := fine_of hQ hb
    obtain ⟨V, v1, v2, v3⟩ := hF.values hQ
    have hK := keyed_of hQ hF v1 v2 v3
    have hA := argsOk (okLin_que hQ (b := 0) (by omega) (by omega))
    have hw : ∃ r, Wit 4 l befB r (fun _ => false) (startS 4).sts := by
      refine ⟨(List.range l.length).mergeSort fun i k => decide (keyQ l V i ≤ keyQ l V k), ?_⟩
      have hp := List.mergeSort_perm (List.range l.length) (fun i k => decide (keyQ l V i ≤ keyQ l V k))
      have hs := List.pairwise_mergeSort (le := fun i k => decide (keyQ l V i ≤ keyQ l V k)) (fun a b c h1 h2 => by simp at h1 h2 ⊢; omega) (fun a b => by simp; omega) (List.range l.length)
      have e0 : (fun _ : Nat => false) = fun i => decide (i ∈ ([] : List Nat)) := by funext i; simp
      rw [e0]
      refine hK.wit hQ hF _ [] _ (fun x => ?_) ?_ ?_ (Nat.zero_le _) ?_
      · rw [List.nil_append, hp.mem_iff, List.mem_range]
      · rw [List.nil_append]; exact hp.nodup_iff.2 List.nodup_range
      · rw [List.nil_append]; exact hs.imp (fun h => by simpa using h)
      · show (if keyN l 0 < 8 then startF 4 else []) = _
        split <;> rfl
    obtain ⟨r, hr⟩ := hw
    have h2 : (verdF 4 l befB 1000000).1 ≠ 2 := fun h2 => verd_complete hA h2 r hr
    have h3 := verd_known (o := 4) (ab := befB) (bud := 1000000) h8 (by omega)
    rcases enter_code (o := 4) (l := l) (ab := befB) (bud := 1000000) (l.length + 1) (startS 4) with h4 | h4 | h4
    · exact h4
    · exact absurd h4 h2
    · exact absurd h4 h3
end Go.Proofs.YtijgkocolajghaaDoor
