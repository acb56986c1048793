/- StoreLinear: the law walked. -/
import Derived.Test.YtglioflpblpmpaaGreatDoorPkJ
import Derived.Test.YtglioflpblpmpaaGreatDoorPkK
import Derived.Test.YtglioflpblpmpaaGreatDoorPkL
import Derived.Test.YtglioflpblpmpaaGreatDoorPkE
import Derived.Test.YtglioflpblpmpaaGreatDoorPkF
namespace Go.Proofs.YtglioflpblpmpaaGreatDoor
open Go.RowKit
set_option linter.unusedVariables false
set_option linter.unusedSimpArgs false
set_option maxHeartbeats 8000000 in
theorem slinear_any (n k a t : Int) (b : Bool) (A : Option Addr) (c : Nat) (ms : List PMove) (D : Nat → Prop) (w0 : World) (hg : GlobOk w0) (hkn : KnOk w0) (hR : Rd w0 D 4 (.slice A ms.length c) ms.length (ms.flatMap pmL)) :
    Calls Tryz.prog 3 #[.agg #[.int .i64 n, .int .i64 k, .int .i64 a, .int .i64 t, .bool b], .slice A ms.length c] w0 fun en w' => en = .returned (.bool true) ∧ Pure w0 w' := by
  have hI := Inv.start (fun _ => False) w0
  refine calls_of_W (N := Tryz.f3.ntmps) Tryz.func3 rfl rfl rfl ?_
  refine W_seq ?_
  refine W_region ?_
  refine WL_box (u := .agg _) (vs := #[_, _, _, _, _]) hI rfl rfl rfl rfl rfl rfl ?_
  clear hI; rintro b2 w - - hI
  refine WL_val rfl rfl rfl (by exact rAsgnB rfl rfl) ?_
  refine WL_nil ?_
  by_cases hlen : 250 < ms.length
  · refine W_seq ?_
    refine W_seq ?_
    refine W_region ?_
    refine WL_val rfl rfl rfl (by exact rMoveS rfl rfl) ?_
    refine WL_val rfl rfl rfl (rLen rfl Tryz.underlying24 rfl) ?_
    refine WL_val rfl rfl rfl (by exact rGtrT rfl rfl rfl (by omega)) ?_
    refine WL_nil ?_
    refine W_cond true rfl ?_
    refine W_seq ?_
    refine W_region ?_
    refine WL_val rfl rfl rfl (by exact rAsgnB rfl rfl) ?_
    refine WL_nil ?_
    refine W_ret ?_
    exact ret1 4 (.inr rfl) rfl ⟨rfl, hI.pu⟩
  refine W_seq ?_
  refine W_seq ?_
  refine W_region ?_
  refine WL_val rfl rfl rfl (by exact rMoveS rfl rfl) ?_
  refine WL_val rfl rfl rfl (rLen rfl Tryz.underlying24 rfl) ?_
  refine WL_val rfl rfl rfl (by exact rGtrF rfl rfl rfl (by omega)) ?_
  refine WL_nil ?_
  refine W_cond false rfl ?_
  refine W_skip ?_
  refine W_seq ?_
  refine W_region ?_
  refine WL_val rfl rfl rfl (by exact rFldN (off := 4) rfl (by kernel_rfl) rfl) ?_
  refine WL_st0 (u := .bool _) hI rfl rfl rfl rfl rfl rfl (by kernel_rfl) rfl rfl rfl ?_
  clear hI; intro w hI
  refine WL_nil ?_
  by_cases hset : SetOk n k a t
  rotate_left
  · refine W_seq ?_
    refine W_seq ?_
    refine W_region ?_
    refine WL_call rfl rfl rfl (rCall (vs := []) rfl Tryz.func4 rfl rfl rfl) ?_
    refine (stores_any _).mono ?_
    rintro e w1 ⟨rfl, hp⟩
    refine ⟨_, rfl, ?_⟩
    replace hI := hI.pure hp
    refine WL_val rfl rfl rfl (by exact rNotT rfl rfl) ?_
    refine WL_val rfl rfl rfl (by exact rMoveB rfl rfl) ?_
    refine WL_val rfl rfl rfl (by exact rLdB (n := 5) rfl (by kernel_rfl) (by kernel_rfl) rfl rfl hI.g0) ?_
    refine WL_call rfl rfl rfl (rCall (vs := [.agg _]) rfl Tryz.func5 rfl rfl rfl) ?_
    refine (scheck_any n k a t true _).mono ?_
    rintro e w2 ⟨⟨hb, _⟩ | ⟨_, z, rfl⟩, hp⟩
    · exact absurd hb hset
    refine ⟨_, rfl, ?_⟩
    replace hI := hI.pure hp
    refine WL_val rfl rfl rfl (by exact rIfaceNe rfl Tryz.underlying27 rfl rfl) ?_
    refine WL_val rfl rfl rfl (by exact rPickFB rfl rfl rfl) ?_
    refine WL_val rfl rfl rfl (by exact rMoveB rfl rfl) ?_
    refine WL_skip rfl rfl rfl ?_
    refine WL_skip rfl rfl rfl ?_
    refine WL_skip rfl rfl rfl ?_
    refine WL_val rfl rfl rfl (by exact rPickTB rfl rfl rfl) ?_
    refine WL_nil ?_
    refine W_cond true rfl ?_
    refine W_seq ?_
    refine W_region ?_
    refine WL_call rfl rfl rfl (rCall (vs := []) rfl Tryz.func4 rfl rfl rfl) ?_
    refine (stores_any _).mono ?_
    rintro e w1 ⟨rfl, hp⟩
    refine ⟨_, rfl, ?_⟩
    replace hI := hI.pure hp
    refine WL_val rfl rfl rfl (by exact rAsgnB rfl rfl) ?_
    refine WL_nil ?_
    refine W_ret ?_
    exact ret1 4 (.inr rfl) rfl ⟨rfl, hI.pu⟩
  by_cases hcross : n < a + t
  rotate_left
  · refine W_seq ?_
    refine W_seq ?_
    refine W_region ?_
    refine WL_call rfl rfl rfl (rCall (vs := []) rfl Tryz.func4 rfl rfl rfl) ?_
    refine (stores_any _).mono ?_
    rintro e w1 ⟨rfl, hp⟩
    refine ⟨_, rfl, ?_⟩
    replace hI := hI.pure hp
    refine WL_val rfl rfl rfl (by exact rNotT rfl rfl) ?_
    refine WL_val rfl rfl rfl (by exact rMoveB rfl rfl) ?_
    refine WL_val rfl rfl rfl (by exact rLdB (n := 5) rfl (by kernel_rfl) (by kernel_rfl) rfl rfl hI.g0) ?_
    refine WL_call rfl rfl rfl (rCall (vs := [.agg _]) rfl Tryz.func5 rfl rfl rfl) ?_
    refine (scheck_any n k a t true _).mono ?_
    rintro e w2 ⟨⟨_, rfl⟩ | ⟨hb, _⟩, hp⟩
    rotate_left
    · exact absurd hset hb
    refine ⟨_, rfl, ?_⟩
    replace hI := hI.pure hp
    refine WL_val rfl rfl rfl (by exact rNilNe rfl Tryz.underlying27 rfl) ?_
    refine WL_val rfl rfl rfl (by exact rPickFB rfl rfl rfl) ?_
    refine WL_val rfl rfl rfl (by exact rMoveB rfl rfl) ?_
    refine WL_val rfl rfl rfl (by exact rLdB (n := 5) rfl (by kernel_rfl) (by kernel_rfl) rfl rfl hI.g0) ?_
    refine WL_call rfl rfl rfl (rCall (vs := [.agg _]) rfl Tryz.func6 rfl rfl rfl) ?_
    refine (crossing_any n k a t true _ hset).mono ?_
    rintro e w3 ⟨rfl, hp⟩
    rw [decide_eq_false hcross]
    refine ⟨_, rfl, ?_⟩
    replace hI := hI.pure hp
    refine WL_val rfl rfl rfl (by exact rNotF rfl rfl) ?_
    refine WL_val rfl rfl rfl (by exact rPickFB rfl rfl rfl) ?_
    refine WL_nil ?_
    refine W_cond true rfl ?_
    refine W_seq ?_
    refine W_region ?_
    refine WL_call rfl rfl rfl (rCall (vs := []) rfl Tryz.func4 rfl rfl rfl) ?_
    refine (stores_any _).mono ?_
    rintro e w1 ⟨rfl, hp⟩
    refine ⟨_, rfl, ?_⟩
    replace hI := hI.pure hp
    refine WL_val rfl rfl rfl (by exact rAsgnB rfl rfl) ?_
    refine WL_nil ?_
    refine W_ret ?_
    exact ret1 4 (.inr rfl) rfl ⟨rfl, hI.pu⟩
  refine W_seq ?_
  refine W_seq ?_
  refine W_region ?_
  refine WL_call rfl rfl rfl (rCall (vs := []) rfl Tryz.func4 rfl rfl rfl) ?_
  refine (stores_any _).mono ?_
  rintro e w1 ⟨rfl, hp⟩
  refine ⟨_, rfl, ?_⟩
  replace hI := hI.pure hp
  refine WL_val rfl rfl rfl (by exact rNotT rfl rfl) ?_
  refine WL_val rfl rfl rfl (by exact rMoveB rfl rfl) ?_
  refine WL_val rfl rfl rfl (by exact rLdB (n := 5) rfl (by kernel_rfl) (by kernel_rfl) rfl rfl hI.g0) ?_
  refine WL_call rfl rfl rfl (rCall (vs := [.agg _]) rfl Tryz.func5 rfl rfl rfl) ?_
  refine (scheck_any n k a t true _).mono ?_
  rintro e w2 ⟨⟨_, rfl⟩ | ⟨hb, _⟩, hp⟩
  rotate_left
  · exact absurd hset hb
  refine ⟨_, rfl, ?_⟩
  replace hI := hI.pure hp
  refine WL_val rfl rfl rfl (by exact rNilNe rfl Tryz.underlying27 rfl) ?_
  refine WL_val rfl rfl rfl (by exact rPickFB rfl rfl rfl) ?_
  refine WL_val rfl rfl rfl (by exact rMoveB rfl rfl) ?_
  refine WL_val rfl rfl rfl (by exact rLdB (n := 5) rfl (by kernel_rfl) (by kernel_rfl) rfl rfl hI.g0) ?_
  refine WL_call rfl rfl rfl (rCall (vs := [.agg _]) rfl Tryz.func6 rfl rfl rfl) ?_
  refine (crossing_any n k a t true _ hset).mono ?_
  rintro e w3 ⟨rfl, hp⟩
  rw [decide_eq_true hcross]
  refine ⟨_, rfl, ?_⟩
  replace hI := hI.pure hp
  refine WL_val rfl rfl rfl (by exact rNotT rfl rfl) ?_
  refine WL_val rfl rfl rfl (by exact rPickFB rfl rfl rfl) ?_
  refine WL_nil ?_
  refine W_cond false rfl ?_
  refine W_skip ?_
  obtain ⟨n, rfl⟩ : ∃ n' : Nat, n = (n' : Int) := ⟨n.toNat, by unfold SetOk at hset; omega⟩
  obtain ⟨k, rfl⟩ : ∃ n' : Nat, k = (n' : Int) := ⟨k.toNat, by unfold SetOk at hset; omega⟩
  obtain ⟨a, rfl⟩ : ∃ n' : Nat, a = (n' : Int) := ⟨a.toNat, by unfold SetOk at hset; omega⟩
  obtain ⟨t, rfl⟩ : ∃ n' : Nat, t = (n' : Int) := ⟨t.toNat, by unfold SetOk at hset; omega⟩
  refine W_seq ?_
  refine W_region ?_
  refine WL_val rfl rfl rfl (by exact rLdB (n := 5) rfl (by kernel_rfl) (by kernel_rfl) rfl rfl hI.g0) ?_
  refine WL_val rfl rfl rfl (by exact rMoveS rfl rfl) ?_
  refine WL_call rfl rfl rfl (rCall (vs := [.agg _, .slice _ _ _]) rfl Tryz.func7 rfl rfl rfl) ?_
  refine (moved_any n k a t true hset A c ms D _ (hR.pure hI.pu) (by omega)).mono ?_
  rintro e w4 ⟨L, s, rfl, hmv, hok, hJ⟩
  refine ⟨_, rfl, ?_⟩
  replace hI := (Inv.callB (X := [_]) (l := []) (by rw [List.append_nil]; exact hI) (l' := spt L s) ⟨hJ.chg.mono (fun _ _ h => h.elim), hJ.ok, fun e he k hk => .inr ((hJ.own e he k hk).resolve_left id), hJ.apart⟩)
  refine WL_val rfl rfl rfl (by exact rAsgnP rfl rfl) ?_
  refine WL_nil ?_
  have hS : SInv s := (SInv.s0 (k := k) (b := true) (by omega)).mvs hmv
  refine W_seq ?_
  refine W_seq ?_
  refine W_region ?_
  refine WL_val rfl rfl rfl (by exact rMoveP rfl rfl) ?_
  refine WL_val rfl rfl rfl (rPtrEq rfl Tryz.underlying30 rfl rfl) ?_
  refine WL_nil ?_
  refine W_cond false rfl ?_
  refine W_skip ?_
  have hel := hok.elen
  have hll := hS.len
  obtain ⟨-, hV, -, v, hRv⟩ := reach_all hset (by omega) hmv
  have hback : s.back = true := hmv.back
  obtain ⟨hE, hOk, ord, hsh⟩ := linear_law hS hV hRv hback hel
  refine W_seq ?_
  refine W_region ?_
  refine WL_val rfl rfl rfl (by exact rMoveP rfl rfl) ?_
  refine WL_call rfl rfl rfl (rCall (vs := [.pointer _]) rfl Tryz.func9 rfl rfl rfl) ?_
  refine (events_any L s (DLs _) _ (hI.fromB (X := [_])) (by omega)).mono ?_
  rintro en w5 ⟨EA, ec, rfl, hJ⟩
  refine ⟨_, rfl, ?_⟩
  replace hI := hI.callB (X := [_]) hJ
  refine WL_call rfl rfl rfl (rCall (vs := [.slice _ _ _]) rfl Tryz.func8 rfl rfl rfl) ?_
  refine (evops_any EA s.evs.length ec s.evs _ _ (Rd.of_own (D := fun _ => True) hI.g1 (fun _ _ _ => trivial)) (hI.oldp hg)).mono ?_
  rintro en w6 hP
  rw [hE] at hP
  obtain ⟨A', c', rfl, hT⟩ := hP
  refine ⟨_, rfl, ?_⟩
  replace hI := hI.app1 hT
  refine WL_val rfl rfl rfl (by exact rMoveT rfl rfl) ?_
  refine WL_val rfl rfl rfl (rExtr rfl rfl rfl) ?_
  refine WL_val rfl rfl rfl (rExtr rfl rfl rfl) ?_
  refine WL_val rfl rfl rfl (by exact rAsgnS rfl rfl) ?_
  refine WL_val rfl rfl rfl (by exact rAsgnN rfl rfl) ?_
  refine WL_nil ?_
  refine W_seq ?_
  refine W_seq ?_
  refine W_region ?_
  refine WL_val rfl rfl rfl (by exact rMoveN rfl rfl) ?_
  refine WL_val rfl rfl rfl (by exact rNilNe rfl Tryz.underlying27 rfl) ?_
  refine WL_nil ?_
  refine W_cond false rfl ?_
  refine W_skip ?_
  by_cases h40 : v.ops.length ≤ 40
  rotate_left
  · refine W_seq ?_
    refine W_seq ?_
    refine W_region ?_
    refine WL_val rfl rfl rfl (by exact rMoveS rfl rfl) ?_
    refine WL_val rfl rfl rfl (rLen rfl Tryz.underlying32 rfl) ?_
    refine WL_val rfl rfl rfl (by exact rGtrT rfl rfl rfl (by omega)) ?_
    refine WL_nil ?_
    refine W_cond true rfl ?_
    refine W_seq ?_
    refine W_region ?_
    refine WL_val rfl rfl rfl (by exact rAsgnB rfl rfl) ?_
    refine WL_nil ?_
    refine W_ret ?_
    exact ret1 4 (.inr rfl) rfl ⟨rfl, hI.pu⟩
  refine W_seq ?_
  refine W_seq ?_
  refine W_region ?_
  refine WL_val rfl rfl rfl (by exact rMoveS rfl rfl) ?_
  refine WL_val rfl rfl rfl (rLen rfl Tryz.underlying32 rfl) ?_
  refine WL_val rfl rfl rfl (by exact rGtrF rfl rfl rfl (by omega)) ?_
  refine WL_nil ?_
  refine W_cond false rfl ?_
  refine W_skip ?_
  have hok2 := hOk h40
  have hni := verd_not_invalid (ab := befB) (argsOk hok2) (fun k i hk hi hp => hp) hsh 20000
  refine W_seq ?_
  refine W_region ?_
  refine WL_val rfl rfl rfl (by exact rMoveS rfl rfl) ?_
  refine WL_call rfl rfl rfl (rCall (vs := [.int .i64 _, .slice _ _ _, .int .i64 _]) rfl Tryz.func10 rfl rfl rfl) ?_
  refine (chk_any 1 A' v.ops.length c' v.ops 20000 _ _ (Rd.of_own (D := fun _ => True) hI.g0 (fun _ _ _ => trivial)) (hkn.pure hI.pu)).mono ?_
  rintro e w7 (⟨_, A2, c2, rfl, hT⟩ | ⟨h1, _⟩)
  rotate_left
  · exact absurd hok2 h1
  rw [show (20000 : Int).toNat = 20000 from rfl] at hT ⊢
  generalize verdF 1 v.ops befB 20000 = R at hT hni ⊢
  obtain ⟨z, s'⟩ := R
  simp only at hni
  refine ⟨_, rfl, ?_⟩
  replace hI := hI.app1 hT
  refine WL_val rfl rfl rfl (by exact rMoveT rfl rfl) ?_
  refine WL_val rfl rfl rfl (rExtr rfl rfl rfl) ?_
  refine WL_val rfl rfl rfl (rExtr rfl rfl rfl) ?_
  refine WL_alloc (u := .agg #[.int .i64 0, .slice none 0 0, .int .i64 0]) (vs := #[.int .i64 0, .slice none 0 0, .int .i64 0]) hI rfl rfl rfl rfl (by kernel_rfl) rfl ?_
  clear hI; rintro b8 w - - hI
  refine WL_stw0 (u := .agg _) (vs := #[_, _, _]) (n := 3) hI rfl rfl rfl rfl rfl rfl (by kernel_rfl) rfl rfl rfl ?_
  clear hI; intro w hI
  refine WL_val rfl rfl rfl (by exact rAsgnN rfl rfl) ?_
  refine WL_nil ?_
  refine W_seq ?_
  refine W_region ?_
  refine WL_val rfl rfl rfl (by exact rMoveN rfl rfl) ?_
  refine WL_val rfl rfl rfl (by exact rNilEq rfl Tryz.underlying27 rfl) ?_
  refine WL_val rfl rfl rfl (by exact rMoveB rfl rfl) ?_
  refine WL_val rfl rfl rfl (by exact rFldN (off := 0) rfl (by kernel_rfl) rfl) ?_
  refine WL_val rfl rfl rfl (by exact rLd (v := .int .i64 _) rfl (by kernel_rfl) rfl (by exact hI.c0 rfl)) ?_
  refine WL_val rfl rfl rfl (by exact rNeqT rfl rfl rfl (by omega)) ?_
  refine WL_val rfl rfl rfl (by exact rPickTB rfl rfl rfl) ?_
  refine WL_val rfl rfl rfl (by exact rAsgnB rfl rfl) ?_
  refine WL_nil ?_
  refine W_ret ?_
  exact ret1 4 (.inr rfl) rfl ⟨rfl, hI.pu⟩
end Go.Proofs.YtglioflpblpmpaaGreatDoor
