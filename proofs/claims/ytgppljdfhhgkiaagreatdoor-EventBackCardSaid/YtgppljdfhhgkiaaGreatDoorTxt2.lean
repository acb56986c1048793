/- text: event.Text. -/
import Derived.Test.YtgppljdfhhgkiaaGreatDoorTxt1
namespace Go.Proofs.YtgppljdfhhgkiaaGreatDoor
open Go.RowKit
set_option linter.unusedVariables false
set_option linter.unusedSimpArgs false
def TextPost (r : Option (List UInt8)) (w0 : World) (en : Ending) (w' : World) : Prop := Pure w0 w' ∧ match r with
  | some t => en = .returned (.tuple #[strV t, .nilIface])
  | none => ∃ T v, en = .returned (.tuple #[strV [], .iface T v])
theorem TextPost.no {r : Option (List UInt8)} {w0 w' : World} {T : TypeId} {v : Value} (h : r = none) (hp : Pure w0 w') : TextPost r w0 (.returned (.tuple #[strV [], .iface T v])) w' := by subst h; exact ⟨hp, T, v, rfl⟩
set_option maxHeartbeats 8000000 in
theorem text_any (A : Option Addr) (n c : Nat) (l : List Ev) (D : Nat → Prop) (w0 : World) (h : EvsR w0 D (.slice A n c) l) (hG : TxG w0) : Calls Tryz.prog 4 #[.slice A n c] w0 (TextPost (evT l) w0) := by
  obtain ⟨hn, hc1, hc2⟩ := h.len
  subst hn
  have hI := Inv.start (fun _ => False) w0
  refine calls_of_W (N := Tryz.f4.ntmps) Tryz.func4 rfl rfl rfl ?_
  refine W_seq ?_
  refine W_region ?_
  refine WL_val rfl rfl rfl (by first | exact rAsgnStr rfl rfl | exact rAsgn rfl) ?_
  refine WL_val rfl rfl rfl (by first | exact rAsgnN rfl rfl | exact rAsgnE rfl rfl | exact rAsgn rfl) ?_
  refine WL_nil ?_
  by_cases h120 : l.length ≤ 120
  rotate_left
  · refine W_seq ?_
    refine W_seq ?_
    refine W_region ?_
    refine WL_val rfl rfl rfl (by first | exact rMoveS rfl rfl | exact rMove rfl) ?_
    refine WL_val rfl rfl rfl (rLen rfl Tryz.underlying22 rfl) ?_
    refine WL_val rfl rfl rfl (by first | exact rGtrT rfl rfl rfl (by omega) | exact rGtrF rfl rfl rfl (by omega) | exact rGtr rfl rfl rfl) ?_
    refine WL_nil ?_
    refine W_cond true rfl ?_
    refine W_seq ?_
    refine W_region ?_
    refine WL_val rfl rfl rfl (rIface rfl Tryz.underlying33 rfl rfl) ?_
    refine WL_val rfl rfl rfl (by first | exact rAsgnStr rfl rfl | exact rAsgn rfl) ?_
    refine WL_val rfl rfl rfl (by first | exact rAsgnN rfl rfl | exact rAsgnE rfl rfl | exact rAsgn rfl) ?_
    refine WL_nil ?_
    refine W_ret ?_
    exact ret2 2 3 (.inr rfl) rfl (TextPost.no (by unfold evT; exact if_neg fun h => h120 h.1) hI.pu)
  refine W_seq ?_
  refine W_seq ?_
  refine W_region ?_
  refine WL_val rfl rfl rfl (by first | exact rMoveS rfl rfl | exact rMove rfl) ?_
  refine WL_val rfl rfl rfl (rLen rfl Tryz.underlying22 rfl) ?_
  refine WL_val rfl rfl rfl (by first | exact rGtrT rfl rfl rfl (by omega) | exact rGtrF rfl rfl rfl (by omega) | exact rGtr rfl rfl rfl) ?_
  refine WL_nil ?_
  refine W_cond false rfl ?_
  refine W_skip ?_
  refine W_seq ?_
  refine W_region ?_
  refine WL_alloc (u := .agg #[.pointer none, .slice none 0 0]) (vs := #[.pointer none, .slice none 0 0]) hI rfl rfl rfl rfl (by kernel_rfl) rfl ?_
  clear hI; rintro b4 w - - hI
  refine WL_nil ?_
  have hle : w0.heap.size ≤ b4 := (hI.own _ (List.mem_cons_self ..) b4 rfl).resolve_left id
  have hB0 : IsB w0.heap.size b4 [] w := .of_blk hI.g0 hle
  refine W_seq_cut (fun ρ w => l.all evOkB = true ∧ Has ρ [(4, .pointer (some ⟨b4, 0, none⟩))] ∧ IsB w0.heap.size b4 (textE l) w ∧ Pure w0 w) ?_ ?_
  · refine W_seq ?_
    refine W_region ?_
    refine WL_val rfl rfl rfl (by first | exact rMoveS rfl rfl | exact rMove rfl) ?_
    refine WL_val rfl rfl rfl (rLen rfl Tryz.underlying22 rfl) ?_
    refine WL_val rfl rfl rfl (by first | exact rMoveI rfl rfl | exact rMove rfl) ?_
    refine WL_nil ?_
    refine W_block ?_
    refine W_loopN (fun mu ρ w => ∃ k : Nat, mu = l.length - k ∧ k ≤ l.length ∧ (l.take k).all evOkB = true ∧ Has ρ [(17, .int .i64 (k : Int)), (16, .int .i64 (l.length : Int)), (15, .slice A l.length c), (4, .pointer (some ⟨b4, 0, none⟩))] ∧ IsB w0.heap.size b4 (textE (l.take k)) w ∧ Pure w0 w) l.length
      ⟨0, rfl, by omega, rfl, ⟨rfl, rfl, rfl, rfl, trivial⟩, hB0, hI.pu⟩ ?_
    clear hI hB0 hle
    rintro mu ρ w9 ⟨k, rfl, hk, hok, hH, hB, hp⟩
    obtain ⟨σ, rfl⟩ := hH.open
    have hI := Inv.start (fun _ => False) w9
    by_cases hkl : k < l.length
    rotate_left
    · obtain rfl : k = l.length := by omega
      rw [List.take_length] at hok hB
      refine W_seq ?_
      refine W_region ?_
      refine WL_val rfl rfl rfl (by first | exact rLssT rfl rfl rfl (by omega) | exact rLssF rfl rfl rfl (by omega) | exact rLss rfl rfl rfl) ?_
      refine WL_nil ?_
      refine W_seq ?_
      refine W_cond false rfl ?_
      refine W_exit ?_
      exact ⟨hok, ⟨rfl, trivial⟩, hB, hp⟩
    obtain ⟨bA, oA, rfl, hoc⟩ := (h.pure hp).at hkl
    have hget := evAt_get hkl
    have htk : l.take (k + 1) = l.take k ++ [evAt l k] := by
      have := hget
      rw [List.getElem?_eq_getElem hkl] at this
      injection this with this
      rw [List.take_add_one, List.getElem?_eq_getElem hkl, this]; rfl
    have hG9 := hG.pure hp
    have hno : evOkB (evAt l k) = false → evT l = none := fun hf => by
      unfold evT
      refine if_neg fun h => ?_
      rw [List.all_eq_true.1 h.2 _ (List.mem_of_getElem? hget)] at hf
      cases hf
    have htxl := textE_len (l.take k) (evOk_all hok)
    have hlk : (l.take k).length = k := by rw [List.length_take]; omega
    generalize hpk : evAt l k = pk at hoc hno htk
    obtain ⟨e0, e1, e2, e3, e4, e5, e6⟩ := pk
    refine W_seq ?_
    refine W_region ?_
    refine WL_val rfl rfl rfl (by first | exact rLssT rfl rfl rfl (by omega) | exact rLssF rfl rfl rfl (by omega) | exact rLss rfl rfl rfl) ?_
    refine WL_nil ?_
    refine W_seq ?_
    refine W_cond true rfl ?_
    refine W_skip ?_
    refine W_seq ?_
    refine W_block ?_
    refine W_seq ?_
    refine W_region ?_
    refine WL_val rfl rfl rfl (by first | exact rMoveI rfl rfl | exact rMove rfl) ?_
    refine WL_val rfl rfl rfl (rIdx (sz := 7) rfl Tryz.underlying22 (by kernel_rfl) rfl rfl (by omega)) ?_
    refine WL_val rfl rfl rfl (by first | exact rLdB (n := 7) rfl (by kernel_rfl) (by kernel_rfl) rfl rfl hI.g0 | exact rLdA (n := 7) rfl (by kernel_rfl) (by kernel_rfl) rfl (by rfl) (fun k u hk => hI.oldp (hoc k u hk)) | exact rLdA (n := 7) rfl (by kernel_rfl) (by kernel_rfl) rfl (by rfl) hoc) ?_
    refine WL_alloc (u := .agg #[.int .i64 0, .int .i64 0, .int .i64 0, .int .i64 0, .int .i64 0, .int .i64 0, .int .i64 0]) (vs := #[.int .i64 0, .int .i64 0, .int .i64 0, .int .i64 0, .int .i64 0, .int .i64 0, .int .i64 0]) hI rfl rfl rfl rfl (by kernel_rfl) rfl ?_
    clear hI; rintro b6 w - - hI
    refine WL_val rfl rfl rfl (by first | exact rAsgnI rfl rfl | exact rAsgn rfl) ?_
    first | refine WL_stw0 (u := .agg _) (vs := #[_, _, _, _, _, _, _]) (n := 7) hI rfl rfl rfl rfl rfl rfl (by kernel_rfl) rfl rfl rfl ?_
    clear hI; intro w hI
    refine WL_nil ?_
    simp only [evL] at hI
    refine W_seq_cut (fun ρ w => evOkB ⟨e0, e1, e2, e3, e4, e5, e6⟩ = true ∧ Has ρ [(17, .int .i64 (k : Int)), (16, .int .i64 (l.length : Int)), (15, .slice (some ⟨bA, oA, none⟩) l.length c), (4, .pointer (some ⟨b4, 0, none⟩)), (6, .pointer (some ⟨b6, 0, none⟩))] ∧ Inv (fun _ => False) w9 w [B b6 31 #[.int .i64 e0, .int .i64 e1, .int .i64 e2, .int .i64 e3, .int .i64 e4, .int .i64 e5, .int .i64 e6]]) ?_ ?_
    · refine W_seq_cut (fun ρ w => ∃ v7, Has ρ [(7, v7), (17, .int .i64 (k : Int)), (16, .int .i64 (l.length : Int)), (15, .slice (some ⟨bA, oA, none⟩) l.length c), (4, .pointer (some ⟨b4, 0, none⟩)), (6, .pointer (some ⟨b6, 0, none⟩)), (5, .int .i64 (k : Int))] ∧ Inv (fun _ => False) w9 w [B b6 31 #[.int .i64 e0, .int .i64 e1, .int .i64 e2, .int .i64 e3, .int .i64 e4, .int .i64 e5, .int .i64 e6]] ∧ ((evOkB ⟨e0, e1, e2, e3, e4, e5, e6⟩ = true ∧ v7 = .nilIface) ∨ (evOkB ⟨e0, e1, e2, e3, e4, e5, e6⟩ = false ∧ ∃ z : Int, v7 = .iface 33 (.int .i64 z)))) ?_ ?_
      · refine W_region ?_
        refine WL_val rfl rfl rfl (by first | exact rLdB (n := 7) rfl (by kernel_rfl) (by kernel_rfl) rfl rfl hI.g0 | exact rLdB (n := 7) rfl (by kernel_rfl) (by kernel_rfl) rfl rfl hI.g1 | exact rLdB (n := 7) rfl (by kernel_rfl) (by kernel_rfl) rfl rfl hI.g2 | exact rLdB (n := 7) rfl (by kernel_rfl) (by kernel_rfl) rfl rfl hI.g3 | exact rLdB (n := 7) rfl (by kernel_rfl) (by kernel_rfl) rfl rfl hI.g4 | exact rLdB (n := 7) rfl (by kernel_rfl) (by kernel_rfl) rfl rfl hI.g5) ?_
        refine WL_call rfl rfl rfl (rCall (vs := [.agg _]) rfl Tryz.func7 rfl rfl rfl) ?_
        refine (check_any ⟨e0, e1, e2, e3, e4, e5, e6⟩ _).mono ?_
        rintro e w1 ⟨hp1, hr⟩
        obtain ⟨v7, rfl⟩ : ∃ v, e = .returned v := by rcases hr with ⟨_, rfl⟩ | ⟨_, x, _, rfl⟩ <;> exact ⟨_, rfl⟩
        refine ⟨_, rfl, ?_⟩
        replace hI := hI.pure hp1
        refine WL_val rfl rfl rfl (by first | exact rAsgnN rfl rfl | exact rAsgnE rfl rfl | exact rAsgn rfl) ?_
        refine WL_nil ?_
        refine ⟨v7, ⟨rfl, rfl, rfl, rfl, rfl, rfl, rfl, trivial⟩, hI, ?_⟩
        rcases hr with ⟨q1, q2⟩ | ⟨q1, x, ⟨z, rfl⟩, q2⟩
        · injection q2 with q2; exact .inl ⟨q1, q2⟩
        · injection q2 with q2; exact .inr ⟨q1, z, q2⟩
      clear hI
      rintro ρ w ⟨v7, hH, hI, hv⟩
      obtain ⟨σ, rfl⟩ := hH.open
      rcases hv with ⟨hv, rfl⟩ | ⟨hv, z, rfl⟩
      · refine W_seq ?_
        refine W_region ?_
        refine WL_val rfl rfl rfl (by first | exact rMoveN rfl rfl | exact rMoveE rfl rfl | exact rMove rfl) ?_
        refine WL_val rfl rfl rfl (by first | exact rIfaceNe rfl Tryz.underlying24 rfl rfl | exact rNilNe rfl Tryz.underlying24 rfl) ?_
        refine WL_nil ?_
        refine W_cond false rfl ?_
        refine W_skip ?_
        exact ⟨hv, ⟨rfl, rfl, rfl, rfl, rfl, trivial⟩, hI⟩
      · refine W_seq ?_
        refine W_region ?_
        refine WL_val rfl rfl rfl (by first | exact rMoveN rfl rfl | exact rMoveE rfl rfl | exact rMove rfl) ?_
        refine WL_val rfl rfl rfl (by first | exact rIfaceNe rfl Tryz.underlying24 rfl rfl | exact rNilNe rfl Tryz.underlying24 rfl) ?_
        refine WL_nil ?_
        refine W_cond true rfl ?_
        refine W_seq ?_
        refine W_region ?_
        refine WL_val rfl rfl rfl (by first | exact rMoveN rfl rfl | exact rMoveE rfl rfl | exact rMove rfl) ?_
        refine WL_val rfl rfl rfl (by first | exact rMoveI rfl rfl | exact rMove rfl) ?_
        refine WL_call rfl rfl rfl (rCall (vs := [_, .int .i64 _]) rfl Tryz.func8 rfl rfl rfl) ?_
        refine (at_any z k _ (hG9.pure hI.pu).err).mono ?_
        rintro e w1 ⟨⟨b, rfl⟩, hp1⟩
        refine ⟨_, rfl, ?_⟩
        replace hI := hI.pure hp1
        refine WL_val rfl rfl rfl (by first | exact rAsgnStr rfl rfl | exact rAsgn rfl) ?_
        refine WL_val rfl rfl rfl (by first | exact rAsgnN rfl rfl | exact rAsgnE rfl rfl | exact rAsgn rfl) ?_
        refine WL_nil ?_
        refine W_ret ?_
        exact ret2 2 3 (.inr rfl) rfl (TextPost.no (hno hv) (Pure.trans hp hI.pu))
    clear hI
    rintro ρ w ⟨hev, hH, hI⟩
    obtain ⟨σ, rfl⟩ := hH.open
    have he := EvOk.of hev
    obtain ⟨⟨p1, p2⟩, ⟨k1, k2⟩, ⟨t1, t2⟩, ⟨d1, d2⟩, ⟨a1, a2⟩, ⟨b1, b2⟩, ⟨r1, r2⟩⟩ := id he
    dsimp only at p1 p2 k1 k2 t1 t2 d1 d2 a1 a2 b1 b2 r1 r2
    obtain ⟨t, rfl⟩ : ∃ t : Nat, e1 = (t : Int) + 1 := ⟨(e1 - 1).toNat, by omega⟩
    obtain ⟨d, rfl⟩ : ∃ d : Nat, e3 = (d : Int) + 1 := ⟨(e3 - 1).toNat, by omega⟩
    generalize hpk2 : (⟨e0, (t : Int) + 1, e2, (d : Int) + 1, e4, e5, e6⟩ : Ev) = pk at he htk hev
    have hty : (typeWs.map strV).toArray[t]? = some (strV (tyW pk)) := by
      have h1 := he.tyAt
      subst hpk2
      rw [show (((t : Int) + 1) - 1).toNat = t by omega] at h1
      rw [List.getElem?_toArray, List.getElem?_map, h1]; rfl
    have hkd : (kindWs.map strV).toArray[d]? = some (strV (kdW pk)) := by
      have h1 := he.kdAt
      subst hpk2
      rw [show (((d : Int) + 1) - 1).toNat = d by omega] at h1
      rw [List.getElem?_toArray, List.getElem?_map, h1]; rfl
    refine W_seq_cut (fun ρ w => ∃ g, Has ρ [(8, .slice (some ⟨g, 0, none⟩) 3 3), (17, .int .i64 (k : Int)), (16, .int .i64 (l.length : Int)), (15, .slice (some ⟨bA, oA, none⟩) l.length c), (4, .pointer (some ⟨b4, 0, none⟩)), (6, .pointer (some ⟨b6, 0, none⟩))] ∧ Inv (fun _ => False) w9 w [B g 9 #[strV (Lib.itoa e0), strV (tyW pk), strV (kdW pk)], B b6 31 #[.int .i64 e0, .int .i64 ((t : Int) + 1), .int .i64 e2, .int .i64 ((d : Int) + 1), .int .i64 e4, .int .i64 e5, .int .i64 e6]]) ?_ ?_
    · refine W_draw (by kernel_rfl) ?_
      refine WA_inv (T := []) hI.drew ?_
      intro Sx hSx hXS
      replace hI := hI.drew
      refine WT_take 0 rfl rfl (by kernel_rfl) (hXS _ hI) rfl (fun W hW => have hI := hSx W hW; (by first | exact rFldN (off := 0) rfl (by kernel_rfl) rfl | exact rFld0 rfl (by kernel_rfl) rfl)) ?_
      refine WT_take 1 rfl rfl (by kernel_rfl) (hXS _ hI) rfl (fun W hW => have hI := hSx W hW; (by first | exact rLd (v := .int .i64 _) rfl (by kernel_rfl) rfl (by first | exact hI.c0 rfl | exact hI.c1 rfl | exact hI.c2 rfl | exact (at_mul (hI.c0 hty)) | exact (at_mul (hI.c1 hty)) | exact (at_mul (hI.c0 hkd)) | exact (at_mul (hI.c1 hkd))) | exact rLd rfl (by kernel_rfl) rfl (by first | exact hI.c0 rfl | exact hI.c1 rfl | exact hI.c2 rfl | exact (at_mul (hI.c0 hty)) | exact (at_mul (hI.c1 hty)) | exact (at_mul (hI.c0 hkd)) | exact (at_mul (hI.c1 hkd))))) ?_
      refine WT_take 4 rfl rfl (by kernel_rfl) (hXS _ hI) rfl (fun W hW => have hI := hSx W hW; (by first | exact rFldN (off := 1) rfl (by kernel_rfl) rfl | exact rFld (off := 1) rfl (by kernel_rfl) rfl)) ?_
      refine WT_take 5 rfl rfl (by kernel_rfl) (hXS _ hI) rfl (fun W hW => have hI := hSx W hW; (by first | exact rLd (v := .int .i64 _) rfl (by kernel_rfl) rfl (by first | exact hI.c0 rfl | exact hI.c1 rfl | exact hI.c2 rfl | exact (at_mul (hI.c0 hty)) | exact (at_mul (hI.c1 hty)) | exact (at_mul (hI.c0 hkd)) | exact (at_mul (hI.c1 hkd))) | exact rLd rfl (by kernel_rfl) rfl (by first | exact hI.c0 rfl | exact hI.c1 rfl | exact hI.c2 rfl | exact (at_mul (hI.c0 hty)) | exact (at_mul (hI.c1 hty)) | exact (at_mul (hI.c0 hkd)) | exact (at_mul (hI.c1 hkd))))) ?_
      refine WT_take 6 rfl rfl (by kernel_rfl) (hXS _ hI) rfl (fun W hW => have hI := hSx W hW; (by first | exact rSub rfl rfl rfl (by omega) | exact rSubW rfl rfl rfl)) ?_
      refine WT_take 10 rfl rfl (by kernel_rfl) (hXS _ hI) rfl (fun W hW => have hI := hSx W hW; (by first | exact rFldN (off := 3) rfl (by kernel_rfl) rfl | exact rFld (off := 3) rfl (by kernel_rfl) rfl)) ?_
      refine WT_take 11 rfl rfl (by kernel_rfl) (hXS _ hI) rfl (fun W hW => have hI := hSx W hW; (by first | exact rLd (v := .int .i64 _) rfl (by kernel_rfl) rfl (by first | exact hI.c0 rfl | exact hI.c1 rfl | exact hI.c2 rfl | exact (at_mul (hI.c0 hty)) | exact (at_mul (hI.c1 hty)) | exact (at_mul (hI.c0 hkd)) | exact (at_mul (hI.c1 hkd))) | exact rLd rfl (by kernel_rfl) rfl (by first | exact hI.c0 rfl | exact hI.c1 rfl | exact hI.c2 rfl | exact (at_mul (hI.c0 hty)) | exact (at_mul (hI.c1 hty)) | exact (at_mul (hI.c0 hkd)) | exact (at_mul (hI.c1 hkd))))) ?_
      refine WT_take 12 rfl rfl (by kernel_rfl) (hXS _ hI) rfl (fun W hW => have hI := hSx W hW; (by first | exact rSub rfl rfl rfl (by omega) | exact rSubW rfl rfl rfl)) ?_
      refine WT_one 2 rfl (by kernel_rfl) rfl ?_
      refine WL_call rfl rfl rfl (rCall (vs := [.int .i64 _]) rfl Tryz.func9 rfl rfl rfl) ?_
      refine (itoa_any e0 (by omega) (by omega) _ (hG9.pure hI.pu).num).mono ?_
      rintro e w1 ⟨rfl, hp1⟩
      refine ⟨_, rfl, ?_⟩
      replace hI := hI.pure hp1
      refine WL_nil ⟨hXS _ hI, ?_⟩
      refine WT_one 3 rfl (by kernel_rfl) rfl ?_
      refine WL_call rfl rfl rfl (rCall (vs := [.string _]) rfl Tryz.func10 rfl rfl rfl) ?_
      refine (fields_any typeS typeWs fields_typeS (by decide) typeS_ascii _ (hG9.pure hI.pu)).mono ?_
      rintro e w1 ⟨g1, rfl, hT⟩
      refine ⟨_, rfl, ?_⟩
      replace hI := hI.app1 hT
      refine WL_nil ⟨hXS _ hI.d0, ?_⟩
      refine WT_take 7 rfl rfl (by kernel_rfl) (hXS _ hI.d0) rfl (fun W hW => have hI := hSx W hW; (rIdx (sz := 1) (i := t) rfl Tryz.underlying41 (by kernel_rfl) rfl (congrArg (Value.int .i64) (by omega)) (by show _ < 4; omega))) ?_
      refine WT_two 8 9 rfl rfl (by kernel_rfl) rfl rfl ?_ ?_
      · refine WL_val rfl rfl rfl (by first | exact rLd (v := .string _) rfl (by kernel_rfl) rfl (by first | exact hI.c0 rfl | exact hI.c1 rfl | exact hI.c2 rfl | exact (at_mul (hI.c0 hty)) | exact (at_mul (hI.c1 hty)) | exact (at_mul (hI.c0 hkd)) | exact (at_mul (hI.c1 hkd))) | exact rLd rfl (by kernel_rfl) rfl (by first | exact hI.c0 rfl | exact hI.c1 rfl | exact hI.c2 rfl | exact (at_mul (hI.c0 hty)) | exact (at_mul (hI.c1 hty)) | exact (at_mul (hI.c0 hkd)) | exact (at_mul (hI.c1 hkd)))) ?_
        refine WL_nil ⟨hXS _ hI.d0, ?_⟩
        refine WT_one 9 rfl (by kernel_rfl) rfl ?_
        refine WL_call rfl rfl rfl (rCall (vs := [.string _]) rfl Tryz.func10 rfl rfl rfl) ?_
        refine (fields_any kindS kindWs fields_kindS (by decide) kindS_ascii _ (hG9.pure hI.pu)).mono ?_
        rintro e w1 ⟨g2, rfl, hT⟩
        refine ⟨_, rfl, ?_⟩
        replace hI := hI.app1 hT
        refine WL_nil ⟨hXS _ hI.d0.d0, ?_⟩
        refine WT_take 13 rfl rfl (by kernel_rfl) (hXS _ hI.d0.d0) rfl (fun W hW => have hI := hSx W hW; (rIdx (sz := 1) (i := d) rfl Tryz.underlying41 (by kernel_rfl) rfl (congrArg (Value.int .i64) (by omega)) (by show _ < 12; omega))) ?_
        refine WT_one 14 rfl (by kernel_rfl) rfl ?_
        refine WL_val rfl rfl rfl (by first | exact rLd (v := .string _) rfl (by kernel_rfl) rfl (by first | exact hI.c0 rfl | exact hI.c1 rfl | exact hI.c2 rfl | exact (at_mul (hI.c0 hty)) | exact (at_mul (hI.c1 hty)) | exact (at_mul (hI.c0 hkd)) | exact (at_mul (hI.c1 hkd))) | exact rLd rfl (by kernel_rfl) rfl (by first | exact hI.c0 rfl | exact hI.c1 rfl | exact hI.c2 rfl | exact (at_mul (hI.c0 hty)) | exact (at_mul (hI.c1 hty)) | exact (at_mul (hI.c0 hkd)) | exact (at_mul (hI.c1 hkd)))) ?_
        refine WL_nil ⟨hXS _ hI.d0.d0, ?_⟩
        refine WT_one 15 rfl (by kernel_rfl) rfl ?_
        refine WL_lit (vs := [_, _, _]) (qs := [(0, .string _), (1, .string _), (2, .string _)]) [.string ⟨#[]⟩, .string ⟨#[]⟩, .string ⟨#[]⟩] [0, 1, 2] hI rfl rfl rfl rfl rfl rfl Tryz.underlying41 (fun _ => by kernel_rfl) ?_
        clear hI; rintro b44 w - - hI
        refine WL_nil ⟨hXS _ hI.d0.d0.d0, ?_⟩
        refine WT_take 16 rfl rfl (by kernel_rfl) (hXS _ hI.d0.d0.d0) rfl (fun W hW => have hI := hSx W hW; (by first | exact rAsgnS rfl rfl | exact rAsgn rfl)) ?_
        refine WT_end (by kernel_rfl) ?_
        exact ⟨_, ⟨rfl, rfl, rfl, rfl, rfl, rfl, trivial⟩, hI.d1.d1⟩
      · refine WL_call rfl rfl rfl (rCall (vs := [.string _]) rfl Tryz.func10 rfl rfl rfl) ?_
        refine (fields_any kindS kindWs fields_kindS (by decide) kindS_ascii _ (hG9.pure hI.pu)).mono ?_
        rintro e w1 ⟨g2, rfl, hT⟩
        refine ⟨_, rfl, ?_⟩
        replace hI := hI.app1 hT
        refine WL_nil ⟨hXS _ hI.d0.d0, ?_⟩
        refine WT_take 13 rfl rfl (by kernel_rfl) (hXS _ hI.d0.d0) rfl (fun W hW => have hI := hSx W hW; (rIdx (sz := 1) (i := d) rfl Tryz.underlying41 (by kernel_rfl) rfl (congrArg (Value.int .i64) (by omega)) (by show _ < 12; omega))) ?_
        refine WT_two 8 14 rfl rfl (by kernel_rfl) rfl rfl ?_ ?_
        · refine WL_val rfl rfl rfl (by first | exact rLd (v := .string _) rfl (by kernel_rfl) rfl (by first | exact hI.c0 rfl | exact hI.c1 rfl | exact hI.c2 rfl | exact (at_mul (hI.c0 hty)) | exact (at_mul (hI.c1 hty)) | exact (at_mul (hI.c0 hkd)) | exact (at_mul (hI.c1 hkd))) | exact rLd rfl (by kernel_rfl) rfl (by first | exact hI.c0 rfl | exact hI.c1 rfl | exact hI.c2 rfl | exact (at_mul (hI.c0 hty)) | exact (at_mul (hI.c1 hty)) | exact (at_mul (hI.c0 hkd)) | exact (at_mul (hI.c1 hkd)))) ?_
          refine WL_nil ⟨hXS _ hI.d0.d0, ?_⟩
          refine WT_one 14 rfl (by kernel_rfl) rfl ?_
          refine WL_val rfl rfl rfl (by first | exact rLd (v := .string _) rfl (by kernel_rfl) rfl (by first | exact hI.c0 rfl | exact hI.c1 rfl | exact hI.c2 rfl | exact (at_mul (hI.c0 hty)) | exact (at_mul (hI.c1 hty)) | exact (at_mul (hI.c0 hkd)) | exact (at_mul (hI.c1 hkd))) | exact rLd rfl (by kernel_rfl) rfl (by first | exact hI.c0 rfl | exact hI.c1 rfl | exact hI.c2 rfl | exact (at_mul (hI.c0 hty)) | exact (at_mul (hI.c1 hty)) | exact (at_mul (hI.c0 hkd)) | exact (at_mul (hI.c1 hkd)))) ?_
          refine WL_nil ⟨hXS _ hI.d0.d0, ?_⟩
          refine WT_one 15 rfl (by kernel_rfl) rfl ?_
          refine WL_lit (vs := [_, _, _]) (qs := [(0, .string _), (1, .string _), (2, .string _)]) [.string ⟨#[]⟩, .string ⟨#[]⟩, .string ⟨#[]⟩] [0, 1, 2] hI rfl rfl rfl rfl rfl rfl Tryz.underlying41 (fun _ => by kernel_rfl) ?_
          clear hI; rintro b44 w - - hI
          refine WL_nil ⟨hXS _ hI.d0.d0.d0, ?_⟩
          refine WT_take 16 rfl rfl (by kernel_rfl) (hXS _ hI.d0.d0.d0) rfl (fun W hW => have hI := hSx W hW; (by first | exact rAsgnS rfl rfl | exact rAsgn rfl)) ?_
          refine WT_end (by kernel_rfl) ?_
          exact ⟨_, ⟨rfl, rfl, rfl, rfl, rfl, rfl, trivial⟩, hI.d1.d1⟩
        · refine WL_val rfl rfl rfl (by first | exact rLd (v := .string _) rfl (by kernel_rfl) rfl (by first | exact hI.c0 rfl | exact hI.c1 rfl | exact hI.c2 rfl | exact (at_mul (hI.c0 hty)) | exact (at_mul (hI.c1 hty)) | exact (at_mul (hI.c0 hkd)) | exact (at_mul (hI.c1 hkd))) | exact rLd rfl (by kernel_rfl) rfl (by first | exact hI.c0 rfl | exact hI.c1 rfl | exact hI.c2 rfl | exact (at_mul (hI.c0 hty)) | exact (at_mul (hI.c1 hty)) | exact (at_mul (hI.c0 hkd)) | exact (at_mul (hI.c1 hkd)))) ?_
          refine WL_nil ⟨hXS _ hI.d0.d0, ?_⟩
          refine WT_one 8 rfl (by kernel_rfl) rfl ?_
          refine WL_val rfl rfl rfl (by first | exact rLd (v := .string _) rfl (by kernel_rfl) rfl (by first | exact hI.c0 rfl | exact hI.c1 rfl | exact hI.c2 rfl | exact (at_mul (hI.c0 hty)) | exact (at_mul (hI.c1 hty)) | exact (at_mul (hI.c0 hkd)) | exact (at_mul (hI.c1 hkd))) | exact rLd rfl (by kernel_rfl) rfl (by first | exact hI.c0 rfl | exact hI.c1 rfl | exact hI.c2 rfl | exact (at_mul (hI.c0 hty)) | exact (at_mul (hI.c1 hty)) | exact (at_mul (hI.c0 hkd)) | exact (at_mul (hI.c1 hkd)))) ?_
          refine WL_nil ⟨hXS _ hI.d0.d0, ?_⟩
          refine WT_one 15 rfl (by kernel_rfl) rfl ?_
          refine WL_lit (vs := [_, _, _]) (qs := [(0, .string _), (1, .string _), (2, .string _)]) [.string ⟨#[]⟩, .string ⟨#[]⟩, .string ⟨#[]⟩] [0, 1, 2] hI rfl rfl rfl rfl rfl rfl Tryz.underlying41 (fun _ => by kernel_rfl) ?_
          clear hI; rintro b44 w - - hI
          refine WL_nil ⟨hXS _ hI.d0.d0.d0, ?_⟩
          refine WT_take 16 rfl rfl (by kernel_rfl) (hXS _ hI.d0.d0.d0) rfl (fun W hW => have hI := hSx W hW; (by first | exact rAsgnS rfl rfl | exact rAsgn rfl)) ?_
          refine WT_end (by kernel_rfl) ?_
          exact ⟨_, ⟨rfl, rfl, rfl, rfl, rfl, rfl, trivial⟩, hI.d1.d1⟩
    clear hI
    rintro ρ w ⟨g, hH, hI⟩
    obtain ⟨σ, rfl⟩ := hH.open
    have hw7 : (wordsE pk).length = 7 := rfl
    replace hI := inv_rowOf hI 3 rfl (by omega)
    have hw3 : #[strV (Lib.itoa e0), strV (tyW pk), strV (kdW pk)].toList = ((wordsE pk).take (3 + 0)).map strV := by subst hpk2; rfl
    rw [hw3] at hI
    refine W_seq_cut (fun ρ w => ∃ A' c', Has ρ [(8, .slice A' 7 c'), (17, .int .i64 (k : Int)), (16, .int .i64 (l.length : Int)), (15, .slice (some ⟨bA, oA, none⟩) l.length c), (4, .pointer (some ⟨b4, 0, none⟩))] ∧ Inv (fun _ => False) w9 w [Row 0 9 1 A' 7 c' ((wordsE pk).map strV)]) ?_ ?_
    · refine W_seq ?_
      refine W_region ?_
      refine WL_val rfl rfl rfl (by first | exact rFldN (off := 2) rfl (by kernel_rfl) rfl | exact rFld (off := 2) rfl (by kernel_rfl) rfl) ?_
      refine WL_val rfl rfl rfl (by first | exact rLd (v := .int .i64 _) rfl (by kernel_rfl) rfl (by first | exact hI.c0 rfl | exact hI.c1 rfl) | exact rLd rfl (by kernel_rfl) rfl (by first | exact hI.c0 rfl | exact hI.c1 rfl)) ?_
      refine WL_val rfl rfl rfl (by first | exact rFldN (off := 4) rfl (by kernel_rfl) rfl | exact rFld (off := 4) rfl (by kernel_rfl) rfl) ?_
      refine WL_val rfl rfl rfl (by first | exact rLd (v := .int .i64 _) rfl (by kernel_rfl) rfl (by first | exact hI.c0 rfl | exact hI.c1 rfl) | exact rLd rfl (by kernel_rfl) rfl (by first | exact hI.c0 rfl | exact hI.c1 rfl)) ?_
      refine WL_val rfl rfl rfl (by first | exact rFldN (off := 5) rfl (by kernel_rfl) rfl | exact rFld (off := 5) rfl (by kernel_rfl) rfl) ?_
      refine WL_val rfl rfl rfl (by first | exact rLd (v := .int .i64 _) rfl (by kernel_rfl) rfl (by first | exact hI.c0 rfl | exact hI.c1 rfl) | exact rLd rfl (by kernel_rfl) rfl (by first | exact hI.c0 rfl | exact hI.c1 rfl)) ?_
      refine WL_val rfl rfl rfl (by first | exact rFldN (off := 6) rfl (by kernel_rfl) rfl | exact rFld (off := 6) rfl (by kernel_rfl) rfl) ?_
      refine WL_val rfl rfl rfl (by first | exact rLd (v := .int .i64 _) rfl (by kernel_rfl) rfl (by first | exact hI.c0 rfl | exact hI.c1 rfl) | exact rLd rfl (by kernel_rfl) rfl (by first | exact hI.c0 rfl | exact hI.c1 rfl)) ?_
      refine WL_lit (vs := [_, _, _, _]) (qs := [(0, .int .i64 _), (1, .int .i64 _), (2, .int .i64 _), (3, .int .i64 _)]) [.int .i64 0, .int .i64 0, .int .i64 0, .int .i64 0] [0, 1, 2, 3] hI rfl rfl rfl rfl rfl rfl Tryz.underlying43 (fun _ => by kernel_rfl) ?_
      clear hI; rintro b53 w - - hI
      refine WL_val rfl rfl rfl (rLen rfl Tryz.underlying43 rfl) ?_
      refine WL_val rfl rfl rfl (by first | exact rMoveI rfl rfl | exact rMove rfl) ?_
      refine WL_nil ?_
      refine W_block ?_
      refine W_loopN (fun mu ρ w => ∃ (j : Nat) (A' : Option Addr) (c' : Nat), mu = 4 - j ∧ j ≤ 4 ∧ Has ρ [(55, .int .i64 (j : Int)), (54, .int .i64 4), (53, .slice (some ⟨b53, 0, none⟩) 4 4), (8, .slice A' (3 + j) c'), (17, .int .i64 (k : Int)), (16, .int .i64 (l.length : Int)), (15, .slice (some ⟨bA, oA, none⟩) l.length c), (4, .pointer (some ⟨b4, 0, none⟩))] ∧ Inv (fun _ => False) w9 w [B b53 3 #[.int .i64 e2, .int .i64 e4, .int .i64 e5, .int .i64 e6], Row 0 9 1 A' (3 + j) c' (((wordsE pk).take (3 + j)).map strV)]) 4
        ⟨0, _, _, rfl, by omega, ⟨rfl, rfl, rfl, rfl, rfl, rfl, rfl, rfl, trivial⟩, hI.d2⟩ ?_
      clear hI
      rintro mu ρ w ⟨j, A', c', rfl, hj, hH, hI⟩
      obtain ⟨σ, rfl⟩ := hH.open
      by_cases hj4 : j < 4
      rotate_left
      · obtain rfl : j = 4 := by omega
        refine W_seq ?_
        refine W_region ?_
        refine WL_val rfl rfl rfl (by first | exact rLssT rfl rfl rfl (by omega) | exact rLssF rfl rfl rfl (by omega) | exact rLss rfl rfl rfl) ?_
        refine WL_nil ?_
        refine W_seq ?_
        refine W_cond false rfl ?_
        refine W_exit ?_
        exact ⟨A', c', ⟨rfl, rfl, rfl, rfl, rfl, trivial⟩, hI.d0⟩
      obtain ⟨z, hz, hzw, hz1, hz2⟩ : ∃ z : Int, (#[.int .i64 e2, .int .i64 e4, .int .i64 e5, .int .i64 e6] : Array Value)[j]? = some (.int .i64 z) ∧ (wordsE pk)[3 + j]? = some (Lib.itoa z) ∧ -1000000 ≤ z ∧ z ≤ 1000000 := by
        subst hpk2
        match j, hj4 with
        | 0, _ => exact ⟨e2, rfl, rfl, by omega, by omega⟩
        | 1, _ => exact ⟨e4, rfl, rfl, a1, a2⟩
        | 2, _ => exact ⟨e5, rfl, rfl, b1, b2⟩
        | 3, _ => exact ⟨e6, rfl, rfl, r1, r2⟩
      have hnext : ((wordsE pk).take (3 + (j + 1))).map strV = ((wordsE pk).take (3 + j)).map strV ++ [strV (Lib.itoa z)] := by
        rw [show 3 + (j + 1) = (3 + j) + 1 by omega, List.take_add_one, hzw, List.map_append]; rfl
      refine W_seq ?_
      refine W_region ?_
      refine WL_val rfl rfl rfl (by first | exact rLssT rfl rfl rfl (by omega) | exact rLssF rfl rfl rfl (by omega) | exact rLss rfl rfl rfl) ?_
      refine WL_nil ?_
      refine W_seq ?_
      refine W_cond true rfl ?_
      refine W_skip ?_
      refine W_seq ?_
      refine W_block ?_
      refine W_seq ?_
      refine W_region ?_
      refine WL_val rfl rfl rfl (by first | exact rIdx0 rfl Tryz.underlying43 (by kernel_rfl) rfl rfl rfl (by omega) | exact rIdx1 rfl Tryz.underlying43 (by kernel_rfl) rfl rfl (by omega)) ?_
      refine WL_val rfl rfl rfl (by first | exact rLd (v := .int .i64 _) rfl (by kernel_rfl) rfl (by first | exact hI.c0 rfl | exact (hI.c0 hz)) | exact rLd rfl (by kernel_rfl) rfl (by first | exact hI.c0 rfl | exact (hI.c0 hz))) ?_
      refine WL_val rfl rfl rfl (by first | exact rAsgnI rfl rfl | exact rAsgn rfl) ?_
      refine WL_nil ?_
      refine W_region ?_
      refine WL_val rfl rfl rfl (by first | exact rMoveS rfl rfl | exact rMove rfl) ?_
      refine WL_val rfl rfl rfl (by first | exact rMoveI rfl rfl | exact rMove rfl) ?_
      refine WL_call rfl rfl rfl (rCall (vs := [.int .i64 _]) rfl Tryz.func9 rfl rfl rfl) ?_
      refine (itoa_any z (by omega) (by omega) _ (hG9.pure hI.pu).num).mono ?_
      rintro e w1 ⟨rfl, hp1⟩
      refine ⟨_, rfl, ?_⟩
      replace hI := hI.pure hp1
      refine WL_lit (vs := [_]) (qs := [(0, .string _)]) [.string ⟨#[]⟩] [0] hI rfl rfl rfl rfl rfl rfl Tryz.underlying41 (fun _ => by kernel_rfl) ?_
      clear hI; rintro b62 w - - hI
      first | refine WL_app2 (z := .string ⟨#[]⟩) (by_ := 16) hI rfl rfl rfl rfl rfl rfl Tryz.underlying41 (by kernel_rfl) rfl (by omega) (by rfl) hI.lit0 (by first | rfl | simp [i64s, Value.oneCell']) (by omega) (by omega) (by first | exact Nat.zero_le _ | (have := hI.chg.size; omega)) ?_
      clear hI; rintro A63 c63 w hA63 hc63 hI
      replace hI := hI.d0
      refine WL_val rfl rfl rfl (by first | exact rAsgnS rfl rfl | exact rAsgn rfl) ?_
      refine WL_nil ?_
      refine W_region ?_
      refine WL_val rfl rfl rfl (by first | exact rInc rfl rfl rfl (by omega) | exact rAdd rfl rfl rfl (by omega) | exact rAddW rfl rfl rfl) ?_
      refine WL_val rfl rfl rfl (by first | exact rMoveI rfl rfl | exact rMove rfl) ?_
      refine WL_nil ?_
      refine ⟨4 - (j + 1), by omega, j + 1, A63, c63, rfl, by omega, ⟨rfl, rfl, rfl, rfl, rfl, rfl, rfl, rfl, trivial⟩, ?_⟩
      rw [hnext]
      exact hI
    clear hI
    rintro ρ w ⟨A', c', hH, hI⟩
    obtain ⟨σ, rfl⟩ := hH.open
    obtain ⟨g7, o7, rfl⟩ := row_addrS hI.g0 (by omega) (by omega)
    have hcells := fun (i : Nat) (x : List UInt8) (hx : (wordsE pk)[i]? = some x) => row_cellS hI.g0 (i := i) (u := strV x) (by rw [List.getElem?_map, hx]; rfl) (by omega)
    obtain ⟨hg7c, _⟩ : 7 ≤ c' ∧ True := ⟨(row_openB hI.g0 (by omega)).choose_spec.choose_spec.2.2.2.1, trivial⟩
    have hlin := lineE_len he
    have hg7l : g7 < w.heap.size := World.block_lt_of_cell? w _ (hcells 0 _ rfl)
    refine W_region ?_
    refine WL_val rfl rfl rfl (by first | exact rMoveS rfl rfl | exact rMove rfl) ?_
    refine WL_call rfl rfl rfl (rCall (vs := [.slice _ _ _, .string _]) rfl Tryz.func12 rfl rfl rfl) ?_
    refine (join_any g7 o7 c' (wordsE pk) _ hcells hg7l (by omega) (by omega) (by show (lineE pk).length ≤ _; omega)).mono ?_
    rintro e w1 ⟨rfl, hp1⟩
    refine ⟨_, rfl, ?_⟩
    replace hI := hI.pure hp1
    refine WL_val rfl rfl rfl (rStrAdd rfl rfl rfl (by show (lineE pk).length + 1 ≤ _; omega)) ?_
    refine WL_call rfl rfl rfl (rCall (vs := [.pointer _, .string _]) rfl Tryz.func11 rfl rfl rfl) ?_
    refine (wrs_any w0.heap.size b4 _ (lineE pk ++ [10]) _ (hB.pure hI.pu) (by rw [List.length_append]; show _ + ((lineE pk).length + 1) ≤ _; omega) (Pure.trans hp hI.pu).size).mono ?_
    rintro e w1 ⟨⟨v, rfl⟩, hB1, hb1⟩
    refine ⟨_, rfl, ?_⟩
    replace hp := Below.trans (Pure.trans hp hI.pu) hb1
    replace hI := Inv.start (fun _ => False) w1
    refine WL_nil ?_
    refine W_region ?_
    refine WL_val rfl rfl rfl (by first | exact rInc rfl rfl rfl (by omega) | exact rAdd rfl rfl rfl (by omega) | exact rAddW rfl rfl rfl) ?_
    refine WL_val rfl rfl rfl (by first | exact rMoveI rfl rfl | exact rMove rfl) ?_
    refine WL_nil ?_
    exact ⟨l.length - (k + 1), by omega, k + 1, rfl, by omega, by rw [htk, List.all_append, hok]; simpa using hev, ⟨rfl, rfl, rfl, rfl, trivial⟩, by rw [htk, textE_snoc]; exact hB1, hp⟩
  clear hI hB0
  rintro ρ w ⟨hall, hH, hB, hp⟩
  obtain ⟨σ, rfl⟩ := hH.open
  have hI := Inv.start (fun _ => False) w
  refine W_seq ?_
  refine W_region ?_
  refine WL_call rfl rfl rfl (rCall (vs := [.pointer _]) rfl Tryz.func13 rfl rfl rfl) ?_
  refine (bstr_any w0.heap.size b4 _ _ hB hp.size).mono ?_
  rintro e w1 ⟨rfl, hb1⟩
  refine ⟨_, rfl, ?_⟩
  replace hp := Below.trans hp hb1
  refine WL_val rfl rfl rfl (by first | exact rAsgnStr rfl rfl | exact rAsgn rfl) ?_
  refine WL_val rfl rfl rfl (by first | exact rAsgnN rfl rfl | exact rAsgnE rfl rfl | exact rAsgn rfl) ?_
  refine WL_nil ?_
  refine W_ret ?_
  refine ret2 2 3 (.inr rfl) rfl ?_
  unfold TextPost evT
  rw [if_pos ⟨h120, hall⟩]
  exact ⟨hp, rfl⟩
end Go.Proofs.YtgppljdfhhgkiaaGreatDoor
