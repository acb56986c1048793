/- Part of the proof that a desk answers in pieces. -/
import Derived.Test.YtnckdmogdehnoaaGreatDoorPA
import Derived.Test.YtnckdmogdehnoaaGreatDoorPDskR
set_option maxHeartbeats 8000000
set_option linter.unusedVariables false
set_option linter.unusedSimpArgs false
namespace Go.Proofs.YtnckdmogdehnoaaGreatDoor
open Tryz
open Go.RowKit
def TextPost (r : Option (List UInt8)) (w0 : World) (en : Ending) (w' : World) : Prop := Pure w0 w' ∧ match r with
 | some t => en = .returned (.tuple #[strV t, .nilIface])
 | none => ∃ T v, en = .returned (.tuple #[strV [], .iface T v])
theorem TextPost.no {r : Option (List UInt8)} {w0 w' : World} {T : TypeId} {v : Value} (h : r = none) (hp : Pure w0 w') : TextPost r w0 (.returned (.tuple #[strV [], .iface T v])) w' := by subst h; exact ⟨hp, T, v, rfl⟩
theorem text_any (A : Option Addr) (n c : Nat) (l : List Ev) (D : Nat → Prop) (w0 : World) (h : EvsR w0 D (.slice A n c) l) (hG : TxG w0) : Cq 62 #[.slice A n c] w0 (TextPost (evT l) w0) := by
 obtain ⟨hn, hc1, hc2⟩ := h.len
 subst hn
 have hI := Inv.start (fun _ => False) w0
 refine Vm func62 Z (Wq (T5 Z (Vw Z (Wn ?_))))
 by_cases h120 : l.length ≤ 120
 rotate_left
 ·exact Ws (Wq (Va Z (Vo Z yy26 Z (U6 Z (Yt Z (Wq (T0 Z yy49 Z (T5 Z (Vt Z (Wn (WR (r2_ 2 3 Z (TextPost.no (by unfold evT; exact if_neg fun h => h120 h.1) hI.pu)))))))))))))
 refine Ws (Wq (Va Z (Vo Z yy26 Z (U3 Z (Yf Z (Wk (Wq (Vz (.agg #[.pointer none, .slice none 0 0]) (#[.pointer none, .slice none 0 0]) hI Z ?_))))))))
 rintro b4 w - - hI
 refine Wn ?_
 have hle : w0.heap.size ≤ b4 := (hI.own _ (List.mem_cons_self ..) b4 rfl).resolve_left id
 have hB0 : IsB w0.heap.size b4 [] w := .of_blk hI.g0 hle
 refine Wx (fun ρ w => l.all evOkB = true ∧ Has ρ [(4, .pointer (some ⟨b4, 0, none⟩))] ∧ IsB w0.heap.size b4 (textE l) w ∧ Pure w0 w) ?_ ?_
 ·refine Wq (Va Z (Vo Z yy26 Z (V0 Z (Wn (Wb ?_)))))
  refine Wl (fun mu ρ w => ∃ k : Nat, mu = l.length - k ∧ k ≤ l.length ∧ (l.take k).all evOkB = true ∧ Has ρ [(17, Y (k : Int)), (16, Y (l.length : Int)), (15, .slice A l.length c), (4, .pointer (some ⟨b4, 0, none⟩))] ∧ IsB w0.heap.size b4 (textE (l.take k)) w ∧ Pure w0 w) l.length
   ⟨0, rfl, by omega, rfl, ⟨rfl, rfl, rfl, rfl, trivial⟩, hB0, hI.pu⟩ ?_
  clear hI hB0 hle
  rintro mu ρ w9 ⟨k, rfl, hk, hok, hH, hB, hp⟩
  obtain ⟨σ, rfl⟩ := hH.open
  have hI := Inv.start (fun _ => False) w9
  by_cases hkl : k < l.length
  rotate_left
  ·obtain rfl : k = l.length := by omega
   rw [List.take_length] at hok hB
   exact Wq (Vr Z (Yg Z (WE ⟨hok, g1_, hB, hp⟩)))
  obtain ⟨bA, oA, rfl, hoc⟩ := (h.pure hp).at hkl
  have hget := evAt_get hkl
  have htk : l.take (k + 1) = l.take k ++ [evAt l k] := by
   have := hget
   rw [gE_ hkl] at this
   injection this with this
   rw [List.take_add_one, gE_ hkl, this]; rfl
  have hG9 := hG.pure hp
  have hno : evOkB (evAt l k) = false → evT l = none := fun hf => by
   unfold evT
   refine if_neg fun h => ?_
   rw [List.all_eq_true.1 h.2 _ (gM_ hget)] at hf
   cases hf
  have htxl := textE_len (l.take k) (evOk_all hok)
  have hlk : (l.take k).length = k := by rw [List.length_take]; omega
  generalize hpk : evAt l k = pk at hoc hno htk
  obtain ⟨e0, e1, e2, e3, e4, e5, e6⟩ := pk
  refine Wq (Vu Z (Yu Z (Wk (Ws (Wb (Wq (V0 Z (Th 7 Z yy26 Z (Ts 7 Z (by rfl) (fun k u hk => hI.oldp (hoc k u hk)) (Vz (.agg zI7) (zI7) hI Z ?_))))))))))
  rintro b6 w - - hI
  refine Vb Z (T2 7 (#[_, _, _, _, _, _, _]) (.agg _) hI Z ?_)
  intro w hI
  refine Wn ?_
  simp only [evL] at hI
  refine Wx (fun ρ w => evOkB ⟨e0, e1, e2, e3, e4, e5, e6⟩ = true ∧ Has ρ [(17, Y (k : Int)), (16, Y (l.length : Int)), (15, .slice (some ⟨bA, oA, none⟩) l.length c), (4, .pointer (some ⟨b4, 0, none⟩)), (6, .pointer (some ⟨b6, 0, none⟩))] ∧ Inv NF w9 w [B b6 167 #[Y e0, Y e1, Y e2, Y e3, Y e4, Y e5, Y e6]]) ?_ ?_
  ·refine Wx (fun ρ w => ∃ v7, Has ρ [(7, v7), (17, Y (k : Int)), (16, Y (l.length : Int)), (15, .slice (some ⟨bA, oA, none⟩) l.length c), (4, .pointer (some ⟨b4, 0, none⟩)), (6, .pointer (some ⟨b6, 0, none⟩)), (5, Y (k : Int))] ∧ Inv NF w9 w [B b6 167 #[Y e0, Y e1, Y e2, Y e3, Y e4, Y e5, Y e6]] ∧ ((evOkB ⟨e0, e1, e2, e3, e4, e5, e6⟩ = true ∧ v7 = .nilIface) ∨ (evOkB ⟨e0, e1, e2, e3, e4, e5, e6⟩ = false ∧ ∃ z : Int, v7 = .iface 49 (Y z)))) ?_ ?_
   ·refine Wr (Tt 7 Z hI.g0 (Vd [.agg _] Z func101 Z ((check_any ⟨e0, e1, e2, e3, e4, e5, e6⟩ _).mono ?_)))
    rintro e w1 ⟨hp1, hr⟩
    obtain ⟨v7, rfl⟩ : ∃ v, e = .returned v := by rcases hr with ⟨_, rfl⟩ | ⟨_, x, _, rfl⟩ <;> exact ⟨_, rfl⟩
    refine rV ?_
    have hI := hI.pure hp1
    refine U7 Z (Wn ⟨v7, g7_, hI, ?_⟩)
    rcases hr with ⟨q1, q2⟩ | ⟨q1, x, ⟨z, rfl⟩, q2⟩
    ·injection q2 with q2; exact .inl ⟨q1, q2⟩
    injection q2 with q2; exact .inr ⟨q1, z, q2⟩
   clear hI
   rintro ρ w ⟨v7, hH, hI, hv⟩
   obtain ⟨σ, rfl⟩ := hH.open
   rcases hv with ⟨hv, rfl⟩ | ⟨hv, z, rfl⟩
   ·exact Wq (Td Z (Tv Z yy37 Z (Yf Z (Wk ⟨hv, g5_, hI⟩))))
   refine Wq (Vy Z (U0 Z yy37 Z (Yt Z (Wq (Vy Z (V0 Z (Vd [_, Y _] Z func102 Z ((at_any z k _ (hG9.pure hI.pu).err).mono ?_))))))))
   rintro e w1 ⟨⟨b, rfl⟩, hp1⟩
   refine rV ?_
   have hI := hI.pure hp1
   exact T5 Z (Vt Z (Wn (WR (r2_ 2 3 Z (TextPost.no (hno hv) (Pure.trans hp hI.pu))))))
  clear hI
  rintro ρ w ⟨hev, hH, hI⟩
  obtain ⟨σ, rfl⟩ := hH.open
  have he := EvOk.of hev
  obtain ⟨⟨p1, p2⟩, ⟨k1, k2⟩, ⟨t1, t2⟩, ⟨d1, d2⟩, ⟨a1, a2⟩, ⟨b1, b2⟩, ⟨r1, r2⟩⟩ := id he
  dsimp only at p1 p2 k1 k2 t1 t2 d1 d2 a1 a2 b1 b2 r1 r2
  obtain ⟨t, rfl⟩ : ∃ t : Nat, e1 = (t : Int) + 1 := ⟨(e1 - 1).toNat, by omega⟩
  obtain ⟨d, rfl⟩ : ∃ d : Nat, e3 = (d : Int) + 1 := ⟨(e3 - 1).toNat, by omega⟩
  generalize hpk2 : (⟨e0, (t : Int) + 1, e2, (d : Int) + 1, e4, e5, e6⟩ : Ev) = pk at he htk hev
  have hty : (typeWs.map strV).toArray[t]? = some (strV (tyW pk)) := by
   have h1 := he.tyAt
   subst hpk2
   rw [show (((t : Int) + 1) - 1).toNat = t by omega] at h1
   rw [List.getElem?_toArray, List.getElem?_map, h1]; rfl
  have hkd : (kindWs.map strV).toArray[d]? = some (strV (kdW pk)) := by
   have h1 := he.kdAt
   subst hpk2
   rw [show (((d : Int) + 1) - 1).toNat = d by omega] at h1
   rw [List.getElem?_toArray, List.getElem?_map, h1]; rfl
  refine Wx (fun ρ w => ∃ g, Has ρ [(8, .slice (some ⟨g, 0, none⟩) 3 3), (17, Y (k : Int)), (16, Y (l.length : Int)), (15, .slice (some ⟨bA, oA, none⟩) l.length c), (4, .pointer (some ⟨b4, 0, none⟩)), (6, .pointer (some ⟨b6, 0, none⟩))] ∧ Inv NF w9 w [B g 9 #[strV (Lib.itoa e0), strV (tyW pk), strV (kdW pk)], B b6 167 #[Y e0, Y ((t : Int) + 1), Y e2, Y ((d : Int) + 1), Y e4, Y e5, Y e6]]) ?_ ?_
  ·refine Yi hI fun Sx hY hXS hI => Vf 0 0 Z (Ye 1 hY Z Z (Vf 4 1 Z (Ye 5 hY Z Z (Wt 6 Z (fun W hW => have hI := hY W hW; (by exact rSub rfl rfl rfl (by omega))) (Vf 10 3 Z (Ye 11 hY Z Z (Wt 12 Z (fun W hW => have hI := hY W hW; (by exact rSub rfl rfl rfl (by omega))) (Vq 2 Z (Vd [Y _] Z func10 Z ((itoa_any e0 (by omega) (by omega) _ (hG9.pure hI.pu).num).mono (okP hI fun w1 hp1 hI => Wn ⟨hXS _ hI, (Vq 3 Z (Vd [.string _] Z func42 Z ((fields_any typeS typeWs fields_typeS (by decide) typeS_ascii _ (hG9.pure hI.pu)).mono ?_)))⟩)))))))))))
   rintro e w1 ⟨g1, rfl, hT⟩
   refine rV ?_
   have hI := hI.app1 hT
   refine Wn ⟨hXS _ hI.d0, (Wt 7 Z (fun W hW => have hI := hY W hW; (rIdx (sz := 1) (i := t) Z yy42 (by kernel_rfl) Z (congrArg (Value.int .i64) (by omega)) (by show _ < 4; omega))) (WT_two 8 9 Z Z (by kernel_rfl) Z Z ?_ ?_))⟩
   ·refine V6 (.string _) Z (at_mul (hI.c0 hty)) (Wn ⟨hXS _ hI.d0, (Vq 9 Z (Vd [.string _] Z func42 Z ((fields_any kindS kindWs fields_kindS (by decide) kindS_ascii _ (hG9.pure hI.pu)).mono ?_)))⟩)
    rintro e w1 ⟨g2, rfl, hT⟩
    refine rV ?_
    have hI := hI.app1 hT
    refine Wn ⟨hXS _ hI.d0.d0, (Wt 13 Z (fun W hW => have hI := hY W hW; (rIdx (sz := 1) (i := d) Z yy42 (by kernel_rfl) Z (congrArg (Value.int .i64) (by omega)) (by show _ < 12; omega))) (Vq 14 Z (V6 (.string _) Z (at_mul (hI.c0 hkd)) (Wn ⟨hXS _ hI.d0.d0, (Vq 15 Z (T3 [(0, .string _), (1, .string _), (2, .string _)] [_, _, _] [.string ⟨#[]⟩, .string ⟨#[]⟩, .string ⟨#[]⟩] [0, 1, 2] hI Z yy42 (fun _ => by kernel_rfl) ?_))⟩))))⟩
    rintro b44 w - - hI
    exact Wn ⟨hXS _ hI.d0.d0.d0, (U9 16 (hS_ := hXS _ hI.d0.d0.d0) Z (Yz ⟨_, g6_, hI.d1.d1⟩))⟩
   refine Vd [.string _] Z func42 Z ((fields_any kindS kindWs fields_kindS (by decide) kindS_ascii _ (hG9.pure hI.pu)).mono ?_)
   rintro e w1 ⟨g2, rfl, hT⟩
   refine rV ?_
   have hI := hI.app1 hT
   refine Wn ⟨hXS _ hI.d0.d0, (Wt 13 Z (fun W hW => have hI := hY W hW; (rIdx (sz := 1) (i := d) Z yy42 (by kernel_rfl) Z (congrArg (Value.int .i64) (by omega)) (by show _ < 12; omega))) (WT_two 8 14 Z Z (by kernel_rfl) Z Z ?_ ?_))⟩
   ·refine V6 (.string _) Z (at_mul (hI.c1 hty)) (Wn ⟨hXS _ hI.d0.d0, (Vq 14 Z (V6 (.string _) Z (at_mul (hI.c0 hkd)) (Wn ⟨hXS _ hI.d0.d0, (Vq 15 Z (T3 [(0, .string _), (1, .string _), (2, .string _)] [_, _, _] [.string ⟨#[]⟩, .string ⟨#[]⟩, .string ⟨#[]⟩] [0, 1, 2] hI Z yy42 (fun _ => by kernel_rfl) ?_))⟩)))⟩)
    rintro b44 w - - hI
    exact Wn ⟨hXS _ hI.d0.d0.d0, (U9 16 (hS_ := hXS _ hI.d0.d0.d0) Z (Yz ⟨_, g6_, hI.d1.d1⟩))⟩
   refine V6 (.string _) Z (at_mul (hI.c0 hkd)) (Wn ⟨hXS _ hI.d0.d0, (Vq 8 Z (V6 (.string _) Z (at_mul (hI.c1 hty)) (Wn ⟨hXS _ hI.d0.d0, (Vq 15 Z (T3 [(0, .string _), (1, .string _), (2, .string _)] [_, _, _] [.string ⟨#[]⟩, .string ⟨#[]⟩, .string ⟨#[]⟩] [0, 1, 2] hI Z yy42 (fun _ => by kernel_rfl) ?_))⟩)))⟩)
   rintro b44 w - - hI
   exact Wn ⟨hXS _ hI.d0.d0.d0, (U9 16 (hS_ := hXS _ hI.d0.d0.d0) Z (Yz ⟨_, g6_, hI.d1.d1⟩))⟩
  clear hI
  rintro ρ w ⟨g, hH, hI⟩
  obtain ⟨σ, rfl⟩ := hH.open
  have hw7 : (wordsE pk).length = 7 := rfl
  replace hI := inv_rowOf hI 3 rfl (by omega)
  have hw3 : #[strV (Lib.itoa e0), strV (tyW pk), strV (kdW pk)].toList = ((wordsE pk).take (3 + 0)).map strV := by subst hpk2; rfl
  rw [hw3] at hI
  refine Wx (fun ρ w => ∃ A' c', Has ρ [(8, .slice A' 7 c'), (17, Y (k : Int)), (16, Y (l.length : Int)), (15, .slice (some ⟨bA, oA, none⟩) l.length c), (4, .pointer (some ⟨b4, 0, none⟩))] ∧ Inv NF w9 w [Row 0 9 1 A' 7 c' ((wordsE pk).map strV)]) ?_ ?_
  ·refine Wq (V8 2 Z (Yd hI Z Z (V8 4 Z (Yd hI Z Z (V8 5 Z (Yd hI Z Z (V8 6 Z (Yd hI Z Z (T3 [(0, Y _), (1, Y _), (2, Y _), (3, Y _)] [_, _, _, _] [Y 0, Y 0, Y 0, Y 0] [0, 1, 2, 3] hI Z yy41 (fun _ => by kernel_rfl) ?_)))))))))
   rintro b53 w - - hI
   refine Vo Z yy41 Z (V0 Z (Wn (Wb ?_)))
   refine Wl (fun mu ρ w => ∃ (j : Nat) (A' : Option Addr) (c' : Nat), mu = 4 - j ∧ j ≤ 4 ∧ Has ρ [(55, Y (j : Int)), (54, Y 4), (53, .slice (some ⟨b53, 0, none⟩) 4 4), (8, .slice A' (3 + j) c'), (17, Y (k : Int)), (16, Y (l.length : Int)), (15, .slice (some ⟨bA, oA, none⟩) l.length c), (4, .pointer (some ⟨b4, 0, none⟩))] ∧ Inv NF w9 w [B b53 3 #[Y e2, Y e4, Y e5, Y e6], Row 0 9 1 A' (3 + j) c' (((wordsE pk).take (3 + j)).map strV)]) 4
    ⟨0, _, _, rfl, by omega, ⟨rfl, rfl, rfl, rfl, rfl, rfl, rfl, rfl, trivial⟩, hI.d2⟩ ?_
   clear hI
   rintro mu ρ w ⟨j, A', c', rfl, hj, hH, hI⟩
   obtain ⟨σ, rfl⟩ := hH.open
   by_cases hj4 : j < 4
   rotate_left
   ·obtain rfl : j = 4 := by omega
    exact Wq (Vr Z (Yg Z (WE ⟨A', c', g5_, hI.d0⟩)))
   obtain ⟨z, hz, hzw, hz1, hz2⟩ : ∃ z : Int, (#[.int .i64 e2, .int .i64 e4, .int .i64 e5, .int .i64 e6] : Array Value)[j]? = some (.int .i64 z) ∧ (wordsE pk)[3 + j]? = some (Lib.itoa z) ∧ -1000000 ≤ z ∧ z ≤ 1000000 := by
    subst hpk2
    match j, hj4 with
    | 0, _ => exact ⟨e2, rfl, rfl, by omega, by omega⟩
    | 1, _ => exact ⟨e4, rfl, rfl, a1, a2⟩
    | 2, _ => exact ⟨e5, rfl, rfl, b1, b2⟩
    | 3, _ => exact ⟨e6, rfl, rfl, r1, r2⟩
   have hnext : ((wordsE pk).take (3 + (j + 1))).map strV = ((wordsE pk).take (3 + j)).map strV ++ [strV (Lib.itoa z)] := by
    rw [show 3 + (j + 1) = (3 + j) + 1 by omega, List.take_add_one, hzw, List.map_append]; rfl
   refine Wq (Vu Z (Yu Z (Wk (Ws (Wb (Wq (T6 Z yy41 Z (V6 (Y _) Z (hI.c0 hz) (Vb Z (Wn (Wr (Va Z (V0 Z (Vd [Y _] Z func10 Z ((itoa_any z (by omega) (by omega) _ (hG9.pure hI.pu).num).mono (okP hI fun w1 hp1 hI => T3 [(0, .string _)] [_] [.string ⟨#[]⟩] [0] hI Z yy42 (fun _ => by kernel_rfl) ?_))))))))))))))))
   rintro b62 w - - hI
   refine WL_app2 (z := .string ⟨#[]⟩) (by_ := 16) hI Z Z Z Z Z Z yy42 (by kernel_rfl) Z (by omega) (by rfl) hI.lit0 (by rfl) (by omega) (by omega) (by exact Nat.zero_le _) ?_
   rintro A63 c63 w hA63 hc63 hI
   have hI := hI.d0
   refine Vg Z (Wn (Wr (Vl Z (V0 Z (Wn ⟨4 - (j + 1), by omega, j + 1, A63, c63, rfl, by omega, g8_, ?_⟩)))))
   rw [hnext]
   exact hI
  clear hI
  rintro ρ w ⟨A', c', hH, hI⟩
  obtain ⟨σ, rfl⟩ := hH.open
  obtain ⟨g7, o7, rfl⟩ := row_addrS hI.g0 (by omega) (by omega)
  have hcells := fun (i : Nat) (x : List UInt8) (hx : (wordsE pk)[i]? = some x) => row_cellS hI.g0 (i := i) (u := strV x) (by rw [List.getElem?_map, hx]; rfl) (by omega)
  obtain ⟨hg7c, _⟩ : 7 ≤ c' ∧ True := ⟨(row_openB hI.g0 (by omega)).choose_spec.choose_spec.2.2.2.1, trivial⟩
  have hlin := lineE_len he
  have hg7l : g7 < w.heap.size := World.block_lt_of_cell? w _ (hcells 0 _ rfl)
  refine Wr (Va Z (Vd [.slice _ _ _, .string _] Z func11 Z ((join_any g7 o7 c' (wordsE pk) _ hcells hg7l (by omega) (by omega) (by show (lineE pk).length ≤ _; omega)).mono (okP hI fun w1 hp1 hI => Wv Z (rStrAdd Z Z Z (by show (lineE pk).length + 1 ≤ _; omega)) (Vd [.pointer _, .string _] Z func7 Z ((wrs_any w0.heap.size b4 _ (lineE pk ++ [10]) _ (hB.pure hI.pu) (by rw [List.length_append]; show _ + ((lineE pk).length + 1) ≤ _; omega) (Pure.trans hp hI.pu).size).mono ?_))))))
  rintro e w1 ⟨⟨v, rfl⟩, hB1, hb1⟩
  refine rV ?_
  replace hp := Below.trans (Pure.trans hp hI.pu) hb1
  have hI := Inv.start (fun _ => False) w1
  exact Wn (Wr (Vl Z (V0 Z (Wn ⟨l.length - (k + 1), by omega, k + 1, rfl, by omega, by rw [htk, List.all_append, hok]; simpa using hev, g4_, by rw [htk, textE_snoc]; exact hB1, hp⟩))))
 clear hI hB0
 rintro ρ w ⟨hall, hH, hB, hp⟩
 obtain ⟨σ, rfl⟩ := hH.open
 have hI := Inv.start (fun _ => False) w
 refine Wq (Vd [.pointer _] Z func9 Z ((bstr_any w0.heap.size b4 _ _ hB hp.size).mono ?_))
 rintro e w1 ⟨rfl, hb1⟩
 refine rV ?_
 replace hp := Below.trans hp hb1
 refine T5 Z (Vw Z (Wn (WR (r2_ 2 3 Z ?_))))
 unfold TextPost evT
 rw [if_pos ⟨h120, hall⟩]
 exact ⟨hp, Z⟩
end Go.Proofs.YtnckdmogdehnoaaGreatDoor
