/- FarmBack. -/
import Derived.Test.YtlkobbighkiojaaGreatDoorPA
import Derived.Test.YtlkobbighkiojaaGreatDoorPFarI
import Derived.Test.YtlkobbighkiojaaGreatDoorPStoN
import Derived.Test.YtlkobbighkiojaaGreatDoorPReg
import Derived.Deep.Slices
import Derived.Deep.Fields
import Derived.ChangeSame
import Derived.Test.YtlkobbighkiojaaGreatDoorProg
import Derived.Test.YtlkobbighkiojaaGreatDoorPStoB
import Derived.Test.YtlkobbighkiojaaGreatDoorRows
import Derived.Test.YtlkobbighkiojaaGreatDoorPLin5
import Derived.Test.YtlkobbighkiojaaGreatDoorPEvo2
import Derived.Test.YtlkobbighkiojaaGreatDoorPBak9
import Derived.ChangeVars
import Derived.JoinedOf
import Derived.RowKit
import Derived.RowKitTokens
import Derived.LaidLaws
import Derived.LaidHandle
import Derived.Lib.LaidTab
import Derived.Stop.Joined
import Derived.Stop.LaidErr
import Derived.Deep.DeepLaidRun
import Derived.Handed
import Derived.SevenTiedAt
set_option maxHeartbeats 16000000
set_option linter.unusedVariables false
set_option linter.unusedSimpArgs false
namespace Go.Proofs.YtlkobbighkiojaaGreatDoor
open Go.RowKit
theorem tried_any (w0 : World) (hG : FaG w0) (hM : MaxOk w0) : Cq 6 #[] w0 fun en w' => en = .returned (.bool true) ∧ Pure w0 w' := by
 have hI := Inv.start (fun _ => False) w0
 have hRun : ∀ (w : World), Pure w0 w → Cq 5 #[.agg (pC 3 1 2 2 genT), .slice none 0 0] w fun en w' => ∃ (A1 : Option Addr) (c1 : Nat) (A2 : Option Addr) (c2 n2 : Nat) (en2 : Int),
   en = .returned (.tuple #[.agg #[strV [], .slice A1 2 c1, .int .i64 1, .slice A2 n2 c2, .int .i64 en2], .nilIface]) ∧ Inv NF w w' [Row 0 70 7 A1 2 c1 (evT2.flatMap evL)] := by
  intro w hp
  refine (frun_any 3 1 2 2 true [] genT 10000 none 0 0 [] (fun _ => False) w (Rd.nil w _ 1) (hG.pure hp) (by decide)).mono ?_
  rintro en w' (⟨hbad, _⟩ | ⟨n', k', a', t', t2, ops, A1, c1, A2, c2, e1, e2, e3, e4, hs, hb, hrun, hlen, hev, hok, rfl, hJ⟩)
  ·exfalso
   rcases hbad with h | h | h | h | h | ⟨n', k', a', t', t2, e1, e2, e3, e4, hrun, h⟩
   ·simp at h
   ·omega
   ·omega
   ·exact h (by decide)
   ·rw [parsed_genT] at h; cases h
   obtain rfl : n' = 3 := by omega
   obtain rfl : k' = 1 := by omega
   obtain rfl : a' = 2 := by omega
   obtain rfl : t' = 2 := by omega
   have hst := run_T parsed_genT hrun
   rw [hst, sT2_evs, evF_T] at h
   rcases h with h | ⟨ops, h, hno⟩
   ·cases h
   obtain rfl := Option.some.inj h
   exact hno okLin_T
  obtain rfl : n' = 3 := by omega
  obtain rfl : k' = 1 := by omega
  obtain rfl : a' = 2 := by omega
  obtain rfl : t' = 2 := by omega
  have hst := run_T parsed_genT hrun
  rw [hst, sT2_evs] at hev hJ ⊢
  rw [evF_T] at hev
  obtain rfl := Option.some.inj hev
  have hv : (verdF 1 opsT befB (10000 : Int).toNat).1 = 1 := ver_T
  rw [hv]
  exact ⟨A1, c1, A2, c2, _, _, rfl, hJ.hd1⟩
 refine Vn Tryz.func6 rfl ?_
 refine Wq (V8 rfl (Wn (Wq (Va [.string _] rfl Tryz.func20 rfl ?_))))
 refine (fparse_any _ (hG.pure hI.pu).num (hM.pure hI.pu)).mono (okP hI fun w1 hp1 hI => ?_)
 refine Vz rfl (Vg rfl (Vg rfl (T1 (.agg #[.int .i64 0, .int .i64 0, .int .i64 0, .int .i64 0, .bool false, .string ⟨#[]⟩, .string ⟨#[]⟩, .int .i64 0]) (#[.int .i64 0, .int .i64 0, .int .i64 0, .int .i64 0, .bool false, .string ⟨#[]⟩, .string ⟨#[]⟩, .int .i64 0]) hI rfl ?_)))
 rintro b1 w - - hI
 refine T7 8 (#[_, _, _, _, _, _, _, _]) (.agg _) hI rfl ?_
 intro w hI
 refine Vj rfl (Wn (Wq (Tu 8 rfl hI.g0 (Va [.agg _, .slice _ _ _] rfl Tryz.func5 rfl ?_))))
 refine (hRun _ hI.pu).mono ?_
 rintro e w1 ⟨A1, c1, A2, c2, n2, en2, rfl, hT⟩
 refine rV ?_
 have hI := hI.app1 hT
 refine Vz rfl (Vg rfl (Vg rfl (T1 (.agg #[.string ⟨#[]⟩, .slice none 0 0, .int .i64 0, .slice none 0 0, .int .i64 0]) (#[.string ⟨#[]⟩, .slice none 0 0, .int .i64 0, .slice none 0 0, .int .i64 0]) hI rfl ?_)))
 rintro b3 w - - hI
 refine T7 5 (#[_, _, _, _, _]) (.agg _) hI rfl ?_
 intro w hI
 refine Vj rfl (Wn ?_)
 obtain ⟨gA, _, rfl, -⟩ := row_openB hI.g1 (by decide)
 have he5 : ∀ (w : World) (e0 : Ent) (H : List Ent), Inv NF w0 w (e0 :: Row 0 70 7 (some ⟨gA, 0, none⟩) 2 c1 (evT2.flatMap evL) :: H) → w.cell? ⟨gA, 11, none⟩ = some (.int .i64 5) := fun w e0 H hI => row_cellS hI.g1 (i := 11) rfl (by decide)
 refine Wq (T8 rfl ?_)
 refine Wv rfl (by exact rNilEq rfl yy34 rfl) ?_
 refine V6 rfl (T8 rfl ?_)
 refine Wv rfl (by exact rNilEq rfl yy34 rfl) ?_
 refine Vk rfl (V6 rfl (V7 2 rfl (Tj rfl (V5 (.int .i64 _) rfl (hI.c0 rfl) (T5 rfl (Vk rfl (V6 rfl (V7 1 rfl (V5 (.slice _ _ _) rfl (hI.c0 rfl) (Vs rfl yy28 rfl (T5 rfl (Vk rfl (V6 rfl ?_)))))))))))))
 refine V7 1 rfl (V5 (.slice _ _ _) rfl (hI.c0 rfl) ?_)
 refine Wv rfl (rIdx (sz := 7) (i := 1) rfl yy28 (by kernel_rfl) rfl rfl (by decide)) ?_
 refine Tf 4 rfl (V5 (.int .i64 _) rfl (he5 _ _ _ hI) (T5 rfl (Vk rfl (V8 rfl (Wn ?_)))))
 exact WR (r1_ 0 rfl ⟨rfl, hI.pu⟩)
section
variable {o : Int} {l : List Op8} {ab : Op8 → Op8 → Bool} {bud : Nat}
theorem bloop_code {rec : SSt → Int × SSt} (hrec : ∀ s, (rec s).1 = 1 ∨ (rec s).1 = 2 ∨ (rec s).1 = 3) : ∀ (r : List Nat) (s : SSt), (loopF o l ab rec r s).1 = 1 ∨ (loopF o l ab rec r s).1 = 2 ∨ (loopF o l ab rec r s).1 = 3
 | [], s => .inr (.inl rfl)
 | i :: r, s => by
  unfold loopF
  split
  ·exact bloop_code hrec r s
  split
  ·exact bloop_code hrec r s
  split
  ·exact bloop_code hrec r _
  exact hrec _
theorem benter_code : ∀ (f : Nat) (s : SSt), (enterF o l ab bud f s).1 = 1 ∨ (enterF o l ab bud f s).1 = 2 ∨ (enterF o l ab bud f s).1 = 3
 | 0, s => .inr (.inl rfl)
 | f + 1, s => by
  unfold enterF
  split
  ·exact .inl rfl
  split
  ·exact .inr (.inl rfl)
  split
  ·exact .inr (.inr rfl)
  exact bloop_code (benter_code f) _ _
end
theorem verd_code (o : Int) (l : List Op8) (ab : Op8 → Op8 → Bool) (bud : Nat) : ∃ z : Nat, z < 3 ∧ (verdF o l ab bud).1 = ((z + 1 : Nat) : Int) := by
 rcases benter_code (o := o) (l := l) (ab := ab) (bud := bud) (l.length + 1) (startS o) with h | h | h
 ·exact ⟨0, by omega, h⟩
 ·exact ⟨1, by omega, h⟩
 exact ⟨2, by omega, h⟩
theorem nats_of : ∀ (l : List Int) (m : Nat), (∀ x ∈ l, 0 ≤ x ∧ x < m) → ∃ l' : List Nat, l = l'.map (fun n : Nat => (n : Int)) ∧ ∀ n ∈ l', n < m
 | [], m, _ => ⟨[], rfl, fun n hn => by cases hn⟩
 | x :: l, m, h => by
  obtain ⟨l', rfl, h2⟩ := nats_of l m fun y hy => h y (List.mem_cons_of_mem _ hy)
  have hx := h x List.mem_cons_self
  refine ⟨x.toNat :: l', by rw [List.map_cons, Int.toNat_of_nonneg hx.1], fun n hn => ?_⟩
  rcases List.mem_cons.1 hn with rfl | hn
  ·omega
  exact h2 n hn
theorem nodup_len : ∀ (m : Nat) (l : List Nat), l.Nodup → (∀ x ∈ l, x < m) → l.length ≤ m
 | 0, l, _, h => by
  cases l with
  | nil => simp
  | cons x r => exact absurd (h x List.mem_cons_self) (Nat.not_lt_zero _)
 | m + 1, l, hn, h => by
  by_cases hm : m ∈ l
  ·have h1 := nodup_len m (l.erase m) (hn.erase m) (fun x hx => by
    have h2 := hn.mem_erase_iff.1 hx
    have h3 := h x h2.2
    have h4 := h2.1
    omega)
   rw [List.length_erase_of_mem hm] at h1
   omega
  have h1 := nodup_len m l hn (fun x hx => by
   have h3 := h x hx
   have h4 : x ≠ m := fun e => hm (e ▸ hx)
   omega)
  omega
theorem ordF_nats {ops : List Op8} {bud : Nat} : ∃ ol : List Nat, ordF (verdF 1 ops befB bud) = ol.map (fun n : Nat => (n : Int)) ∧ (∀ n ∈ ol, n < ops.length) ∧ ol.length ≤ ops.length := by
 unfold ordF
 split
 ·rename_i h
  have hr := (verd_sound h).2
  obtain ⟨ol, h1, h2⟩ := nats_of _ ops.length hr.rng
  refine ⟨ol, h1, h2, nodup_len _ ol ?_ h2⟩
  have h3 := hr.nodup
  rw [h1] at h3
  exact List.Pairwise.of_map _ (fun a b hab e => hab (congrArg _ e)) h3
 exact ⟨[], rfl, (fun n hn => by cases hn), Nat.zero_le _⟩
theorem i64s_nat (ol : List Nat) : i64s (ol.map (fun n : Nat => (n : Int))) = ol.map intV := by
 unfold i64s
 rw [List.map_map]
 rfl
theorem pageF_le (title : List UInt8) (z en : Nat) (l : List Nat) (t : List UInt8) (ht : title.length ≤ 900) (hz : z < 3) (hen : en ≤ 1000000) (hl : l.length ≤ 40) (hob : ∀ n ∈ l, n ≤ 1000000) (htl : t.length ≤ 10000) : (pageF title z en l t).length ≤ 20000 := by
 have hle := (escF_len title).2
 have hor := ordS_len l hob
 have hcl := (codeW_ok z hz).2.2.1
 have hil := itoaT_len (n := (en : Int)) (by omega) (by omega)
 have hvl : (verdS z en).length ≤ 30 := by unfold verdS; rw [List.length_append, List.length_cons]; omega
 have l0 : hBg.length = 4 := rfl
 have l1 : eHd.length = 9 := rfl
 have l2 : ePt.length = 8 := rfl
 have l3 : bTx.length = 11 := rfl
 have l4 : eTx.length = 7 := rfl
 rw [page_eq]
 simp only [List.length_append]
 omega
theorem bpick_any (a : Int) (n : Nat) (w0 : World) (hn : 0 < n) (hn2 : n < 1000000000) : Cq 4 #[.int .i64 a, .int .i64 n] w0 fun en w' => ∃ k : Nat, k < n ∧ en = .returned (.int .i64 k) ∧ Pure w0 w' := by
 have hI := Inv.start (fun _ => False) w0
 refine Vn Tryz.func4 rfl ?_
 refine Wq (Vc rfl (Wn (Wq (V0 rfl ?_))))
 refine Wv rfl (by exact rConvW rfl yy3 Tryz.underlying44 rfl) ?_
 refine V0 rfl ?_
 refine Wv rfl (by exact rConv_u64s rfl yy3 Tryz.underlying44 rfl (by omega)) ?_
 refine Wv rfl (rRemW rfl rfl rfl (by omega)) ?_
 refine Wv rfl (by exact rConvW rfl Tryz.underlying44 yy3 rfl) ?_
 refine Vc rfl (Wn ?_)
 refine WR ?_
 obtain ⟨u, hu⟩ : ∃ u : Nat, IntKind.u64.wrap a = (u : Int) := ⟨(IntKind.u64.wrap a).toNat, by
  have : 0 ≤ IntKind.u64.wrap a := by simp [IntKind.wrap, IntKind.signed, IntKind.bits]; omega
  omega⟩
 have hlt : u % n < n := Nat.mod_lt _ hn
 refine r1_ 4 rfl ⟨u % n, hlt, ?_, hI.pu⟩
 show Ending.returned (.int .i64 (IntKind.i64.wrap ((IntKind.u64.wrap a).tmod (n : Int)))) = _
 rw [hu, ← Int.ofNat_tmod, wrap64_in (by omega) (by omega)]
set_option maxRecDepth 4000 in
theorem farmBack_any (n k a t : Int) (bk : Bool) (title gen : List UInt8) (bud : Int) (A : Option Addr) (len cp : Nat) (nums : List Int) (D : Nat → Prop) (w0 : World) (hN : Ints w0 D (.slice A len cp) nums) (hG : FaG w0) (hX : TxG w0) (hM : MaxOk w0) :
  Cq 3 #[.agg #[.int .i64 n, .int .i64 k, .int .i64 a, .int .i64 t, .bool bk, strV title, strV gen, .int .i64 bud], .slice A len cp] w0 fun en w' => en = .returned (.bool true) ∧ Pure w0 w' := by
 have hI := Inv.start (fun _ => False) w0
 have hln : len = nums.length := by
  obtain ⟨A', c', hv, _⟩ := hN
  injection hv
 subst hln
 refine Vn Tryz.func3 rfl ?_
 refine Wq (Tb (.agg _) (#[_, _, _, _, _, _, _, _]) hI rfl ?_)
 rintro b2 w - - hI
 refine V8 rfl (Wn ?_)
 by_cases h1 : 200 < nums.length
 ·refine Ws (Wq (Vi rfl (Vs rfl yy26 rfl (Tq rfl (V6 rfl (V4 rfl (V4 rfl (V4 rfl (V4 rfl (Vk rfl (V6 rfl (V4 rfl ?_))))))))))))
  refine V4 rfl (V4 rfl (V4 rfl (Vk rfl (Wn (Wc true rfl (Wq (V8 rfl (Wn ?_))))))))
  exact WR (r1_ 4 rfl ⟨rfl, hI.pu⟩)
 by_cases h2 : 500 < gen.length
 ·refine Ws (Wq (Vi rfl (Vs rfl yy26 rfl (Tc rfl (V6 rfl (V7 6 rfl (V5 (.string _) rfl (hI.c0 rfl) (T0 rfl yy9 rfl (Tq rfl (Ve rfl (V6 rfl (V4 rfl ?_))))))))))))
  refine V4 rfl (V4 rfl (V4 rfl (Vk rfl (Wn (Wc true rfl (Wq (V8 rfl (Wn ?_))))))))
  exact WR (r1_ 4 rfl ⟨rfl, hI.pu⟩)
 by_cases h3 : 900 < title.length
 ·refine Ws (Wq (Vi rfl (Vs rfl yy26 rfl (Tc rfl (V6 rfl (V7 6 rfl (V5 (.string _) rfl (hI.c0 rfl) (T0 rfl yy9 rfl (Tc rfl (Ve rfl (V6 rfl (V7 5 rfl ?_))))))))))))
  refine V5 (.string _) rfl (hI.c0 rfl) (T0 rfl yy9 rfl (Tq rfl (Ve rfl (Wn (Wc true rfl (Wq (V8 rfl (Wn ?_))))))))
  exact WR (r1_ 4 rfl ⟨rfl, hI.pu⟩)
 refine Ws (Wq (Vi rfl (Vs rfl yy26 rfl (Tc rfl (V6 rfl (V7 6 rfl (V5 (.string _) rfl (hI.c0 rfl) (T0 rfl yy9 rfl (Tc rfl (Ve rfl (V6 rfl (V7 5 rfl ?_))))))))))))
 refine V5 (.string _) rfl (hI.c0 rfl) (T0 rfl yy9 rfl (Tc rfl (Ve rfl (Wn (Wc false rfl (Wk ?_))))))
 refine Wx (fun ρ w => (10 : UInt8) ∉ title ∧ Has ρ [(2, at0 b2), (1, .slice A nums.length cp)] ∧ Inv NF w0 w [B b2 25 #[.int .i64 n, .int .i64 k, .int .i64 a, .int .i64 t, .bool bk, strV title, strV gen, .int .i64 bud]]) ?_ ?_
 ·refine Wq (Vc rfl (Wn (Wb ?_)))
  refine Wl (fun mu ρ w => ∃ j : Nat, mu = title.length - j ∧ j ≤ title.length ∧ (10 : UInt8) ∉ title.take j ∧ Has ρ [(5, .int .i64 (j : Int)), (2, at0 b2), (1, .slice A nums.length cp)] ∧ Inv NF w0 w [B b2 25 #[.int .i64 n, .int .i64 k, .int .i64 a, .int .i64 t, .bool bk, strV title, strV gen, .int .i64 bud]]) title.length
   ⟨0, rfl, by omega, by simp, ⟨rfl, rfl, rfl, trivial⟩, hI⟩ ?_
  clear hI
  rintro mu ρ w ⟨j, rfl, hj, hno, hH, hI⟩
  obtain ⟨σ, rfl⟩ := hH.open
  by_cases hjl : j < title.length
  rotate_left
  ·obtain rfl : j = title.length := by omega
   rw [List.take_length] at hno
   refine Ws (Wq (V0 rfl (V7 5 rfl (V5 (.string _) rfl (hI.c0 rfl) (T0 rfl yy9 rfl (Vr rfl (Wn (Wc false rfl ?_))))))))
   refine WE ?_
   exact ⟨hno, ⟨rfl, rfl, trivial⟩, hI⟩
  obtain ⟨c, hc⟩ : ∃ c, title[j]? = some c := ⟨_, List.getElem?_eq_getElem hjl⟩
  refine Ws (Wq (V0 rfl (V7 5 rfl (V5 (.string _) rfl (hI.c0 rfl) (T0 rfl yy9 rfl (Vt rfl (Wn (Wc true rfl (Wk (Ws (Wb ?_)))))))))))
  by_cases hc10 : c = 10
  ·refine Wq (V7 5 rfl (V5 (.string _) rfl (hI.c0 rfl) (V0 rfl ?_)))
   refine Wv rfl (rStrAt (c := c) (i := j) rfl yy9 rfl rfl hc) ?_
   refine Wv rfl (rEqlT rfl rfl rfl (by rw [hc10]; rfl)) ?_
   refine Wn (Wc true rfl (Wq (V8 rfl (Wn ?_))))
   exact WR (r1_ 4 rfl ⟨rfl, hI.pu⟩)
  refine Wq (V7 5 rfl (V5 (.string _) rfl (hI.c0 rfl) (V0 rfl ?_)))
  refine Wv rfl (rStrAt (c := c) (i := j) rfl yy9 rfl rfl hc) ?_
  refine Wv rfl (rEqlF rfl rfl rfl (u8ne (b := 10) hc10)) ?_
  refine Wn (Wc false rfl (Wk (Wr (V0 rfl (Vv rfl (Vc rfl (Wn ?_)))))))
  refine ⟨title.length - (j + 1), by omega, j + 1, rfl, by omega, ?_, ⟨rfl, rfl, rfl, trivial⟩, hI⟩
  rw [List.take_add_one, hc, List.mem_append]
  rintro (hh | hh)
  ·exact hno hh
  simp only [Option.toList_some, List.mem_singleton] at hh
  exact hc10 hh.symm
 clear hI
 rintro ρ w ⟨hnl, hH, hI⟩
 obtain ⟨σ, rfl⟩ := hH.open
 refine Wq (V7 7 rfl (V5 (.int .i64 _) rfl (hI.c0 rfl) (Va [.int .i64 _, .int .i64 _] rfl Tryz.func4 rfl ?_)))
 refine (bpick_any bud 1000 _ (by omega) (by omega)).mono ?_
 rintro e w1 ⟨bd, hbd, rfl, hp⟩
 refine rV ?_
 have hI := hI.pure hp
 refine V7 7 rfl (Ue (.int .i64 _) hI rfl ?_)
 intro w hI
 refine Wn ?_
 replace hI : Inv NF w0 _ [B b2 25 #[.int .i64 n, .int .i64 k, .int .i64 a, .int .i64 t, .bool bk, strV title, strV gen, .int .i64 (bd : Int)]] := hI
 refine Wq (Tu 8 rfl hI.g0 (Vi rfl (Va [.agg _, .slice _ _ _] rfl Tryz.func5 rfl ?_)))
 refine (frun_any n k a t bk title gen (bd : Int) A _ cp nums D _ (Rd.pure hN hI.pu) (hG.pure hI.pu) (by omega)).mono ?_
 rintro e w1 (⟨_, ⟨T, v, rfl⟩, hp⟩ | ⟨n', k', a', t', t2, ops, A1, c1, A2, c2, -, -, -, -, -, -, hrun, hlen, hev, hok, rfl, hT⟩)
 ·refine rV ?_
  have hI := hI.pure hp
  refine Vz rfl (Vg rfl (Vg rfl (T1 (.agg #[.string ⟨#[]⟩, .slice none 0 0, .int .i64 0, .slice none 0 0, .int .i64 0]) (#[.string ⟨#[]⟩, .slice none 0 0, .int .i64 0, .slice none 0 0, .int .i64 0]) hI rfl ?_)))
  rintro b6 w - - hI
  refine T7 5 (#[_, _, _, _, _]) (.agg _) hI rfl ?_
  intro w hI
  refine Vp rfl (Wn (Ws (Wq (Va [] rfl Tryz.func6 rfl ?_))))
  refine (tried_any _ (hG.pure hI.pu) (hM.pure hI.pu)).mono (okP hI fun w2 hp hI => ?_)
  refine T9 rfl (V6 rfl (Vy rfl (Tl rfl yy34 rfl (Ve rfl (Wn (Wc true rfl (Wq (Va [] rfl Tryz.func6 rfl ?_))))))))
  refine (tried_any _ (hG.pure hI.pu) (hM.pure hI.pu)).mono (okP hI fun w2 hp hI => ?_)
  refine V6 rfl (V7 2 rfl (Tj rfl (V5 (.int .i64 _) rfl (hI.c0 rfl) (T5 rfl (Vk rfl (V8 rfl (Wn ?_)))))))
  exact WR (r1_ 4 rfl ⟨rfl, hI.pu⟩)
 obtain ⟨z, hz, hzc⟩ := verd_code 1 ops befB (bd : Int).toNat
 obtain ⟨ol, hol, hob, holl⟩ := ordF_nats (ops := ops) (bud := (bd : Int).toNat)
 have henl : (verdF 1 ops befB (bd : Int).toNat).2.ent.length ≤ (bd : Int).toNat := verd_len _
 obtain ⟨en, hen⟩ : ∃ en, (verdF 1 ops befB (bd : Int).toNat).2.ent.length = en := ⟨_, rfl⟩
 have hor : (ordF (verdF 1 ops befB (bd : Int).toNat)).length = ol.length := by rw [hol, List.length_map]
 have ho40 := hok.2.2.2.2.1.1
 obtain ⟨hel, heok⟩ := evF_evs hev
 have hevt : evT t2.st.evs = some (textE t2.st.evs) := by unfold evT; rw [if_pos ⟨hel, heok⟩]
 have hevl : (textE t2.st.evs).length ≤ 10000 := by have := textE_len _ (evOk_all heok); omega
 have hob' : ∀ n ∈ ol, n ≤ 1000000 := fun n hn => by have := hob n hn; omega
 rw [hzc, hen, hor]
 replace hT : Inv NF w w1 [Row 0 70 7 A1 t2.st.evs.length c1 (t2.st.evs.flatMap evL), Row 0 3 1 A2 ol.length c2 (ol.map intV)] := by
  rw [← i64s_nat, ← hol, ← hor]; exact hT
 rw [hen] at henl
 clear hzc hen hor hev hrun
 refine rV ?_
 have hI := hI.app2 hT
 refine Vz rfl (Vg rfl (Vg rfl (T1 (.agg #[.string ⟨#[]⟩, .slice none 0 0, .int .i64 0, .slice none 0 0, .int .i64 0]) (#[.string ⟨#[]⟩, .slice none 0 0, .int .i64 0, .slice none 0 0, .int .i64 0]) hI rfl ?_)))
 rintro b6 w - - hI
 refine T7 5 (#[_, _, _, _, _]) (.agg _) hI rfl ?_
 intro w hI
 refine Vj rfl (Wn (Ws (Wq (Va [] rfl Tryz.func6 rfl ?_))))
 refine (tried_any _ (hG.pure hI.pu) (hM.pure hI.pu)).mono (okP hI fun w2 hp hI => ?_)
 refine T9 rfl (V6 rfl (T8 rfl (Te rfl yy34 rfl (Ve rfl (Wn (Wc false rfl (Wk ?_)))))))
 have hpl := pageF_le title z en ol (textE t2.st.evs) (by omega) hz (by omega) (by omega) hob' hevl
 obtain ⟨RL, hRL⟩ : ∃ RL : List Value, RL = [strV title, .slice A1 t2.st.evs.length c1, .int .i64 ((z + 1 : Nat) : Int), .slice A2 ol.length c2, .int .i64 (en : Int)] := ⟨_, rfl⟩
 replace hI : Inv NF w0 _ [B b6 32 #[strV title, .slice A1 t2.st.evs.length c1, .int .i64 ((z + 1 : Nat) : Int), .slice A2 ol.length c2, .int .i64 (en : Int)], Row 0 70 7 A1 t2.st.evs.length c1 (t2.st.evs.flatMap evL), Row 0 3 1 A2 ol.length c2 (ol.map intV), B b2 25 #[.int .i64 n, .int .i64 k, .int .i64 a, .int .i64 t, .bool bk, strV title, strV gen, .int .i64 (bd : Int)]] := hI
 have hSet := fun (j : Nat) (u : Value) (hj : RL[j]? = some u) => hI.c0 (j := 0 + j) (v := u) (by rw [Nat.zero_add, ← hj, hRL]; exact (List.getElem?_toArray ..).symm ▸ rfl)
 have hRl : RL.length = 5 := by rw [hRL]; rfl
 have hE := fun (w : World) (H : List Ent) (h : Inv NF w0 w (Row 0 70 7 A1 t2.st.evs.length c1 (t2.st.evs.flatMap evL) :: H)) => (Rd.of_own h.g0 (fun _ _ _ => trivial) : EvsR w (fun _ => True) (.slice A1 t2.st.evs.length c1) t2.st.evs)
 have hO := fun (w : World) (H : List Ent) (h : Inv NF w0 w (Row 0 3 1 A2 ol.length c2 (ol.map intV) :: H)) => (Rd.of_own h.g0 (fun _ _ _ => trivial) : Rd w (fun _ => True) 1 (.slice A2 ol.length c2) ol.length (ol.map intV))
 refine Ws (Wr ?_)
 refine Wv rfl (rLdA (n := 5) (l := RL) rfl (by kernel_rfl) (by kernel_rfl) rfl hRl hSet) ?_
 refine Va [.agg _] rfl Tryz.func7 rfl ?_
 rw [hRL]
 refine (page_any title (by omega) t2.st.evs A1 c1 hevt hevl z hz ol (by omega) hob' A2 c2 en (by omega) _ _ _ (hE _ _ hI.d0) (hO _ _ hI.d0.d0) (hX.pure hI.pu)).mono (okP hI fun w3 hp hI => ?_)
 refine Vz rfl (Vg rfl (Vg rfl (T4 rfl (Vj rfl (Wn (Ws (Wq (T8 rfl (Te rfl yy34 rfl (Wn (Wc false rfl (Wk ?_))))))))))))
 refine Wq (Vh rfl (Va [.string _] rfl Tryz.func8 rfl ?_))
 refine (fread_any title (by omega) hnl t2.st.evs hel heok hevl z hz ol (by omega) hob' en (by omega) hpl _ (hX.pure hI.pu) (hM.pure hI.pu)).mono ?_
 rintro e w3 ⟨A3, c3, A4, c4, rfl, hT2⟩
 refine rV ?_
 have hI := hI.app2 hT2
 refine Vz rfl (Vg rfl (Vg rfl (T1 (.agg #[.string ⟨#[]⟩, .slice none 0 0, .int .i64 0, .slice none 0 0, .int .i64 0]) (#[.string ⟨#[]⟩, .slice none 0 0, .int .i64 0, .slice none 0 0, .int .i64 0]) hI rfl ?_)))
 rintro b9 w - - hI
 refine T7 5 (#[_, _, _, _, _]) (.agg _) hI rfl ?_
 intro w hI
 refine Vj rfl (Wn ?_)
 replace hI : Inv NF w0 _ [B b9 32 #[strV title, .slice A3 t2.st.evs.length c3, .int .i64 ((z + 1 : Nat) : Int), .slice A4 ol.length c4, .int .i64 (en : Int)], Row 0 70 7 A3 t2.st.evs.length c3 (t2.st.evs.flatMap evL), Win 3 1 A4 ol.length c4 (ol.map intV), B b6 32 #[strV title, .slice A1 t2.st.evs.length c1, .int .i64 ((z + 1 : Nat) : Int), .slice A2 ol.length c2, .int .i64 (en : Int)], Row 0 70 7 A1 t2.st.evs.length c1 (t2.st.evs.flatMap evL), Row 0 3 1 A2 ol.length c2 (ol.map intV), B b2 25 #[.int .i64 n, .int .i64 k, .int .i64 a, .int .i64 t, .bool bk, strV title, strV gen, .int .i64 (bd : Int)]] := hI
 refine Ws (Wq (T8 rfl (Te rfl yy34 rfl (V6 rfl (V7 0 rfl (V5 (.string _) rfl (hI.c0 rfl) (V7 0 rfl (V5 (.string _) rfl (hI.c3 rfl) ?_))))))))
 refine Wv rfl (rStrNeF rfl rfl rfl rfl) ?_
 refine Ve rfl (V6 rfl (V7 2 rfl (Tj rfl (V5 (.int .i64 _) rfl (hI.c0 rfl) (V7 2 rfl (Tj rfl (V5 (.int .i64 _) rfl (hI.c3 rfl) (U2 rfl (Ve rfl (V6 rfl (V7 2 rfl (Tf 2 rfl (V5 (.int .i64 _) rfl (hI.c0 rfl) ?_)))))))))))))
 refine V7 2 rfl (Tf 2 rfl (V5 (.int .i64 _) rfl (hI.c3 rfl) (U2 rfl (Ve rfl (V6 rfl (V7 2 rfl (Tf 1 rfl (V5 (.slice _ _ _) rfl (hI.c0 rfl) (V7 2 rfl (Tf 1 rfl (V5 (.slice _ _ _) rfl (hI.c3 rfl) (Va [.slice _ _ _, .slice _ _ _] rfl Tryz.func9 rfl ?_))))))))))))
 refine (sames_any A4 A2 c4 c2 ol _ _ _ (by omega) hI.d0.d0.winRd (hO _ _ hI.d0.d0.d0.d0.d0)).mono (okP hI fun w3 hp hI => ?_)
 refine T9 rfl (Ve rfl (Wn (Wc false rfl (Wk (Wq (V7 1 rfl (V5 (.slice _ _ _) rfl (hI.c0 rfl) (Vs rfl yy28 rfl (V7 1 rfl (V5 (.slice _ _ _) rfl (hI.c3 rfl) (Vs rfl yy28 rfl (T5 rfl ?_))))))))))))
 refine V6 rfl (V7 1 rfl (V5 (.slice _ _ _) rfl (hI.c0 rfl) (V7 1 rfl (V5 (.slice _ _ _) rfl (hI.c3 rfl) (Va [.slice _ _ _, .slice _ _ _] rfl Tryz.func10 rfl ?_)))))
 refine (begins_same A3 A1 c3 c1 t2.st.evs _ _ _ (by omega) (Rd.of_own hI.g1 (fun _ _ _ => trivial) : EvsR _ (fun _ => True) _ _) (hE _ _ hI.d0.d0.d0.d0)).mono (okP hI fun w3 hp hI => ?_)
 refine Vk rfl (V8 rfl (Wn ?_))
 exact WR (r1_ 4 rfl ⟨rfl, hI.pu⟩)
end Go.Proofs.YtlkobbighkiojaaGreatDoor
namespace Go.Proofs.YtlkobbighkiojaaGreatDoor
open Go Go.ChangeShapes Go.WideShapes Go.Deep
section
variable {H : Type} {enc : TypeId × Value → H} {P : Program} {w : World} {base : Nat} {spare : Nat → Bool} {held : Bool}
theorem opn_fields {e : TypeId} {fs : Array Field} {fuel : Nat} {y : List Value} {x : DataW H × List MemPlace} (he : P.underlying e = some (.struct fs)) (hone : oneCellFields P fs = true) (hC : P.cellsOf e = fs.size) (h : DataW.trod enc P w base spare held fuel e y = some x) :
  y.length = fs.size ∧ ∀ (j : Nat) (f : Field), fs[j]? = some f → ∃ (v : Value) (n' : Nat) (d : DataW H × List MemPlace), y[j]? = some v ∧ DataW.trod enc P w base spare held n' f.type [v] = some d := by
 obtain ⟨ys, n', hn', hy, hlen, hyl, hf⟩ := DataW.trod_struct he h
 rw [hC] at hlen
 refine ⟨hlen, fun j f hj => ?_⟩
 obtain ⟨ho, hk⟩ := hone_of hone j f hj
 have hjl : j < fs.size := (Array.getElem?_eq_some_iff.1 hj).1
 have hv : y[j]? = some (y[j]'(by omega)) := List.getElem?_eq_getElem (by omega)
 have h1 := hf j f hj
 rw [ho, hk] at h1
 have hone' : (y.drop j).take 1 = [y[j]'(by omega)] := by
  rw [List.drop_eq_getElem_cons (by omega)]
  rfl
 rw [hone'] at h1
 have hys : ys[j]? = some (ys[j]'(by omega)) := List.getElem?_eq_getElem (by omega)
 exact ⟨_, n', _, hv, h1.trans hys⟩
end
open Go Go.ChangeShapes Go.WideShapes Go.Deep
section
variable {H : Type} {enc : TypeId × Value → H} {w : World} {base : Nat} {spare : Nat → Bool} {held : Bool}
set_option maxRecDepth 8000 in
theorem opn_setupL {fuel : Nat} {y : List Value} {x : DataW H × List MemPlace} (h : DataW.trod enc Tryz.prog w base spare held fuel 23 y = some x) : ∃ (n k a t : Int) (b : Bool), y = [.int .i64 n, .int .i64 k, .int .i64 a, .int .i64 t, .bool b] := by
 obtain ⟨hlen, hfl⟩ := opn_fields Tryz.underlying23 (by kernel_rfl) (by kernel_rfl) h
 obtain ⟨v0, n0, d0, e0, h0⟩ := hfl 0 _ rfl
 obtain ⟨v1, n1, d1, e1, h1⟩ := hfl 1 _ rfl
 obtain ⟨v2, n2, d2, e2, h2⟩ := hfl 2 _ rfl
 obtain ⟨v3, n3, d3, e3, h3⟩ := hfl 3 _ rfl
 obtain ⟨v4, n4, d4, e4, h4⟩ := hfl 4 _ rfl
 obtain ⟨z0, hz0, _⟩ := DataW.trod_int yy3 h0
 obtain ⟨z1, hz1, _⟩ := DataW.trod_int yy3 h1
 obtain ⟨z2, hz2, _⟩ := DataW.trod_int yy3 h2
 obtain ⟨z3, hz3, _⟩ := DataW.trod_int yy3 h3
 obtain ⟨z4, hz4, _⟩ := DataW.trod_bool yy4 h4
 injection hz0 with hz0 _
 injection hz1 with hz1 _
 injection hz2 with hz2 _
 injection hz3 with hz3 _
 injection hz4 with hz4 _
 subst hz0 hz1 hz2 hz3 hz4
 refine ⟨z0, z1, z2, z3, z4, ?_⟩
 match y, hlen, e0, e1, e2, e3, e4 with
 | [y0, y1, y2, y3, y4], _, e0, e1, e2, e3, e4 =>
  simp only [List.getElem?_cons_zero, List.getElem?_cons_succ, Option.some.injEq] at e0 e1 e2 e3 e4
  rw [e0, e1, e2, e3, e4]
set_option maxRecDepth 8000 in
theorem opn_plan {r : Go.Reach} {b0 : Nat} {v : Value} {d : DataW H} {p : List MemPlace} (hv : Value.okWide Tryz.prog w r b0 25 v) (h : DataW.Trod enc Tryz.prog w base spare held 25 v d p) :
  ∃ (n k a t : Int) (b : Bool) (title gen : List UInt8) (bud : Int), v = .agg #[.int .i64 n, .int .i64 k, .int .i64 a, .int .i64 t, .bool b, strV title, strV gen, .int .i64 bud] := by
 obtain ⟨cs, rfl, hsz⟩ := okWide_struct Tryz.underlying25 hv
 obtain ⟨fuel, hf⟩ := h
 obtain ⟨ys, n', _, _, hlen, hyl, hfl⟩ := DataW.trod_struct Tryz.underlying25 hf
 have hC : Tryz.prog.cellsOf 25 = 8 := by kernel_rfl
 have hC0 : Tryz.prog.cellsOf 23 = 5 := by kernel_rfl
 have hC1 : Tryz.prog.cellsOf 9 = 1 := by kernel_rfl
 have hC3 : Tryz.prog.cellsOf 3 = 1 := by kernel_rfl
 rw [hC] at hlen
 have hg : ∀ (i : Nat), i < 4 → ∃ y, ys[i]? = some y := fun i hi => ⟨_, List.getElem?_eq_getElem (by rw [hyl]; exact hi)⟩
 obtain ⟨l⟩ := cs
 have hlen8 : l.length = 8 := hlen
 match l, hlen8 with
 | [c0, c1, c2, c3, c4, c5, c6, c7], _ =>
  have f0 := hfl 0 _ rfl
  have f1 := hfl 1 _ rfl
  have f2 := hfl 2 _ rfl
  have f3 := hfl 3 _ rfl
  obtain ⟨y0, g0⟩ := hg 0 (by omega)
  obtain ⟨y1, g1⟩ := hg 1 (by omega)
  obtain ⟨y2, g2⟩ := hg 2 (by omega)
  obtain ⟨y3, g3⟩ := hg 3 (by omega)
  rw [g0] at f0
  rw [g1] at f1
  rw [g2] at f2
  rw [g3] at f3
  replace f0 : DataW.trod enc Tryz.prog w base spare held n' 23 (List.take (Tryz.prog.cellsOf 23) (List.drop 0 [c0, c1, c2, c3, c4, c5, c6, c7])) = some y0 := f0
  rw [hC0] at f0
  replace f1 : DataW.trod enc Tryz.prog w base spare held n' 9 (List.take (Tryz.prog.cellsOf 9) (List.drop 5 [c0, c1, c2, c3, c4, c5, c6, c7])) = some y1 := f1
  rw [hC1] at f1
  replace f2 : DataW.trod enc Tryz.prog w base spare held n' 9 (List.take (Tryz.prog.cellsOf 9) (List.drop 6 [c0, c1, c2, c3, c4, c5, c6, c7])) = some y2 := f2
  rw [hC1] at f2
  replace f3 : DataW.trod enc Tryz.prog w base spare held n' 3 (List.take (Tryz.prog.cellsOf 3) (List.drop 7 [c0, c1, c2, c3, c4, c5, c6, c7])) = some y3 := f3
  rw [hC3] at f3
  obtain ⟨n, k, a, t, b, e0⟩ := opn_setupL f0
  obtain ⟨s1, e1, _⟩ := DataW.trod_string yy9 f1
  obtain ⟨s2, e2, _⟩ := DataW.trod_string yy9 f2
  obtain ⟨z3, e3, _⟩ := DataW.trod_int yy3 f3
  simp only [Value.cells, List.drop_zero, List.drop_succ_cons, List.take_succ_cons, List.take_zero, List.cons.injEq, and_true] at e0 e1 e2 e3
  obtain ⟨rfl, rfl, rfl, rfl, rfl⟩ := e0
  subst e1 e2 e3
  exact ⟨n, k, a, t, b, s1.data.toList, s2.data.toList, z3, rfl⟩
end
open Go Go.ChangeShapes Go.WideShapes Go.RowKit
set_option maxRecDepth 20000
abbrev laidL : List (String × DataW Unit) := [("math/bits.deBruijn32tab", Rows.laid_math_bits_deBruijn32tab), ("math/bits.deBruijn64tab", Rows.laid_math_bits_deBruijn64tab), ("internal/strconv.uint64pow10", Rows.laid_internal_strconv_uint64pow10), ("unicode/utf8.acceptRanges", Rows.laid_unicode_utf8_acceptRanges), ("errors.errorType", Rows.laid_errors_errorType), ("strconv.ErrRange", Rows.laid_strconv_ErrRange), ("strconv.ErrSyntax", Rows.laid_strconv_ErrSyntax), ("testimony/model.knows", Rows.laid_testimony_model_knows), ("unicode.White_Space", Rows.laid_unicode_White_Space), ("strings.asciiSpace", Rows.laid_strings_asciiSpace), ("unicode/utf8.first", Rows.laid_unicode_utf8_first)]
theorem et_ : Tryz.prog.globalNamed "errors.errorType" = some 2 := by kernel_rfl
theorem rt_ : (Tryz.prog.cutTypes.find? (·.1 == "internal/reflectlite.rtype")).map (·.2) = some 323 := by kernel_rfl
theorem oneRow_ : ((List.range Tryz.prog.types.size).filter fun t => Tryz.prog.rowNamed t [101, 114, 114, 111, 114]) = [34] := by kernel_rfl
theorem handle_of_laid {W : World} (h : laidMetH Tryz.prog laidL W) : W.cell? ⟨2, 0, none⟩ = some (.iface 323 (.agg #[hdl 34])) := by
 have h' : laidMet Tryz.prog [("math/bits.deBruijn32tab", Rows.laid_math_bits_deBruijn32tab), ("math/bits.deBruijn64tab", Rows.laid_math_bits_deBruijn64tab), ("internal/strconv.uint64pow10", Rows.laid_internal_strconv_uint64pow10), ("unicode/utf8.acceptRanges", Rows.laid_unicode_utf8_acceptRanges), ("strconv.ErrRange", Rows.laid_strconv_ErrRange), ("strconv.ErrSyntax", Rows.laid_strconv_ErrSyntax), ("testimony/model.knows", Rows.laid_testimony_model_knows), ("unicode.White_Space", Rows.laid_unicode_White_Space), ("strings.asciiSpace", Rows.laid_strings_asciiSpace), ("unicode/utf8.first", Rows.laid_unicode_utf8_first)] W ∧ handlesMet Tryz.prog [("errors.errorType", Rows.laid_errors_errorType)] W := h
 obtain ⟨name, u, ty, e1, e2, e3, e4, e5⟩ := h'.2 _ (List.mem_singleton.2 rfl)
 have en : name = [101, 114, 114, 111, 114] := (Option.some.inj e1).symm
 subst en
 obtain rfl := Option.some.inj (rt_.symm.trans e2)
 have hm : ty ∈ (List.range Tryz.prog.types.size).filter fun t => Tryz.prog.rowNamed t [101, 114, 114, 111, 114] := List.mem_filter.2 ⟨List.mem_range.2 e3, e4⟩
 rw [oneRow_] at hm
 obtain rfl := List.mem_singleton.1 hm
 have hh : typeHandle Tryz.prog 34 = hdl 34 := by kernel_rfl
 rw [hh] at e5
 simpa using World.var?_cell et_ e5 0
theorem knG_ : Tryz.prog.globalNamed "testimony/model.knows" = some 4 := by kernel_rfl
theorem knows_of_laid {W : World} (h : laidMetH Tryz.prog laidL W) : KnOk W := by
 have h0 : laidMet Tryz.prog [("math/bits.deBruijn32tab", Rows.laid_math_bits_deBruijn32tab), ("math/bits.deBruijn64tab", Rows.laid_math_bits_deBruijn64tab), ("internal/strconv.uint64pow10", Rows.laid_internal_strconv_uint64pow10), ("unicode/utf8.acceptRanges", Rows.laid_unicode_utf8_acceptRanges), ("strconv.ErrRange", Rows.laid_strconv_ErrRange), ("strconv.ErrSyntax", Rows.laid_strconv_ErrSyntax), ("testimony/model.knows", Rows.laid_testimony_model_knows), ("unicode.White_Space", Rows.laid_unicode_White_Space), ("strings.asciiSpace", Rows.laid_strings_asciiSpace), ("unicode/utf8.first", Rows.laid_unicode_utf8_first)] W := h.1
 have h' : laidMet Tryz.prog (("testimony/model.knows", Lib.tabData .i64 knT) :: [("unicode.White_Space", Rows.laid_unicode_White_Space), ("strings.asciiSpace", Rows.laid_strings_asciiSpace), ("unicode/utf8.first", Rows.laid_unicode_utf8_first)]) W := h0.tail.tail.tail.tail.tail.tail
 have ht := Lib.tabIs_of_head (k := .i64) (zs := knT) knG_ (t := 311) (by kernel_rfl) Tryz.underlying311 yy3 (by kernel_rfl) (by kernel_rfl) h'
 exact fun i hi => ht.cell knG_ i (by simpa [knT] using hi)
theorem errRow_ (u : TypeId) (h : Tryz.prog.typeName? 3 u = some "*errors.errorString") : u = 376 :=
 typeName_ptr_named (nm := "errors.errorString") (by rw [show "*" ++ "errors.errorString" = "*errors.errorString" by decide]; kernel_rfl) (by kernel_rfl) (by decide) u (by rw [show "*" ++ "errors.errorString" = "*errors.errorString" by decide]; exact h)
theorem num_of_laid {W : World} (h : laidMetH Tryz.prog laidL W) : NumG W := by
 have h0 : laidMet Tryz.prog [("math/bits.deBruijn32tab", Rows.laid_math_bits_deBruijn32tab), ("math/bits.deBruijn64tab", Rows.laid_math_bits_deBruijn64tab), ("internal/strconv.uint64pow10", Rows.laid_internal_strconv_uint64pow10), ("unicode/utf8.acceptRanges", Rows.laid_unicode_utf8_acceptRanges), ("strconv.ErrRange", Rows.laid_strconv_ErrRange), ("strconv.ErrSyntax", Rows.laid_strconv_ErrSyntax), ("testimony/model.knows", Rows.laid_testimony_model_knows), ("unicode.White_Space", Rows.laid_unicode_White_Space), ("strings.asciiSpace", Rows.laid_strings_asciiSpace), ("unicode/utf8.first", Rows.laid_unicode_utf8_first)] W := h.1
 refine ⟨?_, ?_, ?_⟩
 ·obtain ⟨a, s, hv, -⟩ := laid_sentinel (tp := 376) (te := 378) (ti := 34) (h0.tail.tail.tail.tail.tail) gsynN (by kernel_rfl) yy34 errRow_ Tryz.underlying376 Tryz.underlying378 rfl rfl yy9 (by kernel_rfl) (by kernel_rfl)
  exact ⟨_, _, hv⟩
 ·obtain ⟨a, s, hv, -⟩ := laid_sentinel (tp := 376) (te := 378) (ti := 34) (h0.tail.tail.tail.tail) grngN (by kernel_rfl) yy34 errRow_ Tryz.underlying376 Tryz.underlying378 rfl rfl yy9 (by kernel_rfl) (by kernel_rfl)
  exact ⟨_, _, hv⟩
 have h' : laidMet Tryz.prog (("internal/strconv.uint64pow10", Lib.tabData .u64 Lib.pow10Tab) :: [("unicode/utf8.acceptRanges", Rows.laid_unicode_utf8_acceptRanges), ("strconv.ErrRange", Rows.laid_strconv_ErrRange), ("strconv.ErrSyntax", Rows.laid_strconv_ErrSyntax), ("testimony/model.knows", Rows.laid_testimony_model_knows), ("unicode.White_Space", Rows.laid_unicode_White_Space), ("strings.asciiSpace", Rows.laid_strings_asciiSpace), ("unicode/utf8.first", Rows.laid_unicode_utf8_first)]) W := h0.tail.tail
 exact Lib.tabIs_of_head (k := .u64) (zs := Lib.pow10Tab) gpowN (t := 336) (by kernel_rfl) Tryz.underlying336 yy185 (by kernel_rfl) (by kernel_rfl) h'
theorem txt_of_laid {W : World} (h : laidMetH Tryz.prog laidL W) : TxG W := by
 have h0 : laidMet Tryz.prog [("math/bits.deBruijn32tab", Rows.laid_math_bits_deBruijn32tab), ("math/bits.deBruijn64tab", Rows.laid_math_bits_deBruijn64tab), ("internal/strconv.uint64pow10", Rows.laid_internal_strconv_uint64pow10), ("unicode/utf8.acceptRanges", Rows.laid_unicode_utf8_acceptRanges), ("strconv.ErrRange", Rows.laid_strconv_ErrRange), ("strconv.ErrSyntax", Rows.laid_strconv_ErrSyntax), ("testimony/model.knows", Rows.laid_testimony_model_knows), ("unicode.White_Space", Rows.laid_unicode_White_Space), ("strings.asciiSpace", Rows.laid_strings_asciiSpace), ("unicode/utf8.first", Rows.laid_unicode_utf8_first)] W := h.1
 have h' : laidMet Tryz.prog (("strings.asciiSpace", Lib.tabData .u8 Lib.asciiSpaceTab) :: [("unicode/utf8.first", Rows.laid_unicode_utf8_first)]) W := h0.tail.tail.tail.tail.tail.tail.tail.tail
 exact ⟨num_of_laid h, handle_of_laid h, Lib.tabIs_of_head (k := .u8) (zs := Lib.asciiSpaceTab) gspcN (t := 156) (by kernel_rfl) yy156 yy5 (by kernel_rfl) (by kernel_rfl) h'⟩
noncomputable def low_ : Nat := (World.holding Tryz.prog default ⟨#[], #[], []⟩).heap.size
def layC (cs : Array Value) : Obj → Obj
 | .cells _ t f => .cells cs t f
 | o => o
noncomputable def laidWorld (os : Os) : World :=
 { World.holding Tryz.prog os ⟨#[.cells #[.string { data := #[118, 97, 108, 117, 101, 32, 111, 117, 116, 32, 111, 102, 32, 114, 97, 110, 103, 101] }] 378, .cells #[.string { data := #[105, 110, 118, 97, 108, 105, 100, 32, 115, 121, 110, 116, 97, 120] }] 378, .cells #[.slice (some ⟨low_ + 3, 0, none⟩) 7 7, .slice none 0 0, .int .i64 2] 293, .cells #[.int .u16 9, .int .u16 13, .int .u16 1, .int .u16 32, .int .u16 133, .int .u16 101, .int .u16 160, .int .u16 5760, .int .u16 5600, .int .u16 8192, .int .u16 8202, .int .u16 1, .int .u16 8232, .int .u16 8233, .int .u16 1, .int .u16 8239, .int .u16 8287, .int .u16 48, .int .u16 12288, .int .u16 12288, .int .u16 1] 296], #[], []⟩ with heap := (((((((((((((((((((((((World.holding Tryz.prog os ⟨#[.cells #[.string { data := #[118, 97, 108, 117, 101, 32, 111, 117, 116, 32, 111, 102, 32, 114, 97, 110, 103, 101] }] 378, .cells #[.string { data := #[105, 110, 118, 97, 108, 105, 100, 32, 115, 121, 110, 116, 97, 120] }] 378, .cells #[.slice (some ⟨low_ + 3, 0, none⟩) 7 7, .slice none 0 0, .int .i64 2] 293, .cells #[.int .u16 9, .int .u16 13, .int .u16 1, .int .u16 32, .int .u16 133, .int .u16 101, .int .u16 160, .int .u16 5760, .int .u16 5600, .int .u16 8192, .int .u16 8202, .int .u16 1, .int .u16 8232, .int .u16 8233, .int .u16 1, .int .u16 8239, .int .u16 8287, .int .u16 48, .int .u16 12288, .int .u16 12288, .int .u16 1] 296], #[], []⟩).heap).modify 10 (layC #[.int .u8 0, .int .u8 1, .int .u8 28, .int .u8 2, .int .u8 29, .int .u8 14, .int .u8 24, .int .u8 3, .int .u8 30, .int .u8 22, .int .u8 20, .int .u8 15, .int .u8 25, .int .u8 17, .int .u8 4, .int .u8 8, .int .u8 31, .int .u8 27, .int .u8 13, .int .u8 23, .int .u8 21, .int .u8 19, .int .u8 16, .int .u8 7, .int .u8 26, .int .u8 12, .int .u8 18, .int .u8 6, .int .u8 11, .int .u8 5, .int .u8 10, .int .u8 9]))).modify 11 (layC #[.int .u8 0, .int .u8 1, .int .u8 56, .int .u8 2, .int .u8 57, .int .u8 49, .int .u8 28, .int .u8 3, .int .u8 61, .int .u8 58, .int .u8 42, .int .u8 50, .int .u8 38, .int .u8 29, .int .u8 17, .int .u8 4, .int .u8 62, .int .u8 47, .int .u8 59, .int .u8 36, .int .u8 45, .int .u8 43, .int .u8 51, .int .u8 22, .int .u8 53, .int .u8 39, .int .u8 33, .int .u8 30, .int .u8 24, .int .u8 18, .int .u8 12, .int .u8 5, .int .u8 63, .int .u8 55, .int .u8 48, .int .u8 27, .int .u8 60, .int .u8 41, .int .u8 37, .int .u8 16, .int .u8 46, .int .u8 35, .int .u8 44, .int .u8 21, .int .u8 52, .int .u8 32, .int .u8 23, .int .u8 11, .int .u8 54, .int .u8 26, .int .u8 40, .int .u8 15, .int .u8 34, .int .u8 20, .int .u8 31, .int .u8 10, .int .u8 25, .int .u8 14, .int .u8 19, .int .u8 9, .int .u8 13, .int .u8 8, .int .u8 7, .int .u8 6]))).modify 5 (layC #[.int .u64 1, .int .u64 10, .int .u64 100, .int .u64 1000, .int .u64 10000, .int .u64 100000, .int .u64 1000000, .int .u64 10000000, .int .u64 100000000, .int .u64 1000000000, .int .u64 10000000000, .int .u64 100000000000, .int .u64 1000000000000, .int .u64 10000000000000, .int .u64 100000000000000, .int .u64 1000000000000000, .int .u64 10000000000000000, .int .u64 100000000000000000, .int .u64 1000000000000000000, .int .u64 10000000000000000000]))).modify 9 (layC #[.int .u8 128, .int .u8 191, .int .u8 160, .int .u8 191, .int .u8 128, .int .u8 159, .int .u8 144, .int .u8 191, .int .u8 128, .int .u8 143, .int .u8 0, .int .u8 0, .int .u8 0, .int .u8 0, .int .u8 0, .int .u8 0, .int .u8 0, .int .u8 0, .int .u8 0, .int .u8 0, .int .u8 0, .int .u8 0, .int .u8 0, .int .u8 0, .int .u8 0, .int .u8 0, .int .u8 0, .int .u8 0, .int .u8 0, .int .u8 0, .int .u8 0, .int .u8 0]))).modify 2 (layC #[.iface 323 (.agg #[hdl 34])]))).modify 7 (layC #[.iface 376 (.pointer (some ⟨low_, 0, none⟩))]))).modify 6 (layC #[.iface 376 (.pointer (some ⟨low_ + 1, 0, none⟩))]))).modify 4 (layC #[.int .i64 0, .int .i64 14, .int .i64 48, .int .i64 448, .int .i64 1536, .int .i64 1536, .int .i64 6144]))).modify 1 (layC #[.pointer (some ⟨low_ + 2, 0, none⟩)]))).modify 0 (layC #[.int .u8 0, .int .u8 0, .int .u8 0, .int .u8 0, .int .u8 0, .int .u8 0, .int .u8 0, .int .u8 0, .int .u8 0, .int .u8 1, .int .u8 1, .int .u8 1, .int .u8 1, .int .u8 1, .int .u8 0, .int .u8 0, .int .u8 0, .int .u8 0, .int .u8 0, .int .u8 0, .int .u8 0, .int .u8 0, .int .u8 0, .int .u8 0, .int .u8 0, .int .u8 0, .int .u8 0, .int .u8 0, .int .u8 0, .int .u8 0, .int .u8 0, .int .u8 0, .int .u8 1, .int .u8 0, .int .u8 0, .int .u8 0, .int .u8 0, .int .u8 0, .int .u8 0, .int .u8 0, .int .u8 0, .int .u8 0, .int .u8 0, .int .u8 0, .int .u8 0, .int .u8 0, .int .u8 0, .int .u8 0, .int .u8 0, .int .u8 0, .int .u8 0, .int .u8 0, .int .u8 0, .int .u8 0, .int .u8 0, .int .u8 0, .int .u8 0, .int .u8 0, .int .u8 0, .int .u8 0, .int .u8 0, .int .u8 0, .int .u8 0, .int .u8 0, .int .u8 0, .int .u8 0, .int .u8 0, .int .u8 0, .int .u8 0, .int .u8 0, .int .u8 0, .int .u8 0, .int .u8 0, .int .u8 0, .int .u8 0, .int .u8 0, .int .u8 0, .int .u8 0, .int .u8 0, .int .u8 0, .int .u8 0, .int .u8 0, .int .u8 0, .int .u8 0, .int .u8 0, .int .u8 0, .int .u8 0, .int .u8 0, .int .u8 0, .int .u8 0, .int .u8 0, .int .u8 0, .int .u8 0, .int .u8 0, .int .u8 0, .int .u8 0, .int .u8 0, .int .u8 0, .int .u8 0, .int .u8 0, .int .u8 0, .int .u8 0, .int .u8 0, .int .u8 0, .int .u8 0, .int .u8 0, .int .u8 0, .int .u8 0, .int .u8 0, .int .u8 0, .int .u8 0, .int .u8 0, .int .u8 0, .int .u8 0, .int .u8 0, .int .u8 0, .int .u8 0, .int .u8 0, .int .u8 0, .int .u8 0, .int .u8 0, .int .u8 0, .int .u8 0, .int .u8 0, .int .u8 0, .int .u8 0, .int .u8 0, .int .u8 0, .int .u8 0, .int .u8 0, .int .u8 0, .int .u8 0, .int .u8 0, .int .u8 0, .int .u8 0, .int .u8 0, .int .u8 0, .int .u8 0, .int .u8 0, .int .u8 0, .int .u8 0, .int .u8 0, .int .u8 0, .int .u8 0, .int .u8 0, .int .u8 0, .int .u8 0, .int .u8 0, .int .u8 0, .int .u8 0, .int .u8 0, .int .u8 0, .int .u8 0, .int .u8 0, .int .u8 0, .int .u8 0, .int .u8 0, .int .u8 0, .int .u8 0, .int .u8 0, .int .u8 0, .int .u8 0, .int .u8 0, .int .u8 0, .int .u8 0, .int .u8 0, .int .u8 0, .int .u8 0, .int .u8 0, .int .u8 0, .int .u8 0, .int .u8 0, .int .u8 0, .int .u8 0, .int .u8 0, .int .u8 0, .int .u8 0, .int .u8 0, .int .u8 0, .int .u8 0, .int .u8 0, .int .u8 0, .int .u8 0, .int .u8 0, .int .u8 0, .int .u8 0, .int .u8 0, .int .u8 0, .int .u8 0, .int .u8 0, .int .u8 0, .int .u8 0, .int .u8 0, .int .u8 0, .int .u8 0, .int .u8 0, .int .u8 0, .int .u8 0, .int .u8 0, .int .u8 0, .int .u8 0, .int .u8 0, .int .u8 0, .int .u8 0, .int .u8 0, .int .u8 0, .int .u8 0, .int .u8 0, .int .u8 0, .int .u8 0, .int .u8 0, .int .u8 0, .int .u8 0, .int .u8 0, .int .u8 0, .int .u8 0, .int .u8 0, .int .u8 0, .int .u8 0, .int .u8 0, .int .u8 0, .int .u8 0, .int .u8 0, .int .u8 0, .int .u8 0, .int .u8 0, .int .u8 0, .int .u8 0, .int .u8 0, .int .u8 0, .int .u8 0, .int .u8 0, .int .u8 0, .int .u8 0, .int .u8 0, .int .u8 0, .int .u8 0, .int .u8 0, .int .u8 0, .int .u8 0, .int .u8 0, .int .u8 0, .int .u8 0, .int .u8 0, .int .u8 0, .int .u8 0, .int .u8 0, .int .u8 0, .int .u8 0, .int .u8 0, .int .u8 0, .int .u8 0, .int .u8 0, .int .u8 0, .int .u8 0, .int .u8 0]))).modify 8 (layC #[.int .u8 240, .int .u8 240, .int .u8 240, .int .u8 240, .int .u8 240, .int .u8 240, .int .u8 240, .int .u8 240, .int .u8 240, .int .u8 240, .int .u8 240, .int .u8 240, .int .u8 240, .int .u8 240, .int .u8 240, .int .u8 240, .int .u8 240, .int .u8 240, .int .u8 240, .int .u8 240, .int .u8 240, .int .u8 240, .int .u8 240, .int .u8 240, .int .u8 240, .int .u8 240, .int .u8 240, .int .u8 240, .int .u8 240, .int .u8 240, .int .u8 240, .int .u8 240, .int .u8 240, .int .u8 240, .int .u8 240, .int .u8 240, .int .u8 240, .int .u8 240, .int .u8 240, .int .u8 240, .int .u8 240, .int .u8 240, .int .u8 240, .int .u8 240, .int .u8 240, .int .u8 240, .int .u8 240, .int .u8 240, .int .u8 240, .int .u8 240, .int .u8 240, .int .u8 240, .int .u8 240, .int .u8 240, .int .u8 240, .int .u8 240, .int .u8 240, .int .u8 240, .int .u8 240, .int .u8 240, .int .u8 240, .int .u8 240, .int .u8 240, .int .u8 240, .int .u8 240, .int .u8 240, .int .u8 240, .int .u8 240, .int .u8 240, .int .u8 240, .int .u8 240, .int .u8 240, .int .u8 240, .int .u8 240, .int .u8 240, .int .u8 240, .int .u8 240, .int .u8 240, .int .u8 240, .int .u8 240, .int .u8 240, .int .u8 240, .int .u8 240, .int .u8 240, .int .u8 240, .int .u8 240, .int .u8 240, .int .u8 240, .int .u8 240, .int .u8 240, .int .u8 240, .int .u8 240, .int .u8 240, .int .u8 240, .int .u8 240, .int .u8 240, .int .u8 240, .int .u8 240, .int .u8 240, .int .u8 240, .int .u8 240, .int .u8 240, .int .u8 240, .int .u8 240, .int .u8 240, .int .u8 240, .int .u8 240, .int .u8 240, .int .u8 240, .int .u8 240, .int .u8 240, .int .u8 240, .int .u8 240, .int .u8 240, .int .u8 240, .int .u8 240, .int .u8 240, .int .u8 240, .int .u8 240, .int .u8 240, .int .u8 240, .int .u8 240, .int .u8 240, .int .u8 240, .int .u8 240, .int .u8 240, .int .u8 240, .int .u8 240, .int .u8 241, .int .u8 241, .int .u8 241, .int .u8 241, .int .u8 241, .int .u8 241, .int .u8 241, .int .u8 241, .int .u8 241, .int .u8 241, .int .u8 241, .int .u8 241, .int .u8 241, .int .u8 241, .int .u8 241, .int .u8 241, .int .u8 241, .int .u8 241, .int .u8 241, .int .u8 241, .int .u8 241, .int .u8 241, .int .u8 241, .int .u8 241, .int .u8 241, .int .u8 241, .int .u8 241, .int .u8 241, .int .u8 241, .int .u8 241, .int .u8 241, .int .u8 241, .int .u8 241, .int .u8 241, .int .u8 241, .int .u8 241, .int .u8 241, .int .u8 241, .int .u8 241, .int .u8 241, .int .u8 241, .int .u8 241, .int .u8 241, .int .u8 241, .int .u8 241, .int .u8 241, .int .u8 241, .int .u8 241, .int .u8 241, .int .u8 241, .int .u8 241, .int .u8 241, .int .u8 241, .int .u8 241, .int .u8 241, .int .u8 241, .int .u8 241, .int .u8 241, .int .u8 241, .int .u8 241, .int .u8 241, .int .u8 241, .int .u8 241, .int .u8 241, .int .u8 241, .int .u8 241, .int .u8 2, .int .u8 2, .int .u8 2, .int .u8 2, .int .u8 2, .int .u8 2, .int .u8 2, .int .u8 2, .int .u8 2, .int .u8 2, .int .u8 2, .int .u8 2, .int .u8 2, .int .u8 2, .int .u8 2, .int .u8 2, .int .u8 2, .int .u8 2, .int .u8 2, .int .u8 2, .int .u8 2, .int .u8 2, .int .u8 2, .int .u8 2, .int .u8 2, .int .u8 2, .int .u8 2, .int .u8 2, .int .u8 2, .int .u8 2, .int .u8 19, .int .u8 3, .int .u8 3, .int .u8 3, .int .u8 3, .int .u8 3, .int .u8 3, .int .u8 3, .int .u8 3, .int .u8 3, .int .u8 3, .int .u8 3, .int .u8 3, .int .u8 35, .int .u8 3, .int .u8 3, .int .u8 52, .int .u8 4, .int .u8 4, .int .u8 4, .int .u8 68, .int .u8 241, .int .u8 241, .int .u8 241, .int .u8 241, .int .u8 241, .int .u8 241, .int .u8 241, .int .u8 241, .int .u8 241, .int .u8 241, .int .u8 241])) }
theorem laidWorld_met (os : Os) (args : Array Value) : laidMetH Tryz.prog laidL ((laidWorld os).forCall (fun _ _ => 0) ⟨#[], args, []⟩).memory := by
 have h : laidMet Tryz.prog [("math/bits.deBruijn32tab", Rows.laid_math_bits_deBruijn32tab), ("math/bits.deBruijn64tab", Rows.laid_math_bits_deBruijn64tab), ("internal/strconv.uint64pow10", Rows.laid_internal_strconv_uint64pow10), ("unicode/utf8.acceptRanges", Rows.laid_unicode_utf8_acceptRanges), ("strconv.ErrRange", Rows.laid_strconv_ErrRange), ("strconv.ErrSyntax", Rows.laid_strconv_ErrSyntax), ("testimony/model.knows", Rows.laid_testimony_model_knows), ("unicode.White_Space", Rows.laid_unicode_White_Space), ("strings.asciiSpace", Rows.laid_strings_asciiSpace), ("unicode/utf8.first", Rows.laid_unicode_utf8_first)] ((laidWorld os).forCall (fun _ _ => 0) ⟨#[], args, []⟩).memory :=
  laidMet_of_run3 80 (by kernel_rfl) (by kernel_rfl) (by kernel_rfl)
 exact laidMetH_of_parts h (by kernel_rfl)
open Go
theorem returnsInHanded_shp {H : Type} {enc : TypeId × Value → H} {a : Assume} {C : Checked} {os : Os} {f : FuncId} {fn : Func} {s : ChangeSpec} {conds : List PathCond} {apart fresh handsOn again : Bool} {X : World → Array Value → Prop}
  (hX : ∀ (w w' : World) (args : Array Value), w.heap = w'.heap → X w args → X w' args)
  (own : ownKnob C.prog.godebug = none) (started : os.Started) (noInit : C.prog.inits.idxOf? f = none) (hfn : C.prog.funcs[f]? = some fn)
  (witness : ∃ (w : World) (tape : Tape) (i : Input), w.os = os ∧ (w.forCall tape i).Shaped C.prog ∧ i.vars = [] ∧ Input.okWide C.prog (w.forCall tape i) .any w.heap.size f i ∧
   ((s.pre enc C.prog fn conds apart (w.forCall tape i).memory i.args ∧ X (w.forCall tape i).memory i.args) ∧ sizedMet enc C.prog fn (OpenSpec.ofChange s) apart (w.forCall tape i).memory i.args) ∧ a.holds C.prog (lone (Frame.enter C.prog f i.args .normal) [] (w.forCall tape i)))
  (contract : ∀ (W : World) (base : Nat) (args : Array Value) (ds gs : List (DataW H)) (before : List MemPlace), W.ShapedOpen C.prog →
   (∀ (j : Nat) t v, fn.params[j]? = some t → args[j]? = some v → Value.okWide C.prog W .any base t v) →
   DataW.Whole enc C.prog fn.params.toList s.vars apart W args.toList ds gs before →
   conds.all (PathCond.test C.prog ⟨fn.params.toList, ds, s.plain.varTypes C.prog, gs⟩) = true →
   (DataW.weightsEach C.prog (fn.params.toList ++ s.plain.varTypes C.prog) (ds ++ gs)).all (· ≤ reachBytes) = true → X W args →
   a.holds C.prog (lone (Frame.enter C.prog f args .normal) [] W) →
   Calls C.prog f args W fun e W' => ∃ v, e = .returned v ∧ s.post enc C.prog fn apart fresh handsOn again W args v W') :
  ReturnsInHanded a C os f .any (fun w args => (s.pre enc C.prog fn conds apart w args ∧ X w args) ∧ sizedMet enc C.prog fn (OpenSpec.ofChange s) apart w args) (s.post enc C.prog fn apart fresh handsOn again) := by
 refine returnsInHanded_of_calls own started noInit witness ?_
 intro w tape i _ hsh _ hok hpre hholds
 obtain ⟨_, _, _, fn', hfn', _, _, _, _, hval⟩ := hok
 have e : fn' = fn := Option.some.inj (hfn'.symm.trans hfn)
 subst e
 obtain ⟨⟨⟨ds, gs, before, hw, hc⟩, hx⟩, hz⟩ := hpre
 have hw' := DataW.Whole.of_heap (w' := w.forCall tape i) (by rfl) hw
 refine (contract (w.forCall tape i) w.heap.size i.args ds gs before hsh hval hw' hc (hz.weights hw) (hX _ _ _ (by rfl) hx) hholds).mono fun e W' ⟨v, he, hp⟩ => ?_
 subst he
 exact ChangeSpec.post_blind hp
theorem witness_ref {H : Type} {enc : TypeId × Value → H} {C : Checked} {os : Os} {f : FuncId} {fn : Func} {s : ChangeSpec} {conds : List PathCond} {apart : Bool} {X : World → Array Value → Prop} (modest : Bool) (w0 : World) (args : Array Value) (fuel : Nat) (hos : w0.os = os)
  (hv : (w0.forCall (fun _ _ => 0) ⟨#[], args, []⟩).variablesRefB C.prog = true)
  (hr : ((w0.forCall (fun _ _ => 0) ⟨#[], args, []⟩).heap.toList.drop C.prog.globals.size).take ((begin C.prog (fun _ _ => 0) default).world.heap.size - C.prog.globals.size) =
   (begin C.prog (fun _ _ => 0) default).world.heap.toList.drop C.prog.globals.size)
  (hok : Input.okWideB C.prog (w0.forCall (fun _ _ => 0) ⟨#[], args, []⟩) f ⟨#[], args, []⟩ = true)
  (hpre : s.preB enc C.prog fn conds apart (w0.forCall (fun _ _ => 0) ⟨#[], args, []⟩).memory args fuel = true)
  (hsz : s.sizedB enc C.prog fn apart (w0.forCall (fun _ _ => 0) ⟨#[], args, []⟩).memory args fuel = true)
  (hx : X (w0.forCall (fun _ _ => 0) ⟨#[], args, []⟩).memory args) :
  ∃ (w : World) (tape : Tape) (i : Input), w.os = os ∧ (w.forCall tape i).Shaped C.prog ∧ i.vars = [] ∧ Input.okWide C.prog (w.forCall tape i) .any w.heap.size f i ∧
   ((s.pre enc C.prog fn conds apart (w.forCall tape i).memory i.args ∧ X (w.forCall tape i).memory i.args) ∧ sizedMet enc C.prog fn (OpenSpec.ofChange s) apart (w.forCall tape i).memory i.args) ∧ ({ modest := modest } : Assume).holds C.prog (lone (Frame.enter C.prog f i.args .normal) [] (w.forCall tape i)) :=
 ⟨w0, fun _ _ => 0, ⟨#[], args, []⟩, hos, World.shaped_of_RefB hv hr, (Input.okWide_of_okWideB (base := 0) hok).1, (Input.okWide_of_okWideB hok).2, ⟨⟨ChangeSpec.pre_of_preB hpre, hx⟩, sizedMet_of_sizedB hsz⟩, by
  simp only [Assume.holds]
  exact ⟨by simp, by simp, fun _ => Modest.zero, by simp, by simp⟩⟩
end Go.Proofs.YtlkobbighkiojaaGreatDoor
