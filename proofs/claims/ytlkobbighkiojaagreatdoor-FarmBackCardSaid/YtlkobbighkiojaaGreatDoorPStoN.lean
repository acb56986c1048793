/- FarmBack. -/
import Derived.Test.YtlkobbighkiojaaGreatDoorPA
import Derived.Test.YtlkobbighkiojaaGreatDoorPTxt6
import Derived.Test.YtlkobbighkiojaaGreatDoorPStoB
import Derived.Test.YtlkobbighkiojaaGreatDoorPEvo2
import Derived.Test.YtlkobbighkiojaaGreatDoorProg
import Derived.Test.YtlkobbighkiojaaGreatDoorPReg
import Derived.Test.YtlkobbighkiojaaGreatDoorPSxI
import Derived.Test.YtlkobbighkiojaaGreatDoorPStoI
set_option maxHeartbeats 8000000
set_option linter.unusedVariables false
set_option linter.unusedSimpArgs false
namespace Go.Proofs.YtlkobbighkiojaaGreatDoor
open Tryz
open Go.RowKit
theorem fg_word : ∀ (w cur l : List UInt8), (∀ c ∈ w, Lib.isSp c = false) → Lib.fieldsGo cur (w ++ l) = Lib.fieldsGo (cur ++ w) l
 | [], cur, l, _ => by rw [List.nil_append, List.append_nil]
 | c :: w, cur, l, h => by
  rw [List.cons_append, Lib.fieldsGo, h c List.mem_cons_self]
  rw [if_neg (by simp), fg_word w (cur ++ [c]) l (fun x hx => h x (List.mem_cons_of_mem _ hx)), List.append_assoc]; rfl
theorem fg_tail : ∀ (r : List (List UInt8)) (x : List UInt8), x ≠ [] → (∀ w ∈ r, w ≠ [] ∧ ∀ c ∈ w, Lib.isSp c = false) → Lib.fieldsGo x (Lib.joinTail [32] r) = x :: r
 | [], x, hx, _ => by
  unfold Lib.joinTail
  rw [List.map_nil, List.flatten_nil, Lib.fieldsGo, if_neg (by simpa using hx)]
 | y :: r, x, hx, h => by
  obtain ⟨hy, hyc⟩ := h y List.mem_cons_self
  have ih := fg_tail r y hy fun w hw => h w (List.mem_cons_of_mem _ hw)
  unfold Lib.joinTail at ih ⊢
  rw [List.map_cons, List.flatten_cons, List.cons_append, List.cons_append, List.nil_append, Lib.fieldsGo, if_pos (by decide), if_neg (by simpa using hx), fg_word y [] _ hyc, List.nil_append, ih]
theorem fields_join (ws : List (List UInt8)) (h : ∀ w ∈ ws, w ≠ [] ∧ ∀ c ∈ w, Lib.isSp c = false) : Lib.fields (Lib.join ws [32]) = ws := by
 unfold Lib.fields
 cases ws with
 | nil => rfl
 | cons x r =>
  obtain ⟨hx, hxc⟩ := h x List.mem_cons_self
  rw [Lib.join_cons, fg_word x [] _ hxc, List.nil_append, fg_tail r x hx fun w hw => h w (List.mem_cons_of_mem _ hw)]
theorem dig_sp : ∀ n : Nat, n < 256 → 48 ≤ n → n ≤ 57 → Lib.isSp (UInt8.ofNat n) = false := by decide +kernel
theorem fields_ord (l : List Nat) : Lib.fields (ordS l) = itoL l := fields_join _ fun w hw => by
 obtain ⟨n, _, rfl⟩ := List.mem_map.1 hw
 refine ⟨(itoa_word _).1, fun c hc => ?_⟩
 have h1 := itoaN_digits n c hc
 have h2 := dig_sp c.toNat c.toNat_lt h1.1 h1.2
 rwa [UInt8.ofNat_toNat] at h2
theorem ordS_ascii (l : List Nat) (j : Nat) (b : UInt8) (h : (ordS l)[j]? = some b) : b.toNat < 128 := by
 have hm := List.mem_of_getElem? h
 rcases Nat.lt_or_ge b.toNat 128 with h1 | h1
 ·exact h1
 exfalso
 refine join_no (x := b) (fun e => by rw [e] at h1; exact absurd h1 (by decide)) _ (fun w hw hb => ?_) hm
 obtain ⟨n, _, rfl⟩ := List.mem_map.1 hw
 have := itoaN_digits n b hb
 omega
def intV (n : Nat) : Value := .int .i64 (n : Int)
theorem intV_next {l : List Nat} {k n : Nat} (h : l[k]? = some n) : (l.take k).map intV ++ [intV n] = (l.take (k + 1)).map intV := by
 obtain ⟨hk, rfl⟩ := List.getElem?_eq_some_iff.1 h
 rw [List.take_add_one, List.getElem?_eq_getElem hk]
 simp only [Option.toList_some, List.map_append, List.map_cons, List.map_nil]
set_option maxRecDepth 4000 in
theorem read_any (title : List UInt8) (ht : title.length ≤ 1000) (evs : List Ev) (hel : evs.length ≤ 120) (hev : evs.all evOkB = true) (hevl : (textE evs).length ≤ 10000) (z : Nat) (hz : z < 3) (ord : List Nat) (hol : ord.length ≤ 40) (hob : ∀ n ∈ ord, n ≤ 1000000) (en : Nat) (hen : en ≤ 1000000) (w0 : World) (hG : TxG w0) (hM : MaxOk w0) :
  Cq 28 #[strV (pageF title z en ord (textE evs))] w0 fun e w' => ∃ A1 c1 A2 c2, e = .returned (.tuple #[.agg #[strV title, .slice A1 evs.length c1, .int .i64 ((z + 1 : Nat) : Int), .slice A2 ord.length c2, .int .i64 (en : Int)], .bool true]) ∧ Inv NF w0 w' [Row 0 70 7 A1 evs.length c1 (evs.flatMap evL), Win 3 1 A2 ord.length c2 (ord.map intV)] := by
 have hI := Inv.start (fun _ => False) w0
 have hle := (escF_len title).2
 have hor := ordS_len ord hob
 have hcl := (codeW_ok z hz).2.2.1
 have hil := itoaT_len (n := (en : Int)) (by omega) (by omega)
 have hvl : (verdS z en).length ≤ 30 := by unfold verdS; rw [List.length_append, List.length_cons]; omega
 have l1 : eHd.length = 9 := rfl
 have l2 : ePt.length = 8 := rfl
 have l3 : bTx.length = 11 := rfl
 have l4 : eTx.length = 7 := rfl
 rw [page_eq]
 obtain ⟨R4, hR4⟩ : ∃ R, R = textE evs ++ eTx := ⟨_, rfl⟩
 obtain ⟨R3, hR3⟩ : ∃ R, R = ordS ord ++ (bTx ++ R4) := ⟨_, rfl⟩
 obtain ⟨R2, hR2⟩ : ∃ R, R = verdS z en ++ (ePt ++ R3) := ⟨_, rfl⟩
 have n4 : R4.length ≤ 10007 := by rw [hR4, List.length_append]; omega
 have n3 : R3.length ≤ 11000 := by rw [hR3]; simp only [List.length_append]; omega
 have n2 : R2.length ≤ 12000 := by rw [hR2]; simp only [List.length_append]; omega
 rw [← hR4, ← hR3, ← hR2]
 have n1 : (escF title ++ (eHd ++ R2)).length ≤ 100000 := by simp only [List.length_append]; omega
 refine Vn func28 rfl ?_
 refine Wq (T1 (.agg #[.string ⟨#[]⟩, .slice none 0 0, .int .i64 0, .slice none 0 0, .int .i64 0]) (#[.string ⟨#[]⟩, .slice none 0 0, .int .i64 0, .slice none 0 0, .int .i64 0]) hI rfl ?_)
 rintro b2 w - - hI
 refine V8 rfl (Wn (Wq (Vh rfl (Va [.string _, .string _] rfl func62 rfl ?_))))
 refine (cutp_any hBg (escF title ++ (eHd ++ R2)) _).mono ?_
 rintro e w1 ⟨rfl, rfl⟩
 refine rV ?_
 refine Vz rfl (Vg rfl (Vg rfl (T4 rfl (V8 rfl (Wn (Wq (Vh rfl (Va [.string _, .string _] rfl func50 rfl ?_))))))))
 refine (cutS_any (escF title ++ (eHd ++ R2)) eHd (escF title) R2 true n1 (cut_head title R2) _ (hM.pure hI.pu)).mono (okP hI fun w1 hp hI => ?_)
 refine Vz rfl (Vg rfl (Vg rfl (Vg rfl (T4 rfl (T4 rfl (V8 rfl (Wn (Wq (Vh rfl (Va [.string _, .string _] rfl func50 rfl ?_))))))))))
 rw [hR2]
 refine (cutS_any (verdS z en ++ (ePt ++ R3)) ePt (verdS z en) R3 true (by rw [← hR2]; omega) (cut_verd hz R3) _ (hM.pure hI.pu)).mono (okP hI fun w1 hp hI => ?_)
 refine Vz rfl (Vg rfl (Vg rfl (Vg rfl (T4 rfl (T4 rfl (V8 rfl (Wn (Wq (Vh rfl (Va [.string _, .string _] rfl func50 rfl ?_))))))))))
 rw [hR3]
 refine (cutS_any (ordS ord ++ (bTx ++ R4)) bTx (ordS ord) R4 true (by rw [← hR3]; omega) (cut_ord ord R4) _ (hM.pure hI.pu)).mono (okP hI fun w1 hp hI => ?_)
 refine Vz rfl (Vg rfl (Vg rfl (Vg rfl (T4 rfl (T4 rfl (V8 rfl (Wn (Wq (Vh rfl (Va [.string _, .string _] rfl func63 rfl ?_))))))))))
 rw [hR4]
 refine (cuts_any (textE evs) eTx (by rw [← hR4]; omega) _).mono ?_
 rintro e w1 ⟨rfl, rfl⟩
 refine rV ?_
 refine Vz rfl (Vg rfl (Vg rfl (T4 rfl (V8 rfl (Wn (Wq (Vh rfl (Va [.string _, .string _] rfl func50 rfl ?_))))))))
 refine (cutS_any (verdS z en) [32] (codeW z) (Lib.itoa (en : Int)) true (by omega) (cut_code hz) _ (hM.pure hI.pu)).mono (okP hI fun w1 hp hI => ?_)
 refine Vz rfl (Vg rfl (Vg rfl (Vg rfl (T4 rfl (T4 rfl (V8 rfl (Wn (Wq (Vh rfl (Va [.string _] rfl func64 rfl ?_))))))))))
 refine (unesc_any title ht _).mono (okP hI fun w1 hp hI => ?_)
 refine Wv rfl (rBuildV (v := .agg #[strV title, .slice none 0 0, .int .i64 0, .slice none 0 0, .int .i64 0]) rfl rfl (fun _ => by kernel_rfl)) ?_
 refine T1 (.agg #[.string ⟨#[]⟩, .slice none 0 0, .int .i64 0, .slice none 0 0, .int .i64 0]) (#[.string ⟨#[]⟩, .slice none 0 0, .int .i64 0, .slice none 0 0, .int .i64 0]) hI rfl ?_
 rintro b17 w - - hI
 refine T7 5 (#[strV title, .slice none 0 0, .int .i64 0, .slice none 0 0, .int .i64 0]) (.agg #[strV title, .slice none 0 0, .int .i64 0, .slice none 0 0, .int .i64 0]) hI rfl ?_
 intro w1 hI
 refine Wn (Wq (Va [.string _] rfl func26 rfl ?_))
 refine (fields_any codeS codeWs fields_codeS (by decide) codeS_ascii _ (hG.pure hI.pu)).mono ?_
 rintro e w1 ⟨g, rfl, hT⟩
 refine rV ?_
 have hI := hI.app1 hT
 refine Vh rfl (Va [.slice _ _ _, .string _] rfl func65 rfl ?_)
 refine (idxAt_any g codeWs.length codeWs (codeW z) z (codeW_ok z hz).2.2.2 codeWs_nd (by decide) _ (fun j y hj => hI.c0 (by rw [List.getElem?_toArray, List.getElem?_map, hj]; rfl))).mono ?_
 rintro e w1 ⟨rfl, rfl⟩
 refine rV ?_
 refine Ud rfl (V7 2 rfl (Tj rfl ?_))
 refine WL_st1 (u := .int .i64 _) hI rfl rfl rfl rfl rfl rfl (by kernel_rfl) rfl rfl rfl ?_
 intro w hI
 refine Wn ?_
 have hI := hI.d0
 refine Wq (Vh rfl (Va [.string _] rfl func66 rfl ?_))
 refine (atoi_any (Lib.itoa (en : Int)) (by omega) _ (hG.pure hI.pu).num).mono ?_
 unfold atoiPost
 rw [atoi_itoa (by omega) (by omega)]
 rintro e w1 ⟨⟨rfl, -⟩, hp1⟩
 refine rV ?_
 have hI := hI.pure hp1
 refine Vz rfl (Vg rfl (Vg rfl (Vc rfl (Vj rfl (Wn (Ws (Wq (V6 rfl (T9 rfl (V6 rfl (V6 rfl (T9 rfl ?_))))))))))))
 refine Ve rfl (V6 rfl (V6 rfl (T9 rfl (Ve rfl (V6 rfl (V6 rfl (T9 rfl (Ve rfl (V6 rfl (V6 rfl (T9 rfl (Ve rfl (V6 rfl ?_)))))))))))))
 refine T8 rfl (Te rfl yy34 rfl (Ve rfl (Wn (Wc false rfl (Wk (Wq (V0 rfl (V7 2 rfl (Tf 2 rfl (Ue (.int .i64 _) hI rfl ?_))))))))))
 intro w hI
 refine Wn ?_
 have hI := hI.fresh (Pure.refl _) (Win.ok (e := 3) (size := 1) (A := none) (n := 0) (c := 0) (xs := []) ⟨rfl, Nat.le_refl _, by omega, .inl ⟨rfl, rfl⟩⟩) (fun k hk => by cases hk)
 have hlo : (itoL ord).length = ord.length := by simp [itoL]
 refine Wx (fun ρ w => ∃ (A : Option Addr) (c : Nat), Has ρ [(17, at0 b17), (2, at0 b2), (12, strV (textE evs))] ∧ Inv NF w0 w [Win 3 1 A ord.length c (ord.map intV), B b17 32 #[strV title, (.slice none 0 0), .int .i64 ((z + 1 : Nat) : Int), .slice A ord.length c, .int .i64 (en : Int)], B b2 32 #[strV [], .slice none 0 0, .int .i64 0, .slice none 0 0, .int .i64 0]]) ?_ ?_
 ·refine Wq (Vh rfl (Va [.string _] rfl func26 rfl ?_))
  refine (fields_any (ordS ord) (itoL ord) (fields_ord ord) (by omega) (ordS_ascii ord) _ (hG.pure hI.pu)).mono ?_
  rintro e w1 ⟨gF, rfl, hT⟩
  refine rV ?_
  replace hI := (hI.app1 hT).sw0
  refine Vs rfl yy72 rfl (V0 rfl (Wn ?_))
  have hz1 : (1 + (z : Int)) = ((z + 1 : Nat) : Int) := by omega
  rw [hz1] at hI
  replace hI : Inv NF w0 _ [Win 3 1 none 0 0 ((ord.take 0).map intV), B gF 9 ((itoL ord).map strV).toArray, B b17 32 #[strV title, (.slice none 0 0), .int .i64 ((z + 1 : Nat) : Int), .slice none 0 0, .int .i64 (en : Int)], B b2 32 #[strV [], .slice none 0 0, .int .i64 0, .slice none 0 0, .int .i64 0]] := hI
  refine Wb ?_
  refine Wl (fun mu ρ w => ∃ (k : Nat) (A : Option Addr) (c : Nat), mu = ord.length - k ∧ k ≤ ord.length ∧ Has ρ [(101, .int .i64 (k : Int)), (100, .int .i64 ((itoL ord).length : Int)), (99, .slice (some ⟨gF, 0, none⟩) (itoL ord).length (itoL ord).length), (17, at0 b17), (2, at0 b2), (12, strV (textE evs))] ∧ Inv NF w0 w [Win 3 1 A k c ((ord.take k).map intV), B gF 9 ((itoL ord).map strV).toArray, B b17 32 #[strV title, (.slice none 0 0), .int .i64 ((z + 1 : Nat) : Int), .slice A k c, .int .i64 (en : Int)], B b2 32 #[strV [], .slice none 0 0, .int .i64 0, .slice none 0 0, .int .i64 0]]) ord.length
   ⟨0, none, 0, rfl, by omega, ⟨rfl, rfl, rfl, rfl, rfl, rfl, trivial⟩, hI⟩ ?_
  clear hI
  rintro mu ρ w ⟨k, A, c, rfl, hk, hH, hI⟩
  obtain ⟨σ, rfl⟩ := hH.open
  by_cases hkl : k < ord.length
  rotate_left
  ·obtain rfl : k = ord.length := by omega
   rw [List.take_length] at hI
   refine Wq (Vr rfl (Wn (Ws (Wc false rfl ?_))))
   refine WE ?_
   exact ⟨A, c, ⟨rfl, rfl, rfl, trivial⟩, hI.d1⟩
  obtain ⟨n, hn⟩ : ∃ n, ord[k]? = some n := ⟨_, List.getElem?_eq_getElem hkl⟩
  have hnb := hob n (List.mem_of_getElem? hn)
  have hc : w.cell? ⟨gF, k, none⟩ = some (strV (Lib.itoa (n : Int))) := by
   refine hI.c1 ?_
   rw [List.getElem?_toArray, itoL, List.getElem?_map, List.getElem?_map, hn]
   rfl
  have hin := itoaT_len (n := (n : Int)) (by omega) (by omega)
  refine Wq (Vt rfl (Wn (Ws (Wc true rfl (Wk (Ws (Wb (Wq (Tp rfl yy72 rfl (V5 (.string _) rfl hc (T4 rfl ?_)))))))))))
  refine Wn (Wq (Vh rfl (Va [.string _] rfl func66 rfl ?_)))
  refine (atoi_any (Lib.itoa (n : Int)) (by omega) _ (hG.pure hI.pu).num).mono ?_
  unfold atoiPost
  rw [atoi_itoa (by omega) (by omega)]
  rintro e w1 ⟨⟨rfl, -⟩, hp1⟩
  refine rV ?_
  have hI := hI.pure hp1
  refine Vz rfl (Vg rfl (Vg rfl (Vc rfl (Vj rfl (Wn (Ws (Wq (T8 rfl (Te rfl yy34 rfl (Wn (Wc false rfl (Wk ?_))))))))))))
  refine Wr (V7 2 rfl (Tf 1 rfl (V5 (.slice _ _ _) rfl (hI.c2 rfl) (V0 rfl (T3 [(0, .int .i64 _)] [_] [.int .i64 0] [0] hI rfl yy26 (fun _ => by kernel_rfl) ?_)))))
  rintro b117 w - - hI
  have hsrc := src_blk yy26 (news := [intV n]) hI.g0 (fun v hv => by rw [List.mem_singleton.1 hv]; rfl)
  have hI := hI.d0
  refine WL_appW (z := .int .i64 0) (by_ := 8) (news := [intV n]) _ hI rfl rfl rfl rfl rfl rfl yy26 (by kernel_rfl) rfl (by omega) hsrc (by show k + 1 ≤ _; omega) (by show (k + 1) * _ ≤ _; omega) ?_
  rintro A' c' w hc3 hc4 hI
  rw [intV_next hn] at hI
  refine V7 2 rfl (Tf 1 rfl ?_)
  refine WL_st2 (u := .slice _ _ _) hI rfl rfl rfl rfl rfl rfl (by kernel_rfl) rfl rfl rfl ?_
  intro w hI
  refine Wn (Wr (Vv rfl (V0 rfl (Wn ?_))))
  exact ⟨ord.length - (k + 1), by omega, k + 1, _, _, rfl, by omega, ⟨rfl, rfl, rfl, rfl, rfl, rfl, trivial⟩, hI⟩
 clear hI
 rintro ρ w ⟨A, c, hH, hI⟩
 obtain ⟨σ, rfl⟩ := hH.open
 refine Wq (Vh rfl (Va [.string _] rfl func67 rfl ?_))
 refine (parseL_any evs hel hev _ (hG.pure hI.pu) (hM.pure hI.pu)).mono ?_
 rintro e w1 ⟨A1, c1, rfl, hT⟩
 refine rV ?_
 have hI := hI.app1 hT
 refine Vz rfl (Vg rfl (Vg rfl (V7 1 rfl ?_)))
 refine WL_st2 (u := .slice _ _ _) hI rfl rfl rfl rfl rfl rfl (by kernel_rfl) rfl rfl rfl ?_
 intro w hI
 refine Vj rfl (Wn ?_)
 obtain ⟨RL, hRL⟩ : ∃ RL : List Value, RL = [strV title, .slice A1 evs.length c1, .int .i64 ((z + 1 : Nat) : Int), .slice A ord.length c, .int .i64 (en : Int)] := ⟨_, rfl⟩
 replace hI : Inv NF w0 w [Row 0 70 7 A1 evs.length c1 (evs.flatMap evL), Win 3 1 A ord.length c (ord.map intV), B b17 32 RL.toArray, B b2 32 #[strV [], .slice none 0 0, .int .i64 0, .slice none 0 0, .int .i64 0]] := by
  rw [hRL]; exact hI
 have hRn : RL.toArray.size = 5 := by rw [hRL]; rfl
 have hR1 : RL.toArray.toList.all (·.oneCell') = true := by rw [hRL]; rfl
 have hRl : RL.length = 5 := by rw [hRL]; rfl
 have hSet := fun (j : Nat) (u : Value) (hj : RL[j]? = some u) => hI.c2 (j := 0 + j) (v := u) (by rw [Nat.zero_add, List.getElem?_toArray]; exact hj)
 refine Ws (Wd (by kernel_rfl) ?_)
 refine Wi (T := []) hI.d3.drew ?_
 intro Sx hY hZ
 have hI := hI.drew
 refine Wt 1 rfl (fun W hW => have hI := hY W hW; (by exact rMoveN rfl rfl)) ?_
 refine Wt 2 rfl (fun W hW => have hI := hY W hW; (by exact rNilEq rfl yy34 rfl)) ?_
 refine Vu 0 rfl ?_
 refine Wv rfl (rLdA (n := 5) (l := RL) rfl (by kernel_rfl) (by kernel_rfl) rfl hRl hSet) ?_
 refine Wn ⟨hZ _ hI.d3, ?_⟩
 refine Vu 3 rfl ?_
 refine WL_stw3 (u := .agg RL.toArray) (vs := RL.toArray) (n := 5) hI rfl rfl rfl rfl rfl rfl (by kernel_rfl) hRn rfl hR1 ?_
 intro w1 hI
 refine Wn ⟨hZ _ hI.d3, ?_⟩
 refine Ub 4 rfl (We (by kernel_rfl) ?_)
 refine WR (retC2 (n := 5) (t := 32) (.inr rfl) rfl rfl (by kernel_rfl) (by kernel_rfl) hRn hI.g3 ⟨A1, c1, A, c, ?_, hI.d2.d2⟩)
 rw [hRL]; rfl
theorem Inv.winRd {S : Nat → Prop} {w0 w : World} {H : List Ent} {e size n c : Nat} {A : Option Addr} {xs : List Value} (hI : Inv S w0 w (Win e size A n c xs :: H)) : Rd w (fun _ => True) size (.slice A n c) n xs := by
 obtain ⟨h1, h2, h3, h4⟩ := (hI.ok _ (List.mem_cons_self ..)).1
 refine ⟨A, c, rfl, h2, h3, h1, fun hn => ?_⟩
 rcases h4 with ⟨_, rfl⟩ | ⟨g, o, cur, rfl, hb, hc, hx⟩
 ·omega
 exact ⟨g, o, rfl, trivial, fun j u hj => by rw [hb.cell]; exact hx j u hj⟩
theorem intV_map (l : List Nat) : l.map intV = l.map fun n : Nat => Value.int .i64 (n : Int) := rfl
set_option maxRecDepth 4000 in
theorem fread_any (title : List UInt8) (ht : title.length ≤ 1000) (hnl : (10 : UInt8) ∉ title) (evs : List Ev) (hel : evs.length ≤ 120) (hev : evs.all evOkB = true) (hevl : (textE evs).length ≤ 10000) (z : Nat) (hz : z < 3) (ord : List Nat) (hol : ord.length ≤ 40) (hob : ∀ n ∈ ord, n ≤ 1000000) (en : Nat) (hen : en ≤ 1000000) (hpl : (pageF title z en ord (textE evs)).length ≤ 20000) (w0 : World) (hG : TxG w0) (hM : MaxOk w0) :
  Cq 8 #[strV (pageF title z en ord (textE evs))] w0 fun e w' => ∃ A1 c1 A2 c2, e = .returned (.tuple #[.agg #[strV title, .slice A1 evs.length c1, .int .i64 ((z + 1 : Nat) : Int), .slice A2 ord.length c2, .int .i64 (en : Int)], .nilIface]) ∧ Inv NF w0 w' [Row 0 70 7 A1 evs.length c1 (evs.flatMap evL), Win 3 1 A2 ord.length c2 (ord.map intV)] := by
 have hI := Inv.start (fun _ => False) w0
 have hevt : evT evs = some (textE evs) := by unfold evT; rw [if_pos ⟨hel, hev⟩]
 refine Vn func8 rfl ?_
 refine Wq (T1 (.agg #[.string ⟨#[]⟩, .slice none 0 0, .int .i64 0, .slice none 0 0, .int .i64 0]) (#[.string ⟨#[]⟩, .slice none 0 0, .int .i64 0, .slice none 0 0, .int .i64 0]) hI rfl ?_)
 rintro b2 w - - hI
 refine Vj rfl (Wn (Ws (Wq (Vh rfl (T0 rfl yy9 rfl (Tc rfl (Wn (Wc false rfl (Wk (Wq (Vh rfl ?_)))))))))))
 refine Va [.string _] rfl func28 rfl ?_
 refine (read_any title ht evs hel hev hevl z hz ord hol hob en hen _ (hG.pure hI.pu) (hM.pure hI.pu)).mono ?_
 rintro e w1 ⟨A1, c1, A2, c2, rfl, hT⟩
 refine rV ?_
 have hI := hI.app2 hT
 obtain ⟨RL, hRL⟩ : ∃ RL : List Value, RL = [strV title, .slice A1 evs.length c1, .int .i64 ((z + 1 : Nat) : Int), .slice A2 ord.length c2, .int .i64 (en : Int)] := ⟨_, rfl⟩
 have hRa : (#[strV title, .slice A1 evs.length c1, .int .i64 ((z + 1 : Nat) : Int), .slice A2 ord.length c2, .int .i64 (en : Int)] : Array Value) = RL.toArray := by rw [hRL]
 have hRn : RL.toArray.size = 5 := by rw [hRL]; rfl
 have hR1 : RL.toArray.toList.all (·.oneCell') = true := by rw [hRL]; rfl
 have hRl : RL.length = 5 := by rw [hRL]; rfl
 rw [hRa]
 refine Vz rfl (Vg rfl (Vg rfl (T1 (.agg #[.string ⟨#[]⟩, .slice none 0 0, .int .i64 0, .slice none 0 0, .int .i64 0]) (#[.string ⟨#[]⟩, .slice none 0 0, .int .i64 0, .slice none 0 0, .int .i64 0]) hI rfl ?_)))
 rintro b4 w - - hI
 refine WL_stw0 (u := .agg RL.toArray) (vs := RL.toArray) (n := 5) hI rfl rfl rfl rfl rfl rfl (by kernel_rfl) hRn rfl hR1 ?_
 intro w1 hI
 refine V8 rfl (Wn ?_)
 have hSet := fun (j : Nat) (u : Value) (hj : RL[j]? = some u) => hI.c0 (j := 0 + j) (v := u) (by rw [Nat.zero_add, List.getElem?_toArray]; exact hj)
 have hE : EvsR w1 (fun _ => True) (.slice A1 evs.length c1) evs := Rd.of_own hI.g1 (fun _ _ _ => trivial)
 have hO := hI.d0.d0.winRd
 rw [intV_map] at hO
 refine Ws (Ws (Wr ?_))
 refine Wv rfl (rLdA (n := 5) (l := RL) rfl (by kernel_rfl) (by kernel_rfl) rfl hRl hSet) ?_
 refine Va [.agg _] rfl func7 rfl ?_
 have hRb : RL.toArray = #[strV title, .slice A1 evs.length c1, .int .i64 ((z + 1 : Nat) : Int), .slice A2 ord.length c2, .int .i64 (en : Int)] := hRa.symm
 have hpg := page_any title ht evs A1 c1 hevt hevl z hz ord hol hob A2 c2 en hen _ _ _ hE hO (hG.pure hI.pu)
 rw [hRa] at hpg
 refine hpg.mono (okP hI fun w2 hp hI => ?_)
 refine Vz rfl (Vg rfl (Vg rfl (T4 rfl (Vj rfl (Wn ?_)))))
 have ht0 : RL.toArray[0]? = some (strV title) := by rw [hRL]; rfl
 refine Wq (V6 rfl (T9 rfl (V6 rfl (T8 rfl (Te rfl yy34 rfl (Ve rfl (V6 rfl (Vh rfl (Vh rfl ?_)))))))))
 refine Wv rfl (rStrNeF rfl rfl rfl rfl) ?_
 refine Ve rfl (V6 rfl (V7 0 rfl (V5 (.string _) rfl (hI.c0 ht0) (Va [.string _, .string _] rfl func29 rfl ?_))))
 refine (contains_no title 10 hnl _).mono ?_
 rintro e w2 ⟨rfl, rfl⟩
 refine rV ?_
 refine Ve rfl (Wn (Wc false rfl (Wk ?_)))
 have hSet := fun (j : Nat) (u : Value) (hj : RL[j]? = some u) => hI.c0 (j := 0 + j) (v := u) (by rw [Nat.zero_add, List.getElem?_toArray]; exact hj)
 refine Ws (Wr ?_)
 refine Wv rfl (rLdA (n := 5) (l := RL) rfl (by kernel_rfl) (by kernel_rfl) rfl hRl hSet) ?_
 refine WL_stw3 (u := .agg RL.toArray) (vs := RL.toArray) (n := 5) hI rfl rfl rfl rfl rfl rfl (by kernel_rfl) hRn rfl hR1 ?_
 intro w3 hI
 refine Vj rfl (Wn ?_)
 refine WR (retC2 (n := 5) (t := 32) (.inr rfl) rfl rfl (by kernel_rfl) (by kernel_rfl) hRn hI.g3 ⟨A1, c1, A2, c2, ?_, hI.d0.d2⟩)
 rw [hRL]; rfl
theorem runE_evs : ∀ (l : List Ev) (i : Nat) (s s' : SeeS), runE l i s = some s' → l.all evOkB = true
 | [], _, _, _, _ => rfl
 | e :: l, i, s, s', h => by
  rw [runE, stepE] at h
  by_cases he : evOkB e = true
  ·rw [if_pos he] at h
   rw [List.all_cons, he, Bool.true_and]
   generalize (if e.ty = 1 then beginF e i s else endF e i s) = q at h
   cases q with
   | none => simp at h
   | some s1 => exact runE_evs l (i + 1) s1 s' h
  rw [if_neg he] at h
  simp at h
theorem evF_evs {l : List Ev} {ops : List Op8} (h : evF l = some ops) : l.length ≤ 120 ∧ l.all evOkB = true := by
 unfold evF at h
 split at h
 ·rename_i h1
  refine ⟨h1, ?_⟩
  cases hr : runE l 0 initE with
  | none => rw [hr] at h; simp at h
  | some s => exact runE_evs l 0 initE s hr
 simp at h
theorem sames_any (A B : Option Addr) (c d : Nat) (l : List Nat) (D D' : Nat → Prop) (w0 : World) (hl : l.length ≤ 1000000) (h : Rd w0 D 1 (.slice A l.length c) l.length (l.map intV)) (h' : Rd w0 D' 1 (.slice B l.length d) l.length (l.map intV)) :
  Cq 9 #[.slice A l.length c, .slice B l.length d] w0 fun e w' => e = .returned (.bool true) ∧ Pure w0 w' := by
 have hI := Inv.start (fun _ => False) w0
 refine Vn func9 rfl ?_
 refine Wq (V8 rfl (Wn (Ws (Wq (Vi rfl (Vs rfl yy26 rfl (Vi rfl (Vs rfl yy26 rfl (U2 rfl (Wn (Wc false rfl ?_)))))))))))
 refine Wk (Ws (Wq (Vc rfl (Wn (Wb ?_)))))
 refine Wl (fun mu ρ w => ∃ k : Nat, mu = l.length - k ∧ k ≤ l.length ∧ Has ρ [(5, .int .i64 (k : Int)), (0, .slice A l.length c), (1, .slice B l.length d)] ∧ Inv NF w0 w []) l.length
  ⟨0, rfl, by omega, ⟨rfl, rfl, rfl, trivial⟩, hI⟩ ?_
 clear hI
 rintro mu ρ w ⟨k, rfl, hk, hH, hI⟩
 obtain ⟨σ, rfl⟩ := hH.open
 by_cases hkl : k < l.length
 rotate_left
 ·obtain rfl : k = l.length := by omega
  refine Ws (Wq (V0 rfl (Vi rfl (Vs rfl yy26 rfl (Vr rfl (Wn (Wc false rfl ?_)))))))
  refine WE ?_
  refine Wq (V8 rfl (Wn ?_))
  exact WR (r1_ 4 rfl ⟨rfl, hI.pu⟩)
 obtain ⟨n, hn⟩ : ∃ n, l[k]? = some n := ⟨_, List.getElem?_eq_getElem hkl⟩
 obtain ⟨b1, o1, rfl, _, _, q1⟩ := Rd.get h (k := k) (u := intV n) (by rw [List.getElem?_map, hn]; rfl) (by omega)
 obtain ⟨b2, o2, rfl, _, _, q2⟩ := Rd.get h' (k := k) (u := intV n) (by rw [List.getElem?_map, hn]; rfl) (by omega)
 refine Ws (Wq (V0 rfl (Vi rfl (Vs rfl yy26 rfl (Vt rfl (Wn (Wc true rfl (Wk (Ws (Wb (Ws (Wd (by kernel_rfl) ?_))))))))))))
 refine Wi (T := []) hI.drew ?_
 intro Sx hY hZ
 have hI := hI.drew
 refine Ta 0 rfl (Vx 1 rfl ?_)
 refine Wt 2 rfl (fun W hW => have hI := hY W hW; (by exact rIdx1 rfl yy26 (by kernel_rfl) rfl rfl (by omega))) ?_
 refine Vd 3 (.int .i64 _) rfl (fun W hW => (hY W hW).oldp q1) (Ta 4 rfl (Vx 5 rfl ?_))
 refine Wt 6 rfl (fun W hW => have hI := hY W hW; (by exact rIdx1 rfl yy26 (by kernel_rfl) rfl rfl (by omega))) ?_
 refine Vd 7 (.int .i64 _) rfl (fun W hW => (hY W hW).oldp q2) (Uf 8 rfl (We (by kernel_rfl) (Wc false rfl (Wk (Wr (V0 rfl (Vv rfl (Vc rfl (Wn ?_)))))))))
 exact ⟨l.length - (k + 1), by omega, k + 1, rfl, by omega, ⟨rfl, rfl, rfl, trivial⟩, hI⟩
def evI (e : Ev) : List Int := [e.proc, e.ty, e.key, e.kind, e.a, e.b, e.res]
theorem begins_same (A B : Option Addr) (c d : Nat) (l : List Ev) (D D' : Nat → Prop) (w0 : World) (hl : l.length ≤ 1000000) (h : EvsR w0 D (.slice A l.length c) l) (h' : EvsR w0 D' (.slice B l.length d) l) :
  Cq 10 #[.slice A l.length c, .slice B l.length d] w0 fun e w' => e = .returned (.bool true) ∧ Pure w0 w' := by
 have hI := Inv.start (fun _ => False) w0
 refine Vn func10 rfl ?_
 refine Wq (V8 rfl (Wn (Ws (Wq (Vi rfl (Vs rfl yy28 rfl (Vi rfl (Vs rfl yy28 rfl (Tc rfl (Wn (Wc false rfl ?_)))))))))))
 refine Wk (Ws (Wq (Vc rfl (Wn (Wb ?_)))))
 refine Wl (fun mu ρ w => ∃ k : Nat, mu = l.length - k ∧ k ≤ l.length ∧ Has ρ [(5, .int .i64 (k : Int)), (0, .slice A l.length c), (1, .slice B l.length d)] ∧ Inv NF w0 w []) l.length
  ⟨0, rfl, by omega, ⟨rfl, rfl, rfl, trivial⟩, hI⟩ ?_
 clear hI
 rintro mu ρ w ⟨k, rfl, hk, hH, hI⟩
 obtain ⟨σ, rfl⟩ := hH.open
 by_cases hkl : k < l.length
 rotate_left
 ·obtain rfl : k = l.length := by omega
  refine Ws (Wq (V0 rfl (Vi rfl (Vs rfl yy28 rfl (Vr rfl (Wn (Wc false rfl ?_)))))))
  refine WE ?_
  refine Wq (V8 rfl (Wn ?_))
  exact WR (r1_ 4 rfl ⟨rfl, hI.pu⟩)
 obtain ⟨b1, o1, rfl, q1⟩ := EvsR.at h hkl
 obtain ⟨b2, o2, rfl, q2⟩ := EvsR.at h' hkl
 refine Ws (Wq (V0 rfl (Vi rfl (Vs rfl yy28 rfl (Vt rfl (Wn (Wc true rfl (Wk (Ws (Wb (Ws (Wd (by kernel_rfl) ?_))))))))))))
 refine Wi (T := []) hI.drew ?_
 intro Sx hY hZ
 have hI := hI.drew
 refine Ta 0 rfl (Vx 1 rfl ?_)
 refine Wt 2 rfl (fun W hW => have hI := hY W hW; (rIdx (sz := 7) rfl yy28 (by kernel_rfl) rfl rfl (by omega))) ?_
 refine Wt 3 rfl (fun W hW => have hI := hY W hW; (by exact rLdA (n := 7) rfl (by kernel_rfl) (by kernel_rfl) rfl (by rfl) (fun k u hk => hI.oldp (q1 k u hk)))) ?_
 refine Ta 4 rfl (Vx 5 rfl ?_)
 refine Wt 6 rfl (fun W hW => have hI := hY W hW; (rIdx (sz := 7) rfl yy28 (by kernel_rfl) rfl rfl (by omega))) ?_
 refine Wt 7 rfl (fun W hW => have hI := hY W hW; (by exact rLdA (n := 7) rfl (by kernel_rfl) (by kernel_rfl) rfl (by rfl) (fun k u hk => hI.oldp (q2 k u hk)))) ?_
 refine Wt 8 rfl (fun W hW => have hI := hY W hW; (rNeqS (n := 7) (la := evI (evAt l k)) (lb := evI (evAt l k)) rfl (by kernel_rfl) rfl rfl rfl rfl)) ?_
 refine We (by kernel_rfl) ?_
 rw [decide_eq_true (rfl : evI (evAt l k) = evI (evAt l k))]
 refine Wc false rfl (Wk (Wr (V0 rfl (Vv rfl (Vc rfl (Wn ?_))))))
 exact ⟨l.length - (k + 1), by omega, k + 1, rfl, by omega, ⟨rfl, rfl, rfl, trivial⟩, hI⟩
theorem numbers_any (w0 w : World) (H : List Ent) (b g T : Nat) (s : List UInt8) (ws : List (List UInt8)) (m : Nat) (off val : Nat → Nat) (stp : Nat → Array Value) (ptrs : Array Value)
  (hI : Inv NF w0 w (B g 216 ptrs :: B b T (stp 0) :: H)) (hp : ∀ k, k < m → ptrs[k]? = some (.pointer (some ⟨b, off k, none⟩))) (hst : ∀ k, k < m → Nat.blt (off k) (stp k).size = true ∧ (stp k).setIfInBounds (off k) (.int .i64 (val k : Int)) = stp (k + 1))
  (hw : ∀ k, k < m → ws[k]? = some (Lib.itoa (val k : Int)) ∧ val k ≤ 1000000) (hm : ws.length = m) (hm10 : m ≤ 10) (hl : s.length ≤ 1000) (hc : Lib.countB (byB s) (byB [32]) + 1 = ws.length) (hsp : Lib.splitB (byB [32]) 0 (Lib.countB (byB s) (byB [32])) (byB s) = ws.map byB) (hG : NumG w0) (hM : MaxOk w0) :
  Cq 96 #[strV s, .slice (some ⟨g, 0, none⟩) m m] w fun e w' => e = .returned .nilIface ∧ Inv NF w0 w' (B b T (stp m) :: H) := by
 have hN := fun (w : World) (hp : Pure w0 w) => hG.chg (hp.chg NF) NoG.none
 refine Vn func96 rfl ?_
 refine Wq (Vj rfl (Wn (Wq (Vh rfl (Va [.string _, .string _] rfl func49 rfl ?_)))))
 refine (splitS_any s [32] ws (by omega) (by decide) hc hsp _ (hM.pure hI.pu)).mono ?_
 rintro e w1 ⟨gs, rfl, hT⟩
 refine rV ?_
 have hI := hI.app1 hT
 refine Vo rfl (Wn ?_)
 subst hm
 refine Ws (Wq (Vi rfl (Vs rfl yy72 rfl (Vi rfl (Vs rfl yy257 rfl (U2 rfl (Wn (Wc false rfl (Wk (Ws (Ws (Wr ?_))))))))))))
 refine Vi rfl (Vs rfl yy257 rfl (V0 rfl (Wn (Wb ?_))))
 refine Wl (fun mu ρ w => ∃ k : Nat, mu = ws.length - k ∧ k ≤ ws.length ∧ Has ρ [(20, .int .i64 (k : Int)), (19, .int .i64 (ws.length : Int)), (18, .slice (some ⟨g, 0, none⟩) ws.length ws.length), (5, .slice (some ⟨gs, 0, none⟩) ws.length ws.length)] ∧ Inv NF w0 w (B gs 9 (ws.map strV).toArray :: B g 216 ptrs :: B b T (stp k) :: H)) ws.length
  ⟨0, rfl, by omega, ⟨rfl, rfl, rfl, rfl, trivial⟩, hI⟩ ?_
 clear hI
 rintro mu ρ w ⟨k, rfl, hk, hH, hI⟩
 obtain ⟨σ, rfl⟩ := hH.open
 by_cases hkl : k < ws.length
 rotate_left
 ·obtain rfl : k = ws.length := by omega
  refine Wq (Vr rfl (Wn (Ws (Wc false rfl ?_))))
  refine WE ?_
  refine Wq (Vj rfl (Wn ?_))
  exact WR (r1_ 4 rfl ⟨rfl, hI.d0.d0⟩)
 obtain ⟨hwk, hvk⟩ := hw k hkl
 obtain ⟨hs1, hs2⟩ := hst k hkl
 have hpk := hp k hkl
 have hck : (ws.map strV).toArray[k]? = some (strV (Lib.itoa (val k : Int))) := by rw [List.getElem?_toArray, List.getElem?_map, hwk]; rfl
 refine Wq (Vt rfl (Wn (Ws (Wc true rfl (Wk (Ws (Wb (Wq (V0 rfl (Tp rfl yy257 rfl (V5 (.pointer _) rfl (hI.c1 hpk) ?_)))))))))))
 refine Vc rfl (Tm rfl (Wn (Wq (Vi rfl (V0 rfl (Tp rfl yy72 rfl (V5 (.string _) rfl (hI.c0 hck) (Va [.string _] rfl func66 rfl ?_))))))))
 refine (atoi_any (Lib.itoa (val k : Int)) (by have := itoaT_len (n := (val k : Int)) (by omega) (by omega); omega) _ (hN _ hI.pu)).mono ?_
 unfold atoiPost
 rw [atoi_itoa (by omega) (by omega)]
 rintro e w1 ⟨⟨rfl, -⟩, hp1⟩
 refine rV ?_
 have hI := hI.pure hp1
 refine Vz rfl (Vg rfl (Vg rfl (Vc rfl (Vj rfl (Wn (Ws (Wb (Ws (Wd (by kernel_rfl) ?_)))))))))
 refine Wi (T := []) hI.drew ?_
 intro Sx hY hZ
 have hI := hI.drew
 refine Wt 0 rfl (fun W hW => have hI := hY W hW; (by exact rMoveN rfl rfl)) ?_
 refine Wt 1 rfl (fun W hW => have hI := hY W hW; (by exact rNilNe rfl yy34 rfl)) ?_
 refine Tg 2 rfl (Vx 3 rfl (Ta 5 rfl (Vx 6 rfl (Uc 7 rfl yy72 rfl (Vd 8 (.string _) rfl (fun W hW => (hY W hW).c0 hck) (Vu 4 rfl ?_))))))
 refine Va [.int .i64 _] rfl func22 rfl ?_
 refine (itoa_any (val k : Int) (by omega) (by omega) _ (hN _ hI.pu)).mono (okP hI fun w1 hp1 hI => ?_)
 refine Wn ⟨hZ _ hI, ?_⟩
 refine Wt 9 rfl (fun W hW => have hI := hY W hW; (rStrNeF rfl rfl rfl rfl)) ?_
 refine Tw 10 rfl (Ub 11 rfl (We (by kernel_rfl) (Wc false rfl (Wq (V0 rfl (Vr rfl (V6 rfl (V0 rfl (Tc rfl (Ve rfl (V8 rfl (Wn ?_))))))))))))
 refine Wc false rfl (Wk (Wr (V9 rfl (V0 rfl (Vb rfl ?_)))))
 refine WL_st2 (u := .int .i64 (val k : Int)) hI rfl rfl rfl rfl rfl rfl (by kernel_rfl) rfl hs1 hs2 ?_
 rintro w hI
 refine Wn (Wr (Vv rfl (V0 rfl (Wn ?_))))
 exact ⟨ws.length - (k + 1), by omega, k + 1, rfl, by omega, ⟨rfl, rfl, rfl, rfl, trivial⟩, hI⟩
theorem infoGen : (prog.info? 50).map (fun i => (i.zero, i.size, i.bytes)) = some (some .nilIface, 1, 16) := by kernel_rfl
theorem zeroGen (w : World) : (zeroValue 50).run prog w = .ok .nilIface w := by kernel_rfl
theorem gdel_cells (cur : Array Value) (xs news zs : List Value) (n k size : Nat) (htake : cur.toList.take (n * size) = xs) (hlen : xs.length = n * size) (hk : k < n) (hnews : news = xs.drop ((k + 1) * size)) (hz : zs.length = size) (hcs : n * size ≤ cur.size) :
  (splice (splice cur (0 + k * size) news) ((k + (n - (k + 1))) * size) zs).toList.take ((n - 1) * size) = xs.take (k * size) ++ xs.drop ((k + 1) * size) := by
 have e1 : (k + (n - (k + 1))) = n - 1 := by omega
 have hnl : news.length = (n - (k + 1)) * size := by rw [hnews, List.length_drop, hlen, Nat.sub_mul]
 have e2 : k * size + (n - (k + 1)) * size = (n - 1) * size := by rw [← Nat.add_mul]; congr 1
 have e3 : (n - 1) * size + size = n * size := by
  have : n = (n - 1) + 1 := by omega
  conv => rhs; rw [this, Nat.add_mul, Nat.one_mul]
 have e4 : k * size ≤ n * size := Nat.mul_le_mul_right _ (by omega)
 rw [e1, splice_list _ _ _ (by rw [splice_size, hz]; omega), List.append_assoc, List.take_append_of_le_length (by rw [List.length_take, Array.length_toList, splice_size]; omega), List.take_take, Nat.min_self,
  splice_list _ _ _ (by rw [hnl]; omega), Nat.zero_add, List.take_append_of_le_length (by rw [List.length_append, List.length_take, Array.length_toList, hnl]; omega), List.take_of_length_le (by rw [List.length_append, List.length_take, Array.length_toList, hnl]; omega), hnews, ← htake, List.take_take, Nat.min_eq_left e4]
set_option maxRecDepth 100000 in
theorem gdelete_any (base n k : Nat) (v : Value) (xs : List Value) (w : World) (h : w.ownsRow base 50 1 v n xs) (h1 : ∀ u ∈ xs, u.oneCell' = true) (hk : k < n) (hn : n ≤ 1000000) :
  Cq 257 #[v, .int .i64 k, .int .i64 ((k : Int) + 1)] w fun e w' => ∃ v', e = .returned v' ∧
   w'.ownsRow base 50 1 v' (n - 1) (xs.eraseIdx k) ∧ Chg (fun k => some k = v.ownBlock) w w' ∧ v'.ownBlock = v.ownBlock := by
 obtain ⟨i0, hi0, hz0, hz1, hz2⟩ := info_parts infoGen
 rcases h.2 with ⟨rfl, rfl⟩ | ⟨g, cap, cur, rfl, hbg, hg, hnc, hcm, hcs, htake⟩
 ·omega
 have hlen := h.1
 simp only [maxLen] at hcm
 have hB : Blk w g 50 cur := hg
 obtain ⟨news, hnews⟩ : ∃ news, news = xs.drop ((k + 1)) := ⟨_, rfl⟩
 have hnl : news.length = (n - (k + 1)) := by rw [hnews, List.length_drop, hlen]; omega
 have hget : ∀ j u, xs[j]? = some u → w.cell? ⟨g, j, none⟩ = some u := fun j u hj => by
  rw [hB.cell, ← Array.getElem?_toList]
  rw [← htake, List.getElem?_take] at hj
  split at hj
  ·exact hj
  cases hj
 obtain ⟨A, hA, hsrc⟩ : ∃ A : Addr, (if cap = k + 1 then some (⟨g, 0, none⟩ : Addr) else some ⟨g, (k + 1), none⟩) = some A ∧ Hid (∀ t u, news[t]? = some u → w.drew.cell? (A.add t) = some u) := by
  by_cases hc : cap = k + 1
  ·refine ⟨_, by rw [if_pos hc], fun t u hu => ?_⟩
   have h0 : news.length = 0 := by rw [hnl]; omega
   rw [List.length_eq_zero_iff.1 h0] at hu
   simp at hu
  refine ⟨_, by rw [if_neg hc], fun t u hu => ?_⟩
  rw [Addr.add_lit]
  rw [hnews, List.getElem?_drop] at hu
  exact hget _ u hu
 have s1 : Hid (news.length = (n - (k + 1))) := hnl
 have s2 : Hid (∀ u ∈ news, u.oneCell' = true) := fun u hu => h1 u (List.mem_of_mem_drop (hnews ▸ hu))
 have s3 : Hid (∀ t, t < news.length → (w.drew.cell? ⟨g, 0 + k + t, none⟩).isSome = true ∧ w.drew.frozen? ⟨g, 0 + k + t, none⟩ = false) := by
  intro t ht
  refine ⟨?_, hB.frozen _⟩
  show (w.cell? _).isSome = true
  rw [hB.cell, Array.getElem?_eq_getElem (by rw [hcs]; omega)]
  rfl
 obtain ⟨W1, hW1⟩ : ∃ W1, W1 = w.drew.setCells g (0 + k) news := ⟨_, rfl⟩
 have hB1 : Blk W1 g 50 (splice cur (0 + k) news) := by rw [hW1]; exact hB.drew.setCells _ _
 have hcl : ∀ ty, (Builtin.clear_ #[177] ty #[.slice (some ⟨g, (k + (n - (k + 1))), none⟩) (n - (k + (n - (k + 1)))) (cap - (k + (n - (k + 1))))]).run prog W1 = .ok (.tuple #[]) (W1.setCells g ((k + (n - (k + 1)))) (Builtin.zeroCells #[.nilIface] (n - (k + (n - (k + 1))))).toList) :=
  fun ty => run_clear_row W1 _ _ ty _ yy177 zeroGen (by simp [Value.cells, Value.oneCell']) g _ _ _ (by omega) (fun j hj => by
   rw [hB1.cell, Array.getElem?_eq_getElem (by rw [splice_size, hcs]; simp [Value.cells] at hj; omega)]; rfl) (fun j _ => hB1.frozen _)
 have HW := Lib.hid hW1
 have HB1 := Lib.hid hB1
 have hkc : k ≤ cap := by omega
 have hkc1 : k + 1 ≤ cap := by omega
 have e1 : IntKind.i64.wrap ((k : Int) + 1) = (k : Int) + 1 := by rw [IntKind.wrap_i64]; omega
 have hne : ((k : Int) == (k : Int) + 1) = false := by rw [beq_eq_false_iff_ne]; omega
 have HX := Lib.hid htake
 have HN := Lib.hid hnews
 have HL := Lib.hid hlen
 have HCS := Lib.hid hcs
 clear hget hB hB1 hW1 hnl hnews h h1 hg htake hlen hcs
 go_enter func257, Tryz.ntmps257
 have hp0 : (0 : Int) ≤ (k : Int) + 1 := by omega
 have hp1 : (k : Int) + 1 ≤ (n : Int) := by omega
 have hp2 : ((k : Int) + 1).toNat = k + 1 := by omega
 have hp3 : (k : Int) ≤ (cap : Int) := by omega
 go_wp2_with fail
 go_region_law (refine step_append_room rfl (.tmp 22) (.tmp 25) 177 rfl 50 i0 1 yy177 hi0 hz1 g 0 k cap (by simp [Act.eval, Act.put]) A (n - (k + 1)) (cap - (k + 1)) news (by simp [Act.eval, Act.put]) (by rw [Nat.mul_one]; exact s1.out) hsrc.out s2.out (by omega) (by simp only [Nat.mul_one]; exact s3.out) ?_; rw [Nat.mul_one, ← HW.out])
 go_wp2
 go_ret
 refine ⟨.slice (some ⟨g, 0, none⟩) (k + (n - (k + 1))) cap, rfl, ⟨?_, .inr ⟨g, cap, splice (splice cur (0 + k) news) ((k + (n - (k + 1)))) (Builtin.zeroCells #[.nilIface] (n - (k + (n - (k + 1))))).toList, by rw [show k + (n - (k + 1)) = n - 1 by omega], hbg, HB1.out.setCells _ _, by omega, by simp only [maxLen]; omega, ?_, ?_⟩⟩, ?_, rfl⟩
 ·have := HL.out; rw [List.length_eraseIdx_of_lt (by omega)]; omega
 ·rw [splice_size, splice_size]; exact HCS.out
 ·have := gdel_cells cur xs news (Builtin.zeroCells #[.nilIface] (n - (k + (n - (k + 1))))).toList n k 1 HX.out HL.out (by omega) (by rw [Nat.mul_one]; exact HN.out) (by simp [Builtin.zeroCells]; omega) (by rw [HCS.out]; omega)
  simp only [Nat.mul_one] at this ⊢
  rw [this, List.eraseIdx_eq_take_drop_succ]
 have hS : (fun k => some k = (Value.slice (some ⟨g, 0, none⟩) n cap).ownBlock) g ∨ w.heap.size ≤ g := .inl rfl
 refine Chg.setCells hS _ _ ?_
 rw [HW.out]
 exact Chg.setCells hS _ _ (Chg.refl _ w).drew
mutual
inductive Rep : Ge → Value → List Ent → Prop
 | rd {k b} : Rep (.rd k) (.iface 170 (at0 b)) [B b 172 #[.int .i64 k]]
 | wr {k l t b} : -1000000 ≤ l → l ≤ t → t ≤ 1000000 → Rep (.wr k l t) (.iface 234 (at0 b)) [B b 236 #[.int .i64 k, .int .i64 l, .int .i64 t]]
 | lim {n g v L b} : n ≤ 1000 → Rep g v L → Rep (.lim n g) (.iface 174 (at0 b)) (B b 176 #[v, .int .i64 (n : Int)] :: L)
 | mix {gs vs L b A c} : gs.length ≤ 1000000 → RepL gs vs L → Rep (.mix gs) (.iface 180 (at0 b)) (B b 182 #[.slice A gs.length c] :: Row 0 50 1 A gs.length c vs :: L)
 | thn {gs vs L b A c} : gs.length ≤ 1000000 → RepL gs vs L → Rep (.thn gs) (.iface 183 (at0 b)) (B b 184 #[.slice A gs.length c] :: Win 50 1 A gs.length c vs :: L)
inductive RepL : List Ge → List Value → List Ent → Prop
 | nil : RepL [] [] []
 | cons {g v L gs vs M} : Rep g v L → RepL gs vs M → RepL (g :: gs) (v :: vs) (L ++ M)
end
theorem Rep.val {g : Ge} {v : Value} {L : List Ent} (h : Rep g v L) : ∃ T b, v = .iface T (at0 b) := by
 cases h <;> exact ⟨_, _, rfl⟩
theorem RepL.len : ∀ {gs : List Ge} {vs : List Value} {L : List Ent}, RepL gs vs L → vs.length = gs.length
 | _, _, _, .nil => rfl
 | _, _, _, .cons _ h => by simp [RepL.len h]
theorem RepL.one : ∀ {gs : List Ge} {vs : List Value} {L : List Ent}, RepL gs vs L → ∀ u ∈ vs, u.oneCell' = true
 | _, _, _, .nil => by simp
 | _, _, _, .cons h h2 => by
  intro u hu
  rcases List.mem_cons.1 hu with rfl | hu
  ·obtain ⟨T, b, rfl⟩ := h.val; rfl
  exact RepL.one h2 u hu
theorem RepL.at_ : ∀ {gs : List Ge} {vs : List Value} {L : List Ent} (_ : RepL gs vs L) (i : Nat) (g : Ge), gs[i]? = some g →
  ∃ v M R, vs[i]? = some v ∧ Rep g v M ∧ L.Perm (M ++ R) ∧ RepL (gs.eraseIdx i) (vs.eraseIdx i) R ∧ ∀ g' M', Rep g' v M' → ∃ L', RepL (gs.set i g') vs L' ∧ L'.Perm (M' ++ R)
 | _, _, _, .nil, i, g, hi => by simp at hi
 | _, _, _, @RepL.cons g0 v0 L0 gs vs M0 h0 h1, 0, g, hi => by
  simp only [List.getElem?_cons_zero, Option.some.injEq] at hi
  subst hi
  exact ⟨v0, L0, M0, rfl, h0, List.Perm.refl _, h1, fun g' M' h' => ⟨M' ++ M0, .cons h' h1, List.Perm.refl _⟩⟩
 | _, _, _, @RepL.cons g0 v0 L0 gs vs M0 h0 h1, i + 1, g, hi => by
  simp only [List.getElem?_cons_succ] at hi
  obtain ⟨v, M, R, hv, hg, hp, he, hs⟩ := RepL.at_ h1 i g hi
  refine ⟨v, M, L0 ++ R, by simpa using hv, hg, (hp.append_left L0).trans (List.perm_append_comm_assoc L0 M R), ?_, fun g' M' h' => ?_⟩
  ·simp only [List.eraseIdx_cons_succ]
   exact .cons h0 he
  obtain ⟨L', h2, hp2⟩ := hs g' M' h'
  refine ⟨L0 ++ L', ?_, (hp2.append_left L0).trans (List.perm_append_comm_assoc L0 M' R)⟩
  simp only [List.set_cons_succ]
  exact .cons h0 h2
section
variable {S : Nat → Prop} {w0 w w' : World} {H : List Ent}
theorem Inv.mid1 {t : Ent} {X L M : List Ent} (h : Inv S w0 w (t :: (X ++ (L ++ M)))) : Inv S w0 w (t :: (L ++ (X ++ M))) := h.perm ((List.perm_append_comm_assoc X L M).cons t)
theorem Inv.rowGet {base e n c j : Nat} {A : Option Addr} {xs : List Value} {u : Value} (hI : Inv S w0 w (Row base e 1 A n c xs :: H)) (hj : xs[j]? = some u) : ∃ g, A = some ⟨g, 0, Option.none⟩ ∧ w.cell? ⟨g, j, Option.none⟩ = some u := by
 have h1 : w.ownsRow base e 1 (.slice A n c) n xs := (hI.ok _ (List.mem_cons_self ..)).1
 have hl := (List.getElem?_eq_some_iff.1 hj).1
 rcases h1.2 with ⟨hv, h0⟩ | ⟨g, cap, cur, hv, hb, hh, hnc, hcm, hcs, htake⟩
 ·have := h1.1; omega
 injection hv with q1 q2 q3
 subst q1 q3
 have hB : Blk w g e cur := hh
 refine ⟨g, rfl, ?_⟩
 rw [hB.cell, ← Array.getElem?_toList]
 rw [← htake, List.getElem?_take] at hj
 split at hj
 ·exact hj
 cases hj
theorem Inv.rowCell {base e n c j g : Nat} {xs : List Value} {u : Value} (hI : Inv S w0 w (Row base e 1 (some ⟨g, 0, Option.none⟩) n c xs :: H)) (hj : xs[j]? = some u) : w.cell? ⟨g, j, Option.none⟩ = some u := by
 obtain ⟨g', hA, h⟩ := hI.rowGet hj
 injection hA with hA
 injection hA with hA
 subst hA
 exact h
theorem Inv.sub {H' : List Ent} (h : Inv S w0 w H) (hs : H'.Sublist H) : Inv S w0 w H' := ⟨h.chg, fun e he => h.ok e (hs.subset he), fun e he => h.own e (hs.subset he), h.apart.sublist hs⟩
theorem gdel_inv {n c k : Nat} {A : Option Addr} {xs : List Value} (hI : Inv S w0 w (Row 0 50 1 A n c xs :: H)) (h1 : ∀ u ∈ xs, u.oneCell' = true) (hk : k < n) (hn : n ≤ 1000000) :
  Cq 257 #[.slice A n c, .int .i64 (k : Int), .int .i64 ((k : Int) + 1)] w fun en w' => ∃ A' c', en = .returned (.slice A' (n - 1) c') ∧ Inv S w0 w' (Row 0 50 1 A' (n - 1) c' (xs.eraseIdx k) :: H) := by
 have hown : w.ownsRow 0 50 1 (.slice A n c) n xs := (hI.ok _ (List.mem_cons_self ..)).1
 refine (gdelete_any 0 n k _ _ w hown h1 hk hn).mono ?_
 rintro e w' ⟨v', rfl, ho, hc, hb⟩
 obtain ⟨A', c', rfl⟩ : ∃ A' c', v' = .slice A' (n - 1) c' := by
  rcases ho.2 with ⟨hv, h0⟩ | ⟨g, cap, cur, hv, _⟩
  ·exact ⟨none, 0, by rw [hv, h0]⟩
  exact ⟨_, _, hv⟩
 have ob : ∀ (A : Option Addr) (n c : Nat), (Value.slice A n c).ownBlock = A.map (·.block) := fun A n c => by cases A <;> rfl
 rw [ob, ob] at hb
 refine ⟨A', c', rfl, hI.u0 (hc.mono fun k _ hk => ?_) (Row.ok ho) fun k hk => .inl ?_⟩
 ·show A.map (·.block) = some k
  rw [← ob A n c]; exact hk.symm
 show A.map (·.block) = some k
 rw [← hb]; exact hk
end
def caB (r : Option Ca) : Bool := (r.getD (false, 0, 0)).1
def caK (r : Option Ca) : Int := (r.getD (false, 0, 0)).2.1
def caX (r : Option Ca) : Int := (r.getD (false, 0, 0)).2.2
def caV (r : Option Ca) : Value := .agg #[.bool (caB r), .int .i64 (caK r), .int .i64 (caX r)]
def Gives (nums : List Int) (D : Nat → Prop) (A : Option Addr) (len cp : Nat) (g : Ge) (v : Value) (L : List Ent) : Prop :=
 ∃ T b f, v = .iface T (at0 b) ∧ (∀ y (w : World), (callMethod (.iface T (at0 b)) "Next" #[y]).run prog w = .ok (.enter f #[at0 b, y]) w) ∧
  ∀ (S : Nat → Prop) (w0 w : World) (H : List Ent) (q u : Nat), Inv S w0 w (tapeE q (.slice A len cp) u :: (L ++ H)) → Ints w0 D (.slice A len cp) nums → (∀ k, D k → ¬ S k) → u + g.sz ≤ 4611686018427387904 →
   Cq f #[at0 b, at0 q] w fun e w' => ∃ r g' L' u', Nx nums g u r g' u' ∧ Rep g' v L' ∧ e = .returned (.tuple #[caV r, .bool r.isSome]) ∧ Inv S w0 w' (tapeE q (.slice A len cp) u' :: (L' ++ H))
section
variable {nums : List Int} {D : Nat → Prop} {A : Option Addr} {len cp : Nat}
theorem read_gives (k : Int) (b : Nat) : Gives nums D A len cp (.rd k) (.iface 170 (at0 b)) [B b 172 #[.int .i64 k]] := by
 refine ⟨_, _, 254, rfl, fun y w => by kernel_rfl, ?_⟩
 intro S w0 w H q u hI hN hD hu
 simp only [List.cons_append, List.nil_append] at hI
 unfold tapeE at hI
 refine Vn func254 rfl ?_
 refine Wq (T1 (.agg #[.bool false, .int .i64 0, .int .i64 0]) (#[.bool false, .int .i64 0, .int .i64 0]) hI rfl ?_)
 rintro b4 w - - hI
 refine V8 rfl (Wn (Wq (V9 rfl (Vb rfl (V7 0 rfl (V5 (.int .i64 _) rfl (hI.c2 rfl) (Td [(1, .int .i64 _)] [_, _, _] rfl [.bool false, .int .i64 0, .int .i64 0] [1] rfl (fun _ => by kernel_rfl) (T7 3 (#[_, _, _]) (.agg _) hI rfl ?_))))))))
 intro w hI
 refine V8 rfl (Wn ?_)
 refine WR ?_
 refine Um 187 3 (.inr rfl) rfl hI.g0 ?_
 exact ⟨some (false, k, 0), .rd k, _, u, .rd, .rd, rfl, hI.d0⟩
theorem write_gives (k l t : Int) (b : Nat) (h1 : -1000000 ≤ l) (h2 : l ≤ t) (h3 : t ≤ 1000000) : Gives nums D A len cp (.wr k l t) (.iface 234 (at0 b)) [B b 236 #[.int .i64 k, .int .i64 l, .int .i64 t]] := by
 refine ⟨_, _, 259, rfl, fun y w => by kernel_rfl, ?_⟩
 intro S w0 w H q u hI hN hD hu
 simp only [List.cons_append, List.nil_append] at hI
 unfold tapeE at hI
 have hlt := belF_lt nums u (t - l + 1) (by omega)
 refine Vn func259 rfl ?_
 refine Wq (T1 (.agg #[.bool false, .int .i64 0, .int .i64 0]) (#[.bool false, .int .i64 0, .int .i64 0]) hI rfl ?_)
 rintro b4 w - - hI
 refine V8 rfl (Wn (Ws (Wd (by kernel_rfl) ?_)))
 refine Wi (T := [22]) hI.d1.drew ?_
 intro Sx hY hZ
 have hI := hI.drew
 refine Vl 0 rfl (Vm 1 rfl (Vf 2 0 rfl (Vd 3 (.int .i64 _) rfl (fun W hW => (hY W hW).c1 rfl) (Vl 4 rfl (Vm 5 rfl (Vf 6 1 rfl (Vd 7 (.int .i64 _) rfl (fun W hW => (hY W hW).c1 rfl) (Vl 8 rfl (Vl 9 rfl (Vm 10 rfl (Vf 11 2 rfl (Vd 12 (.int .i64 _) rfl (fun W hW => (hY W hW).c1 rfl) (Vl 13 rfl ?_)))))))))))))
 refine Vm 14 rfl (Vf 15 1 rfl (Vd 16 (.int .i64 _) rfl (fun W hW => (hY W hW).c1 rfl) ?_))
 refine Wt 17 rfl (fun W hW => have hI := hY W hW; (by exact rSub rfl rfl rfl (by omega))) ?_
 refine Wt 18 rfl (fun W hW => have hI := hY W hW; (by exact rAdd rfl rfl rfl (by omega))) ?_
 refine Vu 19 rfl ?_
 refine Va [.pointer _, .int .i64 _] rfl func34 rfl ?_
 refine (below_any S D w0 _ _ q A len cp nums u (t - l + 1) (hI.pull 1 rfl) hN hD (by omega) (by omega) (by have : (Ge.wr k l t).sz = 1 := rfl; omega)).mono ?_
 rintro e w1 ⟨rfl, hI1⟩
 refine rV ?_
 replace hI : Inv S w0 w1 (B b4 187 #[.bool false, .int .i64 0, .int .i64 0] :: B q 57 #[.slice A len cp, .int .i64 ((u + 1 : Nat) : Int)] :: B b 236 #[.int .i64 k, .int .i64 l, .int .i64 t] :: H) := hI1.back 1
 clear hI1
 refine Wn ⟨hZ _ hI.d1, ?_⟩
 refine Wt 20 rfl (fun W hW => have hI := hY W hW; (by exact rAdd rfl rfl rfl (by omega))) ?_
 refine U7 21 [(0, .bool _), (1, .int .i64 _), (2, .int .i64 _)] [_, _, _] rfl [.bool false, .int .i64 0, .int .i64 0] [0, 1, 2] rfl (fun _ _ => fun _ => by kernel_rfl) ?_
 refine WT_A (by kernel_rfl) ?_
 clear hZ hY
 refine T2 22 rfl ?_
 refine T7 3 (#[_, _, _]) (.agg _) hI rfl ?_
 intro w hI
 refine Wn (T2 23 rfl ?_)
 refine V8 rfl (Wn ?_)
 refine WA_end (by kernel_rfl) ?_
 refine WR ?_
 refine Um 187 3 (.inr rfl) rfl hI.g0 ?_
 exact ⟨some (true, k, l + belF nums u (t - l + 1)), .wr k l t, _, u + 1, .wr, .wr h1 h2 h3, rfl, hI.d0⟩
theorem limit_gives (n : Nat) (g : Ge) (v : Value) (L : List Ent) (b : Nat) (hn : n ≤ 1000) (hg : Rep g v L) (hG : Gives nums D A len cp g v L) : Gives nums D A len cp (.lim n g) (.iface 174 (at0 b)) (B b 176 #[v, .int .i64 (n : Int)] :: L) := by
 refine ⟨_, _, 255, rfl, fun y w => by kernel_rfl, ?_⟩
 intro S w0 w H q u hI hN hD hu
 obtain ⟨T, bc, f, rfl, hm, hG⟩ := hG
 simp only [List.cons_append] at hI
 have hsz : (Ge.lim n g).sz = 1 + g.sz := by simp only [Ge.sz]
 unfold tapeE at hI
 refine Vn func255 rfl ?_
 refine Wq (T1 (.agg #[.bool false, .int .i64 0, .int .i64 0]) (#[.bool false, .int .i64 0, .int .i64 0]) hI rfl ?_)
 rintro b4 w - - hI
 refine V8 rfl (Wn ?_)
 cases n with
 | zero =>
  refine Ws (Wq (V9 rfl (Vb rfl (V7 1 rfl (V5 (.int .i64 _) rfl (hI.c2 rfl) (T5 rfl (Wn (Wc true rfl (Wq (Td [] [_, _, _] rfl [.bool false, .int .i64 0, .int .i64 0] [] rfl (fun _ => by kernel_rfl) (T7 3 (#[_, _, _]) (.agg _) hI rfl ?_)))))))))))
  intro w hI
  refine V8 rfl (Wn ?_)
  refine WR ?_
  refine Um 187 3 (.inr rfl) rfl hI.g0 ?_
  exact ⟨none, .lim 0 g, _, u, .lim0, .lim hn hg, rfl, hI.d0⟩
 | succ n =>
  refine Ws (Wq (V9 rfl (Vb rfl (V7 1 rfl (V5 (.int .i64 _) rfl (hI.c2 rfl) (Vw rfl (Wn (Wc false rfl (Wk (Wq (V9 rfl ?_)))))))))))
  refine Vb rfl (V7 1 rfl (V5 (.int .i64 _) rfl (hI.c2 rfl) ?_))
  refine Wv rfl (rDecN (a := n + 1) (b := 1) rfl rfl rfl (by omega) (by omega)) ?_
  refine Vb rfl (V7 1 rfl ?_)
  refine WL_st2 (u := .int .i64 _) hI rfl rfl rfl rfl rfl rfl (by kernel_rfl) rfl rfl rfl ?_
  intro w hI
  refine Wn (Wq (V9 rfl (Vb rfl (V7 0 rfl ?_))))
  refine Wv rfl (rLd rfl (by kernel_rfl) rfl (by exact hI.c2 rfl)) ?_
  refine V9 rfl ?_
  refine WL_call rfl rfl rfl (rCallI (f := f) (vs := [_]) rfl rfl rfl (fun w => hm _ w)) ?_
  refine (hG S w0 _ _ q u ((hI.pull 1 rfl).mid1 (X := [_, _])) hN hD (by omega)).mono ?_
  rintro e w1 ⟨r, g', L', u', hx, hr, rfl, hI1⟩
  unfold caV
  refine rV ?_
  replace hI : Inv S w0 w1 (B b4 187 #[.bool false, .int .i64 0, .int .i64 0] :: B q 57 #[.slice A len cp, .int .i64 (u' : Int)] :: B b 176 #[.iface T (at0 bc), .int .i64 (n : Int)] :: (L' ++ H)) := (hI1.mid1 (L := [_, _])).back 1
  clear hI1
  refine Vg rfl (Vg rfl (T7 3 (#[_, _, _]) (.agg _) hI rfl ?_))
  intro w hI
  refine V8 rfl (Wn ?_)
  refine WR ?_
  refine Um 187 3 (.inr rfl) rfl hI.g0 ?_
  exact ⟨r, .lim n g', _, u', .lim hx, .lim (by omega) hr, rfl, hI.d0⟩
theorem mix_gives (gs0 : List Ge) (vs0 : List Value) (L0 : List Ent) (b : Nat) (A0 : Option Addr) (c0 : Nat) (hl0 : gs0.length ≤ 1000000) (hg0 : RepL gs0 vs0 L0) (hG : ∀ g, szL gs0 ≥ g.sz → ∀ v L, Rep g v L → Gives nums D A len cp g v L) :
  Gives nums D A len cp (.mix gs0) (.iface 180 (at0 b)) (B b 182 #[.slice A0 gs0.length c0] :: Row 0 50 1 A0 gs0.length c0 vs0 :: L0) := by
 refine ⟨_, _, 256, rfl, fun y w => by kernel_rfl, ?_⟩
 intro S w0 w H q u0 hI hN hD hu
 simp only [List.cons_append] at hI
 have hsz : ∀ gs, (Ge.mix gs).sz = 1 + szL gs := fun gs => by simp only [Ge.sz]
 unfold tapeE at hI
 refine Vn func256 rfl ?_
 refine Wq (T1 (.agg #[.bool false, .int .i64 0, .int .i64 0]) (#[.bool false, .int .i64 0, .int .i64 0]) hI rfl ?_)
 rintro b4 w - - hI
 refine V8 rfl (Wn (Ws (Wb ?_)))
 refine Wl (fun mu ρ w => ∃ (gs : List Ge) (vs : List Value) (L : List Ent) (A1 : Option Addr) (c1 u : Nat), mu = gs.length ∧ gs.length ≤ 1000000 ∧ szL gs ≤ szL gs0 ∧ RepL gs vs L ∧ u + (Ge.mix gs).sz ≤ 4611686018427387904 ∧ (∀ r g'' u'', Nx nums (.mix gs) u r g'' u'' → Nx nums (.mix gs0) u0 r g'' u'') ∧ Has ρ [(0, at0 b), (1, at0 q), (4, at0 b4)] ∧
   Inv S w0 w (B b4 187 #[.bool false, .int .i64 0, .int .i64 0] :: B q 57 #[.slice A len cp, .int .i64 (u : Int)] :: B b 182 #[.slice A1 gs.length c1] :: Row 0 50 1 A1 gs.length c1 vs :: (L ++ H))) gs0.length
  ⟨gs0, vs0, L0, A0, c0, u0, rfl, hl0, Nat.le_refl _, hg0, hu, fun _ _ _ h => h, ⟨rfl, rfl, rfl, trivial⟩, hI⟩ ?_
 clear hI hu
 rintro mu ρ w ⟨gs, vs, L, A1, c1, u, rfl, hl, hle, hg, hu, hx0, hH, hI⟩
 obtain ⟨σ, rfl⟩ := hH.open
 rcases Nat.eq_zero_or_pos gs.length with hz | hpos
 ·have hgs : gs = [] := List.eq_nil_of_length_eq_zero hz
  subst hgs
  simp only [List.length_nil] at hI
  refine Ws (Wq (V9 rfl (Vb rfl (V7 0 rfl (V5 (.slice _ _ _) rfl (hI.c2 rfl) (Vs rfl yy177 rfl (Tc rfl (Wn (Wc false rfl ?_)))))))))
  refine WE ?_
  refine Wq (Td [] [_, _, _] rfl [.bool false, .int .i64 0, .int .i64 0] [] rfl (fun _ => by kernel_rfl) (T7 3 (#[_, _, _]) (.agg _) hI rfl ?_))
  intro w hI
  refine V8 rfl (Wn ?_)
  refine WR ?_
  refine Um 187 3 (.inr rfl) rfl hI.g0 ?_
  exact ⟨none, .mix [], _, u, hx0 _ _ _ .mix0, .mix (by simp) hg, rfl, hI.d0.sw0.sw0⟩
 have hbl := belF_lt nums u (gs.length : Int) (by omega)
 obtain ⟨i, hi⟩ : ∃ i : Nat, belF nums u (gs.length : Int) = (i : Int) := ⟨(belF nums u (gs.length : Int)).toNat, by omega⟩
 have hil : i < gs.length := by omega
 obtain ⟨g, hgi⟩ : ∃ g, gs[i]? = some g := ⟨gs[i], List.getElem?_eq_getElem hil⟩
 obtain ⟨v, M, R, hvi, hrg, hp, hrE, hrS⟩ := hg.at_ i g hgi
 have hszi := szL_erase gs i g hgi
 obtain ⟨T, bc, f, rfl, hm, hGi⟩ := hG g (by omega) v M hrg
 obtain ⟨ga, rfl, -⟩ := (hI.pull 3 rfl).rowGet hvi
 have hMix := hsz gs
 replace hI : Inv S w0 w (B b4 187 #[.bool false, .int .i64 0, .int .i64 0] :: B q 57 #[.slice A len cp, .int .i64 (u : Int)] :: B b 182 #[.slice (some ⟨ga, 0, none⟩) gs.length c1] :: Row 0 50 1 (some ⟨ga, 0, none⟩) gs.length c1 vs :: (M ++ (R ++ H))) :=
  hI.perm (((((by rw [← List.append_assoc]; exact hp.append_right H : (L ++ H).Perm (M ++ (R ++ H))).cons _).cons _).cons _).cons _)
 refine Ws (Wq (V9 rfl (Vb rfl (V7 0 rfl (V5 (.slice _ _ _) rfl (hI.c2 rfl) (Vs rfl yy177 rfl (Tq rfl (Wn (Wc true rfl (Wk (Wb (Ws ?_))))))))))))
 refine Wr (V9 rfl (V9 rfl (Vb rfl (V7 0 rfl (V5 (.slice _ _ _) rfl (hI.c2 rfl) (Vs rfl yy177 rfl (Va [.pointer _, .int .i64 _] rfl func34 rfl ?_)))))))
 refine (below_any S D w0 _ _ q A len cp nums u (gs.length : Int) (hI.pull 1 rfl) hN hD (by omega) (by omega) (by omega)).mono ?_
 rintro e w1 ⟨rfl, hI1⟩
 rw [hi]
 refine rV ?_
 replace hI : Inv S w0 w1 (B b4 187 #[.bool false, .int .i64 0, .int .i64 0] :: B q 57 #[.slice A len cp, .int .i64 ((u + 1 : Nat) : Int)] :: B b 182 #[.slice (some ⟨ga, 0, none⟩) gs.length c1] :: Row 0 50 1 (some ⟨ga, 0, none⟩) gs.length c1 vs :: (M ++ (R ++ H))) := hI1.back 1
 clear hI1
 refine Vc rfl (Wn (Ws (Wq (V9 rfl (Vb rfl (V7 0 rfl (V5 (.slice _ _ _) rfl (hI.c2 rfl) (V0 rfl (Tp rfl yy177 rfl ?_)))))))))
 refine Wv rfl (rLd rfl (by kernel_rfl) rfl (by exact ((hI.pull 3 rfl).rowCell hvi))) ?_
 refine V9 rfl ?_
 refine WL_call rfl rfl rfl (rCallI (f := f) (vs := [_]) rfl rfl rfl (fun w => hm _ w)) ?_
 refine (hGi S w0 _ _ q (u + 1) ((hI.pull 1 rfl).mid1 (X := [_, _, _])) hN hD (by omega)).mono ?_
 rintro e w1 ⟨r, g', M', u', hx, hr, rfl, hI1⟩
 unfold caV
 refine rV ?_
 replace hI : Inv S w0 w1 (B b4 187 #[.bool false, .int .i64 0, .int .i64 0] :: B q 57 #[.slice A len cp, .int .i64 (u' : Int)] :: B b 182 #[.slice (some ⟨ga, 0, none⟩) gs.length c1] :: Row 0 50 1 (some ⟨ga, 0, none⟩) gs.length c1 vs :: (M' ++ (R ++ H))) := (hI1.mid1 (L := [_, _, _])).back 1
 clear hI1
 refine Vz rfl (Vg rfl (Vg rfl (T1 (.agg #[.bool false, .int .i64 0, .int .i64 0]) (#[.bool false, .int .i64 0, .int .i64 0]) hI rfl ?_)))
 rintro b7 w - - hI
 refine T7 3 (#[_, _, _]) (.agg _) hI rfl ?_
 intro w hI
 refine V8 rfl (Wn (Wq (V6 rfl (Wn ?_))))
 cases r with
 | some c =>
  refine Wc true rfl (Wq (Tu 3 rfl hI.g0 ?_))
  refine WL_stw1 (u := .agg _) (vs := #[_, _, _]) (n := 3) hI rfl rfl rfl rfl rfl rfl (by kernel_rfl) rfl rfl rfl ?_
  intro w hI
  refine V8 rfl (Wn ?_)
  refine WR ?_
  refine Um 187 3 (.inr rfl) rfl hI.g1 ?_
  obtain ⟨L2, hL2, hp2⟩ := hrS g' M' hr
  refine ⟨some c, .mix (gs.set i g'), _, u', hx0 _ _ _ (.mixS hgi (by rw [hi]) hx), .mix (A := some ⟨ga, 0, none⟩) (c := c1) (by rw [List.length_set]; exact hl) hL2, rfl, ?_⟩
  rw [List.length_set]
  refine hI.d0.d0.perm ?_
  have hpp : (M' ++ (R ++ H)).Perm (L2 ++ H) := by rw [← List.append_assoc]; exact hp2.symm.append_right H
  exact ((hpp.cons _).cons _).cons _
 | none =>
  refine Wc false rfl (Wk ?_)
  have hI := hI.d0
  refine Wr (V9 rfl (V9 rfl (Vb rfl (V7 0 rfl (V5 (.slice _ _ _) rfl (hI.c2 rfl) (V0 rfl (V0 rfl (Vv rfl (Va [.slice _ _ _, .int .i64 _, .int .i64 _] rfl func257 rfl ?_)))))))))
  refine (gdel_inv (hI.pull 3 rfl) hg.one hil hl).mono ?_
  rintro e w1 ⟨A', c', rfl, hI1⟩
  refine rV ?_
  replace hI : Inv S w0 w1 (B b4 187 #[.bool false, .int .i64 0, .int .i64 0] :: B q 57 #[.slice A len cp, .int .i64 (u' : Int)] :: B b 182 #[.slice (some ⟨ga, 0, none⟩) gs.length c1] :: Row 0 50 1 A' (gs.length - 1) c' (vs.eraseIdx i) :: (M' ++ (R ++ H))) := hI1.back 3
  clear hI1
  refine Vb rfl (V7 0 rfl ?_)
  refine WL_stw2 (u := .slice _ _ _) (vs := #[_]) (n := 1) hI rfl rfl rfl rfl rfl rfl (by kernel_rfl) rfl rfl rfl ?_
  intro w hI
  refine Wn ?_
  have hlE : (gs.eraseIdx i).length = gs.length - 1 := by rw [List.length_eraseIdx_of_lt hil]
  refine ⟨(gs.eraseIdx i).length, by omega, gs.eraseIdx i, vs.eraseIdx i, R, A', c', u', rfl, by omega, by omega, hrE, ?_, fun r g'' u'' h => hx0 _ _ _ (.mixN hgi (by rw [hi]) hx h), ⟨rfl, rfl, rfl, trivial⟩, ?_⟩
  ·have := hx.sz
   have := hsz (gs.eraseIdx i)
   omega
  rw [hlE]
  exact hI.sub (((((List.sublist_append_right ..).cons_cons _).cons_cons _).cons_cons _).cons_cons _)
theorem then_gives (gs0 : List Ge) (vs0 : List Value) (L0 : List Ent) (b : Nat) (A0 : Option Addr) (c0 : Nat) (hl0 : gs0.length ≤ 1000000) (hg0 : RepL gs0 vs0 L0) (hG : ∀ g, szL gs0 ≥ g.sz → ∀ v L, Rep g v L → Gives nums D A len cp g v L) :
  Gives nums D A len cp (.thn gs0) (.iface 183 (at0 b)) (B b 184 #[.slice A0 gs0.length c0] :: Win 50 1 A0 gs0.length c0 vs0 :: L0) := by
 refine ⟨_, _, 258, rfl, fun y w => by kernel_rfl, ?_⟩
 intro S w0 w H q u0 hI hN hD hu
 simp only [List.cons_append] at hI
 have hsz : ∀ gs, (Ge.thn gs).sz = 1 + szL gs := fun gs => by simp only [Ge.sz]
 unfold tapeE at hI
 refine Vn func258 rfl ?_
 refine Wq (T1 (.agg #[.bool false, .int .i64 0, .int .i64 0]) (#[.bool false, .int .i64 0, .int .i64 0]) hI rfl ?_)
 rintro b4 w - - hI
 refine V8 rfl (Wn (Ws (Wb ?_)))
 refine Wl (fun mu ρ w => ∃ (gs : List Ge) (vs : List Value) (L : List Ent) (A1 : Option Addr) (c1 u : Nat), mu = gs.length ∧ gs.length ≤ 1000000 ∧ szL gs ≤ szL gs0 ∧ RepL gs vs L ∧ u + (Ge.thn gs).sz ≤ 4611686018427387904 ∧ (∀ r g'' u'', Nx nums (.thn gs) u r g'' u'' → Nx nums (.thn gs0) u0 r g'' u'') ∧ Has ρ [(0, at0 b), (1, at0 q), (4, at0 b4)] ∧
   Inv S w0 w (B b4 187 #[.bool false, .int .i64 0, .int .i64 0] :: B q 57 #[.slice A len cp, .int .i64 (u : Int)] :: B b 184 #[.slice A1 gs.length c1] :: Win 50 1 A1 gs.length c1 vs :: (L ++ H))) gs0.length
  ⟨gs0, vs0, L0, A0, c0, u0, rfl, hl0, Nat.le_refl _, hg0, hu, fun _ _ _ h => h, ⟨rfl, rfl, rfl, trivial⟩, hI⟩ ?_
 clear hI hu
 rintro mu ρ w ⟨gs, vs, L, A1, c1, u, rfl, hl, hle, hg, hu, hx0, hH, hI⟩
 obtain ⟨σ, rfl⟩ := hH.open
 cases hg with
 | nil =>
  simp only [List.length_nil] at hI
  refine Ws (Wq (V9 rfl (Vb rfl (V7 0 rfl (V5 (.slice _ _ _) rfl (hI.c2 rfl) (Vs rfl yy177 rfl (Tc rfl (Wn (Wc false rfl ?_)))))))))
  refine WE ?_
  refine Wq (Td [] [_, _, _] rfl [.bool false, .int .i64 0, .int .i64 0] [] rfl (fun _ => by kernel_rfl) (T7 3 (#[_, _, _]) (.agg _) hI rfl ?_))
  intro w hI
  refine V8 rfl (Wn ?_)
  refine WR ?_
  refine Um 187 3 (.inr rfl) rfl hI.g0 ?_
  exact ⟨none, .thn [], _, u, hx0 _ _ _ .thn0, .thn (by simp) .nil, rfl, hI.d0.sw0.sw0⟩
 | @cons g v M gs vs R hrg hrR =>
 have hszi : szL (g :: gs) = 1 + g.sz + szL gs := by simp only [szL]
 obtain ⟨T, bc, f, rfl, hm, hGi⟩ := hG g (by omega) v M hrg
 obtain ⟨ga, oa, rfl, -⟩ := (hI.pull 3 rfl).winGet (j := 0) rfl
 have hThn := hsz (g :: gs)
 have hwin : ∀ {w : World} {H : List Ent}, Inv S w0 w (Win 50 1 (some ⟨ga, oa, none⟩) (g :: gs).length c1 (.iface T (at0 bc) :: vs) :: H) → w.cell? ⟨ga, oa, none⟩ = some (.iface T (at0 bc)) := fun h => by
  obtain ⟨g1, o1, h1, h2⟩ := h.winGet (j := 0) rfl
  injection h1 with h1
  injection h1 with h1 h3
  subst h1 h3
  exact h2
 rw [List.append_assoc] at hI
 have hpos : 0 < (g :: gs).length := by simp
 refine Ws (Wq (V9 rfl (Vb rfl (V7 0 rfl (V5 (.slice _ _ _) rfl (hI.c2 rfl) (Vs rfl yy177 rfl (Tq rfl (Wn (Wc true rfl (Wk (Wb (Ws ?_))))))))))))
 refine Wq (V9 rfl (Vb rfl (V7 0 rfl (V5 (.slice _ _ _) rfl (hI.c2 rfl) ?_))))
 refine Wv rfl (rIdx1 (i := 0) rfl yy177 (by kernel_rfl) rfl rfl (by simp)) ?_
 refine Wv rfl (rLd rfl (by kernel_rfl) rfl (by exact (hwin (hI.pull 3 rfl)))) ?_
 refine V9 rfl ?_
 refine WL_call rfl rfl rfl (rCallI (f := f) (vs := [_]) rfl rfl rfl (fun w => hm _ w)) ?_
 refine (hGi S w0 _ _ q u ((hI.pull 1 rfl).mid1 (X := [_, _, _])) hN hD (by omega)).mono ?_
 rintro e w1 ⟨r, g', M', u', hx, hr, rfl, hI1⟩
 unfold caV
 refine rV ?_
 replace hI : Inv S w0 w1 (B b4 187 #[.bool false, .int .i64 0, .int .i64 0] :: B q 57 #[.slice A len cp, .int .i64 (u' : Int)] :: B b 184 #[.slice (some ⟨ga, oa, none⟩) (g :: gs).length c1] :: Win 50 1 (some ⟨ga, oa, none⟩) (g :: gs).length c1 (.iface T (at0 bc) :: vs) :: (M' ++ (R ++ H))) := (hI1.mid1 (L := [_, _, _])).back 1
 clear hI1
 refine Vz rfl (Vg rfl (Vg rfl (T1 (.agg #[.bool false, .int .i64 0, .int .i64 0]) (#[.bool false, .int .i64 0, .int .i64 0]) hI rfl ?_)))
 rintro b6 w - - hI
 refine T7 3 (#[_, _, _]) (.agg _) hI rfl ?_
 intro w hI
 refine V8 rfl (Wn (Wq (V6 rfl (Wn ?_))))
 cases r with
 | some c =>
  refine Wc true rfl (Wq (Tu 3 rfl hI.g0 ?_))
  refine WL_stw1 (u := .agg _) (vs := #[_, _, _]) (n := 3) hI rfl rfl rfl rfl rfl rfl (by kernel_rfl) rfl rfl rfl ?_
  intro w hI
  refine V8 rfl (Wn ?_)
  refine WR ?_
  refine Um 187 3 (.inr rfl) rfl hI.g1 ?_
  refine ⟨some c, .thn (g' :: gs), _, u', hx0 _ _ _ (.thnS hx), .thn (A := some ⟨ga, oa, none⟩) (c := c1) hl (.cons hr hrR), rfl, ?_⟩
  simp only [List.cons_append, List.append_assoc]
  exact hI.d0.d0
 | none =>
  refine Wc false rfl (Wk ?_)
  have hI := hI.d0
  refine Wr (V9 rfl (V9 rfl (Vb rfl (V7 0 rfl (V5 (.slice _ _ _) rfl (hI.c2 rfl) ?_)))))
  refine Wv rfl (rSliceFromG (sz := 1) (i := 1) rfl yy177 (by kernel_rfl) rfl rfl (by omega)) ?_
  refine Vb rfl (V7 0 rfl ?_)
  refine WL_stw2 (u := .slice _ _ _) (vs := #[_]) (n := 1) hI rfl rfl rfl rfl rfl rfl (by kernel_rfl) rfl rfl rfl ?_
  intro w hI
  refine Wn ?_
  replace hI := (hI.pull 3 rfl).winTail (n := gs.length)
  have hI2 : Inv S w0 w (B b4 187 #[.bool false, .int .i64 0, .int .i64 0] :: B q 57 #[.slice A len cp, .int .i64 (u' : Int)] :: B b 184 #[.slice (if c1 = 1 then some ⟨ga, oa, none⟩ else (some ⟨ga, oa, none⟩ : Option Addr).map (·.add (1 * 1))) gs.length (c1 - 1)] :: Win 50 1 (if c1 = 1 then some ⟨ga, oa, none⟩ else (some ⟨ga, oa, none⟩ : Option Addr).map (·.add (1 * 1))) gs.length (c1 - 1) vs :: (M' ++ (R ++ H))) := hI.back 3
  have hsx := hx.sz
  have hT := hsz gs
  have hg1 : (g :: gs).length = gs.length + 1 := rfl
  refine ⟨gs.length, by omega, gs, vs, R, (if c1 = 1 then some ⟨ga, oa, none⟩ else (some ⟨ga, oa, none⟩ : Option Addr).map (·.add (1 * 1))), c1 - 1, u', rfl, by omega, by omega, hrR, by omega, fun r g'' u'' h => hx0 _ _ _ (.thnN hx h), ⟨rfl, rfl, rfl, trivial⟩, ?_⟩
  exact hI2.sub (((((List.sublist_append_right ..).cons_cons _).cons_cons _).cons_cons _).cons_cons _)
theorem gives_all : ∀ (n : Nat) (g : Ge), g.sz ≤ n → ∀ v L, Rep g v L → Gives nums D A len cp g v L
 | 0, g, h, v, L, hr => by
  have : 0 < g.sz := by cases g <;> simp only [Ge.sz] <;> omega
  omega
 | n + 1, g, h, v, L, hr => by
  cases hr with
  | rd => exact read_gives _ _
  | wr h1 h2 h3 => exact write_gives _ _ _ _ h1 h2 h3
  | lim hn hg =>
   simp only [Ge.sz] at h
   exact limit_gives _ _ _ _ _ hn hg (gives_all n _ (by omega) _ _ hg)
  | mix hl hg =>
   simp only [Ge.sz] at h
   exact mix_gives _ _ _ _ _ _ hl hg fun g hg' v L hv => gives_all n g (by omega) v L hv
  | thn hl hg =>
   simp only [Ge.sz] at h
   exact then_gives _ _ _ _ _ _ hl hg fun g hg' v L hv => gives_all n g (by omega) v L hv
theorem Rep.gives {g : Ge} {v : Value} {L : List Ent} (h : Rep g v L) : Gives nums D A len cp g v L := gives_all _ g (Nat.le_refl _) v L h
end
end Go.Proofs.YtlkobbighkiojaaGreatDoor
namespace Go.Proofs.YtlkobbighkiojaaGreatDoor
open Tryz
def wtM (n : Nat) (m : SMail) : Nat := if m.dst < n then 2 else 1
def wtL (n : Nat) (ms : List SMail) : Nat := (ms.map (wtM n)).sum
def potC (n : Nat) (x : SCl) : Nat := if x.busy = true ∧ x.telling = false then 2 * n + 1 else 0
def potS (s : StS) : Nat → Nat
 | 0 => 0
 | k + 1 => potS s k + potC s.n (s.cl k)
def muS (s : StS) : Nat := wtL s.n s.mails + potS s s.k
theorem wtM_le (n : Nat) (m : SMail) : 1 ≤ wtM n m ∧ wtM n m ≤ 2 := by
 unfold wtM
 split <;> omega
theorem wtL_nil (n : Nat) : wtL n [] = 0 := rfl
theorem wtL_cons (n : Nat) (m : SMail) (ms : List SMail) : wtL n (m :: ms) = wtM n m + wtL n ms := by simp [wtL]
theorem wtL_app (n : Nat) (a b : List SMail) : wtL n (a ++ b) = wtL n a + wtL n b := by simp [wtL]
theorem wtL_len (n : Nat) : ∀ ms : List SMail, wtL n ms ≤ 2 * ms.length
 | [] => Nat.le_refl _
 | m :: ms => by
  have h1 := wtL_len n ms
  have h2 := wtM_le n m
  rw [wtL_cons, List.length_cons]
  omega
theorem wtL_push (n : Nat) (ms : List SMail) (m : SMail) : wtL n (pushM ms m) ≤ wtL n ms + wtM n m := by
 unfold pushM
 split
 ·rw [wtL_app, wtL_cons, wtL_nil]; omega
 omega
theorem wtL_send (s : StS) (c what : Nat) (e : SEnt) (n : Nat) : ∀ j, wtL n (sendTo s c what e j) ≤ wtL n s.mails + 2 * j
 | 0 => Nat.le_refl _
 | j + 1 => by
  have h1 := wtL_send s c what e n j
  have h2 := wtL_push n (sendTo s c what e j) (sendM s c what e j)
  have h3 := wtM_le n (sendM s c what e j)
  have h4 : sendTo s c what e (j + 1) = pushM (sendTo s c what e j) (sendM s c what e j) := by
   unfold sendTo
   rw [List.range_succ, List.foldl_append]; rfl
  rw [h4]
  omega
theorem wtL_erase (n : Nat) : ∀ (ms : List SMail) (i : Nat) (m : SMail), ms[i]? = some m → wtL n (ms.eraseIdx i) + wtM n m = wtL n ms
 | [], i, m, h => by simp at h
 | a :: ms, 0, m, h => by
  simp only [List.getElem?_cons_zero, Option.some.injEq] at h
  subst h
  rw [List.eraseIdx_cons_zero, wtL_cons]; omega
 | a :: ms, i + 1, m, h => by
  simp only [List.getElem?_cons_succ] at h
  have := wtL_erase n ms i m h
  rw [List.eraseIdx_cons_succ, wtL_cons, wtL_cons]; omega
theorem potS_same {s s' : StS} (hn : s'.n = s.n) : ∀ k, (∀ c, c < k → potC s.n (s'.cl c) = potC s.n (s.cl c)) → potS s' k = potS s k
 | 0, _ => rfl
 | k + 1, h => by
  rw [potS, potS, potS_same hn k (fun c hc => h c (by omega)), hn, h k (by omega)]
theorem potS_cl {s : StS} {c : Nat} {x : SCl} : ∀ k, c < k → potS (setCl s c x) k + potC s.n (s.cl c) = potS s k + potC s.n x
 | 0, h => by omega
 | k + 1, h => by
  rw [potS, potS]
  have hn : (setCl s c x).n = s.n := rfl
  by_cases hc : c = k
  ·subst hc
   have h1 : potS (setCl s c x) c = potS s c := potS_same (s := s) (s' := setCl s c x) rfl c fun i hi => by
    show potC s.n (if i = c then x else s.cl i) = _
    rw [if_neg (by omega)]
   have h2 : (setCl s c x).cl c = x := by show (if c = c then x else s.cl c) = x; rw [if_pos rfl]
   rw [h1, h2, hn]; omega
  have h1 := potS_cl (s := s) (x := x) k (by omega : c < k)
  have h2 : (setCl s c x).cl k = s.cl k := by show (if k = c then x else s.cl k) = _; rw [if_neg (fun h => hc h.symm)]
  rw [h2, hn]; omega
theorem mu_cl {s : StS} {c : Nat} {x : SCl} (hc : c < s.k) : muS (setCl s c x) + potC s.n (s.cl c) = muS s + potC s.n x := by
 have := potS_cl (s := s) (x := x) s.k hc
 unfold muS
 show wtL s.n s.mails + potS (setCl s c x) s.k + _ = _
 omega
theorem mu_obs (s : StS) (e : Ev) (st : SEnt) : muS (obsF s e st) = muS s := by
 unfold muS
 show wtL s.n s.mails + potS (obsF s e st) s.k = _
 rw [potS_same (s := s) (s' := obsF s e st) rfl s.k (fun _ _ => rfl)]
theorem mu_mails (s : StS) (ms : List SMail) : muS { s with mails := ms } + wtL s.n s.mails = muS s + wtL s.n ms := by
 unfold muS
 show wtL s.n ms + potS { s with mails := ms } s.k + _ = _
 rw [potS_same (s := s) (s' := { s with mails := ms }) rfl s.k (fun _ _ => rfl)]
 omega
theorem potC_le (n : Nat) (x : SCl) : potC n x ≤ 2 * n + 1 := by unfold potC; split <;> omega
theorem potC_idle (n : Nat) {x : SCl} (h : x.busy = false) : potC n x = 0 := by unfold potC; rw [h]; simp
theorem potC_tell (n : Nat) {x : SCl} (h : x.telling = true) : potC n x = 0 := by unfold potC; rw [h]; simp
theorem mu_send {s : StS} {c what : Nat} {e : SEnt} (hc : c < s.k) : muS (sendF s c what e) + potC s.n (s.cl c) ≤ muS s + 2 * s.n + potC s.n (roundC s c what) := by
 have h1 := mu_cl (s := s) (x := roundC s c what) hc
 have h2 : muS (sendF s c what e) + wtL s.n s.mails = muS (setCl s c (roundC s c what)) + wtL s.n (sendTo s c what e s.n) := mu_mails (setCl s c (roundC s c what)) (sendTo s c what e s.n)
 have h3 := wtL_send s c what e s.n s.n
 omega
theorem mu_done {s : StS} {c : Nat} (hc : c < s.k) : muS (doneS s c) ≤ muS s := by
 have h0 := mu_obs s (evD (s.cl c)) ⟨(s.cl c).best.t, (s.cl c).best.c, 0⟩
 have h1 : muS (doneS s c) + potC s.n (s.cl c) = muS (obsF s (evD (s.cl c)) ⟨(s.cl c).best.t, (s.cl c).best.c, 0⟩) + potC s.n { s.cl c with busy := false } := mu_cl (s := obsF s (evD (s.cl c)) ⟨(s.cl c).best.t, (s.cl c).best.c, 0⟩) (c := c) (x := { s.cl c with busy := false }) hc
 have h2 : potC s.n { s.cl c with busy := false } = 0 := potC_idle _ rfl
 omega
theorem mu_node {s : StS} {j : Nat} {m : SMsg} : muS (nodeF s j m) ≤ muS s + 1 := by
 have h1 : muS (nodeF s j m) + wtL s.n s.mails = muS (setEnt s j m.key (ownN s j m)) + wtL s.n (pushM s.mails ⟨j, s.n + m.client, { m with what := 3, e := ownN s j m }⟩) := mu_mails (setEnt s j m.key (ownN s j m)) (pushM s.mails ⟨j, s.n + m.client, { m with what := 3, e := ownN s j m }⟩)
 have h2 := wtL_push s.n s.mails ⟨j, s.n + m.client, { m with what := 3, e := ownN s j m }⟩
 have h3 : wtM s.n ⟨j, s.n + m.client, { m with what := 3, e := ownN s j m }⟩ = 1 := by unfold wtM; rw [if_neg (by show ¬ s.n + m.client < s.n; omega)]
 have h4 : muS (setEnt s j m.key (ownN s j m)) = muS s := by
  unfold muS
  show wtL s.n s.mails + potS (setEnt s j m.key (ownN s j m)) s.k = _
  rw [potS_same (s := s) (s' := setEnt s j m.key (ownN s j m)) rfl s.k (fun _ _ => rfl)]
 omega
theorem heard_pot (n : Nat) (x : SCl) (j : Nat) (m : SMsg) : potC n (heardC x j m) = potC n x := by
 unfold heardC
 dsimp only
 split
 ·rfl
 split <;> rfl
theorem new_pot (n : Nat) (x : SCl) (c : Nat) : potC n (newC x c) = potC n x := by
 unfold newC
 split <;> rfl
theorem mu_hear {s : StS} {j : Nat} {m : SMsg} (hc : m.client < s.k) : muS (hearF s j m) ≤ muS s := by
 unfold hearF
 dsimp only
 split
 ·exact Nat.le_refl _
 rename_i hbad
 have hbusy : (s.cl m.client).busy = true := by
  cases h : (s.cl m.client).busy
  ·exact absurd (.inl h) hbad
  rfl
 have e1 := mu_cl (s := s) (c := m.client) (x := heardC (s.cl m.client) j m) hc
 rw [heard_pot] at e1
 split
 ·split
  ·have h1 := mu_done (s := setCl s m.client (heardC (s.cl m.client) j m)) (c := m.client) hc
   omega
  omega
 rename_i htell
 split
 ·omega
 have e2 := mu_cl (s := s) (c := m.client) (x := newC (heardC (s.cl m.client) j m) m.client) hc
 rw [new_pot, heard_pot] at e2
 split
 ·have h1 := mu_send (s := setCl s m.client (newC (heardC (s.cl m.client) j m) m.client)) (c := m.client) (what := 2) (e := (newC (heardC (s.cl m.client) j m) m.client).best) hc
  have h2 : (setCl s m.client (newC (heardC (s.cl m.client) j m) m.client)).cl m.client = newC (heardC (s.cl m.client) j m) m.client := by
   show (if m.client = m.client then _ else _) = _
   rw [if_pos rfl]
  have h3 : (setCl s m.client (newC (heardC (s.cl m.client) j m) m.client)).n = s.n := rfl
  rw [h2, h3, new_pot, heard_pot] at h1
  have h4 : potC s.n (s.cl m.client) = 2 * s.n + 1 := by
   unfold potC
   rw [if_pos ⟨hbusy, by simpa using htell⟩]
  have h5 : potC s.n (roundC (setCl s m.client (newC (heardC (s.cl m.client) j m) m.client)) m.client 2) = 0 := potC_tell _ rfl
  omega
 have h1 := mu_done (s := setCl s m.client (newC (heardC (s.cl m.client) j m) m.client)) (c := m.client) hc
 omega
theorem mu_deliver {s : StS} {i : Nat} {m : SMail} (hm : s.mails[i]? = some m) (hc : m.m.client < s.k) : muS (deliverF s i m) < muS s := by
 have h1 := mu_mails s (s.mails.eraseIdx i)
 have h2 := wtL_erase s.n s.mails i m hm
 have h4 := wtM_le s.n m
 unfold deliverF
 dsimp only
 split
 ·rename_i hd
  have h3 := mu_node (s := { s with mails := s.mails.eraseIdx i }) (j := m.dst) (m := m.m)
  have h5 : wtM s.n m = 2 := by unfold wtM; rw [if_pos hd]
  omega
 have h3 := mu_hear (s := { s with mails := s.mails.eraseIdx i }) (j := m.src) (m := m.m) hc
 omega
theorem setCl_at (s : StS) (c : Nat) (x : SCl) : (setCl s c x).cl c = x := by
 show (if c = c then x else s.cl c) = x
 rw [if_pos rfl]
theorem mu_beg {s : StS} {c key : Nat} {write : Bool} {value : Int} (hc : c < s.k) : muS (begS s c key write value) ≤ muS s + 4 * s.n + 1 := by
 obtain ⟨s1, hs1⟩ : ∃ s1, obsF s (evB c key write value) ⟨0, 0, 0⟩ = s1 := ⟨_, rfl⟩
 obtain ⟨X, hX⟩ : ∃ X, { s1.cl c with busy := true, began := evB c key write value, best := ⟨0, -2, 0⟩ } = X := ⟨_, rfl⟩
 have e1 : begS s c key write value = sendF (setCl s1 c X) c 1 ⟨0, 0, 0⟩ := by rw [← hX, ← hs1]; rfl
 have n1 : s1.n = s.n := by rw [← hs1]; rfl
 have k1 : s1.k = s.k := by rw [← hs1]; rfl
 have h0 : muS s1 = muS s := by rw [← hs1]; exact mu_obs ..
 have h1 := mu_cl (s := s1) (c := c) (x := X) (by omega)
 have h2 := mu_send (s := setCl s1 c X) (c := c) (what := 1) (e := ⟨0, 0, 0⟩) (by show c < s1.k; omega)
 rw [setCl_at, ← e1] at h2
 have h3 : (setCl s1 c X).n = s1.n := rfl
 rw [h3] at h2
 have h6 := potC_le s1.n (roundC (setCl s1 c X) c 1)
 rw [n1] at h1 h2 h6
 omega
theorem mu_le {s : StS} {K : Nat} (hm : s.mails.length ≤ 500) (hn : s.n ≤ 7) (hk : s.k ≤ 8) : muS s ≤ 1120 := by
 have h1 := wtL_len s.n s.mails
 have h2 : ∀ k, potS s k ≤ k * 15 := by
  intro k
  induction k with
  | zero => exact Nat.le_refl _
  | succ k ih =>
   have := potC_le s.n (s.cl k)
   rw [potS, Nat.succ_mul]
   omega
 have h3 := h2 s.k
 have : s.k * 15 ≤ 8 * 15 := Nat.mul_le_mul_right _ hk
 unfold muS
 omega
open Go.RowKit
structure FPlan where
 n : Nat
 k : Nat
 a : Nat
 t : Nat
 bk : Bool
 title : List UInt8
 gen : List UInt8
 bud : Int
structure Tr where
 st : StS
 g : Ge
 u : Nat
 b : Nat
 em : Bool
def trC (sb : Nat) (gv : Value) (q : Nat) (p : FPlan) (b : Nat) (em : Bool) : Array Value := #[.pointer (some ⟨sb, 0, none⟩), gv, .pointer (some ⟨q, 0, none⟩), .int .i64 (p.n : Int), .int .i64 (p.k : Int), .int .i64 (p.a : Int), .int .i64 (p.t : Int), .bool p.bk, strV p.title, strV p.gen, .int .i64 p.bud, .int .i64 (b : Int), .bool em]
def OkCa (k v : Int) (w : Bool) : Prop := (0 ≤ k ∧ k < 8) ∧ (-1000000 ≤ v ∧ v ≤ 1000000) ∧ (w = false → v = 0)
def BegR (nums : List Int) (t : Tr) (c : Int) (r : Bool) (t' : Tr) : Prop :=
 ((t.em = true ∨ 40 ≤ t.b ∨ ∀ c', ¬ MayB t.st c c') ∧ r = false ∧ t' = t) ∨
 (t.em = false ∧ t.b < 40 ∧ ∃ c', MayB t.st c c' ∧ ∃ rr g' u', Nx nums t.g t.u rr g' u' ∧
  ((rr = none ∧ r = false ∧ t' = ⟨t.st, g', u', t.b, true⟩) ∨
   ∃ w k v, rr = some (w, k, v) ∧ ((¬ OkCa k v w ∧ r = false ∧ t' = ⟨t.st, g', u', t.b, false⟩) ∨ (OkCa k v w ∧ r = true ∧ t' = ⟨begS t.st c' k.toNat w v, g', u', t.b + 1, false⟩))))
theorem belowG_any (S D : Nat → Prop) (w0 w : World) (H : List Ent) (q : Nat) (A : Option Addr) (len c : Nat) (nums : List Int) (u : Nat) (n : Int) (hI : Inv S w0 w (tapeE q (.slice A len c) u :: H)) (hN : Ints w0 D (.slice A len c) nums) (hD : ∀ k, D k → ¬ S k) (hn2 : n ≤ 9223372036854775807) (hu : u < 9223372036854775807) :
  Cq 34 #[at0 q, .int .i64 n] w fun e w' => ∃ (z : Nat) (u' : Nat), e = .returned (.int .i64 (z : Int)) ∧ (0 < n → u' = u + 1 ∧ (z : Int) < n) ∧ (n ≤ 0 → z = 0) ∧ u ≤ u' ∧ u' ≤ u + 1 ∧ Inv S w0 w' (tapeE q (.slice A len c) u' :: H) := by
 by_cases hn : 0 < n
 ·refine (below_any S D w0 w H q A len c nums u n hI hN hD hn hn2 hu).mono ?_
  rintro e w' ⟨rfl, h⟩
  have hb := belF_lt nums u n hn
  exact ⟨(belF nums u n).toNat, u + 1, by rw [Int.toNat_of_nonneg hb.1], fun _ => ⟨rfl, by omega⟩, fun h => absurd hn (by omega), by omega, by omega, h⟩
 unfold tapeE at hI
 refine Vn func34 rfl ?_
 refine Wq (Vc rfl (Wn (Ws (Wq (V9 rfl ?_)))))
 refine Wv rfl (rPtrEq rfl underlying54 rfl rfl) ?_
 refine V6 rfl (V0 rfl (Up rfl (Ve rfl (Wn (Wc true rfl (Wq (Vc rfl (Wn ?_))))))))
 exact WR (r1_ 4 rfl ⟨0, u, rfl, fun h => absurd h hn, fun _ => rfl, by omega, by omega, hI⟩)
theorem used_any (S : Nat → Prop) (w0 w : World) (H : List Ent) (q : Nat) (nv : Value) (u : Nat) (hI : Inv S w0 w (tapeE q nv u :: H)) :
  Cq 14 #[at0 q] w fun e w' => e = .returned (.int .i64 (u : Int)) ∧ Inv S w0 w' (tapeE q nv u :: H) := by
 unfold tapeE at hI
 refine Vn func14 rfl ?_
 refine Wq (Vc rfl (Wn (Ws (Wq (V9 rfl ?_)))))
 refine Wv rfl (rPtrEq rfl underlying54 rfl rfl) ?_
 refine Wn (Wc false rfl (Wk (Wq (V9 rfl (Vb rfl (V7 1 rfl (V5 (.int .i64 _) rfl (hI.c0 rfl) (Vc rfl (Wn ?_)))))))))
 exact WR (r1_ 2 rfl ⟨rfl, hI⟩)
theorem nwaiting_any (b n c : Nat) (A : Option Addr) (w0 : World) (hc : w0.cell? ⟨b, 7, none⟩ = some (.slice A n c)) : Cq 79 #[.pointer (some ⟨b, 7, none⟩)] w0 fun e w' => e = .returned (.int .i64 (n : Int)) ∧ Pure w0 w' := by
 have hI := Inv.start (fun _ => False) w0
 refine Vn func79 rfl ?_
 refine Wq (Vc rfl (Wn (Wq (V9 rfl (Vb rfl (Tj rfl (V5 (.slice _ _ _) rfl (hI.oldp hc) (Vs rfl yy86 rfl (Vc rfl (Wn ?_))))))))))
 exact WR (r1_ 2 rfl ⟨rfl, hI.pu⟩)
theorem waiting_any (b n c : Nat) (A : Option Addr) (w0 : World) (hc : w0.cell? ⟨b, 7, none⟩ = some (.slice A n c)) : Cq 37 #[.pointer (some ⟨b, 0, none⟩)] w0 fun e w' => e = .returned (.int .i64 (n : Int)) ∧ Pure w0 w' := by
 have hI := Inv.start (fun _ => False) w0
 refine Vn func37 rfl ?_
 refine Wq (Vc rfl (Wn (Ws (Wq (V9 rfl ?_)))))
 refine Wv rfl (rPtrEq rfl yy46 rfl rfl) ?_
 refine Wn (Wc false rfl (Wk (Wq (V9 rfl (Vb rfl (V7 7 rfl (Va [.pointer _] rfl func79 rfl ?_)))))))
 refine (nwaiting_any b n c A _ (hI.oldp hc)).mono (okP hI fun w1 hp hI => ?_)
 refine Vc rfl (Wn ?_)
 exact WR (r1_ 2 rfl ⟨rfl, hI.pu⟩)
theorem sp_c7 {S : Nat → Prop} {w0 w : World} {X : List Ent} {L : StL} {s : StS} (hI : Inv S w0 w (X ++ spt L s)) : w.cell? ⟨L.sb, 7, none⟩ = some (.slice L.MA s.mails.length L.mc) := hI.fromB.cell 0 rfl rfl
theorem Inv.hd1 {S : Nat → Prop} {w0 w : World} {e : Ent} {H : List Ent} (h : Inv S w0 w (e :: H)) : Inv S w0 w [e] := h.sub (by simp)
theorem gen_perm {α : Type} (X : List α) (a b : α) (L R : List α) : (X ++ (a :: b :: (L ++ R))).Perm (b :: (L ++ ((X ++ [a]) ++ R))) := by
 have e : X ++ (a :: b :: (L ++ R)) = (X ++ [a]) ++ (b :: (L ++ R)) := by simp
 rw [e]
 exact List.perm_middle.trans ((List.perm_append_comm_assoc (X ++ [a]) L R).cons b)
theorem rNilChkI {P : Program} {ρ : Env} {o : Oper} {w : World} {x : Operand} {T : TypeId} {v : Value} (ho : o.op = .nilCheck x) (hx : ev ρ x = .iface T v) : Runs P ρ o w (.iface T v) := by simp [Runs, execOp, ho, hx]
theorem tbegin_any (S D : Nat → Prop) (w0 w : World) (L : StL) (gv : Value) (LG : List Ent) (q tb : Nat) (p : FPlan) (t : Tr) (A : Option Addr) (len cp : Nat) (nums : List Int) (M : Nat) (c : Int)
  (hI : Inv S w0 w (B tb 59 (trC L.sb gv q p t.b t.em) :: tapeE q (.slice A len cp) t.u :: (LG ++ spt L t.st))) (hr : Rep t.g gv LG) (hok : SOk L t.st M) (hM : M ≤ 100000) (hN : Ints w0 D (.slice A len cp) nums) (hD : ∀ k, D k → ¬ S k) (hu : t.u + t.g.sz ≤ 4611686018427387904) (hb : t.b ≤ 1000) :
  Cq 35 #[at0 tb, .int .i64 c] w fun e w' => ∃ r t' L' LG', e = .returned (.bool r) ∧ BegR nums t c r t' ∧ Rep t'.g gv LG' ∧ SOk L' t'.st (M + 1) ∧ L'.sb = L.sb ∧ L'.cut = L.cut ∧
   Inv S w0 w' (B tb 59 (trC L.sb gv q p t'.b t'.em) :: tapeE q (.slice A len cp) t'.u :: (LG' ++ spt L' t'.st)) := by
 obtain ⟨s, g, u, b, em⟩ := t
 dsimp only at hI hr hok hu hb ⊢
 have hk8 := hok.k1.2
 have hel := hok.elen
 obtain ⟨T, bv, f, rfl, hme, hG⟩ := hr.gives (nums := nums) (D := D) (A := A) (len := len) (cp := cp)
 refine Vn func35 rfl ?_
 refine Wq (V8 rfl (Wn ?_))
 cases em with
 | true =>
  refine Ws (Wq (V9 rfl (Vb rfl (V7 12 rfl (V5 (.bool _) rfl (hI.c0 rfl) (V6 rfl (V4 rfl (V4 rfl (V4 rfl (V4 rfl (V4 rfl (Vk rfl ?_))))))))))))
  refine V6 rfl (V4 rfl (V4 rfl (V4 rfl (V4 rfl (V4 rfl (V4 rfl (V4 rfl (Vk rfl (Wn (Wc true rfl (Wq (V8 rfl ?_))))))))))))
  refine Wn ?_
  exact WR (r1_ 4 rfl ⟨false, ⟨s, g, u, b, true⟩, L, LG, rfl, .inl ⟨.inl rfl, rfl, rfl⟩, hr, hok.mono (by omega), rfl, rfl, hI⟩)
 | false =>
  by_cases hb40 : 40 ≤ b
  ·refine Ws (Wq (V9 rfl (Vb rfl (V7 12 rfl (V5 (.bool _) rfl (hI.c0 rfl) (V6 rfl (V9 rfl (Vb rfl (V7 11 rfl (V5 (.int .i64 _) rfl (hI.c0 rfl) (To rfl (Ve rfl ?_))))))))))))
   refine V6 rfl (V4 rfl (V4 rfl (V4 rfl (V4 rfl (V4 rfl (V4 rfl (V4 rfl (Vk rfl (Wn (Wc true rfl (Wq (V8 rfl ?_))))))))))))
   refine Wn ?_
   exact WR (r1_ 4 rfl ⟨false, ⟨s, g, u, b, false⟩, L, LG, rfl, .inl ⟨.inr (.inl hb40), rfl, rfl⟩, hr, hok.mono (by omega), rfl, rfl, hI⟩)
  have hFree : ∀ (w : World), Inv S w0 w (B tb 59 (trC L.sb (.iface T (at0 bv)) q p b false) :: tapeE q (.slice A len cp) u :: (LG ++ spt L s)) →
    Cq 74 #[.pointer (some ⟨L.sb, 0, none⟩), .int .i64 c] w fun en w' => ∃ v, en = .returned v ∧ ((v = .nilIface ∧ ∃ c', MayB s c c') ∨ ((∃ n, v = .iface 45 (.int .i64 n)) ∧ ∀ c', ¬ MayB s c c')) ∧ Inv S w0 w' (B tb 59 (trC L.sb (.iface T (at0 bv)) q p b false) :: tapeE q (.slice A len cp) u :: (LG ++ spt L s)) := by
   intro w hI
   refine (free_any L s c hk8 (by omega) (DLs (spt L s)) _ (Inv.fromB (X := B tb 59 (trC L.sb (.iface T (at0 bv)) q p b false) :: tapeE q (.slice A len cp) u :: LG) hI)).mono ?_
   rintro en w1 ⟨hc, hJ⟩
   have hI1 := Inv.callB (X := B tb 59 (trC L.sb (.iface T (at0 bv)) q p b false) :: tapeE q (.slice A len cp) u :: LG) hI hJ
   rcases hc with ⟨rfl, hm⟩ | ⟨⟨n, rfl⟩, hno⟩
   ·exact ⟨_, rfl, .inl ⟨rfl, hm⟩, hI1⟩
   exact ⟨_, rfl, .inr ⟨⟨n, rfl⟩, hno⟩, hI1⟩
  by_cases hmb : ∃ c', MayB s c c'
  rotate_left
  ·refine Ws (Wq (V9 rfl (Vb rfl (V7 12 rfl (V5 (.bool _) rfl (hI.c0 rfl) (V6 rfl (V9 rfl (Vb rfl (V7 11 rfl (V5 (.int .i64 _) rfl (hI.c0 rfl) (U5 rfl (Ve rfl ?_))))))))))))
   refine V6 rfl (V9 rfl (Vb rfl (V7 0 rfl (V5 (.pointer _) rfl (hI.c0 rfl) (V0 rfl (Va [.pointer _, .int .i64 _] rfl func74 rfl ?_))))))
   refine (hFree _ hI).mono ?_
   rintro e w1 ⟨v, rfl, hv, hI'⟩
   rcases hv with ⟨_, hm⟩ | ⟨⟨n, rfl⟩, _⟩
   ·exact absurd hm hmb
   refine rV ?_
   replace hI := hI'
   clear hI'
   refine Tl rfl yy34 rfl (Ve rfl (Wn (Wc true rfl (Wq (V8 rfl (Wn ?_))))))
   exact WR (r1_ 4 rfl ⟨false, ⟨s, g, u, b, false⟩, L, LG, rfl, .inl ⟨.inr (.inr fun c' h => hmb ⟨c', h⟩), rfl, rfl⟩, hr, hok.mono (by omega), rfl, rfl, hI⟩)
  refine Ws (Wq (V9 rfl (Vb rfl (V7 12 rfl (V5 (.bool _) rfl (hI.c0 rfl) (V6 rfl (V9 rfl (Vb rfl (V7 11 rfl (V5 (.int .i64 _) rfl (hI.c0 rfl) (U5 rfl (Ve rfl ?_))))))))))))
  refine V6 rfl (V9 rfl (Vb rfl (V7 0 rfl (V5 (.pointer _) rfl (hI.c0 rfl) (V0 rfl (Va [.pointer _, .int .i64 _] rfl func74 rfl ?_))))))
  refine (hFree _ hI).mono ?_
  rintro e w1 ⟨v, rfl, hv, hI'⟩
  rcases hv with ⟨rfl, _⟩ | ⟨_, hno⟩
  rotate_left
  ·obtain ⟨c', hm⟩ := hmb
   exact absurd hm (hno c')
  refine rV ?_
  replace hI := hI'
  clear hI'
  refine Te rfl yy34 rfl (Ve rfl (Wn (Wc false rfl (Wk ?_))))
  obtain ⟨c', hmb⟩ := hmb
  refine Wx (fun ρ w => ∃ rr g' LG' u', Nx nums g u rr g' u' ∧ Rep g' (.iface T (at0 bv)) LG' ∧ ∃ b5, Has ρ [(6, .bool rr.isSome), (5, at0 b5), (0, at0 tb), (1, .int .i64 c)] ∧ Inv S w0 w (B b5 187 #[.bool (caB rr), .int .i64 (caK rr), .int .i64 (caX rr)] :: B tb 59 (trC L.sb (.iface T (at0 bv)) q p b false) :: tapeE q (.slice A len cp) u' :: (LG' ++ spt L s))) ?_ ?_
  ·have hNext : ∀ (X : List Ent) (w : World), Inv S w0 w (X ++ (B tb 59 (trC L.sb (.iface T (at0 bv)) q p b false) :: tapeE q (.slice A len cp) u :: (LG ++ spt L s))) →
     Cq f #[at0 bv, at0 q] w fun e w' => ∃ r g' L' u', Nx nums g u r g' u' ∧ Rep g' (.iface T (at0 bv)) L' ∧ e = .returned (.tuple #[.agg #[.bool (caB r), .int .i64 (caK r), .int .i64 (caX r)], .bool r.isSome]) ∧
      Inv S w0 w' (X ++ (B tb 59 (trC L.sb (.iface T (at0 bv)) q p b false) :: tapeE q (.slice A len cp) u' :: (L' ++ spt L s))) := by
    intro X w hI
    refine (hG S w0 _ _ q u (hI.perm (gen_perm X _ _ LG (spt L s))) hN hD (by omega)).mono ?_
    rintro e w1 ⟨r, g', L', u', hnx, hr', rfl, hI1⟩
    exact ⟨r, g', L', u', hnx, hr', rfl, hI1.perm (gen_perm X _ _ L' (spt L s)).symm⟩
   refine Wd (by kernel_rfl) ?_
   refine Wi (T := []) hI.hd1.drew ?_
   intro Sx hY hZ
   have hI := hI.drew
   refine Vl 0 rfl (Vm 1 rfl (Vf 2 1 rfl (Vd 3 (.iface T (at0 bv)) rfl (fun W hW => (hY W hW).c0 rfl) (Vl 4 rfl (Vm 5 rfl (Vf 6 2 rfl (Vd 7 (.pointer _) rfl (fun W hW => (hY W hW).c0 rfl) ?_)))))))
   refine Wt 8 rfl (fun W hW => have hI := hY W hW; (rNilChkI rfl rfl)) ?_
   refine Wt 9 rfl (fun W hW => have hI := hY W hW; (by exact rMoveE rfl rfl)) ?_
   refine WT_two 10 14 rfl rfl (by kernel_rfl) rfl rfl ?_ ?_
   ·refine WL_call rfl rfl rfl (rCallI (f := f) (vs := [_]) rfl rfl rfl (fun w => hme _ w)) ?_
    refine (hNext [] _ hI).mono ?_
    rintro e w1 ⟨r, g', L', u', hnx, hr', rfl, hI1⟩
    refine rV ?_
    replace hI := hI1
    clear hI1
    refine Wn ⟨hZ _ hI.hd1, ?_⟩
    refine Un 11 rfl (Ts 12 rfl (Ts 13 rfl (Vu 14 rfl ?_)))
    refine T1 (.agg #[.bool false, .int .i64 0, .int .i64 0]) (#[.bool false, .int .i64 0, .int .i64 0]) hI rfl ?_
    rintro b5 w - - hI
    refine Wn ⟨hZ _ hI.d0.hd1, ?_⟩
    refine Vu 15 rfl ?_
    refine T7 3 (#[_, _, _]) (.agg _) hI rfl ?_
    intro w hI
    refine Wn ⟨hZ _ hI.d0.hd1, ?_⟩
    refine Ub 16 (hS_ := hZ _ hI.d0.hd1) rfl (We (by kernel_rfl) ?_)
    exact ⟨r, g', L', u', hnx, hr', _, ⟨rfl, rfl, rfl, rfl, trivial⟩, hI⟩
   refine T1 (.agg #[.bool false, .int .i64 0, .int .i64 0]) (#[.bool false, .int .i64 0, .int .i64 0]) hI rfl ?_
   rintro b5 w - - hI
   refine Wn ⟨hZ _ hI.d0.hd1, ?_⟩
   refine Vu 10 rfl ?_
   refine WL_call rfl rfl rfl (rCallI (f := f) (vs := [_]) rfl rfl rfl (fun w => hme _ w)) ?_
   refine (hNext [_] _ hI).mono ?_
   rintro e w1 ⟨r, g', L', u', hnx, hr', rfl, hI1⟩
   refine rV ?_
   replace hI := hI1
   clear hI1
   refine Wn ⟨hZ _ hI.d0.hd1, ?_⟩
   refine Un 11 (hS_ := hZ _ hI.d0.hd1) rfl (Ts 12 (hS_ := hZ _ hI.d0.hd1) rfl (Ts 13 (hS_ := hZ _ hI.d0.hd1) rfl (Vu 15 rfl ?_)))
   refine T7 3 (#[_, _, _]) (.agg _) hI rfl ?_
   intro w hI
   refine Wn ⟨hZ _ hI.d0.hd1, ?_⟩
   refine Ub 16 (hS_ := hZ _ hI.d0.hd1) rfl (We (by kernel_rfl) ?_)
   exact ⟨r, g', L', u', hnx, hr', _, ⟨rfl, rfl, rfl, rfl, trivial⟩, hI⟩
  clear hI hFree
  rintro ρ w ⟨rr, g', LG', u', hnx, hr', b5, hH, hI⟩
  obtain ⟨σ, rfl⟩ := hH.open
  cases rr with
  | none =>
   refine Ws (Wq (V6 rfl (Ti rfl (Wn (Wc true rfl (Wq (V9 rfl (Vb rfl (V7 12 rfl ?_)))))))))
   refine WL_st1 (u := .bool _) hI rfl rfl rfl rfl rfl rfl (by kernel_rfl) rfl rfl rfl ?_
   intro w hI
   refine Wn (Wq (V8 rfl (Wn ?_)))
   exact WR (r1_ 4 rfl ⟨false, ⟨s, g', u', b, true⟩, L, LG', rfl, .inr ⟨rfl, by show b < 40; omega, c', hmb, none, g', u', hnx, .inl ⟨rfl, rfl, rfl⟩⟩, hr', hok.mono (by omega), rfl, rfl, hI.d0⟩)
  | some ca =>
   obtain ⟨wr, ky, vl⟩ := ca
   replace hI : Inv S w0 w (B b5 187 #[.bool wr, .int .i64 ky, .int .i64 vl] :: B tb 59 (trC L.sb (.iface T (at0 bv)) q p b false) :: tapeE q (.slice A len cp) u' :: (LG' ++ spt L s)) := hI
   refine Ws (Wq (V6 rfl (T9 rfl (Wn (Wc false rfl (Wk ?_))))))
   by_cases hoc : OkCa ky vl wr
   ·obtain ⟨⟨k1, k2⟩, ⟨v1, v2⟩, hw⟩ := id hoc
    have hB : ∀ (w : World), Inv S w0 w (B b5 187 #[.bool wr, .int .i64 ky, .int .i64 vl] :: B tb 59 (trC L.sb (.iface T (at0 bv)) q p b false) :: tapeE q (.slice A len cp) u' :: (LG' ++ spt L s)) →
      Cq 75 #[.pointer (some ⟨L.sb, 0, none⟩), .int .i64 c, .int .i64 ky, .bool wr, .int .i64 vl] w fun en w' => ∃ L', en = .returned .nilIface ∧ SOk L' (begS s c' ky.toNat wr vl) (M + 1) ∧ L'.sb = L.sb ∧ L'.cut = L.cut ∧ Inv S w0 w' (B b5 187 #[.bool wr, .int .i64 ky, .int .i64 vl] :: B tb 59 (trC L.sb (.iface T (at0 bv)) q p b false) :: tapeE q (.slice A len cp) u' :: (LG' ++ spt L' (begS s c' ky.toNat wr vl))) := by
     intro w hI
     refine (beginM L s M hok hM (DLs (spt L s)) _ (Inv.fromB (X := B b5 187 #[.bool wr, .int .i64 ky, .int .i64 vl] :: B tb 59 (trC L.sb (.iface T (at0 bv)) q p b false) :: tapeE q (.slice A len cp) u' :: LG') hI) c ky wr vl).mono ?_
     rintro en w1 ⟨v, L', s', rfl, _, hok', hsb, hcut, hJ, hex, _⟩
     obtain ⟨rfl, rfl⟩ := hex c' ky.toNat hmb (by omega) (by omega) v1 v2 hw
     exact ⟨L', rfl, hok', hsb, hcut, Inv.callB (X := B b5 187 #[.bool wr, .int .i64 ky, .int .i64 vl] :: B tb 59 (trC L.sb (.iface T (at0 bv)) q p b false) :: tapeE q (.slice A len cp) u' :: LG') hI hJ⟩
    refine Ws (Ws (Wd (by kernel_rfl) ?_))
    refine Wi (T := [11]) hI.drew ?_
    intro Sx hY hZ
    have hI := hI.drew
    refine Vl 0 rfl (Vm 1 rfl (Vf 2 0 rfl (Vd 3 (.pointer _) rfl (fun W hW => (hY W hW).c1 rfl) (Vx 4 rfl (Vf 5 1 rfl (Vd 6 (.int .i64 _) rfl (fun W hW => (hY W hW).c0 rfl) (Vf 7 0 rfl (Vd 8 (.bool _) rfl (fun W hW => (hY W hW).c0 rfl) (Vf 9 2 rfl (Vd 10 (.int .i64 _) rfl (fun W hW => (hY W hW).c0 rfl) ?_))))))))))
    refine WT_A (by kernel_rfl) ?_
    clear hZ hY
    refine T2 11 rfl ?_
    refine Va [.pointer _, .int .i64 _, .int .i64 _, .bool _, .int .i64 _] rfl func75 rfl ?_
    refine (hB _ hI).mono ?_
    rintro e w1 ⟨L', rfl, hok', hsb, hcut, hI1⟩
    refine rV ?_
    replace hI := hI1
    clear hI1
    refine Wn (T2 12 rfl ?_)
    refine Te rfl yy34 rfl (Wn ?_)
    refine WA_end (by kernel_rfl) ?_
    refine Wc false rfl (Wk (Wq (V9 rfl (Vb rfl (V7 11 rfl (V5 (.int .i64 _) rfl (hI.c1 rfl) (Vv rfl (Vb rfl (V7 11 rfl ?_)))))))))
    refine WL_st1 (u := .int .i64 _) hI rfl rfl rfl rfl rfl rfl (by kernel_rfl) rfl rfl rfl ?_
    intro w hI
    refine Wn (Wq (V8 rfl (Wn ?_)))
    exact WR (r1_ 4 rfl ⟨true, ⟨begS s c' ky.toNat wr vl, g', u', b + 1, false⟩, L', LG', rfl, .inr ⟨rfl, by show b < 40; omega, c', hmb, some (wr, ky, vl), g', u', hnx, .inr ⟨wr, ky, vl, rfl, .inr ⟨hoc, rfl, rfl⟩⟩⟩, hr', hok', hsb, hcut, hI.d0⟩)
   have hB : ∀ (w : World), Inv S w0 w (B b5 187 #[.bool wr, .int .i64 ky, .int .i64 vl] :: B tb 59 (trC L.sb (.iface T (at0 bv)) q p b false) :: tapeE q (.slice A len cp) u' :: (LG' ++ spt L s)) →
     Cq 75 #[.pointer (some ⟨L.sb, 0, none⟩), .int .i64 c, .int .i64 ky, .bool wr, .int .i64 vl] w fun en w' => ∃ n : Int, en = .returned (.iface 45 (.int .i64 n)) ∧ Inv S w0 w' (B b5 187 #[.bool wr, .int .i64 ky, .int .i64 vl] :: B tb 59 (trC L.sb (.iface T (at0 bv)) q p b false) :: tapeE q (.slice A len cp) u' :: (LG' ++ spt L s)) := by
    intro w hI
    refine (beginM L s M hok hM (DLs (spt L s)) _ (Inv.fromB (X := B b5 187 #[.bool wr, .int .i64 ky, .int .i64 vl] :: B tb 59 (trC L.sb (.iface T (at0 bv)) q p b false) :: tapeE q (.slice A len cp) u' :: LG') hI) c ky wr vl).mono ?_
    rintro en w1 ⟨v, L', s', rfl, _, hok', hsb, hcut, hJ, _, hx⟩
    rcases hx with ⟨⟨n, rfl⟩, hs, hL⟩ | ⟨_, c2, kn, _, h1, h2, h3, h4, _⟩
    ·rw [hs, hL] at hJ
     exact ⟨n, rfl, Inv.callB (X := B b5 187 #[.bool wr, .int .i64 ky, .int .i64 vl] :: B tb 59 (trC L.sb (.iface T (at0 bv)) q p b false) :: tapeE q (.slice A len cp) u' :: LG') hI hJ⟩
    exact absurd ⟨⟨by omega, by omega⟩, h3, h4⟩ hoc
   refine Ws (Ws (Wd (by kernel_rfl) ?_))
   refine Wi (T := [11]) hI.drew ?_
   intro Sx hY hZ
   have hI := hI.drew
   refine Vl 0 rfl (Vm 1 rfl (Vf 2 0 rfl (Vd 3 (.pointer _) rfl (fun W hW => (hY W hW).c1 rfl) (Vx 4 rfl (Vf 5 1 rfl (Vd 6 (.int .i64 _) rfl (fun W hW => (hY W hW).c0 rfl) (Vf 7 0 rfl (Vd 8 (.bool _) rfl (fun W hW => (hY W hW).c0 rfl) (Vf 9 2 rfl (Vd 10 (.int .i64 _) rfl (fun W hW => (hY W hW).c0 rfl) ?_))))))))))
   refine WT_A (by kernel_rfl) ?_
   clear hZ hY
   refine T2 11 rfl ?_
   refine Va [.pointer _, .int .i64 _, .int .i64 _, .bool _, .int .i64 _] rfl func75 rfl ?_
   refine (hB _ hI).mono ?_
   rintro e w1 ⟨n, rfl, hI1⟩
   refine rV ?_
   replace hI := hI1
   clear hI1
   refine Wn (T2 12 rfl ?_)
   refine Tl rfl yy34 rfl (Wn ?_)
   refine WA_end (by kernel_rfl) ?_
   refine Wc true rfl (Wq (V8 rfl (Wn ?_)))
   exact WR (r1_ 4 rfl ⟨false, ⟨s, g', u', b, false⟩, L, LG', rfl, .inr ⟨rfl, by show b < 40; omega, c', hmb, some (wr, ky, vl), g', u', hnx, .inr ⟨wr, ky, vl, rfl, .inl ⟨hoc, rfl, rfl⟩⟩⟩, hr', hok.mono (by omega), rfl, rfl, hI.d0⟩)
theorem mid_get {l r : List Value} {v : Value} {a : Nat} (h : l.length = a) : (l ++ v :: r).toArray[a]? = some v := by
 subst h; simp
theorem mid_set {l r : List Value} {v u : Value} {a : Nat} (h : l.length = a) : (l ++ v :: r).toArray.setIfInBounds a u = (l ++ u :: r).toArray := by
 subst h; simp
theorem mid_blt {l r : List Value} {v : Value} {a : Nat} (h : l.length = a) : Nat.blt a (l ++ v :: r).toArray.size = true := by
 subst h; rw [Nat.blt_eq]; simp
theorem rep_nil_succ {n a : Nat} (h : a < n) : List.replicate (n - a) (Value.slice none 0 0) = .slice none 0 0 :: List.replicate (n - (a + 1)) (.slice none 0 0) := by
 rw [show n - a = (n - (a + 1)) + 1 by omega, List.replicate_succ]
theorem flat_rep (n : Nat) (v : Value) : flatB n (fun _ => [v]) = (([] : List Value) ++ List.replicate (n - 0) v).toArray := by
 unfold flatB
 congr 1
 rw [List.nil_append, Nat.sub_zero]
 induction n with
 | zero => rfl
 | succ n ih => rw [List.range_succ, List.flatMap_append, ih, List.replicate_succ']; rfl
set_option maxRecDepth 4000 in
theorem links_ok (F n : Nat) (fn : Func) (cap : List Value) (w0 : World) (hf : prog.funcs[F]? = some fn) (hfn : (fn.name == "runtime.NumGoroutine") = false) (hfb : fn.body.isNone = false) (hn : 1 ≤ n ∧ n ≤ 7) (hC : CanF F cap w0) :
  Cq 123 #[.int .i64 (n : Int), .func (.func F) #[] cap.toArray] w0 fun en w' => ∃ g vals D, en = .returned (.tuple #[.slice (some ⟨g, 0, none⟩) n n, .nilIface]) ∧ vals.length = n ∧ Inv NF w0 w' [Row 0 113 1 (some ⟨g, 0, none⟩) n n vals, RowsE vals D] := by
 have hI := Inv.start (fun _ => False) w0
 refine Vn func123 rfl ?_
 refine Wq (Vo rfl (Vj rfl (Wn (Ws (Wq (V0 rfl (Vr rfl (V6 rfl (V0 rfl (Tc rfl (Ve rfl ?_)))))))))))
 refine Wn (Wc false rfl (Wk (Wq (V0 rfl ?_))))
 refine WL_mkZ (n := n) (m := 1) (by_ := 24) (z := .slice none 0 0) [.slice none 0 0] hI rfl rfl rfl rfl rfl rfl yy88 (by kernel_rfl) rfl rfl (by omega) (by omega) (by omega) ?_
 rintro g w - - hI
 refine Vo rfl (Wn ?_)
 have hst : flatB n (fun _ => [Value.slice none 0 0]) = (([] : List Value) ++ List.replicate (n - 0) (Value.slice none 0 0)).toArray := flat_rep n _
 rw [hst] at hI
 replace hI := (hI.fresh (Pure.refl _) (RowsE.ok (w := w) (vals := []) (D := fun _ => False) (fun _ h => h.elim) (fun v hv => by simp at hv)) (fun k hk => hk.elim)).sw0
 refine Wx (fun ρ w => ∃ (vals : List Value) (D : Nat → Prop), vals.length = n ∧ Has ρ [(6, .slice (some ⟨g, 0, none⟩) n n)] ∧ Inv NF w0 w [B g 113 (vals ++ List.replicate (n - n) (Value.slice none 0 0)).toArray, RowsE vals D]) ?_ ?_
 ·refine Wq (Vi rfl (Vs rfl yy88 rfl (V0 rfl (Wn (Wb ?_)))))
  refine W_loop (fun ρ w => ∃ (a : Nat) (vals : List Value) (D : Nat → Prop), a ≤ n ∧ vals.length = a ∧ Has ρ [(20, .int .i64 (a : Int)), (19, .int .i64 (n : Int)), (0, .int .i64 (n : Int)), (1, .func (.func F) #[] cap.toArray), (6, .slice (some ⟨g, 0, none⟩) n n)] ∧ Inv NF w0 w [B g 113 (vals ++ List.replicate (n - a) (Value.slice none 0 0)).toArray, RowsE vals D]) (fun ρ _ => n - cnt (ρ 20))
   ⟨0, [], fun _ => False, by omega, rfl, ⟨rfl, rfl, rfl, rfl, rfl, trivial⟩, hI⟩ ?_
  clear hI
  rintro ρ w ⟨a, vals, D, ha, hvl, hH, hI⟩
  obtain ⟨σ, rfl⟩ := hH.open
  by_cases han : a < n
  rotate_left
  ·obtain rfl : a = n := by omega
   refine Wq (Vr rfl (Wn (Ws (Wc false rfl ?_))))
   refine WE ?_
   exact ⟨vals, D, hvl, ⟨rfl, trivial⟩, hI⟩
  refine Wq (Vt rfl (Wn (Ws (Wc true rfl (Wk (Ws (Wb (Wq (V0 rfl (Vc rfl (Wn ?_)))))))))))
  refine Wq (V0 rfl (V0 rfl (Wn ?_)))
  rw [rep_nil_succ han] at hI
  have hI := hI.fresh (Pure.refl _) (Row.nil _ 0 4 1) (fun k hk => by simp [Row] at hk)
  refine Wb ?_
  refine W_loop (fun ρ w => ∃ (b : Nat) (l : List Bool) (A : Option Addr) (c : Nat), b ≤ n ∧ l.length = b ∧ Has ρ [(24, .int .i64 (b : Int)), (23, .int .i64 (n : Int)), (7, .int .i64 (a : Int)), (20, .int .i64 (a : Int)), (19, .int .i64 (n : Int)), (0, .int .i64 (n : Int)), (1, .func (.func F) #[] cap.toArray), (6, .slice (some ⟨g, 0, none⟩) n n)] ∧
   Inv NF w0 w [Row 0 4 1 A b c (boolsV l), B g 113 (vals ++ Value.slice A b c :: List.replicate (n - (a + 1)) (Value.slice none 0 0)).toArray, RowsE vals D]) (fun ρ _ => n - cnt (ρ 24))
   ⟨0, [], none, 0, by omega, rfl, ⟨rfl, rfl, rfl, rfl, rfl, rfl, rfl, rfl, trivial⟩, hI⟩ ?_
  clear hI
  rintro ρ w ⟨b, l, A, c, hb, hll, hH, hI⟩
  obtain ⟨σ, rfl⟩ := hH.open
  by_cases hbn : b < n
  rotate_left
  ·obtain rfl : b = n := by omega
   refine Wq (Vr rfl (Wn (Ws (Wc false rfl ?_))))
   refine WE ?_
   refine Wr (Vv rfl (V0 rfl (Wn ?_)))
   have h2 := (hI.sw1.rowsIn hll.symm (by omega)).sw0
   have e1 : (vals ++ Value.slice A b c :: List.replicate (b - (a + 1)) (.slice none 0 0)) = (vals ++ [.slice A b c]) ++ List.replicate (b - (a + 1)) (.slice none 0 0) := by simp
   rw [e1] at h2
   refine ⟨⟨a + 1, vals ++ [.slice A b c], _, by omega, by simp [hvl], ⟨rfl, rfl, rfl, rfl, rfl, trivial⟩, h2⟩, by show b - ((a + 1 : Nat) : Int).toNat < b - (a : Int).toNat; omega⟩
  have hga : ∀ w, Inv NF w0 w [B g 113 (vals ++ Value.slice A b c :: List.replicate (n - (a + 1)) (Value.slice none 0 0)).toArray, RowsE vals D] → w.cell? ⟨g, a, none⟩ = some (.slice A b c) := fun w hI => hI.cell 0 rfl (mid_get hvl)
  refine Wq (Vt rfl (Wn (Ws (Wc true rfl (Wk ?_)))))
  refine Wx (fun ρ w => ∃ (r : Bool) (A' : Option Addr) (c' : Nat), Has ρ [(24, .int .i64 (b : Int)), (23, .int .i64 (n : Int)), (7, .int .i64 (a : Int)), (20, .int .i64 (a : Int)), (19, .int .i64 (n : Int)), (0, .int .i64 (n : Int)), (1, .func (.func F) #[] cap.toArray), (6, .slice (some ⟨g, 0, none⟩) n n)] ∧
   Inv NF w0 w [Row 0 4 1 A' (b + 1) c' (boolsV (l ++ [r])), B g 113 (vals ++ Value.slice A' (b + 1) c' :: List.replicate (n - (a + 1)) (Value.slice none 0 0)).toArray, RowsE vals D]) ?_ ?_
  ·refine Wb (Wq (V0 rfl (Vc rfl (Wn ?_))))
   have hbools : ∀ r : Bool, boolsV l ++ [.bool r] = boolsV (l ++ [r]) := fun r => by simp [boolsV]
   by_cases hab : a = b
   ·refine Wd (by kernel_rfl) ?_
    refine Wi (T := [18]) hI.d0.drew ?_
    intro Sx hY hZ
    have hI := hI.drew
    refine Ta 0 rfl (Vx 1 rfl (Ta 2 rfl (Vx 3 rfl (Uc 4 rfl yy88 rfl (Vd 5 (.slice _ _ _) rfl (fun W hW => have hI := hY W hW; hga _ hI) (Vx 6 rfl (Vx 7 rfl ?_)))))))
    refine Wt 8 rfl (fun W hW => have hI := hY W hW; (by exact rEqlT rfl rfl rfl (by omega))) ?_
    refine Tg 9 rfl (Vq 10 rfl rfl (Vq 11 rfl rfl (Vq 12 rfl rfl (Vq 13 rfl rfl (U4 14 rfl (Vu 15 rfl ?_))))))
    refine T3 [(0, .bool _)] [_] [.bool false] [0] hI rfl yy113 (fun _ => by kernel_rfl) ?_
    rintro b42 w - - hI
    refine Wn ⟨hZ _ hI.d0.d0, ?_⟩
    refine Vu 16 rfl ?_
    refine Tx 1 (.bool false) hI rfl yy113 rfl (by rfl) hI.lit0 (by rfl) (Nat.zero_le _) ?_
    rintro A43 c43 w hA43 hc43 hI
    have hI := hI.d0
    refine Wn ⟨hZ _ hI.d0, ?_⟩
    refine Uc 17 rfl yy88 rfl ?_
    refine WT_A (by kernel_rfl) ?_
    clear hZ hY
    refine T2 18 rfl ?_
    refine WL_st1 (u := .slice A43 (b + 1) c43) (j := a) hI rfl rfl rfl rfl rfl rfl (by kernel_rfl) rfl (mid_blt hvl) (mid_set hvl) ?_
    intro w hI
    refine Wn ?_
    refine WA_end (by kernel_rfl) ?_
    have e := hbools true
    exact ⟨true, A43, c43, ⟨rfl, rfl, rfl, rfl, rfl, rfl, rfl, rfl, trivial⟩, by rw [← e]; exact hI⟩
   refine Wd (by kernel_rfl) ?_
   refine Wi (T := [18]) hI.d0.drew ?_
   intro Sx hY hZ
   have hI := hI.drew
   refine Ta 0 rfl (Vx 1 rfl (Ta 2 rfl (Vx 3 rfl (Uc 4 rfl yy88 rfl (Vd 5 (.slice _ _ _) rfl (fun W hW => have hI := hY W hW; hga _ hI) (Vx 6 rfl (Vx 7 rfl ?_)))))))
   refine Wt 8 rfl (fun W hW => have hI := hY W hW; (by exact rEqlF rfl rfl rfl (by omega))) ?_
   refine Tg 9 rfl ?_
   refine Wt 10 rfl (fun W hW => have hI := hY W hW; (by exact rMoveF rfl rfl)) ?_
   refine Vx 11 rfl (Vx 12 rfl (Vu 13 rfl ?_))
   refine WL_call rfl rfl rfl (rCallF (first := []) (cap := cap) (vs := [.int .i64 (a : Int), .int .i64 (b : Int)] ++ cap) rfl rfl hf hfn hfb rfl) ?_
   refine (hC _ a b hI.pu (by omega) (by omega)).mono ?_
   rintro en w1 ⟨⟨r, rfl⟩, hp⟩
   refine rV ?_
   have hI := hI.pure hp
   refine Wn ⟨hZ _ hI.d0, ?_⟩
   refine Tw 14 rfl (Vu 15 rfl ?_)
   refine T3 [(0, .bool _)] [_] [.bool false] [0] hI rfl yy113 (fun _ => by kernel_rfl) ?_
   rintro b42 w - - hI
   refine Wn ⟨hZ _ hI.d0.d0, ?_⟩
   refine Vu 16 rfl ?_
   refine Tx 1 (.bool false) hI rfl yy113 rfl (by rfl) hI.lit0 (by rfl) (Nat.zero_le _) ?_
   rintro A43 c43 w hA43 hc43 hI
   have hI := hI.d0
   refine Wn ⟨hZ _ hI.d0, ?_⟩
   refine Uc 17 rfl yy88 rfl ?_
   refine WT_A (by kernel_rfl) ?_
   clear hZ hY
   refine T2 18 rfl ?_
   refine WL_st1 (u := .slice A43 (b + 1) c43) (j := a) hI rfl rfl rfl rfl rfl rfl (by kernel_rfl) rfl (mid_blt hvl) (mid_set hvl) ?_
   intro w hI
   refine Wn ?_
   refine WA_end (by kernel_rfl) ?_
   have e := hbools r
   exact ⟨r, A43, c43, ⟨rfl, rfl, rfl, rfl, rfl, rfl, rfl, rfl, trivial⟩, by rw [← e]; exact hI⟩
  clear hI
  rintro ρ w ⟨r, A', c', hH, hI⟩
  obtain ⟨σ, rfl⟩ := hH.open
  refine Wr (Vv rfl (V0 rfl (Wn ?_)))
  exact ⟨⟨b + 1, l ++ [r], A', c', by omega, by simp [hll], ⟨rfl, rfl, rfl, rfl, rfl, rfl, rfl, rfl, trivial⟩, hI⟩, by show n - ((b + 1 : Nat) : Int).toNat < n - (b : Int).toNat; omega⟩
 clear hI
 rintro ρ w ⟨vals, D, hvl, hH, hI⟩
 obtain ⟨σ, rfl⟩ := hH.open
 rw [Nat.sub_self, List.replicate_zero, List.append_nil] at hI
 refine Wq (Vi rfl (Vo rfl (Vj rfl (Wn ?_))))
 refine WR ?_
 refine r2_ 4 5 rfl ⟨g, vals, D, rfl, hvl, ?_⟩
 have h2 := hI.u0 (e' := Row 0 113 1 (some ⟨g, 0, none⟩) n n vals.toArray.toList) (Chg.refl _ _) (Row.of_blk hI.g0 (Nat.zero_le _) (by simp [hvl]) (by omega)) (fun k hk => .inl (by have : some g = some k := hk; injection this with this; exact this.symm))
 exact h2
theorem links_bad (n : Int) (fv : Value) (w0 : World) (hn : n < 1 ∨ 7 < n) (hfv : ∃ F cap, fv = .func (.func F) #[] cap) :
  Cq 123 #[.int .i64 n, fv] w0 fun en w' => (∃ z, en = .returned (.tuple #[.slice none 0 0, .iface 45 (.int .i64 z)])) ∧ Pure w0 w' := by
 have hI := Inv.start (fun _ => False) w0
 obtain ⟨F, cap, rfl⟩ := hfv
 refine Vn func123 rfl ?_
 refine Wq (Vo rfl (Vj rfl (Wn (Ws ?_))))
 refine Wx (fun ρ w => ρ 14 = .bool true ∧ Pure w0 w) ?_ ?_
 ·by_cases h1 : n < 1
  ·refine Wr (V0 rfl (Vt rfl (V6 rfl (V4 rfl (V4 rfl (Vk rfl (Wn ?_)))))))
   exact ⟨rfl, hI.pu⟩
  have h2 : 7 < n := by omega
  refine Wr (V0 rfl (Vr rfl (V6 rfl (V0 rfl (Tq rfl (Ve rfl (Wn ?_)))))))
  exact ⟨rfl, hI.pu⟩
 clear hI
 rintro ρ w ⟨h14, hp⟩
 refine Wc true h14 (Wq (T6 rfl yy45 rfl (Vo rfl (Vp rfl (Wn ?_)))))
 exact WR (r2_ 4 5 rfl ⟨⟨_, rfl⟩, hp⟩)
section
variable {P : Program} {ρ : Env} {w : World} {o : Oper} {x : Operand} {t t' e : TypeId}
theorem rSliceNeT {n c : Nat} {p : Addr} (ho : o.op = .binOp .neq t x (.const (.slice none 0 0)) t') (ht : P.underlying t = some (.slice e)) (hx : ev ρ x = .slice (some p) n c) : Runs P ρ o w (.bool true) := by
 have h := run_equal (P := P) (w := w) (t := t) (x := .slice (some p) n c) (y := .slice none 0 0) (r := false) (fun d => by simp [Op.equalIn, run_underlying ht])
 simp [Runs, execOp, ho, hx, show ev ρ (.const (.slice none 0 0)) = .slice none 0 0 from rfl, eqGuard, binOp, h]
theorem rSliceNeF {n c : Nat} (ho : o.op = .binOp .neq t x (.const (.slice none 0 0)) t') (ht : P.underlying t = some (.slice e)) (hx : ev ρ x = .slice none n c) : Runs P ρ o w (.bool false) := by
 have h := run_equal (P := P) (w := w) (t := t) (x := .slice none n c) (y := .slice none 0 0) (r := true) (fun d => by simp [Op.equalIn, run_underlying ht])
 simp [Runs, execOp, ho, hx, show ev ρ (.const (.slice none 0 0)) = .slice none 0 0 from rfl, eqGuard, binOp, h]
theorem rSliceNe {A : Option Addr} {n c : Nat} (ho : o.op = .binOp .neq t x (.const (.slice none 0 0)) t') (ht : P.underlying t = some (.slice e)) (hx : ev ρ x = .slice A n c) : Runs P ρ o w (.bool A.isSome) := by
 cases A with
 | none => exact rSliceNeF ho ht hx
 | some p => exact rSliceNeT ho ht hx
end
set_option maxRecDepth 4000 in
theorem ncut_any (L : StL) (s : StS) (A : Option Addr) (n c : Nat) (vals : List Value) (D : Nat → Prop) (hn : n ≤ 1000) (hvl : vals.length = n) (S : Nat → Prop) (w0 : World) (hI : Inv S w0 w0 ([Row 0 113 1 A n c vals, RowsE vals D] ++ spt L s)) :
  Cq 87 #[.pointer (some ⟨L.sb, 7, none⟩), .slice A n c] w0 fun en w' => en = .returned (.tuple #[]) ∧ ∃ LA ln lc lv LD, Inv S w0 w' ([Row 0 113 1 A n c vals, RowsE vals D] ++ spt { L with LA := LA, ln := ln, lc := lc, cut := A.isSome, lv := lv, LD := LD } s) := by
 unfold spt at hI
 replace hI : Inv S w0 w0 [Row 0 113 1 A n c vals, RowsE vals D, B L.sb 93 (stoC L s), B L.nb 98 (flatB (s.n * 8) (ndF s)), B L.cb 238 (flatB s.k (clF L s)), Many s.k (cntE L s), Row 0 194 9 L.MA s.mails.length L.mc (s.mails.flatMap mailL), Row 0 113 1 L.LA L.ln L.lc L.lv, RowsE L.lv L.LD, Row 0 70 7 L.EA s.evs.length L.ec (s.evs.flatMap evL), Row 0 95 2 L.SA s.sts.length L.sc (s.sts.flatMap stmL)] := hI
 refine Vn func87 rfl ?_
 refine Wq (V9 rfl (V9 rfl (Vi rfl ?_)))
 refine Wv rfl (rSliceNe rfl yy88 rfl) ?_
 refine Vb rfl (Tf 1 rfl ?_)
 refine WL_st 2 rfl (u := .slice none 0 0) (j := 8) hI rfl rfl rfl rfl rfl rfl (by kernel_rfl) rfl rfl rfl ?_
 intro w hI
 refine Vb rfl (Tf 2 rfl ?_)
 refine WL_st 2 rfl (u := .bool A.isSome) (j := 9) hI rfl rfl rfl rfl rfl rfl (by kernel_rfl) rfl rfl rfl ?_
 intro w hI
 refine Wn ?_
 replace hI := (((hI.erase 7).erase 7).fresh (Pure.refl _) (Row.nil _ 0 113 1) (fun k hk => by simp [Row] at hk)).back 7
 replace hI := (hI.fresh (Pure.refl _) (RowsE.ok (w := w) (vals := []) (D := fun _ => False) (fun _ h => h.elim) (fun v hv => by simp at hv)) (fun k hk => hk.elim)).back 8
 replace hI : Inv S w0 w ([Row 0 113 1 A n c vals, RowsE vals D] ++ spt { L with LA := none, ln := 0, lc := 0, cut := A.isSome, lv := [], LD := fun _ => False } s) := hI
 refine Wq (Vi rfl (Vs rfl yy88 rfl (V0 rfl (Wn (Wb ?_)))))
 refine W_loop (fun ρ w => ∃ (i : Nat) (LA : Option Addr) (lc : Nat) (lv : List Value) (LD : Nat → Prop), i ≤ n ∧ lv.length = i ∧ Has ρ [(16, .int .i64 (i : Int)), (15, .int .i64 (n : Int)), (14, .slice A n c), (0, .pointer (some ⟨L.sb, 7, none⟩))] ∧ Inv S w0 w ([Row 0 113 1 A n c vals, RowsE vals D] ++ spt { L with LA := LA, ln := i, lc := lc, cut := A.isSome, lv := lv, LD := LD } s)) (fun ρ _ => n - cnt (ρ 16))
  ⟨0, none, 0, [], fun _ => False, by omega, rfl, ⟨rfl, rfl, rfl, rfl, trivial⟩, hI⟩ ?_
 clear hI
 rintro ρ w ⟨i, LA, lc, lv, LD, hi, hlv, hH, hI⟩
 obtain ⟨σ, rfl⟩ := hH.open
 by_cases hin : i < n
 rotate_left
 ·refine Wq (Vr rfl (Wn (Ws (Wc false rfl ?_))))
  refine WE ?_
  exact ret0 (.inl rfl) rfl ⟨rfl, LA, i, lc, lv, LD, hI⟩
 obtain ⟨v, hv⟩ : ∃ v, vals[i]? = some v := ⟨_, List.getElem?_eq_getElem (by omega)⟩
 have hvm := List.mem_of_getElem? hv
 have hrow : Rd w (fun _ => True) 1 (.slice A n c) n vals := Rd.of_own (hI.ok _ (List.mem_of_getElem? (i := 0) rfl)).1 (fun _ _ _ => trivial)
 obtain ⟨A', c', hve, q1, q2, q3, q4⟩ := hrow
 injection hve with e1 _ _
 subst e1
 obtain ⟨g, o, rfl, _, hc⟩ := q4 (by omega)
 have hcv := hc i v hv
 have hrs := (hI.ok _ (List.mem_of_getElem? (i := 1) rfl)).1
 obtain ⟨lb, hlb, hlbb⟩ := hrs.2 _ hvm
 obtain ⟨RA, rc, hve2, _, _⟩ := Rd.form hlb
 obtain ⟨m, hm⟩ : ∃ m, lb.length = m := ⟨_, rfl⟩
 rw [hm] at hve2
 subst hve2
 refine Wq (Vt rfl (Wn (Ws (Wc true rfl (Wk (Ws (Wb (Wq (U8 rfl yy88 rfl (V5 (.slice _ _ _) rfl hcv (Vo rfl ?_)))))))))))
 refine Wn ?_
 clear hlb hrs hm hlbb
 unfold spt at hI
 have hI := hI.pull 7 rfl
 replace hI : Inv S w0 w [Row 0 113 1 LA i lc lv, Row 0 113 1 (some ⟨g, o, none⟩) n c vals, RowsE vals D, B L.sb 93 (stoC { L with LA := LA, ln := i, lc := lc, cut := true, lv := lv, LD := LD } s), B L.nb 98 (flatB (s.n * 8) (ndF s)), B L.cb 238 (flatB s.k (clF L s)), Many s.k (cntE L s), Row 0 194 9 L.MA s.mails.length L.mc (s.mails.flatMap mailL), RowsE lv LD, Row 0 70 7 L.EA s.evs.length L.ec (s.evs.flatMap evL), Row 0 95 2 L.SA s.sts.length L.sc (s.sts.flatMap stmL)] := hI
 have h8 : ∀ w H, Inv S w0 w (RowsE vals D :: B L.sb 93 (stoC { L with LA := LA, ln := i, lc := lc, cut := true, lv := lv, LD := LD } s) :: H) → w.cell? ⟨L.sb, 8, none⟩ = some (.slice LA i lc) := fun w H hI => hI.cell 1 rfl rfl
 refine Wd (by kernel_rfl) ?_
 refine Wi (T := [11]) hI.d0.d0.drew ?_
 intro Sx hY hZ
 have hI := hI.drew
 refine Vl 0 rfl (Vl 1 rfl (Vm 2 rfl (Th 3 1 rfl (Vd 4 (.slice _ _ _) rfl (fun W hW => have hI := hY W hW; h8 _ _ hI) (Ta 5 rfl (Vu 6 rfl ?_))))))
 refine Va [.slice _ _ _] rfl func128 rfl ?_
 have hrs' := (hI.ok _ (List.mem_of_getElem? (i := 2) rfl)).1
 obtain ⟨lb', hlb', hb'⟩ := hrs'.2 _ hvm
 have hm' : m = lb'.length := by
  obtain ⟨_, _, he, _⟩ := Rd.form hlb'
  injection he
 refine (cloneB_any RA m rc lb' (fun _ => True) _ (by rw [hm'] at hlb' ⊢; exact Rd.mono hlb' fun _ _ => trivial) (by omega)).mono ?_
 rintro en w1 ⟨A2, c2, rfl, _, hJ⟩
 refine rV ?_
 have hI := hI.app1 hJ
 refine Wn ⟨hZ _ hI.d0.d0.d0, ?_⟩
 refine Vu 7 rfl ?_
 refine T3 [(0, .slice _ _ _)] [_] [.slice none 0 0] [0] hI rfl yy88 (fun _ => by kernel_rfl) ?_
 rintro b27 w - - hI
 refine Wn ⟨hZ _ hI.d0.d0.d0.d0, ?_⟩
 refine Vu 8 rfl ?_
 refine WL_app2 (z := .slice none 0 0) (by_ := 24) (news := [.slice A2 m c2]) hI rfl rfl rfl rfl rfl rfl yy88 (by kernel_rfl) rfl (by omega) (by rfl) hI.lit0 rfl (by omega) (by omega) (Nat.zero_le _) ?_
 rintro A28 c28 w _ hc28 hI
 refine Wn ⟨hZ _ hI.d0.d0.d0.d0, ?_⟩
 refine Vm 9 (hS_ := hZ _ hI.d0.d0.d0.d0) rfl (Th 10 1 (hS_ := hZ _ hI.d0.d0.d0.d0) rfl ?_)
 refine WT_A (by kernel_rfl) ?_
 clear hZ hY
 refine T2 11 rfl ?_
 refine WL_st 5 rfl (u := .slice A28 (i + 1) c28) (j := 8) hI rfl rfl rfl rfl rfl rfl (by kernel_rfl) rfl rfl rfl ?_
 intro w hI
 refine Wn ?_
 refine WA_end (by kernel_rfl) ?_
 refine Wr (Vv rfl (V0 rfl (Wn ?_)))
 have hI := hI.d0
 have hA := (hI.pull 9 rfl).sw0
 have hB := ((hA.rowsIn hm' (by omega)).back 8).back 7
 refine ⟨⟨i + 1, A28, c28, lv ++ [Value.slice A2 m c2], (fun k => A2.map (·.block) = some k ∨ LD k), by omega, by simp [hlv], ⟨rfl, rfl, rfl, rfl, trivial⟩, hB⟩, by show n - ((i + 1 : Nat) : Int).toNat < n - (i : Int).toNat; omega⟩
def LinkR (w0 : World) (v0 v1 : Value) (w' : World) : Prop :=
 (v1 = .nilIface ∧ ∃ (g n : Nat) (vals : List Value) (D : Nat → Prop), v0 = .slice (some ⟨g, 0, none⟩) n n ∧ vals.length = n ∧ (1 ≤ n ∧ n ≤ 7) ∧ Inv NF w0 w' [Row 0 113 1 (some ⟨g, 0, none⟩) n n vals, RowsE vals D]) ∨
 (v0 = .slice none 0 0 ∧ (∃ z, v1 = .iface 45 (.int .i64 z)) ∧ Pure w0 w')
theorem links_any (F : Nat) (n : Int) (fn : Func) (cap : List Value) (w0 : World) (hf : prog.funcs[F]? = some fn) (hfn : (fn.name == "runtime.NumGoroutine") = false) (hfb : fn.body.isNone = false) (hC : ∀ m : Nat, n = (m : Int) → m ≤ 7 → CanF F cap w0) :
  Cq 123 #[.int .i64 n, .func (.func F) #[] cap.toArray] w0 fun en w' => ∃ v0 v1, en = .returned (.tuple #[v0, v1]) ∧ LinkR w0 v0 v1 w' := by
 by_cases hn : 1 ≤ n ∧ n ≤ 7
 ·obtain ⟨m, rfl⟩ : ∃ m : Nat, n = (m : Int) := ⟨n.toNat, by omega⟩
  refine (links_ok F m fn cap w0 hf hfn hfb (by omega) (hC m rfl (by omega))).mono ?_
  rintro en w' ⟨g, vals, D, rfl, hl, hI⟩
  exact ⟨_, _, rfl, .inl ⟨rfl, g, m, vals, D, rfl, hl, by omega, hI⟩⟩
 refine (links_bad n _ w0 (by omega) ⟨F, cap.toArray, rfl⟩).mono ?_
 rintro en w' ⟨⟨z, rfl⟩, hp⟩
 exact ⟨_, _, rfl, .inr ⟨rfl, ⟨z, rfl⟩, hp⟩⟩
theorem LinkR.box {w0 w w' : World} {v0 v1 : Value} {H : List Ent} (hI : Inv NF w0 w H) (h : LinkR w v0 v1 w') : LinkR w0 v0 v1 w' := by
 rcases h with ⟨h1, g, n, vals, D, h2, h3, h4, h5⟩ | ⟨h1, h2, h3⟩
 ·refine .inl ⟨h1, g, n, vals, D, h2, h3, h4, ?_⟩
  have h6 := hI.app2 h5
  exact ⟨h6.chg, fun e he => h6.ok e (by rcases List.mem_cons.1 he with rfl | he; simp; rw [List.mem_singleton.1 he]; simp), fun e he => h6.own e (by rcases List.mem_cons.1 he with rfl | he; simp; rw [List.mem_singleton.1 he]; simp), h5.apart⟩
 exact .inr ⟨h1, h2, hI.pu.trans h3⟩
theorem halves_any (n : Int) (w0 : World) : Cq 82 #[.int .i64 n] w0 fun en w' => ∃ v0 v1, en = .returned (.tuple #[v0, v1]) ∧ LinkR w0 v0 v1 w' := by
 have hI := Inv.start (fun _ => False) w0
 refine Vn func82 rfl ?_
 refine Wq (Tb (.int .i64 _) #[_] hI rfl ?_)
 rintro b1 w - - hI
 refine Vo rfl (Vj rfl (Wn (Wq (V5 (.int .i64 _) rfl (hI.c0 rfl) ?_))))
 refine Wv rfl (rFunc (l := []) (m := [_]) rfl rfl rfl) ?_
 refine Va [.int .i64 _, .func _ _ _] rfl func123 rfl ?_
 refine (links_any 124 n _ [.pointer (some ⟨b1, 0, none⟩)] _ func124 rfl rfl (fun m hm h7 => halves1_any b1 m _ h7 (by subst hm; exact hI.c0 rfl))).mono ?_
 rintro en w1 ⟨v0, v1, rfl, hL⟩
 refine rV ?_
 replace hL := hL.box hI
 refine Vg rfl (Vg rfl (Tn rfl (Tn rfl (Wn ?_))))
 exact WR (r2_ 2 3 rfl ⟨v0, v1, rfl, hL⟩)
theorem bridge_any (n : Int) (w0 : World) : Cq 83 #[.int .i64 n] w0 fun en w' => ∃ v0 v1, en = .returned (.tuple #[v0, v1]) ∧ LinkR w0 v0 v1 w' := by
 have hI := Inv.start (fun _ => False) w0
 refine Vn func83 rfl ?_
 refine Wq (Tb (.int .i64 _) #[_] hI rfl ?_)
 rintro b1 w - - hI
 refine Vo rfl (Vj rfl (Wn (Wq (V5 (.int .i64 _) rfl (hI.c0 rfl) ?_))))
 refine Wv rfl (rFunc (l := []) (m := [_]) rfl rfl rfl) ?_
 refine Va [.int .i64 _, .func _ _ _] rfl func123 rfl ?_
 refine (links_any 125 n _ [.pointer (some ⟨b1, 0, none⟩)] _ func125 rfl rfl (fun m hm h7 => bridge1_any b1 m _ h7 (by subst hm; exact hI.c0 rfl))).mono ?_
 rintro en w1 ⟨v0, v1, rfl, hL⟩
 refine rV ?_
 replace hL := hL.box hI
 refine Vg rfl (Vg rfl (Tn rfl (Tn rfl (Wn ?_))))
 exact WR (r2_ 2 3 rfl ⟨v0, v1, rfl, hL⟩)
theorem ring_any (n : Int) (w0 : World) : Cq 84 #[.int .i64 n] w0 fun en w' => ∃ v0 v1, en = .returned (.tuple #[v0, v1]) ∧ LinkR w0 v0 v1 w' := by
 have hI := Inv.start (fun _ => False) w0
 refine Vn func84 rfl ?_
 refine Wq (Tb (.int .i64 _) #[_] hI rfl ?_)
 rintro b1 w - - hI
 refine Vo rfl (Vj rfl (Wn (Wq (V5 (.int .i64 _) rfl (hI.c0 rfl) ?_))))
 refine Wv rfl (rFunc (l := []) (m := [_]) rfl rfl rfl) ?_
 refine Va [.int .i64 _, .func _ _ _] rfl func123 rfl ?_
 refine (links_any 126 n _ [.pointer (some ⟨b1, 0, none⟩)] _ func126 rfl rfl (fun m hm h7 => ring1_any b1 m _ h7 (by subst hm; exact hI.c0 rfl))).mono ?_
 rintro en w1 ⟨v0, v1, rfl, hL⟩
 refine rV ?_
 replace hL := hL.box hI
 refine Vg rfl (Vg rfl (Tn rfl (Tn rfl (Wn ?_))))
 exact WR (r2_ 2 3 rfl ⟨v0, v1, rfl, hL⟩)
theorem LinkR.pure {w0 w' : World} {v0 v1 : Value} (h : LinkR w0 v0 v1 w') : Pure w0 w' := by
 rcases h with ⟨_, g, n, vals, D, _, _, _, h5⟩ | ⟨_, _, h3⟩
 ·exact h5.pu
 exact h3
theorem alone_any (n who : Int) (w0 : World) : Cq 85 #[.int .i64 n, .int .i64 who] w0 fun en w' => ∃ v0 v1, en = .returned (.tuple #[v0, v1]) ∧ LinkR w0 v0 v1 w' := by
 have hI := Inv.start (fun _ => False) w0
 refine Vn func85 rfl ?_
 refine Wq (Tb (.int .i64 _) #[_] hI rfl ?_)
 rintro b3 w - - hI
 refine Vo rfl (Vj rfl (Wn (Wq (V0 rfl ?_))))
 refine Wv rfl (rFunc (l := []) (m := [_]) rfl rfl rfl) ?_
 refine Va [.int .i64 _, .func _ _ _] rfl func123 rfl ?_
 refine (links_any 127 n _ [.pointer (some ⟨b3, 0, none⟩)] _ func127 rfl rfl (fun m hm h7 => alone1_any b3 who _ (hI.c0 rfl))).mono ?_
 rintro en w1 ⟨v0, v1, rfl, hL⟩
 refine rV ?_
 have hLb := hL.box hI
 have hI := hI.pure hL.pure
 have hcs : (v1 = .nilIface ∧ ∃ (g m : Nat), v0 = .slice (some ⟨g, 0, none⟩) m m) ∨ ∃ z, v1 = .iface 45 (.int .i64 z) := by
  rcases hL with ⟨h1, g, m, vals, D, h2, _⟩ | ⟨_, ⟨z, h2⟩, _⟩
  ·exact .inl ⟨h1, g, m, h2⟩
  exact .inr ⟨z, h2⟩
 refine Vz rfl (Vg rfl (Vg rfl (Tn rfl (Tn rfl (Wn ?_)))))
 rcases hcs with ⟨rfl, g, m, rfl⟩ | ⟨z, rfl⟩
 rotate_left
 ·refine Ws (Wq (Vy rfl ?_))
  refine Wv rfl (by exact rIfaceEq rfl yy34 rfl rfl) ?_
  refine V6 rfl (V4 rfl (V4 rfl (V4 rfl (V4 rfl (V4 rfl (V4 rfl (V4 rfl (Ve rfl (Wn (Wc false rfl (Wk (Ws (Wr ?_)))))))))))))
  refine Wv rfl (by exact rMove rfl) ?_
  refine Vy rfl (Tn rfl (Vp rfl (Wn ?_)))
  exact WR (r2_ 4 5 rfl ⟨_, _, rfl, hLb⟩)
 by_cases hw : who < 0 ∨ n ≤ who
 ·refine Ws ?_
  refine Wx (fun ρ w => ρ 24 = .bool true ∧ Pure w0 w) ?_ ?_
  ·by_cases h1 : who < 0
   ·refine Wr (T8 rfl ?_)
    refine Wv rfl (by exact rNilEq rfl yy34 rfl) ?_
    refine V6 rfl (V5 (.int .i64 _) rfl (hI.c0 rfl) (Vt rfl (V6 rfl (V4 rfl (V4 rfl (V4 rfl (Vk rfl (Vk rfl (Wn ?_)))))))))
    exact ⟨rfl, hI.pu⟩
   have h2 : n ≤ who := by omega
   refine Wr (T8 rfl ?_)
   refine Wv rfl (by exact rNilEq rfl yy34 rfl) ?_
   refine V6 rfl (V5 (.int .i64 _) rfl (hI.c0 rfl) (Vr rfl (V6 rfl (V5 (.int .i64 _) rfl (hI.c0 rfl) (V0 rfl (To rfl (Ve rfl (Vk rfl (Wn ?_)))))))))
   exact ⟨rfl, hI.pu⟩
  clear hI
  rintro ρ w ⟨h24, hp⟩
  refine Wc true h24 (Wq (T6 rfl yy45 rfl (Vo rfl (Vp rfl (Wn ?_)))))
  exact WR (r2_ 4 5 rfl ⟨_, _, rfl, .inr ⟨rfl, ⟨_, rfl⟩, hp⟩⟩)
 refine Ws (Wq (T8 rfl ?_))
 refine Wv rfl (by exact rNilEq rfl yy34 rfl) ?_
 refine V6 rfl (V5 (.int .i64 _) rfl (hI.c0 rfl) (Vr rfl (V6 rfl (V5 (.int .i64 _) rfl (hI.c0 rfl) (V0 rfl (U5 rfl (Ve rfl (Vk rfl (Wn (Wc false rfl (Wk (Ws (Wr ?_)))))))))))))
 refine Vi rfl (T8 rfl (Vo rfl (Vj rfl (Wn ?_))))
 exact WR (r2_ 4 5 rfl ⟨_, _, rfl, hLb⟩)
end Go.Proofs.YtlkobbighkiojaaGreatDoor
