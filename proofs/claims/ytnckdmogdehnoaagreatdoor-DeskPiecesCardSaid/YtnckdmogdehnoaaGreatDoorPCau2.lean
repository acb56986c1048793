/- Part of the proof that a desk answers in pieces. -/
import Derived.Test.YtnckdmogdehnoaaGreatDoorPA
import Derived.Test.YtnckdmogdehnoaaGreatDoorPSxS
import Derived.Test.YtnckdmogdehnoaaGreatDoorPLin5
import Derived.Test.YtnckdmogdehnoaaGreatDoorPSxR
set_option maxRecDepth 8000
set_option maxHeartbeats 8000000
set_option linter.unusedVariables false
set_option linter.unusedSimpArgs false
namespace Go.Proofs.YtnckdmogdehnoaaGreatDoor
open Tryz
open Go.RowKit
variable {o : Int} {l : List Op8} {L : Loc} {bud c c' db eb f i j k n : Nat} {sts : Nat → List Int} {A A' : Option Addr}
def stL (L : Loc) (sts : Nat → List Int) : List Value := (List.range 8).map fun k => Value.slice (L k).1 (sts k).length (L k).2
theorem stL_get (hk : k < 8) : (stL L sts).toArray[k]? = some (.slice (L k).1 (sts k).length (L k).2) := by
 unfold stL
 rw [List.getElem?_toArray, List.getElem?_map, List.getElem?_range hk]
 rfl
def bitsF (dn : Nat → Bool) (j : Nat) : List Nat := (List.range j).map fun i => bitF (dn i)
theorem bitsF_succ (dn : Nat → Bool) (j : Nat) : bitsF dn (j + 1) = bitsF dn j ++ [bitF (dn j)] := by simp [bitsF, List.range_succ]
def encQ (l : List Int) (q : Nat) : List Nat := (l.take q).flatMap fun n => 32 :: itoa36 n
theorem encQ_succ {l : List Int} {q : Nat} (hq : q < l.length) : encQ l (q + 1) = encQ l q ++ [32] ++ itoa36 l[q] := by
 unfold encQ
 rw [List.take_succ_eq_append_getElem hq, List.flatMap_append, List.append_assoc]
 simp only [List.flatMap_cons, List.flatMap_nil, List.append_nil]
 rfl
theorem encQ_all (l : List Int) : encQ l l.length ++ [124] = encL l := by unfold encQ encL; rw [List.take_length]
theorem encS_succ (sts : Nat → List Int) (k : Nat) : encS sts (List.range (k + 1)) = encS sts (List.range k) ++ encL (sts k) := by simp [encS, List.range_succ]
theorem encQ_len (l : List Int) : ∀ q, (encQ l q).length ≤ 16 * q := by
 intro q
 induction q with
 | zero => simp [encQ]
 | succ q ih =>
  rcases Nat.lt_or_ge q l.length with h | h
  ·rw [encQ_succ h]
   have := itoa_len l[q]
   simp
   omega
  have : encQ l (q + 1) = encQ l q := by unfold encQ; rw [List.take_of_length_le h, List.take_of_length_le (by omega)]
  rw [this]; omega
theorem encL_len (l : List Int) : (encL l).length ≤ 16 * l.length + 1 := by
 rw [← encQ_all]
 have := encQ_len l l.length
 simp
 omega
theorem encS_len {m : Nat} (h : ∀ k, (sts k).length ≤ m) : ∀ k, (encS sts (List.range k)).length ≤ k * (16 * m + 1) := by
 intro k
 induction k with
 | zero => simp [encS]
 | succ k ih =>
  rw [encS_succ, List.length_append, Nat.add_mul, Nat.one_mul]
  have h1 := encL_len (sts k)
  have h2 := h k
  omega
theorem BytE.snoc {base : Nat} {l : List Nat} {b : Nat} : BytE base A c (l ++ [b]) = Row base 5 1 A (l.length + 1) c (bytC l ++ [.int .u8 (b : Int)]) := by
 unfold BytE
 rw [bytC_app, List.length_append]
 rfl
theorem rMulN {P : Program} {ρ : Env} {oo : Oper} {w : World} {x y : Operand} {t t' : TypeId} {a b : Nat} (ho : oo.op = .binOp .mul t x y t') (hx : ev ρ x = .int .i64 (a : Int)) (hy : ev ρ y = .int .i64 (b : Int)) (h : a * b ≤ 9223372036854775807) : Runs P ρ oo w (.int .i64 ((a * b : Nat) : Int)) := by
 have hn : (0 : Int) ≤ (a : Int) * (b : Int) := by rw [← Int.natCast_mul]; omega
 have hm : (a : Int) * (b : Int) ≤ 9223372036854775807 := by rw [← Int.natCast_mul]; omega
 have := rMul (P := P) (w := w) ho hx hy ⟨by omega, hm⟩
 rwa [← Int.natCast_mul] at this
theorem skey_any (sb : Nat) (A : Option Addr) (c n db : Nat) (dn : Nat → Bool) (L : Loc) (sts : Nat → List Int) (w0 : World) (h1 : w0.cell? ⟨sb, 1, none⟩ = some (.slice A n c)) (h4 : w0.cell? ⟨sb, 4, none⟩ = some (.slice (some ⟨db, 0, none⟩) n n)) (hd : Blk w0 db 4 (boolC n dn))
  (h6 : ∀ (j : Nat) (u : Value), (stL L sts)[j]? = some u → w0.cell? ⟨sb, 6 + j, none⟩ = some u) (hst : ∀ k, k < 8 → Rd w0 (fun _ => True) 1 (.slice (L k).1 (sts k).length (L k).2) (sts k).length (i64s (sts k))) (hn : n ≤ 100) (hi : ∀ k, ∀ x ∈ sts k, i64B x) (hlen : ∀ k, (sts k).length ≤ 100) :
  Cq 170 #[.pointer (some ⟨sb, 0, none⟩)] w0 fun en w' => en = .returned (.string (strB (keyF n dn sts))) ∧ Pure w0 w' := by
 have hI := Inv.start (fun _ => False) w0
 refine Vm func170 Z (Wq (T5 Z (Wn (Wq (T1 Z (Tj Z (V8 1 Z (V6 (.slice _ _ _) Z (hI.oldp h1) (Vo Z yy94 Z (Wv Z (rMulN (a := 2) (b := n) Z Z Z (by omega)) (WL_mkCap (zv := .int .u8 0) (by_ := 1) (base := 0) hI Z Z Z Z Z Z yy31 (by kernel_rfl) (by omega) (by omega) (Nat.zero_le _) ?_)))))))))))
 rintro b16 w _ _ hI
 refine Vg Z (Wn ?_)
 replace hI : Inv NF w0 w [BytE 0 (some ⟨b16, 0, none⟩) (2 * n) (bitsF dn 0)] := hI
 refine Wx (fun ρ w => ∃ (A3 : Option Addr) (c3 : Nat), Has ρ [(3, .slice A3 (bitsF dn n).length c3), (0, .pointer (some ⟨sb, 0, none⟩))] ∧ Inv NF w0 w [BytE 0 A3 c3 (bitsF dn n)]) ?_ ?_
 ·refine Wq (T1 Z (Tj Z (V8 4 Z (V6 (.slice _ _ _) Z (hI.oldp h4) (Vo Z yy91 Z (V0 Z (Wn (Wb ?_))))))))
  refine Wl (fun mu ρ w => ∃ (k : Nat) (A3 : Option Addr) (c3 : Nat), mu = n - k ∧ k ≤ n ∧ Has ρ [(22, Y (k : Int)), (21, Y (n : Int)), (20, .slice (some ⟨db, 0, none⟩) n n), (3, .slice A3 (bitsF dn k).length c3), (0, .pointer (some ⟨sb, 0, none⟩))] ∧ Inv NF w0 w [BytE 0 A3 c3 (bitsF dn k)]) n
   ⟨0, _, _, rfl, by omega, ⟨rfl, rfl, rfl, rfl, rfl, trivial⟩, hI⟩ ?_
  clear hI
  rintro mu ρ w ⟨k, A3, c3, rfl, hk, hH, hI⟩
  obtain ⟨σ, rfl⟩ := hH.open
  have hbl : (bitsF dn k).length = k := by simp [bitsF]
  by_cases hkn : k < n
  rotate_left
  ·obtain rfl : k = n := by omega
   exact Wq (Vr Z (Yg Z (WE ⟨A3, c3, g2_, hI⟩)))
  have hdg := (hd.cell k).trans (boolC_get (n := n) dn hkn)
  cases hdn : dn k with
  | true =>
   rw [hdn] at hdg
   refine Wq (Vu Z (Yu Z (Wk (Ws (Wb (Wq (T6 Z yy91 Z (V6 (.bool _) Z (hI.oldp hdg) (Vc Z (Wn (Wq (V7 Z (Yt Z (Wr (Va Z (T3 [(0, .int .u8 _)] [_] [.int .u8 0] [0] hI Z yy31 (fun _ => by kernel_rfl) ?_))))))))))))))))
   rintro b28 w - - hI
   refine WL_app1 (z := .int .u8 0) (by_ := 1) hI Z Z Z Z Z Z yy31 (by kernel_rfl) Z (by omega) (by rfl) hI.lit0 (by rfl) (by omega) (by omega) (by exact Nat.zero_le _) ?_
   rintro A29 c29 w hA29 hc29 hI
   have hI := hI.d0
   refine Vg Z (Wn ?_)
   replace hI : Inv NF w0 w [BytE 0 A29 c29 (bitsF dn (k + 1))] := by
    rw [bitsF_succ, hdn, BytE.snoc]; exact hI
   exact Wr (Vl Z (V0 Z (Wn ⟨n - (k + 1), by omega, k + 1, A29, c29, rfl, by omega, ⟨rfl, rfl, rfl, by rw [bitsF_succ, List.length_append]; rfl, rfl, trivial⟩, hI⟩)))
  | false =>
   rw [hdn] at hdg
   refine Wq (Vu Z (Yu Z (Wk (Ws (Wb (Wq (T6 Z yy91 Z (V6 (.bool _) Z (hI.oldp hdg) (Vc Z (Wn (Wq (V7 Z (Yf Z (Wr (Va Z (T3 [(0, .int .u8 _)] [_] [.int .u8 0] [0] hI Z yy31 (fun _ => by kernel_rfl) ?_))))))))))))))))
   rintro b31 w - - hI
   refine WL_app1 (z := .int .u8 0) (by_ := 1) hI Z Z Z Z Z Z yy31 (by kernel_rfl) Z (by omega) (by rfl) hI.lit0 (by rfl) (by omega) (by omega) (by exact Nat.zero_le _) ?_
   rintro A32 c32 w hA32 hc32 hI
   have hI := hI.d0
   refine Vg Z (Wn ?_)
   replace hI : Inv NF w0 w [BytE 0 A32 c32 (bitsF dn (k + 1))] := by
    rw [bitsF_succ, hdn, BytE.snoc]; exact hI
   exact Wr (Vl Z (V0 Z (Wn ⟨n - (k + 1), by omega, k + 1, A32, c32, rfl, by omega, ⟨rfl, rfl, rfl, by rw [bitsF_succ, List.length_append]; rfl, rfl, trivial⟩, hI⟩)))
 clear hI
 rintro ρ w ⟨A3, c3, hH, hI⟩
 obtain ⟨σ, rfl⟩ := hH.open
 have hbl : (bitsF dn n).length = n := by simp [bitsF]
 refine Wx (fun ρ w => ∃ (A3 : Option Addr) (c3 : Nat), Has ρ [(3, .slice A3 (keyF n dn sts).length c3)] ∧ Inv NF w0 w [BytE 0 A3 c3 (keyF n dn sts)]) ?_ ?_
 ·refine Wq (T1 Z (Tj Z (V8 6 Z (Ts 8 Z (by rfl) (fun k u hk => hI.oldp (h6 k u hk)) (V0 Z (Wn (Wb ?_)))))))
  refine Wl (fun mu ρ w => ∃ (k : Nat) (A3 : Option Addr) (c3 : Nat), mu = 8 - k ∧ k ≤ 8 ∧ Has ρ [(38, Y (k : Int)), (37, .agg (stL L sts).toArray), (3, .slice A3 (bitsF dn n ++ encS sts (List.range k)).length c3)] ∧ Inv NF w0 w [BytE 0 A3 c3 (bitsF dn n ++ encS sts (List.range k))]) 8
   ⟨0, A3, c3, rfl, by omega, ⟨rfl, rfl, by simp [encS]; rfl, trivial⟩, by simp only [encS, List.range_zero, List.flatMap_nil, List.append_nil]; exact hI⟩ ?_
  clear hI
  rintro mu ρ w ⟨k, A3, c3, rfl, hk, hH, hI⟩
  obtain ⟨σ, rfl⟩ := hH.open
  by_cases hk8 : k < 8
  rotate_left
  ·obtain rfl : k = 8 := by omega
   exact Wq (Vr Z (Yg Z (WE ⟨A3, c3, g1_, hI⟩)))
  refine Wq (Vu Z (Yu Z (Wk (Ws (Wb (Ws (Wr (Wv Z (rIdxAg Z underlying223 (by kernel_rfl) (by kernel_rfl) Z Z (by omega) (stL_get hk8)) (Vg Z (Wn ?_))))))))))
  have hrd := hst k hk8
  have hel := encS_len hlen k
  have hlk := hlen k
  have hk16 : k * (16 * 100 + 1) ≤ 8 * (16 * 100 + 1) := Nat.mul_le_mul_right _ hk
  generalize (L k).1 = Ak at hrd ⊢
  generalize (L k).2 = ck at hrd ⊢
  refine Wx (fun ρ w => ∃ (A3 : Option Addr) (c3 : Nat), Has ρ [(38, Y (k : Int)), (37, .agg (stL L sts).toArray), (3, .slice A3 (bitsF dn n ++ encS sts (List.range k) ++ encQ (sts k) (sts k).length).length c3)] ∧ Inv NF w0 w [BytE 0 A3 c3 (bitsF dn n ++ encS sts (List.range k) ++ encQ (sts k) (sts k).length)]) ?_ ?_
  ·refine Wq (Va Z (Vo Z yy41 Z (V0 Z (Wn (Wb ?_)))))
   refine Wl (fun mu ρ w => ∃ (q : Nat) (A3 : Option Addr) (c3 : Nat), mu = (sts k).length - q ∧ q ≤ (sts k).length ∧ Has ρ [(43, Y (q : Int)), (42, Y ((sts k).length : Int)), (41, .slice Ak (sts k).length ck), (38, Y (k : Int)), (37, .agg (stL L sts).toArray), (3, .slice A3 (bitsF dn n ++ encS sts (List.range k) ++ encQ (sts k) q).length c3)] ∧ Inv NF w0 w [BytE 0 A3 c3 (bitsF dn n ++ encS sts (List.range k) ++ encQ (sts k) q)]) (sts k).length
    ⟨0, A3, c3, rfl, by omega, ⟨rfl, rfl, rfl, rfl, rfl, by simp [encQ]; rfl, trivial⟩, by simp only [encQ, List.take_zero, List.flatMap_nil, List.append_nil]; exact hI⟩ ?_
   clear hI
   rintro mu ρ w ⟨q, A3, c3, rfl, hq, hH, hI⟩
   obtain ⟨σ, rfl⟩ := hH.open
   by_cases hql : q < (sts k).length
   rotate_left
   ·obtain rfl : q = (sts k).length := by omega
    exact Wq (Vr Z (Yg Z (WE ⟨A3, c3, g3_, hI⟩)))
   have hi0 : (i64s (sts k))[q]? = some (.int .i64 ((sts k)[q]'hql)) := by simp [i64s, hql]
   obtain ⟨ob, oo, rfl, _, _, hcell⟩ := hrd.get hi0 (by omega)
   have hi64 := hi k _ (List.getElem_mem hql)
   have hql16 := encQ_len (sts k) q
   have hsucc := encQ_succ hql
   generalize (sts k)[q]'hql = z at hcell hi64 hsucc
   have htot : (bitsF dn n ++ encS sts (List.range k) ++ encQ (sts k) q).length ≤ 20000 := by
    rw [List.length_append, List.length_append]; omega
   generalize hX : bitsF dn n ++ encS sts (List.range k) ++ encQ (sts k) q = X at hI htot
   refine Wq (Vu Z (Yu Z (Wk (Ws (Wb (Wq (Tz Z yy41 Z (V6 (Y _) Z (hI.oldp hcell) (Vb Z (Wn (Wr (Va Z (T3 [(0, .int .u8 _)] [_] [.int .u8 0] [0] hI Z yy31 (fun _ => by kernel_rfl) ?_)))))))))))))
   rintro b48 w - - hI
   refine WL_app1 (z := .int .u8 0) (by_ := 1) hI Z Z Z Z Z Z yy31 (by kernel_rfl) Z (by omega) (by rfl) hI.lit0 (by rfl) (by omega) (by omega) (by exact Nat.zero_le _) ?_
   rintro A49 c49 w hA49 hc49 hI
   have hI := hI.d0
   refine V0 Z (Vd [.slice _ _ _, Y _, Y _] Z func180 Z ?_)
   replace hI : Inv NF w0 w [BytE 0 A49 c49 (X ++ [32])] := by
    rw [BytE.snoc]; exact hI
   refine Calls.mono (by have h := appP_any 0 A49 c49 (X ++ [32]) z _ (hI.ok _ (by simp)) hi64 (by simp; omega) (Nat.zero_le _); rw [List.length_append] at h; exact h) ?_
   rintro e w1 ⟨A', c', rfl, hT⟩
   refine rV ?_
   have hI := hI.turn1 hT
   refine Vg Z (Wn (Wr (Vl Z (V0 Z (Wn ?_)))))
   have eX : bitsF dn n ++ encS sts (List.range k) ++ encQ (sts k) (q + 1) = X ++ [32] ++ itoa36 z := by rw [hsucc, ← hX]; simp
   exact ⟨(sts k).length - (q + 1), by omega, q + 1, A', c', rfl, by omega, ⟨rfl, rfl, rfl, rfl, rfl, by rw [eX]; rfl, trivial⟩, by rw [eX]; exact hI⟩
  clear hI
  rintro ρ w ⟨A3, c3, hH, hI⟩
  obtain ⟨σ, rfl⟩ := hH.open
  have hq16 := encQ_len (sts k) (sts k).length
  have htot : (bitsF dn n ++ encS sts (List.range k) ++ encQ (sts k) (sts k).length).length ≤ 20000 := by
   rw [List.length_append, List.length_append]; omega
  have eX : bitsF dn n ++ encS sts (List.range k) ++ encQ (sts k) (sts k).length ++ [124] = bitsF dn n ++ encS sts (List.range (k + 1)) := by rw [encS_succ, ← encQ_all]; simp
  generalize hX : bitsF dn n ++ encS sts (List.range k) ++ encQ (sts k) (sts k).length = X at hI htot eX
  refine Wr (Va Z (T3 [(0, .int .u8 _)] [_] [.int .u8 0] [0] hI Z yy31 (fun _ => by kernel_rfl) ?_))
  rintro b54 w - - hI
  refine WL_app1 (z := .int .u8 0) (by_ := 1) hI Z Z Z Z Z Z yy31 (by kernel_rfl) Z (by omega) (by rfl) hI.lit0 (by rfl) (by omega) (by omega) (by exact Nat.zero_le _) ?_
  rintro A55 c55 w hA55 hc55 hI
  have hI := hI.d0
  refine Vg Z (Wn ?_)
  replace hI : Inv NF w0 w [BytE 0 A55 c55 (bitsF dn n ++ encS sts (List.range (k + 1)))] := by
   rw [← eX, BytE.snoc]; exact hI
  exact Wr (Vl Z (V0 Z (Wn ⟨8 - (k + 1), by omega, k + 1, A55, c55, rfl, by omega, ⟨rfl, rfl, by rw [← eX, List.length_append]; rfl, trivial⟩, hI⟩)))
 clear hI
 rintro ρ w ⟨A3, c3, hH, hI⟩
 obtain ⟨σ, rfl⟩ := hH.open
 have hpos : 0 < (keyF n dn sts).length := by
  unfold keyF
  rw [List.length_append, encS_succ sts 7, List.length_append, ← encQ_all]
  simp
  omega
 exact Wq (Va Z (Wv Z (rBytesStr Z yy31 underlying5 yy9 Z hI.g0 (keyF_small n dn sts) hpos) (T5 Z (Wn (WR (r1_ 2 Z ⟨Z, hI.pu⟩))))))
def srcC (o : Int) (A : Option Addr) (n c bud f db eb : Nat) (L : Loc) (sts : Nat → List Int) (A' : Option Addr) (m c' : Nat) : Array Value :=
 #[.int .i64 o, .slice A n c, .int .i64 (bud : Int), .func (.func f) #[] #[], .slice (some ⟨db, 0, none⟩) n n, .slice A' m c',
  .slice (L 0).1 (sts 0).length (L 0).2, .slice (L 1).1 (sts 1).length (L 1).2, .slice (L 2).1 (sts 2).length (L 2).2, .slice (L 3).1 (sts 3).length (L 3).2,
  .slice (L 4).1 (sts 4).length (L 4).2, .slice (L 5).1 (sts 5).length (L 5).2, .slice (L 6).1 (sts 6).length (L 6).2, .slice (L 7).1 (sts 7).length (L 7).2, .map (some eb)]
theorem lt8 (h : k < 8) : k = 0 ∨ k = 1 ∨ k = 2 ∨ k = 3 ∨ k = 4 ∨ k = 5 ∨ k = 6 ∨ k = 7 := by omega
section
variable {o : Int} {A : Option Addr} {n c bud f db eb : Nat} {L : Loc} {sts : Nat → List Int} {A' : Option Addr} {m c' : Nat}
theorem srcC_st (hk : k < 8) : (srcC o A n c bud f db eb L sts A' m c')[6 + k]? = some (.slice (L k).1 (sts k).length (L k).2) := by
 rcases lt8 hk with rfl | rfl | rfl | rfl | rfl | rfl | rfl | rfl <;> rfl
theorem srcC_stL {u : Value} (hu : (stL L sts)[k]? = some u) : (srcC o A n c bud f db eb L sts A' m c')[6 + k]? = some u := by
 have hk : k < 8 := by have := (gS_ hu).1; simpa [stL] using this
 rw [srcC_st hk]
 have := stL_get (L := L) (sts := sts) hk
 simp only [List.getElem?_toArray] at this
 rw [this] at hu
 exact hu
theorem srcC_set (hk : k < 8) (A1 : Option Addr) (c1 : Nat) (st : List Int) : (srcC o A n c bud f db eb L sts A' m c').setIfInBounds (6 + k) (.slice A1 st.length c1) = srcC o A n c bud f db eb (updL L k A1 c1) (stSet sts k st) A' m c' := by
 rcases lt8 hk with rfl | rfl | rfl | rfl | rfl | rfl | rfl | rfl <;> rfl
end
theorem updL_back (L : Loc) (k : Nat) (A1 : Option Addr) (c1 : Nat) : updL (updL L k A1 c1) k (L k).1 (L k).2 = L := by
 funext j
 unfold updL
 by_cases h : j = k
 ·subst h; simp
 simp [h]
theorem stSet_back (sts : Nat → List Int) (k : Nat) (st : List Int) : stSet (stSet sts k st) k (sts k) = sts := by
 funext j
 unfold stSet
 by_cases h : j = k
 ·subst h; simp
 simp [h]
theorem dnSet_back {dn : Nat → Bool} (h : dn i = false) : dnSet (dnSet dn i true) i false = dn := by
 funext j
 unfold dnSet
 by_cases hj : j = i
 ·subst hj; simp [h]
 simp [hj]
def prt (sb : Nat) (o : Int) (A : Option Addr) (n c bud f db eb : Nat) (L : Loc) (s : SSt) (A' : Option Addr) (c' : Nat) : List Ent :=
 [B sb 225 (srcC o A n c bud f db eb L s.sts A' s.ord.length c'), B db 4 (boolC n s.dn), StE A' c' s.ord, SetE eb s.ent]
section
variable {l0 l H : List Ent} {w0 w : World} {S : Nat → Prop} {size n : Nat} {v : Value} {xs : List Value}
theorem Rd.now (hI : Inv (DL l0) w0 w H) (h : Rd w0 (fun b => ¬ DL l0 b) size v n xs) (hs : 0 < size) : Rd w (fun b => ¬ DL H b) size v n xs := by
 obtain ⟨A, c, hv, h1, h2, h3, h4⟩ := h
 refine ⟨A, c, hv, h1, h2, h3, fun hn => ?_⟩
 obtain ⟨b, o, e, hb, hcell⟩ := h4 hn
 have hlen : 0 < xs.length := by rw [h3]; exact Nat.mul_pos hn hs
 have hlt := World.block_lt_of_cell? w0 _ (hcell 0 _ (gE_ hlen))
 refine ⟨b, o, e, ?_, fun j u hu => hI.old (hcell j u hu) hb⟩
 rintro ⟨x, hx, hxb⟩
 rcases hI.own x hx b hxb with h5 | h5
 ·exact hb h5
 have hlt : b < w0.heap.size := hlt
 omega
theorem DL.mono (h : ∀ e ∈ l, e ∈ H) {b : Nat} (hb : ¬ DL H b) : ¬ DL l b := fun ⟨e, he, hk⟩ => hb ⟨e, h e he, hk⟩
theorem StE.rd {st : List Int} (hI : Inv S w0 w (StE A c st :: l)) : Rd w (fun b => ¬ DL l b) 1 (.slice A st.length c) st.length (i64s st) := by
 have hg : w.ownsRow 0 3 1 (.slice A st.length c) st.length (i64s st) := hI.g0
 refine Rd.of_own hg fun k hk _ => ?_
 rintro ⟨e, he, hke⟩
 rw [ownBlock_slice] at hk
 exact (List.pairwise_cons.1 hI.apart).1 e he k hk hke
theorem kn_now (hI : Inv (DL l0) w0 w H) (hk : KnOk w0) (h0 : ¬ DL l0 9) : KnOk w ∧ ¬ DL H 9 := by
 refine ⟨fun i hi => hI.old (hk i hi) h0, ?_⟩
 rintro ⟨x, hx, hxb⟩
 have hlt : 9 < w0.heap.size := World.block_lt_of_cell? w0 _ (hk 0 (by omega))
 rcases hI.own x hx _ hxb with h5 | h5
 ·exact h0 h5
 omega
def StOk (w : World) (l : List Ent) (L : Loc) (sts : Nat → List Int) : Prop := ∀ k, k < 8 → Rd w (fun b => ¬ DL l b) 1 (.slice (L k).1 (sts k).length (L k).2) (sts k).length (i64s (sts k))
theorem StOk.now (h : StOk w0 l0 L sts) (hI : Inv (DL l0) w0 w H) : StOk w H L sts := fun k hk => Rd.now hI (h k hk) (by decide)
theorem StOk.mono (h : StOk w H L sts) (hs : ∀ e ∈ l, e ∈ H) : StOk w l L sts := fun k hk => (h k hk).mono fun _ hb => DL.mono hs hb
theorem StOk.upd {st : List Int} (h : StOk w l L sts) (hs : Rd w (fun b => ¬ DL l b) 1 (.slice A st.length c) st.length (i64s st)) : StOk w l (updL L k A c) (stSet sts k st) := by
 intro j hj
 by_cases hjk : j = k
 ·subst hjk
  have e1 : updL L j A c j = (A, c) := by simp [updL]
  have e2 : stSet sts j st j = st := by simp [stSet]
  rw [e1, e2]
  exact hs
 have e1 : updL L k A c j = L j := by simp [updL, hjk]
 have e2 : stSet sts k st j = sts j := by simp [stSet, hjk]
 rw [e1, e2]
 exact h j hj
end
section
variable {P : Program} {ρ : Env} {oo : Oper} {w : World} {x y : Operand} {t kt et b : Nat} {ks : List (List Nat)} {a : List Nat}
theorem rLookST (h : a ∈ ks) (ho : oo.op = .lookup t x y true) (ht : P.underlying t = some (.map kt et)) (hk : P.underlying kt = some .string) (hz : (P.info? et).bind (·.zero) = some (.agg #[])) (hx : ev ρ x = .map (some b)) (hy : ev ρ y = .string (strB a)) (ha : ∀ c ∈ a, c < 256) (hM : SetIs w b ks) : Runs P ρ oo w (.tuple #[.agg #[], .bool true]) := by
 have := rLookS (P := P) ho ht hk hz hx hy ha hM
 rwa [decide_eq_true h] at this
theorem rLookSF (h : a ∉ ks) (ho : oo.op = .lookup t x y true) (ht : P.underlying t = some (.map kt et)) (hk : P.underlying kt = some .string) (hz : (P.info? et).bind (·.zero) = some (.agg #[])) (hx : ev ρ x = .map (some b)) (hy : ev ρ y = .string (strB a)) (ha : ∀ c ∈ a, c < 256) (hM : SetIs w b ks) : Runs P ρ oo w (.tuple #[.agg #[], .bool false]) := by
 have := rLookS (P := P) ho ht hk hz hx hy ha hM
 rwa [decide_eq_false h] at this
end
theorem srcC_st1 {m : Nat} (hk : k < 8) : (srcC o A n c bud f db eb L sts A' m c')[6 + k * 1]? = some (.slice (L k).1 (sts k).length (L k).2) := by
 rw [Nat.mul_one]
 exact srcC_st hk
theorem boolC_dnSet (f : Nat → Bool) (u : Nat) (b : Bool) : (boolC n f).setIfInBounds u (.bool b) = boolC n (dnSet f u b) := boolC_set f u b
def EntPost (o : Int) (sb db eb f : Nat) (A : Option Addr) (c : Nat) (l : List Op8) (ab : Op8 → Op8 → Bool) (bud : Nat) (fu : Nat) (s : SSt) (L : Loc) (l0 : List Ent) (w0 : World) (en : Ending) (w' : World) : Prop :=
 ∃ L' A'' c'', en = .returned (.int .i64 (enterF o l ab bud fu s).1) ∧ Inv (DL l0) w0 w' (prt sb o A l.length c bud f db eb L' (enterF o l ab bud fu s).2 A'' c'') ∧ ((enterF o l ab bud fu s).1 = 2 → L' = L)
theorem EntPost.same {sb : Nat} {ab : Op8 → Op8 → Bool} {fu : Nat} {s : SSt} {l0 : List Ent} {w0 w' : World} {z : Int} (h : enterF o l ab bud fu s = (z, s)) (hI : Inv (DL l0) w0 w' (prt sb o A l.length c bud f db eb L s A' c')) : EntPost o sb db eb f A c l ab bud fu s L l0 w0 (.returned (.int .i64 z)) w' := by
 unfold EntPost
 rw [h]
 exact ⟨L, A', c', Z, hI, fun _ => Z⟩
theorem EntPost.mk {sb : Nat} {ab : Op8 → Op8 → Bool} {fu : Nat} {s s' : SSt} {L' : Loc} {l0 : List Ent} {w0 w' : World} {z : Int} (h : enterF o l ab bud fu s = (z, s')) (hI : Inv (DL l0) w0 w' (prt sb o A l.length c bud f db eb L' s' A' c')) (hL : z = 2 → L' = L) : EntPost o sb db eb f A c l ab bud fu s L l0 w0 (.returned (.int .i64 z)) w' := by
 unfold EntPost
 rw [h]
 exact ⟨L', A', c', Z, hI, hL⟩
theorem range_drop (h : k < n) : (List.range n).drop k = k :: (List.range n).drop (k + 1) := by
 rw [List.drop_eq_getElem_cons (by simpa using h)]
 simp
theorem allF_iff {dn : Nat → Bool} : allB l dn ↔ allF l dn = true := by
 unfold allB allF
 simp only [List.all_eq_true, List.mem_range, Bool.or_eq_true, Bool.not_eq_true', decide_eq_false_iff_not]
 refine ⟨fun h i hi => ?_, fun h i hi hr => ?_⟩
 ·by_cases h0 : 0 ≤ (oAt l i).ret
  ·exact .inr (h i hi h0)
  exact .inl h0
 rcases h i hi with h1 | h1
 ·exact absurd hr h1
 exact h1
theorem nextF_iff {ab : Op8 → Op8 → Bool} {dn : Nat → Bool} : nextB l ab dn i ↔ nextF l ab dn i = true := by
 unfold nextB nextF
 simp only [List.all_eq_true, List.mem_range, Bool.and_eq_true, Bool.or_eq_true, Bool.not_eq_true', beq_iff_eq]
 refine ⟨fun h => ⟨h.1, fun k hk => ?_⟩, fun h => ⟨h.1, fun k hk hki hd => ?_⟩⟩
 ·by_cases hki : k = i
  ·exact .inl (.inl hki)
  cases hd : dn k with
  | true => exact .inl (.inr rfl)
  | false => exact .inr (h.2 k hk hki hd)
 rcases h.2 k hk with (h1 | h1) | h1
 ·exact absurd h1 hki
 ·rw [hd] at h1; cases h1
 exact h1
theorem bool_iff {b : Bool} {p : Prop} {c : Bool} (h : b = true ↔ p) (h2 : p ↔ c = true) : b = c := by
 have h := h.trans h2
 cases b <;> cases c <;> simp at h ⊢
theorem enter_any (o : Int) (sb db eb f : Nat) (A : Option Addr) (c : Nat) (l : List Op8) (ab : Op8 → Op8 → Bool) (bud : Nat) (hA : ArgsOk l) (hf : AheadC f ab) (h40 : l.length ≤ 40) (hbud : bud ≤ 1000000) :
  ∀ (fu : Nat) (s : SSt) (L : Loc) (A' : Option Addr) (c' : Nat) (w0 : World), undn l.length s.dn < fu → GoodS o l.length s.dn s.sts → s.ord.length + undn l.length s.dn ≤ 40 → s.ent.length ≤ bud →
   Inv (DL (prt sb o A l.length c bud f db eb L s A' c')) w0 w0 (prt sb o A l.length c bud f db eb L s A' c') →
   OpsR w0 (fun b => ¬ DL (prt sb o A l.length c bud f db eb L s A' c') b) (.slice A l.length c) l → KnOk w0 → ¬ DL (prt sb o A l.length c bud f db eb L s A' c') 9 → StOk w0 (prt sb o A l.length c bud f db eb L s A' c') L s.sts →
   Cq 140 #[.pointer (some ⟨sb, 0, none⟩)] w0 (EntPost o sb db eb f A c l ab bud fu s L (prt sb o A l.length c bud f db eb L s A' c') w0) := by
 intro fu
 induction fu with
 | zero => intro s L A' c' w0 h; omega
 | succ fu ih =>
 intro s L A' c' w0 hu hG hord hent hI hops hkn hkg hst
 obtain ⟨dn, sts, ord, ent⟩ := s
 have hI0 := hI
 generalize hl0 : prt sb o A l.length c bud f db eb L ⟨dn, sts, ord, ent⟩ A' c' = l0 at hops hkg hst ⊢
 replace hI : Inv (DL l0) w0 w0 [B sb 225 (srcC o A l.length c bud f db eb L sts A' ord.length c'), B db 4 (boolC l.length dn), StE A' c' ord, SetE eb ent] := by rw [hl0] at hI; rw [← hl0] at hI ⊢; exact hI
 have nops : ∀ {w : World} {H : List Ent}, Inv (DL l0) w0 w H → OpsR w (fun b => ¬ DL H b) (.slice A l.length c) l := fun hI => Rd.now hI hops (by decide)
 have nkn : ∀ {w : World} {H : List Ent}, Inv (DL l0) w0 w H → KnOk w := fun hI => (kn_now hI hkn hkg).1
 have hi64 := hG.i64
 have hol : ord.length ≤ 40 := by simp only at hord; omega
 have hlen : ∀ k, (sts k).length ≤ 41 := fun k => by
  have h1 := hG.len k
  have h2 := cnt_undn l.length dn
  simp only at h1
  omega
 refine Vm func140 Z (Wq (Vb Z (Wn ?_)))
 cases hall : allF l dn with
 | true =>
  refine Ws (Wq (T1 Z (Vd [.pointer _] Z func169 Z ((sall_any sb A c l db dn _ _ (nops hI) (hI.c0 Z) (hI.c0 Z) hI.g1 (by omega)).mono ?_))))
  rintro e w1 ⟨⟨b, rfl, hb⟩, hp⟩
  obtain rfl : b = true := (bool_iff hb allF_iff).trans hall
  refine rV ?_
  have hI := hI.pure hp
  exact Yt Z (Wq (Vb Z (Wn (WR (r1_ 2 Z (EntPost.same (enterF_all hall) hI))))))
 | false =>
 refine Ws (Wq (T1 Z (Vd [.pointer _] Z func169 Z ((sall_any sb A c l db dn _ _ (nops hI) (hI.c0 Z) (hI.c0 Z) hI.g1 (by omega)).mono ?_))))
 rintro e w1 ⟨⟨b, rfl, hb⟩, hp⟩
 obtain rfl : b = false := (bool_iff hb allF_iff).trans hall
 refine rV ?_
 have hI := hI.pure hp
 refine Yf Z (Wk (Wq (T1 Z (Vd [.pointer _] Z func170 Z ((skey_any sb A c l.length db dn L sts _ (hI.c0 Z) (hI.c0 Z) hI.g1 (fun j u hu => ((hI.g0 : Blk _ _ _ _).cell _).trans (srcC_stL hu)) (fun k hk => (hst.now hI k hk).mono fun _ _ => trivial) (by omega) hi64 (fun k => by have := hlen k; omega)).mono (okP hI fun w2 hp hI => T5 rfl (Wn ?_)))))))
 have hky := keyF_small l.length dn sts
 generalize hkey : keyF l.length dn sts = ky at *
 by_cases hin : ky ∈ ent
 ·refine Ws (Wq (T1 Z (Tj Z (V8 14 Z (V6 (.map _) Z (hI.c0 Z) (Ta Z (Wv Z (rLookST (a := ky) hin Z yy222 yy9 (by kernel_rfl) Z Z hky hI.g3) (T4 Z (Vj Z (Vj Z (Vz (.agg #[]) #[] hI Z ?_)))))))))))
  rintro b4 w - - hI
  refine T2 0 #[] (.agg _) hI Z ?_
  intro w hI
  exact Vc Z (Wn (Wq (V7 Z (Yt Z (Wq (Vb Z (Wn (WR (r1_ 2 Z (EntPost.same (enterF_old hall (by rw [hkey]; exact hin)) hI.d0))))))))))
 refine Ws (Wq (T1 Z (Tj Z (V8 14 Z (V6 (.map _) Z (hI.c0 Z) (Ta Z (Wv Z (rLookSF (a := ky) hin Z yy222 yy9 (by kernel_rfl) Z Z hky hI.g3) (T4 Z (Vj Z (Vj Z (Vz (.agg #[]) #[] hI Z ?_)))))))))))
 rintro b4 w - - hI
 refine T2 0 #[] (.agg _) hI Z ?_
 intro w hI
 refine Vc Z (Wn ?_)
 have hI := hI.d0
 refine Wq (V7 Z (Yf Z (Wk ?_)))
 by_cases hfull : ent.length = bud
 ·exact Ws (Ws (Yi hI fun Sx hY hXS hI => T7 0 Z (T8 1 Z (Vf 2 14 Z (V9 3 (.map _) Z (fun W hW => (hY W hW).c0 Z) (Wt 4 Z (fun W hW => have hI := hY W hW; (rLenSet Z yy222 Z hI.g3)) (T7 5 Z (T8 6 Z (Vf 7 2 Z (Ye 8 hY Z Z (U8 9 Z (Yz (Wc true Z (Wq (Vb Z (Wn (WR (r1_ 2 Z (EntPost.same (enterF_over hall (by rw [hkey]; exact hin) hfull) hI)))))))))))))))))))
 refine Ws (Ws (Yi hI fun Sx hY hXS hI => T7 0 Z (T8 1 Z (Vf 2 14 Z (V9 3 (.map _) Z (fun W hW => (hY W hW).c0 Z) (Wt 4 Z (fun W hW => have hI := hY W hW; (rLenSet Z yy222 Z hI.g3)) (T7 5 Z (T8 6 Z (Vf 7 2 Z (Ye 8 hY Z Z (U5 9 Z (Yz (Wc false Z (Wk (Wq (T1 Z (Tj Z (V8 14 Z (V6 (.map _) Z (hI.c0 Z) (Ta Z (Tc [] [] Z [] [] Z (fun _ => by kernel_rfl) (WL_setPut 3 rfl hI rfl rfl rfl yy222 yy9 rfl rfl rfl hky hin ?_))))))))))))))))))))))
 intro w hI
 replace hI : Inv (DL l0) w0 w [B sb 225 (srcC o A l.length c bud f db eb L sts A' ord.length c'), B db 4 (boolC l.length dn), StE A' c' ord, SetE eb (ent ++ [ky])] := hI
 refine Wn ?_
 have hgo : enterF o l ab bud (fu + 1) ⟨dn, sts, ord, ent⟩ = loopF o l ab (enterF o l ab bud fu) ((List.range l.length).drop 0) ⟨dn, sts, ord, ent ++ [ky]⟩ := by
  rw [enterF_go hall (by rw [hkey]; exact hin) hfull]
  unfold putE
  rw [hkey]
  rfl
 have hent1 : (ent ++ [ky]).length ≤ bud := by simp; simp only at hent; omega
 refine Ws (Wq (T1 Z (Tj Z (V8 1 Z (V6 (.slice _ _ _) Z (hI.c0 Z) (Vo Z yy94 Z (V0 Z (Wn (Wb ?_)))))))))
 refine Wl (fun mu ρ w => ∃ (k : Nat) (en : List (List Nat)), mu = l.length - k ∧ k ≤ l.length ∧ en.length ≤ bud ∧ enterF o l ab bud (fu + 1) ⟨dn, sts, ord, ent⟩ = loopF o l ab (enterF o l ab bud fu) ((List.range l.length).drop k) ⟨dn, sts, ord, en⟩ ∧ (∃ A' c', Has ρ [(48, Y (k : Int)), (47, Y (l.length : Int)), (46, .slice A l.length c), (0, .pointer (some ⟨sb, 0, none⟩))] ∧ Inv (DL l0) w0 w [B sb 225 (srcC o A l.length c bud f db eb L sts A' ord.length c'), B db 4 (boolC l.length dn), StE A' c' ord, SetE eb en])) l.length
  ⟨0, _, rfl, by omega, hent1, hgo, _, _, ⟨rfl, rfl, rfl, rfl, trivial⟩, hI⟩ ?_
 clear hI hent1 hgo hl0
 rintro mu ρ w ⟨k, en, rfl, hk, hen, hgo, A', c', hH, hI⟩
 obtain ⟨σ, rfl⟩ := hH.open
 by_cases hkl : k < l.length
 rotate_left
 ·obtain rfl : k = l.length := by omega
  rw [List.drop_of_length_le (by simp)] at hgo
  exact Wq (Vr Z (Yg Z (WE (Wq (Vb Z (Wn (WR (r1_ 2 Z (EntPost.mk hgo hI (fun _ => Z))))))))))
 rw [range_drop hkl] at hgo
 obtain ⟨bA, oA, rfl, hoc⟩ := (nops hI).at hkl
 have hk8 : keyN l k < 8 := hA.keyN hkl
 have hk0 := (hA.key k hkl).1
 have hkz : (oAt l k).key = ((keyN l k : Nat) : Int) := by unfold keyN; omega
 have hgoF : goF o l sts k = match stepF o (sts (keyN l k)) (oAt l k).kind (oAt l k).a (oAt l k).b with
  | none => none
  | some (st', r) => if (oAt l k).ret ≠ -1 ∧ r ≠ (oAt l k).res then none else some st' := rfl
 generalize hkN : keyN l k = kN at hk8 hkz hgoF
 generalize hpk : oAt l k = pk at hoc hkz hgoF
 obtain ⟨p0, p1, p2, p3, p4, p5, p6, p7⟩ := pk
 simp only at hkz hgoF
 subst hkz
 refine Wq (Vu Z (Yu Z (Wk (Ws (Wb (Wq (V0 Z (Th 8 Z yy94 Z (Ts 8 Z (by rfl) hoc (Vz (.agg zI8) (zI8) hI Z ?_))))))))))
 rintro b7 w - - hI
 refine Vb Z (T2 8 (#[_, _, _, _, _, _, _, _]) (.agg _) hI Z ?_)
 intro w hI
 refine Wn ?_
 simp only [opV] at hI
 cases hnx : nextF l ab dn k with
 | false =>
  rw [loopF_skip hnx] at hgo
  refine Ws (Wq (T1 Z (V0 Z (Vd [.pointer _, Y _] Z func171 Z ((snext_any sb _ c l db f ab dn k _ _ (nops hI) (hI.c1 Z) (hI.c1 Z) (hI.c1 Z) hI.g2 (by omega) hkl hf).mono ?_)))))
  rintro e w3 ⟨⟨b, rfl, hb⟩, hp⟩
  obtain rfl : b = false := (bool_iff hb nextF_iff).trans hnx
  refine rV ?_
  have hI := hI.pure hp
  refine To Z (Yt Z (WE ?_))
  have hI := hI.d0
  exact Wr (Vl Z (V0 Z (Wn ⟨l.length - (k + 1), by omega, k + 1, en, rfl, by omega, hen, hgo, A', c', g4_, hI⟩)))
 | true =>
 refine Ws (Wq (T1 Z (V0 Z (Vd [.pointer _, Y _] Z func171 Z ((snext_any sb _ c l db f ab dn k _ _ (nops hI) (hI.c1 Z) (hI.c1 Z) (hI.c1 Z) hI.g2 (by omega) hkl hf).mono ?_)))))
 rintro e w3 ⟨⟨b, rfl, hb⟩, hp⟩
 obtain rfl : b = true := (bool_iff hb nextF_iff).trans hnx
 refine rV ?_
 have hI := hI.pure hp
 refine Tf Z (Yf Z (Wk (Ws (Yi hI fun Sx hY hXS hI => T7 0 Z (Vf 1 1 Z (Ye 2 hY Z Z (T8 3 Z (Vf 4 6 Z (Wt 5 Z (fun W hW => have hI := hY W hW; (rIdxArr (sz := 1) (i := kN) Z underlying223 (by kernel_rfl) Z Z Z hk8)) (V9 6 (.slice _ _ _) Z (fun W hW => have hI := hY W hW; ((hI.g1 : Blk _ _ _ _).cell _).trans (srcC_st1 hk8)) (U9 7 Z (Yz ?_))))))))))))
 have hdk : dn k = false := next_dn hnx
 cases hstep : stepF o (sts kN) p2 p3 p4 with
 | none =>
  have hg0 : goF o l sts k = none := by rw [hgoF, hstep]
  rw [loopF_no hnx hg0] at hgo
  refine Ws (Yi hI fun Sx hY hXS hI => T7 0 Z (T8 1 Z (Vf 2 0 Z (V9 3 (Y _) Z (fun W hW => (hY W hW).c1 Z) (Vp 4 Z (Vf 5 2 Z (Ye 6 hY Z Z (Vf 7 3 Z (Ye 8 hY Z Z (Vf 9 4 Z (Ye 10 hY Z Z (Vq 11 Z (Vd [Y _, .slice _ _ _, Y _, Y _, Y _] Z func172 Z ((step_any o _ _ (sts kN) p2 p3 p4 _ _ (hst.now hI kN hk8) (hG.ok kN) (by have := hlen kN; omega) (nkn hI)).mono ?_))))))))))))))
  rintro e w3 hP
  unfold StepPost at hP
  rw [hstep] at hP
  obtain ⟨rfl, hp⟩ := hP
  refine rV ?_
  have hI := hI.pure hp
  refine Wn ⟨hXS _ hI, (Ub 12 Z (Ti 13 Z (Ti 14 Z (Ti 15 Z (U9 16 Z (Tl 17 Z (Tg 18 Z (Yz (Ws (Wq (V7 Z (To Z (V7 Z (V5 Z (V5 Z (V5 Z (V5 Z (V5 Z (V5 Z (V5 Z (V5 Z (V5 Z (Vk Z (Yt Z (WE ?_)))))))))))))))))))))))))⟩
  have hI := hI.d0
  exact Wr (Vl Z (V0 Z (Wn ⟨l.length - (k + 1), by omega, k + 1, en, rfl, by omega, hen, hgo, A', c', g4_, hI⟩)))
 | some q =>
 obtain ⟨st', r⟩ := q
 refine Ws (Yi hI fun Sx hY hXS hI => T7 0 Z (T8 1 Z (Vf 2 0 Z (V9 3 (Y _) Z (fun W hW => (hY W hW).c1 Z) (Vp 4 Z (Vf 5 2 Z (Ye 6 hY Z Z (Vf 7 3 Z (Ye 8 hY Z Z (Vf 9 4 Z (Ye 10 hY Z Z (Vq 11 Z (Vd [Y _, .slice _ _ _, Y _, Y _, Y _] Z func172 Z ((step_any o _ _ (sts kN) p2 p3 p4 _ _ (hst.now hI kN hk8) (hG.ok kN) (by have := hlen kN; omega) (nkn hI)).mono ?_))))))))))))))
 rintro e w3 hP
 unfold StepPost at hP
 rw [hstep] at hP
 obtain ⟨A1, c1, rfl, hT⟩ := hP
 refine rV ?_
 have hI := hI.app1 hT
 refine Wn ⟨hXS _ hI.d0, (Ub 12 Z (Ti 13 Z (Ti 14 Z (Ti 15 Z (U9 16 Z (Tl 17 Z (Tg 18 Z (Yz ?_))))))))⟩
 by_cases hret : p7 ≠ -1 ∧ r ≠ p5
 ·have hg0 : goF o l sts k = none := by rw [hgoF, hstep]; exact if_pos hret
  rw [loopF_no hnx hg0] at hgo
  obtain ⟨hr1, hr2⟩ := hret
  refine Ws (Wq (V7 Z (Tf Z (V7 Z (V8 7 Z (Yd hI Z Z (Tn Z (V7 Z (V0 Z (V8 5 Z (Yd hI Z Z (Tn Z (Vk Z (Vi Z (Yt Z (WE ?_))))))))))))))))
  have hI := hI.d0.d0
  exact Wr (Vl Z (V0 Z (Wn ⟨l.length - (k + 1), by omega, k + 1, en, rfl, by omega, hen, hgo, A', c', g4_, hI⟩)))
 have hg1 : goF o l sts k = some st' := by rw [hgoF, hstep]; exact if_neg hret
 refine Wx (fun ρ w => Has ρ [(48, Y (k : Int)), (47, Y (l.length : Int)), (46, .slice (some ⟨bA, oA, none⟩) l.length c), (0, .pointer (some ⟨sb, 0, none⟩)), (6, Y (k : Int)), (7, .pointer (some ⟨b7, 0, none⟩)), (8, .slice (L kN).1 (sts kN).length (L kN).2), (9, .slice A1 st'.length c1)] ∧ Inv (DL l0) w0 w [StE A1 c1 st', B b7 106 #[Y p0, Y (kN : Int), Y p2, Y p3, Y p4, Y p5, Y p6, Y p7], B sb 225 (srcC o (some ⟨bA, oA, none⟩) l.length c bud f db eb L sts A' ord.length c'), B db 4 (boolC l.length dn), StE A' c' ord, SetE eb en]) ?_ ?_
 ·by_cases h7 : p7 = -1
  ·exact Wq (V7 Z (Tf Z (V7 Z (V8 7 Z (Yd hI Z Z (Ty Z (V7 Z (V5 Z (V5 Z (V5 Z (V5 Z (Vi Z (Vi Z (Yf Z (Wk ⟨g8_, hI⟩)))))))))))))))
  have h5 : r = p5 := by
   rcases Classical.em (r = p5) with h | h
   ·exact h
   exact absurd ⟨h7, h⟩ hret
  exact Wq (V7 Z (Tf Z (V7 Z (V8 7 Z (Yd hI Z Z (Tn Z (V7 Z (V0 Z (V8 5 Z (Yd hI Z Z (Ty Z (Vk Z (Vi Z (Yf Z (Wk ⟨g8_, hI⟩)))))))))))))))
 clear hI
 rintro ρ w ⟨hH, hI⟩
 obtain ⟨σ, rfl⟩ := hH.open
 refine Wx (fun ρ w => Has ρ [(48, Y (k : Int)), (47, Y (l.length : Int)), (46, .slice (some ⟨bA, oA, none⟩) l.length c), (0, .pointer (some ⟨sb, 0, none⟩)), (6, Y (k : Int)), (7, .pointer (some ⟨b7, 0, none⟩)), (8, .slice (L kN).1 (sts kN).length (L kN).2)] ∧ Inv (DL l0) w0 w [StE A1 c1 st', B b7 106 #[Y p0, Y (kN : Int), Y p2, Y p3, Y p4, Y p5, Y p6, Y p7], B sb 225 (srcC o (some ⟨bA, oA, none⟩) l.length c bud f db eb (updL L kN A1 c1) (stSet sts kN st') A' ord.length c'), B db 4 (boolC l.length (dnSet dn k true)), StE A' c' ord, SetE eb en]) ?_ ?_
 ·refine Wd (by kernel_rfl) (Wi (T := [14]) hI.d3.drew ?_)
  intro Sx hY hXS
  have hI := hI.drew
  refine T7 0 Z (T8 1 Z (Vf 2 4 Z (V9 3 (.slice _ _ _) Z (fun W hW => (hY W hW).c2 Z) (Vh 4 Z (T7 5 Z (Vf 6 1 Z (V9 7 (Y _) Z (fun W hW => (hY W hW).c1 Z) (Vp 8 Z (Te 9 Z yy91 Z (T8 11 Z (Vf 12 6 Z (Vq 10 Z (WL_st 3 Z (u := .bool true) (j := k) hI Z Z Z Z Z Z (by kernel_rfl) Z (by simp [Nat.blt, boolC]; omega) Z ?_)))))))))))))
  intro w hI
  simp only [List.set_cons_succ, List.set_cons_zero] at hI
  rw [boolC_dnSet] at hI
  refine Wn ⟨hXS _ hI.d3, (Wt 13 Z (fun W hW => have hI := hY W hW; (rIdxArr (sz := 1) (i := kN) Z underlying223 (by kernel_rfl) Z Z Z hk8)) (WT_A (by kernel_rfl) ?_))⟩
  clear hXS hY
  refine Tr 14 Z (WL_st 2 Z (u := .slice A1 st'.length c1) (j := 6 + kN * 1) hI Z Z Z Z Z Z (by kernel_rfl) Z (by simp [Nat.blt, srcC]; omega) Z ?_)
  intro w hI
  simp only [List.set_cons_succ, List.set_cons_zero] at hI
  rw [Nat.mul_one, srcC_set hk8] at hI
  exact Wn (WA_end (by kernel_rfl) ⟨g7_, hI⟩)
 clear hI
 rintro ρ w ⟨hH, hI⟩
 obtain ⟨σ, rfl⟩ := hH.open
 refine Wq (T1 Z (T1 Z (Tj Z (V8 5 Z (V6 (.slice _ _ _) Z (hI.c2 Z) (V0 Z (T3 [(0, Y _)] [_] [Y 0] [0] hI Z yy41 (fun _ => by kernel_rfl) ?_)))))))
 rintro b112 w - - hI
 refine WL_app5 (z := Y 0) (by_ := 8) hI Z Z Z Z Z Z yy41 (by kernel_rfl) Z (by omega) (by rfl) hI.lit0 (by rfl) (by omega) (by omega) (by exact Nat.zero_le _) ?_
 rintro A113 c113 w hA113 hc113 hI
 have hI := hI.d0
 refine Tj Z (V8 5 Z (WL_st2 (u := .slice _ _ _) hI Z Z Z Z Z Z (by kernel_rfl) Z Z Z ?_))
 intro w hI
 refine Wn ?_
 replace hI : Inv (DL l0) w0 w [StE A1 c1 st', B b7 106 #[.int .i64 p0, .int .i64 (kN : Int), .int .i64 p2, .int .i64 p3, .int .i64 p4, .int .i64 p5, .int .i64 p6, .int .i64 p7], B sb 225 (srcC o (some ⟨bA, oA, none⟩) l.length c bud f db eb (updL L kN A1 c1) (stSet sts kN st') A113 (ord.length + 1) c113), B db 4 (boolC l.length (dnSet dn k true)), Row 0 3 1 A113 (ord.length + 1) c113 (i64s ord ++ [.int .i64 (k : Int)]), SetE eb en] := hI
 replace hI : Inv (DL l0) w0 w [StE A1 c1 st', B b7 106 #[.int .i64 p0, .int .i64 (kN : Int), .int .i64 p2, .int .i64 p3, .int .i64 p4, .int .i64 p5, .int .i64 p6, .int .i64 p7], B sb 225 (srcC o (some ⟨bA, oA, none⟩) l.length c bud f db eb (updL L kN A1 c1) (stSet sts kN st') A113 (ord ++ [(k : Int)]).length c113), B db 4 (boolC l.length (dnSet dn k true)), StE A113 c113 (ord ++ [(k : Int)]), SetE eb en] := by
  unfold StE
  rw [i64s_app, List.length_append, List.length_singleton]
  exact hI
 have hu1 := undn_set hkl hdk
 have hG1 := hG.step hA hkl hdk hg1
 rw [hkN] at hG1
 have hs1 : stepS l ⟨dn, sts, ord, en⟩ k st' = ⟨dnSet dn k true, stSet sts kN st', ord ++ [(k : Int)], en⟩ := by unfold stepS; rw [hkN]
 have hst1 := StE.rd hI
 obtain ⟨hk1, hk2⟩ := kn_now hI hkn hkg
 have ho1 := nops hI
 have hst0 := (hst.now hI)
 have hsub : ∀ e ∈ prt sb o (some ⟨bA, oA, none⟩) l.length c bud f db eb (updL L kN A1 c1) ⟨dnSet dn k true, stSet sts kN st', ord ++ [(k : Int)], en⟩ A113 c113, e ∈ [StE A1 c1 st', B b7 106 #[.int .i64 p0, .int .i64 (kN : Int), .int .i64 p2, .int .i64 p3, .int .i64 p4, .int .i64 p5, .int .i64 p6, .int .i64 p7], B sb 225 (srcC o (some ⟨bA, oA, none⟩) l.length c bud f db eb (updL L kN A1 c1) (stSet sts kN st') A113 (ord ++ [(k : Int)]).length c113), B db 4 (boolC l.length (dnSet dn k true)), StE A113 c113 (ord ++ [(k : Int)]), SetE eb en] := fun e he => List.mem_cons_of_mem _ (List.mem_cons_of_mem _ he)
 replace hI : Inv (DL l0) w0 w (prt sb o (some ⟨bA, oA, none⟩) l.length c bud f db eb (updL L kN A1 c1) ⟨dnSet dn k true, stSet sts kN st', ord ++ [(k : Int)], en⟩ A113 c113 ++ [StE A1 c1 st', B b7 106 #[.int .i64 p0, .int .i64 (kN : Int), .int .i64 p2, .int .i64 p3, .int .i64 p4, .int .i64 p5, .int .i64 p6, .int .i64 p7]]) := hI.perm (List.perm_append_comm (l₁ := [_, _]))
 have hcall := ih ⟨dnSet dn k true, stSet sts kN st', ord ++ [(k : Int)], en⟩ (updL L kN A1 c1) A113 c113 w (by simp only; simp only at hu; omega) hG1 (by simp only [List.length_append, List.length_singleton]; simp only at hord; omega) hen hI.from (Rd.mono ho1 fun _ hb => DL.mono hsub hb) hk1 (DL.mono hsub hk2) ((hst0.mono hsub).upd (hst1.mono fun _ hb => DL.mono (fun e he => List.mem_cons_of_mem _ he) hb))
 by_cases hcode : (enterF o l ab bud fu ⟨dnSet dn k true, stSet sts kN st', ord ++ [(k : Int)], en⟩).1 = 2
 rotate_left
 ·rw [loopF_hit hnx hg1 (by rw [hs1]; exact hcode), hs1] at hgo
  refine Ws (Wq (T1 Z (Vd [.pointer _] Z func140 Z (hcall.mono ?_))))
  generalize hR : enterF o l ab bud fu ⟨dnSet dn k true, stSet sts kN st', ord ++ [(k : Int)], en⟩ = R at hcode hgo
  rintro e w4 ⟨L', A2, c2, rfl, hT, hLL⟩
  rw [hR] at hT hLL ⊢
  obtain ⟨z, s'⟩ := R
  simp only at hcode hT hLL
  refine rV ?_
  have hI := hI.turnL hT
  exact Vb Z (Wn (Wq (V0 Z (Tn Z (Yt Z (Wq (V0 Z (Vb Z (Wn (WR (r1_ 2 Z (EntPost.mk hgo hI.d4.d4 (fun e => absurd e hcode)))))))))))))
 rw [loopF_on hnx hg1 (by rw [hs1]; exact hcode), hs1] at hgo
 have heq := enter_eq hcode
 have hen2 : (enterF o l ab bud fu ⟨dnSet dn k true, stSet sts kN st', ord ++ [(k : Int)], en⟩).2.ent.length ≤ bud := enter_len fu _ hen
 refine Ws (Wq (T1 Z (Vd [.pointer _] Z func140 Z (hcall.mono ?_))))
 rintro e w4 ⟨L', A2, c2, rfl, hT, hLL⟩
 obtain rfl := hLL hcode
 rw [heq] at hT
 rw [hcode]
 refine rV ?_
 have hI := hI.turnL hT
 refine Vb Z (Wn ?_)
 clear hcall heq ih
 generalize (enterF o l ab bud fu ⟨dnSet dn k true, stSet sts kN st', ord ++ [(k : Int)], en⟩).2.ent = en2 at hI hen2 hgo
 replace hI : Inv (DL l0) w0 w4 [B sb 225 (srcC o (some ⟨bA, oA, none⟩) l.length c bud f db eb (updL L kN A1 c1) (stSet sts kN st') A2 (ord ++ [(k : Int)]).length c2), B db 4 (boolC l.length (dnSet dn k true)), StE A2 c2 (ord ++ [(k : Int)]), SetE eb en2, StE A1 c1 st', B b7 106 #[.int .i64 p0, .int .i64 (kN : Int), .int .i64 p2, .int .i64 p3, .int .i64 p4, .int .i64 p5, .int .i64 p6, .int .i64 p7]] := hI
 refine Wq (V0 Z (Ty Z (Yf Z (Wk (Wx (fun ρ w => Has ρ [(48, Y (k : Int)), (47, Y (l.length : Int)), (46, .slice (some ⟨bA, oA, none⟩) l.length c), (0, .pointer (some ⟨sb, 0, none⟩))] ∧ Inv (DL l0) w0 w [B sb 225 (srcC o (some ⟨bA, oA, none⟩) l.length c bud f db eb L sts A2 (ord ++ [(k : Int)]).length c2), B db 4 (boolC l.length dn), StE A2 c2 (ord ++ [(k : Int)]), SetE eb en2, StE A1 c1 st', B b7 106 #[Y p0, Y (kN : Int), Y p2, Y p3, Y p4, Y p5, Y p6, Y p7]]) ?_ ?_)))))
 ·refine Wd (by kernel_rfl) (Wi (T := [14]) hI.d1.drew ?_)
  intro Sx hY hXS
  have hI := hI.drew
  refine T7 0 Z (T8 1 Z (Vf 2 4 Z (V9 3 (.slice _ _ _) Z (fun W hW => (hY W hW).c0 Z) (Vh 4 Z (T7 5 Z (Vf 6 1 Z (V9 7 (Y _) Z (fun W hW => (hY W hW).c4 Z) (Vp 8 Z (Te 9 Z yy91 Z (T8 11 Z (Vf 12 6 Z (Vq 10 Z (WL_st 1 Z (u := .bool false) (j := k) hI Z Z Z Z Z Z (by kernel_rfl) Z (by simp [Nat.blt, boolC]; omega) Z ?_)))))))))))))
  intro w hI
  simp only [List.set_cons_succ, List.set_cons_zero] at hI
  rw [boolC_dnSet, dnSet_back hdk] at hI
  refine Wn ⟨hXS _ hI.d1, (Wt 13 Z (fun W hW => have hI := hY W hW; (rIdxArr (sz := 1) (i := kN) Z underlying223 (by kernel_rfl) Z Z Z hk8)) (WT_A (by kernel_rfl) ?_))⟩
  clear hXS hY
  refine Tr 14 Z (WL_st 0 Z (u := .slice (L kN).1 (sts kN).length (L kN).2) (j := 6 + kN * 1) hI Z Z Z Z Z Z (by kernel_rfl) Z (by simp [Nat.blt, srcC]; omega) Z ?_)
  intro w hI
  simp only [List.set_cons_succ, List.set_cons_zero] at hI
  rw [Nat.mul_one, srcC_set hk8, updL_back, stSet_back] at hI
  exact Wn (WA_end (by kernel_rfl) ⟨g4_, hI⟩)
 clear hI
 rintro ρ w ⟨hH, hI⟩
 obtain ⟨σ, rfl⟩ := hH.open
 have hrow : w.ownsRow 0 3 1 (.slice A2 (ord ++ [(k : Int)]).length c2) (ord ++ [(k : Int)]).length (i64s (ord ++ [(k : Int)])) := hI.g2
 have hl1 : (ord ++ [(k : Int)]).length = ord.length + 1 := by simp
 obtain ⟨g, og, rfl⟩ := row_addrS hrow (by omega) (by omega)
 have hcap : (ord ++ [(k : Int)]).length ≤ c2 ∧ c2 ≤ 9223372036854775807 := by
  rcases row_open hrow with ⟨hA, _⟩ | ⟨_, _, _, _, h1, h2, _⟩
  ·cases hA
  exact ⟨h1, h2⟩
 refine Yj [14] hI fun Sx hY hXS hI => T7 0 Z (T7 1 Z (T8 2 Z (Vf 3 5 Z (V9 4 (.slice _ _ _) Z (fun W hW => (hY W hW).c0 Z) (T7 5 Z (T8 6 Z (Vf 7 5 Z (V9 8 (.slice _ _ _) Z (fun W hW => (hY W hW).c0 Z) (U2 9 Z yy41 Z (Wt 10 Z (fun W hW => have hI := hY W hW; (rDecN (b := 1) Z Z Z (by omega) (by omega))) (Wt 11 Z (fun W hW => have hI := hY W hW; (rSliceTo (sz := 1) (i := (ord ++ [(k : Int)]).length - 1) Z yy41 (by kernel_rfl) Z Z (by omega))) (T8 12 Z (Vf 13 5 Z (WT_A (by kernel_rfl) ?_))))))))))))))
 clear hXS hY
 refine Tr 14 Z (WL_st0 (u := .slice _ _ _) hI Z Z Z Z Z Z (by kernel_rfl) Z Z Z ?_)
 intro w hI
 refine Wn (WA_end (by kernel_rfl) ?_)
 replace hI : Inv (DL l0) w0 w [B sb 225 (srcC o (some ⟨bA, oA, none⟩) l.length c bud f db eb L sts (some ⟨g, og, none⟩) ((ord ++ [(k : Int)]).length - 1) c2), B db 4 (boolC l.length dn), StE (some ⟨g, og, none⟩) c2 (ord ++ [(k : Int)]), SetE eb en2, StE A1 c1 st', B b7 106 #[.int .i64 p0, .int .i64 (kN : Int), .int .i64 p2, .int .i64 p3, .int .i64 p4, .int .i64 p5, .int .i64 p6, .int .i64 p7]] := hI
 replace hI := (hI.u2 (e' := StE (some ⟨g, og, none⟩) c2 ((ord ++ [(k : Int)]).take ((ord ++ [(k : Int)]).length - 1))) (Chg.refl _ _) (Row_part (hI.ok _ (by simp)) _ (by omega)) (fun k hk => .inl hk)).d4.d4
 rw [hl1, Nat.add_sub_cancel, List.take_left] at hI
 exact Wr (Vl Z (V0 Z (Wn ⟨l.length - (k + 1), by omega, k + 1, en2, rfl, by omega, hen2, hgo, _, _, g4_, hI⟩)))
def CellE (g j : Nat) (v : Value) : Ent := ⟨fun k => k = g, fun w => w.cell? ⟨g, j, none⟩ = some v⟩
theorem CellE.ok {w : World} {g : Nat} {v : Value} (h : w.cell? ⟨g, j, none⟩ = some v) : (CellE g j v).ok w := by
 refine Ent.mk_ok h (fun k hk => ?_) (fun S w1 w2 hc hS h1 => ?_)
 ·have : k = g := hk
  subst this
  exact World.block_lt_of_cell? w _ h
 exact (World.cell?_of_block (hc.block g (World.block_lt_of_cell? w1 _ h1) (hS g Z))).trans h1
section
variable {S : Nat → Prop} {w0 w : World} {H : List Ent}
theorem Inv.cellE {g t : Nat} {cs : Array Value} {v : Value} (h : Inv S w0 w (B g t cs :: H)) (hc : cs[j]? = some v) : Inv S w0 w [CellE g j v] :=
 ⟨h.chg, fun e he => by rw [List.mem_singleton.1 he]; exact CellE.ok (h.c0 hc), fun e he k hk => by rw [List.mem_singleton.1 he] at hk; exact h.own (B g t cs) (by simp) k hk, List.pairwise_singleton ..⟩
theorem Inv.mapE {sb : Nat} {m : Nat} (h : Inv S w0 w (B sb 225 (srcC o A n c bud f db eb L sts A' m c') :: H)) : Inv S w0 w [CellE sb 14 (.map (some eb))] := h.cellE rfl
theorem Inv.all0 (h : Inv NF w0 w H) {size : Nat} {v : Value} {xs : List Value} {D : Nat → Prop} (hr : Rd w0 D size v n xs) (hs : 0 < size) : Rd w (fun b => ¬ DL H b) size v n xs := by
 have h' : Inv (DL []) w0 w H := ⟨h.chg.mono (fun _ _ hk => hk.elim), h.ok, fun e he k hk => (h.own e he k hk).imp (fun hh => hh.elim) id, h.apart⟩
 exact Rd.now h' (hr.mono fun _ _ => fun ⟨e, he, _⟩ => by cases he) hs
theorem Inv.kn0 (h : Inv NF w0 w H) (hk : KnOk w0) : KnOk w ∧ ¬ DL H 9 := by
 have h' : Inv (DL []) w0 w H := ⟨h.chg.mono (fun _ _ hk => hk.elim), h.ok, fun e he k hk => (h.own e he k hk).imp (fun hh => hh.elim) id, h.apart⟩
 exact kn_now h' hk (fun ⟨e, he, _⟩ => by cases he)
theorem Many.rd {es : Nat → Ent} {l : List Ent} {st : List Int} (hI : Inv S w0 w (Many n es :: l)) (hi : i < n) (he : es i = StE A c st) : Rd w (fun b => ¬ DL l b) 1 (.slice A st.length c) st.length (i64s st) := by
 have hg : (es i).Φ w := hI.many_at hi
 rw [he] at hg
 have hg : w.ownsRow 0 3 1 (.slice A st.length c) st.length (i64s st) := hg
 refine Rd.of_own hg fun k hk _ => ?_
 rintro ⟨e, hel, hke⟩
 rw [ownBlock_slice] at hk
 exact (List.pairwise_cons.1 hI.apart).1 e hel k ⟨i, hi, by rw [he]; exact hk⟩ hke
end
def stK (o : Int) (k : Nat) : Nat → List Int := fun j => if j < k then startF o else []
def locK (L : Loc) (k : Nat) : Loc := fun j => if j < k then L j else (none, 0)
def ordF (r : Int × SSt) : List Int := if r.1 = 1 then r.2.ord else []
def VerdPostN (o : Int) (l : List Op8) (ab : Op8 → Op8 → Bool) (bud : Int) (w0 : World) (en : Ending) (w' : World) : Prop :=
 (OkLin o l bud ∧ ∃ A' c', en = .returned (.tuple #[.agg #[.int .i64 (verdF o l ab bud.toNat).1, .slice A' (ordF (verdF o l ab bud.toNat)).length c', .int .i64 ((verdF o l ab bud.toNat).2.ent.length : Int)], .nilIface]) ∧ Inv NF w0 w' [StE A' c' (ordF (verdF o l ab bud.toNat))]) ∨
 (¬ OkLin o l bud ∧ (∃ u, LinErr o l bud u ∧ en = .returned (.tuple #[.agg #[.int .i64 0, .slice none 0 0, .int .i64 0], .iface 49 (.int .i64 u)])) ∧ Pure w0 w')
theorem stK_succ (o : Int) (k : Nat) : stSet (stK o k) k (startF o) = stK o (k + 1) := by
 funext j
 unfold stSet stK
 by_cases h : j = k
 ·subst h; simp
 rw [if_neg h]
 by_cases h2 : j < k
 ·rw [if_pos h2, if_pos (by omega)]
 rw [if_neg h2, if_neg (by omega)]
theorem locK_succ (L : Loc) (k : Nat) (A1 : Option Addr) (c1 : Nat) : updL (locK L k) k A1 c1 = locK (updL L k A1 c1) (k + 1) := by
 funext j
 unfold updL locK
 by_cases h : j = k
 ·subst h; simp
 rw [if_neg h]
 by_cases h2 : j < k
 ·rw [if_pos h2, if_pos (by omega)]; simp [h]
 rw [if_neg h2, if_neg (by omega)]
theorem verdictN_any (o : Int) (A : Option Addr) (n c : Nat) (l : List Op8) (bud : Int) (f : Nat) (ab : Op8 → Op8 → Bool) (D : Nat → Prop) (w0 : World) (h : OpsR w0 D (.slice A n c) l) (hk : KnOk w0) (hf : AheadC f ab) :
  Cq 91 #[.int .i64 o, .slice A n c, .int .i64 bud, .func (.func f) #[] #[]] w0 (VerdPostN o l ab bud w0) := by
 obtain ⟨hn, hc1, hc2⟩ := h.len
 subst hn
 have hI := Inv.start (fun _ => False) w0
 refine Vm func91 Z (Wq (Vz (.agg #[Y 0, .slice none 0 0, Y 0]) (#[Y 0, .slice none 0 0, Y 0]) hI Z ?_))
 rintro b8 w - - hI
 refine Vw Z (Wn ?_)
 by_cases hok : OkLin o l bud
 rotate_left
 ·refine Ws (Wq (V0 Z (Va Z (V0 Z (Vd [Y _, .slice _ _ _, Y _] Z func138 Z ((lcheckN_any o A l.length c l bud D _ (h.pure hI.pu) (hk.pure hI.pu)).mono ?_))))))
  rintro e w1 ⟨hp, ⟨h1, _⟩ | ⟨_, z, hz, rfl⟩⟩
  ·exact absurd h1 hok
  refine rV ?_
  have hI := hI.pure hp
  refine Vt Z (Wn (Wq (Vy Z (U0 Z yy37 Z (Yt Z (Wq (Tc [] [_, _, _] Z [Y 0, .slice none 0 0, Y 0] [] Z (fun _ => by kernel_rfl) (Vy rfl (T2 3 (#[_, _, _]) (.agg _) hI rfl ?_)))))))))
  intro w hI
  exact Vt Z (Wn (WR (retC2 (n := 3) (t := 153) (.inr Z) Z Z (by kernel_rfl) (by kernel_rfl) Z hI.g0 (.inr ⟨hok, ⟨z, hz, Z⟩, hI.pu⟩))))
 have hA := argsOk hok
 obtain ⟨hb0, hb1⟩ : 0 ≤ bud ∧ bud ≤ 1000000 := ⟨hok.2.2.1, hok.2.2.2.1⟩
 have h40 : l.length ≤ 40 := hok.2.2.2.2.1.1
 obtain ⟨bn, rfl⟩ : ∃ bn : Nat, bud = (bn : Int) := ⟨bud.toNat, by omega⟩
 refine Ws (Wq (V0 Z (Va Z (V0 Z (Vd [Y _, .slice _ _ _, Y _] Z func138 Z ((lcheckN_any o A l.length c l _ D _ (h.pure hI.pu) (hk.pure hI.pu)).mono ?_))))))
 rintro e w1 ⟨hp, ⟨_, rfl⟩ | ⟨h1, _⟩⟩
 rotate_left
 ·exact absurd hok h1
 refine rV ?_
 have hI := hI.pure hp
 refine Vw Z (Wn (Wq (Td Z (Tv Z yy37 Z (Yf Z (Wk (Wq (V0 Z (Va Z (V0 Z (Ua Z (Va Z (Vo Z yy94 Z (WL_mk (by_ := 1) (z := .bool false) hI Z Z Z Z Z Z yy91 (by kernel_rfl) Z (by omega) (by omega) ?_))))))))))))))
 rintro b28 w - - hI
 refine WL_mkSet hI Z Z Z Z ?_
 rintro b29 w - - hI
 refine Tc [(0, Y _), (1, .slice _ _ _), (2, Y _), (3, .func _ _ _), (4, .slice _ _ _), (7, .map _)] [_, _, _, _, _, _, _, _, _, _, _, _, _, _, _] Z [Y 0, .slice none 0 0, Y 0, .nilFunc, .slice none 0 0, .slice none 0 0, .slice none 0 0, .slice none 0 0, .slice none 0 0, .slice none 0 0, .slice none 0 0, .slice none 0 0, .slice none 0 0, .slice none 0 0, .map none] [0, 1, 2, 3, 4, 14] Z (fun _ => by kernel_rfl) (Tq (.agg _) (#[_, _, _, _, _, _, _, _, _, _, _, _, _, _, _]) hI rfl ?_)
 rintro b31 w - - hI
 refine Wv Z (by exact rAsgnP rfl rfl) (Wn ?_)
 have hI' := hI
 rw [boolC_zero] at hI'
 replace hI : Inv NF w0 w [Many 0 (fun j => StE ((fun _ => (none, 0) : Loc) j).1 ((fun _ => (none, 0) : Loc) j).2 (startF o)), B b31 225 (srcC o A l.length c bn f b28 b29 (locK (fun _ => (none, 0)) 0) (stK o 0) none 0 0), B b28 4 (boolC l.length (fun _ => false)), StE none 0 [], SetE b29 [], B b8 153 #[.int .i64 0, .slice none 0 0, .int .i64 0]] := by
  have h1 := (hI'.sw1).fresh (e := StE none 0 []) (Pure.refl w) (Row.nil w 0 3 1) (fun k hk => by cases hk)
  exact h1.sw0.sw1.many_nil _
 clear hI'
 refine Wx (fun ρ w => ∃ L : Loc, Has ρ [(0, Y o), (11, .pointer (some ⟨b31, 0, none⟩)), (8, .pointer (some ⟨b8, 0, none⟩))] ∧ Inv NF w0 w [Many 8 (fun j => StE (L j).1 (L j).2 (startF o)), B b31 225 (srcC o A l.length c bn f b28 b29 (locK L 8) (stK o 8) none 0 0), B b28 4 (boolC l.length (fun _ => false)), StE none 0 [], SetE b29 [], B b8 153 #[Y 0, .slice none 0 0, Y 0]]) ?_ ?_
 ·refine Wq (V0 Z (Wn (Wb ?_)))
  refine Wl (fun mu ρ w => ∃ (k : Nat) (L : Loc), mu = 8 - k ∧ k ≤ 8 ∧ Has ρ [(32, Y (k : Int)), (0, Y o), (11, .pointer (some ⟨b31, 0, none⟩)), (8, .pointer (some ⟨b8, 0, none⟩))] ∧ Inv NF w0 w [Many k (fun j => StE (L j).1 (L j).2 (startF o)), B b31 225 (srcC o A l.length c bn f b28 b29 (locK L k) (stK o k) none 0 0), B b28 4 (boolC l.length (fun _ => false)), StE none 0 [], SetE b29 [], B b8 153 #[Y 0, .slice none 0 0, Y 0]]) 8
   ⟨0, _, rfl, by omega, ⟨rfl, rfl, rfl, rfl, trivial⟩, hI⟩ ?_
  clear hI
  rintro mu ρ w ⟨k, L, rfl, hk8, hH, hI⟩
  obtain ⟨σ, rfl⟩ := hH.open
  by_cases hk : k < 8
  rotate_left
  ·obtain rfl : k = 8 := by omega
   exact Wq (Vr Z (Yg Z (WE ⟨L, g3_, hI⟩)))
  refine Wq (Vu Z (Yu Z (Wk (Ws (Wb (Wq (V0 Z (Vb Z (Wn (Yj [7] hI fun Sx hY hXS hI => T7 0 Z (Vh 1 Z (Vh 2 Z (T8 4 Z (Vf 5 6 Z (Vq 3 Z (Vd [Y _] Z func139 Z ((start_any o _).mono ?_)))))))))))))))))
  rintro e w1 ⟨A1, c1, rfl, hT⟩
  refine rV ?_
  have hI := hI.app1 hT
  refine Wn ⟨hXS _ hI.d0, (Wt 6 Z (fun W hW => have hI := hY W hW; (rIdxArr (sz := 1) (i := k) Z underlying223 (by kernel_rfl) Z Z Z hk)) (WT_A (by kernel_rfl) ?_))⟩
  clear hXS hY
  refine Tr 7 Z (WL_st 2 Z (u := .slice A1 (startF o).length c1) (j := 6 + k * 1) hI Z Z Z Z Z Z (by kernel_rfl) Z (by simp [Nat.blt, srcC]; omega) Z ?_)
  intro w hI
  simp only [List.set_cons_succ, List.set_cons_zero] at hI
  rw [Nat.mul_one, srcC_set hk, stK_succ, locK_succ] at hI
  refine Wn (WA_end (by kernel_rfl) ?_)
  replace hI := (hI.many_push).many_congr (es' := fun j => StE (updL L k A1 c1 j).1 (updL L k A1 c1 j).2 (startF o)) (fun j hj => by
   unfold updL
   by_cases hjk : j = k
   ·rw [if_pos hjk, if_pos hjk]
   rw [if_neg hjk, if_neg hjk])
  exact Wr (Vl Z (V0 Z (Wn ⟨8 - (k + 1), by omega, k + 1, _, rfl, by omega, g4_, hI⟩)))
 clear hI
 rintro ρ w ⟨L, hH, hI⟩
 obtain ⟨σ, rfl⟩ := hH.open
 generalize hL8 : locK L 8 = L8 at hI
 generalize hvb : B b8 153 #[.int .i64 0, .slice none 0 0, .int .i64 0] = VB at hI
 have hlen0 : undn l.length (startS o).dn = l.length := undn_start l.length
 have hcall : ∀ (W : World) (H : List Ent), Inv NF w0 W (prt b31 o A l.length c bn f b28 b29 L8 (startS o) none 0 ++ Many 8 (fun j => StE (L j).1 (L j).2 (startF o)) :: H) → Cq 140 #[.pointer (some ⟨b31, 0, none⟩)] W fun en w' => ∃ L' A'' c'', en = .returned (.int .i64 (verdF o l ab bn).1) ∧ Inv NF w0 w' (prt b31 o A l.length c bn f b28 b29 L' (verdF o l ab bn).2 A'' c'' ++ Many 8 (fun j => StE (L j).1 (L j).2 (startF o)) :: H) := by
  intro W H hI
  have hIm := hI.perm (List.perm_middle)
  have hst : StOk W (prt b31 o A l.length c bn f b28 b29 L8 (startS o) none 0) L8 (startS o).sts := by
   intro j hj
   have e1 : L8 j = L j := by rw [← hL8]; unfold locK; rw [if_pos hj]
   have e2 : (startS o).sts j = startF o := by unfold startS; exact if_pos hj
   rw [e1, e2]
   exact (Many.rd (st := startF o) hIm hj Z).mono fun _ hb => DL.mono (fun e he => List.mem_append_left _ he) hb
  obtain ⟨hk1, hk2⟩ := hI.kn0 hk
  have ho1 := hI.all0 h (by decide)
  have hsub : ∀ e ∈ prt b31 o A l.length c bn f b28 b29 L8 (startS o) none 0, e ∈ prt b31 o A l.length c bn f b28 b29 L8 (startS o) none 0 ++ Many 8 (fun j => StE (L j).1 (L j).2 (startF o)) :: H := fun e he => List.mem_append_left _ he
  refine (enter_any o b31 b28 b29 f A c l ab bn hA hf h40 (by omega) (l.length + 1) (startS o) L8 none 0 W (by omega) (goodS_start o l.length) (by rw [hlen0]; simp [startS]; omega) (Nat.zero_le _) hI.from (ho1.mono fun _ hb => DL.mono hsub hb) hk1 (DL.mono hsub hk2) hst).mono ?_
  rintro e w' ⟨L', A'', c'', rfl, hT, _⟩
  exact ⟨L', A'', c'', Z, hI.turnL hT⟩
 have hcall1 : ∀ (W : World) (e : Ent), Inv NF w0 W (e :: (prt b31 o A l.length c bn f b28 b29 L8 (startS o) none 0 ++ [Many 8 (fun j => StE (L j).1 (L j).2 (startF o)), VB])) → Cq 140 #[.pointer (some ⟨b31, 0, none⟩)] W fun en w' => ∃ L' A'' c'', en = .returned (.int .i64 (verdF o l ab bn).1) ∧ Inv NF w0 w' (e :: (prt b31 o A l.length c bn f b28 b29 L' (verdF o l ab bn).2 A'' c'' ++ [Many 8 (fun j => StE (L j).1 (L j).2 (startF o)), VB])) := by
  intro W e hI
  have pm : ∀ l : List Ent, (e :: (l ++ [Many 8 (fun j => StE (L j).1 (L j).2 (startF o)), VB])).Perm (l ++ Many 8 (fun j => StE (L j).1 (L j).2 (startF o)) :: [VB, e]) := fun l => by
   have h1 : (e :: (l ++ [Many 8 (fun j => StE (L j).1 (L j).2 (startF o)), VB])).Perm ((l ++ [Many 8 (fun j => StE (L j).1 (L j).2 (startF o)), VB]) ++ [e]) := (List.perm_append_singleton _ _).symm
   rwa [List.append_assoc] at h1
  refine (hcall W [VB, e] (hI.perm (pm _))).mono ?_
  rintro en w' ⟨L', A'', c'', rfl, hT⟩
  exact ⟨L', A'', c'', Z, hT.perm (pm _).symm⟩
 replace hI : Inv NF w0 w (prt b31 o A l.length c bn f b28 b29 L8 (startS o) none 0 ++ Many 8 (fun j => StE (L j).1 (L j).2 (startF o)) :: [VB]) := hI.perm (List.perm_middle (l₁ := [_, _, _, _])).symm
 refine Wx (fun ρ w => ∃ (b13 : Nat) (L' : Loc) (A'' : Option Addr) (c'' : Nat), Has ρ [(11, .pointer (some ⟨b31, 0, none⟩)), (8, .pointer (some ⟨b8, 0, none⟩)), (13, .pointer (some ⟨b13, 0, none⟩))] ∧ Inv NF w0 w (B b13 153 #[Y (verdF o l ab bn).1, .slice none 0 0, Y ((verdF o l ab bn).2.ent.length : Int)] :: (prt b31 o A l.length c bn f b28 b29 L' (verdF o l ab bn).2 A'' c'' ++ [Many 8 (fun j => StE (L j).1 (L j).2 (startF o)), VB]))) ?_ ?_
 ·refine Wd (by kernel_rfl) (Wi (T := [9]) hI.mapE.drew ?_)
  intro Sx hY hXS
  have hI := hI.drew
  refine T7 0 (hS_ := hXS _ hI.mapE) Z (T7 2 (hS_ := hXS _ hI.mapE) Z (T8 3 (hS_ := hXS _ hI.mapE) Z (Vf 4 14 (hS_ := hXS _ hI.mapE) Z (V9 5 (.map _) (hS_ := hXS _ hI.mapE) Z (fun W hW => (hY W hW).g0) (WT_two 1 8 Z Z (by kernel_rfl) Z Z ?_ ?_)))))
  ·refine Vd [.pointer _] Z func140 Z ((hcall _ [VB] hI).mono ?_)
   rintro e w1 ⟨L', A'', c'', rfl, hT⟩
   refine rV ?_
   clear hI
   have hI := hT
   refine Wn ⟨hXS _ hI.mapE, (WT_two 6 8 Z Z (by kernel_rfl) Z Z ?_ ?_)⟩
   ·refine Wv Z (rLenSet Z yy222 Z (by exact hI.g3)) (Wn ⟨hXS _ hI.mapE, (Wt 7 Z (hS := hXS _ hI.mapE) (fun W hW => have hI := hY W hW; (rBuild (qs := [(0, Y _), (2, Y _)]) (vs := [_, _, _]) [Y 0, .slice none 0 0, Y 0] [0, 2] Z Z Z (fun _ => by kernel_rfl))) (Vq 8 rfl (Vz (.agg #[.int .i64 0, .slice none 0 0, .int .i64 0]) (#[.int .i64 0, .slice none 0 0, .int .i64 0]) hI rfl ?_)))⟩)
    rintro b13 w - - hI
    refine Wn ⟨hXS _ hI.d0.mapE, (WT_A (by kernel_rfl) ?_)⟩
    clear hXS hY
    refine Tr 9 Z (T2 3 (#[_, _, _]) (.agg _) hI Z ?_)
    intro w hI
    exact Wn (WA_end (by kernel_rfl) ⟨_, _, _, _, g3_, hI⟩)
   refine Vz (.agg #[Y 0, .slice none 0 0, Y 0]) (#[Y 0, .slice none 0 0, Y 0]) hI Z ?_
   rintro b13 w - - hI
   refine Wn ⟨hXS _ hI.d0.mapE, (Vq 6 Z (Wv Z (rLenSet Z yy222 Z (by exact hI.g4)) (Wn ⟨hXS _ hI.d0.mapE, (Wt 7 Z (hS := hXS _ hI.d0.mapE) (fun W hW => have hI := hY W hW; (rBuild (qs := [(0, Y _), (2, Y _)]) (vs := [_, _, _]) [Y 0, .slice none 0 0, Y 0] [0, 2] Z Z Z (fun _ => by kernel_rfl))) (WT_A (by kernel_rfl) ?_))⟩)))⟩
   clear hXS hY
   refine Tr 9 Z (T2 3 (#[_, _, _]) (.agg _) hI Z ?_)
   intro w hI
   exact Wn (WA_end (by kernel_rfl) ⟨_, _, _, _, g3_, hI⟩)
  refine Vz (.agg #[Y 0, .slice none 0 0, Y 0]) (#[Y 0, .slice none 0 0, Y 0]) hI Z ?_
  rintro b13 w - - hI
  refine Wn ⟨hXS _ hI.d0.mapE, (Vq 1 Z (Vd [.pointer _] Z func140 Z ((hcall1 _ _ hI).mono ?_)))⟩
  rintro e w1 ⟨L', A'', c'', rfl, hT⟩
  refine rV ?_
  clear hI
  have hI := hT
  refine Wn ⟨hXS _ hI.d0.mapE, (Vq 6 Z (Wv Z (rLenSet Z yy222 Z (by exact hI.g4)) (Wn ⟨hXS _ hI.d0.mapE, (Wt 7 Z (hS := hXS _ hI.d0.mapE) (fun W hW => have hI := hY W hW; (rBuild (qs := [(0, Y _), (2, Y _)]) (vs := [_, _, _]) [Y 0, .slice none 0 0, Y 0] [0, 2] Z Z Z (fun _ => by kernel_rfl))) (WT_A (by kernel_rfl) ?_))⟩)))⟩
  clear hXS hY
  refine Tr 9 Z (T2 3 (#[_, _, _]) (.agg _) hI Z ?_)
  intro w hI
  exact Wn (WA_end (by kernel_rfl) ⟨_, _, _, _, g3_, hI⟩)
 clear hI hcall hcall1
 rintro ρ w ⟨b13, L', A'', c'', hH, hI⟩
 obtain ⟨σ, rfl⟩ := hH.open
 subst hvb
 generalize hR : verdF o l ab bn = R at hI
 obtain ⟨z, s'⟩ := R
 simp only at hI
 replace hI : Inv NF w0 w [B b13 153 #[.int .i64 z, .slice none 0 0, .int .i64 (s'.ent.length : Int)], B b31 225 (srcC o A l.length c bn f b28 b29 L' s'.sts A'' s'.ord.length c''), B b28 4 (boolC l.length s'.dn), StE A'' c'' s'.ord, SetE b29 s'.ent, Many 8 (fun j => StE (L j).1 (L j).2 (startF o)), B b8 153 #[.int .i64 0, .slice none 0 0, .int .i64 0]] := hI
 have hres : ∀ (A3 : Option Addr) (c3 : Nat) (W : World), Inv NF w0 W [StE A3 c3 (if z = 1 then s'.ord else [])] → VerdPostN o l ab ((bn : Nat) : Int) w0 (.returned (.tuple #[.agg #[.int .i64 z, .slice A3 (if z = 1 then s'.ord else []).length c3, .int .i64 (s'.ent.length : Int)], .nilIface])) W := by
  intro A3 c3 W hI
  refine .inl ⟨hok, A3, c3, ?_⟩
  rw [Int.toNat_natCast, hR]
  exact ⟨Z, hI⟩
 by_cases hz : z = 1
 ·refine Ws (Wq (V8 0 Z (Yc hI Z Z (Vx Z (Yt Z (Wr (T1 Z (Tj Z (V8 5 Z (V6 (.slice _ _ _) Z (hI.c1 Z) (V8 1 Z (WL_st0 (u := .slice _ _ _) hI Z Z Z Z Z Z (by kernel_rfl) Z Z Z ?_))))))))))))
  intro w hI
  refine Wn (Wq (Tt 3 Z hI.g0 (WL_stw6 (u := .agg _) (vs := #[_, _, _]) (n := 3) hI Z Z Z Z Z Z (by kernel_rfl) Z Z Z ?_)))
  intro w hI
  refine Vw Z (Wn (WR (retC2 (n := 3) (t := 153) (.inr Z) Z Z (by kernel_rfl) (by kernel_rfl) Z hI.g6 ?_)))
  rw [if_pos hz] at hres
  exact hres _ _ _ hI.d6.d5.d4.d2.d1.d0
 refine Ws (Wq (V8 0 Z (Yc hI Z Z (Vs Z (Yf Z (Wk (Wq (Tt 3 Z hI.g0 (WL_stw6 (u := .agg _) (vs := #[_, _, _]) (n := 3) hI Z Z Z Z Z Z (by kernel_rfl) Z Z Z ?_)))))))))
 intro w hI
 refine Vw Z (Wn (WR (retC2 (n := 3) (t := 153) (.inr Z) Z Z (by kernel_rfl) (by kernel_rfl) Z hI.g6 ?_)))
 rw [if_neg hz] at hres
 have h1 : Inv NF w0 w [] := hI.d6.d5.d4.d3.d2.d1.d0
 exact hres none 0 _ (h1.fresh (Pure.refl w) (Row.nil w 0 3 1) (fun k hk => by cases hk))
theorem before_ahead : AheadC 92 befB := ⟨⟨_, func92, rfl, rfl⟩, before_any⟩
theorem same_one (p0 p1 p2 p3 p4 p5 p6 p7 q0 q1 q2 q3 q4 q5 q6 q7 : Int) (w0 : World) : Cq 111 #[.agg #[.int .i64 p0, .int .i64 p1, .int .i64 p2, .int .i64 p3, .int .i64 p4, .int .i64 p5, .int .i64 p6, .int .i64 p7], .agg #[.int .i64 q0, .int .i64 q1, .int .i64 q2, .int .i64 q3, .int .i64 q4, .int .i64 q5, .int .i64 q6, .int .i64 q7]] w0 fun en w' => en = .returned (.bool (procB ⟨p0, p1, p2, p3, p4, p5, p6, p7⟩ ⟨q0, q1, q2, q3, q4, q5, q6, q7⟩)) ∧ Pure w0 w' := by
 have hI := Inv.start (fun _ => False) w0
 refine Vm func111 Z (Wq (Tq (.agg _) (#[_, _, _, _, _, _, _, _]) hI Z ?_))
 rintro b2 w - - hI
 refine Tq (.agg _) (#[_, _, _, _, _, _, _, _]) hI Z ?_
 rintro b3 w - - hI
 refine Vc Z (Wn ?_)
 obtain ⟨r, hr⟩ : ∃ r, procB ⟨p0, p1, p2, p3, p4, p5, p6, p7⟩ ⟨q0, q1, q2, q3, q4, q5, q6, q7⟩ = r := ⟨_, rfl⟩
 rw [hr]
 have hr' : (decide (p0 = q0) && decide (p6 < q6)) = r := hr
 by_cases h : p0 = q0
 ·rw [decide_eq_true h, Bool.true_and] at hr'
  by_cases h2 : p6 < q6
  ·rw [decide_eq_true h2] at hr'; subst hr'
   exact Wq (V8 0 Z (Yd hI Z Z (V8 0 Z (Yc hI Z Z (Vx Z (V7 Z (V8 6 Z (Yd hI Z Z (V8 6 Z (Yc hI Z Z (Vu Z (Vk Z (Vc Z (Wn (WR (r1_ 4 Z ⟨Z, hI.pu⟩))))))))))))))))
  rw [decide_eq_false h2] at hr'; subst hr'
  exact Wq (V8 0 Z (Yd hI Z Z (V8 0 Z (Yc hI Z Z (Vx Z (V7 Z (V8 6 Z (Yd hI Z Z (V8 6 Z (Yc hI Z Z (Vr Z (Vk Z (Vc Z (Wn (WR (r1_ 4 Z ⟨Z, hI.pu⟩))))))))))))))))
 rw [decide_eq_false h, Bool.false_and] at hr'; subst hr'
 exact Wq (V8 0 Z (Yd hI Z Z (V8 0 Z (Yc hI Z Z (Vs Z (V7 Z (V5 Z (V5 Z (V5 Z (V5 Z (V5 Z (Vi Z (Vc Z (Wn (WR (r1_ 4 Z ⟨Z, hI.pu⟩))))))))))))))))
theorem same_ahead : AheadC 111 procB := ⟨⟨_, func111, rfl, rfl⟩, fun p q w0 => by
 obtain ⟨p0, p1, p2, p3, p4, p5, p6, p7⟩ := p
 obtain ⟨q0, q1, q2, q3, q4, q5, q6, q7⟩ := q
 exact same_one p0 p1 p2 p3 p4 p5 p6 p7 q0 q1 q2 q3 q4 q5 q6 q7 w0⟩
theorem chkN_any (o : Int) (A : Option Addr) (n c : Nat) (l : List Op8) (bud : Int) (D : Nat → Prop) (w0 : World) (h : OpsR w0 D (.slice A n c) l) (hk : KnOk w0) :
  Cq 58 #[.int .i64 o, .slice A n c, .int .i64 bud] w0 (VerdPostN o l befB bud w0) := by
 have hI := Inv.start (fun _ => False) w0
 refine Vm func58 Z (Wq (Vz (.agg #[Y 0, .slice none 0 0, Y 0]) (#[Y 0, .slice none 0 0, Y 0]) hI Z ?_))
 rintro b6 w - - hI
 refine Vw Z (Wn ?_)
 by_cases hok : OkLin o l bud
 ·refine Wq (V0 Z (Va Z (V0 Z (Vd [Y _, .slice _ _ _, Y _, .func _ _ _] Z func91 Z ((verdictN_any o A n c l bud _ befB D _ (h.pure hI.pu) (hk.pure hI.pu) before_ahead).mono ?_)))))
  rintro e w1 (⟨_, A', c', rfl, hT⟩ | ⟨h1, _⟩)
  rotate_left
  ·exact absurd hok h1
  refine rV ?_
  have hI := hI.app1 hT
  refine Vj Z (Vj Z (Ui 3 (#[_, _, _]) (.agg _) hI Z ?_))
  intro w hI
  exact Vw Z (Wn (WR (retC2 (n := 3) (t := 153) (.inr Z) Z Z (by kernel_rfl) (by kernel_rfl) Z hI.g1 (.inl ⟨hok, A', c', Z, hI.d1⟩))))
 refine Wq (V0 Z (Va Z (V0 Z (Vd [Y _, .slice _ _ _, Y _, .func _ _ _] Z func91 Z ((verdictN_any o A n c l bud _ befB D _ (h.pure hI.pu) (hk.pure hI.pu) before_ahead).mono ?_)))))
 rintro e w1 (⟨h1, _⟩ | ⟨_, ⟨z, hz, rfl⟩, hp⟩)
 ·exact absurd h1 hok
 refine rV ?_
 have hI := hI.pure hp
 refine Vj Z (Vj Z (T2 3 (#[_, _, _]) (.agg _) hI Z ?_))
 intro w hI
 exact Vt Z (Wn (WR (retC2 (n := 3) (t := 153) (.inr Z) Z Z (by kernel_rfl) (by kernel_rfl) Z hI.g0 (.inr ⟨hok, ⟨z, hz, Z⟩, hI.pu⟩))))
theorem sameN_any (o : Int) (A : Option Addr) (n c : Nat) (l : List Op8) (bud : Int) (D : Nat → Prop) (w0 : World) (h : OpsR w0 D (.slice A n c) l) (hk : KnOk w0) :
  Cq 65 #[.int .i64 o, .slice A n c, .int .i64 bud] w0 (VerdPostN o l procB bud w0) := by
 have hI := Inv.start (fun _ => False) w0
 refine Vm func65 Z (Wq (Vz (.agg #[Y 0, .slice none 0 0, Y 0]) (#[Y 0, .slice none 0 0, Y 0]) hI Z ?_))
 rintro b6 w - - hI
 refine Vw Z (Wn ?_)
 by_cases hok : OkLin o l bud
 ·refine Wq (V0 Z (Va Z (V0 Z (Vd [Y _, .slice _ _ _, Y _, .func _ _ _] Z func91 Z ((verdictN_any o A n c l bud _ procB D _ (h.pure hI.pu) (hk.pure hI.pu) same_ahead).mono ?_)))))
  rintro e w1 (⟨_, A', c', rfl, hT⟩ | ⟨h1, _⟩)
  rotate_left
  ·exact absurd hok h1
  refine rV ?_
  have hI := hI.app1 hT
  refine Vj Z (Vj Z (Ui 3 (#[_, _, _]) (.agg _) hI Z ?_))
  intro w hI
  exact Vw Z (Wn (WR (retC2 (n := 3) (t := 153) (.inr Z) Z Z (by kernel_rfl) (by kernel_rfl) Z hI.g1 (.inl ⟨hok, A', c', Z, hI.d1⟩))))
 refine Wq (V0 Z (Va Z (V0 Z (Vd [Y _, .slice _ _ _, Y _, .func _ _ _] Z func91 Z ((verdictN_any o A n c l bud _ procB D _ (h.pure hI.pu) (hk.pure hI.pu) same_ahead).mono ?_)))))
 rintro e w1 (⟨h1, _⟩ | ⟨_, ⟨z, hz, rfl⟩, hp⟩)
 ·exact absurd h1 hok
 refine rV ?_
 have hI := hI.pure hp
 refine Vj Z (Vj Z (T2 3 (#[_, _, _]) (.agg _) hI Z ?_))
 intro w hI
 exact Vt Z (Wn (WR (retC2 (n := 3) (t := 153) (.inr Z) Z Z (by kernel_rfl) (by kernel_rfl) Z hI.g0 (.inr ⟨hok, ⟨z, hz, Z⟩, hI.pu⟩))))
abbrev okV (l : List Int) : Prop := l.length = 2
abbrev kV (l : List Int) : Value := .agg (i64s l).toArray
theorem checkV (x y : Int) (em : Bool) (w : World) : (Instr.checkKey em 10000 219 (.agg #[.int .i64 x, .int .i64 y])).run prog w = .ok () w := by kernel_rfl
theorem keyV : KeyOk prog 219 okV kV := keyInts (n := 2) (by kernel_rfl) (fun a ha em w => match a, ha with
 | [x, y], _ => checkV x y em w)
def wmN (l : List Op8) (k : Nat) (q : List Int) : Option Nat := (List.range k).find? fun j => decide ((oAt l j).kind = 2) && decide ([(oAt l j).key, (oAt l j).a] = q)
def wmK (l : List Op8) (k : Nat) (q : List Int) : Option Value := (wmN l k q).map fun j => .int .i64 (j : Int)
theorem wmN_none {q : List Int} (h : wmN l k q = none) (hj : j < k) : ¬ ((oAt l j).kind = 2 ∧ [(oAt l j).key, (oAt l j).a] = q) := by
 have := List.find?_eq_none.1 h j (List.mem_range.2 hj)
 simp only [Bool.and_eq_true, decide_eq_true_eq] at this
 exact this
theorem wmN_some {q : List Int} (h : wmN l k q = some j) : j < k ∧ (oAt l j).kind = 2 ∧ [(oAt l j).key, (oAt l j).a] = q := by
 have h1 := List.find?_some h
 have h2 := List.mem_range.1 (List.mem_of_find?_eq_some h)
 simp only [Bool.and_eq_true, decide_eq_true_eq] at h1
 exact ⟨h2, h1⟩
theorem wmN_other (h : (oAt l k).kind ≠ 2) : wmN l (k + 1) = wmN l k := by
 funext q
 unfold wmN
 rw [List.range_succ, List.find?_append]
 simp [h]
theorem wmN_write (h : (oAt l k).kind = 2) (hn : wmN l k [(oAt l k).key, (oAt l k).a] = none) (q : List Int) : wmN l (k + 1) q = if q = [(oAt l k).key, (oAt l k).a] then some k else wmN l k q := by
 unfold wmN at hn ⊢
 rw [List.range_succ, List.find?_append]
 by_cases hq : q = [(oAt l k).key, (oAt l k).a]
 ·subst hq
  rw [hn, if_pos rfl]
  simp [h]
 rw [if_neg hq]
 have : ([k].find? fun j => decide ((oAt l j).kind = 2) && decide ([(oAt l j).key, (oAt l j).a] = q)) = none := by
  rw [List.find?_eq_none]
  intro j hj
  rw [List.mem_singleton.1 hj]
  simp only [Bool.and_eq_true, decide_eq_true_eq, not_and]
  exact fun _ e => hq e.symm
 rw [this, Option.or_none]
theorem wmK_other (h : (oAt l k).kind ≠ 2) : wmK l (k + 1) = wmK l k := by funext q; unfold wmK; rw [wmN_other h]
theorem wmK_write (h : (oAt l k).kind = 2) (hn : wmN l k [(oAt l k).key, (oAt l k).a] = none) : (fun q => if q = [(oAt l k).key, (oAt l k).a] then some (Value.int .i64 (k : Int)) else wmK l k q) = wmK l (k + 1) := by
 funext q
 unfold wmK
 rw [wmN_write h hn]
 by_cases hq : q = [(oAt l k).key, (oAt l k).a]
 ·rw [if_pos hq, if_pos hq]; rfl
 rw [if_neg hq, if_neg hq]
theorem wmK_zero (l : List Op8) : (fun _ : List Int => (none : Option Value)) = wmK l 0 := by funext q; rfl
def OkC1 (o : Op8) : Prop := (o.kind = 1 ∨ o.kind = 2) ∧ 0 ≤ o.ret ∧ (o.kind = 2 → o.a ≠ 0 ∧ o.res = 0)
def OkCk (l : List Op8) (k : Nat) : Prop := (∀ i, i < k → OkC1 (oAt l i)) ∧ ∀ i j, i < j → j < k → (oAt l i).kind = 2 → (oAt l j).kind = 2 → ¬ ((oAt l i).key = (oAt l j).key ∧ (oAt l i).a = (oAt l j).a)
theorem OkCk.succ (h : OkCk l k) (h1 : OkC1 (oAt l k)) (h2 : (oAt l k).kind = 2 → wmN l k [(oAt l k).key, (oAt l k).a] = none) : OkCk l (k + 1) := by
 refine ⟨fun i hi => ?_, fun i j hij hj ki kj => ?_⟩
 ·rcases Nat.lt_or_ge i k with h3 | h3
  ·exact h.1 i h3
  obtain rfl : i = k := by omega
  exact h1
 rcases Nat.lt_or_ge j k with h3 | h3
 ·exact h.2 i j hij h3 ki kj
 obtain rfl : j = k := by omega
 have := wmN_none (h2 kj) hij
 rintro ⟨e1, e2⟩
 exact this ⟨ki, by rw [e1, e2]⟩
theorem okC_of (h1 : OkOps l) (h2 : OkCk l l.length) : OkC l := ⟨h1, fun i hi => (h2.1 i hi).1, fun i hi => (h2.1 i hi).2.1, fun i hi => (h2.1 i hi).2.2, fun i j hij hj => h2.2 i j hij hj⟩
theorem OkC.one (h : OkC l) (hi : i < l.length) : OkC1 (oAt l i) := ⟨h.kind i hi, h.ret i hi, h.wr i hi⟩
def CcPost (l : List Op8) (w0 : World) (en : Ending) (w' : World) : Prop := Pure w0 w' ∧ ((OkC l ∧ en = .returned .nilIface) ∨ (¬ OkC l ∧ ∃ x, IsErr x ∧ en = .returned x))
def CErr (l : List Op8) (z : Int) : Prop := (40 < l.length → z = 4) ∧ (OkOps l → ∃ k, k < l.length ∧ OkCk l k ∧ ((¬ OkC1 (oAt l k) ∧ z = 3) ∨ (OkC1 (oAt l k) ∧ ¬ OkCk l (k + 1) ∧ z = 9)))
def CcPostN (l : List Op8) (w0 : World) (en : Ending) (w' : World) : Prop := Pure w0 w' ∧ ((OkC l ∧ en = .returned .nilIface) ∨ (¬ OkC l ∧ ∃ z, CErr l z ∧ en = .returned (.iface 49 (.int .i64 z))))
theorem CcPost.bad {w0 w' : World} {z : Int} (h : ¬ OkC l) (hz : CErr l z) (hp : Pure w0 w') : CcPostN l w0 (.returned (.iface 49 (.int .i64 z))) w' := ⟨hp, .inr ⟨h, z, hz, rfl⟩⟩
theorem ccheckN_any (A : Option Addr) (n c : Nat) (l : List Op8) (D : Nat → Prop) (w0 : World) (h : OpsR w0 D (.slice A n c) l) : Cq 87 #[.slice A n c] w0 (CcPostN l w0) := by
 obtain ⟨hn, hc1, hc2⟩ := h.len
 subst hn
 have hI := Inv.start (fun _ => False) w0
 refine Vm func87 Z (Wq (Vw Z (Wn ?_)))
 by_cases hok : OkOps l
 rotate_left
 ·refine Ws (Wq (Va Z (Vd [.slice _ _ _] Z func137 Z ((checkOps4_any A l.length c l D _ (h.pure hI.pu)).mono ?_))))
  rintro e w1 ⟨hp, ⟨h1, _⟩ | ⟨_, x, ⟨z, rfl, -, hz4⟩, rfl⟩⟩
  ·exact absurd h1 hok
  refine rV ?_
  have hI := hI.pure hp
  exact Vt Z (Wn (Wq (Vy Z (U0 Z yy37 Z (Yt Z (Wq (Vy Z (Vt Z (Wn (WR (r1_ 2 Z (CcPost.bad (fun hh => hok hh.ops) ⟨hz4, fun hh => absurd hh hok⟩ hI.pu))))))))))))
 refine Ws (Wq (Va Z (Vd [.slice _ _ _] Z func137 Z ((checkOps_any A l.length c l D _ (h.pure hI.pu)).mono ?_))))
 rintro e w1 ⟨hp, ⟨_, rfl⟩ | ⟨h1, _⟩⟩
 rotate_left
 ·exact absurd hok h1
 refine rV ?_
 have hI := hI.pure hp
 refine Vw Z (Wn (Wq (Td Z (Tv Z yy37 Z (Yf Z (Wk (Ws (Wr (WL_mkMapK okV kV hI Z Z Z Z ?_)))))))))
 rintro b15 w hI
 refine Wv Z (by exact rAsgnM rfl rfl) (Wn ?_)
 have h40 := hok.1
 rw [wmK_zero l] at hI
 refine Ws (Wq (Va Z (Vo Z yy94 Z (V0 Z (Wn (Wb ?_))))))
 refine Wl (fun mu ρ w => ∃ k : Nat, mu = l.length - k ∧ k ≤ l.length ∧ OkCk l k ∧ Has ρ [(18, Y (k : Int)), (17, Y (l.length : Int)), (16, .slice A l.length c), (4, .map (some b15))] ∧ Inv NF w0 w [MapKE okV kV b15 (wmK l k)]) l.length
  ⟨0, rfl, by omega, ⟨fun i hi => by omega, fun i j _ hj => by omega⟩, ⟨rfl, rfl, rfl, rfl, trivial⟩, hI⟩ ?_
 clear hI
 rintro mu ρ w ⟨k, rfl, hk, hall, hH, hI⟩
 obtain ⟨σ, rfl⟩ := hH.open
 by_cases hkl : k < l.length
 rotate_left
 ·obtain rfl : k = l.length := by omega
  exact Wq (Vr Z (Yg Z (WE (Wq (Vw Z (Wn (WR (r1_ 2 Z ⟨hI.pu, .inl ⟨okC_of hok hall, Z⟩⟩))))))))
 obtain ⟨bA, oA, rfl, hoc⟩ := (h.pure hI.pu).at hkl
 have hone := fun (hh : OkC l) => hh.one hkl
 have hsucc := hall.succ
 have hw1 := wmK_other (l := l) (k := k)
 have hw2 := wmK_write (l := l) (k := k)
 have htw : ∀ j, wmN l k [(oAt l k).key, (oAt l k).a] = some j → (oAt l k).kind = 2 → ¬ OkC l := fun j hj hk2 hh => by
  obtain ⟨q1, q2, q3⟩ := wmN_some hj
  injection q3 with q3 q4
  injection q4 with q4
  exact hh.once j k q1 hkl q2 hk2 ⟨q3, q4⟩
 have htw2 : ∀ j, wmN l k [(oAt l k).key, (oAt l k).a] = some j → (oAt l k).kind = 2 → ¬ OkCk l (k + 1) := fun j hj hk2 hh => by
  obtain ⟨q1, q2, q3⟩ := wmN_some hj
  injection q3 with q3 q4
  injection q4 with q4
  exact hh.2 j k q1 (Nat.lt_succ_self k) q2 hk2 ⟨q3, q4⟩
 generalize hpk : oAt l k = pk at hoc hone hsucc hw1 hw2 htw htw2
 obtain ⟨p0, p1, p2, p3, p4, p5, p6, p7⟩ := pk
 simp only at hw1 hw2 hsucc htw htw2
 refine Wq (Vu Z (Yu Z (Wk (Ws (Wb (Wq (V0 Z (Th 8 Z yy94 Z (Ts 8 Z (by rfl) hoc (Vz (.agg zI8) (zI8) hI Z ?_))))))))))
 rintro b6 w - - hI
 refine Vb Z (T2 8 (#[_, _, _, _, _, _, _, _]) (.agg _) hI Z ?_)
 intro w hI
 refine Wn ?_
 simp only [opV] at hI
 have bad : ∀ (w : World), ¬ OkC1 ⟨p0, p1, p2, p3, p4, p5, p6, p7⟩ → Pure w0 w → CcPostN l w0 (.returned (.iface 49 (.int .i64 3))) w := fun w hb hp => CcPost.bad (fun hh => hb (hone hh)) ⟨fun hh => absurd hh (by omega), fun _ => ⟨k, hkl, hall, .inl ⟨by rw [hpk]; exact hb, rfl⟩⟩⟩ hp
 by_cases k2 : p2 = 2
 ·refine Wq (V8 2 Z (Yc hI Z Z (Vx Z (Vc Z (Wn (Wx (fun ρ w => OkC1 ⟨p0, p1, p2, p3, p4, p5, p6, p7⟩ ∧ Has ρ [(18, Y (k : Int)), (17, Y (l.length : Int)), (16, .slice (some ⟨bA, oA, none⟩) l.length c), (4, .map (some b15)), (5, Y (k : Int)), (6, .pointer (some ⟨b6, 0, none⟩)), (7, .bool true)] ∧ Inv NF w0 w [B b6 106 #[Y p0, Y p1, Y p2, Y p3, Y p4, Y p5, Y p6, Y p7], MapKE okV kV b15 (wmK l k)]) ?_ ?_))))))
  ·by_cases hr : 0 ≤ p7
   rotate_left
   ·exact Wq (V8 2 Z (Yc hI Z Z (Tn Z (V7 Z (V7 Z (Tf Z (Vk Z (V7 Z (V8 7 Z (Yc hI Z Z (Vu Z (Vi Z (V7 Z (V5 Z (V5 Z (V5 Z (V5 Z (V5 Z (V5 Z (V5 Z (V5 Z (V5 Z (V5 Z (V5 Z (Vk Z (Wn (Wc true Z (Wq (T0 Z yy49 Z (Vt Z (Wn (WR (r1_ 2 Z (bad _ (fun hb => hr hb.2.1) hI.pu))))))))))))))))))))))))))))))))))
   by_cases ha : p3 = 0
   ·exact Wq (V8 2 Z (Yc hI Z Z (Tn Z (V7 Z (V7 Z (Tf Z (Vk Z (V7 Z (V8 7 Z (Yc hI Z Z (Vr Z (Vi Z (V7 Z (V7 Z (V7 Z (V8 3 Z (Yc hI Z Z (Vx Z (V7 Z (V5 Z (V5 Z (V5 Z (Vk Z (Vk Z (Vi Z (Wn (Wc true Z (Wq (T0 Z yy49 Z (Vt Z (Wn (WR (r1_ 2 Z (bad _ (fun hb => (hb.2.2 k2).1 ha) hI.pu))))))))))))))))))))))))))))))))))
   by_cases hs : p5 = 0
   rotate_left
   ·exact Wq (V8 2 Z (Yc hI Z Z (Tn Z (V7 Z (V7 Z (Tf Z (Vk Z (V7 Z (V8 7 Z (Yc hI Z Z (Vr Z (Vi Z (V7 Z (V7 Z (V7 Z (V8 3 Z (Yc hI Z Z (Vs Z (V7 Z (V8 5 Z (Yc hI Z Z (Tn Z (Vi Z (Vk Z (Vi Z (Wn (Wc true Z (Wq (T0 Z yy49 Z (Vt Z (Wn (WR (r1_ 2 Z (bad _ (fun hb => hs (hb.2.2 k2).2) hI.pu))))))))))))))))))))))))))))))))))
   exact Wq (V8 2 Z (Yc hI Z Z (Tn Z (V7 Z (V7 Z (Tf Z (Vk Z (V7 Z (V8 7 Z (Yc hI Z Z (Vr Z (Vi Z (V7 Z (V7 Z (V7 Z (V8 3 Z (Yc hI Z Z (Vs Z (V7 Z (V8 5 Z (Yc hI Z Z (Ty Z (Vi Z (Vk Z (Vi Z (Wn (Wc false Z (Wk ⟨⟨.inr k2, hr, fun _ => ⟨ha, hs⟩⟩, g7_, hI⟩))))))))))))))))))))))))))))
  clear hI
  rintro ρ w ⟨hg, hH, hI⟩
  obtain ⟨σ, rfl⟩ := hH.open
  cases hwm : wmN l k [p1, p3] with
  | some j =>
   have hv : wmK l k [p1, p3] = some (.int .i64 (j : Int)) := by unfold wmK; rw [hwm]; rfl
   exact Ws (Wq (Tp Z (V8 1 Z (Yc hI Z Z (V8 3 Z (Yc hI Z Z (Tc [(0, Y _), (1, Y _)] [_, _] Z [Y 0, Y 0] [0, 1] Z (fun _ => by kernel_rfl) (Wv rfl (rLookKY (a := [p1, p3]) keyV hv rfl yy217 rfl rfl rfl hI.g1) (T4 rfl (Vj rfl (Vj rfl (Vb rfl (Vc rfl (Wn (Wq (V7 rfl (V7 rfl (V7 rfl (Vk rfl (Yt rfl (Wq (T0 rfl yy49 rfl (Vt rfl (Wn (WR (r1_ 2 rfl (CcPost.bad (htw j hwm k2) ⟨fun hh => absurd hh (by omega), fun _ => ⟨k, hkl, hall, .inr ⟨by rw [hpk]; exact hg, htw2 j hwm k2, rfl⟩⟩⟩ hI.pu)))))))))))))))))))))))))))
  | none =>
   have hv : wmK l k [p1, p3] = none := by unfold wmK; rw [hwm]; rfl
   refine Ws (Wq (Tp Z (V8 1 Z (Yc hI Z Z (V8 3 Z (Yc hI Z Z (Tc [(0, Y _), (1, Y _)] [_, _] Z [Y 0, Y 0] [0, 1] Z (fun _ => by kernel_rfl) (Wv rfl (rLookKN (a := [p1, p3]) (zv := .int .i64 0) keyV hv rfl yy217 (by kernel_rfl) rfl rfl rfl hI.g1) (T4 rfl (Vj rfl (Vj rfl (Vb rfl (Vc rfl (Wn (Wq (V7 rfl (V7 rfl (V7 rfl (Vk rfl (Yf rfl (Wk (Wq (V7 rfl (Yt rfl (Wr (Tp rfl (V8 1 rfl (Yc hI rfl rfl (V8 3 rfl (Yc hI rfl rfl (Tc [(0, .int .i64 _), (1, .int .i64 _)] [_, _] rfl [.int .i64 0, .int .i64 0] [0, 1] rfl (fun _ => by kernel_rfl) (V0 rfl (WL_mapSetK (a := [p1, p3]) (v := .int .i64 (k : Int)) keyV 1 rfl hI rfl rfl rfl yy217 rfl rfl rfl rfl ?_)))))))))))))))))))))))))))))))))
   intro w hI
   simp only [List.set_cons_succ, List.set_cons_zero] at hI
   refine Wn ?_
   rw [hw2 k2 hwm] at hI
   have hI := hI.d0
   exact Wr (Vl Z (V0 Z (Wn ⟨l.length - (k + 1), by omega, k + 1, rfl, by omega, hsucc hg (fun _ => hwm), g4_, hI⟩)))
 by_cases k1 : p2 = 1
 rotate_left
 ·exact Wq (V8 2 Z (Yc hI Z Z (Vs Z (Vc Z (Wn (Ws (Wq (V8 2 Z (Yc hI Z Z (Tn Z (V7 Z (V7 Z (To Z (Vk Z (V7 Z (V5 Z (V5 Z (V5 Z (Vk Z (V7 Z (V5 Z (V5 Z (V5 Z (V5 Z (V5 Z (V5 Z (V5 Z (V5 Z (V5 Z (V5 Z (V5 Z (Vk Z (Yt Z (Wq (T0 Z yy49 Z (Vt Z (Wn (WR (r1_ 2 Z (bad _ (fun hb => by rcases hb.1 with h1 | h1; exact k1 h1; exact k2 h1) hI.pu))))))))))))))))))))))))))))))))))))))))
 by_cases hr : 0 ≤ p7
 rotate_left
 ·exact Wq (V8 2 Z (Yc hI Z Z (Vs Z (Vc Z (Wn (Ws (Wq (V8 2 Z (Yc hI Z Z (Ty Z (V7 Z (V5 Z (V5 Z (Vi Z (V7 Z (V8 7 Z (Yc hI Z Z (Vu Z (Vi Z (V7 Z (V5 Z (V5 Z (V5 Z (V5 Z (V5 Z (V5 Z (V5 Z (V5 Z (V5 Z (V5 Z (V5 Z (Vk Z (Yt Z (Wq (T0 Z yy49 Z (Vt Z (Wn (WR (r1_ 2 Z (bad _ (fun hb => hr hb.2.1) hI.pu))))))))))))))))))))))))))))))))))))))))
 have hg : OkC1 ⟨p0, p1, p2, p3, p4, p5, p6, p7⟩ := ⟨.inl k1, hr, fun h2 => absurd h2 k2⟩
 refine Wq (V8 2 Z (Yc hI Z Z (Vs Z (Vc Z (Wn (Ws (Wq (V8 2 Z (Yc hI Z Z (Ty Z (V7 Z (V5 Z (V5 Z (Vi Z (V7 Z (V8 7 Z (Yc hI Z Z (Vr Z (Vi Z (V7 Z (V7 Z (V7 Z (V5 Z (V5 Z (V5 Z (V5 Z (V5 Z (V5 Z (V5 Z (V5 Z (Vi Z (Vi Z (Yf Z (Wk (Wx (fun ρ w => Has ρ [(18, Y (k : Int)), (17, Y (l.length : Int)), (16, .slice (some ⟨bA, oA, none⟩) l.length c), (4, .map (some b15)), (7, .bool false)] ∧ Inv NF w0 w [B b6 106 #[Y p0, Y p1, Y p2, Y p3, Y p4, Y p5, Y p6, Y p7], MapKE okV kV b15 (wmK l k)]) ?_ ?_)))))))))))))))))))))))))))))))))))
 ·cases hwm : wmN l k [p1, p3] with
  | some j =>
   have hv : wmK l k [p1, p3] = some (.int .i64 (j : Int)) := by unfold wmK; rw [hwm]; rfl
   exact Wq (Tp Z (V8 1 Z (Yc hI Z Z (V8 3 Z (Yc hI Z Z (Tc [(0, Y _), (1, Y _)] [_, _] Z [Y 0, Y 0] [0, 1] Z (fun _ => by kernel_rfl) (Wv rfl (rLookKY (a := [p1, p3]) keyV hv rfl yy217 rfl rfl rfl hI.g1) (T4 rfl (Vj rfl (Vj rfl (Vb rfl (Vc rfl (Wn (Wq (V7 rfl (V7 rfl (V5 rfl (Vi rfl (Yf rfl (Wk ⟨g5_, hI⟩))))))))))))))))))))
  | none =>
   have hv : wmK l k [p1, p3] = none := by unfold wmK; rw [hwm]; rfl
   exact Wq (Tp Z (V8 1 Z (Yc hI Z Z (V8 3 Z (Yc hI Z Z (Tc [(0, Y _), (1, Y _)] [_, _] Z [Y 0, Y 0] [0, 1] Z (fun _ => by kernel_rfl) (Wv rfl (rLookKN (a := [p1, p3]) (zv := .int .i64 0) keyV hv rfl yy217 (by kernel_rfl) rfl rfl rfl hI.g1) (T4 rfl (Vj rfl (Vj rfl (Vb rfl (Vc rfl (Wn (Wq (V7 rfl (V7 rfl (V5 rfl (Vi rfl (Yf rfl (Wk ⟨g5_, hI⟩))))))))))))))))))))
 clear hI
 rintro ρ w ⟨hH, hI⟩
 obtain ⟨σ, rfl⟩ := hH.open
 refine Wq (V7 Z (Yf Z (Wk ?_)))
 rw [← hw1 (by omega)] at hI
 have hI := hI.d0
 exact Wr (Vl Z (V0 Z (Wn ⟨l.length - (k + 1), by omega, k + 1, rfl, by omega, hsucc hg (fun h2 => absurd h2 k2), g4_, hI⟩)))
theorem wmN_wrF (l : List Op8) (key v : Int) : wmN l l.length [key, v] = wrF l key v := by
 unfold wmN wrF
 congr 1
 funext j
 unfold isW
 rw [Bool.eq_iff_iff]
 simp [and_assoc]
def readsL (l : List Op8) (k : Nat) : List Int := (List.range k).map (readsF l)
theorem readsL_succ (l : List Op8) (k : Nat) : readsL l (k + 1) = readsL l k ++ [readsF l k] := by simp [readsL, List.range_succ]
theorem readsL_len (l : List Op8) (k : Nat) : (readsL l k).length = k := by simp [readsL]
theorem readsL_get (h : k < n) : (i64s (readsL l n))[k]? = some (.int .i64 (readsF l k)) := by simp [i64s, readsL, h]
theorem reads_any (A : Option Addr) (n c : Nat) (l : List Op8) (D : Nat → Prop) (w0 : World) (h : OpsR w0 D (.slice A n c) l) (hC : OkC l) : Cq 88 #[.slice A n c] w0 fun en w' => ∃ A' c', en = .returned (.slice A' l.length c') ∧ Inv NF w0 w' [StE A' c' (readsL l l.length)] := by
 obtain ⟨hn, hc1, hc2⟩ := h.len
 subst hn
 have h40 := hC.ops.1
 have hI := Inv.start (fun _ => False) w0
 refine Vm func88 Z (Wq (Vg Z (Wn (Ws (Wr (WL_mkMapK okV kV hI Z Z Z Z ?_))))))
 rintro b11 w hI
 refine Wv Z (by exact rAsgnM rfl rfl) (Wn ?_)
 rw [wmK_zero l] at hI
 refine Wx (fun ρ w => Has ρ [(0, .slice A l.length c), (3, .map (some b11))] ∧ Inv NF w0 w [MapKE okV kV b11 (wmK l l.length)]) ?_ ?_
 ·refine Wq (Va Z (Vo Z yy94 Z (V0 Z (Wn (Wb ?_)))))
  refine Wl (fun mu ρ w => ∃ k : Nat, mu = l.length - k ∧ k ≤ l.length ∧ Has ρ [(14, Y (k : Int)), (13, Y (l.length : Int)), (12, .slice A l.length c), (0, .slice A l.length c), (3, .map (some b11))] ∧ Inv NF w0 w [MapKE okV kV b11 (wmK l k)]) l.length
   ⟨0, rfl, by omega, ⟨rfl, rfl, rfl, rfl, rfl, trivial⟩, hI⟩ ?_
  clear hI
  rintro mu ρ w ⟨k, rfl, hk, hH, hI⟩
  obtain ⟨σ, rfl⟩ := hH.open
  by_cases hkl : k < l.length
  rotate_left
  ·obtain rfl : k = l.length := by omega
   exact Wq (Vr Z (Yg Z (WE ⟨g2_, hI⟩)))
  obtain ⟨bA, oA, rfl, hoc⟩ := (h.pure hI.pu).at hkl
  have hw1 := wmK_other (l := l) (k := k)
  have hw2 := wmK_write (l := l) (k := k)
  have hno : (oAt l k).kind = 2 → wmN l k [(oAt l k).key, (oAt l k).a] = none := fun hk2 => by
   cases hw : wmN l k [(oAt l k).key, (oAt l k).a] with
   | none => rfl
   | some j =>
    obtain ⟨q1, q2, q3⟩ := wmN_some hw
    injection q3 with q3 q4
    injection q4 with q4
    exact absurd ⟨q3, q4⟩ (hC.once j k q1 hkl q2 hk2)
  generalize hpk : oAt l k = pk at hoc hw1 hw2 hno
  obtain ⟨p0, p1, p2, p3, p4, p5, p6, p7⟩ := pk
  simp only at hw1 hw2 hno
  refine Wq (Vu Z (Yu Z (Wk (Ws (Wb (Wq (V0 Z (Th 8 Z yy94 Z (Ts 8 Z (by rfl) hoc (Vz (.agg zI8) (zI8) hI Z ?_))))))))))
  rintro b5 w - - hI
  refine Vb Z (T2 8 (#[_, _, _, _, _, _, _, _]) (.agg _) hI Z ?_)
  intro w hI
  refine Wn ?_
  simp only [opV] at hI
  by_cases k2 : p2 = 2
  ·refine Wq (V8 2 Z (Yc hI Z Z (Vx Z (Yt Z (Wr (Tp Z (V8 1 Z (Yc hI Z Z (V8 3 Z (Yc hI Z Z (Tc [(0, Y _), (1, Y _)] [_, _] Z [Y 0, Y 0] [0, 1] Z (fun _ => by kernel_rfl) (V0 rfl (WL_mapSetK (a := [p1, p3]) (v := .int .i64 (k : Int)) keyV 1 rfl hI rfl rfl rfl yy217 rfl rfl rfl rfl ?_)))))))))))))
   intro w hI
   simp only [List.set_cons_succ, List.set_cons_zero] at hI
   refine Wn ?_
   rw [hw2 k2 (hno k2)] at hI
   have hI := hI.d0
   exact Wr (Vl Z (V0 Z (Wn ⟨l.length - (k + 1), by omega, k + 1, rfl, by omega, g5_, hI⟩)))
  refine Wq (V8 2 Z (Yc hI Z Z (Vs Z (Yf Z (Wk ?_)))))
  rw [← hw1 k2] at hI
  have hI := hI.d0
  exact Wr (Vl Z (V0 Z (Wn ⟨l.length - (k + 1), by omega, k + 1, rfl, by omega, g5_, hI⟩)))
 clear hI
 rintro ρ w ⟨hH, hI⟩
 obtain ⟨σ, rfl⟩ := hH.open
 refine Wq (Vg Z (Wn ?_))
 replace hI : Inv NF w0 w [StE none 0 (readsL l 0), MapKE okV kV b11 (wmK l l.length)] := hI.fresh (Pure.refl w) (Row.nil w 0 3 1) (fun k hk => by cases hk)
 refine Wx (fun ρ w => ∃ (A' : Option Addr) (c' : Nat), Has ρ [(6, .slice A' l.length c')] ∧ Inv NF w0 w [StE A' c' (readsL l l.length)]) ?_ ?_
 ·refine Wq (Va Z (Vo Z yy94 Z (V0 Z (Wn (Wb ?_)))))
  refine Wl (fun mu ρ w => ∃ (k : Nat) (A' : Option Addr) (c' : Nat), mu = l.length - k ∧ k ≤ l.length ∧ Has ρ [(32, Y (k : Int)), (31, Y (l.length : Int)), (30, .slice A l.length c), (3, .map (some b11)), (6, .slice A' k c')] ∧ Inv NF w0 w [StE A' c' (readsL l k), MapKE okV kV b11 (wmK l l.length)]) l.length
   ⟨0, none, 0, rfl, by omega, ⟨rfl, rfl, rfl, rfl, rfl, trivial⟩, hI⟩ ?_
  clear hI
  rintro mu ρ w ⟨k, A', c', rfl, hk, hH, hI⟩
  obtain ⟨σ, rfl⟩ := hH.open
  by_cases hkl : k < l.length
  rotate_left
  ·obtain rfl : k = l.length := by omega
   exact Wq (Vr Z (Yg Z (WE ⟨A', c', g1_, hI.d1⟩)))
  obtain ⟨bA, oA, rfl, hoc⟩ := (h.pure hI.pu).at hkl
  have hrd : readsF l k = if (oAt l k).kind = 2 ∨ (oAt l k).res = 0 then -1 else match wmN l l.length [(oAt l k).key, (oAt l k).res] with | some j => (j : Int) | none => -2 := by
   unfold readsF
   rw [wmN_wrF]
   generalize wrF l (oAt l k).key (oAt l k).res = x
   cases x <;> rfl
  have hkd := hC.kind k hkl
  generalize hpk : oAt l k = pk at hoc hrd hkd
  obtain ⟨p0, p1, p2, p3, p4, p5, p6, p7⟩ := pk
  simp only at hrd hkd
  have hlk := readsL_len l k
  refine Wq (Vu Z (Yu Z (Wk (Ws (Wb (Wq (Th 8 Z yy94 Z (Ts 8 Z (by rfl) hoc (Vz (.agg zI8) (zI8) hI Z ?_)))))))))
  rintro b8 w - - hI
  refine T2 8 (#[_, _, _, _, _, _, _, _]) (.agg _) hI Z ?_
  intro w hI
  refine Wn ?_
  simp only [opV] at hI
  refine Wx (fun ρ w => ∃ (z : Int) (b : Bool), Has ρ [(32, Y (k : Int)), (31, Y (l.length : Int)), (30, .slice (some ⟨bA, oA, none⟩) l.length c), (3, .map (some b11)), (6, .slice A' k c'), (8, .pointer (some ⟨b8, 0, none⟩)), (9, Y z), (10, .bool b)] ∧ Inv NF w0 w [B b8 106 #[Y p0, Y p1, Y p2, Y p3, Y p4, Y p5, Y p6, Y p7], StE A' c' (readsL l k), MapKE okV kV b11 (wmK l l.length)] ∧ readsF l k = if p2 = 2 ∨ p5 = 0 then -1 else if b = true then z else -2) ?_ ?_
  ·cases hwm : wmN l l.length [p1, p5] with
   | some j =>
    have hv : wmK l l.length [p1, p5] = some (.int .i64 (j : Int)) := by unfold wmK; rw [hwm]; rfl
    rw [hwm] at hrd
    exact Wr (Tp Z (V8 1 Z (Yc hI Z Z (V8 5 Z (Yc hI Z Z (Tc [(0, Y _), (1, Y _)] [_, _] Z [Y 0, Y 0] [0, 1] Z (fun _ => by kernel_rfl) (Wv rfl (rLookKY (a := [p1, p5]) keyV hv rfl yy217 rfl rfl rfl hI.g2) (T4 rfl (Vj rfl (Vj rfl (Vb rfl (Vc rfl (Wn ⟨(j : Int), true, g8_, hI, by rw [hrd]; simp⟩)))))))))))))
   | none =>
    have hv : wmK l l.length [p1, p5] = none := by unfold wmK; rw [hwm]; rfl
    rw [hwm] at hrd
    exact Wr (Tp Z (V8 1 Z (Yc hI Z Z (V8 5 Z (Yc hI Z Z (Tc [(0, Y _), (1, Y _)] [_, _] Z [Y 0, Y 0] [0, 1] Z (fun _ => by kernel_rfl) (Wv rfl (rLookKN (a := [p1, p5]) (zv := .int .i64 0) keyV hv rfl yy217 (by kernel_rfl) rfl rfl rfl hI.g2) (T4 rfl (Vj rfl (Vj rfl (Vb rfl (Vc rfl (Wn ⟨0, false, g8_, hI, by rw [hrd]; simp⟩)))))))))))))
  clear hI hrd
  rintro ρ w ⟨z, b, hH, hI, hrd⟩
  obtain ⟨σ, rfl⟩ := hH.open
  refine Wx (fun ρ w => Has ρ [(32, Y (k : Int)), (31, Y (l.length : Int)), (30, .slice (some ⟨bA, oA, none⟩) l.length c), (3, .map (some b11)), (6, .slice A' k c'), (9, Y (readsF l k))] ∧ Inv NF w0 w [B b8 106 #[Y p0, Y p1, Y p2, Y p3, Y p4, Y p5, Y p6, Y p7], StE A' c' (readsL l k), MapKE okV kV b11 (wmK l l.length)]) ?_ ?_
  ·refine Wb ?_
   by_cases hc : p2 = 2 ∨ p5 = 0
   ·rw [hrd, if_pos hc]
    by_cases k2 : p2 = 2
    ·exact Wq (V8 2 Z (Yc hI Z Z (Vx Z (V7 Z (V5 Z (V5 Z (V5 Z (Vk Z (Vc Z (Yt Z (Wr (Vb Z (Wn ⟨g6_, hI⟩)))))))))))))
    have k5 : p5 = 0 := hc.resolve_left k2
    exact Wq (V8 2 Z (Yc hI Z Z (Vs Z (V7 Z (V8 5 Z (Yc hI Z Z (Vx Z (Vi Z (Vc Z (Yt Z (Wr (Vb Z (Wn ⟨g6_, hI⟩)))))))))))))
   rw [hrd, if_neg hc]
   have k2 : p2 ≠ 2 := fun e => hc (.inl e)
   have k5 : p5 ≠ 0 := fun e => hc (.inr e)
   cases b with
   | true =>
    exact Wq (V8 2 Z (Yc hI Z Z (Vs Z (V7 Z (V8 5 Z (Yc hI Z Z (Vs Z (Vi Z (Vc Z (Yf Z (Ws (Wr (V7 Z (Tf Z (Vc Z (Yf Z (Wk ⟨g6_, hI⟩)))))))))))))))))
   | false =>
    exact Wq (V8 2 Z (Yc hI Z Z (Vs Z (V7 Z (V8 5 Z (Yc hI Z Z (Vs Z (Vi Z (Vc Z (Yf Z (Ws (Wr (V7 Z (To Z (Vc Z (Yt Z (Wr (Vb Z (Wn ⟨g6_, hI⟩)))))))))))))))))))
  clear hI hrd
  rintro ρ w ⟨hH, hI⟩
  obtain ⟨σ, rfl⟩ := hH.open
  replace hI : Inv NF w0 w [B b8 106 #[.int .i64 p0, .int .i64 p1, .int .i64 p2, .int .i64 p3, .int .i64 p4, .int .i64 p5, .int .i64 p6, .int .i64 p7], Row 0 3 1 A' k c' (i64s (readsL l k)), MapKE okV kV b11 (wmK l l.length)] := by
   unfold StE at hI; rw [hlk] at hI; exact hI
  refine Wr (Va Z (V0 Z (T3 [(0, Y _)] [_] [Y 0] [0] hI Z yy41 (fun _ => by kernel_rfl) ?_)))
  rintro b60 w - - hI
  refine WL_app2 (z := Y 0) (by_ := 8) hI Z Z Z Z Z Z yy41 (by kernel_rfl) Z (by omega) (by rfl) hI.lit0 (by rfl) (by omega) (by omega) (by exact Nat.zero_le _) ?_
  rintro A61 c61 w hA61 hc61 hI
  have hI := hI.d0
  refine Vg Z (Wn ?_)
  replace hI : Inv NF w0 w [Row 0 3 1 A61 (k + 1) c61 (i64s (readsL l k) ++ [.int .i64 (readsF l k)]), MapKE okV kV b11 (wmK l l.length)] := hI.d0
  refine Wr (Vl Z (V0 Z (Wn ⟨l.length - (k + 1), by omega, k + 1, A61, c61, rfl, by omega, g5_, ?_⟩)))
  unfold StE
  rw [readsL_succ, i64s_app, List.length_append, List.length_singleton, hlk]
  exact hI
 clear hI
 rintro ρ w ⟨A', c', hH, hI⟩
 obtain ⟨σ, rfl⟩ := hH.open
 exact Wq (Va Z (Vg Z (Wn (WR (r1_ 2 Z ⟨A', c', Z, hI⟩)))))
theorem thinN_any (A : Option Addr) (c : Nat) (rs : List Int) (D : Nat → Prop) (w0 : World) (h : Rd w0 D 1 (.slice A rs.length c) rs.length (i64s rs)) (hl : rs.length ≤ 1000) : Cq 89 #[.slice A rs.length c] w0 fun en w' => (∃ z : Int, en = .returned (.int .i64 z) ∧ ((z = -1 ∧ ∀ i, i < rs.length → rs.getD i 0 ≠ -2) ∨ ∃ i : Nat, i < rs.length ∧ z = i ∧ rs.getD i 0 = -2 ∧ ∀ j, j < i → rs.getD j 0 ≠ -2)) ∧ Pure w0 w' := by
 have hI := Inv.start (fun _ => False) w0
 refine Vm func89 Z (Wq (Vb Z (Wn (Ws (Wq (Va Z (Vo Z yy41 Z (V0 Z (Wn (Wb ?_))))))))))
 refine Wl (fun mu ρ w => ∃ k : Nat, mu = rs.length - k ∧ k ≤ rs.length ∧ (∀ i, i < k → rs.getD i 0 ≠ -2) ∧ Has ρ [(7, Y (k : Int)), (6, Y (rs.length : Int)), (5, .slice A rs.length c)] ∧ Inv NF w0 w []) rs.length
  ⟨0, rfl, by omega, fun i hi => by omega, ⟨rfl, rfl, rfl, trivial⟩, hI⟩ ?_
 clear hI
 rintro mu ρ w ⟨k, rfl, hk, hall, hH, hI⟩
 obtain ⟨σ, rfl⟩ := hH.open
 by_cases hkl : k < rs.length
 rotate_left
 ·obtain rfl : k = rs.length := by omega
  exact Wq (Vr Z (Yg Z (WE (Wq (Vb Z (Wn (WR (r1_ 2 Z ⟨⟨-1, Z, .inl ⟨Z, hall⟩⟩, hI.pu⟩))))))))
 have hi0 : (i64s rs)[k]? = some (.int .i64 (rs.getD k 0)) := by simp [i64s, List.getD, hkl]
 obtain ⟨b1, o1, rfl, _, _, hc1⟩ := h.get hi0 (by omega)
 generalize hz : rs.getD k 0 = z at hc1
 refine Wq (Vu Z (Yu Z (Wk (Ws (Wb (Wq (V0 Z (Tz Z yy41 Z (V6 (Y _) Z (hI.oldp hc1) (Vb Z (Vb Z (Wn ?_))))))))))))
 by_cases h2 : z = -2
 ·exact Wq (V0 Z (Vx Z (Yt Z (Wq (V0 Z (Vb Z (Wn (WR (r1_ 2 Z ⟨⟨(k : Int), Z, .inr ⟨k, hkl, Z, by rw [hz]; exact h2, hall⟩⟩, hI.pu⟩)))))))))
 refine Wq (V0 Z (Vs Z (Yf Z (Wk (Wr (Vl Z (V0 Z (Wn ⟨rs.length - (k + 1), by omega, k + 1, rfl, by omega, fun i hi => ?_, g3_, hI⟩))))))))
 rcases Nat.lt_or_ge i k with h1 | h1
 ·exact hall i h1
 obtain rfl : i = k := by omega
 rw [hz]; exact h2
end Go.Proofs.YtnckdmogdehnoaaGreatDoor
