/- FarmBack. -/
import Derived.Test.YtlkobbighkiojaaGreatDoorPA
import Derived.Test.YtlkobbighkiojaaGreatDoorPLin5
import Derived.Test.YtlkobbighkiojaaGreatDoorPEvo2
import Derived.Test.YtlkobbighkiojaaGreatDoorPGen9
import Derived.Test.YtlkobbighkiojaaGreatDoorPStoB
import Derived.Test.YtlkobbighkiojaaGreatDoorPBak9
import Derived.Test.YtlkobbighkiojaaGreatDoorPStoN
set_option maxHeartbeats 8000000
set_option linter.unusedVariables false
set_option linter.unusedSimpArgs false
namespace Go.Proofs.YtlkobbighkiojaaGreatDoor
open Tryz
open Go.RowKit
def stL (L : Loc) (sts : Nat → List Int) : List Value := (List.range 8).map fun k => Value.slice (L k).1 (sts k).length (L k).2
theorem stL_get {L : Loc} {sts : Nat → List Int} {k : Nat} (hk : k < 8) : (stL L sts).toArray[k]? = some (.slice (L k).1 (sts k).length (L k).2) := by
 unfold stL
 rw [List.getElem?_toArray, List.getElem?_map, List.getElem?_range hk]
 rfl
def bitsF (dn : Nat → Bool) (j : Nat) : List Nat := (List.range j).map fun i => bitF (dn i)
theorem bitsF_succ (dn : Nat → Bool) (j : Nat) : bitsF dn (j + 1) = bitsF dn j ++ [bitF (dn j)] := by simp [bitsF, List.range_succ]
def encQ (l : List Int) (q : Nat) : List Nat := (l.take q).flatMap fun n => 32 :: itoa36 n
theorem encQ_succ {l : List Int} {q : Nat} (hq : q < l.length) : encQ l (q + 1) = encQ l q ++ [32] ++ itoa36 l[q] := by
 unfold encQ
 rw [List.take_succ_eq_append_getElem hq, List.flatMap_append, List.append_assoc]
 simp only [List.flatMap_cons, List.flatMap_nil, List.append_nil]
 rfl
theorem encQ_all (l : List Int) : encQ l l.length ++ [124] = encL l := by unfold encQ encL; rw [List.take_length]
theorem encS_succ (sts : Nat → List Int) (k : Nat) : encS sts (List.range (k + 1)) = encS sts (List.range k) ++ encL (sts k) := by simp [encS, List.range_succ]
theorem encQ_len (l : List Int) : ∀ q, (encQ l q).length ≤ 16 * q := by
 intro q
 induction q with
 | zero => simp [encQ]
 | succ q ih =>
  rcases Nat.lt_or_ge q l.length with h | h
  ·rw [encQ_succ h]
   have := itoa_len l[q]
   simp
   omega
  have : encQ l (q + 1) = encQ l q := by unfold encQ; rw [List.take_of_length_le h, List.take_of_length_le (by omega)]
  rw [this]; omega
theorem encL_len (l : List Int) : (encL l).length ≤ 16 * l.length + 1 := by
 rw [← encQ_all]
 have := encQ_len l l.length
 simp
 omega
theorem encS_len {sts : Nat → List Int} {m : Nat} (h : ∀ k, (sts k).length ≤ m) : ∀ k, (encS sts (List.range k)).length ≤ k * (16 * m + 1) := by
 intro k
 induction k with
 | zero => simp [encS]
 | succ k ih =>
  rw [encS_succ, List.length_append, Nat.add_mul, Nat.one_mul]
  have h1 := encL_len (sts k)
  have h2 := h k
  omega
theorem BytE.snoc {base c : Nat} {A : Option Addr} {l : List Nat} {b : Nat} : BytE base A c (l ++ [b]) = Row base 5 1 A (l.length + 1) c (bytC l ++ [.int .u8 (b : Int)]) := by
 unfold BytE
 rw [bytC_app, List.length_append]
 rfl
theorem rMulN {P : Program} {ρ : Env} {oo : Oper} {w : World} {x y : Operand} {t t' : TypeId} {a b : Nat} (ho : oo.op = .binOp .mul t x y t') (hx : ev ρ x = .int .i64 (a : Int)) (hy : ev ρ y = .int .i64 (b : Int)) (h : a * b ≤ 9223372036854775807) : Runs P ρ oo w (.int .i64 ((a * b : Nat) : Int)) := by
 have hn : (0 : Int) ≤ (a : Int) * (b : Int) := by rw [← Int.natCast_mul]; omega
 have hm : (a : Int) * (b : Int) ≤ 9223372036854775807 := by rw [← Int.natCast_mul]; omega
 have := rMul (P := P) (w := w) ho hx hy ⟨by omega, hm⟩
 rwa [← Int.natCast_mul] at this
theorem skey_any (sb : Nat) (A : Option Addr) (c n db : Nat) (dn : Nat → Bool) (L : Loc) (sts : Nat → List Int) (w0 : World) (h1 : w0.cell? ⟨sb, 1, none⟩ = some (.slice A n c)) (h4 : w0.cell? ⟨sb, 4, none⟩ = some (.slice (some ⟨db, 0, none⟩) n n)) (hd : Blk w0 db 4 (boolC n dn))
  (h6 : ∀ (j : Nat) (u : Value), (stL L sts)[j]? = some u → w0.cell? ⟨sb, 6 + j, none⟩ = some u) (hst : ∀ k, k < 8 → Rd w0 (fun _ => True) 1 (.slice (L k).1 (sts k).length (L k).2) (sts k).length (i64s (sts k))) (hn : n ≤ 100) (hi : ∀ k, ∀ x ∈ sts k, i64B x) (hlen : ∀ k, (sts k).length ≤ 100) :
  Cq 133 #[.pointer (some ⟨sb, 0, none⟩)] w0 fun en w' => en = .returned (.string (strB (keyF n dn sts))) ∧ Pure w0 w' := by
 have hI := Inv.start (fun _ => False) w0
 refine Vn func133 rfl ?_
 refine Wq (T4 rfl (Wn (Wq (V9 rfl (Vb rfl (V7 1 rfl (V5 (.slice _ _ _) rfl (hI.oldp h1) (Vs rfl yy62 rfl ?_))))))))
 refine Wv rfl (rMulN (a := 2) (b := n) rfl rfl rfl (by omega)) ?_
 refine WL_mkCap (zv := .int .u8 0) (by_ := 1) (base := 0) hI rfl rfl rfl rfl rfl rfl yy133 (by kernel_rfl) (by omega) (by omega) (Nat.zero_le _) ?_
 rintro b16 w _ _ hI
 refine Vo rfl (Wn ?_)
 replace hI : Inv NF w0 w [BytE 0 (some ⟨b16, 0, none⟩) (2 * n) (bitsF dn 0)] := hI
 refine Wx (fun ρ w => ∃ (A3 : Option Addr) (c3 : Nat), Has ρ [(3, .slice A3 (bitsF dn n).length c3), (0, .pointer (some ⟨sb, 0, none⟩))] ∧ Inv NF w0 w [BytE 0 A3 c3 (bitsF dn n)]) ?_ ?_
 ·refine Wq (V9 rfl (Vb rfl (V7 4 rfl (V5 (.slice _ _ _) rfl (hI.oldp h4) (Vs rfl yy113 rfl (V0 rfl (Wn (Wb ?_))))))))
  refine Wl (fun mu ρ w => ∃ (k : Nat) (A3 : Option Addr) (c3 : Nat), mu = n - k ∧ k ≤ n ∧ Has ρ [(22, .int .i64 (k : Int)), (21, .int .i64 (n : Int)), (20, .slice (some ⟨db, 0, none⟩) n n), (3, .slice A3 (bitsF dn k).length c3), (0, .pointer (some ⟨sb, 0, none⟩))] ∧ Inv NF w0 w [BytE 0 A3 c3 (bitsF dn k)]) n
   ⟨0, _, _, rfl, by omega, ⟨rfl, rfl, rfl, rfl, rfl, trivial⟩, hI⟩ ?_
  clear hI
  rintro mu ρ w ⟨k, A3, c3, rfl, hk, hH, hI⟩
  obtain ⟨σ, rfl⟩ := hH.open
  have hbl : (bitsF dn k).length = k := by simp [bitsF]
  by_cases hkn : k < n
  rotate_left
  ·obtain rfl : k = n := by omega
   refine Wq (Vr rfl (Wn (Ws (Wc false rfl ?_))))
   refine WE ?_
   exact ⟨A3, c3, ⟨rfl, rfl, trivial⟩, hI⟩
  have hdg := (hd.cell k).trans (boolC_get (n := n) dn hkn)
  cases hdn : dn k with
  | true =>
   rw [hdn] at hdg
   refine Wq (Vt rfl (Wn (Ws (Wc true rfl (Wk (Ws (Wb (Wq (Tp rfl yy113 rfl (V5 (.bool _) rfl (hI.oldp hdg) (V8 rfl ?_)))))))))))
   refine Wn (Wq (V6 rfl (Wn (Wc true rfl (Wr (Vi rfl (T3 [(0, .int .u8 _)] [_] [.int .u8 0] [0] hI rfl yy133 (fun _ => by kernel_rfl) ?_)))))))
   rintro b28 w - - hI
   refine Tx 1 (.int .u8 0) hI rfl yy133 rfl (by rfl) hI.lit0 (by rfl) (Nat.zero_le _) ?_
   rintro A29 c29 w hA29 hc29 hI
   have hI := hI.d0
   refine Vo rfl (Wn ?_)
   replace hI : Inv NF w0 w [BytE 0 A29 c29 (bitsF dn (k + 1))] := by
    rw [bitsF_succ, hdn, BytE.snoc]; exact hI
   refine Wr (Vv rfl (V0 rfl (Wn ?_)))
   exact ⟨n - (k + 1), by omega, k + 1, A29, c29, rfl, by omega, ⟨rfl, rfl, rfl, by rw [bitsF_succ, List.length_append]; rfl, rfl, trivial⟩, hI⟩
  | false =>
   rw [hdn] at hdg
   refine Wq (Vt rfl (Wn (Ws (Wc true rfl (Wk (Ws (Wb (Wq (Tp rfl yy113 rfl (V5 (.bool _) rfl (hI.oldp hdg) (V8 rfl ?_)))))))))))
   refine Wn (Wq (V6 rfl (Wn (Wc false rfl (Wr (Vi rfl (T3 [(0, .int .u8 _)] [_] [.int .u8 0] [0] hI rfl yy133 (fun _ => by kernel_rfl) ?_)))))))
   rintro b31 w - - hI
   refine Tx 1 (.int .u8 0) hI rfl yy133 rfl (by rfl) hI.lit0 (by rfl) (Nat.zero_le _) ?_
   rintro A32 c32 w hA32 hc32 hI
   have hI := hI.d0
   refine Vo rfl (Wn ?_)
   replace hI : Inv NF w0 w [BytE 0 A32 c32 (bitsF dn (k + 1))] := by
    rw [bitsF_succ, hdn, BytE.snoc]; exact hI
   refine Wr (Vv rfl (V0 rfl (Wn ?_)))
   exact ⟨n - (k + 1), by omega, k + 1, A32, c32, rfl, by omega, ⟨rfl, rfl, rfl, by rw [bitsF_succ, List.length_append]; rfl, rfl, trivial⟩, hI⟩
 clear hI
 rintro ρ w ⟨A3, c3, hH, hI⟩
 obtain ⟨σ, rfl⟩ := hH.open
 have hbl : (bitsF dn n).length = n := by simp [bitsF]
 refine Wx (fun ρ w => ∃ (A3 : Option Addr) (c3 : Nat), Has ρ [(3, .slice A3 (keyF n dn sts).length c3)] ∧ Inv NF w0 w [BytE 0 A3 c3 (keyF n dn sts)]) ?_ ?_
 ·refine Wq (V9 rfl (Vb rfl (V7 6 rfl (Uo 8 rfl (by rfl) (fun k u hk => hI.oldp (h6 k u hk)) (V0 rfl (Wn (Wb ?_)))))))
  refine Wl (fun mu ρ w => ∃ (k : Nat) (A3 : Option Addr) (c3 : Nat), mu = 8 - k ∧ k ≤ 8 ∧ Has ρ [(38, .int .i64 (k : Int)), (37, .agg (stL L sts).toArray), (3, .slice A3 (bitsF dn n ++ encS sts (List.range k)).length c3)] ∧ Inv NF w0 w [BytE 0 A3 c3 (bitsF dn n ++ encS sts (List.range k))]) 8
   ⟨0, A3, c3, rfl, by omega, ⟨rfl, rfl, by simp [encS]; rfl, trivial⟩, by simp only [encS, List.range_zero, List.flatMap_nil, List.append_nil]; exact hI⟩ ?_
  clear hI
  rintro mu ρ w ⟨k, A3, c3, rfl, hk, hH, hI⟩
  obtain ⟨σ, rfl⟩ := hH.open
  by_cases hk8 : k < 8
  rotate_left
  ·obtain rfl : k = 8 := by omega
   refine Wq (Vr rfl (Wn (Ws (Wc false rfl ?_))))
   refine WE ?_
   exact ⟨A3, c3, ⟨rfl, trivial⟩, hI⟩
  refine Wq (Vt rfl (Wn (Ws (Wc true rfl (Wk (Ws (Wb (Ws (Wr ?_)))))))))
  refine Wv rfl (rIdxAg rfl underlying209 (by kernel_rfl) (by kernel_rfl) rfl rfl (by omega) (stL_get hk8)) ?_
  refine Vo rfl (Wn ?_)
  have hrd := hst k hk8
  have hel := encS_len hlen k
  have hlk := hlen k
  have hk16 : k * (16 * 100 + 1) ≤ 8 * (16 * 100 + 1) := Nat.mul_le_mul_right _ hk
  generalize (L k).1 = Ak at hrd ⊢
  generalize (L k).2 = ck at hrd ⊢
  refine Wx (fun ρ w => ∃ (A3 : Option Addr) (c3 : Nat), Has ρ [(38, .int .i64 (k : Int)), (37, .agg (stL L sts).toArray), (3, .slice A3 (bitsF dn n ++ encS sts (List.range k) ++ encQ (sts k) (sts k).length).length c3)] ∧ Inv NF w0 w [BytE 0 A3 c3 (bitsF dn n ++ encS sts (List.range k) ++ encQ (sts k) (sts k).length)]) ?_ ?_
  ·refine Wq (Vi rfl (Vs rfl yy26 rfl (V0 rfl (Wn (Wb ?_)))))
   refine Wl (fun mu ρ w => ∃ (q : Nat) (A3 : Option Addr) (c3 : Nat), mu = (sts k).length - q ∧ q ≤ (sts k).length ∧ Has ρ [(43, .int .i64 (q : Int)), (42, .int .i64 ((sts k).length : Int)), (41, .slice Ak (sts k).length ck), (38, .int .i64 (k : Int)), (37, .agg (stL L sts).toArray), (3, .slice A3 (bitsF dn n ++ encS sts (List.range k) ++ encQ (sts k) q).length c3)] ∧ Inv NF w0 w [BytE 0 A3 c3 (bitsF dn n ++ encS sts (List.range k) ++ encQ (sts k) q)]) (sts k).length
    ⟨0, A3, c3, rfl, by omega, ⟨rfl, rfl, rfl, rfl, rfl, by simp [encQ]; rfl, trivial⟩, by simp only [encQ, List.take_zero, List.flatMap_nil, List.append_nil]; exact hI⟩ ?_
   clear hI
   rintro mu ρ w ⟨q, A3, c3, rfl, hq, hH, hI⟩
   obtain ⟨σ, rfl⟩ := hH.open
   by_cases hql : q < (sts k).length
   rotate_left
   ·obtain rfl : q = (sts k).length := by omega
    refine Wq (Vr rfl (Wn (Ws (Wc false rfl ?_))))
    refine WE ?_
    exact ⟨A3, c3, ⟨rfl, rfl, rfl, trivial⟩, hI⟩
   have hi0 : (i64s (sts k))[q]? = some (.int .i64 ((sts k)[q]'hql)) := by simp [i64s, hql]
   obtain ⟨ob, oo, rfl, _, _, hcell⟩ := hrd.get hi0 (by omega)
   have hi64 := hi k _ (List.getElem_mem hql)
   have hql16 := encQ_len (sts k) q
   have hsucc := encQ_succ hql
   generalize (sts k)[q]'hql = z at hcell hi64 hsucc
   have htot : (bitsF dn n ++ encS sts (List.range k) ++ encQ (sts k) q).length ≤ 20000 := by
    rw [List.length_append, List.length_append]; omega
   generalize hX : bitsF dn n ++ encS sts (List.range k) ++ encQ (sts k) q = X at hI htot
   refine Wq (Vt rfl (Wn (Ws (Wc true rfl (Wk (Ws (Wb (Wq (U8 rfl yy26 rfl (V5 (.int .i64 _) rfl (hI.oldp hcell) (Vc rfl ?_)))))))))))
   refine Wn (Wr (Vi rfl (T3 [(0, .int .u8 _)] [_] [.int .u8 0] [0] hI rfl yy133 (fun _ => by kernel_rfl) ?_)))
   rintro b48 w - - hI
   refine Tx 1 (.int .u8 0) hI rfl yy133 rfl (by rfl) hI.lit0 (by rfl) (Nat.zero_le _) ?_
   rintro A49 c49 w hA49 hc49 hI
   have hI := hI.d0
   refine V0 rfl (Va [.slice _ _ _, .int .i64 _, .int .i64 _] rfl func171 rfl ?_)
   replace hI : Inv NF w0 w [BytE 0 A49 c49 (X ++ [32])] := by
    rw [BytE.snoc]; exact hI
   refine Calls.mono (by have h := appP_any 0 A49 c49 (X ++ [32]) z _ (hI.ok _ (by simp)) hi64 (by simp; omega) (Nat.zero_le _); rw [List.length_append] at h; exact h) ?_
   rintro e w1 ⟨A', c', rfl, hT⟩
   refine rV ?_
   have hI := hI.turn1 hT
   refine Vo rfl (Wn (Wr (Vv rfl (V0 rfl (Wn ?_)))))
   have eX : bitsF dn n ++ encS sts (List.range k) ++ encQ (sts k) (q + 1) = X ++ [32] ++ itoa36 z := by rw [hsucc, ← hX]; simp
   exact ⟨(sts k).length - (q + 1), by omega, q + 1, A', c', rfl, by omega, ⟨rfl, rfl, rfl, rfl, rfl, by rw [eX]; rfl, trivial⟩, by rw [eX]; exact hI⟩
  clear hI
  rintro ρ w ⟨A3, c3, hH, hI⟩
  obtain ⟨σ, rfl⟩ := hH.open
  have hq16 := encQ_len (sts k) (sts k).length
  have htot : (bitsF dn n ++ encS sts (List.range k) ++ encQ (sts k) (sts k).length).length ≤ 20000 := by
   rw [List.length_append, List.length_append]; omega
  have eX : bitsF dn n ++ encS sts (List.range k) ++ encQ (sts k) (sts k).length ++ [124] = bitsF dn n ++ encS sts (List.range (k + 1)) := by rw [encS_succ, ← encQ_all]; simp
  generalize hX : bitsF dn n ++ encS sts (List.range k) ++ encQ (sts k) (sts k).length = X at hI htot eX
  refine Wr (Vi rfl (T3 [(0, .int .u8 _)] [_] [.int .u8 0] [0] hI rfl yy133 (fun _ => by kernel_rfl) ?_))
  rintro b54 w - - hI
  refine Tx 1 (.int .u8 0) hI rfl yy133 rfl (by rfl) hI.lit0 (by rfl) (Nat.zero_le _) ?_
  rintro A55 c55 w hA55 hc55 hI
  have hI := hI.d0
  refine Vo rfl (Wn ?_)
  replace hI : Inv NF w0 w [BytE 0 A55 c55 (bitsF dn n ++ encS sts (List.range (k + 1)))] := by
   rw [← eX, BytE.snoc]; exact hI
  refine Wr (Vv rfl (V0 rfl (Wn ?_)))
  exact ⟨8 - (k + 1), by omega, k + 1, A55, c55, rfl, by omega, ⟨rfl, rfl, by rw [← eX, List.length_append]; rfl, trivial⟩, hI⟩
 clear hI
 rintro ρ w ⟨A3, c3, hH, hI⟩
 obtain ⟨σ, rfl⟩ := hH.open
 have hpos : 0 < (keyF n dn sts).length := by
  unfold keyF
  rw [List.length_append, encS_succ sts 7, List.length_append, ← encQ_all]
  simp
  omega
 refine Wq (Vi rfl ?_)
 refine Wv rfl (rBytesStr rfl yy133 yy5 yy9 rfl hI.g0 (keyF_small n dn sts) hpos) ?_
 refine T4 rfl (Wn ?_)
 exact WR (r1_ 2 rfl ⟨rfl, hI.pu⟩)
end Go.Proofs.YtlkobbighkiojaaGreatDoor
namespace Go.Proofs.YtlkobbighkiojaaGreatDoor
open Tryz
structure SSt where
 dn : Nat → Bool
 sts : Nat → List Int
 ord : List Int
 ent : List (List Nat)
def dnSet (dn : Nat → Bool) (i : Nat) (b : Bool) : Nat → Bool := fun x => if x = i then b else dn x
def stSet (sts : Nat → List Int) (k : Nat) (st : List Int) : Nat → List Int := fun j => if j = k then st else sts j
def allF (l : List Op8) (dn : Nat → Bool) : Bool := (List.range l.length).all fun i => !decide (0 ≤ (oAt l i).ret) || dn i
def nextF (l : List Op8) (ab : Op8 → Op8 → Bool) (dn : Nat → Bool) (i : Nat) : Bool := !dn i && (List.range l.length).all fun k => k == i || dn k || !ab (oAt l k) (oAt l i)
def keyN (l : List Op8) (i : Nat) : Nat := (oAt l i).key.toNat
def goF (o : Int) (l : List Op8) (sts : Nat → List Int) (i : Nat) : Option (List Int) := match stepF o (sts (keyN l i)) (oAt l i).kind (oAt l i).a (oAt l i).b with
 | none => none
 | some (st', r) => if (oAt l i).ret ≠ -1 ∧ r ≠ (oAt l i).res then none else some st'
def stepS (l : List Op8) (s : SSt) (i : Nat) (st' : List Int) : SSt := ⟨dnSet s.dn i true, stSet s.sts (keyN l i) st', s.ord ++ [(i : Int)], s.ent⟩
def loopF (o : Int) (l : List Op8) (ab : Op8 → Op8 → Bool) (rec : SSt → Int × SSt) : List Nat → SSt → Int × SSt
 | [], s => (2, s)
 | i :: r, s => match nextF l ab s.dn i with
  | false => loopF o l ab rec r s
  | true => match goF o l s.sts i with
   | none => loopF o l ab rec r s
   | some st' => if (rec (stepS l s i st')).1 = 2 then loopF o l ab rec r ⟨s.dn, s.sts, s.ord, (rec (stepS l s i st')).2.ent⟩ else rec (stepS l s i st')
section
variable {o : Int} {l : List Op8} {ab : Op8 → Op8 → Bool} {rec : SSt → Int × SSt} {i : Nat} {r : List Nat} {s : SSt} {st' : List Int}
theorem loopF_skip (h : nextF l ab s.dn i = false) : loopF o l ab rec (i :: r) s = loopF o l ab rec r s := by rw [loopF, h]
theorem loopF_no (h : nextF l ab s.dn i = true) (hg : goF o l s.sts i = none) : loopF o l ab rec (i :: r) s = loopF o l ab rec r s := by rw [loopF, h, hg]
theorem loopF_on (h : nextF l ab s.dn i = true) (hg : goF o l s.sts i = some st') (h2 : (rec (stepS l s i st')).1 = 2) : loopF o l ab rec (i :: r) s = loopF o l ab rec r ⟨s.dn, s.sts, s.ord, (rec (stepS l s i st')).2.ent⟩ := by rw [loopF, h, hg]; exact if_pos h2
theorem loopF_hit (h : nextF l ab s.dn i = true) (hg : goF o l s.sts i = some st') (h2 : (rec (stepS l s i st')).1 ≠ 2) : loopF o l ab rec (i :: r) s = rec (stepS l s i st') := by rw [loopF, h, hg]; exact if_neg h2
end
def putE (l : List Op8) (s : SSt) : SSt := ⟨s.dn, s.sts, s.ord, s.ent ++ [keyF l.length s.dn s.sts]⟩
def enterF (o : Int) (l : List Op8) (ab : Op8 → Op8 → Bool) (bud : Nat) : Nat → SSt → Int × SSt
 | 0, s => (2, s)
 | f + 1, s => match allF l s.dn with
  | true => (1, s)
  | false => if keyF l.length s.dn s.sts ∈ s.ent then (2, s) else if s.ent.length = bud then (3, s) else loopF o l ab (enterF o l ab bud f) (List.range l.length) (putE l s)
section
variable {o : Int} {l : List Op8} {ab : Op8 → Op8 → Bool} {bud f : Nat} {s : SSt}
theorem enterF_all (h : allF l s.dn = true) : enterF o l ab bud (f + 1) s = (1, s) := by rw [enterF, h]
theorem enterF_old (h : allF l s.dn = false) (hk : keyF l.length s.dn s.sts ∈ s.ent) : enterF o l ab bud (f + 1) s = (2, s) := by rw [enterF, h]; exact if_pos hk
theorem enterF_over (h : allF l s.dn = false) (hk : keyF l.length s.dn s.sts ∉ s.ent) (hb : s.ent.length = bud) : enterF o l ab bud (f + 1) s = (3, s) := by rw [enterF, h]; exact (if_neg hk).trans (if_pos hb)
theorem enterF_go (h : allF l s.dn = false) (hk : keyF l.length s.dn s.sts ∉ s.ent) (hb : s.ent.length ≠ bud) : enterF o l ab bud (f + 1) s = loopF o l ab (enterF o l ab bud f) (List.range l.length) (putE l s) := by rw [enterF, h]; exact (if_neg hk).trans (if_neg hb)
end
def startS (o : Int) : SSt := ⟨fun _ => false, fun k => if k < 8 then startF o else [], [], []⟩
def verdF (o : Int) (l : List Op8) (ab : Op8 → Op8 → Bool) (bud : Nat) : Int × SSt := enterF o l ab bud (l.length + 1) (startS o)
def cntD (n : Nat) (dn : Nat → Bool) : Nat := (List.range n).countP dn
def undn (n : Nat) (dn : Nat → Bool) : Nat := (List.range n).countP fun i => !dn i
theorem cnt_undn (n : Nat) (dn : Nat → Bool) : cntD n dn + undn n dn = n := by
 unfold cntD undn
 induction n with
 | zero => rfl
 | succ n ih =>
  rw [List.range_succ, List.countP_append, List.countP_append]
  cases h : dn n <;> simp [h] at ih ⊢ <;> omega
theorem cntD_far {n i : Nat} {dn : Nat → Bool} {b : Bool} (h : n ≤ i) : cntD n (dnSet dn i b) = cntD n dn := by
 unfold cntD
 refine List.countP_congr fun x hx => ?_
 have := List.mem_range.1 hx
 unfold dnSet
 rw [if_neg (by omega)]
theorem cntD_set : ∀ {n i : Nat} {dn : Nat → Bool}, i < n → dn i = false → cntD n (dnSet dn i true) = cntD n dn + 1
 | 0, _, _, h, _ => by omega
 | n + 1, i, dn, h, hd => by
  unfold cntD
  rw [List.range_succ, List.countP_append, List.countP_append]
  by_cases hi : i = n
  ·subst hi
   have := cntD_far (n := i) (i := i) (dn := dn) (b := true) (Nat.le_refl _)
   unfold cntD at this
   rw [this]
   simp [dnSet, hd]
  have := cntD_set (n := n) (i := i) (dn := dn) (by omega) hd
  unfold cntD at this
  rw [this]
  have e : dnSet dn i true n = dn n := by unfold dnSet; rw [if_neg (Ne.symm hi)]
  simp [e]
  omega
theorem undn_set {n i : Nat} {dn : Nat → Bool} (h : i < n) (hd : dn i = false) : undn n (dnSet dn i true) + 1 = undn n dn := by
 have h1 := cnt_undn n dn
 have h2 := cnt_undn n (dnSet dn i true)
 have h3 := cntD_set h hd
 omega
theorem next_dn {l : List Op8} {ab : Op8 → Op8 → Bool} {dn : Nat → Bool} {i : Nat} (h : nextF l ab dn i = true) : dn i = false := by
 unfold nextF at h
 simp at h
 exact h.1
section
variable {o : Int} {l : List Op8} {ab : Op8 → Op8 → Bool}
theorem loop_len {rec : SSt → Int × SSt} {B : Nat} (hrec : ∀ s, s.ent.length ≤ B → (rec s).2.ent.length ≤ B) : ∀ (r : List Nat) (s : SSt), s.ent.length ≤ B → (loopF o l ab rec r s).2.ent.length ≤ B
 | [], s, h => h
 | i :: r, s, h => by
  unfold loopF
  split
  ·exact loop_len hrec r s h
  split
  ·exact loop_len hrec r s h
  split
  ·exact loop_len hrec r _ (hrec _ h)
  exact hrec _ h
theorem enter_len {bud : Nat} : ∀ (f : Nat) (s : SSt), s.ent.length ≤ bud → (enterF o l ab bud f s).2.ent.length ≤ bud
 | 0, s, h => h
 | f + 1, s, h => by
  unfold enterF
  split
  ·exact h
  split
  ·exact h
  split
  ·exact h
  refine loop_len (enter_len f) _ _ ?_
  simp [putE]
  omega
theorem verd_len (bud : Nat) : (verdF o l ab bud).2.ent.length ≤ bud := enter_len _ _ (Nat.zero_le _)
theorem undn_start (n : Nat) : undn n (fun _ => false) = n := by simp [undn]
end
structure ArgsOk (l : List Op8) : Prop where
 key : ∀ i, i < l.length → 0 ≤ (oAt l i).key ∧ (oAt l i).key < 8
 a : ∀ i, i < l.length → i64B (oAt l i).a
 b : ∀ i, i < l.length → i64B (oAt l i).b
 ret : ∀ i, i < l.length → (oAt l i).ret = -1 ∨ 0 ≤ (oAt l i).ret
theorem ArgsOk.keyN {l : List Op8} (h : ArgsOk l) {i : Nat} (hi : i < l.length) : keyN l i < 8 := by
 have := h.key i hi
 unfold Go.Proofs.YtlkobbighkiojaaGreatDoor.keyN
 omega
structure GoodS (o : Int) (n : Nat) (dn : Nat → Bool) (sts : Nat → List Int) : Prop where
 dnOut : ∀ i, n ≤ i → dn i = false
 stOut : ∀ k, 8 ≤ k → sts k = []
 i64 : ∀ k, ∀ x ∈ sts k, i64B x
 ok : ∀ k, okSt o (sts k)
 len : ∀ k, (sts k).length ≤ cntD n dn + 1
theorem wrap_i64B (z : Int) : i64B (IntKind.i64.wrap z) := by
 unfold i64B
 simp [IntKind.wrap, IntKind.signed, IntKind.bits]
 split <;> omega
theorem stepF_i64 {o : Int} {st st' : List Int} {k a b r : Int} (h : stepF o st k a b = some (st', r)) (hs : ∀ x ∈ st, i64B x) (ha : i64B a) (hb : i64B b) : ∀ x ∈ st', i64B x := by
 have h0 : i64B (st.getD 0 0) := by
  cases st with
  | nil => exact ⟨by decide, by decide⟩
  | cons x st => exact hs x (by simp)
 have hone : ∀ b : Bool, i64B (oneF b) := fun b => by cases b <;> exact ⟨by decide, by decide⟩
 unfold stepF at h
 split at h
 ·cases h
 split at h
 ·injection h with h; injection h with h1 _; subst h1
  intro x hx
  rw [List.mem_singleton.1 hx]
  unfold regF
  split
  ·exact h0
  split
  ·exact ha
  split
  ·exact hb
  exact h0
 split at h
 ·injection h with h; injection h with h1 _; subst h1
  intro x hx
  rw [List.mem_singleton.1 hx]
  split
  ·exact wrap_i64B _
  exact h0
 split at h
 ·injection h with h
  have h1 : (setF st k a).1 = st' := by rw [h]
  subst h1
  unfold setF
  intro x hx
  split at hx
  ·simp only [insF, List.mem_append, List.mem_cons] at hx
   rcases hx with hx | rfl | hx
   ·exact hs x (List.mem_of_mem_take hx)
   ·exact ha
   exact hs x (List.mem_of_mem_drop hx)
  split at hx
  ·simp only [delF, List.mem_append] at hx
   rcases hx with hx | hx
   ·exact hs x (List.mem_of_mem_take hx)
   exact hs x (List.mem_of_mem_drop hx)
  exact hs x hx
 split at h
 ·split at h
  ·injection h with h; injection h with h1 _; subst h1
   intro x hx
   rw [List.mem_singleton.1 hx]
   exact hone _
  cases h
 injection h with h
 have h1 : (lineF o st k a).1 = st' := by rw [h]
 subst h1
 unfold lineF
 intro x hx
 split at hx
 ·rcases List.mem_append.1 hx with hx | hx
  ·exact hs x hx
  rw [List.mem_singleton.1 hx]; exact ha
 split at hx
 ·exact hs x hx
 split at hx
 ·exact hs x (List.mem_of_mem_drop hx)
 exact hs x (List.mem_of_mem_take hx)
theorem goF_step {o : Int} {l : List Op8} {sts : Nat → List Int} {i : Nat} {st' : List Int} (h : goF o l sts i = some st') : ∃ r, stepF o (sts (keyN l i)) (oAt l i).kind (oAt l i).a (oAt l i).b = some (st', r) ∧ ¬ ((oAt l i).ret ≠ -1 ∧ r ≠ (oAt l i).res) := by
 unfold goF at h
 split at h
 ·cases h
 rename_i s' r hs
 split at h
 ·cases h
 rename_i hn
 injection h with h
 subst h
 exact ⟨r, hs, hn⟩
theorem GoodS.step {o : Int} {l : List Op8} {dn : Nat → Bool} {sts : Nat → List Int} {i : Nat} {st' : List Int} (h : GoodS o l.length dn sts) (hA : ArgsOk l) (hi : i < l.length) (hd : dn i = false) (hg : goF o l sts i = some st') : GoodS o l.length (dnSet dn i true) (stSet sts (keyN l i) st') := by
 obtain ⟨r, hs, _⟩ := goF_step hg
 have hc := cntD_set hi hd
 have hk := hA.keyN hi
 refine ⟨fun j hj => ?_, fun k hk' => ?_, fun k => ?_, fun k => ?_, fun k => ?_⟩
 ·unfold dnSet; rw [if_neg (by omega)]; exact h.dnOut j hj
 ·unfold stSet; rw [if_neg (by omega)]; exact h.stOut k hk'
 ·unfold stSet; split
  ·exact stepF_i64 hs (h.i64 _) (hA.a i hi) (hA.b i hi)
  exact h.i64 k
 ·unfold stSet; split
  ·exact stepF_ok hs (h.ok _)
  exact h.ok k
 rw [hc]; unfold stSet; split
 ·have := stepF_len hs
  have := h.len (keyN l i)
  omega
 have := h.len k
 omega
theorem goodS_start (o : Int) (n : Nat) : GoodS o n (startS o).dn (startS o).sts := by
 refine ⟨fun _ _ => rfl, fun k hk => if_neg (by omega), fun k x hx => ?_, fun k => ?_, fun k => ?_⟩
 ·simp only [startS] at hx
  split at hx
  ·unfold startF at hx
   split at hx
   ·rw [List.mem_singleton.1 hx]; exact ⟨by decide, by decide⟩
   cases hx
  cases hx
 ·simp only [startS]
  split
  ·exact okSt_start o
  intro _; exact .nil
 simp only [startS]
 split
 ·have := startF_len o; omega
 simp
section
variable (o : Int) (l : List Op8) (ab : Op8 → Op8 → Bool)
end
section
variable {o : Int} {l : List Op8} {ab : Op8 → Op8 → Bool}
def RunL (o : Int) (l : List Op8) : List Int → (Nat → List Int) → (Nat → List Int) → Prop
 | [], a, b => a = b
 | i :: r, a, b => ∃ st', goF o l a i.toNat = some st' ∧ RunL o l r (stSet a (keyN l i.toNat) st') b
theorem RunL_snoc {i : Int} {st' : List Int} : ∀ (r : List Int) (a b : Nat → List Int), RunL o l r a b → goF o l b i.toNat = some st' → RunL o l (r ++ [i]) a (stSet b (keyN l i.toNat) st')
 | [], a, b, h, hg => by
  have h : a = b := h
  subst h
  exact ⟨st', hg, rfl⟩
 | j :: r, a, b, h, hg => by
  obtain ⟨s1, h1, h2⟩ := h
  exact ⟨s1, h1, RunL_snoc r _ b h2 hg⟩
structure Reach (o : Int) (l : List Op8) (ab : Op8 → Op8 → Bool) (dn : Nat → Bool) (sts : Nat → List Int) (ord : List Int) : Prop where
 dnE : ∀ i, dn i = ord.contains ((i : Nat) : Int)
 rng : ∀ i ∈ ord, 0 ≤ i ∧ i < l.length
 nodup : ord.Nodup
 run : RunL o l ord (startS o).sts sts
 ahead : ord.Pairwise fun a b => ab (oAt l b.toNat) (oAt l a.toNat) = false
 left : ∀ a ∈ ord, ∀ k, k < l.length → dn k = false → ab (oAt l k) (oAt l a.toNat) = false
theorem Reach.start : Reach o l ab (fun _ => false) (startS o).sts [] := ⟨fun i => by simp, by simp, by simp, rfl, .nil, by simp⟩
theorem Reach.step {dn : Nat → Bool} {sts : Nat → List Int} {ord : List Int} {i : Nat} {st' : List Int} (h : Reach o l ab dn sts ord) (hi : i < l.length) (hn : nextF l ab dn i = true) (hg : goF o l sts i = some st') : Reach o l ab (dnSet dn i true) (stSet sts (keyN l i) st') (ord ++ [(i : Int)]) := by
 have hd := next_dn hn
 have hnx : ∀ k, k < l.length → k ≠ i → dn k = false → ab (oAt l k) (oAt l i) = false := by
  intro k hk hki hdk
  unfold nextF at hn
  simp only [Bool.and_eq_true, List.all_eq_true, List.mem_range] at hn
  have := hn.2 k hk
  simp [hki, hdk] at this
  exact this
 have hni : ((i : Nat) : Int) ∉ ord := fun hm => by
  have := h.dnE i
  rw [hd] at this
  simp [hm] at this
 refine ⟨fun j => ?_, fun j hj => ?_, ?_, ?_, ?_, fun a ha k hk hdk => ?_⟩
 ·unfold dnSet
  by_cases hj : j = i
  ·subst hj; simp
  rw [if_neg hj, h.dnE j]
  rw [Bool.eq_iff_iff]
  simp
  omega
 ·rcases List.mem_append.1 hj with hj | hj
  ·exact h.rng j hj
  rw [List.mem_singleton.1 hj]; omega
 ·rw [List.nodup_append]
  refine ⟨h.nodup, by simp, fun a ha b hb => ?_⟩
  rw [List.mem_singleton.1 hb]
  intro e
  exact hni (e ▸ ha)
 ·exact RunL_snoc (i := (i : Int)) ord _ _ h.run (by simpa using hg)
 ·rw [List.pairwise_append]
  refine ⟨h.ahead, by simp, fun a ha b hb => ?_⟩
  rw [List.mem_singleton.1 hb, Int.toNat_natCast]
  exact h.left a ha i hi hd
 have hki : k ≠ i := fun e => by subst e; simp [dnSet] at hdk
 have hdk' : dn k = false := by unfold dnSet at hdk; rwa [if_neg hki] at hdk
 rcases List.mem_append.1 ha with ha | ha
 ·exact h.left a ha k hk hdk'
 rw [List.mem_singleton.1 ha, Int.toNat_natCast]
 exact hnx k hk hki hdk'
theorem loop_sound {rec : SSt → Int × SSt} (hrec : ∀ s, Reach o l ab s.dn s.sts s.ord → (rec s).1 = 1 → allF l (rec s).2.dn = true ∧ Reach o l ab (rec s).2.dn (rec s).2.sts (rec s).2.ord) :
  ∀ (r : List Nat) (s : SSt), (∀ i ∈ r, i < l.length) → Reach o l ab s.dn s.sts s.ord → (loopF o l ab rec r s).1 = 1 → allF l (loopF o l ab rec r s).2.dn = true ∧ Reach o l ab (loopF o l ab rec r s).2.dn (loopF o l ab rec r s).2.sts (loopF o l ab rec r s).2.ord
 | [], s, _, _, h => absurd h (by simp [loopF])
 | i :: r, s, hr, hR, h => by
  have hr' : ∀ j ∈ r, j < l.length := fun j hj => hr j (by simp [hj])
  cases hx : nextF l ab s.dn i with
  | false =>
   rw [loopF_skip hx] at h ⊢
   exact loop_sound hrec r s hr' hR h
  | true =>
   cases hg0 : goF o l s.sts i with
   | none =>
    rw [loopF_no hx hg0] at h ⊢
    exact loop_sound hrec r s hr' hR h
   | some st1 =>
    by_cases hc2 : (rec (stepS l s i st1)).1 = 2
    ·rw [loopF_on hx hg0 hc2] at h ⊢
     exact loop_sound hrec r ⟨s.dn, s.sts, s.ord, (rec (stepS l s i st1)).2.ent⟩ hr' hR h
    rw [loopF_hit hx hg0 hc2] at h ⊢
    exact hrec (stepS l s i st1) (hR.step (hr i (by simp)) hx hg0) h
theorem enter_sound {bud : Nat} : ∀ (f : Nat) (s : SSt), Reach o l ab s.dn s.sts s.ord → (enterF o l ab bud f s).1 = 1 → allF l (enterF o l ab bud f s).2.dn = true ∧ Reach o l ab (enterF o l ab bud f s).2.dn (enterF o l ab bud f s).2.sts (enterF o l ab bud f s).2.ord
 | 0, s, _, h => absurd h (by simp [enterF])
 | f + 1, s, hR, h => by
  cases ha : allF l s.dn with
  | true => rw [enterF_all ha]; exact ⟨ha, hR⟩
  | false =>
   by_cases hk : keyF l.length s.dn s.sts ∈ s.ent
   ·rw [enterF_old ha hk] at h; exact absurd h (by simp)
   by_cases hb : s.ent.length = bud
   ·rw [enterF_over ha hk hb] at h; exact absurd h (by simp)
   rw [enterF_go ha hk hb] at h ⊢
   exact loop_sound (enter_sound f) _ (putE l s) (fun i hi => List.mem_range.1 hi) hR h
theorem verd_sound {bud : Nat} (h : (verdF o l ab bud).1 = 1) : allF l (verdF o l ab bud).2.dn = true ∧ Reach o l ab (verdF o l ab bud).2.dn (verdF o l ab bud).2.sts (verdF o l ab bud).2.ord := enter_sound _ _ Reach.start h
end
section
variable {o : Int} {l : List Op8} {ab : Op8 → Op8 → Bool}
end
theorem told_num {p k : Int} {l : List Int} (h : toldB p k l = true) : ∀ x ∈ l, -1000000 ≤ x ∧ x ≤ 1000000 := by
 unfold toldB inB at h
 simp at h
 exact h.1.1
theorem argsOk {o : Int} {l : List Op8} {bud : Int} (h : OkLin o l bud) : ArgsOk l := by
 refine ⟨h.key, fun i hi => ?_, fun i hi => ?_, fun i hi => ?_⟩
 ·have := told_num (h.2.2.2.2.1.2 i hi).1 (oAt l i).a (by simp)
  unfold i64B; omega
 ·have := told_num (h.2.2.2.2.1.2 i hi).1 (oAt l i).b (by simp)
  unfold i64B; omega
 obtain ⟨h1, _, h3⟩ := (h.2.2.2.2.1.2 i hi).2.2.1
 omega
section
variable {o : Int} {l : List Op8} {ab : Op8 → Op8 → Bool}
theorem loop_back {rec : SSt → Int × SSt} : ∀ (r : List Nat) (s : SSt), (loopF o l ab rec r s).1 = 2 → (loopF o l ab rec r s).2.dn = s.dn ∧ (loopF o l ab rec r s).2.sts = s.sts ∧ (loopF o l ab rec r s).2.ord = s.ord
 | [], s, _ => ⟨rfl, rfl, rfl⟩
 | i :: r, s, h => by
  unfold loopF at h ⊢
  split
  ·rename_i hx
   rw [hx] at h
   exact loop_back r s h
  rename_i hx
  rw [hx] at h
  simp only at h
  split
  ·rename_i hg
   rw [hg] at h
   exact loop_back r s h
  rename_i st' hg
  rw [hg] at h
  simp only at h
  by_cases h2 : (rec (stepS l s i st')).1 = 2
  ·rw [if_pos h2] at h ⊢
   exact loop_back r ⟨s.dn, s.sts, s.ord, (rec (stepS l s i st')).2.ent⟩ h
  rw [if_neg h2] at h
  exact absurd h h2
theorem enter_back {bud : Nat} : ∀ (f : Nat) (s : SSt), (enterF o l ab bud f s).1 = 2 → (enterF o l ab bud f s).2.dn = s.dn ∧ (enterF o l ab bud f s).2.sts = s.sts ∧ (enterF o l ab bud f s).2.ord = s.ord
 | 0, s, _ => ⟨rfl, rfl, rfl⟩
 | f + 1, s, h => by
  cases ha : allF l s.dn with
  | true => rw [enterF_all ha]; exact ⟨rfl, rfl, rfl⟩
  | false =>
   by_cases hk : keyF l.length s.dn s.sts ∈ s.ent
   ·rw [enterF_old ha hk]; exact ⟨rfl, rfl, rfl⟩
   by_cases hb : s.ent.length = bud
   ·rw [enterF_over ha hk hb]; exact ⟨rfl, rfl, rfl⟩
   rw [enterF_go ha hk hb] at h ⊢
   exact loop_back _ _ h
theorem enter_eq {f bud : Nat} {s : SSt} (h : (enterF o l ab bud f s).1 = 2) : (enterF o l ab bud f s).2 = ⟨s.dn, s.sts, s.ord, (enterF o l ab bud f s).2.ent⟩ := by
 obtain ⟨h1, h2, h3⟩ := enter_back f s h
 generalize (enterF o l ab bud f s).2 = t at h1 h2 h3 ⊢
 cases t
 subst h1 h2 h3
 rfl
end
structure Wider (l l' : List Op8) : Prop where
 len : l'.length = l.length
 same : ∀ i, i < l.length → (oAt l' i).key = (oAt l i).key ∧ (oAt l' i).kind = (oAt l i).kind ∧ (oAt l' i).a = (oAt l i).a ∧ (oAt l' i).b = (oAt l i).b ∧ (oAt l' i).res = (oAt l i).res
 sign : ∀ i, i < l.length → (0 ≤ (oAt l' i).ret ↔ 0 ≤ (oAt l i).ret)
 call : ∀ i, i < l.length → (oAt l' i).call = 3 * (oAt l i).call
 ret : ∀ i, i < l.length → 0 ≤ (oAt l i).ret → 3 * (oAt l i).ret ≤ (oAt l' i).ret
section
variable {o : Int} {l : List Op8} {ab : Op8 → Op8 → Bool}
end
open Go.RowKit
def srcC (o : Int) (A : Option Addr) (n c bud f db eb : Nat) (L : Loc) (sts : Nat → List Int) (A' : Option Addr) (m c' : Nat) : Array Value :=
 #[.int .i64 o, .slice A n c, .int .i64 (bud : Int), .func (.func f) #[] #[], .slice (some ⟨db, 0, none⟩) n n, .slice A' m c',
  .slice (L 0).1 (sts 0).length (L 0).2, .slice (L 1).1 (sts 1).length (L 1).2, .slice (L 2).1 (sts 2).length (L 2).2, .slice (L 3).1 (sts 3).length (L 3).2,
  .slice (L 4).1 (sts 4).length (L 4).2, .slice (L 5).1 (sts 5).length (L 5).2, .slice (L 6).1 (sts 6).length (L 6).2, .slice (L 7).1 (sts 7).length (L 7).2, .map (some eb)]
theorem lt8 {k : Nat} (h : k < 8) : k = 0 ∨ k = 1 ∨ k = 2 ∨ k = 3 ∨ k = 4 ∨ k = 5 ∨ k = 6 ∨ k = 7 := by omega
section
variable {o : Int} {A : Option Addr} {n c bud f db eb : Nat} {L : Loc} {sts : Nat → List Int} {A' : Option Addr} {m c' : Nat}
theorem srcC_st {k : Nat} (hk : k < 8) : (srcC o A n c bud f db eb L sts A' m c')[6 + k]? = some (.slice (L k).1 (sts k).length (L k).2) := by
 rcases lt8 hk with rfl | rfl | rfl | rfl | rfl | rfl | rfl | rfl <;> rfl
theorem srcC_stL {k : Nat} {u : Value} (hu : (stL L sts)[k]? = some u) : (srcC o A n c bud f db eb L sts A' m c')[6 + k]? = some u := by
 have hk : k < 8 := by have := (List.getElem?_eq_some_iff.1 hu).1; simpa [stL] using this
 rw [srcC_st hk]
 have := stL_get (L := L) (sts := sts) hk
 simp only [List.getElem?_toArray] at this
 rw [this] at hu
 exact hu
theorem srcC_set {k : Nat} (hk : k < 8) (A1 : Option Addr) (c1 : Nat) (st : List Int) : (srcC o A n c bud f db eb L sts A' m c').setIfInBounds (6 + k) (.slice A1 st.length c1) = srcC o A n c bud f db eb (updL L k A1 c1) (stSet sts k st) A' m c' := by
 rcases lt8 hk with rfl | rfl | rfl | rfl | rfl | rfl | rfl | rfl <;> rfl
end
theorem updL_back (L : Loc) (k : Nat) (A1 : Option Addr) (c1 : Nat) : updL (updL L k A1 c1) k (L k).1 (L k).2 = L := by
 funext j
 unfold updL
 by_cases h : j = k
 ·subst h; simp
 simp [h]
theorem stSet_back (sts : Nat → List Int) (k : Nat) (st : List Int) : stSet (stSet sts k st) k (sts k) = sts := by
 funext j
 unfold stSet
 by_cases h : j = k
 ·subst h; simp
 simp [h]
theorem dnSet_back {dn : Nat → Bool} {i : Nat} (h : dn i = false) : dnSet (dnSet dn i true) i false = dn := by
 funext j
 unfold dnSet
 by_cases hj : j = i
 ·subst hj; simp [h]
 simp [hj]
def prt (sb : Nat) (o : Int) (A : Option Addr) (n c bud f db eb : Nat) (L : Loc) (s : SSt) (A' : Option Addr) (c' : Nat) : List Ent :=
 [B sb 211 (srcC o A n c bud f db eb L s.sts A' s.ord.length c'), B db 4 (boolC n s.dn), StE A' c' s.ord, SetE eb s.ent]
section
variable {l0 l H : List Ent} {w0 w : World} {S : Nat → Prop} {size n : Nat} {v : Value} {xs : List Value}
theorem Rd.now (hI : Inv (DL l0) w0 w H) (h : Rd w0 (fun b => ¬ DL l0 b) size v n xs) (hs : 0 < size) : Rd w (fun b => ¬ DL H b) size v n xs := by
 obtain ⟨A, c, hv, h1, h2, h3, h4⟩ := h
 refine ⟨A, c, hv, h1, h2, h3, fun hn => ?_⟩
 obtain ⟨b, o, e, hb, hcell⟩ := h4 hn
 have hlen : 0 < xs.length := by rw [h3]; exact Nat.mul_pos hn hs
 have hlt := World.block_lt_of_cell? w0 _ (hcell 0 _ (List.getElem?_eq_getElem hlen))
 refine ⟨b, o, e, ?_, fun j u hu => hI.old (hcell j u hu) hb⟩
 rintro ⟨x, hx, hxb⟩
 rcases hI.own x hx b hxb with h5 | h5
 ·exact hb h5
 have hlt : b < w0.heap.size := hlt
 omega
theorem DL.mono (h : ∀ e ∈ l, e ∈ H) {b : Nat} (hb : ¬ DL H b) : ¬ DL l b := fun ⟨e, he, hk⟩ => hb ⟨e, h e he, hk⟩
theorem StE.rd {A : Option Addr} {c : Nat} {st : List Int} (hI : Inv S w0 w (StE A c st :: l)) : Rd w (fun b => ¬ DL l b) 1 (.slice A st.length c) st.length (i64s st) := by
 have hg : w.ownsRow 0 3 1 (.slice A st.length c) st.length (i64s st) := hI.g0
 refine Rd.of_own hg fun k hk _ => ?_
 rintro ⟨e, he, hke⟩
 rw [ownBlock_slice] at hk
 exact (List.pairwise_cons.1 hI.apart).1 e he k hk hke
theorem kn_now (hI : Inv (DL l0) w0 w H) (hk : KnOk w0) (h0 : ¬ DL l0 4) : KnOk w ∧ ¬ DL H 4 := by
 refine ⟨fun i hi => hI.old (hk i hi) h0, ?_⟩
 rintro ⟨x, hx, hxb⟩
 have hlt : 4 < w0.heap.size := World.block_lt_of_cell? w0 _ (hk 0 (by omega))
 rcases hI.own x hx _ hxb with h5 | h5
 ·exact h0 h5
 omega
def StOk (w : World) (l : List Ent) (L : Loc) (sts : Nat → List Int) : Prop := ∀ k, k < 8 → Rd w (fun b => ¬ DL l b) 1 (.slice (L k).1 (sts k).length (L k).2) (sts k).length (i64s (sts k))
theorem StOk.now {L : Loc} {sts : Nat → List Int} (h : StOk w0 l0 L sts) (hI : Inv (DL l0) w0 w H) : StOk w H L sts := fun k hk => Rd.now hI (h k hk) (by decide)
theorem StOk.mono {L : Loc} {sts : Nat → List Int} (h : StOk w H L sts) (hs : ∀ e ∈ l, e ∈ H) : StOk w l L sts := fun k hk => (h k hk).mono fun _ hb => DL.mono hs hb
theorem StOk.upd {L : Loc} {sts : Nat → List Int} {k : Nat} {A : Option Addr} {c : Nat} {st : List Int} (h : StOk w l L sts) (hs : Rd w (fun b => ¬ DL l b) 1 (.slice A st.length c) st.length (i64s st)) : StOk w l (updL L k A c) (stSet sts k st) := by
 intro j hj
 by_cases hjk : j = k
 ·subst hjk
  have e1 : updL L j A c j = (A, c) := by simp [updL]
  have e2 : stSet sts j st j = st := by simp [stSet]
  rw [e1, e2]
  exact hs
 have e1 : updL L k A c j = L j := by simp [updL, hjk]
 have e2 : stSet sts k st j = sts j := by simp [stSet, hjk]
 rw [e1, e2]
 exact h j hj
end
section
variable {P : Program} {ρ : Env} {oo : Oper} {w : World} {x y : Operand} {t kt et b : Nat} {ks : List (List Nat)} {a : List Nat}
theorem rLookST (h : a ∈ ks) (ho : oo.op = .lookup t x y true) (ht : P.underlying t = some (.map kt et)) (hk : P.underlying kt = some .string) (hz : (P.info? et).bind (·.zero) = some (.agg #[])) (hx : ev ρ x = .map (some b)) (hy : ev ρ y = .string (strB a)) (ha : ∀ c ∈ a, c < 256) (hM : SetIs w b ks) : Runs P ρ oo w (.tuple #[.agg #[], .bool true]) := by
 have := rLookS (P := P) ho ht hk hz hx hy ha hM
 rwa [decide_eq_true h] at this
theorem rLookSF (h : a ∉ ks) (ho : oo.op = .lookup t x y true) (ht : P.underlying t = some (.map kt et)) (hk : P.underlying kt = some .string) (hz : (P.info? et).bind (·.zero) = some (.agg #[])) (hx : ev ρ x = .map (some b)) (hy : ev ρ y = .string (strB a)) (ha : ∀ c ∈ a, c < 256) (hM : SetIs w b ks) : Runs P ρ oo w (.tuple #[.agg #[], .bool false]) := by
 have := rLookS (P := P) ho ht hk hz hx hy ha hM
 rwa [decide_eq_false h] at this
end
theorem srcC_st1 {o : Int} {A : Option Addr} {n c bud f db eb : Nat} {L : Loc} {sts : Nat → List Int} {A' : Option Addr} {m c' : Nat} {k : Nat} (hk : k < 8) : (srcC o A n c bud f db eb L sts A' m c')[6 + k * 1]? = some (.slice (L k).1 (sts k).length (L k).2) := by
 rw [Nat.mul_one]
 exact srcC_st hk
theorem boolC_dnSet {n : Nat} (f : Nat → Bool) (u : Nat) (b : Bool) : (boolC n f).setIfInBounds u (.bool b) = boolC n (dnSet f u b) := boolC_set f u b
def EntPost (o : Int) (sb db eb f : Nat) (A : Option Addr) (c : Nat) (l : List Op8) (ab : Op8 → Op8 → Bool) (bud : Nat) (fu : Nat) (s : SSt) (L : Loc) (l0 : List Ent) (w0 : World) (en : Ending) (w' : World) : Prop :=
 ∃ L' A'' c'', en = .returned (.int .i64 (enterF o l ab bud fu s).1) ∧ Inv (DL l0) w0 w' (prt sb o A l.length c bud f db eb L' (enterF o l ab bud fu s).2 A'' c'') ∧ ((enterF o l ab bud fu s).1 = 2 → L' = L)
theorem EntPost.same {o : Int} {sb db eb f : Nat} {A : Option Addr} {c : Nat} {l : List Op8} {ab : Op8 → Op8 → Bool} {bud : Nat} {fu : Nat} {s : SSt} {L : Loc} {l0 : List Ent} {w0 w' : World} {z : Int} {A' : Option Addr} {c' : Nat} (h : enterF o l ab bud fu s = (z, s)) (hI : Inv (DL l0) w0 w' (prt sb o A l.length c bud f db eb L s A' c')) : EntPost o sb db eb f A c l ab bud fu s L l0 w0 (.returned (.int .i64 z)) w' := by
 unfold EntPost
 rw [h]
 exact ⟨L, A', c', rfl, hI, fun _ => rfl⟩
theorem EntPost.mk {o : Int} {sb db eb f : Nat} {A : Option Addr} {c : Nat} {l : List Op8} {ab : Op8 → Op8 → Bool} {bud : Nat} {fu : Nat} {s s' : SSt} {L L' : Loc} {l0 : List Ent} {w0 w' : World} {z : Int} {A' : Option Addr} {c' : Nat} (h : enterF o l ab bud fu s = (z, s')) (hI : Inv (DL l0) w0 w' (prt sb o A l.length c bud f db eb L' s' A' c')) (hL : z = 2 → L' = L) : EntPost o sb db eb f A c l ab bud fu s L l0 w0 (.returned (.int .i64 z)) w' := by
 unfold EntPost
 rw [h]
 exact ⟨L', A', c', rfl, hI, hL⟩
theorem range_drop {n k : Nat} (h : k < n) : (List.range n).drop k = k :: (List.range n).drop (k + 1) := by
 rw [List.drop_eq_getElem_cons (by simpa using h)]
 simp
theorem allF_iff {l : List Op8} {dn : Nat → Bool} : allB l dn ↔ allF l dn = true := by
 unfold allB allF
 simp only [List.all_eq_true, List.mem_range, Bool.or_eq_true, Bool.not_eq_true', decide_eq_false_iff_not]
 refine ⟨fun h i hi => ?_, fun h i hi hr => ?_⟩
 ·by_cases h0 : 0 ≤ (oAt l i).ret
  ·exact .inr (h i hi h0)
  exact .inl h0
 rcases h i hi with h1 | h1
 ·exact absurd hr h1
 exact h1
theorem nextF_iff {l : List Op8} {ab : Op8 → Op8 → Bool} {dn : Nat → Bool} {i : Nat} : nextB l ab dn i ↔ nextF l ab dn i = true := by
 unfold nextB nextF
 simp only [List.all_eq_true, List.mem_range, Bool.and_eq_true, Bool.or_eq_true, Bool.not_eq_true', beq_iff_eq]
 refine ⟨fun h => ⟨h.1, fun k hk => ?_⟩, fun h => ⟨h.1, fun k hk hki hd => ?_⟩⟩
 ·by_cases hki : k = i
  ·exact .inl (.inl hki)
  cases hd : dn k with
  | true => exact .inl (.inr rfl)
  | false => exact .inr (h.2 k hk hki hd)
 rcases h.2 k hk with (h1 | h1) | h1
 ·exact absurd h1 hki
 ·rw [hd] at h1; cases h1
 exact h1
theorem bool_iff {b : Bool} {p : Prop} {c : Bool} (h : b = true ↔ p) (h2 : p ↔ c = true) : b = c := by
 have h := h.trans h2
 cases b <;> cases c <;> simp at h ⊢
theorem enter_any (o : Int) (sb db eb f : Nat) (A : Option Addr) (c : Nat) (l : List Op8) (ab : Op8 → Op8 → Bool) (bud : Nat) (hA : ArgsOk l) (hf : AheadC f ab) (h40 : l.length ≤ 40) (hbud : bud ≤ 1000000) :
  ∀ (fu : Nat) (s : SSt) (L : Loc) (A' : Option Addr) (c' : Nat) (w0 : World), undn l.length s.dn < fu → GoodS o l.length s.dn s.sts → s.ord.length + undn l.length s.dn ≤ 40 → s.ent.length ≤ bud →
   Inv (DL (prt sb o A l.length c bud f db eb L s A' c')) w0 w0 (prt sb o A l.length c bud f db eb L s A' c') →
   OpsR w0 (fun b => ¬ DL (prt sb o A l.length c bud f db eb L s A' c') b) (.slice A l.length c) l → KnOk w0 → ¬ DL (prt sb o A l.length c bud f db eb L s A' c') 4 → StOk w0 (prt sb o A l.length c bud f db eb L s A' c') L s.sts →
   Cq 93 #[.pointer (some ⟨sb, 0, none⟩)] w0 (EntPost o sb db eb f A c l ab bud fu s L (prt sb o A l.length c bud f db eb L s A' c') w0) := by
 intro fu
 induction fu with
 | zero => intro s L A' c' w0 h; omega
 | succ fu ih =>
 intro s L A' c' w0 hu hG hord hent hI hops hkn hkg hst
 obtain ⟨dn, sts, ord, ent⟩ := s
 have hI0 := hI
 generalize hl0 : prt sb o A l.length c bud f db eb L ⟨dn, sts, ord, ent⟩ A' c' = l0 at hops hkg hst ⊢
 replace hI : Inv (DL l0) w0 w0 [B sb 211 (srcC o A l.length c bud f db eb L sts A' ord.length c'), B db 4 (boolC l.length dn), StE A' c' ord, SetE eb ent] := by rw [hl0] at hI; rw [← hl0] at hI ⊢; exact hI
 have nops : ∀ {w : World} {H : List Ent}, Inv (DL l0) w0 w H → OpsR w (fun b => ¬ DL H b) (.slice A l.length c) l := fun hI => Rd.now hI hops (by decide)
 have nkn : ∀ {w : World} {H : List Ent}, Inv (DL l0) w0 w H → KnOk w := fun hI => (kn_now hI hkn hkg).1
 have hi64 := hG.i64
 have hol : ord.length ≤ 40 := by simp only at hord; omega
 have hlen : ∀ k, (sts k).length ≤ 41 := fun k => by
  have h1 := hG.len k
  have h2 := cnt_undn l.length dn
  simp only at h1
  omega
 refine Vn func93 rfl ?_
 refine Wq (Vc rfl (Wn ?_))
 cases hall : allF l dn with
 | true =>
  refine Ws (Wq (V9 rfl (Va [.pointer _] rfl func132 rfl ?_)))
  refine (sall_any sb A c l db dn _ _ (nops hI) (hI.c0 rfl) (hI.c0 rfl) hI.g1 (by omega)).mono ?_
  rintro e w1 ⟨⟨b, rfl, hb⟩, hp⟩
  obtain rfl : b = true := (bool_iff hb allF_iff).trans hall
  refine rV ?_
  have hI := hI.pure hp
  refine Wn (Wc true rfl (Wq (Vc rfl (Wn ?_))))
  exact WR (r1_ 2 rfl (EntPost.same (enterF_all hall) hI))
 | false =>
 refine Ws (Wq (V9 rfl (Va [.pointer _] rfl func132 rfl ?_)))
 refine (sall_any sb A c l db dn _ _ (nops hI) (hI.c0 rfl) (hI.c0 rfl) hI.g1 (by omega)).mono ?_
 rintro e w1 ⟨⟨b, rfl, hb⟩, hp⟩
 obtain rfl : b = false := (bool_iff hb allF_iff).trans hall
 refine rV ?_
 have hI := hI.pure hp
 refine Wn (Wc false rfl (Wk (Wq (V9 rfl (Va [.pointer _] rfl func133 rfl ?_)))))
 refine (skey_any sb A c l.length db dn L sts _ (hI.c0 rfl) (hI.c0 rfl) hI.g1 (fun j u hu => ((hI.g0 : Blk _ _ _ _).cell _).trans (srcC_stL hu)) (fun k hk => (hst.now hI k hk).mono fun _ _ => trivial) (by omega) hi64 (fun k => by have := hlen k; omega)).mono (okP hI fun w2 hp hI => ?_)
 refine T4 rfl (Wn ?_)
 have hky := keyF_small l.length dn sts
 generalize hkey : keyF l.length dn sts = ky at *
 by_cases hin : ky ∈ ent
 ·refine Ws (Wq (V9 rfl (Vb rfl (V7 14 rfl (V5 (.map _) rfl (hI.c0 rfl) (Vh rfl ?_))))))
  refine Wv rfl (rLookST (a := ky) hin rfl yy208 yy9 (by kernel_rfl) rfl rfl hky hI.g3) ?_
  refine Vz rfl (Vg rfl (Vg rfl (T1 (.agg #[]) #[] hI rfl ?_)))
  rintro b4 w - - hI
  refine T7 0 #[] (.agg _) hI rfl ?_
  intro w hI
  refine V8 rfl (Wn (Wq (V6 rfl (Wn (Wc true rfl (Wq (Vc rfl (Wn ?_))))))))
  exact WR (r1_ 2 rfl (EntPost.same (enterF_old hall (by rw [hkey]; exact hin)) hI.d0))
 refine Ws (Wq (V9 rfl (Vb rfl (V7 14 rfl (V5 (.map _) rfl (hI.c0 rfl) (Vh rfl ?_))))))
 refine Wv rfl (rLookSF (a := ky) hin rfl yy208 yy9 (by kernel_rfl) rfl rfl hky hI.g3) ?_
 refine Vz rfl (Vg rfl (Vg rfl (T1 (.agg #[]) #[] hI rfl ?_)))
 rintro b4 w - - hI
 refine T7 0 #[] (.agg _) hI rfl ?_
 intro w hI
 refine V8 rfl (Wn ?_)
 have hI := hI.d0
 refine Wq (V6 rfl (Wn (Wc false rfl (Wk ?_))))
 by_cases hfull : ent.length = bud
 ·refine Ws (Ws (Wd (by kernel_rfl) ?_))
  refine Wi (T := []) hI.drew ?_
  intro Sx hY hZ
  have hI := hI.drew
  refine Vl 0 rfl (Vm 1 rfl (Vf 2 14 rfl (Vd 3 (.map _) rfl (fun W hW => (hY W hW).c0 rfl) ?_)))
  refine Wt 4 rfl (fun W hW => have hI := hY W hW; (rLenSet rfl yy208 rfl hI.g3)) ?_
  refine Vl 5 rfl (Vm 6 rfl (Vf 7 2 rfl (Vd 8 (.int .i64 _) rfl (fun W hW => (hY W hW).c0 rfl) ?_)))
  refine Wt 9 rfl (fun W hW => have hI := hY W hW; (by exact rEqlT rfl rfl rfl (by omega))) ?_
  refine We (by kernel_rfl) (Wc true rfl (Wq (Vc rfl (Wn ?_))))
  exact WR (r1_ 2 rfl (EntPost.same (enterF_over hall (by rw [hkey]; exact hin) hfull) hI))
 refine Ws (Ws (Wd (by kernel_rfl) ?_))
 refine Wi (T := []) hI.drew ?_
 intro Sx hY hZ
 have hI := hI.drew
 refine Vl 0 rfl (Vm 1 rfl (Vf 2 14 rfl (Vd 3 (.map _) rfl (fun W hW => (hY W hW).c0 rfl) ?_)))
 refine Wt 4 rfl (fun W hW => have hI := hY W hW; (rLenSet rfl yy208 rfl hI.g3)) ?_
 refine Vl 5 rfl (Vm 6 rfl (Vf 7 2 rfl (Vd 8 (.int .i64 _) rfl (fun W hW => (hY W hW).c0 rfl) ?_)))
 refine Wt 9 rfl (fun W hW => have hI := hY W hW; (by exact rEqlF rfl rfl rfl (by omega))) ?_
 refine We (by kernel_rfl) (Wc false rfl (Wk (Wq (V9 rfl (Vb rfl (V7 14 rfl (V5 (.map _) rfl (hI.c0 rfl) (Vh rfl (Td [] [] rfl [] [] rfl (fun _ => by kernel_rfl) ?_)))))))))
 refine WL_setPut 3 rfl hI rfl rfl rfl yy208 yy9 rfl rfl rfl hky hin ?_
 intro w hI
 replace hI : Inv (DL l0) w0 w [B sb 211 (srcC o A l.length c bud f db eb L sts A' ord.length c'), B db 4 (boolC l.length dn), StE A' c' ord, SetE eb (ent ++ [ky])] := hI
 refine Wn ?_
 have hgo : enterF o l ab bud (fu + 1) ⟨dn, sts, ord, ent⟩ = loopF o l ab (enterF o l ab bud fu) ((List.range l.length).drop 0) ⟨dn, sts, ord, ent ++ [ky]⟩ := by
  rw [enterF_go hall (by rw [hkey]; exact hin) hfull]
  unfold putE
  rw [hkey]
  rfl
 have hent1 : (ent ++ [ky]).length ≤ bud := by simp; simp only at hent; omega
 refine Ws (Wq (V9 rfl (Vb rfl (V7 1 rfl (V5 (.slice _ _ _) rfl (hI.c0 rfl) (Vs rfl yy62 rfl (V0 rfl (Wn (Wb ?_)))))))))
 refine Wl (fun mu ρ w => ∃ (k : Nat) (en : List (List Nat)), mu = l.length - k ∧ k ≤ l.length ∧ en.length ≤ bud ∧ enterF o l ab bud (fu + 1) ⟨dn, sts, ord, ent⟩ = loopF o l ab (enterF o l ab bud fu) ((List.range l.length).drop k) ⟨dn, sts, ord, en⟩ ∧ (∃ A' c', Has ρ [(48, .int .i64 (k : Int)), (47, .int .i64 (l.length : Int)), (46, .slice A l.length c), (0, .pointer (some ⟨sb, 0, none⟩))] ∧ Inv (DL l0) w0 w [B sb 211 (srcC o A l.length c bud f db eb L sts A' ord.length c'), B db 4 (boolC l.length dn), StE A' c' ord, SetE eb en])) l.length
  ⟨0, _, rfl, by omega, hent1, hgo, _, _, ⟨rfl, rfl, rfl, rfl, trivial⟩, hI⟩ ?_
 clear hI hent1 hgo hl0
 rintro mu ρ w ⟨k, en, rfl, hk, hen, hgo, A', c', hH, hI⟩
 obtain ⟨σ, rfl⟩ := hH.open
 by_cases hkl : k < l.length
 rotate_left
 ·obtain rfl : k = l.length := by omega
  rw [List.drop_of_length_le (by simp)] at hgo
  refine Wq (Vr rfl (Wn (Ws (Wc false rfl ?_))))
  refine WE ?_
  refine Wq (Vc rfl (Wn ?_))
  exact WR (r1_ 2 rfl (EntPost.mk hgo hI (fun _ => rfl)))
 rw [range_drop hkl] at hgo
 obtain ⟨bA, oA, rfl, hoc⟩ := (nops hI).at hkl
 have hk8 : keyN l k < 8 := hA.keyN hkl
 have hk0 := (hA.key k hkl).1
 have hkz : (oAt l k).key = ((keyN l k : Nat) : Int) := by unfold keyN; omega
 have hgoF : goF o l sts k = match stepF o (sts (keyN l k)) (oAt l k).kind (oAt l k).a (oAt l k).b with
  | none => none
  | some (st', r) => if (oAt l k).ret ≠ -1 ∧ r ≠ (oAt l k).res then none else some st' := rfl
 generalize hkN : keyN l k = kN at hk8 hkz hgoF
 generalize hpk : oAt l k = pk at hoc hkz hgoF
 obtain ⟨p0, p1, p2, p3, p4, p5, p6, p7⟩ := pk
 simp only at hkz hgoF
 subst hkz
 refine Wq (Vt rfl (Wn (Ws (Wc true rfl (Wk (Ws (Wb (Wq (V0 rfl (Tt 8 rfl yy62 rfl (Uo 8 rfl (by rfl) hoc ?_)))))))))))
 refine T1 (.agg zI8) (zI8) hI rfl ?_
 rintro b7 w - - hI
 refine Vc rfl (T7 8 (#[_, _, _, _, _, _, _, _]) (.agg _) hI rfl ?_)
 intro w hI
 refine Wn ?_
 simp only [opV] at hI
 cases hnx : nextF l ab dn k with
 | false =>
  rw [loopF_skip hnx] at hgo
  refine Ws (Wq (V9 rfl (V0 rfl (Va [.pointer _, .int .i64 _] rfl func134 rfl ?_))))
  refine (snext_any sb _ c l db f ab dn k _ _ (nops hI) (hI.c1 rfl) (hI.c1 rfl) (hI.c1 rfl) hI.g2 (by omega) hkl hf).mono ?_
  rintro e w3 ⟨⟨b, rfl, hb⟩, hp⟩
  obtain rfl : b = false := (bool_iff hb nextF_iff).trans hnx
  refine rV ?_
  have hI := hI.pure hp
  refine Ti rfl (Wn (Wc true rfl ?_))
  refine WE ?_
  have hI := hI.d0
  refine Wr (Vv rfl (V0 rfl (Wn ?_)))
  exact ⟨l.length - (k + 1), by omega, k + 1, en, rfl, by omega, hen, hgo, A', c', ⟨rfl, rfl, rfl, rfl, trivial⟩, hI⟩
 | true =>
 refine Ws (Wq (V9 rfl (V0 rfl (Va [.pointer _, .int .i64 _] rfl func134 rfl ?_))))
 refine (snext_any sb _ c l db f ab dn k _ _ (nops hI) (hI.c1 rfl) (hI.c1 rfl) (hI.c1 rfl) hI.g2 (by omega) hkl hf).mono ?_
 rintro e w3 ⟨⟨b, rfl, hb⟩, hp⟩
 obtain rfl : b = true := (bool_iff hb nextF_iff).trans hnx
 refine rV ?_
 have hI := hI.pure hp
 refine T9 rfl (Wn (Wc false rfl (Wk (Ws (Wd (by kernel_rfl) ?_)))))
 refine Wi (T := []) hI.drew ?_
 intro Sx hY hZ
 have hI := hI.drew
 refine Vl 0 rfl (Vf 1 1 rfl (Vd 2 (.int .i64 _) rfl (fun W hW => (hY W hW).c0 rfl) (Vm 3 rfl (Vf 4 6 rfl ?_))))
 refine Wt 5 rfl (fun W hW => have hI := hY W hW; (rIdxArr (sz := 1) (i := kN) rfl underlying209 (by kernel_rfl) rfl rfl rfl hk8)) ?_
 refine Vd 6 (.slice _ _ _) rfl (fun W hW => have hI := hY W hW; ((hI.g1 : Blk _ _ _ _).cell _).trans (srcC_st1 hk8)) (Ur 7 rfl (We (by kernel_rfl) ?_))
 have hdk : dn k = false := next_dn hnx
 cases hstep : stepF o (sts kN) p2 p3 p4 with
 | none =>
  have hg0 : goF o l sts k = none := by rw [hgoF, hstep]
  rw [loopF_no hnx hg0] at hgo
  refine Ws (Wd (by kernel_rfl) ?_)
  refine Wi (T := []) hI.drew ?_
  intro Sx hY hZ
  have hI := hI.drew
  refine Vl 0 rfl (Vm 1 rfl (Vf 2 0 rfl (Vd 3 (.int .i64 _) rfl (fun W hW => (hY W hW).c1 rfl) (Ta 4 rfl (Vf 5 2 rfl (Vd 6 (.int .i64 _) rfl (fun W hW => (hY W hW).c0 rfl) (Vf 7 3 rfl (Vd 8 (.int .i64 _) rfl (fun W hW => (hY W hW).c0 rfl) (Vf 9 4 rfl (Vd 10 (.int .i64 _) rfl (fun W hW => (hY W hW).c0 rfl) (Vu 11 rfl ?_)))))))))))
  refine Va [.int .i64 _, .slice _ _ _, .int .i64 _, .int .i64 _, .int .i64 _] rfl func135 rfl ?_
  refine (step_any o _ _ (sts kN) p2 p3 p4 _ _ (hst.now hI kN hk8) (hG.ok kN) (by have := hlen kN; omega) (nkn hI)).mono ?_
  rintro e w3 hP
  unfold StepPost at hP
  rw [hstep] at hP
  obtain ⟨rfl, hp⟩ := hP
  refine rV ?_
  have hI := hI.pure hp
  refine Wn ⟨hZ _ hI, ?_⟩
  refine Un 12 rfl (Ts 13 rfl (Ts 14 rfl (Ts 15 rfl (Ur 16 rfl (Ty 17 rfl (Ub 18 rfl (We (by kernel_rfl) (Ws (Wq (V6 rfl (Ti rfl (V6 rfl ?_))))))))))))
  refine V4 rfl (V4 rfl (V4 rfl (V4 rfl (V4 rfl (V4 rfl (V4 rfl (V4 rfl (V4 rfl (Vk rfl (Wn (Wc true rfl ?_)))))))))))
  refine WE ?_
  have hI := hI.d0
  refine Wr (Vv rfl (V0 rfl (Wn ?_)))
  exact ⟨l.length - (k + 1), by omega, k + 1, en, rfl, by omega, hen, hgo, A', c', ⟨rfl, rfl, rfl, rfl, trivial⟩, hI⟩
 | some q =>
 obtain ⟨st', r⟩ := q
 refine Ws (Wd (by kernel_rfl) ?_)
 refine Wi (T := []) hI.drew ?_
 intro Sx hY hZ
 have hI := hI.drew
 refine Vl 0 rfl (Vm 1 rfl (Vf 2 0 rfl (Vd 3 (.int .i64 _) rfl (fun W hW => (hY W hW).c1 rfl) (Ta 4 rfl (Vf 5 2 rfl (Vd 6 (.int .i64 _) rfl (fun W hW => (hY W hW).c0 rfl) (Vf 7 3 rfl (Vd 8 (.int .i64 _) rfl (fun W hW => (hY W hW).c0 rfl) (Vf 9 4 rfl (Vd 10 (.int .i64 _) rfl (fun W hW => (hY W hW).c0 rfl) (Vu 11 rfl ?_)))))))))))
 refine Va [.int .i64 _, .slice _ _ _, .int .i64 _, .int .i64 _, .int .i64 _] rfl func135 rfl ?_
 refine (step_any o _ _ (sts kN) p2 p3 p4 _ _ (hst.now hI kN hk8) (hG.ok kN) (by have := hlen kN; omega) (nkn hI)).mono ?_
 rintro e w3 hP
 unfold StepPost at hP
 rw [hstep] at hP
 obtain ⟨A1, c1, rfl, hT⟩ := hP
 refine rV ?_
 have hI := hI.app1 hT
 refine Wn ⟨hZ _ hI.d0, ?_⟩
 refine Un 12 rfl (Ts 13 rfl (Ts 14 rfl (Ts 15 rfl (Ur 16 rfl (Ty 17 rfl (Ub 18 rfl (We (by kernel_rfl) ?_)))))))
 by_cases hret : p7 ≠ -1 ∧ r ≠ p5
 ·have hg0 : goF o l sts k = none := by rw [hgoF, hstep]; exact if_pos hret
  rw [loopF_no hnx hg0] at hgo
  obtain ⟨hr1, hr2⟩ := hret
  refine Ws (Wq (V6 rfl (T9 rfl (V6 rfl (V7 7 rfl (V5 (.int .i64 _) rfl (hI.c1 rfl) (U1 rfl (V6 rfl (V0 rfl (V7 5 rfl (V5 (.int .i64 _) rfl (hI.c1 rfl) (U1 rfl ?_))))))))))))
  refine Vk rfl (Ve rfl (Wn (Wc true rfl ?_)))
  refine WE ?_
  have hI := hI.d0.d0
  refine Wr (Vv rfl (V0 rfl (Wn ?_)))
  exact ⟨l.length - (k + 1), by omega, k + 1, en, rfl, by omega, hen, hgo, A', c', ⟨rfl, rfl, rfl, rfl, trivial⟩, hI⟩
 have hg1 : goF o l sts k = some st' := by rw [hgoF, hstep]; exact if_neg hret
 refine Wx (fun ρ w => Has ρ [(48, .int .i64 (k : Int)), (47, .int .i64 (l.length : Int)), (46, .slice (some ⟨bA, oA, none⟩) l.length c), (0, .pointer (some ⟨sb, 0, none⟩)), (6, .int .i64 (k : Int)), (7, .pointer (some ⟨b7, 0, none⟩)), (8, .slice (L kN).1 (sts kN).length (L kN).2), (9, .slice A1 st'.length c1)] ∧ Inv (DL l0) w0 w [StE A1 c1 st', B b7 120 #[.int .i64 p0, .int .i64 (kN : Int), .int .i64 p2, .int .i64 p3, .int .i64 p4, .int .i64 p5, .int .i64 p6, .int .i64 p7], B sb 211 (srcC o (some ⟨bA, oA, none⟩) l.length c bud f db eb L sts A' ord.length c'), B db 4 (boolC l.length dn), StE A' c' ord, SetE eb en]) ?_ ?_
 ·by_cases h7 : p7 = -1
  ·refine Wq (V6 rfl (T9 rfl (V6 rfl (V7 7 rfl (V5 (.int .i64 _) rfl (hI.c1 rfl) (U2 rfl (V6 rfl (V4 rfl (V4 rfl (V4 rfl (V4 rfl (Ve rfl ?_))))))))))))
   refine Ve rfl (Wn (Wc false rfl (Wk ?_)))
   exact ⟨⟨rfl, rfl, rfl, rfl, rfl, rfl, rfl, rfl, trivial⟩, hI⟩
  have h5 : r = p5 := by
   rcases Classical.em (r = p5) with h | h
   ·exact h
   exact absurd ⟨h7, h⟩ hret
  refine Wq (V6 rfl (T9 rfl (V6 rfl (V7 7 rfl (V5 (.int .i64 _) rfl (hI.c1 rfl) (U1 rfl (V6 rfl (V0 rfl (V7 5 rfl (V5 (.int .i64 _) rfl (hI.c1 rfl) (U2 rfl (Vk rfl ?_))))))))))))
  refine Ve rfl (Wn (Wc false rfl (Wk ?_)))
  exact ⟨⟨rfl, rfl, rfl, rfl, rfl, rfl, rfl, rfl, trivial⟩, hI⟩
 clear hI
 rintro ρ w ⟨hH, hI⟩
 obtain ⟨σ, rfl⟩ := hH.open
 refine Wx (fun ρ w => Has ρ [(48, .int .i64 (k : Int)), (47, .int .i64 (l.length : Int)), (46, .slice (some ⟨bA, oA, none⟩) l.length c), (0, .pointer (some ⟨sb, 0, none⟩)), (6, .int .i64 (k : Int)), (7, .pointer (some ⟨b7, 0, none⟩)), (8, .slice (L kN).1 (sts kN).length (L kN).2)] ∧ Inv (DL l0) w0 w [StE A1 c1 st', B b7 120 #[.int .i64 p0, .int .i64 (kN : Int), .int .i64 p2, .int .i64 p3, .int .i64 p4, .int .i64 p5, .int .i64 p6, .int .i64 p7], B sb 211 (srcC o (some ⟨bA, oA, none⟩) l.length c bud f db eb (updL L kN A1 c1) (stSet sts kN st') A' ord.length c'), B db 4 (boolC l.length (dnSet dn k true)), StE A' c' ord, SetE eb en]) ?_ ?_
 ·refine Wd (by kernel_rfl) ?_
  refine Wi (T := [14]) hI.d3.drew ?_
  intro Sx hY hZ
  have hI := hI.drew
  refine Vl 0 rfl (Vm 1 rfl (Vf 2 4 rfl (Vd 3 (.slice _ _ _) rfl (fun W hW => (hY W hW).c2 rfl) (Vx 4 rfl (Vl 5 rfl (Vf 6 1 rfl (Vd 7 (.int .i64 _) rfl (fun W hW => (hY W hW).c1 rfl) (Ta 8 rfl (Uc 9 rfl yy113 rfl (Vm 11 rfl (Vf 12 6 rfl (Vu 10 rfl ?_))))))))))))
  refine WL_st 3 rfl (u := .bool true) (j := k) hI rfl rfl rfl rfl rfl rfl (by kernel_rfl) rfl (by simp [Nat.blt, boolC]; omega) rfl ?_
  intro w hI
  simp only [List.set_cons_succ, List.set_cons_zero] at hI
  rw [boolC_dnSet] at hI
  refine Wn ⟨hZ _ hI.d3, ?_⟩
  refine Wt 13 rfl (fun W hW => have hI := hY W hW; (rIdxArr (sz := 1) (i := kN) rfl underlying209 (by kernel_rfl) rfl rfl rfl hk8)) ?_
  refine WT_A (by kernel_rfl) ?_
  clear hZ hY
  refine T2 14 rfl ?_
  refine WL_st 2 rfl (u := .slice A1 st'.length c1) (j := 6 + kN * 1) hI rfl rfl rfl rfl rfl rfl (by kernel_rfl) rfl (by simp [Nat.blt, srcC]; omega) rfl ?_
  intro w hI
  simp only [List.set_cons_succ, List.set_cons_zero] at hI
  rw [Nat.mul_one, srcC_set hk8] at hI
  refine Wn ?_
  refine WA_end (by kernel_rfl) ?_
  exact ⟨⟨rfl, rfl, rfl, rfl, rfl, rfl, rfl, trivial⟩, hI⟩
 clear hI
 rintro ρ w ⟨hH, hI⟩
 obtain ⟨σ, rfl⟩ := hH.open
 refine Wq (V9 rfl (V9 rfl (Vb rfl (V7 5 rfl (V5 (.slice _ _ _) rfl (hI.c2 rfl) (V0 rfl (T3 [(0, .int .i64 _)] [_] [.int .i64 0] [0] hI rfl yy26 (fun _ => by kernel_rfl) ?_)))))))
 rintro b112 w - - hI
 refine WL_app5 (z := .int .i64 0) (by_ := 8) hI rfl rfl rfl rfl rfl rfl yy26 (by kernel_rfl) rfl (by omega) (by rfl) hI.lit0 (by rfl) (by omega) (by omega) (by exact Nat.zero_le _) ?_
 rintro A113 c113 w hA113 hc113 hI
 have hI := hI.d0
 refine Vb rfl (V7 5 rfl ?_)
 refine WL_st2 (u := .slice _ _ _) hI rfl rfl rfl rfl rfl rfl (by kernel_rfl) rfl rfl rfl ?_
 intro w hI
 refine Wn ?_
 replace hI : Inv (DL l0) w0 w [StE A1 c1 st', B b7 120 #[.int .i64 p0, .int .i64 (kN : Int), .int .i64 p2, .int .i64 p3, .int .i64 p4, .int .i64 p5, .int .i64 p6, .int .i64 p7], B sb 211 (srcC o (some ⟨bA, oA, none⟩) l.length c bud f db eb (updL L kN A1 c1) (stSet sts kN st') A113 (ord.length + 1) c113), B db 4 (boolC l.length (dnSet dn k true)), Row 0 3 1 A113 (ord.length + 1) c113 (i64s ord ++ [.int .i64 (k : Int)]), SetE eb en] := hI
 replace hI : Inv (DL l0) w0 w [StE A1 c1 st', B b7 120 #[.int .i64 p0, .int .i64 (kN : Int), .int .i64 p2, .int .i64 p3, .int .i64 p4, .int .i64 p5, .int .i64 p6, .int .i64 p7], B sb 211 (srcC o (some ⟨bA, oA, none⟩) l.length c bud f db eb (updL L kN A1 c1) (stSet sts kN st') A113 (ord ++ [(k : Int)]).length c113), B db 4 (boolC l.length (dnSet dn k true)), StE A113 c113 (ord ++ [(k : Int)]), SetE eb en] := by
  unfold StE
  rw [i64s_app, List.length_append, List.length_singleton]
  exact hI
 have hu1 := undn_set hkl hdk
 have hG1 := hG.step hA hkl hdk hg1
 rw [hkN] at hG1
 have hs1 : stepS l ⟨dn, sts, ord, en⟩ k st' = ⟨dnSet dn k true, stSet sts kN st', ord ++ [(k : Int)], en⟩ := by unfold stepS; rw [hkN]
 have hst1 := StE.rd hI
 obtain ⟨hk1, hk2⟩ := kn_now hI hkn hkg
 have ho1 := nops hI
 have hst0 := (hst.now hI)
 have hsub : ∀ e ∈ prt sb o (some ⟨bA, oA, none⟩) l.length c bud f db eb (updL L kN A1 c1) ⟨dnSet dn k true, stSet sts kN st', ord ++ [(k : Int)], en⟩ A113 c113, e ∈ [StE A1 c1 st', B b7 120 #[.int .i64 p0, .int .i64 (kN : Int), .int .i64 p2, .int .i64 p3, .int .i64 p4, .int .i64 p5, .int .i64 p6, .int .i64 p7], B sb 211 (srcC o (some ⟨bA, oA, none⟩) l.length c bud f db eb (updL L kN A1 c1) (stSet sts kN st') A113 (ord ++ [(k : Int)]).length c113), B db 4 (boolC l.length (dnSet dn k true)), StE A113 c113 (ord ++ [(k : Int)]), SetE eb en] := fun e he => List.mem_cons_of_mem _ (List.mem_cons_of_mem _ he)
 replace hI : Inv (DL l0) w0 w (prt sb o (some ⟨bA, oA, none⟩) l.length c bud f db eb (updL L kN A1 c1) ⟨dnSet dn k true, stSet sts kN st', ord ++ [(k : Int)], en⟩ A113 c113 ++ [StE A1 c1 st', B b7 120 #[.int .i64 p0, .int .i64 (kN : Int), .int .i64 p2, .int .i64 p3, .int .i64 p4, .int .i64 p5, .int .i64 p6, .int .i64 p7]]) := hI.perm (List.perm_append_comm (l₁ := [_, _]))
 have hcall := ih ⟨dnSet dn k true, stSet sts kN st', ord ++ [(k : Int)], en⟩ (updL L kN A1 c1) A113 c113 w (by simp only; simp only at hu; omega) hG1 (by simp only [List.length_append, List.length_singleton]; simp only at hord; omega) hen hI.from (Rd.mono ho1 fun _ hb => DL.mono hsub hb) hk1 (DL.mono hsub hk2) ((hst0.mono hsub).upd (hst1.mono fun _ hb => DL.mono (fun e he => List.mem_cons_of_mem _ he) hb))
 by_cases hcode : (enterF o l ab bud fu ⟨dnSet dn k true, stSet sts kN st', ord ++ [(k : Int)], en⟩).1 = 2
 rotate_left
 ·rw [loopF_hit hnx hg1 (by rw [hs1]; exact hcode), hs1] at hgo
  refine Ws (Wq (V9 rfl (Va [.pointer _] rfl func93 rfl ?_)))
  refine hcall.mono ?_
  generalize hR : enterF o l ab bud fu ⟨dnSet dn k true, stSet sts kN st', ord ++ [(k : Int)], en⟩ = R at hcode hgo
  rintro e w4 ⟨L', A2, c2, rfl, hT, hLL⟩
  rw [hR] at hT hLL ⊢
  obtain ⟨z, s'⟩ := R
  simp only at hcode hT hLL
  refine rV ?_
  have hI := hI.turnL hT
  refine Vc rfl (Wn (Wq (V0 rfl (U1 rfl (Wn (Wc true rfl (Wq (V0 rfl (Vc rfl (Wn ?_))))))))))
  exact WR (r1_ 2 rfl (EntPost.mk hgo hI.d4.d4 (fun e => absurd e hcode)))
 rw [loopF_on hnx hg1 (by rw [hs1]; exact hcode), hs1] at hgo
 have heq := enter_eq hcode
 have hen2 : (enterF o l ab bud fu ⟨dnSet dn k true, stSet sts kN st', ord ++ [(k : Int)], en⟩).2.ent.length ≤ bud := enter_len fu _ hen
 refine Ws (Wq (V9 rfl (Va [.pointer _] rfl func93 rfl ?_)))
 refine hcall.mono ?_
 rintro e w4 ⟨L', A2, c2, rfl, hT, hLL⟩
 obtain rfl := hLL hcode
 rw [heq] at hT
 rw [hcode]
 refine rV ?_
 have hI := hI.turnL hT
 refine Vc rfl (Wn ?_)
 clear hcall heq ih
 generalize (enterF o l ab bud fu ⟨dnSet dn k true, stSet sts kN st', ord ++ [(k : Int)], en⟩).2.ent = en2 at hI hen2 hgo
 replace hI : Inv (DL l0) w0 w4 [B sb 211 (srcC o (some ⟨bA, oA, none⟩) l.length c bud f db eb (updL L kN A1 c1) (stSet sts kN st') A2 (ord ++ [(k : Int)]).length c2), B db 4 (boolC l.length (dnSet dn k true)), StE A2 c2 (ord ++ [(k : Int)]), SetE eb en2, StE A1 c1 st', B b7 120 #[.int .i64 p0, .int .i64 (kN : Int), .int .i64 p2, .int .i64 p3, .int .i64 p4, .int .i64 p5, .int .i64 p6, .int .i64 p7]] := hI
 refine Wq (V0 rfl (U2 rfl (Wn (Wc false rfl (Wk ?_)))))
 refine Wx (fun ρ w => Has ρ [(48, .int .i64 (k : Int)), (47, .int .i64 (l.length : Int)), (46, .slice (some ⟨bA, oA, none⟩) l.length c), (0, .pointer (some ⟨sb, 0, none⟩))] ∧ Inv (DL l0) w0 w [B sb 211 (srcC o (some ⟨bA, oA, none⟩) l.length c bud f db eb L sts A2 (ord ++ [(k : Int)]).length c2), B db 4 (boolC l.length dn), StE A2 c2 (ord ++ [(k : Int)]), SetE eb en2, StE A1 c1 st', B b7 120 #[.int .i64 p0, .int .i64 (kN : Int), .int .i64 p2, .int .i64 p3, .int .i64 p4, .int .i64 p5, .int .i64 p6, .int .i64 p7]]) ?_ ?_
 ·refine Wd (by kernel_rfl) ?_
  refine Wi (T := [14]) hI.d1.drew ?_
  intro Sx hY hZ
  have hI := hI.drew
  refine Vl 0 rfl (Vm 1 rfl (Vf 2 4 rfl (Vd 3 (.slice _ _ _) rfl (fun W hW => (hY W hW).c0 rfl) (Vx 4 rfl (Vl 5 rfl (Vf 6 1 rfl (Vd 7 (.int .i64 _) rfl (fun W hW => (hY W hW).c4 rfl) (Ta 8 rfl (Uc 9 rfl yy113 rfl (Vm 11 rfl (Vf 12 6 rfl (Vu 10 rfl ?_))))))))))))
  refine WL_st 1 rfl (u := .bool false) (j := k) hI rfl rfl rfl rfl rfl rfl (by kernel_rfl) rfl (by simp [Nat.blt, boolC]; omega) rfl ?_
  intro w hI
  simp only [List.set_cons_succ, List.set_cons_zero] at hI
  rw [boolC_dnSet, dnSet_back hdk] at hI
  refine Wn ⟨hZ _ hI.d1, ?_⟩
  refine Wt 13 rfl (fun W hW => have hI := hY W hW; (rIdxArr (sz := 1) (i := kN) rfl underlying209 (by kernel_rfl) rfl rfl rfl hk8)) ?_
  refine WT_A (by kernel_rfl) ?_
  clear hZ hY
  refine T2 14 rfl ?_
  refine WL_st 0 rfl (u := .slice (L kN).1 (sts kN).length (L kN).2) (j := 6 + kN * 1) hI rfl rfl rfl rfl rfl rfl (by kernel_rfl) rfl (by simp [Nat.blt, srcC]; omega) rfl ?_
  intro w hI
  simp only [List.set_cons_succ, List.set_cons_zero] at hI
  rw [Nat.mul_one, srcC_set hk8, updL_back, stSet_back] at hI
  refine Wn ?_
  refine WA_end (by kernel_rfl) ?_
  exact ⟨⟨rfl, rfl, rfl, rfl, trivial⟩, hI⟩
 clear hI
 rintro ρ w ⟨hH, hI⟩
 obtain ⟨σ, rfl⟩ := hH.open
 have hrow : w.ownsRow 0 3 1 (.slice A2 (ord ++ [(k : Int)]).length c2) (ord ++ [(k : Int)]).length (i64s (ord ++ [(k : Int)])) := hI.g2
 have hl1 : (ord ++ [(k : Int)]).length = ord.length + 1 := by simp
 obtain ⟨g, og, rfl⟩ := row_addrS hrow (by omega) (by omega)
 have hcap : (ord ++ [(k : Int)]).length ≤ c2 ∧ c2 ≤ 9223372036854775807 := by
  rcases row_open hrow with ⟨hA, _⟩ | ⟨_, _, _, _, h1, h2, _⟩
  ·cases hA
  exact ⟨h1, h2⟩
 refine Wd (by kernel_rfl) ?_
 refine Wi (T := [14]) hI.drew ?_
 intro Sx hY hZ
 have hI := hI.drew
 refine Vl 0 rfl (Vl 1 rfl (Vm 2 rfl (Vf 3 5 rfl (Vd 4 (.slice _ _ _) rfl (fun W hW => (hY W hW).c0 rfl) (Vl 5 rfl (Vm 6 rfl (Vf 7 5 rfl (Vd 8 (.slice _ _ _) rfl (fun W hW => (hY W hW).c0 rfl) (Ui 9 rfl yy26 rfl ?_)))))))))
 refine Wt 10 rfl (fun W hW => have hI := hY W hW; (rDecN (b := 1) rfl rfl rfl (by omega) (by omega))) ?_
 refine Wt 11 rfl (fun W hW => have hI := hY W hW; (rSliceTo (sz := 1) (i := (ord ++ [(k : Int)]).length - 1) rfl yy26 (by kernel_rfl) rfl rfl (by omega))) ?_
 refine Vm 12 rfl (Vf 13 5 rfl ?_)
 refine WT_A (by kernel_rfl) ?_
 clear hZ hY
 refine T2 14 rfl ?_
 refine Ue (.slice _ _ _) hI rfl ?_
 intro w hI
 refine Wn ?_
 refine WA_end (by kernel_rfl) ?_
 replace hI : Inv (DL l0) w0 w [B sb 211 (srcC o (some ⟨bA, oA, none⟩) l.length c bud f db eb L sts (some ⟨g, og, none⟩) ((ord ++ [(k : Int)]).length - 1) c2), B db 4 (boolC l.length dn), StE (some ⟨g, og, none⟩) c2 (ord ++ [(k : Int)]), SetE eb en2, StE A1 c1 st', B b7 120 #[.int .i64 p0, .int .i64 (kN : Int), .int .i64 p2, .int .i64 p3, .int .i64 p4, .int .i64 p5, .int .i64 p6, .int .i64 p7]] := hI
 replace hI := (hI.u2 (e' := StE (some ⟨g, og, none⟩) c2 ((ord ++ [(k : Int)]).take ((ord ++ [(k : Int)]).length - 1))) (Chg.refl _ _) (Row_part (hI.ok _ (by simp)) _ (by omega)) (fun k hk => .inl hk)).d4.d4
 rw [hl1, Nat.add_sub_cancel, List.take_left] at hI
 refine Wr (Vv rfl (V0 rfl (Wn ?_)))
 exact ⟨l.length - (k + 1), by omega, k + 1, en2, rfl, by omega, hen2, hgo, _, _, ⟨rfl, rfl, rfl, rfl, trivial⟩, hI⟩
def CellE (g j : Nat) (v : Value) : Ent := ⟨fun k => k = g, fun w => w.cell? ⟨g, j, none⟩ = some v⟩
theorem CellE.ok {w : World} {g j : Nat} {v : Value} (h : w.cell? ⟨g, j, none⟩ = some v) : (CellE g j v).ok w := by
 refine Ent.mk_ok h (fun k hk => ?_) (fun S w1 w2 hc hS h1 => ?_)
 ·have : k = g := hk
  subst this
  exact World.block_lt_of_cell? w _ h
 exact (World.cell?_of_block (hc.block g (World.block_lt_of_cell? w1 _ h1) (hS g rfl))).trans h1
section
variable {S : Nat → Prop} {w0 w : World} {H : List Ent}
theorem Inv.cellE {g t j : Nat} {cs : Array Value} {v : Value} (h : Inv S w0 w (B g t cs :: H)) (hc : cs[j]? = some v) : Inv S w0 w [CellE g j v] :=
 ⟨h.chg, fun e he => by rw [List.mem_singleton.1 he]; exact CellE.ok (h.c0 hc), fun e he k hk => by rw [List.mem_singleton.1 he] at hk; exact h.own (B g t cs) (by simp) k hk, List.pairwise_singleton ..⟩
theorem Inv.mapE {o : Int} {A : Option Addr} {n c bud f db eb sb : Nat} {L : Loc} {sts : Nat → List Int} {A' : Option Addr} {m c' : Nat} (h : Inv S w0 w (B sb 211 (srcC o A n c bud f db eb L sts A' m c') :: H)) : Inv S w0 w [CellE sb 14 (.map (some eb))] := h.cellE rfl
theorem Inv.all0 (h : Inv NF w0 w H) {size n : Nat} {v : Value} {xs : List Value} {D : Nat → Prop} (hr : Rd w0 D size v n xs) (hs : 0 < size) : Rd w (fun b => ¬ DL H b) size v n xs := by
 have h' : Inv (DL []) w0 w H := ⟨h.chg.mono (fun _ _ hk => hk.elim), h.ok, fun e he k hk => (h.own e he k hk).imp (fun hh => hh.elim) id, h.apart⟩
 exact Rd.now h' (hr.mono fun _ _ => fun ⟨e, he, _⟩ => by cases he) hs
theorem Inv.kn0 (h : Inv NF w0 w H) (hk : KnOk w0) : KnOk w ∧ ¬ DL H 4 := by
 have h' : Inv (DL []) w0 w H := ⟨h.chg.mono (fun _ _ hk => hk.elim), h.ok, fun e he k hk => (h.own e he k hk).imp (fun hh => hh.elim) id, h.apart⟩
 exact kn_now h' hk (fun ⟨e, he, _⟩ => by cases he)
theorem Many.rd {n i : Nat} {es : Nat → Ent} {l : List Ent} {A : Option Addr} {c : Nat} {st : List Int} (hI : Inv S w0 w (Many n es :: l)) (hi : i < n) (he : es i = StE A c st) : Rd w (fun b => ¬ DL l b) 1 (.slice A st.length c) st.length (i64s st) := by
 have hg : (es i).Φ w := hI.many_at hi
 rw [he] at hg
 have hg : w.ownsRow 0 3 1 (.slice A st.length c) st.length (i64s st) := hg
 refine Rd.of_own hg fun k hk _ => ?_
 rintro ⟨e, hel, hke⟩
 rw [ownBlock_slice] at hk
 exact (List.pairwise_cons.1 hI.apart).1 e hel k ⟨i, hi, by rw [he]; exact hk⟩ hke
end
def stK (o : Int) (k : Nat) : Nat → List Int := fun j => if j < k then startF o else []
def locK (L : Loc) (k : Nat) : Loc := fun j => if j < k then L j else (none, 0)
def ordF (r : Int × SSt) : List Int := if r.1 = 1 then r.2.ord else []
def VerdPost (o : Int) (l : List Op8) (ab : Op8 → Op8 → Bool) (bud : Int) (w0 : World) (en : Ending) (w' : World) : Prop :=
 (OkLin o l bud ∧ ∃ A' c', en = .returned (.tuple #[.agg #[.int .i64 (verdF o l ab bud.toNat).1, .slice A' (ordF (verdF o l ab bud.toNat)).length c', .int .i64 ((verdF o l ab bud.toNat).2.ent.length : Int)], .nilIface]) ∧ Inv NF w0 w' [StE A' c' (ordF (verdF o l ab bud.toNat))]) ∨
 (¬ OkLin o l bud ∧ (∃ x, IsErr x ∧ en = .returned (.tuple #[.agg #[.int .i64 0, .slice none 0 0, .int .i64 0], x])) ∧ Pure w0 w')
theorem stK_succ (o : Int) (k : Nat) : stSet (stK o k) k (startF o) = stK o (k + 1) := by
 funext j
 unfold stSet stK
 by_cases h : j = k
 ·subst h; simp
 rw [if_neg h]
 by_cases h2 : j < k
 ·rw [if_pos h2, if_pos (by omega)]
 rw [if_neg h2, if_neg (by omega)]
theorem locK_succ (L : Loc) (k : Nat) (A1 : Option Addr) (c1 : Nat) : updL (locK L k) k A1 c1 = locK (updL L k A1 c1) (k + 1) := by
 funext j
 unfold updL locK
 by_cases h : j = k
 ·subst h; simp
 rw [if_neg h]
 by_cases h2 : j < k
 ·rw [if_pos h2, if_pos (by omega)]; simp [h]
 rw [if_neg h2, if_neg (by omega)]
theorem verdict_any (o : Int) (A : Option Addr) (n c : Nat) (l : List Op8) (bud : Int) (f : Nat) (ab : Op8 → Op8 → Bool) (D : Nat → Prop) (w0 : World) (h : OpsR w0 D (.slice A n c) l) (hk : KnOk w0) (hf : AheadC f ab) :
  Cq 47 #[.int .i64 o, .slice A n c, .int .i64 bud, .func (.func f) #[] #[]] w0 (VerdPost o l ab bud w0) := by
 obtain ⟨hn, hc1, hc2⟩ := h.len
 subst hn
 have hI := Inv.start (fun _ => False) w0
 refine Vn func47 rfl ?_
 refine Wq (T1 (.agg #[.int .i64 0, .slice none 0 0, .int .i64 0]) (#[.int .i64 0, .slice none 0 0, .int .i64 0]) hI rfl ?_)
 rintro b8 w - - hI
 refine Vj rfl (Wn ?_)
 by_cases hok : OkLin o l bud
 rotate_left
 ·refine Ws (Wq (V0 rfl (Vi rfl (V0 rfl (Va [.int .i64 _, .slice _ _ _, .int .i64 _] rfl func91 rfl ?_)))))
  refine (lcheck_any o A l.length c l bud D _ (h.pure hI.pu) (hk.pure hI.pu)).mono ?_
  rintro e w1 ⟨hp, ⟨h1, _⟩ | ⟨_, x, hx, rfl⟩⟩
  ·exact absurd h1 hok
  refine rV ?_
  obtain ⟨z, rfl⟩ := hx
  have hI := hI.pure hp
  refine Vp rfl (Wn (Wq (Vy rfl (Tl rfl yy34 rfl (Wn (Wc true rfl (Wq (Td [] [_, _, _] rfl [.int .i64 0, .slice none 0 0, .int .i64 0] [] rfl (fun _ => by kernel_rfl) (Vy rfl (T7 3 (#[_, _, _]) (.agg _) hI rfl ?_))))))))))
  intro w hI
  refine Vp rfl (Wn ?_)
  refine WR ?_
  refine Um 30 3 (.inr rfl) rfl hI.g0 ?_
  exact .inr ⟨hok, ⟨_, ⟨z, rfl⟩, rfl⟩, hI.pu⟩
 have hA := argsOk hok
 obtain ⟨hb0, hb1⟩ : 0 ≤ bud ∧ bud ≤ 1000000 := ⟨hok.2.2.1, hok.2.2.2.1⟩
 have h40 : l.length ≤ 40 := hok.2.2.2.2.1.1
 obtain ⟨bn, rfl⟩ : ∃ bn : Nat, bud = (bn : Int) := ⟨bud.toNat, by omega⟩
 refine Ws (Wq (V0 rfl (Vi rfl (V0 rfl (Va [.int .i64 _, .slice _ _ _, .int .i64 _] rfl func91 rfl ?_)))))
 refine (lcheck_any o A l.length c l _ D _ (h.pure hI.pu) (hk.pure hI.pu)).mono ?_
 rintro e w1 ⟨hp, ⟨_, rfl⟩ | ⟨h1, _⟩⟩
 rotate_left
 ·exact absurd hok h1
 refine rV ?_
 have hI := hI.pure hp
 refine Vj rfl (Wn (Wq (T8 rfl (Te rfl yy34 rfl (Wn (Wc false rfl (Wk (Wq (V0 rfl (Vi rfl (V0 rfl ?_)))))))))))
 refine Wv rfl (by exact rMoveF rfl rfl) ?_
 refine Vi rfl (Vs rfl yy62 rfl ?_)
 refine WL_mk (by_ := 1) (z := .bool false) hI rfl rfl rfl rfl rfl rfl yy113 (by kernel_rfl) rfl (by omega) (by omega) ?_
 rintro b28 w - - hI
 refine WL_mkSet hI rfl rfl rfl rfl ?_
 rintro b29 w - - hI
 refine Td [(0, .int .i64 _), (1, .slice _ _ _), (2, .int .i64 _), (3, .func _ _ _), (4, .slice _ _ _), (7, .map _)] [_, _, _, _, _, _, _, _, _, _, _, _, _, _, _] rfl [.int .i64 0, .slice none 0 0, .int .i64 0, .nilFunc, .slice none 0 0, .slice none 0 0, .slice none 0 0, .slice none 0 0, .slice none 0 0, .slice none 0 0, .slice none 0 0, .slice none 0 0, .slice none 0 0, .slice none 0 0, .map none] [0, 1, 2, 3, 4, 14] rfl (fun _ => by kernel_rfl) (Tb (.agg _) (#[_, _, _, _, _, _, _, _, _, _, _, _, _, _, _]) hI rfl ?_)
 rintro b31 w - - hI
 refine Tm rfl (Wn ?_)
 have hI' := hI
 rw [boolC_zero] at hI'
 replace hI : Inv NF w0 w [Many 0 (fun j => StE ((fun _ => (none, 0) : Loc) j).1 ((fun _ => (none, 0) : Loc) j).2 (startF o)), B b31 211 (srcC o A l.length c bn f b28 b29 (locK (fun _ => (none, 0)) 0) (stK o 0) none 0 0), B b28 4 (boolC l.length (fun _ => false)), StE none 0 [], SetE b29 [], B b8 30 #[.int .i64 0, .slice none 0 0, .int .i64 0]] := by
  have h1 := (hI'.sw1).fresh (e := StE none 0 []) (Pure.refl w) (Row.nil w 0 3 1) (fun k hk => by cases hk)
  exact h1.sw0.sw1.many_nil _
 clear hI'
 refine Wx (fun ρ w => ∃ L : Loc, Has ρ [(0, .int .i64 o), (11, .pointer (some ⟨b31, 0, none⟩)), (8, .pointer (some ⟨b8, 0, none⟩))] ∧ Inv NF w0 w [Many 8 (fun j => StE (L j).1 (L j).2 (startF o)), B b31 211 (srcC o A l.length c bn f b28 b29 (locK L 8) (stK o 8) none 0 0), B b28 4 (boolC l.length (fun _ => false)), StE none 0 [], SetE b29 [], B b8 30 #[.int .i64 0, .slice none 0 0, .int .i64 0]]) ?_ ?_
 ·refine Wq (V0 rfl (Wn (Wb ?_)))
  refine Wl (fun mu ρ w => ∃ (k : Nat) (L : Loc), mu = 8 - k ∧ k ≤ 8 ∧ Has ρ [(32, .int .i64 (k : Int)), (0, .int .i64 o), (11, .pointer (some ⟨b31, 0, none⟩)), (8, .pointer (some ⟨b8, 0, none⟩))] ∧ Inv NF w0 w [Many k (fun j => StE (L j).1 (L j).2 (startF o)), B b31 211 (srcC o A l.length c bn f b28 b29 (locK L k) (stK o k) none 0 0), B b28 4 (boolC l.length (fun _ => false)), StE none 0 [], SetE b29 [], B b8 30 #[.int .i64 0, .slice none 0 0, .int .i64 0]]) 8
   ⟨0, _, rfl, by omega, ⟨rfl, rfl, rfl, rfl, trivial⟩, hI⟩ ?_
  clear hI
  rintro mu ρ w ⟨k, L, rfl, hk8, hH, hI⟩
  obtain ⟨σ, rfl⟩ := hH.open
  by_cases hk : k < 8
  rotate_left
  ·obtain rfl : k = 8 := by omega
   refine Wq (Vr rfl (Wn (Ws (Wc false rfl ?_))))
   refine WE ?_
   exact ⟨L, ⟨rfl, rfl, rfl, trivial⟩, hI⟩
  refine Wq (Vt rfl (Wn (Ws (Wc true rfl (Wk (Ws (Wb (Wq (V0 rfl (Vc rfl (Wn ?_)))))))))))
  refine Wd (by kernel_rfl) ?_
  refine Wi (T := [7]) hI.drew ?_
  intro Sx hY hZ
  have hI := hI.drew
  refine Vl 0 rfl (Vx 1 rfl (Vx 2 rfl (Vm 4 rfl (Vf 5 6 rfl (Vu 3 rfl ?_)))))
  refine Va [.int .i64 _] rfl func92 rfl ?_
  refine (start_any o _).mono ?_
  rintro e w1 ⟨A1, c1, rfl, hT⟩
  refine rV ?_
  have hI := hI.app1 hT
  refine Wn ⟨hZ _ hI.d0, ?_⟩
  refine Wt 6 rfl (fun W hW => have hI := hY W hW; (rIdxArr (sz := 1) (i := k) rfl underlying209 (by kernel_rfl) rfl rfl rfl hk)) ?_
  refine WT_A (by kernel_rfl) ?_
  clear hZ hY
  refine T2 7 rfl ?_
  refine WL_st 2 rfl (u := .slice A1 (startF o).length c1) (j := 6 + k * 1) hI rfl rfl rfl rfl rfl rfl (by kernel_rfl) rfl (by simp [Nat.blt, srcC]; omega) rfl ?_
  intro w hI
  simp only [List.set_cons_succ, List.set_cons_zero] at hI
  rw [Nat.mul_one, srcC_set hk, stK_succ, locK_succ] at hI
  refine Wn ?_
  refine WA_end (by kernel_rfl) ?_
  replace hI := (hI.many_push).many_congr (es' := fun j => StE (updL L k A1 c1 j).1 (updL L k A1 c1 j).2 (startF o)) (fun j hj => by
   unfold updL
   by_cases hjk : j = k
   ·rw [if_pos hjk, if_pos hjk]
   rw [if_neg hjk, if_neg hjk])
  refine Wr (Vv rfl (V0 rfl (Wn ?_)))
  exact ⟨8 - (k + 1), by omega, k + 1, _, rfl, by omega, ⟨rfl, rfl, rfl, rfl, trivial⟩, hI⟩
 clear hI
 rintro ρ w ⟨L, hH, hI⟩
 obtain ⟨σ, rfl⟩ := hH.open
 generalize hL8 : locK L 8 = L8 at hI
 generalize hvb : B b8 30 #[.int .i64 0, .slice none 0 0, .int .i64 0] = VB at hI
 have hlen0 : undn l.length (startS o).dn = l.length := undn_start l.length
 have hcall : ∀ (W : World) (H : List Ent), Inv NF w0 W (prt b31 o A l.length c bn f b28 b29 L8 (startS o) none 0 ++ Many 8 (fun j => StE (L j).1 (L j).2 (startF o)) :: H) → Cq 93 #[.pointer (some ⟨b31, 0, none⟩)] W fun en w' => ∃ L' A'' c'', en = .returned (.int .i64 (verdF o l ab bn).1) ∧ Inv NF w0 w' (prt b31 o A l.length c bn f b28 b29 L' (verdF o l ab bn).2 A'' c'' ++ Many 8 (fun j => StE (L j).1 (L j).2 (startF o)) :: H) := by
  intro W H hI
  have hIm := hI.perm (List.perm_middle)
  have hst : StOk W (prt b31 o A l.length c bn f b28 b29 L8 (startS o) none 0) L8 (startS o).sts := by
   intro j hj
   have e1 : L8 j = L j := by rw [← hL8]; unfold locK; rw [if_pos hj]
   have e2 : (startS o).sts j = startF o := by unfold startS; exact if_pos hj
   rw [e1, e2]
   exact (Many.rd (st := startF o) hIm hj rfl).mono fun _ hb => DL.mono (fun e he => List.mem_append_left _ he) hb
  obtain ⟨hk1, hk2⟩ := hI.kn0 hk
  have ho1 := hI.all0 h (by decide)
  have hsub : ∀ e ∈ prt b31 o A l.length c bn f b28 b29 L8 (startS o) none 0, e ∈ prt b31 o A l.length c bn f b28 b29 L8 (startS o) none 0 ++ Many 8 (fun j => StE (L j).1 (L j).2 (startF o)) :: H := fun e he => List.mem_append_left _ he
  refine (enter_any o b31 b28 b29 f A c l ab bn hA hf h40 (by omega) (l.length + 1) (startS o) L8 none 0 W (by omega) (goodS_start o l.length) (by rw [hlen0]; simp [startS]; omega) (Nat.zero_le _) hI.from (ho1.mono fun _ hb => DL.mono hsub hb) hk1 (DL.mono hsub hk2) hst).mono ?_
  rintro e w' ⟨L', A'', c'', rfl, hT, _⟩
  exact ⟨L', A'', c'', rfl, hI.turnL hT⟩
 have hcall1 : ∀ (W : World) (e : Ent), Inv NF w0 W (e :: (prt b31 o A l.length c bn f b28 b29 L8 (startS o) none 0 ++ [Many 8 (fun j => StE (L j).1 (L j).2 (startF o)), VB])) → Cq 93 #[.pointer (some ⟨b31, 0, none⟩)] W fun en w' => ∃ L' A'' c'', en = .returned (.int .i64 (verdF o l ab bn).1) ∧ Inv NF w0 w' (e :: (prt b31 o A l.length c bn f b28 b29 L' (verdF o l ab bn).2 A'' c'' ++ [Many 8 (fun j => StE (L j).1 (L j).2 (startF o)), VB])) := by
  intro W e hI
  have pm : ∀ l : List Ent, (e :: (l ++ [Many 8 (fun j => StE (L j).1 (L j).2 (startF o)), VB])).Perm (l ++ Many 8 (fun j => StE (L j).1 (L j).2 (startF o)) :: [VB, e]) := fun l => by
   have h1 : (e :: (l ++ [Many 8 (fun j => StE (L j).1 (L j).2 (startF o)), VB])).Perm ((l ++ [Many 8 (fun j => StE (L j).1 (L j).2 (startF o)), VB]) ++ [e]) := (List.perm_append_singleton _ _).symm
   rwa [List.append_assoc] at h1
  refine (hcall W [VB, e] (hI.perm (pm _))).mono ?_
  rintro en w' ⟨L', A'', c'', rfl, hT⟩
  exact ⟨L', A'', c'', rfl, hT.perm (pm _).symm⟩
 replace hI : Inv NF w0 w (prt b31 o A l.length c bn f b28 b29 L8 (startS o) none 0 ++ Many 8 (fun j => StE (L j).1 (L j).2 (startF o)) :: [VB]) := hI.perm (List.perm_middle (l₁ := [_, _, _, _])).symm
 refine Wx (fun ρ w => ∃ (b13 : Nat) (L' : Loc) (A'' : Option Addr) (c'' : Nat), Has ρ [(11, .pointer (some ⟨b31, 0, none⟩)), (8, .pointer (some ⟨b8, 0, none⟩)), (13, .pointer (some ⟨b13, 0, none⟩))] ∧ Inv NF w0 w (B b13 30 #[.int .i64 (verdF o l ab bn).1, .slice none 0 0, .int .i64 ((verdF o l ab bn).2.ent.length : Int)] :: (prt b31 o A l.length c bn f b28 b29 L' (verdF o l ab bn).2 A'' c'' ++ [Many 8 (fun j => StE (L j).1 (L j).2 (startF o)), VB]))) ?_ ?_
 ·refine Wd (by kernel_rfl) ?_
  refine Wi (T := [9]) hI.mapE.drew ?_
  intro Sx hY hZ
  have hI := hI.drew
  refine Vl 0 (hS_ := hZ _ hI.mapE) rfl (Vl 2 (hS_ := hZ _ hI.mapE) rfl (Vm 3 (hS_ := hZ _ hI.mapE) rfl (Vf 4 14 (hS_ := hZ _ hI.mapE) rfl (Vd 5 (.map _) (hS_ := hZ _ hI.mapE) rfl (fun W hW => (hY W hW).g0) ?_))))
  refine WT_two 1 8 rfl rfl (by kernel_rfl) rfl rfl ?_ ?_
  ·refine Va [.pointer _] rfl func93 rfl ?_
   refine (hcall _ [VB] hI).mono ?_
   rintro e w1 ⟨L', A'', c'', rfl, hT⟩
   refine rV ?_
   clear hI
   have hI := hT
   refine Wn ⟨hZ _ hI.mapE, ?_⟩
   refine WT_two 6 8 rfl rfl (by kernel_rfl) rfl rfl ?_ ?_
   ·refine Wv rfl (rLenSet rfl yy208 rfl (by exact hI.g3)) ?_
    refine Wn ⟨hZ _ hI.mapE, ?_⟩
    refine U7 7 [(0, .int .i64 _), (2, .int .i64 _)] [_, _, _] (hS_ := hZ _ hI.mapE) rfl [.int .i64 0, .slice none 0 0, .int .i64 0] [0, 2] rfl (fun _ _ => fun _ => by kernel_rfl) (Vu 8 rfl ?_)
    refine T1 (.agg #[.int .i64 0, .slice none 0 0, .int .i64 0]) (#[.int .i64 0, .slice none 0 0, .int .i64 0]) hI rfl ?_
    rintro b13 w - - hI
    refine Wn ⟨hZ _ hI.d0.mapE, ?_⟩
    refine WT_A (by kernel_rfl) ?_
    clear hZ hY
    refine T2 9 rfl ?_
    refine T7 3 (#[_, _, _]) (.agg _) hI rfl ?_
    intro w hI
    refine Wn ?_
    refine WA_end (by kernel_rfl) ?_
    exact ⟨_, _, _, _, ⟨rfl, rfl, rfl, trivial⟩, hI⟩
   refine T1 (.agg #[.int .i64 0, .slice none 0 0, .int .i64 0]) (#[.int .i64 0, .slice none 0 0, .int .i64 0]) hI rfl ?_
   rintro b13 w - - hI
   refine Wn ⟨hZ _ hI.d0.mapE, ?_⟩
   refine Vu 6 rfl ?_
   refine Wv rfl (rLenSet rfl yy208 rfl (by exact hI.g4)) ?_
   refine Wn ⟨hZ _ hI.d0.mapE, ?_⟩
   refine U7 7 [(0, .int .i64 _), (2, .int .i64 _)] [_, _, _] (hS_ := hZ _ hI.d0.mapE) rfl [.int .i64 0, .slice none 0 0, .int .i64 0] [0, 2] rfl (fun _ _ => fun _ => by kernel_rfl) ?_
   refine WT_A (by kernel_rfl) ?_
   clear hZ hY
   refine T2 9 rfl ?_
   refine T7 3 (#[_, _, _]) (.agg _) hI rfl ?_
   intro w hI
   refine Wn ?_
   refine WA_end (by kernel_rfl) ?_
   exact ⟨_, _, _, _, ⟨rfl, rfl, rfl, trivial⟩, hI⟩
  refine T1 (.agg #[.int .i64 0, .slice none 0 0, .int .i64 0]) (#[.int .i64 0, .slice none 0 0, .int .i64 0]) hI rfl ?_
  rintro b13 w - - hI
  refine Wn ⟨hZ _ hI.d0.mapE, ?_⟩
  refine Vu 1 rfl ?_
  refine Va [.pointer _] rfl func93 rfl ?_
  refine (hcall1 _ _ hI).mono ?_
  rintro e w1 ⟨L', A'', c'', rfl, hT⟩
  refine rV ?_
  clear hI
  have hI := hT
  refine Wn ⟨hZ _ hI.d0.mapE, ?_⟩
  refine Vu 6 rfl ?_
  refine Wv rfl (rLenSet rfl yy208 rfl (by exact hI.g4)) ?_
  refine Wn ⟨hZ _ hI.d0.mapE, ?_⟩
  refine U7 7 [(0, .int .i64 _), (2, .int .i64 _)] [_, _, _] (hS_ := hZ _ hI.d0.mapE) rfl [.int .i64 0, .slice none 0 0, .int .i64 0] [0, 2] rfl (fun _ _ => fun _ => by kernel_rfl) ?_
  refine WT_A (by kernel_rfl) ?_
  clear hZ hY
  refine T2 9 rfl ?_
  refine T7 3 (#[_, _, _]) (.agg _) hI rfl ?_
  intro w hI
  refine Wn ?_
  refine WA_end (by kernel_rfl) ?_
  exact ⟨_, _, _, _, ⟨rfl, rfl, rfl, trivial⟩, hI⟩
 clear hI hcall hcall1
 rintro ρ w ⟨b13, L', A'', c'', hH, hI⟩
 obtain ⟨σ, rfl⟩ := hH.open
 subst hvb
 generalize hR : verdF o l ab bn = R at hI
 obtain ⟨z, s'⟩ := R
 simp only at hI
 replace hI : Inv NF w0 w [B b13 30 #[.int .i64 z, .slice none 0 0, .int .i64 (s'.ent.length : Int)], B b31 211 (srcC o A l.length c bn f b28 b29 L' s'.sts A'' s'.ord.length c''), B b28 4 (boolC l.length s'.dn), StE A'' c'' s'.ord, SetE b29 s'.ent, Many 8 (fun j => StE (L j).1 (L j).2 (startF o)), B b8 30 #[.int .i64 0, .slice none 0 0, .int .i64 0]] := hI
 have hres : ∀ (A3 : Option Addr) (c3 : Nat) (W : World), Inv NF w0 W [StE A3 c3 (if z = 1 then s'.ord else [])] → VerdPost o l ab ((bn : Nat) : Int) w0 (.returned (.tuple #[.agg #[.int .i64 z, .slice A3 (if z = 1 then s'.ord else []).length c3, .int .i64 (s'.ent.length : Int)], .nilIface])) W := by
  intro A3 c3 W hI
  refine .inl ⟨hok, A3, c3, ?_⟩
  rw [Int.toNat_natCast, hR]
  exact ⟨rfl, hI⟩
 by_cases hz : z = 1
 ·refine Ws (Wq (V7 0 rfl (V5 (.int .i64 _) rfl (hI.c0 rfl) (T5 rfl (Wn (Wc true rfl (Wr (V9 rfl (Vb rfl (V7 5 rfl (V5 (.slice _ _ _) rfl (hI.c1 rfl) (V7 1 rfl ?_))))))))))))
  refine Ue (.slice _ _ _) hI rfl ?_
  intro w hI
  refine Wn (Wq (Tu 3 rfl hI.g0 ?_))
  refine WL_stw6 (u := .agg _) (vs := #[_, _, _]) (n := 3) hI rfl rfl rfl rfl rfl rfl (by kernel_rfl) rfl rfl rfl ?_
  intro w hI
  refine Vj rfl (Wn ?_)
  refine WR ?_
  refine Um 30 3 (.inr rfl) rfl hI.g6 ?_
  rw [if_pos hz] at hres
  exact hres _ _ _ hI.d6.d5.d4.d2.d1.d0
 refine Ws (Wq (V7 0 rfl (V5 (.int .i64 _) rfl (hI.c0 rfl) (Vw rfl (Wn (Wc false rfl (Wk (Wq (Tu 3 rfl hI.g0 ?_)))))))))
 refine WL_stw6 (u := .agg _) (vs := #[_, _, _]) (n := 3) hI rfl rfl rfl rfl rfl rfl (by kernel_rfl) rfl rfl rfl ?_
 intro w hI
 refine Vj rfl (Wn ?_)
 refine WR ?_
 refine Um 30 3 (.inr rfl) rfl hI.g6 ?_
 rw [if_neg hz] at hres
 have h1 : Inv NF w0 w [] := hI.d6.d5.d4.d3.d2.d1.d0
 exact hres none 0 _ (h1.fresh (Pure.refl w) (Row.nil w 0 3 1) (fun k hk => by cases hk))
theorem before_ahead : AheadC 48 befB := ⟨⟨_, func48, rfl, rfl⟩, before_any⟩
theorem chk_any (o : Int) (A : Option Addr) (n c : Nat) (l : List Op8) (bud : Int) (D : Nat → Prop) (w0 : World) (h : OpsR w0 D (.slice A n c) l) (hk : KnOk w0) :
  Cq 19 #[.int .i64 o, .slice A n c, .int .i64 bud] w0 (VerdPost o l befB bud w0) := by
 have hI := Inv.start (fun _ => False) w0
 refine Vn func19 rfl ?_
 refine Wq (T1 (.agg #[.int .i64 0, .slice none 0 0, .int .i64 0]) (#[.int .i64 0, .slice none 0 0, .int .i64 0]) hI rfl ?_)
 rintro b6 w - - hI
 refine Vj rfl (Wn ?_)
 by_cases hok : OkLin o l bud
 ·refine Wq (V0 rfl (Vi rfl (V0 rfl (Va [.int .i64 _, .slice _ _ _, .int .i64 _, .func _ _ _] rfl func47 rfl ?_))))
  refine (verdict_any o A n c l bud _ befB D _ (h.pure hI.pu) (hk.pure hI.pu) before_ahead).mono ?_
  rintro e w1 (⟨_, A', c', rfl, hT⟩ | ⟨h1, _⟩)
  rotate_left
  ·exact absurd hok h1
  refine rV ?_
  have hI := hI.app1 hT
  refine Vg rfl (Vg rfl ?_)
  refine WL_stw1 (u := .agg _) (vs := #[_, _, _]) (n := 3) hI rfl rfl rfl rfl rfl rfl (by kernel_rfl) rfl rfl rfl ?_
  intro w hI
  refine Vj rfl (Wn ?_)
  refine WR ?_
  refine Um 30 3 (.inr rfl) rfl hI.g1 ?_
  exact .inl ⟨hok, A', c', rfl, hI.d1⟩
 refine Wq (V0 rfl (Vi rfl (V0 rfl (Va [.int .i64 _, .slice _ _ _, .int .i64 _, .func _ _ _] rfl func47 rfl ?_))))
 refine (verdict_any o A n c l bud _ befB D _ (h.pure hI.pu) (hk.pure hI.pu) before_ahead).mono ?_
 rintro e w1 (⟨h1, _⟩ | ⟨_, ⟨x, ⟨z, rfl⟩, rfl⟩, hp⟩)
 ·exact absurd h1 hok
 refine rV ?_
 have hI := hI.pure hp
 refine Vg rfl (Vg rfl (T7 3 (#[_, _, _]) (.agg _) hI rfl ?_))
 intro w hI
 refine Vp rfl (Wn ?_)
 refine WR ?_
 refine Um 30 3 (.inr rfl) rfl hI.g0 ?_
 exact .inr ⟨hok, ⟨_, ⟨z, rfl⟩, rfl⟩, hI.pu⟩
structure FaG (w : World) : Prop where
 num : NumG w
 err : GlobOk w
 kn : KnOk w
theorem FaG.pure {w w' : World} (h : FaG w) (hp : Pure w w') : FaG w' :=
 ⟨h.num.chg (hp.chg NF) NoG.none, ((Inv.start (fun _ => False) w).pure hp).oldp h.err, h.kn.pure hp⟩
def zRep : Array Value := #[strV [], .slice none 0 0, .int .i64 0, .slice none 0 0, .int .i64 0]
structure RunTo (nums : List Int) (n k a t : Nat) (bk : Bool) (gen : List UInt8) (t2 : Tr) : Prop where
 go : ∃ g t1, parsedT gen = some g ∧ MvS (s0 n k a t bk) t1.st ∧ (nums = [] → t1 = ⟨s0 n k a t bk, g, 0, 0, false⟩) ∧ FinR nums k t1 t2
def RunBad (nums : List Int) (n k a t : Int) (bk : Bool) (gen : List UInt8) (bud : Int) : Prop :=
 2000 < nums.length ∨ bud < 0 ∨ 1000000 < bud ∨ ¬ SetOk n k a t ∨ parsedT gen = none ∨
  ∃ (n' k' a' t' : Nat) (t2 : Tr), n = n' ∧ k = k' ∧ a = a' ∧ t = t' ∧ RunTo nums n' k' a' t' bk gen t2 ∧ (evF t2.st.evs = none ∨ ∃ ops, evF t2.st.evs = some ops ∧ ¬ OkLin 1 ops bud)
def RunGood (nums : List Int) (n k a t : Int) (bk : Bool) (title gen : List UInt8) (bud : Int) (w0 : World) (en : Ending) (w' : World) : Prop :=
 ∃ (n' k' a' t' : Nat) (t2 : Tr) (ops : List Op8) (A1 : Option Addr) (c1 : Nat) (A2 : Option Addr) (c2 : Nat), n = n' ∧ k = k' ∧ a = a' ∧ t = t' ∧ SetOk n k a t ∧ (0 ≤ bud ∧ bud ≤ 1000000) ∧ RunTo nums n' k' a' t' bk gen t2 ∧ t2.st.evs.length ≤ 120 ∧ evF t2.st.evs = some ops ∧ OkLin 1 ops bud ∧
  en = .returned (.tuple #[.agg #[strV title, .slice A1 t2.st.evs.length c1, .int .i64 (verdF 1 ops befB bud.toNat).1, .slice A2 (ordF (verdF 1 ops befB bud.toNat)).length c2, .int .i64 ((verdF 1 ops befB bud.toNat).2.ent.length : Int)], .nilIface]) ∧
  Inv NF w0 w' [Row 0 70 7 A1 t2.st.evs.length c1 (t2.st.evs.flatMap evL), StE A2 c2 (ordF (verdF 1 ops befB bud.toNat))]
def RunPost (nums : List Int) (n k a t : Int) (bk : Bool) (title gen : List UInt8) (bud : Int) (w0 : World) (en : Ending) (w' : World) : Prop :=
 (RunBad nums n k a t bk gen bud ∧ (∃ T v, en = .returned (.tuple #[.agg zRep, .iface T v])) ∧ Pure w0 w') ∨ RunGood nums n k a t bk title gen bud w0 en w'
theorem Mv.nk {s s' : StS} (h : Mv s s') : s'.n = s.n ∧ s'.k = s.k := by
 rcases h with ⟨ms, _, rfl⟩ | ⟨c, key, wr, v, _, _, _, _, _, rfl⟩ | ⟨c, _, _, rfl⟩ | ⟨j, m, _, rfl⟩
 ·exact ⟨rfl, rfl⟩
 ·exact begS_nk ..
 ·exact ⟨rfl, rfl⟩
 exact del_nk ..
theorem frun_any (n k a t : Int) (bk : Bool) (title gen : List UInt8) (bud : Int) (A : Option Addr) (len cp : Nat) (nums : List Int) (D : Nat → Prop) (w0 : World) (hN : Ints w0 D (.slice A len cp) nums) (hG : FaG w0) (hgl : gen.length ≤ 1000000000) :
  Cq 5 #[.agg #[.int .i64 n, .int .i64 k, .int .i64 a, .int .i64 t, .bool bk, strV title, strV gen, .int .i64 bud], .slice A len cp] w0 (RunPost nums n k a t bk title gen bud w0) := by
 have hI := Inv.start (fun _ => False) w0
 have hln : len = nums.length := by
  obtain ⟨A', c', hv, _⟩ := hN
  injection hv
 subst hln
 refine Vn func5 rfl ?_
 refine Wq (Tb (.agg _) (#[_, _, _, _, _, _, _, _]) hI rfl ?_)
 rintro b2 w - - hI
 refine T1 (.agg #[.string ⟨#[]⟩, .slice none 0 0, .int .i64 0, .slice none 0 0, .int .i64 0]) (#[.string ⟨#[]⟩, .slice none 0 0, .int .i64 0, .slice none 0 0, .int .i64 0]) hI rfl ?_
 rintro b4 w - - hI
 refine Vj rfl (Wn ?_)
 have hBad : ∀ {ρ : Env} {w : World} {T : TypeId} {v : Value} {H : List Ent}, Inv NF w0 w (B b4 32 zRep :: H) → RunBad nums n k a t bk gen bud → ρ 4 = .pointer (some ⟨b4, 0, none⟩) → ρ 5 = .iface T v →
   retQ prog Tryz.f5 (RunPost nums n k a t bk title gen bud w0) .ret ρ w := by
  intro ρ w T v H hI hb h4 h5
  exact retC2 (n := 5) (t := 32) (.inr rfl) rfl h4 (by kernel_rfl) (by kernel_rfl) rfl hI.g0 (.inl ⟨hb, ⟨T, v, by rw [h5]⟩, hI.pu⟩)
 refine Wx (fun ρ w => nums.length ≤ 2000 ∧ (0 ≤ bud ∧ bud ≤ 1000000) ∧ Has ρ [(4, .pointer (some ⟨b4, 0, none⟩)), (2, .pointer (some ⟨b2, 0, none⟩)), (1, .slice A nums.length cp)] ∧ Inv NF w0 w [B b4 32 zRep, B b2 25 #[.int .i64 n, .int .i64 k, .int .i64 a, .int .i64 t, .bool bk, strV title, strV gen, .int .i64 bud]]) ?_ ?_
 ·by_cases h1 : 2000 < nums.length
  ·refine Wq (Vi rfl (Vs rfl yy26 rfl (Tq rfl (V6 rfl (V4 rfl (V4 rfl (V4 rfl (Vk rfl (V6 rfl (V4 rfl (V4 rfl (V4 rfl ?_))))))))))))
   refine Vk rfl (Wn (Wc true rfl (Wq (Td [] [_, _, _, _, _] rfl [.string ⟨#[]⟩, .slice none 0 0, .int .i64 0, .slice none 0 0, .int .i64 0] [] rfl (fun _ => by kernel_rfl) (T6 rfl yy45 rfl (T7 5 (#[_, _, _, _, _]) (.agg _) hI rfl ?_))))))
   intro w hI
   refine Vp rfl (Wn ?_)
   refine WR ?_
   exact hBad hI (.inl h1) rfl rfl
  by_cases h2 : bud < 0
  ·refine Wq (Vi rfl (Vs rfl yy26 rfl (Tc rfl (V6 rfl (V7 7 rfl (V5 (.int .i64 _) rfl (hI.c1 rfl) (Vt rfl (Ve rfl (V6 rfl (V4 rfl (V4 rfl (V4 rfl ?_))))))))))))
   refine Vk rfl (Wn (Wc true rfl (Wq (Td [] [_, _, _, _, _] rfl [.string ⟨#[]⟩, .slice none 0 0, .int .i64 0, .slice none 0 0, .int .i64 0] [] rfl (fun _ => by kernel_rfl) (T6 rfl yy45 rfl (T7 5 (#[_, _, _, _, _]) (.agg _) hI rfl ?_))))))
   intro w hI
   refine Vp rfl (Wn ?_)
   refine WR ?_
   exact hBad hI (.inr (.inl h2)) rfl rfl
  by_cases h3 : 1000000 < bud
  ·refine Wq (Vi rfl (Vs rfl yy26 rfl (Tc rfl (V6 rfl (V7 7 rfl (V5 (.int .i64 _) rfl (hI.c1 rfl) (Vr rfl (Ve rfl (V6 rfl (V7 7 rfl (V5 (.int .i64 _) rfl (hI.c1 rfl) (Tq rfl ?_))))))))))))
   refine Ve rfl (Wn (Wc true rfl (Wq (Td [] [_, _, _, _, _] rfl [.string ⟨#[]⟩, .slice none 0 0, .int .i64 0, .slice none 0 0, .int .i64 0] [] rfl (fun _ => by kernel_rfl) (T6 rfl yy45 rfl (T7 5 (#[_, _, _, _, _]) (.agg _) hI rfl ?_))))))
   intro w hI
   refine Vp rfl (Wn ?_)
   refine WR ?_
   exact hBad hI (.inr (.inr (.inl h3))) rfl rfl
  refine Wq (Vi rfl (Vs rfl yy26 rfl (Tc rfl (V6 rfl (V7 7 rfl (V5 (.int .i64 _) rfl (hI.c1 rfl) (Vr rfl (Ve rfl (V6 rfl (V7 7 rfl (V5 (.int .i64 _) rfl (hI.c1 rfl) (Tc rfl ?_))))))))))))
  refine Ve rfl (Wn (Wc false rfl (Wk ?_)))
  exact ⟨by omega, ⟨by omega, by omega⟩, ⟨rfl, rfl, rfl, trivial⟩, hI⟩
 clear hI
 rintro ρ w ⟨hlen, hbud, hH, hI⟩
 obtain ⟨σ, rfl⟩ := hH.open
 have hSet : ∀ (w : World) (H : List Ent), Inv NF w0 w (B b4 32 zRep :: B b2 25 #[.int .i64 n, .int .i64 k, .int .i64 a, .int .i64 t, .bool bk, strV title, strV gen, .int .i64 bud] :: H) → ∀ (j : Nat) (u : Value), [.int .i64 n, .int .i64 k, .int .i64 a, .int .i64 t, .bool bk][j]? = some u → w.cell? ⟨b2, 0 + j, none⟩ = some u := by
  intro w H hI j u hj
  rw [Nat.zero_add]
  refine hI.c1 ?_
  match j, hj with
  | 0, h => exact h
  | 1, h => exact h
  | 2, h => exact h
  | 3, h => exact h
  | 4, h => exact h
  | j + 5, h => simp at h
 by_cases hs : SetOk n k a t
 rotate_left
 ·refine Wq (V7 0 rfl (Ug 5 [.int .i64 n, .int .i64 k, .int .i64 a, .int .i64 t, .bool bk] rfl (hSet _ _ hI) (Va [.agg _] rfl func11 rfl ?_)))
  refine (new_bad n k a t bk hs _).mono ?_
  rintro e w1 ⟨⟨z, rfl⟩, hp⟩
  refine rV ?_
  have hI := hI.pure hp
  refine Vz rfl (Vg rfl (Vg rfl (Tm rfl (Vp rfl (Wn (Ws (Wq (Vy rfl (Tl rfl yy34 rfl (Wn (Wc true rfl (Ws ?_))))))))))))
  refine Wr (Td [] [_, _, _, _, _] rfl [.string ⟨#[]⟩, .slice none 0 0, .int .i64 0, .slice none 0 0, .int .i64 0] [] rfl (fun _ => by kernel_rfl) (Vy rfl (T7 5 (#[_, _, _, _, _]) (.agg _) hI rfl ?_)))
  intro w hI
  refine Vp rfl (Wn ?_)
  refine WR ?_
  exact hBad hI (.inr (.inr (.inr (.inl hs)))) rfl rfl
 obtain ⟨n', rfl⟩ : ∃ n' : Nat, n = n' := ⟨n.toNat, by have := hs.1; omega⟩
 obtain ⟨k', rfl⟩ : ∃ k' : Nat, k = k' := ⟨k.toNat, by have := hs.2.1; omega⟩
 obtain ⟨a', rfl⟩ : ∃ a' : Nat, a = a' := ⟨a.toNat, by have := hs.2.2.1; omega⟩
 obtain ⟨t', rfl⟩ : ∃ t' : Nat, t = t' := ⟨t.toNat, by have := hs.2.2.2; omega⟩
 refine Wq (V7 0 rfl (Ug 5 [.int .i64 (n' : Int), .int .i64 (k' : Int), .int .i64 (a' : Int), .int .i64 (t' : Int), .bool bk] rfl (hSet _ _ hI) (Va [.agg _] rfl func11 rfl ?_)))
 refine (new_any n' k' a' t' bk hs _).mono ?_
 rintro e w1 ⟨sb, nb, cb, rfl, hT⟩
 refine rV ?_
 replace hI := (hI.app hT).perm List.perm_append_comm
 refine Vz rfl (Vg rfl (Vg rfl (Tm rfl (Vj rfl (Wn ?_)))))
 replace hI : Inv NF w0 _ (B b4 32 zRep :: B b2 25 #[.int .i64 (n' : Int), .int .i64 (k' : Int), .int .i64 (a' : Int), .int .i64 (t' : Int), .bool bk, strV title, strV gen, .int .i64 bud] :: spt (zL sb nb cb) (s0 n' k' a' t' bk)) := hI
 refine Ws (Wq (T8 rfl (Te rfl yy34 rfl (Wn (Wc false rfl (Wk ?_))))))
 cases hpg : parsedT gen with
 | none =>
  refine Wq (V7 6 rfl (V5 (.string _) rfl (hI.c1 rfl) (Va [.string _] rfl func12 rfl ?_)))
  refine (parse_any gen _ (hG.pure hI.pu).num (by omega)).mono ?_
  rintro e w1 (⟨g, v, Lg, hg, _⟩ | ⟨_, ⟨U, u, rfl⟩, hp⟩)
  ·rw [hpg] at hg; cases hg
  refine rV ?_
  have hI := hI.pure hp
  refine Vz rfl (Vg rfl (Vg rfl (Vj rfl (Vp rfl (Wn (Ws (Wq (Vy rfl (Tl rfl yy34 rfl (Wn (Wc true rfl (Ws ?_))))))))))))
  refine Wr (Td [] [_, _, _, _, _] rfl [.string ⟨#[]⟩, .slice none 0 0, .int .i64 0, .slice none 0 0, .int .i64 0] [] rfl (fun _ => by kernel_rfl) (Vy rfl (T7 5 (#[_, _, _, _, _]) (.agg _) hI rfl ?_)))
  intro w hI
  refine Vp rfl (Wn ?_)
  refine WR ?_
  exact hBad hI (.inr (.inr (.inr (.inr (.inl hpg))))) rfl rfl
 | some g0 =>
  refine Wq (V7 6 rfl (V5 (.string _) rfl (hI.c1 rfl) (Va [.string _] rfl func12 rfl ?_)))
  refine (parse_any gen _ (hG.pure hI.pu).num (by omega)).mono ?_
  rintro e w1 (⟨g, v, Lg, hg, rfl, hr0, hT⟩ | ⟨hg, _⟩)
  rotate_left
  ·rw [hpg] at hg; cases hg
  obtain rfl : g0 = g := by rw [hpg] at hg; exact Option.some.inj hg
  refine rV ?_
  replace hI := (hI.app hT).perm (List.perm_append_comm_assoc Lg [B b4 32 zRep, B b2 25 #[.int .i64 (n' : Int), .int .i64 (k' : Int), .int .i64 (a' : Int), .int .i64 (t' : Int), .bool bk, strV title, strV gen, .int .i64 bud]] (spt (zL sb nb cb) (s0 n' k' a' t' bk)))
  refine Vz rfl (Vg rfl (Vg rfl (Tn rfl (Vj rfl (Wn ?_)))))
  replace hI : Inv NF w0 _ (B b4 32 zRep :: B b2 25 #[.int .i64 (n' : Int), .int .i64 (k' : Int), .int .i64 (a' : Int), .int .i64 (t' : Int), .bool bk, strV title, strV gen, .int .i64 bud] :: (Lg ++ spt (zL sb nb cb) (s0 n' k' a' t' bk))) := hI
  refine Ws (Wq (T8 rfl (Te rfl yy34 rfl (Wn (Wc false rfl (Wk ?_))))))
  obtain ⟨T, bv, rfl⟩ := hr0.val
  obtain ⟨pp, hpp⟩ : ∃ pp : FPlan, (⟨n', k', a', t', bk, title, gen, bud⟩ : FPlan) = pp := ⟨_, rfl⟩
  refine Wx (fun ρ w => ∃ (tb q : Nat) (A3 : Option Addr) (c3 : Nat), Has ρ [(9, at0 tb), (6, .pointer (some ⟨sb, 0, none⟩)), (4, .pointer (some ⟨b4, 0, none⟩)), (2, .pointer (some ⟨b2, 0, none⟩)), (1, .slice A nums.length cp)] ∧
   Inv NF w0 w (triE tb sb (.iface T (at0 bv)) q pp 0 false :: tapeE q (.slice A3 nums.length c3) 0 :: Row 0 3 1 A3 nums.length c3 (nums.map (Value.int .i64)) :: B b4 32 zRep :: B b2 25 #[.int .i64 (n' : Int), .int .i64 (k' : Int), .int .i64 (a' : Int), .int .i64 (t' : Int), .bool bk, strV title, strV gen, .int .i64 bud] :: (Lg ++ spt (zL sb nb cb) (s0 n' k' a' t' bk)))) ?_ ?_
  ·refine Wd (by kernel_rfl) ?_
   refine Wi (T := []) hI.drew ?_
   intro Sx hY hZ
   have hI := hI.drew
   refine Vl 0 rfl ?_
   refine Wt 1 rfl (fun W hW => have hI := hY W hW; (by exact rMoveE rfl rfl)) ?_
   refine Ta 2 rfl (Ut 6 8 rfl (fun W hW => (hY W hW).g1) (Vu 3 rfl ?_))
   refine Va [.slice _ _ _] rfl func13 rfl ?_
   refine (cloneI_any A _ cp nums D _ (Rd.pure hN hI.pu) (by omega)).mono ?_
   rintro e w1 ⟨A3, c3, rfl, hT⟩
   refine rV ?_
   have hI := hI.app1 hT
   refine Wn ⟨hZ _ hI.d0, ?_⟩
   refine U7 4 [(0, .slice _ _ _)] [_, _] rfl [.slice none 0 0, .int .i64 0] [0] rfl (fun _ _ => fun _ => by kernel_rfl) (Vu 5 rfl ?_)
   refine Tb (.agg _) (#[_, _]) hI rfl ?_
   rintro b53 w - - hI
   refine Wn ⟨hZ _ hI.d0.d0, ?_⟩
   refine U7 7 [(0, .pointer _), (1, _), (2, .pointer _), (3, .agg #[_, _, _, _, _, _, _, _])] [_, _, _, _, _, _, _, _, _, _, _, _, _] rfl [.pointer none, .nilIface, .pointer none, .int .i64 0, .int .i64 0, .int .i64 0, .int .i64 0, .bool false, .string ⟨#[]⟩, .string ⟨#[]⟩, .int .i64 0, .int .i64 0, .bool false] [0, 1, 2, 3] rfl (fun _ _ => fun _ => by kernel_rfl) (Vu 8 rfl ?_)
   refine Tb (.agg _) _ hI rfl ?_
   rintro b56 w - - hI
   refine Wn ⟨hZ _ hI.d0.d0.d0, ?_⟩
   refine Wt 9 rfl (hS := hZ _ hI.d0.d0.d0) (fun W hW => have hI := hY W hW; (by exact rAsgnP rfl rfl)) ?_
   refine We (by kernel_rfl) ?_
   refine ⟨b56, b53, A3, c3, ⟨rfl, rfl, rfl, rfl, rfl, trivial⟩, ?_⟩
   subst hpp
   exact hI
  clear hI
  rintro ρ w ⟨tb, q, A3, c3, hH, hI⟩
  obtain ⟨σ, rfl⟩ := hH.open
  have hpn : pp.n ≤ 1000 := by rw [← hpp]; show n' ≤ 1000; have := hs.1; omega
  have hpk : pp.k ≤ 1000 := by rw [← hpp]; show k' ≤ 1000; have := hs.2.1; omega
  have hppk : pp.k = k' := by rw [← hpp]
  have hgs : g0.sz ≤ 2000 := by
   unfold parsedT at hpg
   split at hpg
   ·have := parsed_sz hpg; omega
   cases hpg
  obtain ⟨P0, hP0⟩ : ∃ P0 : List Ent, triE tb sb (.iface T (at0 bv)) q pp 0 false :: tapeE q (.slice A3 nums.length c3) 0 :: (Lg ++ spt (zL sb nb cb) (s0 n' k' a' t' bk)) = P0 := ⟨_, rfl⟩
  have hIP : Inv NF w0 w (P0 ++ [Row 0 3 1 A3 nums.length c3 (nums.map (Value.int .i64)), B b4 32 zRep, B b2 25 #[.int .i64 (n' : Int), .int .i64 (k' : Int), .int .i64 (a' : Int), .int .i64 (t' : Int), .bool bk, strV title, strV gen, .int .i64 bud]]) := by
   refine hI.perm ?_
   rw [← hP0]
   refine List.Perm.cons _ (List.Perm.cons _ ?_)
   exact List.perm_append_comm (l₁ := [_, _, _])
  have hap : ∀ kk, A3.map (·.block) = some kk → ¬ DL P0 kk := by
   rintro kk hk ⟨e, he, hk2⟩
   exact (List.pairwise_append.1 hIP.apart).2.2 e he _ (List.mem_cons_self ..) kk hk2 hk
  have hNb : Ints w (fun kk => A3.map (·.block) = some kk) (.slice A3 nums.length c3) nums := Rd.of_own (hIP.ok (Row 0 3 1 A3 nums.length c3 (nums.map (Value.int .i64))) (by simp)).1 (fun kk hk _ => by
   cases A3 with
   | none => cases hk
   | some x => exact hk)
  obtain ⟨wb, hwb⟩ : ∃ wb, wb = w := ⟨_, rfl⟩
  subst hwb
  have hIT : Inv (DL P0) wb wb (triE tb sb (.iface T (at0 bv)) q pp 0 false :: tapeE q (.slice A3 nums.length c3) 0 :: (Lg ++ spt (zL sb nb cb) (s0 n' k' a' t' bk))) := by rw [hP0]; exact hIP.from
  have hok0 : SOk (zL sb nb cb) (s0 n' k' a' t' bk) 0 := s0_ok hs sb nb cb
  refine Wx (fun ρ w => ∃ (t1 : Tr) (L1 : StL) (LG1 : List Ent) (M1 : Nat), MvS (s0 n' k' a' t' bk) t1.st ∧ (nums = [] → t1 = ⟨s0 n' k' a' t' bk, g0, 0, 0, false⟩) ∧ Rep t1.g (.iface T (at0 bv)) LG1 ∧ t1.g.sz ≤ g0.sz ∧ SOk L1 t1.st M1 ∧ M1 ≤ 2000 ∧ L1.sb = sb ∧ t1.u ≤ 5000 ∧ t1.b ≤ 40 ∧ t1.st.k = k' ∧
   Has ρ [(9, at0 tb), (6, .pointer (some ⟨sb, 0, none⟩)), (4, .pointer (some ⟨b4, 0, none⟩)), (2, .pointer (some ⟨b2, 0, none⟩)), (1, .slice A nums.length cp)] ∧ Inv (DL P0) wb w (triE tb sb (.iface T (at0 bv)) q pp t1.b t1.em :: tapeE q (.slice A3 nums.length c3) t1.u :: (LG1 ++ spt L1 t1.st))) ?_ ?_
  ·refine Wb ?_
   refine Wl (fun mu ρ w => ∃ (t1 : Tr) (L1 : StL) (LG1 : List Ent) (M1 : Nat), mu = nums.length - t1.u ∧ MvS (s0 n' k' a' t' bk) t1.st ∧ (t1 = ⟨s0 n' k' a' t' bk, g0, 0, 0, false⟩ ∨ 0 < nums.length) ∧ Rep t1.g (.iface T (at0 bv)) LG1 ∧ t1.g.sz ≤ g0.sz ∧ SOk L1 t1.st M1 ∧ M1 ≤ nums.length ∧ M1 ≤ t1.u ∧ L1.sb = sb ∧ t1.u ≤ 5000 ∧ t1.b ≤ 40 ∧ t1.st.k = k' ∧
    Has ρ [(9, at0 tb), (6, .pointer (some ⟨sb, 0, none⟩)), (4, .pointer (some ⟨b4, 0, none⟩)), (2, .pointer (some ⟨b2, 0, none⟩)), (1, .slice A nums.length cp)] ∧ Inv (DL P0) wb w (triE tb sb (.iface T (at0 bv)) q pp t1.b t1.em :: tapeE q (.slice A3 nums.length c3) t1.u :: (LG1 ++ spt L1 t1.st))) nums.length
    ⟨⟨s0 n' k' a' t' bk, g0, 0, 0, false⟩, zL sb nb cb, Lg, 0, rfl, .refl _, .inl rfl, hr0, Nat.le_refl _, hok0, by omega, by omega, rfl, by show 0 ≤ 5000; omega, by show 0 ≤ 40; omega, rfl, ⟨rfl, rfl, rfl, rfl, rfl, trivial⟩, hIT⟩ ?_
   clear hI hH
   rintro mu ρ w ⟨t1, L1, LG1, M1, rfl, hmv, h00, hr1, hsz1, hok1, hM1, hMu, hsb1, hu1, hb1, hk1, hH, hI⟩
   obtain ⟨σ, rfl⟩ := hH.open
   rw [← hsb1] at hI
   by_cases hult : t1.u < nums.length
   rotate_left
   ·refine Ws (Wq (V9 rfl (Vb rfl (V7 2 rfl (V5 (.pointer _) rfl (hI.c0 rfl) (Va [.pointer _] rfl func14 rfl ?_))))))
    refine (used_any (DL P0) wb _ _ q _ t1.u (hI.perm (.swap ..))).mono ?_
    rintro e w1 ⟨rfl, hI1⟩
    refine rV ?_
    replace hI := hI1.perm (.swap ..)
    clear hI1
    refine Vi rfl (Vs rfl yy26 rfl (Vr rfl (Wn (Wc false rfl ?_))))
    refine WE ?_
    rw [hsb1] at hI
    refine ⟨t1, L1, LG1, M1, hmv, fun hn => ?_, hr1, hsz1, hok1, by omega, hsb1, hu1, hb1, hk1, ⟨rfl, rfl, rfl, rfl, rfl, trivial⟩, hI⟩
    rcases h00 with h | h
    ·exact h
    rw [hn] at h; exact absurd h (by simp)
   refine Ws (Wq (V9 rfl (Vb rfl (V7 2 rfl (V5 (.pointer _) rfl (hI.c0 rfl) (Va [.pointer _] rfl func14 rfl ?_))))))
   refine (used_any (DL P0) wb _ _ q _ t1.u (hI.perm (.swap ..))).mono ?_
   rintro e w1 ⟨rfl, hI1⟩
   refine rV ?_
   replace hI := hI1.perm (.swap ..)
   clear hI1
   refine Vi rfl (Vs rfl yy26 rfl (Vt rfl (Wn (Wc true rfl (Wk (Wb (Wr (V9 rfl (Va [.pointer _] rfl func15 rfl ?_)))))))))
   refine (move_any _ L1 t1 M1 hI hr1 hok1 (by omega) hNb hap (by omega) (by omega) hpn hpk).mono ?_
   rintro e w3 ⟨⟨v3, rfl⟩, t2, L2, LG2, hmv2, hr2, hsz2, hok2, hsb2, hu2, hu3, hb2, hb3, hI2⟩
   refine rV ?_
   replace hI := hI2
   clear hI2
   refine Wn ?_
   rw [hsb1] at hI
   exact ⟨nums.length - t2.u, by omega, t2, L2, LG2, M1 + 1, rfl, .step hmv hmv2, .inr (by omega), hr2, by omega, hok2, by omega, by omega, hsb2.trans hsb1, by omega, hb3 hb1, hmv2.nk.2.trans hk1, ⟨rfl, rfl, rfl, rfl, rfl, trivial⟩, hI⟩
  clear hI hIT
  rintro ρ w ⟨t1, L1, LG1, M1, hmv, h00, hr1, hsz1, hok1, hM1, hsb1, hu1, hb1, hk1, hH, hI⟩
  obtain ⟨σ, rfl⟩ := hH.open
  have hmu := mu_le (K := 0) hok1.mlen hok1.n1.2 hok1.k1.2
  have hmul : (90000 - M1) * 2000 ≤ 90000 * 2000 := Nat.mul_le_mul_right _ (by omega)
  refine Wq (V9 rfl (Va [.pointer _] rfl func16 rfl ?_))
  rw [← hsb1] at hI
  refine (finish_any (SZ := 2000) (C := 90000) _ L1 LG1 t1 M1 hI hr1 hok1 (by omega) (by omega) hNb hap (by omega) (by omega) hb1 (by rw [hk1, hppk])).mono ?_
  rintro e w3 ⟨⟨v3, rfl⟩, t2, L2, LG2, M2, hfin, hr2, hok2, hsb2, hI2⟩
  refine rV ?_
  replace hI := hI2
  clear hI2
  rw [hsb1] at hI
  refine Wn ?_
  have hrun : RunTo nums n' k' a' t' bk gen t2 := ⟨g0, t1, hpg, hmv, h00, by rw [← hppk]; exact hfin⟩
  have helen := hok2.elen
  have hesb : L2.sb = sb := hsb2.trans hsb1
  replace hI := hIP.turnL hI
  replace hI : Inv NF w0 w3 (B b4 32 zRep :: B b2 25 #[.int .i64 (n' : Int), .int .i64 (k' : Int), .int .i64 (a' : Int), .int .i64 (t' : Int), .bool bk, strV title, strV gen, .int .i64 bud] :: spt L2 t2.st) :=
   Inv.sub (hI.perm List.perm_append_comm) (.cons _ (.cons_cons _ (.cons_cons _ (.cons _ (.cons _ (List.sublist_append_right ..))))))
  have hEv := events_any L2 t2.st (DLs (spt L2 t2.st)) w3 (Inv.fromB (X := [B b4 32 zRep, B b2 25 #[.int .i64 (n' : Int), .int .i64 (k' : Int), .int .i64 (a' : Int), .int .i64 (t' : Int), .bool bk, strV title, strV gen, .int .i64 bud]]) hI) (by omega)
  rw [hesb] at hEv
  refine Wq (V9 rfl (Va [.pointer _] rfl func17 rfl ?_))
  refine hEv.mono ?_
  rintro e w4 ⟨A1, c1, rfl, hJ⟩
  refine rV ?_
  have hI := Inv.callB (X := [B b4 32 zRep, B b2 25 #[.int .i64 (n' : Int), .int .i64 (k' : Int), .int .i64 (a' : Int), .int .i64 (t' : Int), .bool bk, strV title, strV gen, .int .i64 bud]]) hI hJ
  replace hI : Inv NF w0 w4 [B b4 32 zRep, B b2 25 #[.int .i64 (n' : Int), .int .i64 (k' : Int), .int .i64 (a' : Int), .int .i64 (t' : Int), .bool bk, strV title, strV gen, .int .i64 bud], Row 0 70 7 A1 t2.st.evs.length c1 (t2.st.evs.flatMap evL)] := Inv.sub hI (.cons_cons _ (.cons_cons _ (.cons_cons _ (List.nil_sublist _))))
  refine Vo rfl (Wn ?_)
  have hOps := evops_any A1 _ c1 t2.st.evs (fun _ => True) w4 (Rd.of_own hI.g2 (fun _ _ _ => trivial)) (hG.pure hI.pu).err
  cases hev : evF t2.st.evs with
  | none =>
   rw [hev] at hOps
   refine Wq (Vi rfl (Va [.slice _ _ _] rfl func18 rfl ?_))
   refine hOps.mono ?_
   rintro e w5 ⟨hp, U, u, rfl⟩
   refine rV ?_
   have hI := hI.pure hp
   refine Vz rfl (Vg rfl (Vg rfl (Vo rfl (Vp rfl (Wn (Ws (Wq (Vy rfl (Tl rfl yy34 rfl (Wn (Wc true rfl (Ws ?_))))))))))))
   refine Wr (Td [] [_, _, _, _, _] rfl [.string ⟨#[]⟩, .slice none 0 0, .int .i64 0, .slice none 0 0, .int .i64 0] [] rfl (fun _ => by kernel_rfl) (Vy rfl (T7 5 (#[_, _, _, _, _]) (.agg _) hI rfl ?_)))
   intro w hI
   refine Vp rfl (Wn ?_)
   refine WR ?_
   exact hBad hI (.inr (.inr (.inr (.inr (.inr ⟨n', k', a', t', t2, rfl, rfl, rfl, rfl, hrun, .inl hev⟩))))) rfl rfl
  | some ops =>
   rw [hev] at hOps
   refine Wq (Vi rfl (Va [.slice _ _ _] rfl func18 rfl ?_))
   refine hOps.mono ?_
   rintro e w5 ⟨A6, c6, rfl, hT⟩
   refine rV ?_
   have hI := hI.app1 hT
   refine Vz rfl (Vg rfl (Vg rfl (Vo rfl (Vj rfl (Wn (Ws (Wq (T8 rfl (Te rfl yy34 rfl (Wn (Wc false rfl (Wk ?_))))))))))))
   have hChk := chk_any 1 A6 ops.length c6 ops bud (fun _ => True) w5 (Rd.of_own hI.g0 (fun _ _ _ => trivial)) (hG.pure hI.pu).kn
   by_cases hok : OkLin 1 ops bud
   rotate_left
   ·refine Wq (Vi rfl (V7 7 rfl (V5 (.int .i64 _) rfl (hI.c2 rfl) (Va [.int .i64 _, .slice _ _ _, .int .i64 _] rfl func19 rfl ?_))))
    refine hChk.mono ?_
    rintro e w6 (⟨h1, _⟩ | ⟨_, ⟨x, ⟨z, rfl⟩, rfl⟩, hp⟩)
    ·exact absurd h1 hok
    refine rV ?_
    have hI := hI.pure hp
    refine Vz rfl (Vg rfl (Vg rfl (T1 (.agg #[.int .i64 0, .slice none 0 0, .int .i64 0]) (#[.int .i64 0, .slice none 0 0, .int .i64 0]) hI rfl ?_)))
    rintro b12 w - - hI
    refine T7 3 (#[_, _, _]) (.agg _) hI rfl ?_
    intro w hI
    refine Vp rfl (Wn (Ws (Wq (Vy rfl (Tl rfl yy34 rfl (Wn (Wc true rfl (Wq (Td [] [_, _, _, _, _] rfl [.string ⟨#[]⟩, .slice none 0 0, .int .i64 0, .slice none 0 0, .int .i64 0] [] rfl (fun _ => by kernel_rfl) (Vy rfl ?_))))))))))
    refine WL_stw2 (u := .agg _) (vs := #[_, _, _, _, _]) (n := 5) hI rfl rfl rfl rfl rfl rfl (by kernel_rfl) rfl rfl rfl ?_
    intro w hI
    refine Vp rfl (Wn ?_)
    refine WR ?_
    exact hBad (hI.pull 2 rfl) (.inr (.inr (.inr (.inr (.inr ⟨n', k', a', t', t2, rfl, rfl, rfl, rfl, hrun, .inr ⟨ops, hev, hok⟩⟩))))) rfl rfl
   refine Wq (Vi rfl (V7 7 rfl (V5 (.int .i64 _) rfl (hI.c2 rfl) (Va [.int .i64 _, .slice _ _ _, .int .i64 _] rfl func19 rfl ?_))))
   refine hChk.mono ?_
   rintro e w6 (⟨_, A7, c7, rfl, hT⟩ | ⟨h1, _⟩)
   rotate_left
   ·exact absurd hok h1
   refine rV ?_
   have hI := hI.app1 hT
   refine Vz rfl (Vg rfl (Vg rfl (T1 (.agg #[.int .i64 0, .slice none 0 0, .int .i64 0]) (#[.int .i64 0, .slice none 0 0, .int .i64 0]) hI rfl ?_)))
   rintro b12 w - - hI
   refine T7 3 (#[_, _, _]) (.agg _) hI rfl ?_
   intro w hI
   refine Vj rfl (Wn (Ws (Wq (T8 rfl (Te rfl yy34 rfl (Wn (Wc false rfl (Wk (Wq (V7 5 rfl (V5 (.string _) rfl (hI.c4 rfl) ?_)))))))))))
   refine Vi rfl (Tu 3 rfl hI.g0 (Td [(0, .string _), (1, .slice _ _ _), (2, .agg #[_, _, _])] [_, _, _, _, _] rfl [.string ⟨#[]⟩, .slice none 0 0, .int .i64 0, .slice none 0 0, .int .i64 0] [0, 1, 2] rfl (fun _ => by kernel_rfl) ?_))
   refine WL_stw3 (u := .agg _) (vs := #[_, _, _, _, _]) (n := 5) hI rfl rfl rfl rfl rfl rfl (by kernel_rfl) rfl rfl rfl ?_
   intro w hI
   refine Vj rfl (Wn ?_)
   refine WR ?_
   refine retC2 (n := 5) (t := 32) (.inr rfl) rfl rfl (by kernel_rfl) (by kernel_rfl) rfl hI.g3 (.inr ⟨n', k', a', t', t2, ops, A1, c1, A7, c7, rfl, rfl, rfl, rfl, hs, hbud, hrun, helen, hev, hok, rfl, ?_⟩)
   exact (Inv.sub hI (.cons _ (.cons_cons _ (.cons _ (.cons _ (.cons _ (.cons_cons _ (List.nil_sublist _)))))))).perm (.swap ..)
def genT : List UInt8 := [108, 105, 109, 105, 116, 32, 49, 32, 119, 114, 105, 116, 101, 32, 48, 32, 53, 32, 53]
def nodesT : List UInt8 := [110, 111, 100, 101, 115]
def clientsT : List UInt8 := [99, 108, 105, 101, 110, 116, 115]
def quorumT : List UInt8 := [113, 117, 111, 114, 117, 109]
def gennT : List UInt8 := [103, 101, 110]
theorem parsed_genT : parsedT genT = some (.lim 1 (.wr 0 5 5)) := by kernel_rfl
def pC (n k a t : Nat) (gen : List UInt8) : Array Value := #[.int .i64 (n : Int), .int .i64 (k : Int), .int .i64 (a : Int), .int .i64 (t : Int), .bool true, strV [], strV gen, .int .i64 10000]
def two2 (a b : Array Value) : Nat → Array Value
 | 0 => a
 | _ => b
def three3 (a b c : Array Value) : Nat → Array Value
 | 0 => a
 | 1 => b
 | _ => c
section
variable {w0 : World} {H : List Ent} {b : Nat}
theorem lineNodes (w : World) (hI : Inv NF w0 w (B b 25 (pC 0 0 0 0 []) :: H)) (hG : NumG w0) (hM : MaxOk w0) :
  Cq 51 #[.pointer (some ⟨b, 0, none⟩), strV nodesT, strV [51]] w fun e w' => e = .returned .nilIface ∧ Inv NF w0 w' (B b 25 (pC 3 0 0 0 []) :: H) := by
 refine Vn func51 rfl ?_
 refine Wq (Vj rfl (Wn (Ws (Wq (Vh rfl (Wn (Wb (Wq (Ul rfl (V8 rfl ?_))))))))))
 refine Wn (Wc false rfl (Wq (Ul rfl (V8 rfl (Wn (Wc false rfl (Wq (Ul rfl (V8 rfl (Wn (Wc false rfl ?_)))))))))))
 refine Wq (Uj rfl (V8 rfl (Wn (Wc true rfl (Wq (Vh rfl (V9 rfl (Vb rfl (V7 0 rfl (V7 0 rfl (T3 [(0, .pointer _)] [_] [.pointer none] [0] hI rfl yy257 (fun _ => by kernel_rfl) ?_)))))))))))
 rintro b55 w - - hI
 refine Va [.string _, .slice _ _ _] rfl func96 rfl ?_
 refine (numbers_any w0 _ H b _ 25 [51] [[51]] 1 (fun _ => 0) (fun _ => 3) (two2 (pC 0 0 0 0 []) (pC 3 0 0 0 [])) _ hI (fun k hk => ?_) (fun k hk => ?_) (fun k hk => ?_) rfl (by decide) (by decide) (by decide +kernel) (by decide +kernel) hG hM).mono ?_
 ·obtain rfl : k = 0 := by omega
  rfl
 ·obtain rfl : k = 0 := by omega
  exact ⟨rfl, rfl⟩
 ·obtain rfl : k = 0 := by omega
  exact ⟨by decide +kernel, by decide⟩
 rintro e w1 ⟨rfl, hI1⟩
 refine rV ?_
 replace hI := hI1
 refine Vj rfl (Wn ?_)
 exact WR (r1_ 6 rfl ⟨rfl, hI⟩)
theorem lineClients (w : World) (hI : Inv NF w0 w (B b 25 (pC 3 0 0 0 []) :: H)) (hG : NumG w0) (hM : MaxOk w0) :
  Cq 51 #[.pointer (some ⟨b, 0, none⟩), strV clientsT, strV [49]] w fun e w' => e = .returned .nilIface ∧ Inv NF w0 w' (B b 25 (pC 3 1 0 0 []) :: H) := by
 refine Vn func51 rfl ?_
 refine Wq (Vj rfl (Wn (Ws (Wq (Vh rfl (Wn (Wb (Wq (Ul rfl (V8 rfl ?_))))))))))
 refine Wn (Wc false rfl (Wq (Ul rfl (V8 rfl (Wn (Wc false rfl (Wq (Ul rfl (V8 rfl (Wn (Wc false rfl ?_)))))))))))
 refine Wq (Ul rfl (V8 rfl (Wn (Wc false rfl (Wq (Uj rfl (V8 rfl (Wn (Wc true rfl (Ws (Wr ?_)))))))))))
 refine Vh rfl (V9 rfl (Vb rfl (V7 0 rfl (V7 1 rfl (T3 [(0, .pointer _)] [_] [.pointer none] [0] hI rfl yy257 (fun _ => by kernel_rfl) ?_)))))
 rintro b64 w - - hI
 refine Va [.string _, .slice _ _ _] rfl func96 rfl ?_
 refine (numbers_any w0 _ H b _ 25 [49] [[49]] 1 (fun _ => 1) (fun _ => 1) (two2 (pC 3 0 0 0 []) (pC 3 1 0 0 [])) _ hI (fun k hk => ?_) (fun k hk => ?_) (fun k hk => ?_) rfl (by decide) (by decide) (by decide +kernel) (by decide +kernel) hG hM).mono ?_
 ·obtain rfl : k = 0 := by omega
  rfl
 ·obtain rfl : k = 0 := by omega
  exact ⟨rfl, rfl⟩
 ·obtain rfl : k = 0 := by omega
  exact ⟨by decide +kernel, by decide⟩
 rintro e w1 ⟨rfl, hI1⟩
 refine rV ?_
 replace hI := hI1
 refine Vj rfl (Wn ?_)
 exact WR (r1_ 6 rfl ⟨rfl, hI⟩)
theorem lineQuorum (w : World) (hI : Inv NF w0 w (B b 25 (pC 3 1 0 0 []) :: H)) (hG : NumG w0) (hM : MaxOk w0) :
  Cq 51 #[.pointer (some ⟨b, 0, none⟩), strV quorumT, strV [50, 32, 50]] w fun e w' => e = .returned .nilIface ∧ Inv NF w0 w' (B b 25 (pC 3 1 2 2 []) :: H) := by
 refine Vn func51 rfl ?_
 refine Wq (Vj rfl (Wn (Ws (Wq (Vh rfl (Wn (Wb (Wq (Ul rfl (V8 rfl ?_))))))))))
 refine Wn (Wc false rfl (Wq (Ul rfl (V8 rfl (Wn (Wc false rfl (Wq (Ul rfl (V8 rfl (Wn (Wc false rfl ?_)))))))))))
 refine Wq (Ul rfl (V8 rfl (Wn (Wc false rfl (Wq (Ul rfl (V8 rfl (Wn (Wc false rfl (Ws (Wr ?_)))))))))))
 refine Uj rfl (V8 rfl (Wn (Wc true rfl (Ws (Wd (by kernel_rfl) ?_)))))
 refine Wi (T := [10]) hI.drew ?_
 intro Sx hY hZ
 have hI := hI.drew
 refine U6 0 rfl (Vl 1 rfl (Vm 2 rfl (Vf 3 0 rfl (Vf 4 2 rfl (Vl 5 rfl (Vm 6 rfl (Vf 7 0 rfl (Vf 8 3 rfl (Vu 9 rfl ?_)))))))))
 refine T3 [(0, .pointer _), (1, .pointer _)] [_, _] [.pointer none, .pointer none] [0, 1] hI rfl yy257 (fun _ => by kernel_rfl) ?_
 rintro b77 w - - hI
 refine Wn ⟨hZ _ hI.d0, ?_⟩
 refine WT_A (by kernel_rfl) ?_
 clear hZ hY
 refine T2 10 rfl ?_
 refine Va [.string _, .slice _ _ _] rfl func96 rfl ?_
 refine (numbers_any w0 _ H b _ 25 [50, 32, 50] [[50], [50]] 2 (fun k => k + 2) (fun _ => 2) (three3 (pC 3 1 0 0 []) (pC 3 1 2 0 []) (pC 3 1 2 2 [])) _ hI (fun k hk => ?_) (fun k hk => ?_) (fun k hk => ?_) rfl (by decide) (by decide) (by decide +kernel) (by decide +kernel) hG hM).mono ?_
 ·match k, hk with
  | 0, _ => rfl
  | 1, _ => rfl
 ·match k, hk with
  | 0, _ => exact ⟨rfl, rfl⟩
  | 1, _ => exact ⟨rfl, rfl⟩
 ·match k, hk with
  | 0, _ => exact ⟨by decide +kernel, by decide⟩
  | 1, _ => exact ⟨by decide +kernel, by decide⟩
 rintro e w1 ⟨rfl, hI1⟩
 refine rV ?_
 replace hI := hI1
 refine Wn (T2 11 rfl ?_)
 refine Vj rfl (Wn ?_)
 refine WA_end (by kernel_rfl) ?_
 exact WR (r1_ 6 rfl ⟨rfl, hI⟩)
theorem lineGen (w : World) (hI : Inv NF w0 w (B b 25 (pC 3 1 2 2 []) :: H)) (hG : NumG w0) :
  Cq 51 #[.pointer (some ⟨b, 0, none⟩), strV gennT, strV genT] w fun e w' => e = .returned .nilIface ∧ Inv NF w0 w' (B b 25 (pC 3 1 2 2 genT) :: H) := by
 refine Vn func51 rfl ?_
 refine Wq (Vj rfl (Wn (Ws (Wq (Vh rfl (Wn (Wb (Wq (Ul rfl (V8 rfl ?_))))))))))
 refine Wn (Wc false rfl (Wq (Uj rfl (V8 rfl (Wn (Wc true rfl (Wq (V9 rfl (Vh rfl (Vb rfl (V7 6 rfl ?_)))))))))))
 refine Ue (.string _) hI rfl ?_
 intro w hI
 refine Wn (Wq (Vh rfl (Va [.string _] rfl func12 rfl ?_)))
 refine (parse_any genT _ (hG.chg (hI.pu.chg NF) NoG.none) (by decide)).mono ?_
 rintro e w1 (⟨g, v, Lg, hg, rfl, hr0, hT⟩ | ⟨hg, _⟩)
 rotate_left
 ·rw [parsed_genT] at hg; cases hg
 obtain ⟨T, bv, rfl⟩ := hr0.val
 refine rV ?_
 have hI := hI.pure hT.pu
 refine Vz rfl (Vg rfl (Vg rfl (Vp rfl (Vj rfl (Wn (Wq (T8 rfl (Te rfl yy34 rfl (Wn (Wc false rfl (Wk (Ws ?_))))))))))))
 refine Wr (Vj rfl (Wn ?_))
 exact WR (r1_ 6 rfl ⟨rfl, hI⟩)
end
def nmL : List (List UInt8) := [nodesT, clientsT, quorumT, gennT]
def pieL : List (List UInt8) := [nodesT ++ 32 :: [51], clientsT ++ 32 :: [49], quorumT ++ 32 :: [50, 32, 50], gennT ++ 32 :: genT, []]
def triedT : List UInt8 := (nodesT ++ 32 :: [51]) ++ 10 :: ((clientsT ++ 32 :: [49]) ++ 10 :: ((quorumT ++ 32 :: [50, 32, 50]) ++ 10 :: ((gennT ++ 32 :: genT) ++ [10])))
def pK : Nat → Array Value
 | 0 => pC 0 0 0 0 []
 | 1 => pC 3 0 0 0 []
 | 2 => pC 3 1 0 0 []
 | 3 => pC 3 1 2 2 []
 | _ => pC 3 1 2 2 genT
theorem round_facts {w0 : World} {b : Nat} (hG : NumG w0) (hM : MaxOk w0) (k : Nat) (hk : k < 4) : ∃ nm rs, nmL[k]? = some nm ∧ pieL[k]? = some (nm ++ 32 :: rs) ∧ (nm ++ 32 :: rs).length ≤ 100 ∧ Lib.cut (nm ++ 32 :: rs) [32] = (nm, rs, true) ∧ false = decide (nm ∈ nmL.take k) ∧
  ∀ (H : List Ent) (w : World), Inv NF w0 w (B b 25 (pK k) :: H) → Cq 51 #[.pointer (some ⟨b, 0, none⟩), strV nm, strV rs] w fun e w' => e = .returned .nilIface ∧ Inv NF w0 w' (B b 25 (pK (k + 1)) :: H) := by
 match k, hk with
 | 0, _ => exact ⟨nodesT, [51], rfl, rfl, by decide, by decide +kernel, by decide +kernel, fun H w hI => lineNodes w hI hG hM⟩
 | 1, _ => exact ⟨clientsT, [49], rfl, rfl, by decide, by decide +kernel, by decide +kernel, fun H w hI => lineClients w hI hG hM⟩
 | 2, _ => exact ⟨quorumT, [50, 32, 50], rfl, rfl, by decide, by decide +kernel, by decide +kernel, fun H w hI => lineQuorum w hI hG hM⟩
 | 3, _ => exact ⟨gennT, genT, rfl, rfl, by decide, by decide +kernel, by decide +kernel, fun H w hI => lineGen w hI hG⟩
theorem fparse_any (w0 : World) (hG : NumG w0) (hM : MaxOk w0) :
  Cq 20 #[strV triedT] w0 fun en w' => en = .returned (.tuple #[.agg (pC 3 1 2 2 genT), .nilIface]) ∧ Pure w0 w' := by
 have hI := Inv.start (fun _ => False) w0
 refine Vn func20 rfl ?_
 refine Wq (T1 (.agg #[.int .i64 0, .int .i64 0, .int .i64 0, .int .i64 0, .bool false, .string ⟨#[]⟩, .string ⟨#[]⟩, .int .i64 0]) (#[.int .i64 0, .int .i64 0, .int .i64 0, .int .i64 0, .bool false, .string ⟨#[]⟩, .string ⟨#[]⟩, .int .i64 0]) hI rfl ?_)
 rintro b2 w - - hI
 refine Vj rfl (Wn (Ws (Wq (Vh rfl (T0 rfl yy9 rfl ?_)))))
 refine Wv rfl (by exact rGtr rfl rfl rfl) ?_
 refine Wn (Wc false rfl (Wk (Wq (Td [(4, .bool _)] [_, _, _, _, _] rfl [.int .i64 0, .int .i64 0, .int .i64 0, .int .i64 0, .bool false] [4] rfl (fun _ => by kernel_rfl) (Td [(0, .agg #[_, _, _, _, _]), (3, .int .i64 _)] [_, _, _, _, _, _, _, _] rfl [.int .i64 0, .int .i64 0, .int .i64 0, .int .i64 0, .bool false, .string ⟨#[]⟩, .string ⟨#[]⟩, .int .i64 0] [0, 7] rfl (fun _ => by kernel_rfl) (T1 (.agg #[.int .i64 0, .int .i64 0, .int .i64 0, .int .i64 0, .bool false, .string ⟨#[]⟩, .string ⟨#[]⟩, .int .i64 0]) (#[.int .i64 0, .int .i64 0, .int .i64 0, .int .i64 0, .bool false, .string ⟨#[]⟩, .string ⟨#[]⟩, .int .i64 0]) hI rfl ?_))))))
 rintro b4 w - - hI
 refine T7 8 (#[_, _, _, _, _, _, _, _]) (.agg _) hI rfl ?_
 intro w hI
 refine Wn (Wq (Vo rfl (Wn (Wq (Vc rfl (Wn ?_))))))
 refine Wx (fun ρ w => ∃ (A5 : Option Addr) (c5 : Nat), Has ρ [(5, .slice A5 4 c5), (4, .pointer (some ⟨b4, 0, none⟩)), (2, .pointer (some ⟨b2, 0, none⟩)), (0, strV triedT)] ∧ Inv NF w0 w [B b4 25 (pK 4), Row 0 9 1 A5 4 c5 (nmL.map strV), B b2 25 #[.int .i64 0, .int .i64 0, .int .i64 0, .int .i64 0, .bool false, strV [], strV [], .int .i64 0]]) ?_ ?_
 ·refine Wq (Vh rfl (Va [.string _, .string _] rfl func49 rfl ?_))
  refine (splitS_any triedT [10] pieL (by decide) (by decide) (by decide +kernel) (by decide +kernel) _ (hM.pure hI.pu)).mono ?_
  rintro e w1 ⟨g1, rfl, hT⟩
  refine rV ?_
  have hI := hI.app1 hT
  refine Vs rfl yy72 rfl (V0 rfl (Wn ?_))
  replace hI : Inv NF w0 _ [B g1 9 (pieL.map strV).toArray, B b4 25 (pK 0), B b2 25 #[.int .i64 0, .int .i64 0, .int .i64 0, .int .i64 0, .bool false, strV [], strV [], .int .i64 0]] := hI
  have hI0 := (hI.fresh (Pure.refl _) (Row.nil _ 0 9 1) (fun k hk => by simp [Row] at hk)).pull 2 rfl
  refine Wb ?_
  refine Wl (fun mu ρ w => ∃ (k : Nat) (z : Int) (A5 : Option Addr) (c5 : Nat), mu = 5 - k ∧ k ≤ 5 ∧ 0 ≤ z ∧ z ≤ 1000 * k ∧ Has ρ [(26, .int .i64 (k : Int)), (25, .int .i64 5), (24, .slice (some ⟨g1, 0, none⟩) 5 5), (6, .int .i64 z), (5, .slice A5 (min k 4) c5), (4, .pointer (some ⟨b4, 0, none⟩)), (2, .pointer (some ⟨b2, 0, none⟩)), (0, strV triedT)] ∧
    Inv NF w0 w [B b4 25 (pK k), Row 0 9 1 A5 (min k 4) c5 ((nmL.take k).map strV), B g1 9 (pieL.map strV).toArray, B b2 25 #[.int .i64 0, .int .i64 0, .int .i64 0, .int .i64 0, .bool false, strV [], strV [], .int .i64 0]]) 5
   ⟨0, 0, none, 0, rfl, by omega, by omega, by omega, ⟨rfl, rfl, rfl, rfl, rfl, rfl, rfl, rfl, trivial⟩, hI0⟩ ?_
  clear hI hI0
  rintro mu ρ w ⟨k, z, A5, c5, rfl, hk, hz1, hz2, hH, hI⟩
  obtain ⟨σ, rfl⟩ := hH.open
  by_cases hk5 : k < 5
  rotate_left
  ·obtain rfl : k = 5 := by omega
   refine Wq (Vr rfl (Wn (Ws (Wc false rfl ?_))))
   refine WE ?_
   exact ⟨A5, c5, ⟨rfl, rfl, rfl, rfl, trivial⟩, hI.erase 2⟩
  by_cases hk4 : k < 4
  ·obtain ⟨nm, rs, hnm, hpi, hpl, hcut, hcon, hline⟩ := round_facts (b := b4) hG hM k hk4
   have hcp : (pieL.map strV).toArray[k]? = some (strV (nm ++ 32 :: rs)) := by rw [List.getElem?_toArray, List.getElem?_map, hpi]; rfl
   have hmin : min k 4 = k := by omega
   have htl : (nmL.take k).length = k := by rw [List.length_take]; exact hmin
   have hnx : (nmL.take (k + 1)).map strV = (nmL.take k).map strV ++ [strV nm] := by rw [List.take_add_one, hnm, List.map_append]; rfl
   have hne : nm ++ 32 :: rs ≠ [] := by simp
   rw [hmin] at hI ⊢
   refine Wq (Vt rfl (Wn (Ws (Wc true rfl (Wk (Ws (Wb (Wq (Tp rfl yy72 rfl (V5 (.string _) rfl (hI.c2 hcp) (T4 rfl ?_)))))))))))
   refine Wn (Ws (Wq (Vh rfl ?_)))
   refine Wv rfl (by exact rStrNeT rfl rfl rfl (by assumption)) ?_
   refine Wn (Wc true rfl (Wq (Vh rfl (Va [.string _, .string _] rfl func50 rfl ?_))))
   refine (cutS_any (nm ++ 32 :: rs) [32] nm rs true (by omega) hcut _ (hM.pure hI.pu)).mono (okP hI fun w1 hp1 hI => ?_)
   refine Vz rfl (Vg rfl (Vg rfl (Vg rfl (T4 rfl (T4 rfl (V8 rfl (Wn (Wq (Vh rfl (Vh rfl (Va [.pointer _, .string _, .string _] rfl func51 rfl ?_)))))))))))
   refine (hline _ _ hI).mono ?_
   rintro e w1 ⟨rfl, hI1⟩
   refine rV ?_
   replace hI := hI1
   clear hI1
   refine Vj rfl (Wn ?_)
   have hC := fun (w : World) (hI : Inv NF w0 w [B b4 25 (pK (k + 1)), Row 0 9 1 A5 k c5 ((nmL.take k).map strV), B g1 9 (pieL.map strV).toArray, B b2 25 #[.int .i64 0, .int .i64 0, .int .i64 0, .int .i64 0, .bool false, strV [], strV [], .int .i64 0]]) =>
    conS_any A5 c5 (nmL.take k) nm (fun _ => True) w (by rw [htl]; exact Rd.of_own hI.g1 (fun _ _ _ => trivial)) (by omega) false hcon
   rw [htl] at hC
   refine Ws (Wq (T8 rfl ?_))
   refine Wv rfl (by exact rNilEq rfl yy34 rfl) ?_
   refine V6 rfl (Vi rfl (Vh rfl (Va [.slice _ _ _, .string _] rfl func52 rfl ?_)))
   refine (hC _ hI).mono (okP hI fun w1 hp1 hI => ?_)
   refine Vk rfl (Wn (Wc false rfl (Wk (Ws (Wq (T8 rfl (Te rfl yy34 rfl (Wn (Wc false rfl (Wk (Wr (Vi rfl ?_))))))))))))
   refine Vh rfl (T3 [(0, .string _)] [_] [.string ⟨#[]⟩] [0] hI rfl yy72 (fun _ => by kernel_rfl) ?_)
   rintro b60 w - - hI
   refine WL_app2 (z := .string ⟨#[]⟩) (by_ := 16) hI rfl rfl rfl rfl rfl rfl yy72 (by kernel_rfl) rfl (by omega) (by rfl) hI.lit0 (by rfl) (by omega) (by omega) (by exact Nat.zero_le _) ?_
   rintro A61 c61 w hA61 hc61 hI
   have hI := hI.d0
   refine Vo rfl (Wn (Wr (V0 rfl (Vh rfl (T0 rfl yy9 rfl (Vv rfl (Ud rfl (Vc rfl (Wn (Wr (Vv rfl (V0 rfl (Wn ?_)))))))))))))
   refine ⟨5 - (k + 1), by omega, k + 1, z + (((nm ++ 32 :: rs).length : Int) + 1), A61, c61, rfl, by omega, by omega, by omega, ⟨rfl, rfl, rfl, rfl, ?_, rfl, rfl, rfl, trivial⟩, ?_⟩
   ·rw [show min (k + 1) 4 = k + 1 by omega]; rfl
   rw [show min (k + 1) 4 = k + 1 by omega, hnx]; exact hI
  obtain rfl : k = 4 := by omega
  have hcp : (pieL.map strV).toArray[4]? = some (strV []) := rfl
  refine Wq (Vt rfl (Wn (Ws (Wc true rfl (Wk (Ws (Wb (Wq (Tp rfl yy72 rfl (V5 (.string _) rfl (hI.c2 hcp) (T4 rfl ?_)))))))))))
  refine Wn (Ws (Wq (Vh rfl ?_)))
  refine Wv rfl (by exact rStrNeF rfl rfl rfl (by decide)) ?_
  refine Wn (Wc false rfl (Wk (Wr (V0 rfl (Vh rfl (T0 rfl yy9 rfl ?_))))))
  refine Wv rfl (by exact rAddW rfl rfl rfl) ?_
  refine Wv rfl (by exact rAddW rfl rfl rfl) ?_
  refine Vc rfl (Wn (Wr (Vv rfl (V0 rfl (Wn ?_)))))
  have hw1 : IntKind.i64.wrap (((0 : Nat) : Int) + 1) = 1 := wrap64_in (by omega) (by omega)
  have hw2 : IntKind.i64.wrap (z + 1) = z + 1 := wrap64_in (by omega) (by omega)
  refine ⟨5 - (4 + 1), by omega, 5, _, A5, c5, rfl, by omega, ?_, ?_, ⟨rfl, rfl, rfl, rfl, rfl, rfl, rfl, rfl, trivial⟩, hI⟩
  ·show 0 ≤ IntKind.i64.wrap (z + IntKind.i64.wrap (((0 : Nat) : Int) + 1))
   rw [hw1, hw2]; omega
  show IntKind.i64.wrap (z + IntKind.i64.wrap (((0 : Nat) : Int) + 1)) ≤ _
  rw [hw1, hw2]; omega
 clear hI
 rintro ρ w ⟨A5, c5, hH, hI⟩
 obtain ⟨σ, rfl⟩ := hH.open
 refine Wx (fun ρ w => Has ρ [(4, .pointer (some ⟨b4, 0, none⟩)), (2, .pointer (some ⟨b2, 0, none⟩))] ∧ Inv NF w0 w [B b4 25 (pK 4), Row 0 9 1 A5 4 c5 (nmL.map strV), B b2 25 #[.int .i64 0, .int .i64 0, .int .i64 0, .int .i64 0, .bool false, strV [], strV [], .int .i64 0]]) ?_ ?_
 ·refine Wq (T3 [(0, .string _), (1, .string _), (2, .string _), (3, .string _)] [_, _, _, _] [.string ⟨#[]⟩, .string ⟨#[]⟩, .string ⟨#[]⟩, .string ⟨#[]⟩] [0, 1, 2, 3] hI rfl yy72 (fun _ => by kernel_rfl) ?_)
  rintro b68 w - - hI
  refine Vs rfl yy72 rfl (V0 rfl (Wn (Wb ?_)))
  refine Wl (fun mu ρ w => ∃ k : Nat, mu = 4 - k ∧ k ≤ 4 ∧ Has ρ [(70, .int .i64 (k : Int)), (69, .int .i64 4), (68, .slice (some ⟨b68, 0, none⟩) 4 4), (5, .slice A5 4 c5), (4, .pointer (some ⟨b4, 0, none⟩)), (2, .pointer (some ⟨b2, 0, none⟩))] ∧
    Inv NF w0 w [B b68 9 (nmL.map strV).toArray, B b4 25 (pK 4), Row 0 9 1 A5 4 c5 (nmL.map strV), B b2 25 #[.int .i64 0, .int .i64 0, .int .i64 0, .int .i64 0, .bool false, strV [], strV [], .int .i64 0]]) 4
   ⟨0, rfl, by omega, ⟨rfl, rfl, rfl, rfl, rfl, rfl, trivial⟩, hI⟩ ?_
  clear hI
  rintro mu ρ w ⟨k, rfl, hk, hH, hI⟩
  obtain ⟨σ, rfl⟩ := hH.open
  by_cases hk4 : k < 4
  rotate_left
  ·obtain rfl : k = 4 := by omega
   refine Wq (Vr rfl (Wn (Ws (Wc false rfl ?_))))
   refine WE ?_
   exact ⟨⟨rfl, rfl, trivial⟩, hI.d0⟩
  obtain ⟨nm, rs, hnm, -⟩ := round_facts (b := b4) hG hM k hk4
  have hcp : (nmL.map strV).toArray[k]? = some (strV nm) := by rw [List.getElem?_toArray, List.getElem?_map, hnm]; rfl
  refine Wq (Vt rfl (Wn (Ws (Wc true rfl (Wk (Ws (Wb (Wq (Tp rfl yy72 rfl (V5 (.string _) rfl (hI.c0 hcp) (T4 rfl ?_)))))))))))
  refine Wn (Wq (Vi rfl (Vh rfl (Va [.slice _ _ _, .string _] rfl func52 rfl ?_))))
  refine (conS_any A5 c5 nmL nm (fun _ => True) _ (Rd.of_own hI.g2 (fun _ _ _ => trivial)) (by decide) true (by rw [decide_eq_true (List.mem_of_getElem? hnm)])).mono (okP hI fun w1 hp1 hI => ?_)
  refine T9 rfl (Wn (Wc false rfl (Wk (Wr (Vv rfl (V0 rfl (Wn ?_)))))))
  exact ⟨4 - (k + 1), by omega, k + 1, rfl, by omega, ⟨rfl, rfl, rfl, rfl, rfl, rfl, trivial⟩, hI⟩
 clear hI
 rintro ρ w ⟨hH, hI⟩
 obtain ⟨σ, rfl⟩ := hH.open
 have hSet : ∀ (w : World), Inv NF w0 w [B b4 25 (pK 4), Row 0 9 1 A5 4 c5 (nmL.map strV), B b2 25 #[.int .i64 0, .int .i64 0, .int .i64 0, .int .i64 0, .bool false, strV [], strV [], .int .i64 0]] → ∀ (j : Nat) (u : Value), [.int .i64 3, .int .i64 1, .int .i64 2, .int .i64 2, .bool true][j]? = some u → w.cell? ⟨b4, 0 + j, none⟩ = some u := by
  intro w hI j u hj
  rw [Nat.zero_add]
  refine hI.c0 ?_
  match j, hj with
  | 0, h => exact h
  | 1, h => exact h
  | 2, h => exact h
  | 3, h => exact h
  | 4, h => exact h
  | j + 5, h => simp at h
 refine Ws (Wq (V7 0 rfl (Ug 5 [.int .i64 3, .int .i64 1, .int .i64 2, .int .i64 2, .bool true] rfl (hSet _ hI) (Va [.agg _] rfl func30 rfl ?_))))
 refine (scheck_any 3 1 2 2 true _).mono ?_
 rintro e w1 ⟨⟨_, rfl⟩ | ⟨hb, _⟩, hp⟩
 rotate_left
 ·exact absurd (by decide) hb
 refine rV ?_
 have hI := hI.pure hp
 refine Vj rfl (Wn (Wq (T8 rfl (Te rfl yy34 rfl (Wn (Wc false rfl (Wk (Wq (Tu 8 rfl hI.g0 ?_)))))))))
 refine WL_stw2 (u := .agg _) (vs := #[_, _, _, _, _, _, _, _]) (n := 8) hI rfl rfl rfl rfl rfl rfl (by kernel_rfl) rfl rfl rfl ?_
 intro w hI
 refine Vj rfl (Wn ?_)
 refine WR ?_
 exact retC2 (n := 8) (t := 25) (.inr rfl) rfl rfl (by kernel_rfl) (by kernel_rfl) rfl hI.g2 ⟨rfl, hI.pu⟩
end Go.Proofs.YtlkobbighkiojaaGreatDoor
namespace Go.Proofs.YtlkobbighkiojaaGreatDoor
open Tryz
def delAll : Nat → StS → StS
 | 0, s => s
 | n + 1, s => match s.mails with
  | [] => s
  | m :: _ => delAll n (deliverF s 0 m)
theorem DelR.eq : ∀ (n : Nat) (s s' : StS), DelR s s' → (delAll n s).mails = [] → s' = delAll n s
 | 0, s, s', h, hn => by
  cases h with
  | nil _ => rfl
  | step hm _ =>
   have hn : s.mails = [] := hn
   rw [hn] at hm
   cases hm
 | n + 1, s, s', h, hn => by
  cases h with
  | nil h0 => unfold delAll; rw [h0]
  | @step _ _ m hm hd =>
   obtain ⟨r, hr⟩ : ∃ r, s.mails = m :: r := by
    cases hs : s.mails with
    | nil => rw [hs] at hm; cases hm
    | cons a r =>
     rw [hs] at hm
     exact ⟨r, by rw [Option.some.inj hm]⟩
   have e : delAll (n + 1) s = delAll n (deliverF s 0 m) := by
    show (match s.mails with | [] => s | m :: _ => delAll n (deliverF s 0 m)) = _
    rw [hr]
   rw [e] at hn ⊢
   exact DelR.eq n _ s' hd hn
def sT0 : StS := s0 3 1 2 2 true
def sT1 : StS := begS sT0 0 0 true 5
def sT2 : StS := delAll 30 sT1
def evT2 : List Ev := [⟨0, 1, 0, 2, 5, 0, 0⟩, ⟨0, 2, 0, 2, 5, 0, 0⟩]
theorem sT2_mails : sT2.mails = [] := by kernel_rfl
theorem sT2_evs : sT2.evs = evT2 := by kernel_rfl
theorem sT0_mails : sT0.mails = [] := by kernel_rfl
def opsT : List Op8 := [⟨0, 0, 2, 5, 0, 0, 0, 1⟩]
theorem evF_T : evF evT2 = some opsT := by decide +kernel
theorem ver_T : (verdF 1 opsT befB 10000).1 = 1 := by decide +kernel
theorem okLin_T : OkLin 1 opsT 10000 := by
 refine ⟨by decide, by decide, by decide, by decide, ⟨by decide, fun k hk => ?_⟩, fun k hk => ?_⟩
 ·obtain rfl : k = 0 := by have : k < 1 := hk; omega
  unfold OkOp ordOk twiceAt
  decide +kernel
 obtain rfl : k = 0 := by have : k < 1 := hk; omega
 decide +kernel
theorem mayB_T : MayB sT0 ((0 : Nat) : Int) 0 := ⟨rfl, by decide, rfl, rfl, by decide⟩
theorem nx_T : Nx [] (.lim 1 (.wr 0 5 5)) 0 (some (true, 0, 5)) (.lim 0 (.wr 0 5 5)) 1 := by
 have h := @Nx.lim [] (.wr 0 5 5) 0 _ _ _ 0 .wr
 have e : (5 : Int) + belF [] 0 (5 - 5 + 1) = 5 := by decide +kernel
 rw [e] at h
 exact h
theorem RndR.one {nums : List Int} {t t' : Tr} {m m' : Bool} (h : RndR nums 1 0 t m t' m') : ∃ r, BegR nums t ((0 : Nat) : Int) r t' ∧ m' = (r || m) := by
 cases h with
 | step hi hb h2 =>
  cases h2 with
  | done => exact ⟨_, hb, rfl⟩
  | step hi2 _ _ => omega
theorem run_T {t2 : Tr} {gT : List UInt8} (hpg : parsedT gT = some (.lim 1 (.wr 0 5 5))) (h : RunTo [] 3 1 2 2 true gT t2) : t2.st = sT2 := by
 obtain ⟨g, t1, hg, -, ht1, hfin⟩ := h.go
 rw [hpg] at hg
 obtain rfl := Option.some.inj hg
 have ht1 := ht1 rfl
 subst ht1
 have key : ∀ (s1 : StS) (t' : Tr) (m : Bool), DelR sT0 s1 → RndR [] 1 0 ⟨s1, .lim 1 (.wr 0 5 5), 0, 0, false⟩ false t' m → t' = ⟨sT1, .lim 0 (.wr 0 5 5), 1, 1, false⟩ ∧ m = true := by
  intro s1 t' m hd hr
  obtain rfl : s1 = sT0 := DelR.eq 0 _ _ hd sT0_mails
  obtain ⟨r, hb, rfl⟩ := hr.one
  rcases hb with ⟨hbad, _, _⟩ | ⟨_, _, c', hm, rr, g', u', hnx, hc⟩
  ·rcases hbad with h | h | h
   ·cases h
   ·exact absurd h (by show ¬ 40 ≤ 0; omega)
   exact absurd mayB_T (h 0)
  obtain ⟨e1, e2, e3⟩ := hnx.det nx_T
  subst e1 e2 e3
  have hc0 : c' = 0 := by have := hm.eq; omega
  subst hc0
  rcases hc with ⟨h, _⟩ | ⟨w, k, v, h, hh⟩
  ·cases h
  injection h with h
  injection h with h1 h2
  injection h2 with h2 h3
  subst h1 h2 h3
  rcases hh with ⟨hno, _⟩ | ⟨_, rfl, rfl⟩
  ·exact absurd ⟨⟨by omega, by omega⟩, ⟨by omega, by omega⟩, fun h => by cases h⟩ hno
  exact ⟨rfl, rfl⟩
 have key2 : ∀ (s1 : StS) (t' : Tr) (m : Bool), DelR sT1 s1 → RndR [] 1 0 ⟨s1, .lim 0 (.wr 0 5 5), 1, 1, false⟩ false t' m → t'.st = sT2 ∧ m = false := by
  intro s1 t' m hd hr
  obtain rfl : s1 = sT2 := DelR.eq 30 _ _ hd sT2_mails
  obtain ⟨r, hb, rfl⟩ := hr.one
  rcases hb with ⟨_, rfl, rfl⟩ | ⟨_, _, c', hm, rr, g', u', hnx, hc⟩
  ·exact ⟨rfl, rfl⟩
  obtain ⟨e1, e2, e3⟩ := hnx.det .lim0
  subst e1 e2 e3
  rcases hc with ⟨_, rfl, rfl⟩ | ⟨w, k, v, h, _⟩
  ·exact ⟨rfl, rfl⟩
  cases h
 cases hfin with
 | last hd hr =>
  have := (key _ _ _ hd hr).2
  cases this
 | more hd hr hfin =>
  obtain ⟨rfl, -⟩ := key _ _ _ hd hr
  cases hfin with
  | last hd hr => exact (key2 _ _ _ hd hr).1
  | more hd hr _ =>
   have := (key2 _ _ _ hd hr).2
   cases this
end Go.Proofs.YtlkobbighkiojaaGreatDoor
