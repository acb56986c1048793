/- linear: search.key. -/
import Derived.Test.YtijgkocolajghaaDoorStr2
import Derived.Test.YtijgkocolajghaaDoorLin5
namespace Go.Proofs.YtijgkocolajghaaDoor
open Go.RowKit
set_option linter.unusedVariables false
set_option linter.unusedSimpArgs false
/-- The states' slices. -/
def stL (L : Loc) (sts : Nat → List Int) : List Value := (List.range 8).map fun k => Value.slice (L k).1 (sts k).length (L k).2
theorem stL_get {L : Loc} {sts : Nat → List Int} {k : Nat} (hk : k < 8) : (stL L sts).toArray[k]? = some (.slice (L k).1 (sts k).length (L k).2) := by
  unfold stL
  rw [List.getElem?_toArray, List.getElem?_map, List.getElem?_range hk]
  rfl
def bitsF (dn : Nat → Bool) (j : Nat) : List Nat := (List.range j).map fun i => bitF (dn i)
theorem bitsF_succ (dn : Nat → Bool) (j : Nat) : bitsF dn (j + 1) = bitsF dn j ++ [bitF (dn j)] := by simp [bitsF, List.range_succ]
def encQ (l : List Int) (q : Nat) : List Nat := (l.take q).flatMap fun n => 32 :: itoa36 n
theorem encQ_succ {l : List Int} {q : Nat} (hq : q < l.length) : encQ l (q + 1) = encQ l q ++ [32] ++ itoa36 l[q] := by
  unfold encQ
  rw [List.take_succ_eq_append_getElem hq, List.flatMap_append, List.append_assoc]
  simp only [List.flatMap_cons, List.flatMap_nil, List.append_nil]
  rfl
theorem encQ_all (l : List Int) : encQ l l.length ++ [124] = encL l := by unfold encQ encL; rw [List.take_length]
theorem encS_succ (sts : Nat → List Int) (k : Nat) : encS sts (List.range (k + 1)) = encS sts (List.range k) ++ encL (sts k) := by simp [encS, List.range_succ]
theorem encQ_len (l : List Int) : ∀ q, (encQ l q).length ≤ 16 * q := by
  intro q
  induction q with
  | zero => simp [encQ]
  | succ q ih =>
    rcases Nat.lt_or_ge q l.length with h | h
    · rw [encQ_succ h]
      have := itoa_len l[q]
      simp
      omega
    · have : encQ l (q + 1) = encQ l q := by unfold encQ; rw [List.take_of_length_le h, List.take_of_length_le (by omega)]
      rw [this]; omega
theorem encL_len (l : List Int) : (encL l).length ≤ 16 * l.length + 1 := by
  rw [← encQ_all]
  have := encQ_len l l.length
  simp
  omega
theorem encS_len {sts : Nat → List Int} {m : Nat} (h : ∀ k, (sts k).length ≤ m) : ∀ k, (encS sts (List.range k)).length ≤ k * (16 * m + 1) := by
  intro k
  induction k with
  | zero => simp [encS]
  | succ k ih =>
    rw [encS_succ, List.length_append, Nat.add_mul, Nat.one_mul]
    have h1 := encL_len (sts k)
    have h2 := h k
    omega
theorem BytE.snoc {base c : Nat} {A : Option Addr} {l : List Nat} {b : Nat} : BytE base A c (l ++ [b]) = Row base 5 1 A (l.length + 1) c (bytC l ++ [.int .u8 (b : Int)]) := by
  unfold BytE
  rw [bytC_app, List.length_append]
  rfl
theorem rMulN {P : Program} {ρ : Env} {oo : Oper} {w : World} {x y : Operand} {t t' : TypeId} {a b : Nat} (ho : oo.op = .binOp .mul t x y t') (hx : ev ρ x = .int .i64 (a : Int)) (hy : ev ρ y = .int .i64 (b : Int)) (h : a * b ≤ 9223372036854775807) : Runs P ρ oo w (.int .i64 ((a * b : Nat) : Int)) := by
  have hn : (0 : Int) ≤ (a : Int) * (b : Int) := by rw [← Int.natCast_mul]; omega
  have hm : (a : Int) * (b : Int) ≤ 9223372036854775807 := by rw [← Int.natCast_mul]; omega
  have := rMul (P := P) (w := w) ho hx hy ⟨by omega, hm⟩
  rwa [← Int.natCast_mul] at this
set_option maxHeartbeats 4000000 in
theorem skey_any (sb : Nat) (A : Option Addr) (c n db : Nat) (dn : Nat → Bool) (L : Loc) (sts : Nat → List Int) (w0 : World) (h1 : w0.cell? ⟨sb, 1, none⟩ = some (.slice A n c)) (h4 : w0.cell? ⟨sb, 4, none⟩ = some (.slice (some ⟨db, 0, none⟩) n n)) (hd : Blk w0 db 4 (boolC n dn))
    (h6 : ∀ (j : Nat) (u : Value), (stL L sts)[j]? = some u → w0.cell? ⟨sb, 6 + j, none⟩ = some u) (hst : ∀ k, k < 8 → Rd w0 (fun _ => True) 1 (.slice (L k).1 (sts k).length (L k).2) (sts k).length (i64s (sts k))) (hn : n ≤ 100) (hi : ∀ k, ∀ x ∈ sts k, i64B x) (hlen : ∀ k, (sts k).length ≤ 100) :
    Calls Tryd.prog 37 #[.pointer (some ⟨sb, 0, none⟩)] w0 fun en w' => en = .returned (.string (strB (keyF n dn sts))) ∧ Pure w0 w' := by
  have hI := Inv.start (fun _ => False) w0
  refine calls_of_W (N := Tryd.f37.ntmps) Tryd.func37 rfl rfl rfl ?_
  refine W_seq ?_
  refine W_region ?_
  refine WL_val rfl rfl rfl (by first | exact rAsgnStr rfl rfl | exact rAsgn rfl) ?_
  refine WL_nil ?_
  refine W_seq ?_
  refine W_region ?_
  refine WL_val rfl rfl rfl (by first | exact rMoveP rfl rfl | exact rMove rfl) ?_
  refine WL_val rfl rfl rfl (rNilChk rfl rfl) ?_
  refine WL_val rfl rfl rfl (by first | exact rFldN (off := 1) rfl (by kernel_rfl) rfl | exact rFld (off := 1) rfl (by kernel_rfl) rfl) ?_
  refine WL_val rfl rfl rfl (by first | exact rLd (v := .slice _ _ _) rfl (by kernel_rfl) rfl (by first | exact hI.oldp h1 | exact h1) | exact rLd rfl (by kernel_rfl) rfl (by first | exact hI.oldp h1 | exact h1)) ?_
  refine WL_val rfl rfl rfl (rLen rfl Tryd.underlying22 rfl) ?_
  refine WL_val rfl rfl rfl (rMulN (a := 2) (b := n) rfl rfl rfl (by omega)) ?_
  refine WL_mkCap (zv := .int .u8 0) (by_ := 1) (base := 0) hI rfl rfl rfl rfl rfl rfl Tryd.underlying111 (by kernel_rfl) (by omega) (by omega) (Nat.zero_le _) ?_
  clear hI; rintro b16 w _ _ hI
  refine WL_val rfl rfl rfl (by first | exact rAsgnS rfl rfl | exact rAsgn rfl) ?_
  refine WL_nil ?_
  replace hI : Inv (fun _ => False) w0 w [BytE 0 (some ⟨b16, 0, none⟩) (2 * n) (bitsF dn 0)] := hI
  refine W_seq_cut (fun ρ w => ∃ (A3 : Option Addr) (c3 : Nat), Has ρ [(3, .slice A3 (bitsF dn n).length c3), (0, .pointer (some ⟨sb, 0, none⟩))] ∧ Inv (fun _ => False) w0 w [BytE 0 A3 c3 (bitsF dn n)]) ?_ ?_
  · refine W_seq ?_
    refine W_region ?_
    refine WL_val rfl rfl rfl (by first | exact rMoveP rfl rfl | exact rMove rfl) ?_
    refine WL_val rfl rfl rfl (rNilChk rfl rfl) ?_
    refine WL_val rfl rfl rfl (by first | exact rFldN (off := 4) rfl (by kernel_rfl) rfl | exact rFld (off := 4) rfl (by kernel_rfl) rfl) ?_
    refine WL_val rfl rfl rfl (by first | exact rLd (v := .slice _ _ _) rfl (by kernel_rfl) rfl (by first | exact hI.oldp h4 | exact h4) | exact rLd rfl (by kernel_rfl) rfl (by first | exact hI.oldp h4 | exact h4)) ?_
    refine WL_val rfl rfl rfl (rLen rfl Tryd.underlying60 rfl) ?_
    refine WL_val rfl rfl rfl (by first | exact rMoveI rfl rfl | exact rMove rfl) ?_
    refine WL_nil ?_
    refine W_block ?_
    refine W_loopN (fun mu ρ w => ∃ (k : Nat) (A3 : Option Addr) (c3 : Nat), mu = n - k ∧ k ≤ n ∧ Has ρ [(22, .int .i64 (k : Int)), (21, .int .i64 (n : Int)), (20, .slice (some ⟨db, 0, none⟩) n n), (3, .slice A3 (bitsF dn k).length c3), (0, .pointer (some ⟨sb, 0, none⟩))] ∧ Inv (fun _ => False) w0 w [BytE 0 A3 c3 (bitsF dn k)]) n
      ⟨0, _, _, rfl, by omega, ⟨rfl, rfl, rfl, rfl, rfl, trivial⟩, hI⟩ ?_
    clear hI
    rintro mu ρ w ⟨k, A3, c3, rfl, hk, hH, hI⟩
    obtain ⟨σ, rfl⟩ := hH.open
    have hbl : (bitsF dn k).length = k := by simp [bitsF]
    by_cases hkn : k < n
    rotate_left
    · obtain rfl : k = n := by omega
      refine W_seq ?_
      refine W_region ?_
      refine WL_val rfl rfl rfl (by first | exact rLssT rfl rfl rfl (by omega) | exact rLssF rfl rfl rfl (by omega) | exact rLss rfl rfl rfl) ?_
      refine WL_nil ?_
      refine W_seq ?_
      refine W_cond false rfl ?_
      refine W_exit ?_
      exact ⟨A3, c3, ⟨rfl, rfl, trivial⟩, hI⟩
    have hdg := (hd.cell k).trans (boolC_get (n := n) dn hkn)
    cases hdn : dn k with
    | true =>
      rw [hdn] at hdg
      refine W_seq ?_
      refine W_region ?_
      refine WL_val rfl rfl rfl (by first | exact rLssT rfl rfl rfl (by omega) | exact rLssF rfl rfl rfl (by omega) | exact rLss rfl rfl rfl) ?_
      refine WL_nil ?_
      refine W_seq ?_
      refine W_cond true rfl ?_
      refine W_skip ?_
      refine W_seq ?_
      refine W_block ?_
      refine W_seq ?_
      refine W_region ?_
      refine WL_val rfl rfl rfl (by first | exact rIdx0 rfl Tryd.underlying60 (by kernel_rfl) rfl rfl rfl (by omega) | exact rIdx1 rfl Tryd.underlying60 (by kernel_rfl) rfl rfl (by omega)) ?_
      refine WL_val rfl rfl rfl (by first | exact rLd (v := .bool _) rfl (by kernel_rfl) rfl (by first | exact hI.oldp hdg | exact hdg | exact (hI.oldp (at_idx hdg))) | exact rLd rfl (by kernel_rfl) rfl (by first | exact hI.oldp hdg | exact hdg | exact (hI.oldp (at_idx hdg)))) ?_
      refine WL_val rfl rfl rfl (by first | exact rAsgnB rfl rfl | exact rAsgn rfl) ?_
      refine WL_nil ?_
      refine W_seq ?_
      refine W_region ?_
      refine WL_val rfl rfl rfl (by first | exact rMoveB rfl rfl | exact rMove rfl) ?_
      refine WL_nil ?_
      refine W_cond true rfl ?_
      refine W_region ?_
      refine WL_val rfl rfl rfl (by first | exact rMoveS rfl rfl | exact rMove rfl) ?_
      refine WL_lit (vs := [_]) (qs := [(0, .int .u8 _)]) [.int .u8 0] [0] hI rfl rfl rfl rfl rfl rfl Tryd.underlying111 (fun _ => by kernel_rfl) ?_
      clear hI; rintro b28 w - - hI
      first | refine WL_app1 (z := .int .u8 0) (by_ := 1) hI rfl rfl rfl rfl rfl rfl Tryd.underlying111 (by kernel_rfl) rfl (by omega) (by rfl) hI.lit0 (by first | rfl | simp [i64s, Value.oneCell']) (by omega) (by omega) (by first | exact Nat.zero_le _ | (have := hI.chg.size; omega)) ?_
      clear hI; rintro A29 c29 w hA29 hc29 hI
      replace hI := hI.d0
      refine WL_val rfl rfl rfl (by first | exact rAsgnS rfl rfl | exact rAsgn rfl) ?_
      refine WL_nil ?_
      replace hI : Inv (fun _ => False) w0 w [BytE 0 A29 c29 (bitsF dn (k + 1))] := by
        rw [bitsF_succ, hdn, BytE.snoc]; exact hI
      refine W_region ?_
      refine WL_val rfl rfl rfl (by first | exact rInc rfl rfl rfl (by omega) | exact rAdd rfl rfl rfl (by omega) | exact rAddW rfl rfl rfl) ?_
      refine WL_val rfl rfl rfl (by first | exact rMoveI rfl rfl | exact rMove rfl) ?_
      refine WL_nil ?_
      exact ⟨n - (k + 1), by omega, k + 1, A29, c29, rfl, by omega, ⟨rfl, rfl, rfl, by rw [bitsF_succ, List.length_append]; rfl, rfl, trivial⟩, hI⟩
    | false =>
      rw [hdn] at hdg
      refine W_seq ?_
      refine W_region ?_
      refine WL_val rfl rfl rfl (by first | exact rLssT rfl rfl rfl (by omega) | exact rLssF rfl rfl rfl (by omega) | exact rLss rfl rfl rfl) ?_
      refine WL_nil ?_
      refine W_seq ?_
      refine W_cond true rfl ?_
      refine W_skip ?_
      refine W_seq ?_
      refine W_block ?_
      refine W_seq ?_
      refine W_region ?_
      refine WL_val rfl rfl rfl (by first | exact rIdx0 rfl Tryd.underlying60 (by kernel_rfl) rfl rfl rfl (by omega) | exact rIdx1 rfl Tryd.underlying60 (by kernel_rfl) rfl rfl (by omega)) ?_
      refine WL_val rfl rfl rfl (by first | exact rLd (v := .bool _) rfl (by kernel_rfl) rfl (by first | exact hI.oldp hdg | exact hdg | exact (hI.oldp (at_idx hdg))) | exact rLd rfl (by kernel_rfl) rfl (by first | exact hI.oldp hdg | exact hdg | exact (hI.oldp (at_idx hdg)))) ?_
      refine WL_val rfl rfl rfl (by first | exact rAsgnB rfl rfl | exact rAsgn rfl) ?_
      refine WL_nil ?_
      refine W_seq ?_
      refine W_region ?_
      refine WL_val rfl rfl rfl (by first | exact rMoveB rfl rfl | exact rMove rfl) ?_
      refine WL_nil ?_
      refine W_cond false rfl ?_
      refine W_region ?_
      refine WL_val rfl rfl rfl (by first | exact rMoveS rfl rfl | exact rMove rfl) ?_
      refine WL_lit (vs := [_]) (qs := [(0, .int .u8 _)]) [.int .u8 0] [0] hI rfl rfl rfl rfl rfl rfl Tryd.underlying111 (fun _ => by kernel_rfl) ?_
      clear hI; rintro b31 w - - hI
      first | refine WL_app1 (z := .int .u8 0) (by_ := 1) hI rfl rfl rfl rfl rfl rfl Tryd.underlying111 (by kernel_rfl) rfl (by omega) (by rfl) hI.lit0 (by first | rfl | simp [i64s, Value.oneCell']) (by omega) (by omega) (by first | exact Nat.zero_le _ | (have := hI.chg.size; omega)) ?_
      clear hI; rintro A32 c32 w hA32 hc32 hI
      replace hI := hI.d0
      refine WL_val rfl rfl rfl (by first | exact rAsgnS rfl rfl | exact rAsgn rfl) ?_
      refine WL_nil ?_
      replace hI : Inv (fun _ => False) w0 w [BytE 0 A32 c32 (bitsF dn (k + 1))] := by
        rw [bitsF_succ, hdn, BytE.snoc]; exact hI
      refine W_region ?_
      refine WL_val rfl rfl rfl (by first | exact rInc rfl rfl rfl (by omega) | exact rAdd rfl rfl rfl (by omega) | exact rAddW rfl rfl rfl) ?_
      refine WL_val rfl rfl rfl (by first | exact rMoveI rfl rfl | exact rMove rfl) ?_
      refine WL_nil ?_
      exact ⟨n - (k + 1), by omega, k + 1, A32, c32, rfl, by omega, ⟨rfl, rfl, rfl, by rw [bitsF_succ, List.length_append]; rfl, rfl, trivial⟩, hI⟩
  clear hI
  rintro ρ w ⟨A3, c3, hH, hI⟩
  obtain ⟨σ, rfl⟩ := hH.open
  have hbl : (bitsF dn n).length = n := by simp [bitsF]
  refine W_seq_cut (fun ρ w => ∃ (A3 : Option Addr) (c3 : Nat), Has ρ [(3, .slice A3 (keyF n dn sts).length c3)] ∧ Inv (fun _ => False) w0 w [BytE 0 A3 c3 (keyF n dn sts)]) ?_ ?_
  · refine W_seq ?_
    refine W_region ?_
    refine WL_val rfl rfl rfl (by first | exact rMoveP rfl rfl | exact rMove rfl) ?_
    refine WL_val rfl rfl rfl (rNilChk rfl rfl) ?_
    refine WL_val rfl rfl rfl (by first | exact rFldN (off := 6) rfl (by kernel_rfl) rfl | exact rFld (off := 6) rfl (by kernel_rfl) rfl) ?_
    refine WL_val rfl rfl rfl (by first | exact rLdA (n := 8) rfl (by kernel_rfl) (by kernel_rfl) rfl (by rfl) (fun k u hk => hI.oldp (h6 k u hk)) | exact rLdA (n := 8) rfl (by kernel_rfl) (by kernel_rfl) rfl (by rfl) h6) ?_
    refine WL_val rfl rfl rfl (by first | exact rMoveI rfl rfl | exact rMove rfl) ?_
    refine WL_nil ?_
    refine W_block ?_
    refine W_loopN (fun mu ρ w => ∃ (k : Nat) (A3 : Option Addr) (c3 : Nat), mu = 8 - k ∧ k ≤ 8 ∧ Has ρ [(38, .int .i64 (k : Int)), (37, .agg (stL L sts).toArray), (3, .slice A3 (bitsF dn n ++ encS sts (List.range k)).length c3)] ∧ Inv (fun _ => False) w0 w [BytE 0 A3 c3 (bitsF dn n ++ encS sts (List.range k))]) 8
      ⟨0, A3, c3, rfl, by omega, ⟨rfl, rfl, by simp [encS]; rfl, trivial⟩, by simp only [encS, List.range_zero, List.flatMap_nil, List.append_nil]; exact hI⟩ ?_
    clear hI
    rintro mu ρ w ⟨k, A3, c3, rfl, hk, hH, hI⟩
    obtain ⟨σ, rfl⟩ := hH.open
    by_cases hk8 : k < 8
    rotate_left
    · obtain rfl : k = 8 := by omega
      refine W_seq ?_
      refine W_region ?_
      refine WL_val rfl rfl rfl (by first | exact rLssT rfl rfl rfl (by omega) | exact rLssF rfl rfl rfl (by omega) | exact rLss rfl rfl rfl) ?_
      refine WL_nil ?_
      refine W_seq ?_
      refine W_cond false rfl ?_
      refine W_exit ?_
      exact ⟨A3, c3, ⟨rfl, trivial⟩, hI⟩
    refine W_seq ?_
    refine W_region ?_
    refine WL_val rfl rfl rfl (by first | exact rLssT rfl rfl rfl (by omega) | exact rLssF rfl rfl rfl (by omega) | exact rLss rfl rfl rfl) ?_
    refine WL_nil ?_
    refine W_seq ?_
    refine W_cond true rfl ?_
    refine W_skip ?_
    refine W_seq ?_
    refine W_block ?_
    refine W_seq ?_
    refine W_region ?_
    refine WL_val rfl rfl rfl (rIdxAg rfl Tryd.underlying62 (by kernel_rfl) (by kernel_rfl) rfl rfl (by omega) (stL_get hk8)) ?_
    refine WL_val rfl rfl rfl (by first | exact rAsgnS rfl rfl | exact rAsgn rfl) ?_
    refine WL_nil ?_
    have hrd := hst k hk8
    have hel := encS_len hlen k
    have hlk := hlen k
    have hk16 : k * (16 * 100 + 1) ≤ 8 * (16 * 100 + 1) := Nat.mul_le_mul_right _ hk
    generalize (L k).1 = Ak at hrd ⊢
    generalize (L k).2 = ck at hrd ⊢
    refine W_seq_cut (fun ρ w => ∃ (A3 : Option Addr) (c3 : Nat), Has ρ [(38, .int .i64 (k : Int)), (37, .agg (stL L sts).toArray), (3, .slice A3 (bitsF dn n ++ encS sts (List.range k) ++ encQ (sts k) (sts k).length).length c3)] ∧ Inv (fun _ => False) w0 w [BytE 0 A3 c3 (bitsF dn n ++ encS sts (List.range k) ++ encQ (sts k) (sts k).length)]) ?_ ?_
    · refine W_seq ?_
      refine W_region ?_
      refine WL_val rfl rfl rfl (by first | exact rMoveS rfl rfl | exact rMove rfl) ?_
      refine WL_val rfl rfl rfl (rLen rfl Tryd.underlying28 rfl) ?_
      refine WL_val rfl rfl rfl (by first | exact rMoveI rfl rfl | exact rMove rfl) ?_
      refine WL_nil ?_
      refine W_block ?_
      refine W_loopN (fun mu ρ w => ∃ (q : Nat) (A3 : Option Addr) (c3 : Nat), mu = (sts k).length - q ∧ q ≤ (sts k).length ∧ Has ρ [(43, .int .i64 (q : Int)), (42, .int .i64 ((sts k).length : Int)), (41, .slice Ak (sts k).length ck), (38, .int .i64 (k : Int)), (37, .agg (stL L sts).toArray), (3, .slice A3 (bitsF dn n ++ encS sts (List.range k) ++ encQ (sts k) q).length c3)] ∧ Inv (fun _ => False) w0 w [BytE 0 A3 c3 (bitsF dn n ++ encS sts (List.range k) ++ encQ (sts k) q)]) (sts k).length
        ⟨0, A3, c3, rfl, by omega, ⟨rfl, rfl, rfl, rfl, rfl, by simp [encQ]; rfl, trivial⟩, by simp only [encQ, List.take_zero, List.flatMap_nil, List.append_nil]; exact hI⟩ ?_
      clear hI
      rintro mu ρ w ⟨q, A3, c3, rfl, hq, hH, hI⟩
      obtain ⟨σ, rfl⟩ := hH.open
      by_cases hql : q < (sts k).length
      rotate_left
      · obtain rfl : q = (sts k).length := by omega
        refine W_seq ?_
        refine W_region ?_
        refine WL_val rfl rfl rfl (by first | exact rLssT rfl rfl rfl (by omega) | exact rLssF rfl rfl rfl (by omega) | exact rLss rfl rfl rfl) ?_
        refine WL_nil ?_
        refine W_seq ?_
        refine W_cond false rfl ?_
        refine W_exit ?_
        exact ⟨A3, c3, ⟨rfl, rfl, rfl, trivial⟩, hI⟩
      have hi0 : (i64s (sts k))[q]? = some (.int .i64 ((sts k)[q]'hql)) := by simp [i64s, hql]
      obtain ⟨ob, oo, rfl, _, _, hcell⟩ := hrd.get hi0 (by omega)
      have hi64 := hi k _ (List.getElem_mem hql)
      have hql16 := encQ_len (sts k) q
      have hsucc := encQ_succ hql
      generalize (sts k)[q]'hql = z at hcell hi64 hsucc
      have htot : (bitsF dn n ++ encS sts (List.range k) ++ encQ (sts k) q).length ≤ 20000 := by
        rw [List.length_append, List.length_append]; omega
      generalize hX : bitsF dn n ++ encS sts (List.range k) ++ encQ (sts k) q = X at hI htot
      refine W_seq ?_
      refine W_region ?_
      refine WL_val rfl rfl rfl (by first | exact rLssT rfl rfl rfl (by omega) | exact rLssF rfl rfl rfl (by omega) | exact rLss rfl rfl rfl) ?_
      refine WL_nil ?_
      refine W_seq ?_
      refine W_cond true rfl ?_
      refine W_skip ?_
      refine W_seq ?_
      refine W_block ?_
      refine W_seq ?_
      refine W_region ?_
      refine WL_val rfl rfl rfl (by first | exact rIdx0 rfl Tryd.underlying28 (by kernel_rfl) rfl rfl rfl (by omega) | exact rIdx1 rfl Tryd.underlying28 (by kernel_rfl) rfl rfl (by omega)) ?_
      refine WL_val rfl rfl rfl (by first | exact rLd (v := .int .i64 _) rfl (by kernel_rfl) rfl (by first | exact hI.oldp hcell | exact hcell) | exact rLd rfl (by kernel_rfl) rfl (by first | exact hI.oldp hcell | exact hcell)) ?_
      refine WL_val rfl rfl rfl (by first | exact rAsgnI rfl rfl | exact rAsgn rfl) ?_
      refine WL_nil ?_
      refine W_region ?_
      refine WL_val rfl rfl rfl (by first | exact rMoveS rfl rfl | exact rMove rfl) ?_
      refine WL_lit (vs := [_]) (qs := [(0, .int .u8 _)]) [.int .u8 0] [0] hI rfl rfl rfl rfl rfl rfl Tryd.underlying111 (fun _ => by kernel_rfl) ?_
      clear hI; rintro b48 w - - hI
      first | refine WL_app1 (z := .int .u8 0) (by_ := 1) hI rfl rfl rfl rfl rfl rfl Tryd.underlying111 (by kernel_rfl) rfl (by omega) (by rfl) hI.lit0 (by first | rfl | simp [i64s, Value.oneCell']) (by omega) (by omega) (by first | exact Nat.zero_le _ | (have := hI.chg.size; omega)) ?_
      clear hI; rintro A49 c49 w hA49 hc49 hI
      replace hI := hI.d0
      refine WL_val rfl rfl rfl (by first | exact rMoveI rfl rfl | exact rMove rfl) ?_
      refine WL_call rfl rfl rfl (rCall (vs := [.slice _ _ _, .int .i64 _, .int .i64 _]) rfl Tryd.func47 rfl rfl rfl) ?_
      replace hI : Inv (fun _ => False) w0 w [BytE 0 A49 c49 (X ++ [32])] := by
        rw [BytE.snoc]; exact hI
      refine Calls.mono (by have h := appP_any 0 A49 c49 (X ++ [32]) z _ (hI.ok _ (by simp)) hi64 (by simp; omega) (Nat.zero_le _); rw [List.length_append] at h; exact h) ?_
      rintro e w1 ⟨A', c', rfl, hT⟩
      refine ⟨_, rfl, ?_⟩
      replace hI := hI.turn1 hT
      refine WL_val rfl rfl rfl (by first | exact rAsgnS rfl rfl | exact rAsgn rfl) ?_
      refine WL_nil ?_
      refine W_region ?_
      refine WL_val rfl rfl rfl (by first | exact rInc rfl rfl rfl (by omega) | exact rAdd rfl rfl rfl (by omega) | exact rAddW rfl rfl rfl) ?_
      refine WL_val rfl rfl rfl (by first | exact rMoveI rfl rfl | exact rMove rfl) ?_
      refine WL_nil ?_
      have eX : bitsF dn n ++ encS sts (List.range k) ++ encQ (sts k) (q + 1) = X ++ [32] ++ itoa36 z := by rw [hsucc, ← hX]; simp
      exact ⟨(sts k).length - (q + 1), by omega, q + 1, A', c', rfl, by omega, ⟨rfl, rfl, rfl, rfl, rfl, by rw [eX]; rfl, trivial⟩, by rw [eX]; exact hI⟩
    clear hI
    rintro ρ w ⟨A3, c3, hH, hI⟩
    obtain ⟨σ, rfl⟩ := hH.open
    have hq16 := encQ_len (sts k) (sts k).length
    have htot : (bitsF dn n ++ encS sts (List.range k) ++ encQ (sts k) (sts k).length).length ≤ 20000 := by
      rw [List.length_append, List.length_append]; omega
    have eX : bitsF dn n ++ encS sts (List.range k) ++ encQ (sts k) (sts k).length ++ [124] = bitsF dn n ++ encS sts (List.range (k + 1)) := by rw [encS_succ, ← encQ_all]; simp
    generalize hX : bitsF dn n ++ encS sts (List.range k) ++ encQ (sts k) (sts k).length = X at hI htot eX
    refine W_region ?_
    refine WL_val rfl rfl rfl (by first | exact rMoveS rfl rfl | exact rMove rfl) ?_
    refine WL_lit (vs := [_]) (qs := [(0, .int .u8 _)]) [.int .u8 0] [0] hI rfl rfl rfl rfl rfl rfl Tryd.underlying111 (fun _ => by kernel_rfl) ?_
    clear hI; rintro b54 w - - hI
    first | refine WL_app1 (z := .int .u8 0) (by_ := 1) hI rfl rfl rfl rfl rfl rfl Tryd.underlying111 (by kernel_rfl) rfl (by omega) (by rfl) hI.lit0 (by first | rfl | simp [i64s, Value.oneCell']) (by omega) (by omega) (by first | exact Nat.zero_le _ | (have := hI.chg.size; omega)) ?_
    clear hI; rintro A55 c55 w hA55 hc55 hI
    replace hI := hI.d0
    refine WL_val rfl rfl rfl (by first | exact rAsgnS rfl rfl | exact rAsgn rfl) ?_
    refine WL_nil ?_
    replace hI : Inv (fun _ => False) w0 w [BytE 0 A55 c55 (bitsF dn n ++ encS sts (List.range (k + 1)))] := by
      rw [← eX, BytE.snoc]; exact hI
    refine W_region ?_
    refine WL_val rfl rfl rfl (by first | exact rInc rfl rfl rfl (by omega) | exact rAdd rfl rfl rfl (by omega) | exact rAddW rfl rfl rfl) ?_
    refine WL_val rfl rfl rfl (by first | exact rMoveI rfl rfl | exact rMove rfl) ?_
    refine WL_nil ?_
    exact ⟨8 - (k + 1), by omega, k + 1, A55, c55, rfl, by omega, ⟨rfl, rfl, by rw [← eX, List.length_append]; rfl, trivial⟩, hI⟩
  clear hI
  rintro ρ w ⟨A3, c3, hH, hI⟩
  obtain ⟨σ, rfl⟩ := hH.open
  have hpos : 0 < (keyF n dn sts).length := by
    unfold keyF
    rw [List.length_append, encS_succ sts 7, List.length_append, ← encQ_all]
    simp
    omega
  refine W_seq ?_
  refine W_region ?_
  refine WL_val rfl rfl rfl (by first | exact rMoveS rfl rfl | exact rMove rfl) ?_
  refine WL_val rfl rfl rfl (rBytesStr rfl Tryd.underlying111 Tryd.underlying5 Tryd.underlying9 rfl hI.g0 (keyF_small n dn sts) hpos) ?_
  refine WL_val rfl rfl rfl (by first | exact rAsgnStr rfl rfl | exact rAsgn rfl) ?_
  refine WL_nil ?_
  refine W_ret ?_
  exact ret1 2 (.inr rfl) rfl ⟨rfl, hI.pu⟩
end Go.Proofs.YtijgkocolajghaaDoor
