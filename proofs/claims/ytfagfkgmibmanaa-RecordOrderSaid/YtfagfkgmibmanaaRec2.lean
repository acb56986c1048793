/- record: Encode. -/
import Derived.Test.YtfagfkgmibmanaaRec1
namespace Go.Proofs.Ytfagfkgmibmanaa
open Go.RowKit
set_option linter.unusedVariables false
set_option linter.unusedSimpArgs false

theorem zz_run {n : Int} (h : -1000000 ≤ n ∧ n ≤ 1000000) :
    IntKind.u64.wrap (((fun p q : BitVec IntKind.u64.bits => p ^^^ q) (BitVec.ofInt IntKind.u64.bits (IntKind.u64.wrap (IntKind.u64.wrap n * 2 ^ min (1 : Int).toNat IntKind.u64.bits))) (BitVec.ofInt IntKind.u64.bits (IntKind.u64.wrap (n.fdiv (2 ^ min (63 : Int).toNat IntKind.i64.bits))))).toNat : Int) = ((zz n : Nat) : Int) := by
  show IntKind.u64.wrap (((BitVec.ofInt 64 (IntKind.u64.wrap (IntKind.u64.wrap n * 2 ^ 1))) ^^^ (BitVec.ofInt 64 (IntKind.u64.wrap (n.fdiv (2 ^ 63))))).toNat : Int) = _
  have hw : ∀ m : Int, IntKind.u64.wrap m = m % 18446744073709551616 := fun m => by simp [IntKind.wrap, IntKind.signed, IntKind.bits]
  have hf : n.fdiv (2 ^ 63) = if 0 ≤ n then 0 else -1 := by
    rw [Int.fdiv_eq_ediv_of_nonneg _ (by decide)]
    split <;> omega
  rw [hf]
  by_cases h0 : 0 ≤ n
  · rw [if_pos h0]
    have e1 : IntKind.u64.wrap (IntKind.u64.wrap n * 2 ^ 1) = (((2 * n).toNat : Nat) : Int) := by rw [hw, hw]; omega
    have e2 : IntKind.u64.wrap 0 = ((0 : Nat) : Int) := by rw [hw]; rfl
    rw [e1, e2, BitVec.ofInt_natCast, BitVec.ofInt_natCast, BitVec.toNat_xor, BitVec.toNat_ofNat, BitVec.toNat_ofNat]
    have : (2 * n).toNat % 2 ^ 64 = (2 * n).toNat := Nat.mod_eq_of_lt (by omega)
    rw [this]
    simp only [Nat.zero_mod, Nat.xor_zero]
    unfold zz
    rw [if_pos h0]
    exact wrap_u64 (by omega)
  · rw [if_neg h0]
    have e1 : IntKind.u64.wrap (IntKind.u64.wrap n * 2 ^ 1) = (((18446744073709551616 + 2 * n).toNat : Nat) : Int) := by rw [hw, hw]; omega
    have e2 : BitVec.ofInt 64 (IntKind.u64.wrap (-1)) = BitVec.allOnes 64 := by rw [hw]; decide
    rw [e1, e2, BitVec.ofInt_natCast, BitVec.xor_allOnes, BitVec.toNat_not, BitVec.toNat_ofNat]
    have : (18446744073709551616 + 2 * n).toNat % 2 ^ 64 = (18446744073709551616 + 2 * n).toNat := Nat.mod_eq_of_lt (by omega)
    rw [this]
    unfold zz
    rw [if_neg h0]
    rw [wrap_u64 (by omega)]
    omega
theorem zz_lt64 {n : Int} (h : -1000000 ≤ n ∧ n ≤ 1000000) : zz n < 18446744073709551616 := by
  unfold zz
  split <;> omega
theorem or128 {b : Nat} (h : b < 256) : b ||| 128 = b % 128 + 128 := by
  have : ∀ b : Fin 256, (b : Nat) ||| 128 = (b : Nat) % 128 + 128 := by decide +kernel
  exact this ⟨b, h⟩
theorem blk_cells {w : World} {g T : Nat} {cs : Array Value} (hb : Blk w g T cs) : ∀ (k : Nat) (u : Value), cs.toList[k]? = some u → w.cell? ⟨g, 0 + k, none⟩ = some u := fun k u h => by rw [Nat.zero_add, hb.cell]; simpa using h
def EncPost (w : World) (e : Ev) (en : Ending) (w' : World) : Prop :=
  Pure w w' ∧ ((evOkB e = true ∧ ∃ A c, en = .returned (.tuple #[.slice A (enc e).length c, .nilIface]) ∧ w'.ownsRow w.heap.size 5 1 (.slice A (enc e).length c) (enc e).length (bytesV (enc e))) ∨
    (evOkB e = false ∧ ∃ x, IsErr x ∧ en = .returned (.tuple #[.slice none 0 0, x])))
theorem take_snoc' {α : Type} {l : List α} {k : Nat} {x : α} (h : l[k]? = some x) : l.take (k + 1) = l.take k ++ [x] := by
  obtain ⟨h1, h2⟩ := List.getElem?_eq_some_iff.1 h
  rw [List.take_succ_eq_append_getElem h1, h2]
def encTo (e : Ev) (k : Nat) : List Nat := [e.proc.toNat, e.ty.toNat, e.key.toNat, e.kind.toNat] ++ (([e.a, e.b, e.res].take k).flatMap encN)
theorem encTo_len (e : Ev) (k : Nat) : (encTo e k).length ≤ 34 := by
  unfold encTo
  have h1 := encN_len e.a
  have h2 := encN_len e.b
  have h3 := encN_len e.res
  match k with
  | 0 => simp
  | 1 => simp; omega
  | 2 => simp; omega
  | k + 3 => simp; omega

set_option maxHeartbeats 2000000 in
theorem encode_any (e : Ev) (w0 : World) : Calls Try.prog 16 #[.agg (evL e).toArray] w0 (EncPost w0 e) := by
  have hI := Inv.start (fun _ => False) w0
  refine calls_of_W (N := Try.f16.ntmps) Try.func16 rfl rfl rfl ?_
  refine W_seq ?_
  refine W_region ?_
  refine WL_box (u := .agg _) (vs := #[_, _, _, _, _, _, _]) hI rfl rfl rfl rfl rfl rfl ?_
  clear hI; rintro b1 w - - hI
  refine WL_val rfl rfl rfl (by first | exact rAsgnS rfl rfl | exact rAsgn rfl) ?_
  refine WL_val rfl rfl rfl (by first | exact rAsgnN rfl rfl | exact rAsgnE rfl rfl | exact rAsgn rfl) ?_
  refine WL_nil ?_
  refine W_seq ?_
  refine W_seq ?_
  refine W_region ?_
  refine WL_val rfl rfl rfl (by first | exact rLdB (n := 7) rfl (by kernel_rfl) (by kernel_rfl) rfl rfl hI.g0) ?_
  refine WL_call rfl rfl rfl (rCall (vs := [.agg _]) rfl Try.func31 rfl rfl rfl) ?_
  refine (check_any e _).mono ?_
  rintro en w1 ⟨hp, ⟨hok, rfl⟩ | ⟨hno, x, ⟨u, rfl⟩, rfl⟩⟩
  rotate_left
  · refine ⟨_, rfl, ?_⟩
    replace hI := hI.pure hp
    refine WL_val rfl rfl rfl (by first | exact rAsgnN rfl rfl | exact rAsgnE rfl rfl | exact rAsgn rfl) ?_
    refine WL_nil ?_
    refine W_seq ?_
    refine W_region ?_
    refine WL_val rfl rfl rfl (by first | exact rMoveN rfl rfl | exact rMoveE rfl rfl | exact rMove rfl) ?_
    refine WL_val rfl rfl rfl (by first | exact rIfaceNe rfl Try.underlying32 rfl rfl | exact rNilNe rfl Try.underlying32 rfl) ?_
    refine WL_nil ?_
    refine W_cond true rfl ?_
    refine W_seq ?_
    refine W_region ?_
    refine WL_val rfl rfl rfl (by first | exact rMoveN rfl rfl | exact rMoveE rfl rfl | exact rMove rfl) ?_
    refine WL_val rfl rfl rfl (by first | exact rAsgnS rfl rfl | exact rAsgn rfl) ?_
    refine WL_val rfl rfl rfl (by first | exact rAsgnN rfl rfl | exact rAsgnE rfl rfl | exact rAsgn rfl) ?_
    refine WL_nil ?_
    refine W_ret ?_
    exact ret2 2 3 (.inr rfl) rfl ⟨hI.pu, .inr ⟨hno, _, ⟨_, rfl⟩, rfl⟩⟩
  refine ⟨_, rfl, ?_⟩
  replace hI := hI.pure hp
  clear hp
  obtain ⟨b1', b2, b3, b4, b5, b6, b7⟩ := ok_bounds hok
  obtain ⟨p, ty, ky, kd, ea, eb, er⟩ := e
  dsimp only at b1' b2 b3 b4 b5 b6 b7
  obtain ⟨pn, rfl⟩ : ∃ m : Nat, p = m := ⟨p.toNat, by omega⟩
  obtain ⟨tn, rfl⟩ : ∃ m : Nat, ty = m := ⟨ty.toNat, by omega⟩
  obtain ⟨kn, rfl⟩ : ∃ m : Nat, ky = m := ⟨ky.toNat, by omega⟩
  obtain ⟨dn, rfl⟩ : ∃ m : Nat, kd = m := ⟨kd.toNat, by omega⟩
  refine WL_val rfl rfl rfl (by first | exact rAsgnN rfl rfl | exact rAsgnE rfl rfl | exact rAsgn rfl) ?_
  refine WL_nil ?_
  refine W_seq ?_
  refine W_region ?_
  refine WL_val rfl rfl rfl (by first | exact rMoveN rfl rfl | exact rMoveE rfl rfl | exact rMove rfl) ?_
  refine WL_val rfl rfl rfl (by first | exact rIfaceNe rfl Try.underlying32 rfl rfl | exact rNilNe rfl Try.underlying32 rfl) ?_
  refine WL_nil ?_
  refine W_cond false rfl ?_
  refine W_skip ?_
  refine W_seq ?_
  refine W_region ?_
  refine WL_val rfl rfl rfl (by first | exact rFldN (off := 0) rfl (by kernel_rfl) rfl | exact rFld0 rfl (by kernel_rfl) rfl) ?_
  refine WL_val rfl rfl rfl (by first | exact rLd (v := .int .i64 _) rfl (by kernel_rfl) rfl (by first | exact hI.c0 rfl) | exact rLd rfl (by kernel_rfl) rfl (by first | exact hI.c0 rfl)) ?_
  refine WL_val rfl rfl rfl (by first | exact rConv_u8s rfl Try.underlying3 Try.underlying5 rfl (by omega) | exact rConv_u8 rfl Try.underlying3 Try.underlying5 rfl | exact rConvW rfl Try.underlying3 Try.underlying5 rfl) ?_
  refine WL_val rfl rfl rfl (by first | exact rFldN (off := 1) rfl (by kernel_rfl) rfl | exact rFld (off := 1) rfl (by kernel_rfl) rfl) ?_
  refine WL_val rfl rfl rfl (by first | exact rLd (v := .int .i64 _) rfl (by kernel_rfl) rfl (by first | exact hI.c0 rfl) | exact rLd rfl (by kernel_rfl) rfl (by first | exact hI.c0 rfl)) ?_
  refine WL_val rfl rfl rfl (by first | exact rConv_u8s rfl Try.underlying3 Try.underlying5 rfl (by omega) | exact rConv_u8 rfl Try.underlying3 Try.underlying5 rfl | exact rConvW rfl Try.underlying3 Try.underlying5 rfl) ?_
  refine WL_val rfl rfl rfl (by first | exact rFldN (off := 2) rfl (by kernel_rfl) rfl | exact rFld (off := 2) rfl (by kernel_rfl) rfl) ?_
  refine WL_val rfl rfl rfl (by first | exact rLd (v := .int .i64 _) rfl (by kernel_rfl) rfl (by first | exact hI.c0 rfl) | exact rLd rfl (by kernel_rfl) rfl (by first | exact hI.c0 rfl)) ?_
  refine WL_val rfl rfl rfl (by first | exact rConv_u8s rfl Try.underlying3 Try.underlying5 rfl (by omega) | exact rConv_u8 rfl Try.underlying3 Try.underlying5 rfl | exact rConvW rfl Try.underlying3 Try.underlying5 rfl) ?_
  refine WL_val rfl rfl rfl (by first | exact rFldN (off := 3) rfl (by kernel_rfl) rfl | exact rFld (off := 3) rfl (by kernel_rfl) rfl) ?_
  refine WL_val rfl rfl rfl (by first | exact rLd (v := .int .i64 _) rfl (by kernel_rfl) rfl (by first | exact hI.c0 rfl) | exact rLd rfl (by kernel_rfl) rfl (by first | exact hI.c0 rfl)) ?_
  refine WL_val rfl rfl rfl (by first | exact rConv_u8s rfl Try.underlying3 Try.underlying5 rfl (by omega) | exact rConv_u8 rfl Try.underlying3 Try.underlying5 rfl | exact rConvW rfl Try.underlying3 Try.underlying5 rfl) ?_
  refine WL_lit (vs := [_, _, _, _]) (qs := [(0, .int .u8 _), (1, .int .u8 _), (2, .int .u8 _), (3, .int .u8 _)]) [.int .u8 0, .int .u8 0, .int .u8 0, .int .u8 0] [0, 1, 2, 3] hI rfl rfl rfl rfl rfl rfl Try.underlying45 (fun _ => by kernel_rfl) ?_
  clear hI; rintro b26 w - - hI
  refine WL_val rfl rfl rfl (by first | exact rAsgnS rfl rfl | exact rAsgn rfl) ?_
  refine WL_nil ?_
  have hown := (hI.own _ (List.mem_of_getElem? (i := 0) rfl) b26 rfl).resolve_left id
  replace hI := hI.u0 (e' := Row w0.heap.size 5 1 (some ⟨b26, 0, none⟩) 4 4 (bytesV (encTo ⟨pn, tn, kn, dn, ea, eb, er⟩ 0))) (Chg.refl _ _) (Row.of_blk hI.g0 hown rfl (by omega)) (fun k hk => .inl (by have : some b26 = some k := hk; injection this with this; exact this.symm))
  refine W_seq ?_
  refine W_seq ?_
  refine W_region ?_
  refine WL_val rfl rfl rfl (by first | exact rFldN (off := 4) rfl (by kernel_rfl) rfl | exact rFld (off := 4) rfl (by kernel_rfl) rfl) ?_
  refine WL_val rfl rfl rfl (by first | exact rLd (v := .int .i64 _) rfl (by kernel_rfl) rfl (by first | exact hI.c0 rfl | exact hI.c1 rfl) | exact rLd rfl (by kernel_rfl) rfl (by first | exact hI.c0 rfl | exact hI.c1 rfl)) ?_
  refine WL_val rfl rfl rfl (by first | exact rFldN (off := 5) rfl (by kernel_rfl) rfl | exact rFld (off := 5) rfl (by kernel_rfl) rfl) ?_
  refine WL_val rfl rfl rfl (by first | exact rLd (v := .int .i64 _) rfl (by kernel_rfl) rfl (by first | exact hI.c0 rfl | exact hI.c1 rfl) | exact rLd rfl (by kernel_rfl) rfl (by first | exact hI.c0 rfl | exact hI.c1 rfl)) ?_
  refine WL_val rfl rfl rfl (by first | exact rFldN (off := 6) rfl (by kernel_rfl) rfl | exact rFld (off := 6) rfl (by kernel_rfl) rfl) ?_
  refine WL_val rfl rfl rfl (by first | exact rLd (v := .int .i64 _) rfl (by kernel_rfl) rfl (by first | exact hI.c0 rfl | exact hI.c1 rfl) | exact rLd rfl (by kernel_rfl) rfl (by first | exact hI.c0 rfl | exact hI.c1 rfl)) ?_
  refine WL_lit (vs := [_, _, _]) (qs := [(0, .int .i64 _), (1, .int .i64 _), (2, .int .i64 _)]) [.int .i64 0, .int .i64 0, .int .i64 0] [0, 1, 2] hI rfl rfl rfl rfl rfl rfl Try.underlying23 (fun _ => by kernel_rfl) ?_
  clear hI; rintro b33 w - - hI
  refine WL_val rfl rfl rfl (rLen rfl Try.underlying23 rfl) ?_
  refine WL_val rfl rfl rfl (by first | exact rMoveI rfl rfl | exact rMove rfl) ?_
  refine WL_nil ?_
  replace hI := hI.d2
  generalize (⟨pn, tn, kn, dn, ea, eb, er⟩ : Ev) = E at *
  clear b5 b6 b7
  obtain ⟨_, _, _, _, b5, b6, b7⟩ := ok_bounds hok
  refine W_block ?_
  refine W_loop (fun ρ w => ∃ (k : Nat) (A : Option Addr) (c : Nat), k ≤ 3 ∧ Has ρ [(5, .slice A (encTo E k).length c), (35, .int .i64 k), (34, .int .i64 (3 : Nat)), (33, .slice (some ⟨b33, 0, none⟩) (3 : Nat) (3 : Nat))] ∧
    Inv (fun _ => False) w0 w [B b33 3 #[.int .i64 E.a, .int .i64 E.b, .int .i64 E.res], Row w0.heap.size 5 1 A (encTo E k).length c (bytesV (encTo E k))]) (fun ρ _ => 3 - cnt (ρ 35))
    ⟨0, _, _, by omega, ⟨rfl, rfl, rfl, rfl, trivial⟩, hI⟩ ?_
  clear hI
  rintro ρ w ⟨k, A, c, hk, hH, hI⟩
  obtain ⟨σ, rfl⟩ := hH.open
  by_cases hk3 : k < 3
  · obtain ⟨z, hz, hzb⟩ : ∃ z : Int, [E.a, E.b, E.res][k]? = some z ∧ -1000000 ≤ z ∧ z ≤ 1000000 := by
      match k, hk3 with
      | 0, _ => exact ⟨_, rfl, b5⟩
      | 1, _ => exact ⟨_, rfl, b6⟩
      | 2, _ => exact ⟨_, rfl, b7⟩
    have hc0 : w.cell? ⟨b33, k, none⟩ = some (.int .i64 z) := hI.c0 (by
      match k, hk3, hz with
      | 0, _, hz => cases hz; rfl
      | 1, _, hz => cases hz; rfl
      | 2, _, hz => cases hz; rfl)
    have hstep : encTo E (k + 1) = encTo E k ++ varF 10 (zz z) := by
      unfold encTo
      rw [take_snoc' hz, List.flatMap_append, ← List.append_assoc]
      simp [encN]
    have hlen := encTo_len E (k + 1)
    refine W_seq ?_
    refine W_region ?_
    refine WL_val rfl rfl rfl (by first | exact rLssT rfl rfl rfl (by omega) | exact rLssF rfl rfl rfl (by omega) | exact rLss rfl rfl rfl) ?_
    refine WL_nil ?_
    refine W_seq ?_
    refine W_cond true rfl ?_
    refine W_skip ?_
    refine W_seq ?_
    refine W_block ?_
    refine W_seq ?_
    refine W_region ?_
    refine WL_val rfl rfl rfl (by first | exact rIdx0 rfl Try.underlying23 (by kernel_rfl) rfl rfl rfl (by omega) | exact rIdx1 rfl Try.underlying23 (by kernel_rfl) rfl rfl (by omega)) ?_
    refine WL_val rfl rfl rfl (by first | exact rLd (v := .int .i64 _) rfl (by kernel_rfl) rfl (by first | exact hI.oldp hc0 | exact hc0) | exact rLd rfl (by kernel_rfl) rfl (by first | exact hI.oldp hc0 | exact hc0)) ?_
    refine WL_val rfl rfl rfl (by first | exact rAsgnI rfl rfl | exact rAsgn rfl) ?_
    refine WL_nil ?_
    refine W_seq ?_
    refine W_region ?_
    refine WL_val rfl rfl rfl (by first | exact rMoveI rfl rfl | exact rMove rfl) ?_
    refine WL_val rfl rfl rfl (by first | exact rConv_u64s rfl Try.underlying3 Try.underlying73 rfl (by omega) | exact rConvW rfl Try.underlying3 Try.underlying73 rfl) ?_
    refine WL_val rfl rfl rfl (rShlW rfl rfl rfl (by omega)) ?_
    refine WL_val rfl rfl rfl (by first | exact rMoveI rfl rfl | exact rMove rfl) ?_
    refine WL_val rfl rfl rfl (rShrW rfl rfl rfl (by omega)) ?_
    refine WL_val rfl rfl rfl (by first | exact rConv_u64s rfl Try.underlying3 Try.underlying73 rfl (by omega) | exact rConvW rfl Try.underlying3 Try.underlying73 rfl) ?_
    refine WL_val rfl rfl rfl (by first | exact rXor_u64 rfl rfl rfl (by omega) (by omega) | exact rBits (r := fun p q => p ^^^ q) rfl rfl rfl rfl) ?_
    refine WL_val rfl rfl rfl (by first | exact rAsgnI rfl rfl | exact rAsgn rfl) ?_
    refine WL_nil ?_
    refine W_seq ?_
    refine W_block ?_
    refine W_loop (fun ρ w => ∃ (f u : Nat) (pre : List Nat) (A : Option Addr) (c : Nat), Has ρ [(8, .int .u64 u), (5, .slice A pre.length c), (35, .int .i64 k), (34, .int .i64 (3 : Nat)), (33, .slice (some ⟨b33, 0, none⟩) (3 : Nat) (3 : Nat))] ∧ pre ++ varF (f + 1) u = encTo E (k + 1) ∧ u < 128 ^ (f + 1) ∧ u < 18446744073709551616 ∧
      Inv (fun _ => False) w0 w [B b33 3 #[.int .i64 E.a, .int .i64 E.b, .int .i64 E.res], Row w0.heap.size 5 1 A pre.length c (bytesV pre)]) (fun ρ _ => cnt (ρ 8))
      ⟨9, zz z, encTo E k, A, c, ⟨congrArg (Value.int .u64) (zz_run hzb), rfl, rfl, rfl, rfl, trivial⟩, hstep.symm, zz_lt hzb, zz_lt64 hzb, hI⟩ ?_
    clear hI
    rintro ρ w ⟨f, u, pre, A, c, hH, hpre, hu1, hu2, hI⟩
    obtain ⟨σ, rfl⟩ := hH.open
    have hpl : pre.length ≤ 34 := by
      have := congrArg List.length hpre
      rw [List.length_append] at this
      omega
    by_cases hu : u < 128
    · have hvar : varF (f + 1) u = [u] := by unfold varF; rw [if_pos hu]
      rw [hvar] at hpre
      refine W_seq ?_
      refine W_seq ?_
      refine W_region ?_
      refine WL_val rfl rfl rfl (by first | exact rMoveI rfl rfl | exact rMove rfl) ?_
      refine WL_val rfl rfl rfl (by first | exact rGeqT rfl rfl rfl (by omega) | exact rGeqF rfl rfl rfl (by omega) | exact rGeq rfl rfl rfl) ?_
      refine WL_nil ?_
      refine W_cond false rfl ?_
      refine W_exit ?_
      refine W_region ?_
      refine WL_val rfl rfl rfl (by first | exact rMoveS rfl rfl | exact rMove rfl) ?_
      refine WL_val rfl rfl rfl (by first | exact rMoveI rfl rfl | exact rMove rfl) ?_
      refine WL_val rfl rfl rfl (by first | exact rConv_u8s rfl Try.underlying73 Try.underlying5 rfl (by omega) | exact rConv_u8 rfl Try.underlying73 Try.underlying5 rfl | exact rConvW rfl Try.underlying73 Try.underlying5 rfl) ?_
      refine WL_lit (vs := [_]) (qs := [(0, .int .u8 _)]) [.int .u8 0] [0] hI rfl rfl rfl rfl rfl rfl Try.underlying45 (fun _ => by kernel_rfl) ?_
      clear hI; rintro b59 w - - hI
      -- STOP: call ['Op.call', ('st', {'callee': ['Callee.builtin', 'Builtin.append'], 'args': ('arr', [['Operand.tmp', '56'], ['Operand.tmp', '59']]), 'argTypes': ('arr
      refine WL_app2 (z := .int .u8 0) (by_ := 1) (news := bytesV [u]) hI rfl rfl rfl rfl rfl rfl Try.underlying45 (by kernel_rfl) rfl (by omega) rfl (blk_cells hI.g0) rfl (by omega) (by omega) hI.pu.size ?_
      clear hI; rintro A' c' w hc1 hc2 hI
      refine WL_val rfl rfl rfl (by first | exact rAsgnS rfl rfl | exact rAsgn rfl) ?_
      refine WL_nil ?_
      refine W_region ?_
      refine WL_val rfl rfl rfl (by first | exact rInc rfl rfl rfl (by omega) | exact rAdd rfl rfl rfl (by omega) | exact rAddW rfl rfl rfl) ?_
      refine WL_val rfl rfl rfl (by first | exact rMoveI rfl rfl | exact rMove rfl) ?_
      refine WL_nil ?_
      refine ⟨⟨k + 1, A', c', by omega, ⟨?_, rfl, rfl, rfl, trivial⟩, ?_⟩, by show 3 - ((k + 1 : Nat) : Int).toNat < 3 - (k : Int).toNat; omega⟩
      · show Value.slice A' (pre.length + 1) c' = _
        rw [← hpre]
        simp
      · rw [← hpre, bytesV_append, List.length_append]
        exact hI.d0
    · obtain ⟨f', rfl⟩ : ∃ f', f = f' + 1 := by
        cases f with
        | zero => simp at hu1; omega
        | succ f' => exact ⟨f', rfl⟩
      have hvar : varF (f' + 1 + 1) u = (u % 128 + 128) :: varF (f' + 1) (u / 128) := by
        show (if u < 128 then [u] else (u % 128 + 128) :: varF (f' + 1) (u / 128)) = _
        rw [if_neg hu]
      have hor : (u % 256) ||| 128 = u % 128 + 128 := by rw [or128 (by omega)]; omega
      refine W_seq ?_
      refine W_seq ?_
      refine W_region ?_
      refine WL_val rfl rfl rfl (by first | exact rMoveI rfl rfl | exact rMove rfl) ?_
      refine WL_val rfl rfl rfl (by first | exact rGeqT rfl rfl rfl (by omega) | exact rGeqF rfl rfl rfl (by omega) | exact rGeq rfl rfl rfl) ?_
      refine WL_nil ?_
      refine W_cond true rfl ?_
      refine W_skip ?_
      refine W_seq ?_
      refine W_block ?_
      refine W_region ?_
      refine WL_val rfl rfl rfl (by first | exact rMoveS rfl rfl | exact rMove rfl) ?_
      refine WL_val rfl rfl rfl (by first | exact rMoveI rfl rfl | exact rMove rfl) ?_
      refine WL_val rfl rfl rfl (by first | exact rConv_u8s rfl Try.underlying73 Try.underlying5 rfl (by omega) | exact rConv_u8 rfl Try.underlying73 Try.underlying5 rfl | exact rConvW rfl Try.underlying73 Try.underlying5 rfl) ?_
      refine WL_val rfl rfl rfl (by first | exact rOr_u8 (b := 128) rfl rfl rfl (by omega) (by omega) | exact rBits (r := fun p q => p ||| q) rfl rfl rfl rfl) ?_
      refine WL_lit (vs := [_]) (qs := [(0, .int .u8 _)]) [.int .u8 0] [0] hI rfl rfl rfl rfl rfl rfl Try.underlying45 (fun _ => by kernel_rfl) ?_
      clear hI; rintro b54 w - - hI
      -- STOP: call ['Op.call', ('st', {'callee': ['Callee.builtin', 'Builtin.append'], 'args': ('arr', [['Operand.tmp', '50'], ['Operand.tmp', '54']]), 'argTypes': ('arr
      refine WL_app2 (z := .int .u8 0) (by_ := 1) (news := bytesV [(u % 256) ||| 128]) hI rfl rfl rfl rfl rfl rfl Try.underlying45 (by kernel_rfl) rfl (by omega) rfl (blk_cells hI.g0) rfl (by omega) (by omega) hI.pu.size ?_
      clear hI; rintro A' c' w hc1 hc2 hI
      refine WL_val rfl rfl rfl (by first | exact rAsgnS rfl rfl | exact rAsgn rfl) ?_
      refine WL_nil ?_
      refine W_region ?_
      refine WL_val rfl rfl rfl (by first | exact rMoveI rfl rfl | exact rMove rfl) ?_
      refine WL_val rfl rfl rfl (by first | exact rShr_u64 (c := 7) rfl rfl rfl (by omega) | exact rShrW rfl rfl rfl (by omega)) ?_
      refine WL_val rfl rfl rfl (by first | exact rAsgnI rfl rfl | exact rAsgn rfl) ?_
      refine WL_nil ?_
      rw [hor] at hI
      refine ⟨⟨f', u / 128, pre ++ [u % 128 + 128], A', c', ⟨rfl, ?_, rfl, rfl, rfl, trivial⟩, ?_, ?_, by omega, ?_⟩, ?_⟩
      · show Value.slice A' (pre.length + 1) c' = _
        simp
      · rw [List.append_assoc, List.singleton_append, ← hvar]; exact hpre
      · rw [Nat.pow_succ] at hu1
        exact Nat.div_lt_of_lt_mul (by rw [Nat.mul_comm]; exact hu1)
      · rw [bytesV_append, List.length_append]
        exact hI.d0
      · show ((u / 2 ^ 7 : Nat) : Int).toNat < (u : Int).toNat
        omega
  · obtain rfl : k = 3 := by omega
    have henc : encTo E 3 = enc E := by
      unfold encTo enc
      simp
    refine W_seq ?_
    refine W_region ?_
    refine WL_val rfl rfl rfl (by first | exact rLssT rfl rfl rfl (by omega) | exact rLssF rfl rfl rfl (by omega) | exact rLss rfl rfl rfl) ?_
    refine WL_nil ?_
    refine W_seq ?_
    refine W_cond false rfl ?_
    refine W_exit ?_
    refine W_seq ?_
    refine W_region ?_
    refine WL_val rfl rfl rfl (by first | exact rMoveS rfl rfl | exact rMove rfl) ?_
    refine WL_val rfl rfl rfl (by first | exact rAsgnS rfl rfl | exact rAsgn rfl) ?_
    refine WL_val rfl rfl rfl (by first | exact rAsgnN rfl rfl | exact rAsgnE rfl rfl | exact rAsgn rfl) ?_
    refine WL_nil ?_
    refine W_ret ?_
    exact ret2 2 3 (.inr rfl) rfl ⟨hI.pu, .inl ⟨hok, A, c, by rw [← henc]; rfl, by rw [← henc]; exact hI.g1⟩⟩
end Go.Proofs.Ytfagfkgmibmanaa
