/- mvcc: Do. -/
import Derived.Test.YtlnjmkldpicpdaaDoorMvc9
namespace Go.Proofs.YtlnjmkldpicpdaaDoor
open Go.RowKit
set_option linter.unusedVariables false
set_option linter.unusedSimpArgs false
def begT (t : Mx) (c : Int) : Mx := { t with beg := c }
def opT (t : Mx) (o : IOp) : Mx := { t with ops := t.ops ++ [o] }
def tick (s : Bs) : Bs := { s with time := s.time + 1 }
instance (s : Bs) (tx kind key : Int) : Decidable (OkAsk s tx kind key) :=
  if h : (0 ≤ tx ∧ tx < s.txs.length) ∧ (0 ≤ key ∧ key < 8) ∧ (1 ≤ kind ∧ kind ≤ 5) ∧ (key = 0 ∨ kind = 2 ∨ kind = 3) ∧ (txAt s tx.toNat).over = false ∧ (kind = 1 ↔ (txAt s tx.toNat).beg = -1) ∧ (kind = 2 ∨ kind = 3 → (txAt s tx.toNat).ops.length < 60) then
    .isTrue ⟨h.1, h.2.1, h.2.2.1, h.2.2.2.1, h.2.2.2.2.1, h.2.2.2.2.2.1, h.2.2.2.2.2.2⟩
  else .isFalse fun h' => h ⟨h'.htx, h'.hkey, h'.hkind, h'.hacc, h'.hover, h'.hbeg, h'.hlen⟩
/-- What Do does with what may be asked; whether it tells nothing. -/
def actF (s : Bs) (i : Nat) (kind : Int) (key : Nat) : Bs × Bool :=
  if kind = 1 then (setTx s i (begT (txAt s i) s.time), true)
  else if kind = 2 then (setTx s i (opT (txAt s i) (readF s i key)), true)
  else if kind = 3 then (setTx s i (opT (txAt s i) ⟨true, key, 0, 0⟩), true)
  else if kind = 4 then commitF s i
  else (setTx s i (overT (txAt s i)), true)
def doF (s : Bs) (tx kind key : Int) : Bs × Bool := if OkAsk s tx kind key then actF (tick s) tx.toNat kind key.toNat else (s, false)
theorem opRow_set {s : Bs} {i : Nat} {t : Mx} {A A' : Nat → Option Addr} {ca ca' : Nat → Nat} (h : i < s.txs.length) (hA : ∀ k, k ≠ i → A' k = A k ∧ ca' k = ca k) (k : Nat) :
    opRow (setTx s i t) A' ca' k = if k = i then Row 0 70 4 (A' i) t.ops.length (ca' i) (t.ops.flatMap opV) else opRow s A ca k := by
  unfold opRow
  rw [txAt_set h]
  by_cases hk : k = i
  · subst hk; simp
  · rw [if_neg hk, if_neg hk, (hA k hk).1, (hA k hk).2]
set_option maxHeartbeats 4000000 in
theorem do_any (b T cT : Nat) (A : Nat → Option Addr) (ca : Nat → Nat) (O : Nat → Option Addr) (co : Nat → Nat) (rest : List Value) (tx kind key : Int) (s : Bs) (S : Nat → Prop) (w0 : World) (hI : Inv S w0 w0 (bpt b T cT A ca O co rest s))
    (hw : Wf s cT) (htm : s.time ≤ 1000) :
    Calls Tryd.prog 18 #[.pointer (some ⟨b, 0, none⟩), .agg #[.int .i64 tx, .int .i64 kind, .int .i64 key]] w0 fun en w' => (∃ A' ca' O' co', Inv S w0 w' (bpt b T cT A' ca' O' co' rest (doF s tx kind key).1)) ∧
      ∃ v, en = .returned v ∧ ((v = .nilIface ∧ (doF s tx kind key).2 = true) ∨ (ErrN v ∧ (doF s tx kind key).2 = false ∧ (OkAsk s tx kind key → v = .iface 59 (.int .i64 12)))) := by
  have hlen := hw.tlen
  refine calls_of_W (N := Tryd.f18.ntmps) Tryd.func18 rfl rfl rfl ?_
  refine W_seq ?_
  refine W_region ?_
  refine WL_box (u := .agg _) (vs := #[_, _, _]) hI rfl rfl rfl rfl rfl rfl ?_
  clear hI; rintro b3 w - - hI
  refine WL_val rfl rfl rfl (by first | exact rAsgnN rfl rfl | exact rAsgnE rfl rfl | exact rAsgn rfl) ?_
  refine WL_nil ?_
  have hck := check_any b tx kind key s _ _ (bpt_at (H := []) (by rw [List.append_nil]; exact hI.d0) hw)
  by_cases hok : OkAsk s tx kind key
  · refine W_seq ?_
    refine W_seq ?_
    refine W_region ?_
    refine WL_val rfl rfl rfl (by first | exact rMoveP rfl rfl | exact rMove rfl) ?_
    refine WL_val rfl rfl rfl (by first | exact rLdB (n := 3) rfl (by kernel_rfl) (by kernel_rfl) rfl rfl hI.g0 | exact rLdB (n := 3) rfl (by kernel_rfl) (by kernel_rfl) rfl rfl hI.g1 | exact rLdB (n := 3) rfl (by kernel_rfl) (by kernel_rfl) rfl rfl hI.g2 | exact rLdB (n := 3) rfl (by kernel_rfl) (by kernel_rfl) rfl rfl hI.g3 | exact rLdB (n := 3) rfl (by kernel_rfl) (by kernel_rfl) rfl rfl hI.g4 | exact rLdB (n := 3) rfl (by kernel_rfl) (by kernel_rfl) rfl rfl hI.g5 | exact rLd3 rfl (by kernel_rfl) (by kernel_rfl) rfl (by first | exact hI.c0 rfl | exact hI.c1 rfl | exact hI.c2 rfl | exact hI.c3 rfl | exact hI.c4 rfl | exact hI.c5 rfl) (by first | exact hI.c0 rfl | exact hI.c1 rfl | exact hI.c2 rfl | exact hI.c3 rfl | exact hI.c4 rfl | exact hI.c5 rfl) (by first | exact hI.c0 rfl | exact hI.c1 rfl | exact hI.c2 rfl | exact hI.c3 rfl | exact hI.c4 rfl | exact hI.c5 rfl)) ?_
    refine WL_call rfl rfl rfl (rCall (vs := [.pointer _, .agg _]) rfl Tryd.func35 rfl rfl rfl) ?_
    refine hck.mono ?_
    rintro e w1 ⟨⟨v, rfl, (⟨rfl, _⟩ | ⟨_, h⟩)⟩, hp⟩
    rotate_left
    · exact absurd hok h
    refine ⟨_, rfl, ?_⟩
    replace hI := hI.pure hp
    refine WL_val rfl rfl rfl (by first | exact rAsgnN rfl rfl | exact rAsgnE rfl rfl | exact rAsgn rfl) ?_
    refine WL_nil ?_
    refine W_seq ?_
    refine W_region ?_
    refine WL_val rfl rfl rfl (by first | exact rMoveN rfl rfl | exact rMoveE rfl rfl | exact rMove rfl) ?_
    refine WL_val rfl rfl rfl (by first | exact rIfaceNe rfl Tryd.underlying37 rfl rfl | exact rNilNe rfl Tryd.underlying37 rfl) ?_
    refine WL_nil ?_
    refine W_cond false rfl ?_
    refine W_skip ?_
    obtain ⟨i, rfl⟩ : ∃ i : Nat, tx = (i : Int) := ⟨tx.toNat, by have := hok.htx; omega⟩
    obtain ⟨q, rfl⟩ : ∃ q : Nat, key = (q : Int) := ⟨key.toNat, by have := hok.hkey; omega⟩
    have hi : i < s.txs.length := by have := hok.htx; omega
    have hq : q < 8 := by have := hok.hkey; omega
    have hD : doF s (i : Int) kind (q : Int) = actF (tick s) i kind q := by rw [doF, if_pos hok]; rfl
    rw [hD]
    have hw1 : Wf (tick s) cT := ⟨hw.olen, hw.tlen, hw.cap, hw.good, by have := hw.time0; show 0 ≤ s.time + 1; omega, fun k => by have := hw.ord k; show ((bOrd s k).length : Int) ≤ s.time + 1; omega, hw.ops⟩
    have ht1 : ∀ k, ((bOrd (tick s) k).length : Int) + 1 ≤ (tick s).time := fun k => by have := hw.ord k; show ((bOrd s k).length : Int) + 1 ≤ s.time + 1; omega
    have h0 := hw.time0
    unfold bpt at hI
    refine W_seq ?_
    refine W_region ?_
    refine WL_val rfl rfl rfl (by first | exact rMoveP rfl rfl | exact rMove rfl) ?_
    refine WL_val rfl rfl rfl (rNilChk rfl rfl) ?_
    refine WL_val rfl rfl rfl (by first | exact rFldN (off := 10) rfl (by kernel_rfl) rfl | exact rFld (off := 10) rfl (by kernel_rfl) rfl) ?_
    refine WL_val rfl rfl rfl (by first | exact rLd (v := .int .i64 _) rfl (by kernel_rfl) rfl (by first | exact hI.c0 rfl | exact hI.c1 rfl | exact hI.c2 rfl) | exact rLd rfl (by kernel_rfl) rfl (by first | exact hI.c0 rfl | exact hI.c1 rfl | exact hI.c2 rfl)) ?_
    refine WL_val rfl rfl rfl (by first | exact rInc rfl rfl rfl (by omega) | exact rAdd rfl rfl rfl (by omega) | exact rAddW rfl rfl rfl) ?_
    refine WL_val rfl rfl rfl (rNilChk rfl rfl) ?_
    refine WL_val rfl rfl rfl (by first | exact rFldN (off := 10) rfl (by kernel_rfl) rfl | exact rFld (off := 10) rfl (by kernel_rfl) rfl) ?_
    first | refine WL_stw0 (u := .int .i64 _) (vs := #[_]) (n := 1) hI rfl rfl rfl rfl rfl rfl (by kernel_rfl) rfl rfl rfl ?_ | refine WL_stw1 (u := .int .i64 _) (vs := #[_]) (n := 1) hI rfl rfl rfl rfl rfl rfl (by kernel_rfl) rfl rfl rfl ?_ | refine WL_stw2 (u := .int .i64 _) (vs := #[_]) (n := 1) hI rfl rfl rfl rfl rfl rfl (by kernel_rfl) rfl rfl rfl ?_ | refine WL_st0 (u := .int .i64 _) hI rfl rfl rfl rfl rfl rfl (by kernel_rfl) rfl rfl rfl ?_ | refine WL_st1 (u := .int .i64 _) hI rfl rfl rfl rfl rfl rfl (by kernel_rfl) rfl rfl rfl ?_ | refine WL_st2 (u := .int .i64 _) hI rfl rfl rfl rfl rfl rfl (by kernel_rfl) rfl rfl rfl ?_
    clear hI; intro w hI
    refine WL_nil ?_
    obtain ⟨s', hs'⟩ : ∃ s', tick s = s' := ⟨_, rfl⟩
    have hi' : i < s'.txs.length := by rw [← hs']; exact hi
    have htx : ∀ k, txAt s' k = txAt s k := fun k => by rw [← hs']; rfl
    have hops60 : (txAt s' i).ops.length ≤ 60 := by rw [htx]; exact hw.ops i
    replace hI : Inv S w0 w ([B b3 58 #[.int .i64 (i : Int), .int .i64 kind, .int .i64 (q : Int)]] ++ bpt b T cT A ca O co rest s') := by
      rw [← hs']; exact hI
    replace hI : Inv S w0 w [B b3 58 #[.int .i64 (i : Int), .int .i64 kind, .int .i64 (q : Int)], B b 64 (baseC s'.careful (.slice (some ⟨T, 0, none⟩) s'.txs.length cT) (fun k => .slice (O k) (bOrd s' k).length (co k)) s'.time), B T 67 ((vsF s' A ca).flatMap mxV ++ rest).toArray, Many s'.txs.length (opRow s' A ca), Many 8 (ordRow s' O co)] := hI
    have htm' : s'.time ≤ 1001 := by rw [← hs']; show s.time + 1 ≤ 1001; omega
    rw [hs'] at hw1 ht1 hD ⊢
    refine W_seq ?_
    refine W_draw (by kernel_rfl) ?_
    refine WA_inv (T := []) hI.drew ?_
    intro Sx hSx hXS
    replace hI := hI.drew
    refine WT_take 0 rfl rfl (by kernel_rfl) (hXS _ hI) rfl (fun W hW => have hI := hSx W hW; (by first | exact rMoveP rfl rfl | exact rMove rfl)) ?_
    refine WT_take 1 rfl rfl (by kernel_rfl) (hXS _ hI) rfl (fun W hW => have hI := hSx W hW; (rNilChk rfl rfl)) ?_
    refine WT_take 2 rfl rfl (by kernel_rfl) (hXS _ hI) rfl (fun W hW => have hI := hSx W hW; (by first | exact rFldN (off := 1) rfl (by kernel_rfl) rfl | exact rFld (off := 1) rfl (by kernel_rfl) rfl)) ?_
    refine WT_take 3 rfl rfl (by kernel_rfl) (hXS _ hI) rfl (fun W hW => have hI := hSx W hW; (by first | exact rLd (v := .slice _ _ _) rfl (by kernel_rfl) rfl (by first | exact hI.c0 rfl | exact hI.c1 rfl) | exact rLd rfl (by kernel_rfl) rfl (by first | exact hI.c0 rfl | exact hI.c1 rfl))) ?_
    refine WT_take 4 rfl rfl (by kernel_rfl) (hXS _ hI) rfl (fun W hW => have hI := hSx W hW; (by first | exact rFldN (off := 0) rfl (by kernel_rfl) rfl | exact rFld0 rfl (by kernel_rfl) rfl)) ?_
    refine WT_take 5 rfl rfl (by kernel_rfl) (hXS _ hI) rfl (fun W hW => have hI := hSx W hW; (by first | exact rLd (v := .int .i64 _) rfl (by kernel_rfl) rfl (by first | exact hI.c0 rfl | exact hI.c1 rfl) | exact rLd rfl (by kernel_rfl) rfl (by first | exact hI.c0 rfl | exact hI.c1 rfl))) ?_
    refine WT_take 6 rfl rfl (by kernel_rfl) (hXS _ hI) rfl (fun W hW => have hI := hSx W hW; (rIdx (sz := 4) rfl Tryd.underlying61 (by kernel_rfl) rfl rfl (by omega))) ?_
    refine WT_take 7 rfl rfl (by kernel_rfl) (hXS _ hI) rfl (fun W hW => have hI := hSx W hW; (by first | exact rAsgnP rfl rfl | exact rAsgn rfl)) ?_
    refine WT_end (by kernel_rfl) ?_
    refine W_seq ?_
    refine W_seq ?_
    refine W_region ?_
    refine WL_val rfl rfl rfl (by first | exact rFldN (off := 1) rfl (by kernel_rfl) rfl | exact rFld (off := 1) rfl (by kernel_rfl) rfl) ?_
    refine WL_val rfl rfl rfl (by first | exact rLd (v := .int .i64 _) rfl (by kernel_rfl) rfl (by first | exact hI.c0 rfl | exact hI.c1 rfl | exact hI.c2 rfl | exact hI.c3 rfl | exact hI.c4 rfl | exact hI.c5 rfl) | exact rLd rfl (by kernel_rfl) rfl (by first | exact hI.c0 rfl | exact hI.c1 rfl | exact hI.c2 rfl | exact hI.c3 rfl | exact hI.c4 rfl | exact hI.c5 rfl)) ?_
    refine WL_nil ?_
    refine W_block ?_
    generalize w.drew = w at hI ⊢
    have hk5 : kind = 1 ∨ kind = 2 ∨ kind = 3 ∨ kind = 4 ∨ kind = 5 := by have := hok.hkind; omega
    rcases hk5 with rfl | rfl | rfl | rfl | rfl
    · refine W_seq ?_
      refine W_region ?_
      refine WL_val rfl rfl rfl (by first | exact rEqlT rfl rfl rfl (by omega) | exact rEqlF rfl rfl rfl (by omega) | exact rEql rfl rfl rfl) ?_
      refine WL_val rfl rfl rfl (by first | exact rAsgnB rfl rfl | exact rAsgn rfl) ?_
      refine WL_nil ?_
      refine W_cond true rfl ?_
      refine W_region ?_
      refine WL_val rfl rfl rfl (by first | exact rMoveP rfl rfl | exact rMove rfl) ?_
      refine WL_val rfl rfl rfl (by first | exact rMoveP rfl rfl | exact rMove rfl) ?_
      refine WL_val rfl rfl rfl (rNilChk rfl rfl) ?_
      refine WL_val rfl rfl rfl (by first | exact rFldN (off := 10) rfl (by kernel_rfl) rfl | exact rFld (off := 10) rfl (by kernel_rfl) rfl) ?_
      refine WL_val rfl rfl rfl (by first | exact rLd (v := .int .i64 _) rfl (by kernel_rfl) rfl (by first | exact hI.c0 rfl | exact hI.c1 rfl | exact hI.c2 rfl) | exact rLd rfl (by kernel_rfl) rfl (by first | exact hI.c0 rfl | exact hI.c1 rfl | exact hI.c2 rfl)) ?_
      refine WL_val rfl rfl rfl (rNilChk rfl rfl) ?_
      refine WL_val rfl rfl rfl (by first | exact rFldN (off := 1) rfl (by kernel_rfl) rfl | exact rFld (off := 1) rfl (by kernel_rfl) rfl) ?_
      refine WL_st2 (u := .int .i64 s'.time) (j := 0 + i * 4 + 1) hI rfl rfl rfl rfl rfl rfl (by kernel_rfl) rfl (cells_blt hi' (by omega)) rfl ?_
      clear hI; intro w hI
      refine WL_nil ?_
      have e1 := bpt_setTx (b := b) (T := T) (cT := cT) (A := A) (ca := ca) (O := O) (co := co) (rest := rest) (t := begT (txAt s' i) s'.time) (v := .int .i64 s'.time) (j := 1) hi' (by omega) rfl rfl
      simp only [Nat.zero_add, List.set_cons_succ, List.set_cons_zero] at hI
      replace hI := hI.d0
      rw [← e1] at hI
      refine W_seq ?_
      refine W_region ?_
      refine WL_val rfl rfl rfl (by first | exact rAsgnN rfl rfl | exact rAsgnE rfl rfl | exact rAsgn rfl) ?_
      refine WL_nil ?_
      refine W_ret ?_
      exact ret1 4 (.inr rfl) rfl ⟨⟨A, ca, O, co, hI⟩, _, rfl, .inl ⟨rfl, rfl⟩⟩
    · refine W_seq ?_
      refine W_region ?_
      refine WL_val rfl rfl rfl (by first | exact rEqlT rfl rfl rfl (by omega) | exact rEqlF rfl rfl rfl (by omega) | exact rEql rfl rfl rfl) ?_
      refine WL_val rfl rfl rfl (by first | exact rAsgnB rfl rfl | exact rAsgn rfl) ?_
      refine WL_nil ?_
      refine W_cond false rfl ?_
      refine W_seq ?_
      refine W_region ?_
      refine WL_val rfl rfl rfl (by first | exact rEqlT rfl rfl rfl (by omega) | exact rEqlF rfl rfl rfl (by omega) | exact rEql rfl rfl rfl) ?_
      refine WL_val rfl rfl rfl (by first | exact rAsgnB rfl rfl | exact rAsgn rfl) ?_
      refine WL_nil ?_
      refine W_cond true rfl ?_
      have hrow0 := cells_get (A := A) (ca := ca) (rest := rest) (j := 0) hi' (by omega)
      have hrd := fun w' (hp : Pure w w') => read_any b i q s' _ w' ((bpt_at (H := []) (by rw [List.append_nil]; exact hI.d0) hw1).pure hp) hi' hq
      have hl60 : (txAt s' i).ops.length < 60 := by rw [htx]; exact hok.hlen (.inl rfl)
      replace hI := hI.up3.many_out hi'
      unfold opRow at hI
      refine W_draw (by kernel_rfl) ?_
      refine WA_inv (T := [15]) hI.d0.drew ?_
      intro Sx hSx hXS
      replace hI := hI.drew
      refine WT_take 0 rfl rfl (by kernel_rfl) (hXS _ hI.d0) rfl (fun W hW => have hI := hSx W hW; (by first | exact rMoveP rfl rfl | exact rMove rfl)) ?_
      refine WT_take 1 rfl rfl (by kernel_rfl) (hXS _ hI.d0) rfl (fun W hW => have hI := hSx W hW; (by first | exact rMoveP rfl rfl | exact rMove rfl)) ?_
      refine WT_take 2 rfl rfl (by kernel_rfl) (hXS _ hI.d0) rfl (fun W hW => have hI := hSx W hW; (rNilChk rfl rfl)) ?_
      refine WT_take 3 rfl rfl (by kernel_rfl) (hXS _ hI.d0) rfl (fun W hW => have hI := hSx W hW; (by first | exact rFldN (off := 0) rfl (by kernel_rfl) rfl | exact rFld0 rfl (by kernel_rfl) rfl)) ?_
      refine WT_take 4 rfl rfl (by kernel_rfl) (hXS _ hI.d0) rfl (fun W hW => have hI := hSx W hW; (by first | exact rLd (v := .slice _ _ _) rfl (by kernel_rfl) rfl (by first | exact hI.c0 rfl | exact hI.c1 rfl | exact hI.c2 rfl | exact hI.c3 rfl | exact hI.c4 rfl | exact hI.c5 rfl | exact (hI.c2 hrow0) | exact (hI.c3 hrow0) | exact (hI.c4 hrow0) | exact (hI.c5 hrow0)) | exact rLd rfl (by kernel_rfl) rfl (by first | exact hI.c0 rfl | exact hI.c1 rfl | exact hI.c2 rfl | exact hI.c3 rfl | exact hI.c4 rfl | exact hI.c5 rfl | exact (hI.c2 hrow0) | exact (hI.c3 hrow0) | exact (hI.c4 hrow0) | exact (hI.c5 hrow0)))) ?_
      refine WT_take 5 rfl rfl (by kernel_rfl) (hXS _ hI.d0) rfl (fun W hW => have hI := hSx W hW; (by first | exact rMoveP rfl rfl | exact rMove rfl)) ?_
      refine WT_take 6 rfl rfl (by kernel_rfl) (hXS _ hI.d0) rfl (fun W hW => have hI := hSx W hW; (by first | exact rFldN (off := 0) rfl (by kernel_rfl) rfl | exact rFld0 rfl (by kernel_rfl) rfl)) ?_
      refine WT_take 7 rfl rfl (by kernel_rfl) (hXS _ hI.d0) rfl (fun W hW => have hI := hSx W hW; (by first | exact rLd (v := .int .i64 _) rfl (by kernel_rfl) rfl (by first | exact hI.c0 rfl | exact hI.c1 rfl | exact hI.c2 rfl | exact hI.c3 rfl | exact hI.c4 rfl | exact hI.c5 rfl | exact (hI.c2 hrow0) | exact (hI.c3 hrow0) | exact (hI.c4 hrow0) | exact (hI.c5 hrow0)) | exact rLd rfl (by kernel_rfl) rfl (by first | exact hI.c0 rfl | exact hI.c1 rfl | exact hI.c2 rfl | exact hI.c3 rfl | exact hI.c4 rfl | exact hI.c5 rfl | exact (hI.c2 hrow0) | exact (hI.c3 hrow0) | exact (hI.c4 hrow0) | exact (hI.c5 hrow0)))) ?_
      refine WT_take 8 rfl rfl (by kernel_rfl) (hXS _ hI.d0) rfl (fun W hW => have hI := hSx W hW; (by first | exact rFldN (off := 2) rfl (by kernel_rfl) rfl | exact rFld (off := 2) rfl (by kernel_rfl) rfl)) ?_
      refine WT_take 9 rfl rfl (by kernel_rfl) (hXS _ hI.d0) rfl (fun W hW => have hI := hSx W hW; (by first | exact rLd (v := .int .i64 _) rfl (by kernel_rfl) rfl (by first | exact hI.c0 rfl | exact hI.c1 rfl | exact hI.c2 rfl | exact hI.c3 rfl | exact hI.c4 rfl | exact hI.c5 rfl | exact (hI.c2 hrow0) | exact (hI.c3 hrow0) | exact (hI.c4 hrow0) | exact (hI.c5 hrow0)) | exact rLd rfl (by kernel_rfl) rfl (by first | exact hI.c0 rfl | exact hI.c1 rfl | exact hI.c2 rfl | exact hI.c3 rfl | exact hI.c4 rfl | exact hI.c5 rfl | exact (hI.c2 hrow0) | exact (hI.c3 hrow0) | exact (hI.c4 hrow0) | exact (hI.c5 hrow0)))) ?_
      refine WT_one 10 rfl (by kernel_rfl) rfl ?_
      refine WL_call rfl rfl rfl (rCall (vs := [.pointer _, .int .i64 _, .int .i64 _]) rfl Tryd.func36 rfl rfl rfl) ?_
      refine (hrd _ ((Pure.refl _).drew)).mono ?_
      rintro e w1 ⟨rfl, hp⟩
      refine ⟨_, rfl, ?_⟩
      replace hI := hI.pure hp
      refine WL_nil ⟨hXS _ hI.d0, ?_⟩
      refine WT_one 11 rfl (by kernel_rfl) rfl ?_
      refine WL_litA (e := 70) (size := 4) [opV (readF s' i q)] hI rfl rfl rfl rfl rfl Tryd.underlying65 (by kernel_rfl) (by kernel_rfl) rfl (by simp [opV]) (by omega) ?_
      clear hI; rintro b91 w - - hI
      refine WL_nil ⟨hXS _ hI.d0.d0, ?_⟩
      refine WT_one 12 rfl (by kernel_rfl) rfl ?_
      first | refine WL_app1 (z := .agg #[.bool false, .int .i64 0, .int .i64 0, .int .i64 0]) (by_ := 32) hI rfl rfl rfl rfl rfl rfl Tryd.underlying65 (by kernel_rfl) rfl (by omega) (by rfl) hI.lit0 (by first | rfl | simp [i64s, Value.oneCell']) (by omega) (by omega) (by first | exact Nat.zero_le _ | (have := hI.chg.size; omega)) ?_ | refine WL_app2 (z := .agg #[.bool false, .int .i64 0, .int .i64 0, .int .i64 0]) (by_ := 32) hI rfl rfl rfl rfl rfl rfl Tryd.underlying65 (by kernel_rfl) rfl (by omega) (by rfl) hI.lit0 (by first | rfl | simp [i64s, Value.oneCell']) (by omega) (by omega) (by first | exact Nat.zero_le _ | (have := hI.chg.size; omega)) ?_ | refine WL_app3 (z := .agg #[.bool false, .int .i64 0, .int .i64 0, .int .i64 0]) (by_ := 32) hI rfl rfl rfl rfl rfl rfl Tryd.underlying65 (by kernel_rfl) rfl (by omega) (by rfl) hI.lit0 (by first | rfl | simp [i64s, Value.oneCell']) (by omega) (by omega) (by first | exact Nat.zero_le _ | (have := hI.chg.size; omega)) ?_ | refine WL_app4 (z := .agg #[.bool false, .int .i64 0, .int .i64 0, .int .i64 0]) (by_ := 32) hI rfl rfl rfl rfl rfl rfl Tryd.underlying65 (by kernel_rfl) rfl (by omega) (by rfl) hI.lit0 (by first | rfl | simp [i64s, Value.oneCell']) (by omega) (by omega) (by first | exact Nat.zero_le _ | (have := hI.chg.size; omega)) ?_ | refine WL_app5 (z := .agg #[.bool false, .int .i64 0, .int .i64 0, .int .i64 0]) (by_ := 32) hI rfl rfl rfl rfl rfl rfl Tryd.underlying65 (by kernel_rfl) rfl (by omega) (by rfl) hI.lit0 (by first | rfl | simp [i64s, Value.oneCell']) (by omega) (by omega) (by first | exact Nat.zero_le _ | (have := hI.chg.size; omega)) ?_
      clear hI; rintro A52 c52 w hA52 hc52 hI
      replace hI := hI.d0
      refine WL_nil ⟨hXS _ hI.d0, ?_⟩
      refine WT_take 13 rfl rfl (by kernel_rfl) (hXS _ hI.d0) rfl (fun W hW => have hI := hSx W hW; (rNilChk rfl rfl)) ?_
      refine WT_take 14 rfl rfl (by kernel_rfl) (hXS _ hI.d0) rfl (fun W hW => have hI := hSx W hW; (by first | exact rFldN (off := 0) rfl (by kernel_rfl) rfl | exact rFld0 rfl (by kernel_rfl) rfl)) ?_
      refine WT_A (by kernel_rfl) ?_
      clear hXS hSx
      refine WA_one 15 rfl (by kernel_rfl) ?_
      refine WL_st4 (u := .slice _ _ _) (j := 0 + i * 4 + 0) hI rfl rfl rfl rfl rfl rfl (by kernel_rfl) rfl (cells_blt hi' (by omega)) rfl ?_
      clear hI; intro w hI
      refine WL_nil ?_
      refine WA_end (by kernel_rfl) ?_
      obtain ⟨t', ht'⟩ : ∃ t', opT (txAt s' i) (readF s' i q) = t' := ⟨_, rfl⟩
      have hcs := cells_set (s := s') (i := i) (j := 0) (t := t') (A := A) (A' := fun k => if k = i then A52 else A k) (ca := ca) (ca' := fun k => if k = i then c52 else ca k) (rest := rest) (v := .slice A52 ((txAt s' i).ops.length + 1) c52) hi' (by omega) (fun k hk => by simp [hk]) (by rw [← ht']; simp [mxV, opT])
      simp only [Nat.zero_add, List.set_cons_succ, List.set_cons_zero] at hI
      rw [hcs] at hI
      replace hI := (hI.many_in hi' (by simp)).many_congr (es' := opRow (setTx s' i t') (fun k => if k = i then A52 else A k) (fun k => if k = i then c52 else ca k)) (fun j hj => by
        rw [opRow_set (A := A) (A' := fun k => if k = i then A52 else A k) (ca := ca) (ca' := fun k => if k = i then c52 else ca k) hi' (fun k hk => by simp [hk]), ← ht']
        by_cases hji : j = i
        · subst hji; simp [opT, opV]
        · simp only [if_neg hji]; rfl)
      replace hI := hI.dn3.d0
      refine W_seq ?_
      refine W_region ?_
      refine WL_val rfl rfl rfl (by first | exact rAsgnN rfl rfl | exact rAsgnE rfl rfl | exact rAsgn rfl) ?_
      refine WL_nil ?_
      refine W_ret ?_
      exact ret1 4 (.inr rfl) rfl ⟨⟨_, _, O, co, by rw [show actF s' i 2 q = (setTx s' i t', true) by rw [← ht']; rfl]; unfold bpt; rw [setTx_len]; exact hI⟩, _, rfl, .inl ⟨rfl, rfl⟩⟩
    · refine W_seq ?_
      refine W_region ?_
      refine WL_val rfl rfl rfl (by first | exact rEqlT rfl rfl rfl (by omega) | exact rEqlF rfl rfl rfl (by omega) | exact rEql rfl rfl rfl) ?_
      refine WL_val rfl rfl rfl (by first | exact rAsgnB rfl rfl | exact rAsgn rfl) ?_
      refine WL_nil ?_
      refine W_cond false rfl ?_
      refine W_seq ?_
      refine W_region ?_
      refine WL_val rfl rfl rfl (by first | exact rEqlT rfl rfl rfl (by omega) | exact rEqlF rfl rfl rfl (by omega) | exact rEql rfl rfl rfl) ?_
      refine WL_val rfl rfl rfl (by first | exact rAsgnB rfl rfl | exact rAsgn rfl) ?_
      refine WL_nil ?_
      refine W_cond false rfl ?_
      refine W_seq ?_
      refine W_region ?_
      refine WL_val rfl rfl rfl (by first | exact rEqlT rfl rfl rfl (by omega) | exact rEqlF rfl rfl rfl (by omega) | exact rEql rfl rfl rfl) ?_
      refine WL_val rfl rfl rfl (by first | exact rAsgnB rfl rfl | exact rAsgn rfl) ?_
      refine WL_nil ?_
      refine W_cond true rfl ?_
      have hrow0 := cells_get (A := A) (ca := ca) (rest := rest) (j := 0) hi' (by omega)
      have hl60 : (txAt s' i).ops.length < 60 := by rw [htx]; exact hok.hlen (.inr rfl)
      replace hI := hI.up3.many_out hi'
      unfold opRow at hI
      refine W_draw (by kernel_rfl) ?_
      refine WA_inv (T := [12]) hI.d0.drew ?_
      intro Sx hSx hXS
      replace hI := hI.drew
      refine WT_take 0 rfl rfl (by kernel_rfl) (hXS _ hI.d0) rfl (fun W hW => have hI := hSx W hW; (by first | exact rMoveP rfl rfl | exact rMove rfl)) ?_
      refine WT_take 1 rfl rfl (by kernel_rfl) (hXS _ hI.d0) rfl (fun W hW => have hI := hSx W hW; (by first | exact rMoveP rfl rfl | exact rMove rfl)) ?_
      refine WT_take 2 rfl rfl (by kernel_rfl) (hXS _ hI.d0) rfl (fun W hW => have hI := hSx W hW; (rNilChk rfl rfl)) ?_
      refine WT_take 3 rfl rfl (by kernel_rfl) (hXS _ hI.d0) rfl (fun W hW => have hI := hSx W hW; (by first | exact rFldN (off := 0) rfl (by kernel_rfl) rfl | exact rFld0 rfl (by kernel_rfl) rfl)) ?_
      refine WT_take 4 rfl rfl (by kernel_rfl) (hXS _ hI.d0) rfl (fun W hW => have hI := hSx W hW; (by first | exact rLd (v := .slice _ _ _) rfl (by kernel_rfl) rfl (by first | exact hI.c0 rfl | exact hI.c1 rfl | exact hI.c2 rfl | exact hI.c3 rfl | exact hI.c4 rfl | exact hI.c5 rfl | exact (hI.c2 hrow0) | exact (hI.c3 hrow0) | exact (hI.c4 hrow0) | exact (hI.c5 hrow0)) | exact rLd rfl (by kernel_rfl) rfl (by first | exact hI.c0 rfl | exact hI.c1 rfl | exact hI.c2 rfl | exact hI.c3 rfl | exact hI.c4 rfl | exact hI.c5 rfl | exact (hI.c2 hrow0) | exact (hI.c3 hrow0) | exact (hI.c4 hrow0) | exact (hI.c5 hrow0)))) ?_
      refine WT_take 5 rfl rfl (by kernel_rfl) (hXS _ hI.d0) rfl (fun W hW => have hI := hSx W hW; (by first | exact rFldN (off := 2) rfl (by kernel_rfl) rfl | exact rFld (off := 2) rfl (by kernel_rfl) rfl)) ?_
      refine WT_take 6 rfl rfl (by kernel_rfl) (hXS _ hI.d0) rfl (fun W hW => have hI := hSx W hW; (by first | exact rLd (v := .int .i64 _) rfl (by kernel_rfl) rfl (by first | exact hI.c0 rfl | exact hI.c1 rfl | exact hI.c2 rfl | exact hI.c3 rfl | exact hI.c4 rfl | exact hI.c5 rfl | exact (hI.c2 hrow0) | exact (hI.c3 hrow0) | exact (hI.c4 hrow0) | exact (hI.c5 hrow0)) | exact rLd rfl (by kernel_rfl) rfl (by first | exact hI.c0 rfl | exact hI.c1 rfl | exact hI.c2 rfl | exact hI.c3 rfl | exact hI.c4 rfl | exact hI.c5 rfl | exact (hI.c2 hrow0) | exact (hI.c3 hrow0) | exact (hI.c4 hrow0) | exact (hI.c5 hrow0)))) ?_
      refine WT_take 7 rfl rfl (by kernel_rfl) (hXS _ hI.d0) rfl (fun W hW => have hI := hSx W hW; (rBuild (qs := [(0, .bool _), (1, .int .i64 _)]) (vs := [_, _, _, _]) [.bool false, .int .i64 0, .int .i64 0, .int .i64 0] [0, 1] rfl rfl rfl (fun _ => by kernel_rfl))) ?_
      refine WT_one 8 rfl (by kernel_rfl) rfl ?_
      refine WL_litA (e := 70) (size := 4) [opV ⟨true, (q : Int), 0, 0⟩] hI rfl rfl rfl rfl rfl Tryd.underlying65 (by kernel_rfl) (by kernel_rfl) rfl (by simp [opV]) (by omega) ?_
      clear hI; rintro b91 w - - hI
      refine WL_nil ⟨hXS _ hI.d0.d0, ?_⟩
      refine WT_one 9 rfl (by kernel_rfl) rfl ?_
      first | refine WL_app1 (z := .agg #[.bool false, .int .i64 0, .int .i64 0, .int .i64 0]) (by_ := 32) hI rfl rfl rfl rfl rfl rfl Tryd.underlying65 (by kernel_rfl) rfl (by omega) (by rfl) hI.lit0 (by first | rfl | simp [i64s, Value.oneCell']) (by omega) (by omega) (by first | exact Nat.zero_le _ | (have := hI.chg.size; omega)) ?_ | refine WL_app2 (z := .agg #[.bool false, .int .i64 0, .int .i64 0, .int .i64 0]) (by_ := 32) hI rfl rfl rfl rfl rfl rfl Tryd.underlying65 (by kernel_rfl) rfl (by omega) (by rfl) hI.lit0 (by first | rfl | simp [i64s, Value.oneCell']) (by omega) (by omega) (by first | exact Nat.zero_le _ | (have := hI.chg.size; omega)) ?_ | refine WL_app3 (z := .agg #[.bool false, .int .i64 0, .int .i64 0, .int .i64 0]) (by_ := 32) hI rfl rfl rfl rfl rfl rfl Tryd.underlying65 (by kernel_rfl) rfl (by omega) (by rfl) hI.lit0 (by first | rfl | simp [i64s, Value.oneCell']) (by omega) (by omega) (by first | exact Nat.zero_le _ | (have := hI.chg.size; omega)) ?_ | refine WL_app4 (z := .agg #[.bool false, .int .i64 0, .int .i64 0, .int .i64 0]) (by_ := 32) hI rfl rfl rfl rfl rfl rfl Tryd.underlying65 (by kernel_rfl) rfl (by omega) (by rfl) hI.lit0 (by first | rfl | simp [i64s, Value.oneCell']) (by omega) (by omega) (by first | exact Nat.zero_le _ | (have := hI.chg.size; omega)) ?_ | refine WL_app5 (z := .agg #[.bool false, .int .i64 0, .int .i64 0, .int .i64 0]) (by_ := 32) hI rfl rfl rfl rfl rfl rfl Tryd.underlying65 (by kernel_rfl) rfl (by omega) (by rfl) hI.lit0 (by first | rfl | simp [i64s, Value.oneCell']) (by omega) (by omega) (by first | exact Nat.zero_le _ | (have := hI.chg.size; omega)) ?_
      clear hI; rintro A66 c66 w hA66 hc66 hI
      replace hI := hI.d0
      refine WL_nil ⟨hXS _ hI.d0, ?_⟩
      refine WT_take 10 rfl rfl (by kernel_rfl) (hXS _ hI.d0) rfl (fun W hW => have hI := hSx W hW; (rNilChk rfl rfl)) ?_
      refine WT_take 11 rfl rfl (by kernel_rfl) (hXS _ hI.d0) rfl (fun W hW => have hI := hSx W hW; (by first | exact rFldN (off := 0) rfl (by kernel_rfl) rfl | exact rFld0 rfl (by kernel_rfl) rfl)) ?_
      refine WT_A (by kernel_rfl) ?_
      clear hXS hSx
      refine WA_one 12 rfl (by kernel_rfl) ?_
      refine WL_st4 (u := .slice _ _ _) (j := 0 + i * 4 + 0) hI rfl rfl rfl rfl rfl rfl (by kernel_rfl) rfl (cells_blt hi' (by omega)) rfl ?_
      clear hI; intro w hI
      refine WL_nil ?_
      refine WA_end (by kernel_rfl) ?_
      obtain ⟨t', ht'⟩ : ∃ t', opT (txAt s' i) ⟨true, (q : Int), 0, 0⟩ = t' := ⟨_, rfl⟩
      have hcs := cells_set (s := s') (i := i) (j := 0) (t := t') (A := A) (A' := fun k => if k = i then A66 else A k) (ca := ca) (ca' := fun k => if k = i then c66 else ca k) (rest := rest) (v := .slice A66 ((txAt s' i).ops.length + 1) c66) hi' (by omega) (fun k hk => by simp [hk]) (by rw [← ht']; simp [mxV, opT])
      simp only [Nat.zero_add, List.set_cons_succ, List.set_cons_zero] at hI
      rw [hcs] at hI
      replace hI := (hI.many_in hi' (by simp)).many_congr (es' := opRow (setTx s' i t') (fun k => if k = i then A66 else A k) (fun k => if k = i then c66 else ca k)) (fun j hj => by
        rw [opRow_set (A := A) (A' := fun k => if k = i then A66 else A k) (ca := ca) (ca' := fun k => if k = i then c66 else ca k) hi' (fun k hk => by simp [hk]), ← ht']
        by_cases hji : j = i
        · subst hji; simp [opT, opV]
        · simp only [if_neg hji]; rfl)
      replace hI := hI.dn3.d0
      refine W_seq ?_
      refine W_region ?_
      refine WL_val rfl rfl rfl (by first | exact rAsgnN rfl rfl | exact rAsgnE rfl rfl | exact rAsgn rfl) ?_
      refine WL_nil ?_
      refine W_ret ?_
      exact ret1 4 (.inr rfl) rfl ⟨⟨_, _, O, co, by rw [show actF s' i 3 q = (setTx s' i t', true) by rw [← ht']; rfl]; unfold bpt; rw [setTx_len]; exact hI⟩, _, rfl, .inl ⟨rfl, rfl⟩⟩
    · refine W_seq ?_
      refine W_region ?_
      refine WL_val rfl rfl rfl (by first | exact rEqlT rfl rfl rfl (by omega) | exact rEqlF rfl rfl rfl (by omega) | exact rEql rfl rfl rfl) ?_
      refine WL_val rfl rfl rfl (by first | exact rAsgnB rfl rfl | exact rAsgn rfl) ?_
      refine WL_nil ?_
      refine W_cond false rfl ?_
      refine W_seq ?_
      refine W_region ?_
      refine WL_val rfl rfl rfl (by first | exact rEqlT rfl rfl rfl (by omega) | exact rEqlF rfl rfl rfl (by omega) | exact rEql rfl rfl rfl) ?_
      refine WL_val rfl rfl rfl (by first | exact rAsgnB rfl rfl | exact rAsgn rfl) ?_
      refine WL_nil ?_
      refine W_cond false rfl ?_
      refine W_seq ?_
      refine W_region ?_
      refine WL_val rfl rfl rfl (by first | exact rEqlT rfl rfl rfl (by omega) | exact rEqlF rfl rfl rfl (by omega) | exact rEql rfl rfl rfl) ?_
      refine WL_val rfl rfl rfl (by first | exact rAsgnB rfl rfl | exact rAsgn rfl) ?_
      refine WL_nil ?_
      refine W_cond false rfl ?_
      refine W_seq ?_
      refine W_region ?_
      refine WL_val rfl rfl rfl (by first | exact rEqlT rfl rfl rfl (by omega) | exact rEqlF rfl rfl rfl (by omega) | exact rEql rfl rfl rfl) ?_
      refine WL_val rfl rfl rfl (by first | exact rAsgnB rfl rfl | exact rAsgn rfl) ?_
      refine WL_nil ?_
      refine W_cond true rfl ?_
      have hcm := commit_any b T cT A ca O co rest i s' _ w (Inv.from (l := bpt b T cT A ca O co rest s') (H := []) (by rw [List.append_nil]; exact hI.d0)) hw1 hi' ht1 (by omega)
      have hA4 : actF s' i 4 q = commitF s' i := rfl
      rw [hA4]
      refine W_seq ?_
      refine W_region ?_
      refine WL_val rfl rfl rfl (by first | exact rMoveP rfl rfl | exact rMove rfl) ?_
      refine WL_val rfl rfl rfl (by first | exact rFldN (off := 0) rfl (by kernel_rfl) rfl | exact rFld0 rfl (by kernel_rfl) rfl) ?_
      refine WL_val rfl rfl rfl (by first | exact rLd (v := .int .i64 _) rfl (by kernel_rfl) rfl (by first | exact hI.c0 rfl | exact hI.c1 rfl | exact hI.c2 rfl | exact hI.c3 rfl | exact hI.c4 rfl | exact hI.c5 rfl) | exact rLd rfl (by kernel_rfl) rfl (by first | exact hI.c0 rfl | exact hI.c1 rfl | exact hI.c2 rfl | exact hI.c3 rfl | exact hI.c4 rfl | exact hI.c5 rfl)) ?_
      refine WL_call rfl rfl rfl (rCall (vs := [.pointer _, .int .i64 _]) rfl Tryd.func37 rfl rfl rfl) ?_
      refine hcm.mono ?_
      rintro e w1 ⟨⟨O', co', hI2⟩, rfl⟩
      refine ⟨_, rfl, ?_⟩
      replace hI := Inv.turnL (l := bpt b T cT A ca O co rest s') (H := []) (by rw [List.append_nil]; exact hI.d0) hI2
      rw [List.append_nil] at hI
      refine WL_val rfl rfl rfl (by first | exact rAsgnN rfl rfl | exact rAsgnE rfl rfl | exact rAsgn rfl) ?_
      refine WL_nil ?_
      refine W_ret ?_
      refine ret1 4 (.inr rfl) rfl ⟨⟨A, ca, O', co', hI⟩, _, rfl, ?_⟩
      cases (commitF s' i).2 with
      | true => exact .inl ⟨rfl, rfl⟩
      | false => exact .inr ⟨⟨12, rfl⟩, rfl, fun _ => rfl⟩
    · refine W_seq ?_
      refine W_region ?_
      refine WL_val rfl rfl rfl (by first | exact rEqlT rfl rfl rfl (by omega) | exact rEqlF rfl rfl rfl (by omega) | exact rEql rfl rfl rfl) ?_
      refine WL_val rfl rfl rfl (by first | exact rAsgnB rfl rfl | exact rAsgn rfl) ?_
      refine WL_nil ?_
      refine W_cond false rfl ?_
      refine W_seq ?_
      refine W_region ?_
      refine WL_val rfl rfl rfl (by first | exact rEqlT rfl rfl rfl (by omega) | exact rEqlF rfl rfl rfl (by omega) | exact rEql rfl rfl rfl) ?_
      refine WL_val rfl rfl rfl (by first | exact rAsgnB rfl rfl | exact rAsgn rfl) ?_
      refine WL_nil ?_
      refine W_cond false rfl ?_
      refine W_seq ?_
      refine W_region ?_
      refine WL_val rfl rfl rfl (by first | exact rEqlT rfl rfl rfl (by omega) | exact rEqlF rfl rfl rfl (by omega) | exact rEql rfl rfl rfl) ?_
      refine WL_val rfl rfl rfl (by first | exact rAsgnB rfl rfl | exact rAsgn rfl) ?_
      refine WL_nil ?_
      refine W_cond false rfl ?_
      refine W_seq ?_
      refine W_region ?_
      refine WL_val rfl rfl rfl (by first | exact rEqlT rfl rfl rfl (by omega) | exact rEqlF rfl rfl rfl (by omega) | exact rEql rfl rfl rfl) ?_
      refine WL_val rfl rfl rfl (by first | exact rAsgnB rfl rfl | exact rAsgn rfl) ?_
      refine WL_nil ?_
      refine W_cond false rfl ?_
      refine W_seq ?_
      refine W_region ?_
      refine WL_val rfl rfl rfl (by first | exact rEqlT rfl rfl rfl (by omega) | exact rEqlF rfl rfl rfl (by omega) | exact rEql rfl rfl rfl) ?_
      refine WL_val rfl rfl rfl (by first | exact rAsgnB rfl rfl | exact rAsgn rfl) ?_
      refine WL_nil ?_
      refine W_cond true rfl ?_
      refine W_region ?_
      refine WL_val rfl rfl rfl (by first | exact rMoveP rfl rfl | exact rMove rfl) ?_
      refine WL_val rfl rfl rfl (rNilChk rfl rfl) ?_
      refine WL_val rfl rfl rfl (by first | exact rFldN (off := 3) rfl (by kernel_rfl) rfl | exact rFld (off := 3) rfl (by kernel_rfl) rfl) ?_
      refine WL_st2 (u := .bool true) (j := 0 + i * 4 + 3) hI rfl rfl rfl rfl rfl rfl (by kernel_rfl) rfl (cells_blt hi' (by omega)) rfl ?_
      clear hI; intro w hI
      refine WL_nil ?_
      have e1 := bpt_setTx (b := b) (T := T) (cT := cT) (A := A) (ca := ca) (O := O) (co := co) (rest := rest) (t := overT (txAt s' i)) (v := .bool true) (j := 3) hi' (by omega) rfl rfl
      simp only [Nat.zero_add, List.set_cons_succ, List.set_cons_zero] at hI
      replace hI := hI.d0
      rw [← e1] at hI
      refine W_seq ?_
      refine W_region ?_
      refine WL_val rfl rfl rfl (by first | exact rAsgnN rfl rfl | exact rAsgnE rfl rfl | exact rAsgn rfl) ?_
      refine WL_nil ?_
      refine W_ret ?_
      exact ret1 4 (.inr rfl) rfl ⟨⟨A, ca, O, co, hI⟩, _, rfl, .inl ⟨rfl, rfl⟩⟩
  · have hD : doF s tx kind key = (s, false) := by rw [doF, if_neg hok]
    rw [hD]
    refine W_seq ?_
    refine W_seq ?_
    refine W_region ?_
    refine WL_val rfl rfl rfl (by first | exact rMoveP rfl rfl | exact rMove rfl) ?_
    refine WL_val rfl rfl rfl (by first | exact rLdB (n := 3) rfl (by kernel_rfl) (by kernel_rfl) rfl rfl hI.g0 | exact rLdB (n := 3) rfl (by kernel_rfl) (by kernel_rfl) rfl rfl hI.g1 | exact rLdB (n := 3) rfl (by kernel_rfl) (by kernel_rfl) rfl rfl hI.g2 | exact rLdB (n := 3) rfl (by kernel_rfl) (by kernel_rfl) rfl rfl hI.g3 | exact rLdB (n := 3) rfl (by kernel_rfl) (by kernel_rfl) rfl rfl hI.g4 | exact rLdB (n := 3) rfl (by kernel_rfl) (by kernel_rfl) rfl rfl hI.g5 | exact rLd3 rfl (by kernel_rfl) (by kernel_rfl) rfl (by first | exact hI.c0 rfl | exact hI.c1 rfl | exact hI.c2 rfl | exact hI.c3 rfl | exact hI.c4 rfl | exact hI.c5 rfl) (by first | exact hI.c0 rfl | exact hI.c1 rfl | exact hI.c2 rfl | exact hI.c3 rfl | exact hI.c4 rfl | exact hI.c5 rfl) (by first | exact hI.c0 rfl | exact hI.c1 rfl | exact hI.c2 rfl | exact hI.c3 rfl | exact hI.c4 rfl | exact hI.c5 rfl)) ?_
    refine WL_call rfl rfl rfl (rCall (vs := [.pointer _, .agg _]) rfl Tryd.func35 rfl rfl rfl) ?_
    refine hck.mono ?_
    rintro e w1 ⟨⟨v, rfl, (⟨_, h⟩ | ⟨⟨c, rfl⟩, _⟩)⟩, hp⟩
    · exact absurd h hok
    refine ⟨_, rfl, ?_⟩
    replace hI := hI.pure hp
    refine WL_val rfl rfl rfl (by first | exact rAsgnN rfl rfl | exact rAsgnE rfl rfl | exact rAsgn rfl) ?_
    refine WL_nil ?_
    refine W_seq ?_
    refine W_region ?_
    refine WL_val rfl rfl rfl (by first | exact rMoveN rfl rfl | exact rMoveE rfl rfl | exact rMove rfl) ?_
    refine WL_val rfl rfl rfl (by first | exact rIfaceNe rfl Tryd.underlying37 rfl rfl | exact rNilNe rfl Tryd.underlying37 rfl) ?_
    refine WL_nil ?_
    refine W_cond true rfl ?_
    refine W_seq ?_
    refine W_region ?_
    refine WL_val rfl rfl rfl (by first | exact rMoveN rfl rfl | exact rMoveE rfl rfl | exact rMove rfl) ?_
    refine WL_val rfl rfl rfl (by first | exact rAsgnN rfl rfl | exact rAsgnE rfl rfl | exact rAsgn rfl) ?_
    refine WL_nil ?_
    refine W_ret ?_
    exact ret1 4 (.inr rfl) rfl ⟨⟨A, ca, O, co, hI.d0⟩, _, rfl, .inr ⟨⟨c, rfl⟩, rfl, fun h => absurd h hok⟩⟩
end Go.Proofs.YtlnjmkldpicpdaaDoor
