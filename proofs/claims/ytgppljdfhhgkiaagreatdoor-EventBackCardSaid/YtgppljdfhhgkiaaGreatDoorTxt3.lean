/- text: event.index (a word that is there), event.parse (a line that Text wrote). -/
import Derived.Test.YtgppljdfhhgkiaaGreatDoorTxt1
namespace Go.Proofs.YtgppljdfhhgkiaaGreatDoor
open Go.RowKit
set_option linter.unusedVariables false
set_option linter.unusedSimpArgs false
set_option maxHeartbeats 1000000 in
theorem index_any (l : List UInt8) (ws : List (List UInt8)) (m : Nat) (wd : List UInt8) (hf : Lib.fields l = ws) (hl : l.length ≤ 1000) (ha : ∀ (j : Nat) b, l[j]? = some b → b.toNat < 128) (hm : ws[m]? = some wd) (hnd : ws.Nodup) (hws : ws.length ≤ 1000) (w0 : World) (hG : TxG w0) :
    Calls Tryz.prog 31 #[strV l, strV wd] w0 fun e w' => e = .returned (.int .i64 (m : Int)) ∧ Pure w0 w' := by
  have hI := Inv.start (fun _ => False) w0
  have hmw := (List.getElem?_eq_some_iff.1 hm).1
  refine calls_of_W (N := Tryz.f31.ntmps) Tryz.func31 rfl rfl rfl ?_
  refine W_seq ?_
  refine W_region ?_
  refine WL_val rfl rfl rfl (by first | exact rAsgnI rfl rfl | exact rAsgn rfl) ?_
  refine WL_nil ?_
  refine W_seq ?_
  refine W_seq ?_
  refine W_region ?_
  refine WL_val rfl rfl rfl (by first | exact rMoveStr rfl rfl | exact rMove rfl) ?_
  refine WL_call rfl rfl rfl (rCall (vs := [.string _]) rfl Tryz.func10 rfl rfl rfl) ?_
  refine (fields_any l ws hf hl ha _ (hG.pure hI.pu)).mono ?_
  rintro e w1 ⟨g1, rfl, hT⟩
  refine ⟨_, rfl, ?_⟩
  replace hI := hI.app1 hT
  refine WL_val rfl rfl rfl (rLen rfl Tryz.underlying41 rfl) ?_
  refine WL_val rfl rfl rfl (by first | exact rMoveI rfl rfl | exact rMove rfl) ?_
  refine WL_nil ?_
  refine W_block ?_
  refine W_loopN (fun mu ρ w => ∃ k : Nat, mu = ws.length - k ∧ k ≤ m ∧ Has ρ [(10, .int .i64 (k : Int)), (9, .int .i64 (ws.length : Int)), (8, .slice (some ⟨g1, 0, none⟩) ws.length ws.length), (1, strV wd)] ∧ Inv (fun _ => False) w0 w [B g1 9 (ws.map strV).toArray]) ws.length
    ⟨0, rfl, by omega, ⟨rfl, rfl, rfl, rfl, trivial⟩, hI⟩ ?_
  clear hI
  rintro mu ρ w ⟨k, rfl, hk, hH, hI⟩
  obtain ⟨σ, rfl⟩ := hH.open
  have hkl : k < ws.length := by omega
  have hks : (ws.map strV).toArray[k]? = some (strV ws[k]) := by
    rw [List.getElem?_toArray, List.getElem?_map, List.getElem?_eq_getElem hkl]; rfl
  have hkm : ws[k] = wd ↔ k = m := by
    have h1 : ws[m] = wd := by rw [List.getElem?_eq_getElem hmw] at hm; exact Option.some.inj hm
    constructor
    · intro h
      have hp := List.pairwise_iff_getElem.1 hnd
      rcases Nat.lt_trichotomy k m with h2 | h2 | h2
      · exact absurd (h.trans h1.symm) (hp k m hkl hmw h2)
      · exact h2
      · exact absurd (h1.trans h.symm) (hp m k hmw hkl h2)
    · rintro rfl; exact h1
  generalize ws[k] = wk at hks hkm
  refine W_seq ?_
  refine W_region ?_
  refine WL_val rfl rfl rfl (by first | exact rLssT rfl rfl rfl (by omega) | exact rLssF rfl rfl rfl (by omega) | exact rLss rfl rfl rfl) ?_
  refine WL_nil ?_
  refine W_seq ?_
  refine W_cond true rfl ?_
  refine W_skip ?_
  refine W_seq ?_
  refine W_block ?_
  refine W_seq ?_
  refine W_region ?_
  refine WL_val rfl rfl rfl (by first | exact rMoveI rfl rfl | exact rMove rfl) ?_
  refine WL_val rfl rfl rfl (by first | exact rIdx0 rfl Tryz.underlying41 (by kernel_rfl) rfl rfl rfl (by omega) | exact rIdx1 rfl Tryz.underlying41 (by kernel_rfl) rfl rfl (by omega)) ?_
  refine WL_val rfl rfl rfl (by first | exact rLd (v := .string _) rfl (by kernel_rfl) rfl (by first | exact hI.c0 rfl | exact (hI.c0 hks)) | exact rLd rfl (by kernel_rfl) rfl (by first | exact hI.c0 rfl | exact (hI.c0 hks))) ?_
  refine WL_val rfl rfl rfl (by first | exact rAsgnI rfl rfl | exact rAsgn rfl) ?_
  refine WL_val rfl rfl rfl (by first | exact rAsgnStr rfl rfl | exact rAsgn rfl) ?_
  refine WL_nil ?_
  by_cases hkm' : k = m
  · have hwe : wk = wd := hkm.2 hkm'
    subst hkm'
    refine W_seq ?_
    refine W_region ?_
    refine WL_val rfl rfl rfl (by first | exact rMoveStr rfl rfl | exact rMove rfl) ?_
    refine WL_val rfl rfl rfl (by first | exact rMoveStr rfl rfl | exact rMove rfl) ?_
    refine WL_val rfl rfl rfl (by first | exact rStrEqT rfl rfl rfl (by first | assumption | decide) | exact rStrEqF rfl rfl rfl (by first | assumption | decide) | exact rStrEq rfl rfl rfl) ?_
    refine WL_nil ?_
    refine W_cond true rfl ?_
    refine W_seq ?_
    refine W_region ?_
    refine WL_val rfl rfl rfl (by first | exact rMoveI rfl rfl | exact rMove rfl) ?_
    refine WL_val rfl rfl rfl (by first | exact rAsgnI rfl rfl | exact rAsgn rfl) ?_
    refine WL_nil ?_
    refine W_ret ?_
    exact ret1 4 (.inr rfl) rfl ⟨rfl, hI.pu⟩
  · have hne : wk ≠ wd := fun h => hkm' (hkm.1 h)
    refine W_seq ?_
    refine W_region ?_
    refine WL_val rfl rfl rfl (by first | exact rMoveStr rfl rfl | exact rMove rfl) ?_
    refine WL_val rfl rfl rfl (by first | exact rMoveStr rfl rfl | exact rMove rfl) ?_
    refine WL_val rfl rfl rfl (by first | exact rStrEqT rfl rfl rfl (by first | assumption | decide) | exact rStrEqF rfl rfl rfl (by first | assumption | decide) | exact rStrEq rfl rfl rfl) ?_
    refine WL_nil ?_
    refine W_cond false rfl ?_
    refine W_skip ?_
    refine W_region ?_
    refine WL_val rfl rfl rfl (by first | exact rInc rfl rfl rfl (by omega) | exact rAdd rfl rfl rfl (by omega) | exact rAddW rfl rfl rfl) ?_
    refine WL_val rfl rfl rfl (by first | exact rMoveI rfl rfl | exact rMove rfl) ?_
    refine WL_nil ?_
    exact ⟨ws.length - (k + 1), by omega, k + 1, rfl, by omega, ⟨rfl, rfl, rfl, rfl, trivial⟩, hI⟩
theorem rPtrEqN {P : Program} {ρ : Env} {o : Oper} {w : World} {x y : Operand} {t t' el : Nat} (ho : o.op = .binOp .eql t x y t') (ht : P.underlying t = some (.pointer el)) (hx : ev ρ x = .pointer none) (hy : ev ρ y = .pointer none) : Runs P ρ o w (.bool true) := by
  have h := run_equal (P := P) (w := w) (t := t) (x := .pointer none) (y := .pointer none) (r := true) (fun d => by simp [Op.equalIn, run_underlying ht])
  simp [Runs, execOp, ho, hx, hy, eqGuard, binOp, h]
/-- What is read of an event when k of its words were. -/
def evP (e : Ev) (k : Nat) : Array Value := #[.int .i64 (if 0 < k then e.proc else 0), .int .i64 0, .int .i64 (if 3 < k then e.key else 0), .int .i64 0, .int .i64 (if 4 < k then e.a else 0), .int .i64 (if 5 < k then e.b else 0), .int .i64 (if 6 < k then e.res else 0)]
def ptrsP (b : Nat) : Array Value := #[.pointer (some ⟨b, 0, none⟩), .pointer none, .pointer none, .pointer (some ⟨b, 2, none⟩), .pointer (some ⟨b, 4, none⟩), .pointer (some ⟨b, 5, none⟩), .pointer (some ⟨b, 6, none⟩)]
theorem parse_step (e : Ev) (he : EvOk e) (b k : Nat) (hk : k < 7) : ((ptrsP b)[k]? = some (.pointer none) ∧ evP e (k + 1) = evP e k) ∨
    ∃ (f : Nat) (z : Int), (ptrsP b)[k]? = some (.pointer (some ⟨b, f, none⟩)) ∧ f < 7 ∧ (wordsE e)[k]? = some (Lib.itoa z) ∧ (-1000000 ≤ z ∧ z ≤ 1000000) ∧ (evP e k).setIfInBounds f (.int .i64 z) = evP e (k + 1) := by
  have hp := he.p
  have hy := he.k
  match k, hk with
  | 0, _ => exact .inr ⟨0, e.proc, rfl, by omega, rfl, by omega, rfl⟩
  | 1, _ => exact .inl ⟨rfl, rfl⟩
  | 2, _ => exact .inl ⟨rfl, rfl⟩
  | 3, _ => exact .inr ⟨2, e.key, rfl, by omega, rfl, by omega, rfl⟩
  | 4, _ => exact .inr ⟨4, e.a, rfl, by omega, rfl, he.a, rfl⟩
  | 5, _ => exact .inr ⟨5, e.b, rfl, by omega, rfl, he.b, rfl⟩
  | 6, _ => exact .inr ⟨6, e.res, rfl, by omega, rfl, he.r, rfl⟩
set_option maxHeartbeats 4000000 in
theorem parse_any (e : Ev) (hev : evOkB e = true) (A : Option Addr) (c : Nat) (D : Nat → Prop) (w0 : World) (h : Rd w0 D 1 (.slice A 7 c) 7 ((wordsE e).map strV)) (hG : TxG w0) :
    Calls Tryz.prog 16 #[.slice A 7 c] w0 fun en w' => en = .returned (.tuple #[.agg (evL e).toArray, .nilIface]) ∧ Pure w0 w' := by
  have he := EvOk.of hev
  obtain ⟨bA, oA, rfl, hcw, hc7⟩ : ∃ bA oA, A = some ⟨bA, oA, none⟩ ∧ (∀ k x, (wordsE e)[k]? = some x → w0.cell? ⟨bA, oA + k, none⟩ = some (strV x)) ∧ 7 ≤ c ∧ c ≤ 9223372036854775807 := by
    obtain ⟨A', c', hv, h1, h2, h3, h4⟩ := h
    injection hv with ha _ hcc
    subst ha hcc
    obtain ⟨b, o, rfl, _, hc⟩ := h4 (by omega)
    exact ⟨b, o, rfl, fun k x hx => hc k _ (by rw [List.getElem?_map, hx]; rfl), h1, h2⟩
  clear h
  have hI := Inv.start (fun _ => False) w0
  refine calls_of_W (N := Tryz.f16.ntmps) Tryz.func16 rfl rfl rfl ?_
  refine W_seq ?_
  refine W_region ?_
  refine WL_alloc (u := .agg #[.int .i64 0, .int .i64 0, .int .i64 0, .int .i64 0, .int .i64 0, .int .i64 0, .int .i64 0]) (vs := #[.int .i64 0, .int .i64 0, .int .i64 0, .int .i64 0, .int .i64 0, .int .i64 0, .int .i64 0]) hI rfl rfl rfl rfl (by kernel_rfl) rfl ?_
  clear hI; rintro b2 w - - hI
  refine WL_val rfl rfl rfl (by first | exact rAsgnN rfl rfl | exact rAsgnE rfl rfl | exact rAsgn rfl) ?_
  refine WL_nil ?_
  refine W_seq ?_
  refine W_seq ?_
  refine W_region ?_
  refine WL_val rfl rfl rfl (by first | exact rMoveS rfl rfl | exact rMove rfl) ?_
  refine WL_val rfl rfl rfl (rLen rfl Tryz.underlying41 rfl) ?_
  refine WL_val rfl rfl rfl (by first | exact rNeqT rfl rfl rfl (by omega) | exact rNeqF rfl rfl rfl (by omega) | exact rNeq rfl rfl rfl) ?_
  refine WL_nil ?_
  refine W_cond false rfl ?_
  refine W_skip ?_
  refine W_seq ?_
  refine W_region ?_
  refine WL_alloc (u := .agg #[.int .i64 0, .int .i64 0, .int .i64 0, .int .i64 0, .int .i64 0, .int .i64 0, .int .i64 0]) (vs := #[.int .i64 0, .int .i64 0, .int .i64 0, .int .i64 0, .int .i64 0, .int .i64 0, .int .i64 0]) hI rfl rfl rfl rfl (by kernel_rfl) rfl ?_
  clear hI; rintro b4 w - - hI
  refine WL_nil ?_
  refine W_seq_cut (fun ρ w => Has ρ [(0, .slice (some ⟨bA, oA, none⟩) 7 c), (4, .pointer (some ⟨b4, 0, none⟩)), (2, .pointer (some ⟨b2, 0, none⟩))] ∧ Inv (fun _ => False) w0 w [B b4 31 (evP e 7), B b2 31 #[.int .i64 0, .int .i64 0, .int .i64 0, .int .i64 0, .int .i64 0, .int .i64 0, .int .i64 0]]) ?_ ?_
  · refine W_seq ?_
    refine W_region ?_
    refine WL_val rfl rfl rfl (by first | exact rFldN (off := 0) rfl (by kernel_rfl) rfl | exact rFld0 rfl (by kernel_rfl) rfl) ?_
    refine WL_val rfl rfl rfl (by first | exact rFldN (off := 2) rfl (by kernel_rfl) rfl | exact rFld (off := 2) rfl (by kernel_rfl) rfl) ?_
    refine WL_val rfl rfl rfl (by first | exact rFldN (off := 4) rfl (by kernel_rfl) rfl | exact rFld (off := 4) rfl (by kernel_rfl) rfl) ?_
    refine WL_val rfl rfl rfl (by first | exact rFldN (off := 5) rfl (by kernel_rfl) rfl | exact rFld (off := 5) rfl (by kernel_rfl) rfl) ?_
    refine WL_val rfl rfl rfl (by first | exact rFldN (off := 6) rfl (by kernel_rfl) rfl | exact rFld (off := 6) rfl (by kernel_rfl) rfl) ?_
    refine WL_lit (vs := [_, _, _, _, _, _, _]) (qs := [(0, .pointer _), (1, .pointer _), (2, .pointer _), (3, .pointer _), (4, .pointer _), (5, .pointer _), (6, .pointer _)]) [.pointer none, .pointer none, .pointer none, .pointer none, .pointer none, .pointer none, .pointer none] [0, 1, 2, 3, 4, 5, 6] hI rfl rfl rfl rfl rfl rfl Tryz.underlying77 (fun _ => by kernel_rfl) ?_
    clear hI; rintro b21 w - - hI
    refine WL_val rfl rfl rfl (rLen rfl Tryz.underlying77 rfl) ?_
    refine WL_val rfl rfl rfl (by first | exact rMoveI rfl rfl | exact rMove rfl) ?_
    refine WL_nil ?_
    refine W_block ?_
    refine W_loopN (fun mu ρ w => ∃ k : Nat, mu = 7 - k ∧ k ≤ 7 ∧ Has ρ [(23, .int .i64 (k : Int)), (22, .int .i64 7), (21, .slice (some ⟨b21, 0, none⟩) 7 7), (0, .slice (some ⟨bA, oA, none⟩) 7 c), (4, .pointer (some ⟨b4, 0, none⟩)), (2, .pointer (some ⟨b2, 0, none⟩))] ∧ Inv (fun _ => False) w0 w [B b21 76 (ptrsP b4), B b4 31 (evP e k), B b2 31 #[.int .i64 0, .int .i64 0, .int .i64 0, .int .i64 0, .int .i64 0, .int .i64 0, .int .i64 0]]) 7
      ⟨0, rfl, by omega, ⟨rfl, rfl, rfl, rfl, rfl, rfl, trivial⟩, hI⟩ ?_
    clear hI
    rintro mu ρ w ⟨k, rfl, hk, hH, hI⟩
    obtain ⟨σ, rfl⟩ := hH.open
    by_cases hk7 : k < 7
    rotate_left
    · obtain rfl : k = 7 := by omega
      refine W_seq ?_
      refine W_region ?_
      refine WL_val rfl rfl rfl (by first | exact rLssT rfl rfl rfl (by omega) | exact rLssF rfl rfl rfl (by omega) | exact rLss rfl rfl rfl) ?_
      refine WL_nil ?_
      refine W_seq ?_
      refine W_cond false rfl ?_
      refine W_exit ?_
      exact ⟨⟨rfl, rfl, rfl, trivial⟩, hI.d0⟩
    refine W_seq ?_
    refine W_region ?_
    refine WL_val rfl rfl rfl (by first | exact rLssT rfl rfl rfl (by omega) | exact rLssF rfl rfl rfl (by omega) | exact rLss rfl rfl rfl) ?_
    refine WL_nil ?_
    refine W_seq ?_
    refine W_cond true rfl ?_
    refine W_skip ?_
    refine W_seq ?_
    refine W_block ?_
    rcases parse_step e he b4 k hk7 with ⟨hpk, hnx⟩ | ⟨f, z, hpk, hf, hw, hz, hnx⟩
    · refine W_seq ?_
      refine W_region ?_
      refine WL_val rfl rfl rfl (by first | exact rMoveI rfl rfl | exact rMove rfl) ?_
      refine WL_val rfl rfl rfl (by first | exact rIdx0 rfl Tryz.underlying77 (by kernel_rfl) rfl rfl rfl (by omega) | exact rIdx1 rfl Tryz.underlying77 (by kernel_rfl) rfl rfl (by omega)) ?_
      refine WL_val rfl rfl rfl (by first | exact rLd (v := .pointer _) rfl (by kernel_rfl) rfl (by first | exact hI.c0 rfl | exact (hI.c0 hpk)) | exact rLd rfl (by kernel_rfl) rfl (by first | exact hI.c0 rfl | exact (hI.c0 hpk))) ?_
      refine WL_val rfl rfl rfl (by first | exact rAsgnI rfl rfl | exact rAsgn rfl) ?_
      refine WL_val rfl rfl rfl (by first | exact rAsgnP rfl rfl | exact rAsgn rfl) ?_
      refine WL_nil ?_
      refine W_seq ?_
      refine W_seq ?_
      refine W_region ?_
      refine WL_val rfl rfl rfl (by first | exact rMoveP rfl rfl | exact rMove rfl) ?_
      refine WL_val rfl rfl rfl (rPtrEqN rfl Tryz.underlying76 rfl rfl) ?_
      refine WL_nil ?_
      refine W_cond true rfl ?_
      refine W_exit ?_
      refine W_region ?_
      refine WL_val rfl rfl rfl (by first | exact rInc rfl rfl rfl (by omega) | exact rAdd rfl rfl rfl (by omega) | exact rAddW rfl rfl rfl) ?_
      refine WL_val rfl rfl rfl (by first | exact rMoveI rfl rfl | exact rMove rfl) ?_
      refine WL_nil ?_
      exact ⟨7 - (k + 1), by omega, k + 1, rfl, by omega, ⟨rfl, rfl, rfl, rfl, rfl, rfl, trivial⟩, by rw [hnx]; exact hI⟩
    · have hck := hcw k _ hw
      refine W_seq ?_
      refine W_region ?_
      refine WL_val rfl rfl rfl (by first | exact rMoveI rfl rfl | exact rMove rfl) ?_
      refine WL_val rfl rfl rfl (by first | exact rIdx0 rfl Tryz.underlying77 (by kernel_rfl) rfl rfl rfl (by omega) | exact rIdx1 rfl Tryz.underlying77 (by kernel_rfl) rfl rfl (by omega)) ?_
      refine WL_val rfl rfl rfl (by first | exact rLd (v := .pointer _) rfl (by kernel_rfl) rfl (by first | exact hI.c0 rfl | exact (hI.c0 hpk)) | exact rLd rfl (by kernel_rfl) rfl (by first | exact hI.c0 rfl | exact (hI.c0 hpk))) ?_
      refine WL_val rfl rfl rfl (by first | exact rAsgnI rfl rfl | exact rAsgn rfl) ?_
      refine WL_val rfl rfl rfl (by first | exact rAsgnP rfl rfl | exact rAsgn rfl) ?_
      refine WL_nil ?_
      refine W_seq ?_
      refine W_seq ?_
      refine W_region ?_
      refine WL_val rfl rfl rfl (by first | exact rMoveP rfl rfl | exact rMove rfl) ?_
      refine WL_val rfl rfl rfl (rPtrEq rfl Tryz.underlying76 rfl rfl) ?_
      refine WL_nil ?_
      refine W_cond false rfl ?_
      refine W_skip ?_
      refine W_seq ?_
      refine W_region ?_
      refine WL_val rfl rfl rfl (by first | exact rMoveS rfl rfl | exact rMove rfl) ?_
      refine WL_val rfl rfl rfl (by first | exact rMoveI rfl rfl | exact rMove rfl) ?_
      refine WL_val rfl rfl rfl (by first | exact rIdx0 rfl Tryz.underlying41 (by kernel_rfl) rfl rfl rfl (by omega) | exact rIdx1 rfl Tryz.underlying41 (by kernel_rfl) rfl rfl (by omega)) ?_
      refine WL_val rfl rfl rfl (by first | exact rLd (v := .string _) rfl (by kernel_rfl) rfl (by first | exact hI.oldp hck | exact hck) | exact rLd rfl (by kernel_rfl) rfl (by first | exact hI.oldp hck | exact hck)) ?_
      refine WL_call rfl rfl rfl (rCall (vs := [.string _]) rfl Tryz.func30 rfl rfl rfl) ?_
      refine (atoi_any (Lib.itoa z) ?_ _ (hG.pure hI.pu).num).mono ?_
      · have := itoa_len hz.1 hz.2; omega
      unfold atoiPost
      rw [atoi_itoa (by omega) (by omega)]
      rintro e w1 ⟨⟨rfl, -⟩, hp1⟩
      refine ⟨_, rfl, ?_⟩
      replace hI := hI.pure hp1
      refine WL_val rfl rfl rfl (by first | exact rMoveT rfl rfl | exact rMove rfl) ?_
      refine WL_val rfl rfl rfl (rExtr rfl rfl rfl) ?_
      refine WL_val rfl rfl rfl (rExtr rfl rfl rfl) ?_
      refine WL_val rfl rfl rfl (by first | exact rAsgnI rfl rfl | exact rAsgn rfl) ?_
      refine WL_val rfl rfl rfl (by first | exact rAsgnN rfl rfl | exact rAsgnE rfl rfl | exact rAsgn rfl) ?_
      refine WL_nil ?_
      refine W_seq ?_
      refine W_seq ?_
      refine W_draw (by kernel_rfl) ?_
      refine WA_inv (T := []) hI.drew ?_
      intro Sx hSx hXS
      replace hI := hI.drew
      refine WT_take 0 rfl rfl (by kernel_rfl) (hXS _ hI) rfl (fun W hW => have hI := hSx W hW; (by first | exact rMoveN rfl rfl | exact rMoveE rfl rfl | exact rMove rfl)) ?_
      refine WT_take 1 rfl rfl (by kernel_rfl) (hXS _ hI) rfl (fun W hW => have hI := hSx W hW; (by first | exact rIfaceNe rfl Tryz.underlying24 rfl rfl | exact rNilNe rfl Tryz.underlying24 rfl)) ?_
      refine WT_take 2 rfl rfl (by kernel_rfl) (hXS _ hI) rfl (fun W hW => have hI := hSx W hW; (by first | exact rMoveB rfl rfl | exact rMove rfl)) ?_
      first | refine WT_take 3 rfl rfl (by kernel_rfl) (hXS _ hI) rfl (fun W hW => have hI := hSx W hW; (by first | exact rMoveI rfl rfl | exact rMove rfl)) ?_ | refine WT_skip 3 rfl rfl (by kernel_rfl) (hXS _ hI) rfl ?_
      first | refine WT_take 5 rfl rfl (by kernel_rfl) (hXS _ hI) rfl (fun W hW => have hI := hSx W hW; (by first | exact rMoveS rfl rfl | exact rMove rfl)) ?_ | refine WT_skip 5 rfl rfl (by kernel_rfl) (hXS _ hI) rfl ?_
      first | refine WT_take 6 rfl rfl (by kernel_rfl) (hXS _ hI) rfl (fun W hW => have hI := hSx W hW; (by first | exact rMoveI rfl rfl | exact rMove rfl)) ?_ | refine WT_skip 6 rfl rfl (by kernel_rfl) (hXS _ hI) rfl ?_
      first | refine WT_take 7 rfl rfl (by kernel_rfl) (hXS _ hI) rfl (fun W hW => have hI := hSx W hW; (by first | exact rIdx0 rfl Tryz.underlying41 (by kernel_rfl) rfl rfl rfl (by omega) | exact rIdx1 rfl Tryz.underlying41 (by kernel_rfl) rfl rfl (by omega))) ?_ | refine WT_skip 7 rfl rfl (by kernel_rfl) (hXS _ hI) rfl ?_
      first | refine WT_take 8 rfl rfl (by kernel_rfl) (hXS _ hI) rfl (fun W hW => have hI := hSx W hW; (by first | exact rLd (v := .string _) rfl (by kernel_rfl) rfl (by first | exact hI.oldp hck | exact hck) | exact rLd rfl (by kernel_rfl) rfl (by first | exact hI.oldp hck | exact hck))) ?_ | refine WT_skip 8 rfl rfl (by kernel_rfl) (hXS _ hI) rfl ?_
      refine WT_one 4 rfl (by kernel_rfl) rfl ?_
      refine WL_call rfl rfl rfl (rCall (vs := [.int .i64 _]) rfl Tryz.func9 rfl rfl rfl) ?_
      refine (itoa_any z (by omega) (by omega) _ (hG.pure hI.pu).num).mono ?_
      rintro e w1 ⟨rfl, hp1⟩
      refine ⟨_, rfl, ?_⟩
      replace hI := hI.pure hp1
      refine WL_nil ⟨hXS _ hI, ?_⟩
      first | refine WT_take 9 rfl rfl (by kernel_rfl) (hXS _ hI) rfl (fun W hW => have hI := hSx W hW; (rStrNeF rfl rfl rfl rfl)) ?_ | refine WT_skip 9 rfl rfl (by kernel_rfl) (hXS _ hI) rfl ?_
      refine WT_take 10 rfl rfl (by kernel_rfl) (hXS _ hI) rfl (fun W hW => have hI := hSx W hW; (by first | exact rPickTB rfl rfl rfl | exact rPickFB rfl rfl rfl | exact rPickB rfl rfl rfl rfl)) ?_
      refine WT_end (by kernel_rfl) ?_
      refine W_cond false rfl ?_
      refine W_skip ?_
      refine W_region ?_
      refine WL_val rfl rfl rfl (by first | exact rMoveP rfl rfl | exact rMove rfl) ?_
      refine WL_val rfl rfl rfl (by first | exact rMoveI rfl rfl | exact rMove rfl) ?_
      refine WL_val rfl rfl rfl (rNilChk rfl rfl) ?_
      refine WL_st1 (u := .int .i64 z) hI rfl rfl rfl rfl rfl rfl (by kernel_rfl) rfl (by show Nat.blt f 7 = true; rw [Nat.blt_eq]; exact hf) hnx ?_
      clear hI; rintro w hI
      refine WL_nil ?_
      refine W_region ?_
      refine WL_val rfl rfl rfl (by first | exact rInc rfl rfl rfl (by omega) | exact rAdd rfl rfl rfl (by omega) | exact rAddW rfl rfl rfl) ?_
      refine WL_val rfl rfl rfl (by first | exact rMoveI rfl rfl | exact rMove rfl) ?_
      refine WL_nil ?_
      exact ⟨7 - (k + 1), by omega, k + 1, rfl, by omega, ⟨rfl, rfl, rfl, rfl, rfl, rfl, trivial⟩, hI⟩
  clear hI
  rintro ρ w ⟨hH, hI⟩
  obtain ⟨σ, rfl⟩ := hH.open
  obtain ⟨p, ty, ky, kd, ea, eb, r⟩ := e
  have ht : 1 ≤ ty ∧ ty ≤ 4 := he.t
  have hd : 1 ≤ kd ∧ kd ≤ 12 := he.kd
  obtain ⟨t, ht'⟩ : ∃ t : Nat, ty = 1 + (t : Int) := ⟨(ty - 1).toNat, by omega⟩
  obtain ⟨d, hd'⟩ : ∃ d : Nat, kd = 1 + (d : Int) := ⟨(kd - 1).toNat, by omega⟩
  subst ht' hd'
  have hty := he.tyAt
  have hkd := he.kdAt
  rw [show ((⟨p, 1 + (t : Int), ky, 1 + (d : Int), ea, eb, r⟩ : Ev).ty - 1).toNat = t by show (1 + (t : Int) - 1).toNat = t; omega] at hty
  rw [show ((⟨p, 1 + (t : Int), ky, 1 + (d : Int), ea, eb, r⟩ : Ev).kind - 1).toNat = d by show (1 + (d : Int) - 1).toNat = d; omega] at hkd
  have hc1 := hcw 1 _ rfl
  have hc2 := hcw 2 _ rfl
  refine W_seq ?_
  refine W_draw (by kernel_rfl) ?_
  refine WA_inv (T := []) hI.drew ?_
  intro Sx hSx hXS
  replace hI := hI.drew
  refine WT_take 0 rfl rfl (by kernel_rfl) (hXS _ hI) rfl (fun W hW => have hI := hSx W hW; (by first | exact rMoveS rfl rfl | exact rMove rfl)) ?_
  refine WT_take 1 rfl rfl (by kernel_rfl) (hXS _ hI) rfl (fun W hW => have hI := hSx W hW; (by first | exact rIdx0 (i := 1) rfl Tryz.underlying41 (by kernel_rfl) rfl rfl rfl (by omega) | exact rIdx1 (i := 1) rfl Tryz.underlying41 (by kernel_rfl) rfl rfl (by omega))) ?_
  refine WT_take 2 rfl rfl (by kernel_rfl) (hXS _ hI) rfl (fun W hW => have hI := hSx W hW; (by first | exact rLd (v := .string _) rfl (by kernel_rfl) rfl (by first | exact hI.oldp hc1 | exact hc1 | exact hI.oldp hc2 | exact hc2) | exact rLd rfl (by kernel_rfl) rfl (by first | exact hI.oldp hc1 | exact hc1 | exact hI.oldp hc2 | exact hc2))) ?_
  refine WT_take 4 rfl rfl (by kernel_rfl) (hXS _ hI) rfl (fun W hW => have hI := hSx W hW; (by first | exact rMoveS rfl rfl | exact rMove rfl)) ?_
  refine WT_take 5 rfl rfl (by kernel_rfl) (hXS _ hI) rfl (fun W hW => have hI := hSx W hW; (by first | exact rIdx0 (i := 2) rfl Tryz.underlying41 (by kernel_rfl) rfl rfl rfl (by omega) | exact rIdx1 (i := 2) rfl Tryz.underlying41 (by kernel_rfl) rfl rfl (by omega))) ?_
  refine WT_take 6 rfl rfl (by kernel_rfl) (hXS _ hI) rfl (fun W hW => have hI := hSx W hW; (by first | exact rLd (v := .string _) rfl (by kernel_rfl) rfl (by first | exact hI.oldp hc1 | exact hc1 | exact hI.oldp hc2 | exact hc2) | exact rLd rfl (by kernel_rfl) rfl (by first | exact hI.oldp hc1 | exact hc1 | exact hI.oldp hc2 | exact hc2))) ?_
  refine WT_one 3 rfl (by kernel_rfl) rfl ?_
  refine WL_call rfl rfl rfl (rCall (vs := [.string _, .string _]) rfl Tryz.func31 rfl rfl rfl) ?_
  refine (index_any typeS typeWs t _ fields_typeS (by decide) typeS_ascii hty typeWs_nd (by decide) _ (hG.pure hI.pu)).mono ?_
  rintro e w1 ⟨rfl, hp1⟩
  refine ⟨_, rfl, ?_⟩
  replace hI := hI.pure hp1
  refine WL_nil ⟨hXS _ hI, ?_⟩
  refine WT_one 7 rfl (by kernel_rfl) rfl ?_
  refine WL_call rfl rfl rfl (rCall (vs := [.string _, .string _]) rfl Tryz.func31 rfl rfl rfl) ?_
  refine (index_any kindS kindWs d _ fields_kindS (by decide) kindS_ascii hkd kindWs_nd (by decide) _ (hG.pure hI.pu)).mono ?_
  rintro e w1 ⟨rfl, hp1⟩
  refine ⟨_, rfl, ?_⟩
  replace hI := hI.pure hp1
  refine WL_nil ⟨hXS _ hI, ?_⟩
  refine WT_take 8 rfl rfl (by kernel_rfl) (hXS _ hI) rfl (fun W hW => have hI := hSx W hW; (by first | exact rAsgnI rfl rfl | exact rAsgn rfl)) ?_
  refine WT_take 9 rfl rfl (by kernel_rfl) (hXS _ hI) rfl (fun W hW => have hI := hSx W hW; (by first | exact rAsgnI rfl rfl | exact rAsgn rfl)) ?_
  refine WT_end (by kernel_rfl) ?_
  refine W_seq ?_
  refine W_seq ?_
  refine W_region ?_
  refine WL_val rfl rfl rfl (by first | exact rMoveI rfl rfl | exact rMove rfl) ?_
  refine WL_val rfl rfl rfl (by first | exact rLssT rfl rfl rfl (by omega) | exact rLssF rfl rfl rfl (by omega) | exact rLss rfl rfl rfl) ?_
  refine WL_val rfl rfl rfl (by first | exact rMoveB rfl rfl | exact rMove rfl) ?_
  first | refine WL_val rfl rfl rfl (by first | exact rMoveI rfl rfl | exact rMove rfl) ?_ | refine WL_skip rfl rfl rfl ?_
  first | refine WL_val rfl rfl rfl (by first | exact rLssT rfl rfl rfl (by omega) | exact rLssF rfl rfl rfl (by omega) | exact rLss rfl rfl rfl) ?_ | refine WL_skip rfl rfl rfl ?_
  refine WL_val rfl rfl rfl (by first | exact rPickTB rfl rfl rfl | exact rPickFB rfl rfl rfl | exact rPickB rfl rfl rfl rfl) ?_
  refine WL_nil ?_
  refine W_cond false rfl ?_
  refine W_skip ?_
  replace hI : Inv (fun _ => False) w0 _ [B b4 31 #[.int .i64 p, .int .i64 0, .int .i64 ky, .int .i64 0, .int .i64 ea, .int .i64 eb, .int .i64 r], B b2 31 #[.int .i64 0, .int .i64 0, .int .i64 0, .int .i64 0, .int .i64 0, .int .i64 0, .int .i64 0]] := hI
  refine W_seq ?_
  refine W_region ?_
  refine WL_val rfl rfl rfl (by first | exact rMoveI rfl rfl | exact rMove rfl) ?_
  refine WL_val rfl rfl rfl (by first | exact rInc rfl rfl rfl (by omega) | exact rAdd rfl rfl rfl (by omega) | exact rAddW rfl rfl rfl) ?_
  refine WL_val rfl rfl rfl (by first | exact rMoveI rfl rfl | exact rMove rfl) ?_
  refine WL_val rfl rfl rfl (by first | exact rInc rfl rfl rfl (by omega) | exact rAdd rfl rfl rfl (by omega) | exact rAddW rfl rfl rfl) ?_
  refine WL_val rfl rfl rfl (by first | exact rFldN (off := 1) rfl (by kernel_rfl) rfl | exact rFld (off := 1) rfl (by kernel_rfl) rfl) ?_
  first | refine WL_stw0 (u := .int .i64 _) (vs := #[_]) (n := 1) hI rfl rfl rfl rfl rfl rfl (by kernel_rfl) rfl rfl rfl ?_ | refine WL_st0 (u := .int .i64 _) hI rfl rfl rfl rfl rfl rfl (by kernel_rfl) rfl rfl rfl ?_
  clear hI; intro w hI
  refine WL_val rfl rfl rfl (by first | exact rFldN (off := 3) rfl (by kernel_rfl) rfl | exact rFld (off := 3) rfl (by kernel_rfl) rfl) ?_
  first | refine WL_stw0 (u := .int .i64 _) (vs := #[_]) (n := 1) hI rfl rfl rfl rfl rfl rfl (by kernel_rfl) rfl rfl rfl ?_ | refine WL_st0 (u := .int .i64 _) hI rfl rfl rfl rfl rfl rfl (by kernel_rfl) rfl rfl rfl ?_
  clear hI; intro w hI
  refine WL_nil ?_
  refine W_seq ?_
  refine W_draw (by kernel_rfl) ?_
  refine WA_inv (T := []) hI.d1.drew ?_
  intro Sx hSx hXS
  replace hI := hI.drew
  refine WT_take 0 rfl rfl (by kernel_rfl) (hXS _ hI.d1) rfl (fun W hW => have hI := hSx W hW; (by first | exact rLdB (n := 7) rfl (by kernel_rfl) (by kernel_rfl) rfl rfl hI.g0 | exact rLdB (n := 7) rfl (by kernel_rfl) (by kernel_rfl) rfl rfl hI.g1)) ?_
  refine WT_take 1 rfl rfl (by kernel_rfl) (hXS _ hI.d1) rfl (fun W hW => have hI := hSx W hW; (by first | exact rLdB (n := 7) rfl (by kernel_rfl) (by kernel_rfl) rfl rfl hI.g0 | exact rLdB (n := 7) rfl (by kernel_rfl) (by kernel_rfl) rfl rfl hI.g1)) ?_
  refine WT_one 2 rfl (by kernel_rfl) rfl ?_
  refine WL_call rfl rfl rfl (rCall (vs := [.agg _]) rfl Tryz.func7 rfl rfl rfl) ?_
  refine (check_any ⟨p, 1 + (t : Int), ky, 1 + (d : Int), ea, eb, r⟩ _).mono ?_
  rintro e w1 ⟨hp1, ⟨_, rfl⟩ | ⟨hr, _⟩⟩
  rotate_left
  · rw [hev] at hr; cases hr
  refine ⟨_, rfl, ?_⟩
  replace hI := hI.pure hp1
  refine WL_nil ⟨hXS _ hI.d1, ?_⟩
  refine WT_one 3 rfl (by kernel_rfl) rfl ?_
  first | refine WL_stw0 (u := .agg _) (vs := #[_, _, _, _, _, _, _]) (n := 7) hI rfl rfl rfl rfl rfl rfl (by kernel_rfl) rfl rfl rfl ?_ | refine WL_stw1 (u := .agg _) (vs := #[_, _, _, _, _, _, _]) (n := 7) hI rfl rfl rfl rfl rfl rfl (by kernel_rfl) rfl rfl rfl ?_
  clear hI; intro w hI
  refine WL_nil ⟨hXS _ hI.d1, ?_⟩
  refine WT_take 4 rfl rfl (by kernel_rfl) (hXS _ hI.d1) rfl (fun W hW => have hI := hSx W hW; (by first | exact rAsgnN rfl rfl | exact rAsgnE rfl rfl | exact rAsgn rfl)) ?_
  refine WT_end (by kernel_rfl) ?_
  refine W_ret ?_
  exact retC2 (n := 7) (t := 31) (.inr rfl) rfl rfl (by kernel_rfl) (by kernel_rfl) rfl hI.g1 ⟨rfl, hI.pu⟩
end Go.Proofs.YtgppljdfhhgkiaaGreatDoor
