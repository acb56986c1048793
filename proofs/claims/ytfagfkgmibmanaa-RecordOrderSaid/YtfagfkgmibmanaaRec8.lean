/- record: Recover. -/
import Derived.Test.YtfagfkgmibmanaaRec7
import Derived.Test.YtfagfkgmibmanaaRecLaw2
namespace Go.Proofs.Ytfagfkgmibmanaa
open Go.RowKit
set_option linter.unusedVariables false
set_option linter.unusedSimpArgs false

theorem shl8_or {x y : Nat} (hx : x < 256) (hy : y < 256) : IntKind.i64.wrap (((BitVec.ofInt IntKind.i64.bits (IntKind.i64.wrap ((x : Int) * 2 ^ min (8 : Int).toNat IntKind.i64.bits)) ||| BitVec.ofInt IntKind.i64.bits (y : Int)).toNat : Nat) : Int) = ((x * 256 + y : Nat) : Int) := by
  have e1 : (x : Int) * 2 ^ min (8 : Int).toNat IntKind.i64.bits = ((x * 256 : Nat) : Int) := by
    show (x : Int) * 2 ^ 8 = _
    omega
  rw [e1, wrap64_in (n := ((x * 256 : Nat) : Int)) (by omega) (by omega)]
  have e2 : (BitVec.ofInt IntKind.i64.bits ((x * 256 : Nat) : Int) ||| BitVec.ofInt IntKind.i64.bits (y : Int)).toNat = x * 256 + y := by
    show (BitVec.ofInt 64 ((x * 256 : Nat) : Int) ||| BitVec.ofInt 64 (y : Int)).toNat = _
    rw [BitVec.ofInt_natCast, BitVec.ofInt_natCast, BitVec.toNat_or, BitVec.toNat_ofNat, BitVec.toNat_ofNat, Nat.mod_eq_of_lt (by omega), Nat.mod_eq_of_lt (by omega)]
    rw [show x * 256 = 2 ^ 8 * x from by omega, ← Nat.two_pow_add_eq_or_of_lt (by omega)]
  rw [e2, wrap64_in (by omega) (by omega)]
def evsV (es : List Ev) : List Value := es.flatMap evL
theorem evsV_snoc (es : List Ev) (e : Ev) : evsV (es ++ [e]) = evsV es ++ evL e := by simp [evsV]
theorem evsV_len (es : List Ev) : (evsV es).length = es.length * 7 := by
  induction es with
  | nil => rfl
  | cons e es ih =>
    show (evL e ++ evsV es).length = _
    rw [List.length_append, ih]
    simp [evL]
    omega
def NewEs (w : World) (es : List Ev) (A : Option Addr) (c : Nat) (w' : World) : Prop := w'.ownsRow w.heap.size 30 7 (.slice A es.length c) es.length (evsV es)
def RcvPost (w : World) (l : List Nat) (en : Ending) (w' : World) : Prop :=
  Pure w w' ∧ ∃ A c, en = .returned (.tuple #[.slice A (recA l).1.length c, .int .i64 ((recA l).2 : Int)]) ∧ NewEs w (recA l).1 A c w'

set_option maxHeartbeats 2000000 in
theorem recover_any (A : Option Addr) (n c : Nat) (l : List Nat) (D : Nat → Prop) (w0 : World) (h : Bts w0 D (.slice A n c) l) (hl : l.length = n) (hb : ∀ x ∈ l, x < 256) (hn : n < 1000000) (hD : ∀ k, D k → k < w0.heap.size) :
    Calls Try.prog 13 #[.slice A n c] w0 (RcvPost w0 l) := by
  subst hl
  obtain ⟨_, _, hv, hcc, hc63⟩ := h.form
  injection hv with _ _ hv
  subst hv
  have hI := Inv.start (fun _ => False) w0
  refine calls_of_W (N := Try.f13.ntmps) Try.func13 rfl rfl rfl ?_
  refine W_seq ?_
  refine W_region ?_
  refine WL_val rfl rfl rfl (by first | exact rAsgnS rfl rfl | exact rAsgn rfl) ?_
  refine WL_val rfl rfl rfl (by first | exact rAsgnI rfl rfl | exact rAsgn rfl) ?_
  refine WL_nil ?_
  refine W_seq ?_
  refine W_region ?_
  refine WL_val rfl rfl rfl (by first | exact rAsgnS rfl rfl | exact rAsgn rfl) ?_
  refine WL_nil ?_
  refine W_seq ?_
  refine W_region ?_
  refine WL_val rfl rfl rfl (by first | exact rAsgnI rfl rfl | exact rAsgn rfl) ?_
  refine WL_nil ?_
  refine W_seq ?_
  refine W_block ?_
  replace hI : Inv (fun _ => False) w0 w0 [Row w0.heap.size 30 7 none 0 0 (evsV [])] := hI.fresh (Pure.refl w0) (Row.ok (World.ownsRow_nil ..)) (fun k hk => by cases hk)
  refine W_loop (fun ρ w => ∃ (at_ : Nat) (evs : List Ev) (A' : Option Addr) (c' : Nat), at_ ≤ l.length ∧ evs.length ≤ at_ ∧ Has ρ [(5, .int .i64 at_), (4, .slice A' evs.length c'), (0, .slice A l.length c)] ∧ recA l = (evs ++ (recA (l.drop at_)).1, at_ + (recA (l.drop at_)).2) ∧
      Inv (fun _ => False) w0 w [Row w0.heap.size 30 7 A' evs.length c' (evsV evs)]) (fun ρ _ => l.length - cnt (ρ 5))
      ⟨0, [], none, 0, by omega, by simp, ⟨rfl, rfl, rfl, trivial⟩, by simp, hI⟩ ?_
  clear hI
  rintro ρ w ⟨at_, evs, A', c', hat, hel, hH, hrec, hI⟩
  obtain ⟨σ, rfl⟩ := hH.open
  have hXl : (l.drop at_).length = l.length - at_ := List.length_drop ..
  by_cases h6 : l.length - at_ < 6
  · refine W_seq ?_
    refine W_seq ?_
    refine W_region ?_
    refine WL_val rfl rfl rfl (by first | exact rMoveS rfl rfl | exact rMove rfl) ?_
    refine WL_val rfl rfl rfl (rLen rfl Try.underlying45 rfl) ?_
    refine WL_val rfl rfl rfl (by first | exact rMoveI rfl rfl | exact rMove rfl) ?_
    refine WL_val rfl rfl rfl (by first | exact rSub rfl rfl rfl (by omega) | exact rSubW rfl rfl rfl) ?_
    refine WL_val rfl rfl rfl (by first | exact rGeqT rfl rfl rfl (by omega) | exact rGeqF rfl rfl rfl (by omega) | exact rGeq rfl rfl rfl) ?_
    refine WL_nil ?_
    refine W_cond false rfl ?_
    refine W_exit ?_
    refine W_seq ?_
    refine W_region ?_
    refine WL_val rfl rfl rfl (by first | exact rMoveS rfl rfl | exact rMove rfl) ?_
    refine WL_val rfl rfl rfl (by first | exact rMoveI rfl rfl | exact rMove rfl) ?_
    refine WL_val rfl rfl rfl (by first | exact rAsgnS rfl rfl | exact rAsgn rfl) ?_
    refine WL_val rfl rfl rfl (by first | exact rAsgnI rfl rfl | exact rAsgn rfl) ?_
    refine WL_nil ?_
    refine W_ret ?_
    have hs : recStep (l.drop at_) = none := by unfold recStep; rw [if_pos (by omega)]
    rw [recA_none hs, List.append_nil, Nat.add_zero] at hrec
    refine ret2 2 3 (.inr rfl) rfl ⟨hI.pu, A', c', ?_, ?_⟩
    · rw [hrec]; rfl
    · rw [hrec]; exact hI.g0
  · obtain ⟨x, hx⟩ : ∃ x, l[at_]? = some x := ⟨_, List.getElem?_eq_getElem (by omega)⟩
    obtain ⟨y, hy⟩ : ∃ y, l[at_ + 1]? = some y := ⟨_, List.getElem?_eq_getElem (by omega)⟩
    have hx256 := hb x (List.mem_of_getElem? hx)
    have hy256 := hb y (List.mem_of_getElem? hy)
    obtain ⟨g, o, rfl, hDg, c0⟩ := h.get hx
    obtain ⟨_, _, e1, _, c1⟩ := h.get hy
    injection e1 with e1; injection e1 with e11 e12; subst e11 e12
    have g0 : (l.drop at_).getD 0 0 = x := by simp [List.getD, hx]
    have g1 : (l.drop at_).getD 1 0 = y := by simp [List.getD, hy]
    refine W_seq ?_
    refine W_seq ?_
    refine W_region ?_
    refine WL_val rfl rfl rfl (by first | exact rMoveS rfl rfl | exact rMove rfl) ?_
    refine WL_val rfl rfl rfl (rLen rfl Try.underlying45 rfl) ?_
    refine WL_val rfl rfl rfl (by first | exact rMoveI rfl rfl | exact rMove rfl) ?_
    refine WL_val rfl rfl rfl (by first | exact rSub rfl rfl rfl (by omega) | exact rSubW rfl rfl rfl) ?_
    refine WL_val rfl rfl rfl (by first | exact rGeqT rfl rfl rfl (by omega) | exact rGeqF rfl rfl rfl (by omega) | exact rGeq rfl rfl rfl) ?_
    refine WL_nil ?_
    refine W_cond true rfl ?_
    refine W_skip ?_
    refine W_block ?_
    refine W_seq ?_
    refine W_draw (by kernel_rfl) ?_
    refine WA_inv (T := []) hI.drew ?_
    intro Sx hSx hXS
    replace hI := hI.drew
    refine WT_take 0 rfl rfl (by kernel_rfl) (hXS _ hI) rfl (fun W hW => have hI := hSx W hW; (by first | exact rMoveS rfl rfl | exact rMove rfl)) ?_
    refine WT_take 1 rfl rfl (by kernel_rfl) (hXS _ hI) rfl (fun W hW => have hI := hSx W hW; (by first | exact rMoveI rfl rfl | exact rMove rfl)) ?_
    refine WT_take 2 rfl rfl (by kernel_rfl) (hXS _ hI) rfl (fun W hW => have hI := hSx W hW; (by first | exact rIdx0 rfl Try.underlying45 (by kernel_rfl) rfl rfl rfl (by omega) | exact rIdx1 rfl Try.underlying45 (by kernel_rfl) rfl rfl (by omega))) ?_
    refine WT_take 3 rfl rfl (by kernel_rfl) (hXS _ hI) rfl (fun W hW => have hI := hSx W hW; (by first | exact rLd (v := .int .u8 _) rfl (by kernel_rfl) rfl (by first | exact hI.oldp c0 | exact c0 | exact hI.oldp c1 | exact c1) | exact rLd rfl (by kernel_rfl) rfl (by first | exact hI.oldp c0 | exact c0 | exact hI.oldp c1 | exact c1))) ?_
    refine WT_take 4 rfl rfl (by kernel_rfl) (hXS _ hI) rfl (fun W hW => have hI := hSx W hW; (by first | exact rConv_i64 rfl Try.underlying5 Try.underlying3 rfl (by omega) | exact rConvW rfl Try.underlying5 Try.underlying3 rfl)) ?_
    refine WT_take 5 rfl rfl (by kernel_rfl) (hXS _ hI) rfl (fun W hW => have hI := hSx W hW; (rShlW rfl rfl rfl (by omega))) ?_
    refine WT_take 6 rfl rfl (by kernel_rfl) (hXS _ hI) rfl (fun W hW => have hI := hSx W hW; (by first | exact rMoveS rfl rfl | exact rMove rfl)) ?_
    refine WT_take 7 rfl rfl (by kernel_rfl) (hXS _ hI) rfl (fun W hW => have hI := hSx W hW; (by first | exact rMoveI rfl rfl | exact rMove rfl)) ?_
    refine WT_take 8 rfl rfl (by kernel_rfl) (hXS _ hI) rfl (fun W hW => have hI := hSx W hW; (by first | exact rInc rfl rfl rfl (by omega) | exact rAdd rfl rfl rfl (by omega) | exact rAddW rfl rfl rfl)) ?_
    refine WT_take 9 rfl rfl (by kernel_rfl) (hXS _ hI) rfl (fun W hW => have hI := hSx W hW; (by first | exact rIdx0 rfl Try.underlying45 (by kernel_rfl) rfl rfl rfl (by omega) | exact rIdx1 rfl Try.underlying45 (by kernel_rfl) rfl rfl (by omega))) ?_
    refine WT_take 10 rfl rfl (by kernel_rfl) (hXS _ hI) rfl (fun W hW => have hI := hSx W hW; (by first | exact rLd (v := .int .u8 _) rfl (by kernel_rfl) rfl (by first | exact hI.oldp c0 | exact c0 | exact hI.oldp c1 | exact c1) | exact rLd rfl (by kernel_rfl) rfl (by first | exact hI.oldp c0 | exact c0 | exact hI.oldp c1 | exact c1))) ?_
    refine WT_take 11 rfl rfl (by kernel_rfl) (hXS _ hI) rfl (fun W hW => have hI := hSx W hW; (by first | exact rConv_i64 rfl Try.underlying5 Try.underlying3 rfl (by omega) | exact rConvW rfl Try.underlying5 Try.underlying3 rfl)) ?_
    refine WT_take 12 rfl rfl (by kernel_rfl) (hXS _ hI) rfl (fun W hW => have hI := hSx W hW; (rBits (r := fun p q => p ||| q) rfl rfl rfl rfl)) ?_
    refine WT_take 13 rfl rfl (by kernel_rfl) (hXS _ hI) rfl (fun W hW => have hI := hSx W hW; (by first | exact rAsgnI rfl rfl | exact rAsgn rfl)) ?_
    refine WT_end (by kernel_rfl) ?_
    rw [shl8_or hx256 hy256]
    have hst : recStep (l.drop at_) = if l.length - at_ - 6 < x * 256 + y then none else match decF ((l.drop (at_ + 6)).take (x * 256 + y)) with
        | some e => if (frameF ((l.drop (at_ + 6)).take (x * 256 + y))).isPrefixOf (l.drop at_) then some (e, x * 256 + y) else none
        | none => none := by
      unfold recStep
      rw [if_neg (by omega), g0, g1, hXl, List.drop_drop]
      rfl
    generalize hxy : x * 256 + y = m at *
    by_cases hm : l.length - at_ - 6 < m
    · rw [if_pos hm] at hst
      refine W_seq ?_
      refine W_seq ?_
      refine W_region ?_
      refine WL_val rfl rfl rfl (by first | exact rMoveS rfl rfl | exact rMove rfl) ?_
      refine WL_val rfl rfl rfl (rLen rfl Try.underlying45 rfl) ?_
      refine WL_val rfl rfl rfl (by first | exact rMoveI rfl rfl | exact rMove rfl) ?_
      refine WL_val rfl rfl rfl (by first | exact rSub rfl rfl rfl (by omega) | exact rSubW rfl rfl rfl) ?_
      refine WL_val rfl rfl rfl (by first | exact rSub rfl rfl rfl (by omega) | exact rSubW rfl rfl rfl) ?_
      refine WL_val rfl rfl rfl (by first | exact rMoveI rfl rfl | exact rMove rfl) ?_
      refine WL_val rfl rfl rfl (by first | exact rLssT rfl rfl rfl (by omega) | exact rLssF rfl rfl rfl (by omega) | exact rLss rfl rfl rfl) ?_
      refine WL_nil ?_
      refine W_cond true rfl ?_
      refine W_exit ?_
      refine W_seq ?_
      refine W_region ?_
      refine WL_val rfl rfl rfl (by first | exact rMoveS rfl rfl | exact rMove rfl) ?_
      refine WL_val rfl rfl rfl (by first | exact rMoveI rfl rfl | exact rMove rfl) ?_
      refine WL_val rfl rfl rfl (by first | exact rAsgnS rfl rfl | exact rAsgn rfl) ?_
      refine WL_val rfl rfl rfl (by first | exact rAsgnI rfl rfl | exact rAsgn rfl) ?_
      refine WL_nil ?_
      refine W_ret ?_
      rw [recA_none hst, List.append_nil, Nat.add_zero] at hrec
      refine ret2 2 3 (.inr rfl) rfl ⟨hI.pu, A', c', ?_, ?_⟩
      · rw [hrec]; rfl
      · rw [hrec]; exact hI.g0
    · rw [if_neg hm] at hst
      refine W_seq ?_
      refine W_seq ?_
      refine W_region ?_
      refine WL_val rfl rfl rfl (by first | exact rMoveS rfl rfl | exact rMove rfl) ?_
      refine WL_val rfl rfl rfl (rLen rfl Try.underlying45 rfl) ?_
      refine WL_val rfl rfl rfl (by first | exact rMoveI rfl rfl | exact rMove rfl) ?_
      refine WL_val rfl rfl rfl (by first | exact rSub rfl rfl rfl (by omega) | exact rSubW rfl rfl rfl) ?_
      refine WL_val rfl rfl rfl (by first | exact rSub rfl rfl rfl (by omega) | exact rSubW rfl rfl rfl) ?_
      refine WL_val rfl rfl rfl (by first | exact rMoveI rfl rfl | exact rMove rfl) ?_
      refine WL_val rfl rfl rfl (by first | exact rLssT rfl rfl rfl (by omega) | exact rLssF rfl rfl rfl (by omega) | exact rLss rfl rfl rfl) ?_
      refine WL_nil ?_
      refine W_cond false rfl ?_
      refine W_skip ?_
      refine W_seq ?_
      refine W_region ?_
      refine WL_val rfl rfl rfl (by first | exact rMoveS rfl rfl | exact rMove rfl) ?_
      refine WL_val rfl rfl rfl (by first | exact rMoveI rfl rfl | exact rMove rfl) ?_
      refine WL_val rfl rfl rfl (by first | exact rInc rfl rfl rfl (by omega) | exact rAdd rfl rfl rfl (by omega) | exact rAddW rfl rfl rfl) ?_
      refine WL_val rfl rfl rfl (by first | exact rMoveI rfl rfl | exact rMove rfl) ?_
      refine WL_val rfl rfl rfl (by first | exact rInc rfl rfl rfl (by omega) | exact rAdd rfl rfl rfl (by omega) | exact rAddW rfl rfl rfl) ?_
      refine WL_val rfl rfl rfl (by first | exact rMoveI rfl rfl | exact rMove rfl) ?_
      refine WL_val rfl rfl rfl (by first | exact rInc rfl rfl rfl (by omega) | exact rAdd rfl rfl rfl (by omega) | exact rAddW rfl rfl rfl) ?_
      refine WL_val rfl rfl rfl (rSliceMidG (i := at_ + 6) (k := at_ + 6 + m) (sz := 1) rfl Try.underlying45 (by kernel_rfl) rfl rfl rfl (by omega) (by omega)) ?_
      refine WL_val rfl rfl rfl (rAsgnS rfl rfl) ?_
      refine WL_nil ?_
      have hpl : Bts w0 D (.slice (if c = at_ + 6 then some ⟨g, o, none⟩ else (some (⟨g, o, none⟩ : Addr)).map (·.add ((at_ + 6) * 1))) m (c - (at_ + 6))) ((l.drop (at_ + 6)).take m) := by
        have hd := h.drop (k := at_ + 6) (by omega)
        rw [← List.length_drop] at hd
        exact hd.take (by rw [List.length_drop]; omega) (by omega) (Nat.le_refl _)
      rw [show at_ + 6 + m - (at_ + 6) = m from by omega]
      have hpb : ∀ z ∈ (l.drop (at_ + 6)).take m, z < 256 := fun z hz => hb z (List.mem_of_mem_drop (List.mem_of_mem_take hz))
      have hpn : ((l.drop (at_ + 6)).take m).length = m := by rw [List.length_take, List.length_drop]; omega
      generalize hAp : (if c = at_ + 6 then some ⟨g, o, none⟩ else (some (⟨g, o, none⟩ : Addr)).map (·.add ((at_ + 6) * 1))) = Ap at *
      generalize hpd : (l.drop (at_ + 6)).take m = p at *
      refine W_seq ?_
      refine W_region ?_
      refine WL_val rfl rfl rfl (by first | exact rMoveS rfl rfl | exact rMove rfl) ?_
      refine WL_call rfl rfl rfl (rCall (vs := [.slice _ _ _]) rfl Try.func19 rfl rfl rfl) ?_
      refine (decode_any Ap m _ p D _ (hpl.pure hI.pu) hpn hpb (by omega) (fun k hk => Nat.lt_of_lt_of_le (hD k hk) hI.pu.size)).mono ?_
      rintro en w1 ⟨hp, ⟨e, hdec, rfl⟩ | ⟨hdec, x, ⟨u, rfl⟩, rfl⟩⟩
      · refine ⟨_, rfl, ?_⟩
        replace hI := hI.pure hp
        rw [hdec] at hst
        simp only at hst
        obtain ⟨hok, hep⟩ := decF_some hdec
        have hm0 : 0 < m := by rw [← hpn, ← hep]; exact enc_pos e
        refine WL_val rfl rfl rfl (by first | exact rMoveT rfl rfl | exact rMove rfl) ?_
        refine WL_val rfl rfl rfl (rExtr rfl rfl rfl) ?_
        refine WL_val rfl rfl rfl (rExtr rfl rfl rfl) ?_
        refine WL_alloc (u := .agg #[.int .i64 0, .int .i64 0, .int .i64 0, .int .i64 0, .int .i64 0, .int .i64 0, .int .i64 0]) (vs := #[.int .i64 0, .int .i64 0, .int .i64 0, .int .i64 0, .int .i64 0, .int .i64 0, .int .i64 0]) hI rfl rfl rfl rfl (by kernel_rfl) rfl ?_
        clear hI; rintro b8 w - - hI
        first | refine WL_stw0 (u := .agg _) (vs := #[_, _, _, _, _, _, _]) (n := 7) hI rfl rfl rfl rfl rfl rfl (by kernel_rfl) rfl rfl rfl ?_ | refine WL_stw1 (u := .agg _) (vs := #[_, _, _, _, _, _, _]) (n := 7) hI rfl rfl rfl rfl rfl rfl (by kernel_rfl) rfl rfl rfl ?_ | refine WL_stw2 (u := .agg _) (vs := #[_, _, _, _, _, _, _]) (n := 7) hI rfl rfl rfl rfl rfl rfl (by kernel_rfl) rfl rfl rfl ?_ | refine WL_stw3 (u := .agg _) (vs := #[_, _, _, _, _, _, _]) (n := 7) hI rfl rfl rfl rfl rfl rfl (by kernel_rfl) rfl rfl rfl ?_ | refine WL_stw4 (u := .agg _) (vs := #[_, _, _, _, _, _, _]) (n := 7) hI rfl rfl rfl rfl rfl rfl (by kernel_rfl) rfl rfl rfl ?_ | refine WL_stw5 (u := .agg _) (vs := #[_, _, _, _, _, _, _]) (n := 7) hI rfl rfl rfl rfl rfl rfl (by kernel_rfl) rfl rfl rfl ?_
        clear hI; intro w hI
        refine WL_val rfl rfl rfl (by first | exact rAsgnN rfl rfl | exact rAsgnE rfl rfl | exact rAsgn rfl) ?_
        refine WL_nil ?_
        have hXb : Bts w0 D (.slice (some ⟨g, o + at_ * 1, none⟩) (l.length - at_) (c - at_)) (l.drop at_) := by
          have hd := h.drop (k := at_) hat
          rw [if_neg (by omega)] at hd
          simpa only [Option.map_some, Addr.add_lit] using hd
        refine W_seq ?_
        refine W_seq ?_
        refine W_draw (by kernel_rfl) ?_
        refine WA_T (fun _ => True) [] ?_
        refine WT_take 0 rfl rfl (by kernel_rfl) trivial rfl (fun W _ => (by first | exact rMoveN rfl rfl | exact rMoveE rfl rfl | exact rMove rfl)) ?_
        refine WT_take 1 rfl rfl (by kernel_rfl) trivial rfl (fun W _ => (by first | exact rIfaceNe rfl Try.underlying32 rfl rfl | exact rNilNe rfl Try.underlying32 rfl)) ?_
        refine WT_take 2 rfl rfl (by kernel_rfl) trivial rfl (fun W _ => (by first | exact rMoveB rfl rfl | exact rMove rfl)) ?_
        refine WT_take 3 rfl rfl (by kernel_rfl) trivial rfl (fun W _ => (by first | exact rMoveS rfl rfl | exact rMove rfl)) ?_
        refine WT_take 4 rfl rfl (by kernel_rfl) trivial rfl (fun W _ => (by first | exact rMoveI rfl rfl | exact rMove rfl)) ?_
        refine WT_take 5 rfl rfl (by kernel_rfl) trivial rfl (fun W _ => (by first | exact rSliceFrom (sz := 1) rfl Try.underlying45 (by kernel_rfl) rfl rfl (by omega) (by omega) | exact rSliceFromG (sz := 1) rfl Try.underlying45 (by kernel_rfl) rfl rfl (by omega))) ?_
        refine WT_take 6 rfl rfl (by kernel_rfl) trivial rfl (fun W _ => (by first | exact rMoveS rfl rfl | exact rMove rfl)) ?_
        refine WT_true ?_
        refine WA_inv (T := [7]) hI.drew ?_
        intro Sx hSx hXS
        replace hI := hI.drew
        refine WT_A (by kernel_rfl) ?_
        clear hXS hSx
        refine WA_one 7 rfl (by kernel_rfl) ?_
        refine WL_call rfl rfl rfl (rCall (vs := [.slice _ _ _]) rfl Try.func17 rfl rfl rfl) ?_
        refine (frame_any Ap m _ p D _ (hpl.pure hI.pu) hpn hpb (by omega) hm0).mono ?_
        rintro en w2 ⟨hp2, A3, c3, rfl, hown3⟩
        refine ⟨_, rfl, ?_⟩
        replace hI := hI.pure hp2
        have hfr : Bts w2 (fun _ => True) (.slice A3 (frameF p).length c3) (frameF p) := Rd.of_own hown3 (fun _ _ _ => trivial)
        refine WL_nil ?_
        refine WA_one 8 rfl (by kernel_rfl) ?_
        refine WL_call rfl rfl rfl (rCall (vs := [.slice _ _ _, .slice _ _ _]) rfl Try.func20 rfl rfl rfl) ?_
        refine (bprefix_any _ _ _ _ _ _ (l.drop at_) (frameF p) D _ _ (hXb.pure hI.pu) hXl hfr rfl (fun z hz => hb z (List.mem_of_mem_drop hz)) (frameF_byte hpb)).mono ?_
        rintro en w3 ⟨rfl, rfl⟩
        refine ⟨_, rfl, ?_⟩
        have hpi : (frameF p).isPrefixOf (l.drop at_) = decide ((l.drop at_).take (frameF p).length = frameF p) := by
          rw [Bool.eq_iff_iff, List.isPrefixOf_iff_prefix, List.prefix_iff_eq_take, decide_eq_true_iff]
          exact ⟨Eq.symm, Eq.symm⟩
        rw [hpi] at hst
        by_cases hq : (l.drop at_).take (frameF p).length = frameF p
        · rw [decide_eq_true hq] at hst ⊢
          simp only [if_true] at hst
          refine WL_nil ?_
          refine WA_one 9 rfl (by kernel_rfl) ?_
          first | refine WL_val rfl rfl rfl (by first | exact rNotT rfl rfl | exact rNotF rfl rfl | exact rNot rfl rfl) ?_ | refine WL_skip rfl rfl rfl ?_
          refine WL_nil ?_
          refine WA_one 10 rfl (by kernel_rfl) ?_
          refine WL_val rfl rfl rfl (by first | exact rPickTB rfl rfl rfl | exact rPickFB rfl rfl rfl | exact rPickB rfl rfl rfl rfl) ?_
          refine WL_nil ?_
          refine WA_end (by kernel_rfl) ?_
          refine W_cond false rfl ?_
          refine W_skip ?_
          refine W_seq ?_
          refine W_region ?_
          refine WL_val rfl rfl rfl (by first | exact rMoveS rfl rfl | exact rMove rfl) ?_
          refine WL_val rfl rfl rfl (by first | exact rLdB (n := 7) rfl (by kernel_rfl) (by kernel_rfl) rfl rfl hI.g0 | exact rLdB (n := 7) rfl (by kernel_rfl) (by kernel_rfl) rfl rfl hI.g1) ?_
          refine WL_lit (vs := [_, _, _, _, _, _, _]) (qs := [(0, .agg #[_, _, _, _, _, _, _])]) [.int .i64 0, .int .i64 0, .int .i64 0, .int .i64 0, .int .i64 0, .int .i64 0, .int .i64 0] [0] hI rfl rfl rfl rfl rfl rfl Try.underlying22 (fun _ => by kernel_rfl) ?_
          clear hI; rintro b61 w - - hI
          -- STOP: call ['Op.call', ('st', {'callee': ['Callee.builtin', 'Builtin.append'], 'args': ('arr', [['Operand.tmp', '59'], ['Operand.tmp', '61']]), 'argTypes': ('arr
          refine WL_app2 (z := .agg #[.int .i64 0, .int .i64 0, .int .i64 0, .int .i64 0, .int .i64 0, .int .i64 0, .int .i64 0]) (by_ := 56) (news := evL e) hI rfl rfl rfl rfl rfl rfl Try.underlying22 (by kernel_rfl) rfl (by omega) rfl (fun k u hk => by rw [Nat.zero_add]; exact (hI.g0.cell k).trans (by simpa [evL] using hk)) rfl (by omega) (by omega) hI.pu.size ?_
          clear hI; rintro A4 c4 w hc1 hc2 hI
          refine WL_val rfl rfl rfl (by first | exact rAsgnS rfl rfl | exact rAsgn rfl) ?_
          refine WL_nil ?_
          replace hI := hI.d0.d0
          refine W_region ?_
          refine WL_val rfl rfl rfl (by first | exact rMoveI rfl rfl | exact rMove rfl) ?_
          refine WL_val rfl rfl rfl (by first | exact rMoveI rfl rfl | exact rMove rfl) ?_
          refine WL_val rfl rfl rfl (by first | exact rInc rfl rfl rfl (by omega) | exact rAdd rfl rfl rfl (by omega) | exact rAddW rfl rfl rfl) ?_
          refine WL_val rfl rfl rfl (by first | exact rInc rfl rfl rfl (by omega) | exact rAdd rfl rfl rfl (by omega) | exact rAddW rfl rfl rfl) ?_
          refine WL_val rfl rfl rfl (by first | exact rAsgnI rfl rfl | exact rAsgn rfl) ?_
          refine WL_nil ?_
          rw [recA_some hst] at hrec
          refine ⟨⟨at_ + 6 + m, evs ++ [e], A4, c4, by omega, by simp; omega, ⟨?_, ?_, rfl, trivial⟩, ?_, ?_⟩, ?_⟩
          · show Value.int .i64 ((at_ : Int) + (6 + (m : Int))) = _
            congr 1
            omega
          · rw [List.length_append]; rfl
          · rw [hrec, List.drop_drop]
            simp [Nat.add_assoc]
          · rw [evsV_snoc, List.length_append]
            exact hI
          · show l.length - ((at_ : Int) + (6 + (m : Int))).toNat < l.length - (at_ : Int).toNat
            omega
        · rw [decide_eq_false hq] at hst ⊢
          simp only [Bool.false_eq_true, if_false] at hst
          refine WL_nil ?_
          refine WA_one 9 rfl (by kernel_rfl) ?_
          first | refine WL_val rfl rfl rfl (by first | exact rNotT rfl rfl | exact rNotF rfl rfl | exact rNot rfl rfl) ?_ | refine WL_skip rfl rfl rfl ?_
          refine WL_nil ?_
          refine WA_one 10 rfl (by kernel_rfl) ?_
          refine WL_val rfl rfl rfl (by first | exact rPickTB rfl rfl rfl | exact rPickFB rfl rfl rfl | exact rPickB rfl rfl rfl rfl) ?_
          refine WL_nil ?_
          refine WA_end (by kernel_rfl) ?_
          refine W_cond true rfl ?_
          refine W_exit ?_
          refine W_seq ?_
          refine W_region ?_
          refine WL_val rfl rfl rfl (by first | exact rMoveS rfl rfl | exact rMove rfl) ?_
          refine WL_val rfl rfl rfl (by first | exact rMoveI rfl rfl | exact rMove rfl) ?_
          refine WL_val rfl rfl rfl (by first | exact rAsgnS rfl rfl | exact rAsgn rfl) ?_
          refine WL_val rfl rfl rfl (by first | exact rAsgnI rfl rfl | exact rAsgn rfl) ?_
          refine WL_nil ?_
          refine W_ret ?_
          replace hI := hI.d0
          rw [recA_none hst, List.append_nil, Nat.add_zero] at hrec
          refine ret2 2 3 (.inr rfl) rfl ⟨hI.pu, A', c', ?_, ?_⟩
          · rw [hrec]; rfl
          · rw [hrec]; exact hI.g0
      · refine ⟨_, rfl, ?_⟩
        replace hI := hI.pure hp
        rw [hdec] at hst
        simp only at hst
        refine WL_val rfl rfl rfl (by first | exact rMoveT rfl rfl | exact rMove rfl) ?_
        refine WL_val rfl rfl rfl (rExtr rfl rfl rfl) ?_
        refine WL_val rfl rfl rfl (rExtr rfl rfl rfl) ?_
        refine WL_alloc (u := .agg #[.int .i64 0, .int .i64 0, .int .i64 0, .int .i64 0, .int .i64 0, .int .i64 0, .int .i64 0]) (vs := #[.int .i64 0, .int .i64 0, .int .i64 0, .int .i64 0, .int .i64 0, .int .i64 0, .int .i64 0]) hI rfl rfl rfl rfl (by kernel_rfl) rfl ?_
        clear hI; rintro b8 w - - hI
        first | refine WL_stw0 (u := .agg _) (vs := #[_, _, _, _, _, _, _]) (n := 7) hI rfl rfl rfl rfl rfl rfl (by kernel_rfl) rfl rfl rfl ?_ | refine WL_stw1 (u := .agg _) (vs := #[_, _, _, _, _, _, _]) (n := 7) hI rfl rfl rfl rfl rfl rfl (by kernel_rfl) rfl rfl rfl ?_ | refine WL_stw2 (u := .agg _) (vs := #[_, _, _, _, _, _, _]) (n := 7) hI rfl rfl rfl rfl rfl rfl (by kernel_rfl) rfl rfl rfl ?_ | refine WL_stw3 (u := .agg _) (vs := #[_, _, _, _, _, _, _]) (n := 7) hI rfl rfl rfl rfl rfl rfl (by kernel_rfl) rfl rfl rfl ?_ | refine WL_stw4 (u := .agg _) (vs := #[_, _, _, _, _, _, _]) (n := 7) hI rfl rfl rfl rfl rfl rfl (by kernel_rfl) rfl rfl rfl ?_ | refine WL_stw5 (u := .agg _) (vs := #[_, _, _, _, _, _, _]) (n := 7) hI rfl rfl rfl rfl rfl rfl (by kernel_rfl) rfl rfl rfl ?_
        clear hI; intro w hI
        refine WL_val rfl rfl rfl (by first | exact rAsgnN rfl rfl | exact rAsgnE rfl rfl | exact rAsgn rfl) ?_
        refine WL_nil ?_
        refine W_seq ?_
        refine W_seq ?_
        refine W_draw (by kernel_rfl) ?_
        refine WA_inv (T := []) hI.drew ?_
        intro Sx hSx hXS
        replace hI := hI.drew
        refine WT_take 0 rfl rfl (by kernel_rfl) (hXS _ hI) rfl (fun W hW => have hI := hSx W hW; (by first | exact rMoveN rfl rfl | exact rMoveE rfl rfl | exact rMove rfl)) ?_
        refine WT_take 1 rfl rfl (by kernel_rfl) (hXS _ hI) rfl (fun W hW => have hI := hSx W hW; (by first | exact rIfaceNe rfl Try.underlying32 rfl rfl | exact rNilNe rfl Try.underlying32 rfl)) ?_
        refine WT_take 2 rfl rfl (by kernel_rfl) (hXS _ hI) rfl (fun W hW => have hI := hSx W hW; (by first | exact rMoveB rfl rfl | exact rMove rfl)) ?_
        refine WT_skip 3 rfl rfl (by kernel_rfl) (hXS _ hI) rfl ?_
        refine WT_skip 4 rfl rfl (by kernel_rfl) (hXS _ hI) rfl ?_
        refine WT_skip 5 rfl rfl (by kernel_rfl) (hXS _ hI) rfl ?_
        refine WT_skip 6 rfl rfl (by kernel_rfl) (hXS _ hI) rfl ?_
        refine WT_skip 7 rfl rfl (by kernel_rfl) (hXS _ hI) rfl ?_
        refine WT_skip 8 rfl rfl (by kernel_rfl) (hXS _ hI) rfl ?_
        refine WT_skip 9 rfl rfl (by kernel_rfl) (hXS _ hI) rfl ?_
        refine WT_take 10 rfl rfl (by kernel_rfl) (hXS _ hI) rfl (fun W hW => have hI := hSx W hW; (by first | exact rPickTB rfl rfl rfl | exact rPickFB rfl rfl rfl | exact rPickB rfl rfl rfl rfl)) ?_
        refine WT_end (by kernel_rfl) ?_
        refine W_cond true rfl ?_
        refine W_exit ?_
        refine W_seq ?_
        refine W_region ?_
        refine WL_val rfl rfl rfl (by first | exact rMoveS rfl rfl | exact rMove rfl) ?_
        refine WL_val rfl rfl rfl (by first | exact rMoveI rfl rfl | exact rMove rfl) ?_
        refine WL_val rfl rfl rfl (by first | exact rAsgnS rfl rfl | exact rAsgn rfl) ?_
        refine WL_val rfl rfl rfl (by first | exact rAsgnI rfl rfl | exact rAsgn rfl) ?_
        refine WL_nil ?_
        refine W_ret ?_
        replace hI := hI.d0
        rw [recA_none hst, List.append_nil, Nat.add_zero] at hrec
        refine ret2 2 3 (.inr rfl) rfl ⟨hI.pu, A', c', ?_, ?_⟩
        · rw [hrec]; rfl
        · rw [hrec]; exact hI.g0
end Go.Proofs.Ytfagfkgmibmanaa
