/- store: Deliver, Drop, Double, Begin, as moves. -/
import Derived.Test.YtglioflpblpmpaaStoH
namespace Go.Proofs.Ytglioflpblpmpaa
open Go.RowKit
set_option linter.unusedVariables false
set_option linter.unusedSimpArgs false
/-- A move of a store. -/
def Mv (s s' : SSt) : Prop :=
  (∃ ms : List SMail, (∀ m ∈ ms, m ∈ s.mails) ∧ s' = { s with mails := ms }) ∨
  (∃ (c key : Nat) (write : Bool) (value : Int), c < s.k ∧ (s.cl c).busy = false ∧ (s.cl c).gone = false ∧ key < 8 ∧ (-1000000 ≤ value ∧ value ≤ 1000000) ∧ s' = beginF s c key write value) ∨
  (∃ c, c < s.k ∧ (s.cl c).busy = true ∧ s' = giveF s c) ∨
  (∃ (j : Nat) (m : SMail), s.mails[j]? = some m ∧ s' = deliverF s j m)
theorem Mv.refl (s : SSt) : Mv s s := .inl ⟨s.mails, fun _ h => h, rfl⟩
def MvPost (L : StL) (s : SSt) (M : Nat) (S : Nat → Prop) (w0 : World) (en : Ending) (w' : World) : Prop :=
  (∃ v, en = .returned v) ∧ ∃ L' s', Mv s s' ∧ SOk L' s' (M + 1) ∧ L'.sb = L.sb ∧ Inv S w0 w' (spt L' s')
theorem giveupM (L : StL) (s : SSt) (M : Nat) (h : SOk L s M) (S : Nat → Prop) (w0 : World) (hI : Inv S w0 w0 (spt L s)) (c : Int) : Calls Try.prog 26 #[.pointer (some ⟨L.sb, 0, none⟩), .int .i64 c] w0 (MvPost L s M S w0) := by
  refine (giveup_any L s c h.k1.2 ⟨by have := h.elen; omega, by have := h.elen; have := h.slen; omega⟩ S w0 hI).mono ?_
  rintro e w' ⟨hv, EA, ec, SA, sc, s', hs, hJ⟩
  refine ⟨hv, { L with EA := EA, ec := ec, SA := SA, sc := sc }, s', ?_, ?_, rfl, hJ⟩
  · rcases hs with rfl | ⟨c', h1, h2, rfl⟩
    · exact Mv.refl _
    · exact .inr (.inr (.inl ⟨c', h1, h2, rfl⟩))
  · rcases hs with rfl | ⟨c', h1, h2, rfl⟩
    · exact (h.loc (L' := { L with EA := EA, ec := ec, SA := SA, sc := sc }) rfl).mono (by omega)
    · exact (h.give (L' := { L with EA := EA, ec := ec, SA := SA, sc := sc }) h1 h2 rfl).mono (by omega)
set_option maxHeartbeats 1000000 in
theorem dropM (L : StL) (s : SSt) (M : Nat) (h : SOk L s M) (S : Nat → Prop) (w0 : World) (hI : Inv S w0 w0 (spt L s)) (i : Int) : Calls Try.prog 24 #[.pointer (some ⟨L.sb, 0, none⟩), .int .i64 i] w0 (MvPost L s M S w0) := by
  refine calls_of_W (N := Try.f24.ntmps) Try.func24 rfl rfl rfl ?_
  refine W_seq ?_
  refine W_region ?_
  refine WL_val rfl rfl rfl (by first | exact rAsgnN rfl rfl | exact rAsgnE rfl rfl | exact rAsgn rfl) ?_
  refine WL_nil ?_
  refine W_seq ?_
  refine W_seq ?_
  refine W_region ?_
  refine WL_val rfl rfl rfl (by first | exact rMoveP rfl rfl | exact rMove rfl) ?_
  refine WL_val rfl rfl rfl (rPtrEq rfl Try.underlying30 rfl rfl) ?_
  refine WL_nil ?_
  refine W_cond false rfl ?_
  refine W_skip ?_
  refine W_seq ?_
  refine W_region ?_
  refine WL_val rfl rfl rfl (by first | exact rMoveP rfl rfl | exact rMove rfl) ?_
  refine WL_val rfl rfl rfl (rNilChk rfl rfl) ?_
  refine WL_val rfl rfl rfl (by first | exact rFldN (off := 7) rfl (by kernel_rfl) rfl | exact rFld (off := 7) rfl (by kernel_rfl) rfl) ?_
  refine WL_val rfl rfl rfl (by first | exact rMoveI rfl rfl | exact rMove rfl) ?_
  refine WL_call rfl rfl rfl (rCall (vs := [.pointer _, .int .i64 _]) rfl Try.func35 rfl rfl rfl) ?_
  refine (ndrop_any L s i h.mlen (DLs _) _ (hI.fromB (X := []))).mono ?_
  rintro en w1 ⟨⟨v, rfl⟩, MA, mc, ms, hms, hJ⟩
  refine ⟨_, rfl, ?_⟩
  replace hI := hI.callB (X := []) hJ
  refine WL_val rfl rfl rfl (by first | exact rAsgnN rfl rfl | exact rAsgnE rfl rfl | exact rAsgn rfl) ?_
  refine WL_nil ?_
  refine W_ret ?_
  have hsub : ∀ m ∈ ms, m ∈ s.mails := by
    rcases hms with rfl | ⟨j, _, rfl⟩
    · exact fun _ h => h
    · exact fun m hm => List.mem_of_mem_eraseIdx hm
  have hlen : ms.length ≤ 500 := by
    rcases hms with rfl | ⟨j, hj, rfl⟩
    · exact h.mlen
    · rw [List.length_eraseIdx, if_pos hj]; have := h.mlen; omega
  exact ret1 4 (.inr rfl) rfl ⟨⟨_, rfl⟩, _, _, .inl ⟨ms, hsub, rfl⟩, ((h.mails hsub hlen).loc (L' := { L with MA := MA, mc := mc }) rfl).mono (by omega), rfl, hI⟩
set_option maxHeartbeats 1000000 in
theorem doubleM (L : StL) (s : SSt) (M : Nat) (h : SOk L s M) (S : Nat → Prop) (w0 : World) (hI : Inv S w0 w0 (spt L s)) (i : Int) : Calls Try.prog 25 #[.pointer (some ⟨L.sb, 0, none⟩), .int .i64 i] w0 (MvPost L s M S w0) := by
  refine calls_of_W (N := Try.f25.ntmps) Try.func25 rfl rfl rfl ?_
  refine W_seq ?_
  refine W_region ?_
  refine WL_val rfl rfl rfl (by first | exact rAsgnN rfl rfl | exact rAsgnE rfl rfl | exact rAsgn rfl) ?_
  refine WL_nil ?_
  refine W_seq ?_
  refine W_seq ?_
  refine W_region ?_
  refine WL_val rfl rfl rfl (by first | exact rMoveP rfl rfl | exact rMove rfl) ?_
  refine WL_val rfl rfl rfl (rPtrEq rfl Try.underlying30 rfl rfl) ?_
  refine WL_nil ?_
  refine W_cond false rfl ?_
  refine W_skip ?_
  refine W_seq ?_
  refine W_region ?_
  refine WL_val rfl rfl rfl (by first | exact rMoveP rfl rfl | exact rMove rfl) ?_
  refine WL_val rfl rfl rfl (rNilChk rfl rfl) ?_
  refine WL_val rfl rfl rfl (by first | exact rFldN (off := 7) rfl (by kernel_rfl) rfl | exact rFld (off := 7) rfl (by kernel_rfl) rfl) ?_
  refine WL_val rfl rfl rfl (by first | exact rMoveI rfl rfl | exact rMove rfl) ?_
  refine WL_call rfl rfl rfl (rCall (vs := [.pointer _, .int .i64 _]) rfl Try.func36 rfl rfl rfl) ?_
  refine (ndouble_any L s i (DLs _) _ (hI.fromB (X := []))).mono ?_
  rintro en w1 ⟨⟨v, rfl⟩, MA, mc, ms, hms, hJ⟩
  refine ⟨_, rfl, ?_⟩
  replace hI := hI.callB (X := []) hJ
  refine WL_val rfl rfl rfl (by first | exact rAsgnN rfl rfl | exact rAsgnE rfl rfl | exact rAsgn rfl) ?_
  refine WL_nil ?_
  refine W_ret ?_
  have hsub : ∀ m ∈ ms, m ∈ s.mails := by
    rcases hms with rfl | ⟨m0, h0, rfl⟩
    · exact fun _ h => h
    · exact fun m hm => by rcases mem_push hm with hm | rfl; exact hm; exact h0
  have hlen : ms.length ≤ 500 := by
    rcases hms with rfl | ⟨m0, h0, rfl⟩
    · exact h.mlen
    · exact push_len h.mlen
  exact ret1 4 (.inr rfl) rfl ⟨⟨_, rfl⟩, _, _, .inl ⟨ms, hsub, rfl⟩, ((h.mails hsub hlen).loc (L' := { L with MA := MA, mc := mc }) rfl).mono (by omega), rfl, hI⟩
set_option maxHeartbeats 2000000 in
theorem deliverM (L : StL) (s : SSt) (M : Nat) (h : SOk L s M) (hM : M ≤ 100000) (S : Nat → Prop) (w0 : World) (hI : Inv S w0 w0 (spt L s)) (i : Int) : Calls Try.prog 14 #[.pointer (some ⟨L.sb, 0, none⟩), .int .i64 i] w0 fun en w' => ∃ v L' s', en = .returned v ∧ Mv s s' ∧ SOk L' s' (M + 1) ∧ L'.sb = L.sb ∧ L'.cut = L.cut ∧ Inv S w0 w' (spt L' s') ∧ (∀ (j : Nat) (m : SMail), L.cut = false → i = (j : Int) → s.mails[j]? = some m → v = .nilIface ∧ s' = deliverF s j m) := by
  have hn := h.n1
  have hk := h.k1
  refine calls_of_W (N := Try.f14.ntmps) Try.func14 rfl rfl rfl ?_
  refine W_seq ?_
  refine W_region ?_
  refine WL_val rfl rfl rfl (by first | exact rAsgnN rfl rfl | exact rAsgnE rfl rfl | exact rAsgn rfl) ?_
  refine WL_nil ?_
  refine W_seq ?_
  refine W_seq ?_
  refine W_region ?_
  refine WL_val rfl rfl rfl (by first | exact rMoveP rfl rfl | exact rMove rfl) ?_
  refine WL_val rfl rfl rfl (rPtrEq rfl Try.underlying30 rfl rfl) ?_
  refine WL_nil ?_
  refine W_cond false rfl ?_
  refine W_skip ?_
  have hmo : ∀ m ∈ s.mails, m.src < 1000 ∧ m.dst < 1000 := fun m hm => by
    have := h.mok m hm
    omega
  have hz9 : zero9.size = 9 := rfl
  refine W_seq ?_
  refine W_region ?_
  refine WL_val rfl rfl rfl (by first | exact rMoveP rfl rfl | exact rMove rfl) ?_
  refine WL_val rfl rfl rfl (rNilChk rfl rfl) ?_
  refine WL_val rfl rfl rfl (by first | exact rFldN (off := 7) rfl (by kernel_rfl) rfl | exact rFld (off := 7) rfl (by kernel_rfl) rfl) ?_
  refine WL_val rfl rfl rfl (by first | exact rMoveI rfl rfl | exact rMove rfl) ?_
  refine WL_call rfl rfl rfl (rCall (vs := [.pointer _, .int .i64 _]) rfl Try.func21 rfl rfl rfl) ?_
  refine (take_any L s i h.mlen hmo (DLs _) _ (hI.fromB (X := []))).mono ?_
  rintro en w1 hcase
  obtain ⟨ag, er, L1, s1, rfl, hag, hone, hsb, hcs, hJ⟩ : ∃ (ag : Array Value) (er : Value) (L1 : StL) (s1 : SSt), en = .returned (.tuple #[.agg ag, er]) ∧ ag.size = 9 ∧ ag.toList.all (·.oneCell') = true ∧ L1.sb = L.sb ∧
      (((∃ n, er = .iface 46 (.int .i64 n)) ∧ (L.cut = false → ¬ (0 ≤ i ∧ i < (s.mails.length : Int))) ∧ L1 = L ∧ s1 = s) ∨ (er = .nilIface ∧ ∃ (j : Nat) (m : SMail) (MA : Option Addr) (mc : Nat), i = (j : Int) ∧ s.mails[j]? = some m ∧ ag = (mailL m).toArray ∧ L1 = { L with MA := MA, mc := mc } ∧ s1 = { s with mails := s.mails.eraseIdx j })) ∧ Inv (DLs (spt L s)) w0 w1 (spt L1 s1) := by
    rcases hcase with ⟨n, rfl, hct, hJ⟩ | ⟨j, m, MA, mc, hij, hm, rfl, hJ⟩
    · exact ⟨_, _, L, s, rfl, rfl, rfl, rfl, .inl ⟨⟨n, rfl⟩, hct, rfl, rfl⟩, hJ⟩
    · exact ⟨_, _, { L with MA := MA, mc := mc }, { s with mails := s.mails.eraseIdx j }, rfl, rfl, rfl, rfl, .inr ⟨rfl, j, m, MA, mc, hij, hm, rfl, rfl, rfl⟩, hJ⟩
  refine ⟨_, rfl, ?_⟩
  replace hI := hI.callB (X := []) hJ
  refine WL_val rfl rfl rfl (by first | exact rMoveT rfl rfl | exact rMove rfl) ?_
  refine WL_val rfl rfl rfl (rExtr rfl rfl rfl) ?_
  refine WL_val rfl rfl rfl (rExtr rfl rfl rfl) ?_
  refine WL_alloc (u := .agg zero9) (vs := zero9) hI rfl rfl rfl rfl (by kernel_rfl) rfl ?_
  clear hI; rintro b5 w - - hI
  refine WL_stw0 (u := .agg ag) (vs := ag) (n := 9) hI rfl rfl rfl rfl rfl rfl (by kernel_rfl) hag rfl hone ?_
  clear hI; intro w hI
  refine WL_val rfl rfl rfl (by first | exact rAsgnN rfl rfl | exact rAsgnE rfl rfl | exact rAsgn rfl) ?_
  refine WL_nil ?_
  rcases hcs with ⟨⟨n, rfl⟩, hct, rfl, rfl⟩ | ⟨rfl, j, m, MA, mc, hij, hm, rfl, rfl, rfl⟩
  · refine W_seq ?_
    refine W_seq ?_
    refine W_region ?_
    refine WL_val rfl rfl rfl (by first | exact rMoveN rfl rfl | exact rMoveE rfl rfl | exact rMove rfl) ?_
    refine WL_val rfl rfl rfl (by first | exact rIfaceNe rfl Try.underlying27 rfl rfl | exact rNilNe rfl Try.underlying27 rfl) ?_
    refine WL_nil ?_
    refine W_cond true rfl ?_
    refine W_seq ?_
    refine W_region ?_
    refine WL_val rfl rfl rfl (by first | exact rMoveN rfl rfl | exact rMoveE rfl rfl | exact rMove rfl) ?_
    refine WL_val rfl rfl rfl (by first | exact rAsgnN rfl rfl | exact rAsgnE rfl rfl | exact rAsgn rfl) ?_
    refine WL_nil ?_
    refine W_ret ?_
    exact ret1 4 (.inr rfl) rfl ⟨_, L1, s1, rfl, Mv.refl _, h.mono (by omega), rfl, rfl, hI.d0, fun j m hc hj hm => absurd (show 0 ≤ i ∧ i < (s1.mails.length : Int) by have := (List.getElem?_eq_some_iff.1 hm).1; omega) (hct hc)⟩
  have hgd : ∀ (j' : Nat) (m' : SMail), L.cut = false → i = (j' : Int) → s.mails[j']? = some m' → (Value.nilIface : Value) = .nilIface ∧ deliverF s j m = deliverF s j' m' := fun j' m' _ hj' hm' => by
    obtain rfl : j = j' := by omega
    rw [hm] at hm'
    injection hm' with hm'
    exact ⟨rfl, by rw [hm']⟩
  have hmm := h.mok m (List.mem_of_getElem? hm)
  obtain ⟨s1, hs1⟩ : ∃ s1 : SSt, { s with mails := s.mails.eraseIdx j } = s1 := ⟨_, rfl⟩
  obtain ⟨L1, hL1⟩ : ∃ L1 : StL, { L with MA := MA, mc := mc } = L1 := ⟨_, rfl⟩
  have h1 : SOk L1 s1 M := by
    rw [← hs1, ← hL1]
    exact (h.mails (fun x hx => List.mem_of_mem_eraseIdx hx) (by rw [List.length_eraseIdx]; have := h.mlen; split <;> omega)).loc rfl
  have hn1 : s1.n = s.n ∧ s1.k = s.k := by rw [← hs1]; exact ⟨rfl, rfl⟩
  rw [hs1, hL1] at hI
  have hsbe : L1.sb = L.sb := by rw [← hL1]
  have hcute : L1.cut = L.cut := by rw [← hL1]
  have hdel : deliverF s j m = if m.dst < s.n then nodeF s1 m.dst m.m else hearF s1 m.src m.m := by rw [← hs1]; rfl
  have hc0 : ∀ w, Inv S w0 w ([B b5 73 (mailL m).toArray] ++ spt L1 s1) → w.cell? ⟨L.sb, 0, none⟩ = some (.int .i64 (s.n : Int)) := fun w hI => by
    have := sp_c0 (X := [_]) hI
    rw [hsbe, hn1.1] at this; exact this
  have hcl1 := h1.cok m.m.client (by have := hmm.1; omega)
  refine W_seq ?_
  refine W_seq ?_
  refine W_region ?_
  refine WL_val rfl rfl rfl (by first | exact rMoveN rfl rfl | exact rMoveE rfl rfl | exact rMove rfl) ?_
  refine WL_val rfl rfl rfl (by first | exact rIfaceNe rfl Try.underlying27 rfl rfl | exact rNilNe rfl Try.underlying27 rfl) ?_
  refine WL_nil ?_
  refine W_cond false rfl ?_
  refine W_skip ?_
  by_cases hd : m.dst < s.n
  · rw [if_pos hd] at hdel
    refine W_seq ?_
    refine W_seq ?_
    refine W_draw (by kernel_rfl) ?_
    refine WA_inv (T := []) hI.drew ?_
    intro Sx hSx hXS
    replace hI := hI.drew
    refine WT_take 0 rfl rfl (by kernel_rfl) (hXS _ hI) rfl (fun W hW => have hI := hSx W hW; (by first | exact rFldN (off := 1) rfl (by kernel_rfl) rfl | exact rFld (off := 1) rfl (by kernel_rfl) rfl)) ?_
    refine WT_take 1 rfl rfl (by kernel_rfl) (hXS _ hI) rfl (fun W hW => have hI := hSx W hW; (by first | exact rLd (v := .int .i64 _) rfl (by kernel_rfl) rfl (by first | exact hI.c0 rfl) | exact rLd rfl (by kernel_rfl) rfl (by first | exact hI.c0 rfl))) ?_
    refine WT_take 2 rfl rfl (by kernel_rfl) (hXS _ hI) rfl (fun W hW => have hI := hSx W hW; (by first | exact rMoveP rfl rfl | exact rMove rfl)) ?_
    refine WT_take 3 rfl rfl (by kernel_rfl) (hXS _ hI) rfl (fun W hW => have hI := hSx W hW; (rNilChk rfl rfl)) ?_
    refine WT_take 4 rfl rfl (by kernel_rfl) (hXS _ hI) rfl (fun W hW => have hI := hSx W hW; (by first | exact rFldN (off := 0) rfl (by kernel_rfl) rfl | exact rFld0 rfl (by kernel_rfl) rfl)) ?_
    refine WT_take 5 rfl rfl (by kernel_rfl) (hXS _ hI) rfl (fun W hW => have hI := hSx W hW; (by first | exact rFldN (off := 0) rfl (by kernel_rfl) rfl | exact rFld0 rfl (by kernel_rfl) rfl)) ?_
    refine WT_take 6 rfl rfl (by kernel_rfl) (hXS _ hI) rfl (fun W hW => have hI := hSx W hW; (rLd (v := .int .i64 (s.n : Int)) rfl (by kernel_rfl) rfl (hc0 _ hI))) ?_
    refine WT_take 7 rfl rfl (by kernel_rfl) (hXS _ hI) rfl (fun W hW => have hI := hSx W hW; (by first | exact rLssT rfl rfl rfl (by omega) | exact rLssF rfl rfl rfl (by omega) | exact rLss rfl rfl rfl)) ?_
    refine WT_end (by kernel_rfl) ?_
    refine W_cond true rfl ?_
    refine W_region ?_
    refine WL_val rfl rfl rfl (by first | exact rMoveP rfl rfl | exact rMove rfl) ?_
    refine WL_val rfl rfl rfl (by first | exact rFldN (off := 1) rfl (by kernel_rfl) rfl | exact rFld (off := 1) rfl (by kernel_rfl) rfl) ?_
    refine WL_val rfl rfl rfl (by first | exact rLd (v := .int .i64 _) rfl (by kernel_rfl) rfl (by first | exact hI.c0 rfl) | exact rLd rfl (by kernel_rfl) rfl (by first | exact hI.c0 rfl)) ?_
    refine WL_val rfl rfl rfl (by first | exact rFldN (off := 2) rfl (by kernel_rfl) rfl | exact rFld (off := 2) rfl (by kernel_rfl) rfl) ?_
    refine WL_val rfl rfl rfl (rLdA (n := 7) (l := msgL m.m) rfl (by kernel_rfl) (by kernel_rfl) rfl rfl (blk_sub hI.g0 2 [] rfl)) ?_
    refine WL_call rfl rfl rfl (rCall (vs := [.pointer _, .int .i64 _, .agg _]) rfl Try.func22 rfl rfl rfl) ?_
    rw [← hsbe]
    refine (node_any L1 s1 m.dst m.m (by omega) (by omega) hmm.2.1 (by have := hmm.1; omega) (DLs _) _ (hI.fromB (X := [_]))).mono ?_
    rintro en w1 ⟨rfl, MA', mc', hJ⟩
    refine ⟨_, rfl, ?_⟩
    replace hI := hI.callB (X := [_]) hJ
    refine WL_nil ?_
    refine W_seq ?_
    refine W_region ?_
    refine WL_val rfl rfl rfl (by first | exact rAsgnN rfl rfl | exact rAsgnE rfl rfl | exact rAsgn rfl) ?_
    refine WL_nil ?_
    refine W_ret ?_
    exact ret1 4 (.inr rfl) rfl ⟨_, { L1 with MA := MA', mc := mc' }, deliverF s j m, rfl, .inr (.inr (.inr ⟨j, m, hm, rfl⟩)), by rw [hdel]; exact ((h1.node (j := m.dst) (m := m.m) (by omega) (by have := hmm.1; omega) hmm.2.1 hmm.2.2.1 hmm.2.2.2.1).loc (L' := { L1 with MA := MA', mc := mc' }) rfl).mono (by omega), rfl, hcute, by rw [hdel]; exact hI.d0, hgd⟩
  · rw [if_neg hd] at hdel
    have hsrc : m.src < s.n := by rcases hmm.2.2.2.2.2 with h | h; exact absurd h.1 hd; exact h.1
    refine W_seq ?_
    refine W_seq ?_
    refine W_draw (by kernel_rfl) ?_
    refine WA_inv (T := []) hI.drew ?_
    intro Sx hSx hXS
    replace hI := hI.drew
    refine WT_take 0 rfl rfl (by kernel_rfl) (hXS _ hI) rfl (fun W hW => have hI := hSx W hW; (by first | exact rFldN (off := 1) rfl (by kernel_rfl) rfl | exact rFld (off := 1) rfl (by kernel_rfl) rfl)) ?_
    refine WT_take 1 rfl rfl (by kernel_rfl) (hXS _ hI) rfl (fun W hW => have hI := hSx W hW; (by first | exact rLd (v := .int .i64 _) rfl (by kernel_rfl) rfl (by first | exact hI.c0 rfl) | exact rLd rfl (by kernel_rfl) rfl (by first | exact hI.c0 rfl))) ?_
    refine WT_take 2 rfl rfl (by kernel_rfl) (hXS _ hI) rfl (fun W hW => have hI := hSx W hW; (by first | exact rMoveP rfl rfl | exact rMove rfl)) ?_
    refine WT_take 3 rfl rfl (by kernel_rfl) (hXS _ hI) rfl (fun W hW => have hI := hSx W hW; (rNilChk rfl rfl)) ?_
    refine WT_take 4 rfl rfl (by kernel_rfl) (hXS _ hI) rfl (fun W hW => have hI := hSx W hW; (by first | exact rFldN (off := 0) rfl (by kernel_rfl) rfl | exact rFld0 rfl (by kernel_rfl) rfl)) ?_
    refine WT_take 5 rfl rfl (by kernel_rfl) (hXS _ hI) rfl (fun W hW => have hI := hSx W hW; (by first | exact rFldN (off := 0) rfl (by kernel_rfl) rfl | exact rFld0 rfl (by kernel_rfl) rfl)) ?_
    refine WT_take 6 rfl rfl (by kernel_rfl) (hXS _ hI) rfl (fun W hW => have hI := hSx W hW; (rLd (v := .int .i64 (s.n : Int)) rfl (by kernel_rfl) rfl (hc0 _ hI))) ?_
    refine WT_take 7 rfl rfl (by kernel_rfl) (hXS _ hI) rfl (fun W hW => have hI := hSx W hW; (by first | exact rLssT rfl rfl rfl (by omega) | exact rLssF rfl rfl rfl (by omega) | exact rLss rfl rfl rfl)) ?_
    refine WT_end (by kernel_rfl) ?_
    refine W_cond false rfl ?_
    refine W_region ?_
    refine WL_val rfl rfl rfl (by first | exact rMoveP rfl rfl | exact rMove rfl) ?_
    refine WL_val rfl rfl rfl (by first | exact rFldN (off := 0) rfl (by kernel_rfl) rfl | exact rFld0 rfl (by kernel_rfl) rfl) ?_
    refine WL_val rfl rfl rfl (by first | exact rLd (v := .int .i64 _) rfl (by kernel_rfl) rfl (by first | exact hI.c0 rfl) | exact rLd rfl (by kernel_rfl) rfl (by first | exact hI.c0 rfl)) ?_
    refine WL_val rfl rfl rfl (by first | exact rFldN (off := 2) rfl (by kernel_rfl) rfl | exact rFld (off := 2) rfl (by kernel_rfl) rfl) ?_
    refine WL_val rfl rfl rfl (rLdA (n := 7) (l := msgL m.m) rfl (by kernel_rfl) (by kernel_rfl) rfl rfl (blk_sub hI.g0 2 [] rfl)) ?_
    refine WL_call rfl rfl rfl (rCall (vs := [.pointer _, .int .i64 _, .agg _]) rfl Try.func23 rfl rfl rfl) ?_
    rw [← hsbe]
    refine (hear_any L1 s1 m.src m.m (by omega) (by omega) (by omega) (by have := hmm.1; omega) ⟨by have := h1.elen; omega, by have := h1.elen; have := h1.slen; omega⟩ (fun hb => ⟨(hcl1.2.2 hb).1, (hcl1.2.2 hb).2.1, (hcl1.2.2 hb).2.2.1⟩) ⟨by have := hcl1.1; omega, by have := hcl1.2.1; omega, by have := hmm.2.2.2.1; omega⟩ (DLs _) _ (hI.fromB (X := [_]))).mono ?_
    rintro en w1 ⟨rfl, MA', mc', EA, ec, SA, sc, cw, hJ, ho, hi⟩
    refine ⟨_, rfl, ?_⟩
    replace hI := hI.callB (X := [_]) hJ
    refine WL_nil ?_
    refine W_seq ?_
    refine W_region ?_
    refine WL_val rfl rfl rfl (by first | exact rAsgnN rfl rfl | exact rAsgnE rfl rfl | exact rAsgn rfl) ?_
    refine WL_nil ?_
    refine W_ret ?_
    exact ret1 4 (.inr rfl) rfl ⟨_, { L1 with MA := MA', mc := mc', EA := EA, ec := ec, SA := SA, sc := sc, cw := cw }, deliverF s j m, rfl, .inr (.inr (.inr ⟨j, m, hm, rfl⟩)), by rw [hdel]; exact h1.hear (by have := hmm.1; omega) hmm.2.2.2.1 ho hi, rfl, hcute, by rw [hdel]; exact hI.d0, hgd⟩
set_option maxHeartbeats 4000000 in
theorem beginM (L : StL) (s : SSt) (M : Nat) (h : SOk L s M) (hM : M ≤ 100000) (S : Nat → Prop) (w0 : World) (hI : Inv S w0 w0 (spt L s)) (c key : Int) (write : Bool) (value : Int) :
    Calls Try.prog 13 #[.pointer (some ⟨L.sb, 0, none⟩), .int .i64 c, .int .i64 key, .bool write, .int .i64 value] w0 fun en w' => ∃ v L' s', en = .returned v ∧ Mv s s' ∧ SOk L' s' (M + 1) ∧ L'.sb = L.sb ∧ L'.cut = L.cut ∧ Inv S w0 w' (spt L' s') ∧ (∀ c' kn : Nat, MayB s c c' → key = (kn : Int) → kn < 8 → -1000000 ≤ value → value ≤ 1000000 → (write = false → value = 0) → v = .nilIface ∧ s' = beginF s c' kn write value) := by
  have hel := h.elen
  refine calls_of_W (N := Try.f13.ntmps) Try.func13 rfl rfl rfl ?_
  refine W_seq ?_
  refine W_region ?_
  refine WL_val rfl rfl rfl (by first | exact rAsgnN rfl rfl | exact rAsgnE rfl rfl | exact rAsgn rfl) ?_
  refine WL_nil ?_
  by_cases hbad : key < 0 ∨ 8 ≤ key ∨ value < -1000000 ∨ 1000000 < value ∨ (write = false ∧ value ≠ 0)
  · refine W_seq ?_
    refine W_seq_cut (fun ρ w => ρ 35 = .bool true ∧ Inv S w0 w (spt L s)) ?_ ?_
    · by_cases h1 : key < 0
      · refine W_region ?_
        refine WL_val rfl rfl rfl (by first | exact rMoveI rfl rfl | exact rMove rfl) ?_
        refine WL_val rfl rfl rfl (by first | exact rLssT rfl rfl rfl (by omega) | exact rLssF rfl rfl rfl (by omega) | exact rLss rfl rfl rfl) ?_
        refine WL_val rfl rfl rfl (by first | exact rMoveB rfl rfl | exact rMove rfl) ?_
        first | refine WL_val rfl rfl rfl (by first | exact rMoveI rfl rfl | exact rMove rfl) ?_ | refine WL_skip rfl rfl rfl ?_
        first | refine WL_val rfl rfl rfl (by first | exact rGeqT rfl rfl rfl (by omega) | exact rGeqF rfl rfl rfl (by omega) | exact rGeq rfl rfl rfl) ?_ | refine WL_skip rfl rfl rfl ?_
        refine WL_val rfl rfl rfl (by first | exact rPickTB rfl rfl rfl | exact rPickFB rfl rfl rfl | exact rPickB rfl rfl rfl rfl) ?_
        refine WL_val rfl rfl rfl (by first | exact rMoveB rfl rfl | exact rMove rfl) ?_
        first | refine WL_val rfl rfl rfl (by first | exact rMoveI rfl rfl | exact rMove rfl) ?_ | refine WL_skip rfl rfl rfl ?_
        first | refine WL_val rfl rfl rfl (by first | exact rLssT rfl rfl rfl (by omega) | exact rLssF rfl rfl rfl (by omega) | exact rLss rfl rfl rfl) ?_ | refine WL_skip rfl rfl rfl ?_
        refine WL_val rfl rfl rfl (by first | exact rPickTB rfl rfl rfl | exact rPickFB rfl rfl rfl | exact rPickB rfl rfl rfl rfl) ?_
        refine WL_val rfl rfl rfl (by first | exact rMoveB rfl rfl | exact rMove rfl) ?_
        first | refine WL_val rfl rfl rfl (by first | exact rMoveI rfl rfl | exact rMove rfl) ?_ | refine WL_skip rfl rfl rfl ?_
        first | refine WL_val rfl rfl rfl (by first | exact rGtrT rfl rfl rfl (by omega) | exact rGtrF rfl rfl rfl (by omega) | exact rGtr rfl rfl rfl) ?_ | refine WL_skip rfl rfl rfl ?_
        refine WL_val rfl rfl rfl (by first | exact rPickTB rfl rfl rfl | exact rPickFB rfl rfl rfl | exact rPickB rfl rfl rfl rfl) ?_
        refine WL_val rfl rfl rfl (by first | exact rMoveB rfl rfl | exact rMove rfl) ?_
        first | refine WL_val rfl rfl rfl (by first | exact rMoveB rfl rfl | exact rMove rfl) ?_ | refine WL_skip rfl rfl rfl ?_
        first | refine WL_val rfl rfl rfl (by first | exact rNotT rfl rfl | exact rNotF rfl rfl | exact rNot rfl rfl) ?_ | refine WL_skip rfl rfl rfl ?_
        first | refine WL_val rfl rfl rfl (by first | exact rMoveB rfl rfl | exact rMove rfl) ?_ | refine WL_skip rfl rfl rfl ?_
        first | refine WL_val rfl rfl rfl (by first | exact rMoveI rfl rfl | exact rMove rfl) ?_ | refine WL_skip rfl rfl rfl ?_
        first | refine WL_val rfl rfl rfl (by first | exact rNeqT rfl rfl rfl (by omega) | exact rNeqF rfl rfl rfl (by omega) | exact rNeq rfl rfl rfl) ?_ | refine WL_skip rfl rfl rfl ?_
        first | refine WL_val rfl rfl rfl (by first | exact rPickTB rfl rfl rfl | exact rPickFB rfl rfl rfl | exact rPickB rfl rfl rfl rfl) ?_ | refine WL_skip rfl rfl rfl ?_
        refine WL_val rfl rfl rfl (by first | exact rPickTB rfl rfl rfl | exact rPickFB rfl rfl rfl | exact rPickB rfl rfl rfl rfl) ?_
        refine WL_nil ?_
        exact ⟨rfl, hI⟩
      by_cases h2 : 8 ≤ key
      · refine W_region ?_
        refine WL_val rfl rfl rfl (by first | exact rMoveI rfl rfl | exact rMove rfl) ?_
        refine WL_val rfl rfl rfl (by first | exact rLssT rfl rfl rfl (by omega) | exact rLssF rfl rfl rfl (by omega) | exact rLss rfl rfl rfl) ?_
        refine WL_val rfl rfl rfl (by first | exact rMoveB rfl rfl | exact rMove rfl) ?_
        first | refine WL_val rfl rfl rfl (by first | exact rMoveI rfl rfl | exact rMove rfl) ?_ | refine WL_skip rfl rfl rfl ?_
        first | refine WL_val rfl rfl rfl (by first | exact rGeqT rfl rfl rfl (by omega) | exact rGeqF rfl rfl rfl (by omega) | exact rGeq rfl rfl rfl) ?_ | refine WL_skip rfl rfl rfl ?_
        refine WL_val rfl rfl rfl (by first | exact rPickTB rfl rfl rfl | exact rPickFB rfl rfl rfl | exact rPickB rfl rfl rfl rfl) ?_
        refine WL_val rfl rfl rfl (by first | exact rMoveB rfl rfl | exact rMove rfl) ?_
        first | refine WL_val rfl rfl rfl (by first | exact rMoveI rfl rfl | exact rMove rfl) ?_ | refine WL_skip rfl rfl rfl ?_
        first | refine WL_val rfl rfl rfl (by first | exact rLssT rfl rfl rfl (by omega) | exact rLssF rfl rfl rfl (by omega) | exact rLss rfl rfl rfl) ?_ | refine WL_skip rfl rfl rfl ?_
        refine WL_val rfl rfl rfl (by first | exact rPickTB rfl rfl rfl | exact rPickFB rfl rfl rfl | exact rPickB rfl rfl rfl rfl) ?_
        refine WL_val rfl rfl rfl (by first | exact rMoveB rfl rfl | exact rMove rfl) ?_
        first | refine WL_val rfl rfl rfl (by first | exact rMoveI rfl rfl | exact rMove rfl) ?_ | refine WL_skip rfl rfl rfl ?_
        first | refine WL_val rfl rfl rfl (by first | exact rGtrT rfl rfl rfl (by omega) | exact rGtrF rfl rfl rfl (by omega) | exact rGtr rfl rfl rfl) ?_ | refine WL_skip rfl rfl rfl ?_
        refine WL_val rfl rfl rfl (by first | exact rPickTB rfl rfl rfl | exact rPickFB rfl rfl rfl | exact rPickB rfl rfl rfl rfl) ?_
        refine WL_val rfl rfl rfl (by first | exact rMoveB rfl rfl | exact rMove rfl) ?_
        first | refine WL_val rfl rfl rfl (by first | exact rMoveB rfl rfl | exact rMove rfl) ?_ | refine WL_skip rfl rfl rfl ?_
        first | refine WL_val rfl rfl rfl (by first | exact rNotT rfl rfl | exact rNotF rfl rfl | exact rNot rfl rfl) ?_ | refine WL_skip rfl rfl rfl ?_
        first | refine WL_val rfl rfl rfl (by first | exact rMoveB rfl rfl | exact rMove rfl) ?_ | refine WL_skip rfl rfl rfl ?_
        first | refine WL_val rfl rfl rfl (by first | exact rMoveI rfl rfl | exact rMove rfl) ?_ | refine WL_skip rfl rfl rfl ?_
        first | refine WL_val rfl rfl rfl (by first | exact rNeqT rfl rfl rfl (by omega) | exact rNeqF rfl rfl rfl (by omega) | exact rNeq rfl rfl rfl) ?_ | refine WL_skip rfl rfl rfl ?_
        first | refine WL_val rfl rfl rfl (by first | exact rPickTB rfl rfl rfl | exact rPickFB rfl rfl rfl | exact rPickB rfl rfl rfl rfl) ?_ | refine WL_skip rfl rfl rfl ?_
        refine WL_val rfl rfl rfl (by first | exact rPickTB rfl rfl rfl | exact rPickFB rfl rfl rfl | exact rPickB rfl rfl rfl rfl) ?_
        refine WL_nil ?_
        exact ⟨rfl, hI⟩
      by_cases h3 : value < -1000000
      · refine W_region ?_
        refine WL_val rfl rfl rfl (by first | exact rMoveI rfl rfl | exact rMove rfl) ?_
        refine WL_val rfl rfl rfl (by first | exact rLssT rfl rfl rfl (by omega) | exact rLssF rfl rfl rfl (by omega) | exact rLss rfl rfl rfl) ?_
        refine WL_val rfl rfl rfl (by first | exact rMoveB rfl rfl | exact rMove rfl) ?_
        first | refine WL_val rfl rfl rfl (by first | exact rMoveI rfl rfl | exact rMove rfl) ?_ | refine WL_skip rfl rfl rfl ?_
        first | refine WL_val rfl rfl rfl (by first | exact rGeqT rfl rfl rfl (by omega) | exact rGeqF rfl rfl rfl (by omega) | exact rGeq rfl rfl rfl) ?_ | refine WL_skip rfl rfl rfl ?_
        refine WL_val rfl rfl rfl (by first | exact rPickTB rfl rfl rfl | exact rPickFB rfl rfl rfl | exact rPickB rfl rfl rfl rfl) ?_
        refine WL_val rfl rfl rfl (by first | exact rMoveB rfl rfl | exact rMove rfl) ?_
        first | refine WL_val rfl rfl rfl (by first | exact rMoveI rfl rfl | exact rMove rfl) ?_ | refine WL_skip rfl rfl rfl ?_
        first | refine WL_val rfl rfl rfl (by first | exact rLssT rfl rfl rfl (by omega) | exact rLssF rfl rfl rfl (by omega) | exact rLss rfl rfl rfl) ?_ | refine WL_skip rfl rfl rfl ?_
        refine WL_val rfl rfl rfl (by first | exact rPickTB rfl rfl rfl | exact rPickFB rfl rfl rfl | exact rPickB rfl rfl rfl rfl) ?_
        refine WL_val rfl rfl rfl (by first | exact rMoveB rfl rfl | exact rMove rfl) ?_
        first | refine WL_val rfl rfl rfl (by first | exact rMoveI rfl rfl | exact rMove rfl) ?_ | refine WL_skip rfl rfl rfl ?_
        first | refine WL_val rfl rfl rfl (by first | exact rGtrT rfl rfl rfl (by omega) | exact rGtrF rfl rfl rfl (by omega) | exact rGtr rfl rfl rfl) ?_ | refine WL_skip rfl rfl rfl ?_
        refine WL_val rfl rfl rfl (by first | exact rPickTB rfl rfl rfl | exact rPickFB rfl rfl rfl | exact rPickB rfl rfl rfl rfl) ?_
        refine WL_val rfl rfl rfl (by first | exact rMoveB rfl rfl | exact rMove rfl) ?_
        first | refine WL_val rfl rfl rfl (by first | exact rMoveB rfl rfl | exact rMove rfl) ?_ | refine WL_skip rfl rfl rfl ?_
        first | refine WL_val rfl rfl rfl (by first | exact rNotT rfl rfl | exact rNotF rfl rfl | exact rNot rfl rfl) ?_ | refine WL_skip rfl rfl rfl ?_
        first | refine WL_val rfl rfl rfl (by first | exact rMoveB rfl rfl | exact rMove rfl) ?_ | refine WL_skip rfl rfl rfl ?_
        first | refine WL_val rfl rfl rfl (by first | exact rMoveI rfl rfl | exact rMove rfl) ?_ | refine WL_skip rfl rfl rfl ?_
        first | refine WL_val rfl rfl rfl (by first | exact rNeqT rfl rfl rfl (by omega) | exact rNeqF rfl rfl rfl (by omega) | exact rNeq rfl rfl rfl) ?_ | refine WL_skip rfl rfl rfl ?_
        first | refine WL_val rfl rfl rfl (by first | exact rPickTB rfl rfl rfl | exact rPickFB rfl rfl rfl | exact rPickB rfl rfl rfl rfl) ?_ | refine WL_skip rfl rfl rfl ?_
        refine WL_val rfl rfl rfl (by first | exact rPickTB rfl rfl rfl | exact rPickFB rfl rfl rfl | exact rPickB rfl rfl rfl rfl) ?_
        refine WL_nil ?_
        exact ⟨rfl, hI⟩
      by_cases h4 : 1000000 < value
      · refine W_region ?_
        refine WL_val rfl rfl rfl (by first | exact rMoveI rfl rfl | exact rMove rfl) ?_
        refine WL_val rfl rfl rfl (by first | exact rLssT rfl rfl rfl (by omega) | exact rLssF rfl rfl rfl (by omega) | exact rLss rfl rfl rfl) ?_
        refine WL_val rfl rfl rfl (by first | exact rMoveB rfl rfl | exact rMove rfl) ?_
        first | refine WL_val rfl rfl rfl (by first | exact rMoveI rfl rfl | exact rMove rfl) ?_ | refine WL_skip rfl rfl rfl ?_
        first | refine WL_val rfl rfl rfl (by first | exact rGeqT rfl rfl rfl (by omega) | exact rGeqF rfl rfl rfl (by omega) | exact rGeq rfl rfl rfl) ?_ | refine WL_skip rfl rfl rfl ?_
        refine WL_val rfl rfl rfl (by first | exact rPickTB rfl rfl rfl | exact rPickFB rfl rfl rfl | exact rPickB rfl rfl rfl rfl) ?_
        refine WL_val rfl rfl rfl (by first | exact rMoveB rfl rfl | exact rMove rfl) ?_
        first | refine WL_val rfl rfl rfl (by first | exact rMoveI rfl rfl | exact rMove rfl) ?_ | refine WL_skip rfl rfl rfl ?_
        first | refine WL_val rfl rfl rfl (by first | exact rLssT rfl rfl rfl (by omega) | exact rLssF rfl rfl rfl (by omega) | exact rLss rfl rfl rfl) ?_ | refine WL_skip rfl rfl rfl ?_
        refine WL_val rfl rfl rfl (by first | exact rPickTB rfl rfl rfl | exact rPickFB rfl rfl rfl | exact rPickB rfl rfl rfl rfl) ?_
        refine WL_val rfl rfl rfl (by first | exact rMoveB rfl rfl | exact rMove rfl) ?_
        first | refine WL_val rfl rfl rfl (by first | exact rMoveI rfl rfl | exact rMove rfl) ?_ | refine WL_skip rfl rfl rfl ?_
        first | refine WL_val rfl rfl rfl (by first | exact rGtrT rfl rfl rfl (by omega) | exact rGtrF rfl rfl rfl (by omega) | exact rGtr rfl rfl rfl) ?_ | refine WL_skip rfl rfl rfl ?_
        refine WL_val rfl rfl rfl (by first | exact rPickTB rfl rfl rfl | exact rPickFB rfl rfl rfl | exact rPickB rfl rfl rfl rfl) ?_
        refine WL_val rfl rfl rfl (by first | exact rMoveB rfl rfl | exact rMove rfl) ?_
        first | refine WL_val rfl rfl rfl (by first | exact rMoveB rfl rfl | exact rMove rfl) ?_ | refine WL_skip rfl rfl rfl ?_
        first | refine WL_val rfl rfl rfl (by first | exact rNotT rfl rfl | exact rNotF rfl rfl | exact rNot rfl rfl) ?_ | refine WL_skip rfl rfl rfl ?_
        first | refine WL_val rfl rfl rfl (by first | exact rMoveB rfl rfl | exact rMove rfl) ?_ | refine WL_skip rfl rfl rfl ?_
        first | refine WL_val rfl rfl rfl (by first | exact rMoveI rfl rfl | exact rMove rfl) ?_ | refine WL_skip rfl rfl rfl ?_
        first | refine WL_val rfl rfl rfl (by first | exact rNeqT rfl rfl rfl (by omega) | exact rNeqF rfl rfl rfl (by omega) | exact rNeq rfl rfl rfl) ?_ | refine WL_skip rfl rfl rfl ?_
        first | refine WL_val rfl rfl rfl (by first | exact rPickTB rfl rfl rfl | exact rPickFB rfl rfl rfl | exact rPickB rfl rfl rfl rfl) ?_ | refine WL_skip rfl rfl rfl ?_
        refine WL_val rfl rfl rfl (by first | exact rPickTB rfl rfl rfl | exact rPickFB rfl rfl rfl | exact rPickB rfl rfl rfl rfl) ?_
        refine WL_nil ?_
        exact ⟨rfl, hI⟩
      obtain ⟨rfl, h5⟩ : write = false ∧ value ≠ 0 := by
        rcases hbad with h | h | h | h | h
        · exact absurd h h1
        · exact absurd h h2
        · exact absurd h h3
        · exact absurd h h4
        · exact h
      refine W_region ?_
      refine WL_val rfl rfl rfl (by first | exact rMoveI rfl rfl | exact rMove rfl) ?_
      refine WL_val rfl rfl rfl (by first | exact rLssT rfl rfl rfl (by omega) | exact rLssF rfl rfl rfl (by omega) | exact rLss rfl rfl rfl) ?_
      refine WL_val rfl rfl rfl (by first | exact rMoveB rfl rfl | exact rMove rfl) ?_
      first | refine WL_val rfl rfl rfl (by first | exact rMoveI rfl rfl | exact rMove rfl) ?_ | refine WL_skip rfl rfl rfl ?_
      first | refine WL_val rfl rfl rfl (by first | exact rGeqT rfl rfl rfl (by omega) | exact rGeqF rfl rfl rfl (by omega) | exact rGeq rfl rfl rfl) ?_ | refine WL_skip rfl rfl rfl ?_
      refine WL_val rfl rfl rfl (by first | exact rPickTB rfl rfl rfl | exact rPickFB rfl rfl rfl | exact rPickB rfl rfl rfl rfl) ?_
      refine WL_val rfl rfl rfl (by first | exact rMoveB rfl rfl | exact rMove rfl) ?_
      first | refine WL_val rfl rfl rfl (by first | exact rMoveI rfl rfl | exact rMove rfl) ?_ | refine WL_skip rfl rfl rfl ?_
      first | refine WL_val rfl rfl rfl (by first | exact rLssT rfl rfl rfl (by omega) | exact rLssF rfl rfl rfl (by omega) | exact rLss rfl rfl rfl) ?_ | refine WL_skip rfl rfl rfl ?_
      refine WL_val rfl rfl rfl (by first | exact rPickTB rfl rfl rfl | exact rPickFB rfl rfl rfl | exact rPickB rfl rfl rfl rfl) ?_
      refine WL_val rfl rfl rfl (by first | exact rMoveB rfl rfl | exact rMove rfl) ?_
      first | refine WL_val rfl rfl rfl (by first | exact rMoveI rfl rfl | exact rMove rfl) ?_ | refine WL_skip rfl rfl rfl ?_
      first | refine WL_val rfl rfl rfl (by first | exact rGtrT rfl rfl rfl (by omega) | exact rGtrF rfl rfl rfl (by omega) | exact rGtr rfl rfl rfl) ?_ | refine WL_skip rfl rfl rfl ?_
      refine WL_val rfl rfl rfl (by first | exact rPickTB rfl rfl rfl | exact rPickFB rfl rfl rfl | exact rPickB rfl rfl rfl rfl) ?_
      refine WL_val rfl rfl rfl (by first | exact rMoveB rfl rfl | exact rMove rfl) ?_
      first | refine WL_val rfl rfl rfl (by first | exact rMoveB rfl rfl | exact rMove rfl) ?_ | refine WL_skip rfl rfl rfl ?_
      first | refine WL_val rfl rfl rfl (by first | exact rNotT rfl rfl | exact rNotF rfl rfl | exact rNot rfl rfl) ?_ | refine WL_skip rfl rfl rfl ?_
      first | refine WL_val rfl rfl rfl (by first | exact rMoveB rfl rfl | exact rMove rfl) ?_ | refine WL_skip rfl rfl rfl ?_
      first | refine WL_val rfl rfl rfl (by first | exact rMoveI rfl rfl | exact rMove rfl) ?_ | refine WL_skip rfl rfl rfl ?_
      first | refine WL_val rfl rfl rfl (by first | exact rNeqT rfl rfl rfl (by omega) | exact rNeqF rfl rfl rfl (by omega) | exact rNeq rfl rfl rfl) ?_ | refine WL_skip rfl rfl rfl ?_
      first | refine WL_val rfl rfl rfl (by first | exact rPickTB rfl rfl rfl | exact rPickFB rfl rfl rfl | exact rPickB rfl rfl rfl rfl) ?_ | refine WL_skip rfl rfl rfl ?_
      refine WL_val rfl rfl rfl (by first | exact rPickTB rfl rfl rfl | exact rPickFB rfl rfl rfl | exact rPickB rfl rfl rfl rfl) ?_
      refine WL_nil ?_
      exact ⟨rfl, hI⟩
    · clear hI
      rintro ρ w ⟨h35, hI⟩
      refine W_cond true h35 ?_
      refine W_seq ?_
      refine W_region ?_
      refine WL_val rfl rfl rfl (rIface rfl Try.underlying46 rfl rfl) ?_
      refine WL_val rfl rfl rfl (by first | exact rAsgnN rfl rfl | exact rAsgnE rfl rfl | exact rAsgn rfl) ?_
      refine WL_nil ?_
      refine W_ret ?_
      exact ret1 10 (.inr rfl) rfl ⟨_, L, s, rfl, Mv.refl _, h.mono (by omega), rfl, rfl, hI, fun c' kn _ h1 h2 h3 h4 h5 => absurd hbad (fun hb => by
        rcases hb with h | h | h | h | h
        · omega
        · omega
        · omega
        · omega
        · exact h.2 (h5 h.1))⟩
  have hg1 : 0 ≤ key ∧ key < 8 ∧ -1000000 ≤ value ∧ value ≤ 1000000 := by omega
  refine W_seq_cut (fun ρ w => Has ρ [(0, .pointer (some ⟨L.sb, 0, none⟩)), (1, .int .i64 c), (2, .int .i64 key), (3, .bool write), (4, .int .i64 value)] ∧ Inv S w0 w (spt L s)) ?_ ?_
  · cases write with
    | true =>
      refine W_seq ?_
      refine W_region ?_
      refine WL_val rfl rfl rfl (by first | exact rMoveI rfl rfl | exact rMove rfl) ?_
      refine WL_val rfl rfl rfl (by first | exact rLssT rfl rfl rfl (by omega) | exact rLssF rfl rfl rfl (by omega) | exact rLss rfl rfl rfl) ?_
      refine WL_val rfl rfl rfl (by first | exact rMoveB rfl rfl | exact rMove rfl) ?_
      first | refine WL_val rfl rfl rfl (by first | exact rMoveI rfl rfl | exact rMove rfl) ?_ | refine WL_skip rfl rfl rfl ?_
      first | refine WL_val rfl rfl rfl (by first | exact rGeqT rfl rfl rfl (by omega) | exact rGeqF rfl rfl rfl (by omega) | exact rGeq rfl rfl rfl) ?_ | refine WL_skip rfl rfl rfl ?_
      refine WL_val rfl rfl rfl (by first | exact rPickTB rfl rfl rfl | exact rPickFB rfl rfl rfl | exact rPickB rfl rfl rfl rfl) ?_
      refine WL_val rfl rfl rfl (by first | exact rMoveB rfl rfl | exact rMove rfl) ?_
      first | refine WL_val rfl rfl rfl (by first | exact rMoveI rfl rfl | exact rMove rfl) ?_ | refine WL_skip rfl rfl rfl ?_
      first | refine WL_val rfl rfl rfl (by first | exact rLssT rfl rfl rfl (by omega) | exact rLssF rfl rfl rfl (by omega) | exact rLss rfl rfl rfl) ?_ | refine WL_skip rfl rfl rfl ?_
      refine WL_val rfl rfl rfl (by first | exact rPickTB rfl rfl rfl | exact rPickFB rfl rfl rfl | exact rPickB rfl rfl rfl rfl) ?_
      refine WL_val rfl rfl rfl (by first | exact rMoveB rfl rfl | exact rMove rfl) ?_
      first | refine WL_val rfl rfl rfl (by first | exact rMoveI rfl rfl | exact rMove rfl) ?_ | refine WL_skip rfl rfl rfl ?_
      first | refine WL_val rfl rfl rfl (by first | exact rGtrT rfl rfl rfl (by omega) | exact rGtrF rfl rfl rfl (by omega) | exact rGtr rfl rfl rfl) ?_ | refine WL_skip rfl rfl rfl ?_
      refine WL_val rfl rfl rfl (by first | exact rPickTB rfl rfl rfl | exact rPickFB rfl rfl rfl | exact rPickB rfl rfl rfl rfl) ?_
      refine WL_val rfl rfl rfl (by first | exact rMoveB rfl rfl | exact rMove rfl) ?_
      first | refine WL_val rfl rfl rfl (by first | exact rMoveB rfl rfl | exact rMove rfl) ?_ | refine WL_skip rfl rfl rfl ?_
      first | refine WL_val rfl rfl rfl (by first | exact rNotT rfl rfl | exact rNotF rfl rfl | exact rNot rfl rfl) ?_ | refine WL_skip rfl rfl rfl ?_
      first | refine WL_val rfl rfl rfl (by first | exact rMoveB rfl rfl | exact rMove rfl) ?_ | refine WL_skip rfl rfl rfl ?_
      first | refine WL_val rfl rfl rfl (by first | exact rMoveI rfl rfl | exact rMove rfl) ?_ | refine WL_skip rfl rfl rfl ?_
      first | refine WL_val rfl rfl rfl (by first | exact rNeqT rfl rfl rfl (by omega) | exact rNeqF rfl rfl rfl (by omega) | exact rNeq rfl rfl rfl) ?_ | refine WL_skip rfl rfl rfl ?_
      first | refine WL_val rfl rfl rfl (by first | exact rPickTB rfl rfl rfl | exact rPickFB rfl rfl rfl | exact rPickB rfl rfl rfl rfl) ?_ | refine WL_skip rfl rfl rfl ?_
      refine WL_val rfl rfl rfl (by first | exact rPickTB rfl rfl rfl | exact rPickFB rfl rfl rfl | exact rPickB rfl rfl rfl rfl) ?_
      refine WL_nil ?_
      refine W_cond false rfl ?_
      refine W_skip ?_
      exact ⟨⟨rfl, rfl, rfl, rfl, rfl, trivial⟩, hI⟩
    | false =>
      have h0 : value = 0 := Classical.byContradiction fun hv => hbad (.inr (.inr (.inr (.inr ⟨rfl, hv⟩))))
      refine W_seq ?_
      refine W_region ?_
      refine WL_val rfl rfl rfl (by first | exact rMoveI rfl rfl | exact rMove rfl) ?_
      refine WL_val rfl rfl rfl (by first | exact rLssT rfl rfl rfl (by omega) | exact rLssF rfl rfl rfl (by omega) | exact rLss rfl rfl rfl) ?_
      refine WL_val rfl rfl rfl (by first | exact rMoveB rfl rfl | exact rMove rfl) ?_
      first | refine WL_val rfl rfl rfl (by first | exact rMoveI rfl rfl | exact rMove rfl) ?_ | refine WL_skip rfl rfl rfl ?_
      first | refine WL_val rfl rfl rfl (by first | exact rGeqT rfl rfl rfl (by omega) | exact rGeqF rfl rfl rfl (by omega) | exact rGeq rfl rfl rfl) ?_ | refine WL_skip rfl rfl rfl ?_
      refine WL_val rfl rfl rfl (by first | exact rPickTB rfl rfl rfl | exact rPickFB rfl rfl rfl | exact rPickB rfl rfl rfl rfl) ?_
      refine WL_val rfl rfl rfl (by first | exact rMoveB rfl rfl | exact rMove rfl) ?_
      first | refine WL_val rfl rfl rfl (by first | exact rMoveI rfl rfl | exact rMove rfl) ?_ | refine WL_skip rfl rfl rfl ?_
      first | refine WL_val rfl rfl rfl (by first | exact rLssT rfl rfl rfl (by omega) | exact rLssF rfl rfl rfl (by omega) | exact rLss rfl rfl rfl) ?_ | refine WL_skip rfl rfl rfl ?_
      refine WL_val rfl rfl rfl (by first | exact rPickTB rfl rfl rfl | exact rPickFB rfl rfl rfl | exact rPickB rfl rfl rfl rfl) ?_
      refine WL_val rfl rfl rfl (by first | exact rMoveB rfl rfl | exact rMove rfl) ?_
      first | refine WL_val rfl rfl rfl (by first | exact rMoveI rfl rfl | exact rMove rfl) ?_ | refine WL_skip rfl rfl rfl ?_
      first | refine WL_val rfl rfl rfl (by first | exact rGtrT rfl rfl rfl (by omega) | exact rGtrF rfl rfl rfl (by omega) | exact rGtr rfl rfl rfl) ?_ | refine WL_skip rfl rfl rfl ?_
      refine WL_val rfl rfl rfl (by first | exact rPickTB rfl rfl rfl | exact rPickFB rfl rfl rfl | exact rPickB rfl rfl rfl rfl) ?_
      refine WL_val rfl rfl rfl (by first | exact rMoveB rfl rfl | exact rMove rfl) ?_
      first | refine WL_val rfl rfl rfl (by first | exact rMoveB rfl rfl | exact rMove rfl) ?_ | refine WL_skip rfl rfl rfl ?_
      first | refine WL_val rfl rfl rfl (by first | exact rNotT rfl rfl | exact rNotF rfl rfl | exact rNot rfl rfl) ?_ | refine WL_skip rfl rfl rfl ?_
      first | refine WL_val rfl rfl rfl (by first | exact rMoveB rfl rfl | exact rMove rfl) ?_ | refine WL_skip rfl rfl rfl ?_
      first | refine WL_val rfl rfl rfl (by first | exact rMoveI rfl rfl | exact rMove rfl) ?_ | refine WL_skip rfl rfl rfl ?_
      first | refine WL_val rfl rfl rfl (by first | exact rNeqT rfl rfl rfl (by omega) | exact rNeqF rfl rfl rfl (by omega) | exact rNeq rfl rfl rfl) ?_ | refine WL_skip rfl rfl rfl ?_
      first | refine WL_val rfl rfl rfl (by first | exact rPickTB rfl rfl rfl | exact rPickFB rfl rfl rfl | exact rPickB rfl rfl rfl rfl) ?_ | refine WL_skip rfl rfl rfl ?_
      refine WL_val rfl rfl rfl (by first | exact rPickTB rfl rfl rfl | exact rPickFB rfl rfl rfl | exact rPickB rfl rfl rfl rfl) ?_
      refine WL_nil ?_
      refine W_cond false rfl ?_
      refine W_skip ?_
      exact ⟨⟨rfl, rfl, rfl, rfl, rfl, trivial⟩, hI⟩
  clear hI
  rintro ρ w ⟨hH, hI⟩
  obtain ⟨σ, rfl⟩ := hH.open
  obtain ⟨kn, rfl⟩ : ∃ kn : Nat, key = (kn : Int) := ⟨key.toNat, by omega⟩
  have hkn : kn < 8 := by omega
  refine W_seq ?_
  refine W_seq ?_
  refine W_region ?_
  refine WL_val rfl rfl rfl (by first | exact rMoveP rfl rfl | exact rMove rfl) ?_
  refine WL_val rfl rfl rfl (by first | exact rMoveI rfl rfl | exact rMove rfl) ?_
  refine WL_call rfl rfl rfl (rCall (vs := [.pointer _, .int .i64 _]) rfl Try.func18 rfl rfl rfl) ?_
  refine (free_any L s c h.k1.2 (by omega) (DLs _) _ (hI.fromB (X := []))).mono ?_
  rintro en w1 ⟨hcase, hJ⟩
  obtain ⟨v, rfl, hv⟩ : ∃ v, en = .returned v ∧ ((v = .nilIface ∧ ∃ c', MayB s c c') ∨ ((∃ n, v = .iface 46 (.int .i64 n)) ∧ ∀ c', ¬ MayB s c c')) := by
    rcases hcase with ⟨rfl, hm⟩ | ⟨⟨n, rfl⟩, hno⟩
    · exact ⟨_, rfl, .inl ⟨rfl, hm⟩⟩
    · exact ⟨_, rfl, .inr ⟨⟨n, rfl⟩, hno⟩⟩
  refine ⟨_, rfl, ?_⟩
  replace hI := hI.callB (X := []) hJ
  refine WL_val rfl rfl rfl (by first | exact rAsgnN rfl rfl | exact rAsgnE rfl rfl | exact rAsgn rfl) ?_
  refine WL_nil ?_
  rcases hv with ⟨rfl, c', hmb⟩ | ⟨⟨n, rfl⟩, hno⟩
  rotate_left
  · refine W_seq ?_
    refine W_region ?_
    refine WL_val rfl rfl rfl (by first | exact rMoveN rfl rfl | exact rMoveE rfl rfl | exact rMove rfl) ?_
    refine WL_val rfl rfl rfl (by first | exact rIfaceNe rfl Try.underlying27 rfl rfl | exact rNilNe rfl Try.underlying27 rfl) ?_
    refine WL_nil ?_
    refine W_cond true rfl ?_
    refine W_seq ?_
    refine W_region ?_
    refine WL_val rfl rfl rfl (by first | exact rMoveN rfl rfl | exact rMoveE rfl rfl | exact rMove rfl) ?_
    refine WL_val rfl rfl rfl (by first | exact rAsgnN rfl rfl | exact rAsgnE rfl rfl | exact rAsgn rfl) ?_
    refine WL_nil ?_
    refine W_ret ?_
    exact ret1 10 (.inr rfl) rfl ⟨_, L, s, rfl, Mv.refl _, h.mono (by omega), rfl, rfl, hI, fun c' _ hm => absurd hm (hno c')⟩
  obtain ⟨rfl, hc, hb, hgn, hroom⟩ := hmb
  have hcx := h.cok c' hc
  refine W_seq ?_
  refine W_region ?_
  refine WL_val rfl rfl rfl (by first | exact rMoveN rfl rfl | exact rMoveE rfl rfl | exact rMove rfl) ?_
  refine WL_val rfl rfl rfl (by first | exact rIfaceNe rfl Try.underlying27 rfl rfl | exact rNilNe rfl Try.underlying27 rfl) ?_
  refine WL_nil ?_
  refine W_cond false rfl ?_
  refine W_skip ?_
  refine W_seq ?_
  refine W_region ?_
  refine WL_val rfl rfl rfl (by first | exact rMoveI rfl rfl | exact rMove rfl) ?_
  refine WL_val rfl rfl rfl (by first | exact rMoveI rfl rfl | exact rMove rfl) ?_
  refine WL_val rfl rfl rfl (rBuild (qs := [(0, .int .i64 _), (1, .int .i64 _), (2, .int .i64 _), (3, .int .i64 _)]) (vs := [_, _, _, _, _, _, _]) [.int .i64 0, .int .i64 0, .int .i64 0, .int .i64 0, .int .i64 0, .int .i64 0, .int .i64 0] [0, 1, 2, 3] rfl rfl rfl (fun _ => by kernel_rfl)) ?_
  refine WL_alloc (u := .agg #[.int .i64 0, .int .i64 0, .int .i64 0, .int .i64 0, .int .i64 0, .int .i64 0, .int .i64 0]) (vs := #[.int .i64 0, .int .i64 0, .int .i64 0, .int .i64 0, .int .i64 0, .int .i64 0, .int .i64 0]) hI rfl rfl rfl rfl (by kernel_rfl) rfl ?_
  clear hI; rintro b12 w - - hI
  first | refine WL_stw0 (u := .agg _) (vs := #[_, _, _, _, _, _, _]) (n := 7) hI rfl rfl rfl rfl rfl rfl (by kernel_rfl) rfl rfl rfl ?_ | refine WL_stw1 (u := .agg _) (vs := #[_, _, _, _, _, _, _]) (n := 7) hI rfl rfl rfl rfl rfl rfl (by kernel_rfl) rfl rfl rfl ?_ | refine WL_stw2 (u := .agg _) (vs := #[_, _, _, _, _, _, _]) (n := 7) hI rfl rfl rfl rfl rfl rfl (by kernel_rfl) rfl rfl rfl ?_ | refine WL_stw3 (u := .agg _) (vs := #[_, _, _, _, _, _, _]) (n := 7) hI rfl rfl rfl rfl rfl rfl (by kernel_rfl) rfl rfl rfl ?_ | refine WL_stw4 (u := .agg _) (vs := #[_, _, _, _, _, _, _]) (n := 7) hI rfl rfl rfl rfl rfl rfl (by kernel_rfl) rfl rfl rfl ?_ | refine WL_stw5 (u := .agg _) (vs := #[_, _, _, _, _, _, _]) (n := 7) hI rfl rfl rfl rfl rfl rfl (by kernel_rfl) rfl rfl rfl ?_
  clear hI; intro w hI
  refine WL_nil ?_
  refine W_seq_cut (fun ρ w => Has ρ [(12, .pointer (some ⟨b12, 0, none⟩)), (0, .pointer (some ⟨L.sb, 0, none⟩)), (1, .int .i64 (c' : Int))] ∧ Inv S w0 w ([B b12 37 (evL (evB c' kn write value)).toArray] ++ spt L s)) ?_ ?_
  · cases write with
    | true =>
      refine W_seq ?_
      refine W_region ?_
      refine WL_val rfl rfl rfl (by first | exact rMoveB rfl rfl | exact rMove rfl) ?_
      refine WL_nil ?_
      refine W_cond true rfl ?_
      refine W_region ?_
      refine WL_val rfl rfl rfl (by first | exact rMoveI rfl rfl | exact rMove rfl) ?_
      refine WL_val rfl rfl rfl (by first | exact rFldN (off := 3) rfl (by kernel_rfl) rfl | exact rFld (off := 3) rfl (by kernel_rfl) rfl) ?_
      first | refine WL_stw0 (u := .int .i64 _) (vs := #[_]) (n := 1) hI rfl rfl rfl rfl rfl rfl (by kernel_rfl) rfl rfl rfl ?_ | refine WL_st0 (u := .int .i64 _) hI rfl rfl rfl rfl rfl rfl (by kernel_rfl) rfl rfl rfl ?_
      clear hI; intro w hI
      refine WL_val rfl rfl rfl (by first | exact rFldN (off := 4) rfl (by kernel_rfl) rfl | exact rFld (off := 4) rfl (by kernel_rfl) rfl) ?_
      first | refine WL_stw0 (u := .int .i64 _) (vs := #[_]) (n := 1) hI rfl rfl rfl rfl rfl rfl (by kernel_rfl) rfl rfl rfl ?_ | refine WL_st0 (u := .int .i64 _) hI rfl rfl rfl rfl rfl rfl (by kernel_rfl) rfl rfl rfl ?_
      clear hI; intro w hI
      refine WL_nil ?_
      exact ⟨⟨rfl, rfl, rfl, trivial⟩, hI⟩
    | false =>
      refine W_seq ?_
      refine W_region ?_
      refine WL_val rfl rfl rfl (by first | exact rMoveB rfl rfl | exact rMove rfl) ?_
      refine WL_nil ?_
      refine W_cond false rfl ?_
      refine W_skip ?_
      exact ⟨⟨rfl, rfl, rfl, trivial⟩, hI⟩
  clear hI
  rintro ρ w ⟨hH, hI⟩
  obtain ⟨σ, rfl⟩ := hH.open
  obtain ⟨ev, hev⟩ : ∃ ev, evB c' kn write value = ev := ⟨_, rfl⟩
  rw [hev] at hI
  refine W_seq ?_
  refine W_region ?_
  refine WL_val rfl rfl rfl (by first | exact rMoveP rfl rfl | exact rMove rfl) ?_
  refine WL_val rfl rfl rfl (rLdA (n := 7) (l := evL ev) rfl (by kernel_rfl) (by kernel_rfl) rfl rfl (fun k u hk => hI.cell 0 rfl (by rw [Nat.zero_add, List.getElem?_toArray]; exact hk))) ?_
  refine WL_val rfl rfl rfl (rBuild (qs := []) (vs := [.int .i64 0, .int .i64 0]) [.int .i64 0, .int .i64 0] [] rfl rfl rfl (fun _ => by kernel_rfl)) ?_
  refine WL_call rfl rfl rfl (rCall (vs := [.pointer _, .agg _, .agg _]) rfl Try.func19 rfl rfl rfl) ?_
  refine (see_any L s ev ⟨0, 0, 0⟩ (DLs _) _ (hI.fromB (X := [_])) ⟨by omega, by have := h.slen; omega⟩).mono ?_
  rintro en w1 ⟨rfl, EA, ec, SA, sc, hJ⟩
  refine ⟨_, rfl, ?_⟩
  replace hI := hI.callB (X := [_]) hJ
  refine WL_nil ?_
  obtain ⟨s1, hs1⟩ : ∃ s1, obsF s ev ⟨0, 0, 0⟩ = s1 := ⟨_, rfl⟩
  obtain ⟨L1, hL1⟩ : ∃ L1 : StL, { L with EA := EA, ec := ec, SA := SA, sc := sc } = L1 := ⟨_, rfl⟩
  have hk1 : s1.k = s.k := by rw [← hs1]; rfl
  have hn1 : s1.n = s.n := by rw [← hs1]; rfl
  have hcb1 : L1.cb = L.cb := by rw [← hL1]
  have hsb1 : L1.sb = L.sb := by rw [← hL1]
  have hcl1 : s1.cl = s.cl := by rw [← hs1]; rfl
  have hc1 : c' < s1.k := by omega
  rw [hs1, hL1] at hI
  have h6 : ∀ w, Inv S w0 w ([B b12 37 (evL ev).toArray] ++ spt L1 s1) → w.cell? ⟨L.sb, 6, none⟩ = some (.slice (some ⟨L1.cb, 0, none⟩) s1.k s1.k) := fun w hI => by rw [← hsb1]; exact sp_c6 hI
  refine W_seq ?_
  refine W_region ?_
  refine WL_val rfl rfl rfl (by first | exact rMoveP rfl rfl | exact rMove rfl) ?_
  refine WL_val rfl rfl rfl (rNilChk rfl rfl) ?_
  refine WL_val rfl rfl rfl (by first | exact rFldN (off := 6) rfl (by kernel_rfl) rfl | exact rFld (off := 6) rfl (by kernel_rfl) rfl) ?_
  refine WL_val rfl rfl rfl (by first | exact rLd (v := .slice _ _ _) rfl (by kernel_rfl) rfl (by first | exact (h6 _ hI)) | exact rLd rfl (by kernel_rfl) rfl (by first | exact (h6 _ hI))) ?_
  refine WL_val rfl rfl rfl (by first | exact rMoveI rfl rfl | exact rMove rfl) ?_
  refine WL_val rfl rfl rfl (rIdx (sz := 15) rfl Try.underlying52 (by kernel_rfl) rfl rfl (by omega)) ?_
  refine WL_val rfl rfl rfl (by first | exact rAsgnP rfl rfl | exact rAsgn rfl) ?_
  refine WL_nil ?_
  unfold spt at hI
  rw [← clX_start (c := c')] at hI
  refine W_seq ?_
  refine W_draw (by kernel_rfl) ?_
  refine WA_inv (T := []) hI.d3.drew ?_
  intro Sx hSx hXS
  replace hI := hI.drew
  refine WT_take 0 rfl rfl (by kernel_rfl) (hXS _ hI.d3) rfl (fun W hW => have hI := hSx W hW; (by first | exact rMoveP rfl rfl | exact rMove rfl)) ?_
  refine WT_take 1 rfl rfl (by kernel_rfl) (hXS _ hI.d3) rfl (fun W hW => have hI := hSx W hW; (by first | exact rMoveP rfl rfl | exact rMove rfl)) ?_
  refine WT_take 2 rfl rfl (by kernel_rfl) (hXS _ hI.d3) rfl (fun W hW => have hI := hSx W hW; (by first | exact rMoveP rfl rfl | exact rMove rfl)) ?_
  refine WT_take 3 rfl rfl (by kernel_rfl) (hXS _ hI.d3) rfl (fun W hW => have hI := hSx W hW; (rLdA (n := 7) (l := evL ev) rfl (by kernel_rfl) (by kernel_rfl) rfl rfl (fun k u hk => hI.cell 0 rfl (by rw [Nat.zero_add, List.getElem?_toArray]; exact hk)))) ?_
  refine WT_take 4 rfl rfl (by kernel_rfl) (hXS _ hI.d3) rfl (fun W hW => have hI := hSx W hW; (rBuild (qs := [(1, .int .i64 _)]) (vs := [_, _]) [.int .i64 0, .int .i64 0] [1] rfl rfl rfl (fun _ => by kernel_rfl))) ?_
  refine WT_take 5 rfl rfl (by kernel_rfl) (hXS _ hI.d3) rfl (fun W hW => have hI := hSx W hW; (rBuild (qs := [(0, .agg #[_, _])]) (vs := [_, _, _]) [.int .i64 0, .int .i64 0, .int .i64 0] [0] rfl rfl rfl (fun _ => by kernel_rfl))) ?_
  refine WT_take 6 rfl rfl (by kernel_rfl) (hXS _ hI.d3) rfl (fun W hW => have hI := hSx W hW; (rNilChk rfl rfl)) ?_
  refine WT_take 7 rfl rfl (by kernel_rfl) (hXS _ hI.d3) rfl (fun W hW => have hI := hSx W hW; (by first | exact rFldN (off := 0) rfl (by kernel_rfl) rfl | exact rFld0 rfl (by kernel_rfl) rfl)) ?_
  refine WT_one 8 rfl (by kernel_rfl) rfl ?_
  refine WL_st 3 rfl (u := .bool true) (j := 0 + c' * 15) hI rfl rfl rfl rfl rfl rfl (by kernel_rfl) rfl (clX_blt0 hc1) (clX_set0 (x := s1.cl c') (cv := cntV L1 s1 c') (cv' := cntV L1 s1 c') (x' := { s1.cl c' with busy := true }) hc1 rfl) ?_
  clear hI; intro w hI
  refine WL_nil ⟨hXS _ hI.d3, ?_⟩
  refine WT_take 9 rfl rfl (by kernel_rfl) (hXS _ hI.d3) rfl (fun W hW => have hI := hSx W hW; (rNilChk rfl rfl)) ?_
  refine WT_take 10 rfl rfl (by kernel_rfl) (hXS _ hI.d3) rfl (fun W hW => have hI := hSx W hW; (by first | exact rFldN (off := 2) rfl (by kernel_rfl) rfl | exact rFld (off := 2) rfl (by kernel_rfl) rfl)) ?_
  refine WT_one 11 rfl (by kernel_rfl) rfl ?_
  refine WL_stA 3 rfl (u := .agg (evL ev).toArray) (vs := (evL ev).toArray) (n := 7) (j := 0 + c' * 15 + 2) hI rfl rfl rfl rfl rfl rfl (by kernel_rfl) rfl (by have := clX_lt (L := L1) (s := s1) (x := { s1.cl c' with busy := true }) (cv := cntV L1 s1 c') hc1 (j := 14) (by omega); omega) rfl (clX_sp (x := { s1.cl c' with busy := true }) (cv := cntV L1 s1 c') (cv' := cntV L1 s1 c') (x' := { s1.cl c' with busy := true, began := ev }) hc1 2 (by simp [evL]) rfl) ?_
  clear hI; intro w hI
  refine WL_nil ⟨hXS _ hI.d3, ?_⟩
  refine WT_take 12 rfl rfl (by kernel_rfl) (hXS _ hI.d3) rfl (fun W hW => have hI := hSx W hW; (rNilChk rfl rfl)) ?_
  refine WT_take 13 rfl rfl (by kernel_rfl) (hXS _ hI.d3) rfl (fun W hW => have hI := hSx W hW; (by first | exact rFldN (off := 12) rfl (by kernel_rfl) rfl | exact rFld (off := 12) rfl (by kernel_rfl) rfl)) ?_
  refine WT_one 14 rfl (by kernel_rfl) rfl ?_
  refine WL_stA 3 rfl (u := .agg (entL ⟨0, -2, 0⟩).toArray) (vs := (entL ⟨0, -2, 0⟩).toArray) (n := 3) (j := 0 + c' * 15 + 12) hI rfl rfl rfl rfl rfl rfl (by kernel_rfl) rfl (by have := clX_lt (L := L1) (s := s1) (x := { s1.cl c' with busy := true, began := ev }) (cv := cntV L1 s1 c') hc1 (j := 14) (by omega); omega) rfl (clX_sp (x := { s1.cl c' with busy := true, began := ev }) (cv := cntV L1 s1 c') (cv' := cntV L1 s1 c') (x' := { s1.cl c' with busy := true, began := ev, best := ⟨0, -2, 0⟩ }) hc1 12 (by simp [entL]) rfl) ?_
  clear hI; intro w hI
  refine WL_nil ⟨hXS _ hI.d3, ?_⟩
  refine WT_end (by kernel_rfl) ?_
  replace hI := cl_back (X := [B b12 37 (evL ev).toArray]) (L := L1) (s := s1) (x' := { s1.cl c' with busy := true, began := ev, best := ⟨0, -2, 0⟩ }) hc1 rfl hI
  obtain ⟨s2, hs2⟩ : ∃ s2, setCl s1 c' { s1.cl c' with busy := true, began := ev, best := ⟨0, -2, 0⟩ } = s2 := ⟨_, rfl⟩
  rw [hs2] at hI
  have hk2 : s2.k = s.k := by rw [← hs2]; exact hk1
  have hn2 : s2.n = s.n := by rw [← hs2]; exact hn1
  have hx2 : s2.cl c' = { s1.cl c' with busy := true, began := ev, best := ⟨0, -2, 0⟩ } := by rw [← hs2, setCl_self]
  have hbeg : beginF s c' kn write value = sendF s2 c' 1 ⟨0, 0, 0⟩ := by rw [← hs2, ← hs1, ← hev]; rfl
  have hn := h.n1
  have hk8 := h.k1
  refine W_seq ?_
  refine W_region ?_
  refine WL_val rfl rfl rfl (by first | exact rMoveP rfl rfl | exact rMove rfl) ?_
  refine WL_val rfl rfl rfl (by first | exact rMoveI rfl rfl | exact rMove rfl) ?_
  refine WL_val rfl rfl rfl (rBuild (qs := []) (vs := [.int .i64 0, .int .i64 0, .int .i64 0]) [.int .i64 0, .int .i64 0, .int .i64 0] [] rfl rfl rfl (fun _ => by kernel_rfl)) ?_
  refine WL_call rfl rfl rfl (rCall (vs := [.pointer _, .int .i64 _, .int .i64 _, .agg _]) rfl Try.func20 rfl rfl rfl) ?_
  rw [← hsb1]
  refine (ssend_any L1 s2 c' 1 ⟨0, 0, 0⟩ (by omega) (by omega) (by omega) (by rw [hx2]; show (s1.cl c').round ≤ 1000000; rw [hcl1]; have := hcx.1; omega) (by rw [hx2, ← hev]; show (0 : Int) ≤ (kn : Int); omega) (DLs _) _ (hI.fromB (X := [_]))).mono ?_
  rintro en w1 ⟨rfl, b', MA, mc, hJ⟩
  refine ⟨_, rfl, ?_⟩
  replace hI := hI.callB (X := [_]) hJ
  refine WL_nil ?_
  refine W_seq ?_
  refine W_region ?_
  refine WL_val rfl rfl rfl (by first | exact rAsgnN rfl rfl | exact rAsgnE rfl rfl | exact rAsgn rfl) ?_
  refine WL_nil ?_
  refine W_ret ?_
  refine ret1 10 (.inr rfl) rfl ⟨_, { L1 with cw := fun i => if i = c' then some b' else L1.cw i, MA := MA, mc := mc }, beginF s c' kn write value, rfl, .inr (.inl ⟨c', kn, write, value, hc, hb, hgn, hkn, ⟨hg1.2.2.1, hg1.2.2.2⟩, rfl⟩), ?_, rfl, by rw [← hL1], by rw [hbeg]; exact hI.d0, fun c2 k2 hm2 hk2 _ _ _ _ => by
    obtain rfl : c' = c2 := by have := hm2.eq; omega
    obtain rfl : kn = k2 := by omega
    exact ⟨rfl, rfl⟩⟩
  exact (h.loc (L' := L1) (by rw [← hL1])).begin hc hb hroom hkn (by show (if c' = c' then some b' else L1.cw c') ≠ none; rw [if_pos rfl]; exact fun h => by cases h) (fun i hi => if_neg hi)
end Go.Proofs.Ytglioflpblpmpaa
