/- PkI: StoI, StoJ, StoK, StoL, merged. -/
import Derived.Test.YtglioflpblpmpaaGreatDoorPkH
namespace Go.Proofs.YtglioflpblpmpaaGreatDoor
open Go.RowKit
set_option linter.unusedVariables false
set_option linter.unusedSimpArgs false
/-- A move of a store. -/
def Mv (s s' : StS) : Prop :=
  (∃ ms : List SMail, (∀ m ∈ ms, m ∈ s.mails) ∧ s' = { s with mails := ms }) ∨
  (∃ (c key : Nat) (write : Bool) (value : Int), c < s.k ∧ (s.cl c).busy = false ∧ (s.cl c).gone = false ∧ key < 8 ∧ (-1000000 ≤ value ∧ value ≤ 1000000) ∧ s' = begS s c key write value) ∨
  (∃ c, c < s.k ∧ (s.cl c).busy = true ∧ s' = giveF s c) ∨
  (∃ (j : Nat) (m : SMail), s.mails[j]? = some m ∧ s' = deliverF s j m)
theorem Mv.refl (s : StS) : Mv s s := .inl ⟨s.mails, fun _ h => h, rfl⟩
def MvPost (L : StL) (s : StS) (M : Nat) (S : Nat → Prop) (w0 : World) (en : Ending) (w' : World) : Prop :=
  (∃ v, en = .returned v) ∧ ∃ L' s', Mv s s' ∧ SOk L' s' (M + 1) ∧ L'.sb = L.sb ∧ Inv S w0 w' (spt L' s')
theorem giveupM (L : StL) (s : StS) (M : Nat) (h : SOk L s M) (S : Nat → Prop) (w0 : World) (hI : Inv S w0 w0 (spt L s)) (c : Int) : Calls Tryz.prog 30 #[.pointer (some ⟨L.sb, 0, none⟩), .int .i64 c] w0 (MvPost L s M S w0) := by
  refine (giveup_any L s c h.k1.2 ⟨by have := h.elen; omega, by have := h.elen; have := h.slen; omega⟩ S w0 hI).mono ?_
  rintro e w' ⟨hv, EA, ec, SA, sc, s', hs, hJ⟩
  refine ⟨hv, { L with EA := EA, ec := ec, SA := SA, sc := sc }, s', ?_, ?_, rfl, hJ⟩
  · rcases hs with rfl | ⟨c', h1, h2, rfl⟩
    · exact Mv.refl _
    · exact .inr (.inr (.inl ⟨c', h1, h2, rfl⟩))
  · rcases hs with rfl | ⟨c', h1, h2, rfl⟩
    · exact (h.loc (L' := { L with EA := EA, ec := ec, SA := SA, sc := sc }) rfl).mono (by omega)
    · exact (h.give (L' := { L with EA := EA, ec := ec, SA := SA, sc := sc }) h1 h2 rfl).mono (by omega)
set_option maxHeartbeats 1000000 in
theorem dropM (L : StL) (s : StS) (M : Nat) (h : SOk L s M) (S : Nat → Prop) (w0 : World) (hI : Inv S w0 w0 (spt L s)) (i : Int) : Calls Tryz.prog 28 #[.pointer (some ⟨L.sb, 0, none⟩), .int .i64 i] w0 (MvPost L s M S w0) := by
  refine calls_of_W (N := Tryz.f28.ntmps) Tryz.func28 rfl rfl rfl ?_
  refine W_seq ?_
  refine W_region ?_
  refine WL_val rfl rfl rfl (by exact rAsgnN rfl rfl) ?_
  refine WL_nil ?_
  refine W_seq ?_
  refine W_seq ?_
  refine W_region ?_
  refine WL_val rfl rfl rfl (by exact rMoveP rfl rfl) ?_
  refine WL_val rfl rfl rfl (rPtrEq rfl Tryz.underlying30 rfl rfl) ?_
  refine WL_nil ?_
  refine W_cond false rfl ?_
  refine W_skip ?_
  refine W_seq ?_
  refine W_region ?_
  refine WL_val rfl rfl rfl (by exact rMoveP rfl rfl) ?_
  refine WL_val rfl rfl rfl (rNilChk rfl rfl) ?_
  refine WL_val rfl rfl rfl (by exact rFldN (off := 7) rfl (by kernel_rfl) rfl) ?_
  refine WL_val rfl rfl rfl (by exact rMoveI rfl rfl) ?_
  refine WL_call rfl rfl rfl (rCall (vs := [.pointer _, .int .i64 _]) rfl Tryz.func46 rfl rfl rfl) ?_
  refine (ndrop_any L s i h.mlen (DLs _) _ (hI.fromB (X := []))).mono ?_
  rintro en w1 ⟨⟨v, rfl⟩, MA, mc, ms, hms, hJ⟩
  refine ⟨_, rfl, ?_⟩
  replace hI := hI.callB (X := []) hJ
  refine WL_val rfl rfl rfl (by exact rAsgn rfl) ?_
  refine WL_nil ?_
  refine W_ret ?_
  have hsub : ∀ m ∈ ms, m ∈ s.mails := by
    rcases hms with rfl | ⟨j, _, rfl⟩
    · exact fun _ h => h
    · exact fun m hm => List.mem_of_mem_eraseIdx hm
  have hlen : ms.length ≤ 500 := by
    rcases hms with rfl | ⟨j, hj, rfl⟩
    · exact h.mlen
    · rw [List.length_eraseIdx, if_pos hj]; have := h.mlen; omega
  exact ret1 4 (.inr rfl) rfl ⟨⟨_, rfl⟩, _, _, .inl ⟨ms, hsub, rfl⟩, ((h.mails hsub hlen).loc (L' := { L with MA := MA, mc := mc }) rfl).mono (by omega), rfl, hI⟩
set_option maxHeartbeats 1000000 in
theorem doubleM (L : StL) (s : StS) (M : Nat) (h : SOk L s M) (S : Nat → Prop) (w0 : World) (hI : Inv S w0 w0 (spt L s)) (i : Int) : Calls Tryz.prog 29 #[.pointer (some ⟨L.sb, 0, none⟩), .int .i64 i] w0 (MvPost L s M S w0) := by
  refine calls_of_W (N := Tryz.f29.ntmps) Tryz.func29 rfl rfl rfl ?_
  refine W_seq ?_
  refine W_region ?_
  refine WL_val rfl rfl rfl (by exact rAsgnN rfl rfl) ?_
  refine WL_nil ?_
  refine W_seq ?_
  refine W_seq ?_
  refine W_region ?_
  refine WL_val rfl rfl rfl (by exact rMoveP rfl rfl) ?_
  refine WL_val rfl rfl rfl (rPtrEq rfl Tryz.underlying30 rfl rfl) ?_
  refine WL_nil ?_
  refine W_cond false rfl ?_
  refine W_skip ?_
  refine W_seq ?_
  refine W_region ?_
  refine WL_val rfl rfl rfl (by exact rMoveP rfl rfl) ?_
  refine WL_val rfl rfl rfl (rNilChk rfl rfl) ?_
  refine WL_val rfl rfl rfl (by exact rFldN (off := 7) rfl (by kernel_rfl) rfl) ?_
  refine WL_val rfl rfl rfl (by exact rMoveI rfl rfl) ?_
  refine WL_call rfl rfl rfl (rCall (vs := [.pointer _, .int .i64 _]) rfl Tryz.func47 rfl rfl rfl) ?_
  refine (ndouble_any L s i (DLs _) _ (hI.fromB (X := []))).mono ?_
  rintro en w1 ⟨⟨v, rfl⟩, MA, mc, ms, hms, hJ⟩
  refine ⟨_, rfl, ?_⟩
  replace hI := hI.callB (X := []) hJ
  refine WL_val rfl rfl rfl (by exact rAsgn rfl) ?_
  refine WL_nil ?_
  refine W_ret ?_
  have hsub : ∀ m ∈ ms, m ∈ s.mails := by
    rcases hms with rfl | ⟨m0, h0, rfl⟩
    · exact fun _ h => h
    · exact fun m hm => by rcases mem_push hm with hm | rfl; exact hm; exact h0
  have hlen : ms.length ≤ 500 := by
    rcases hms with rfl | ⟨m0, h0, rfl⟩
    · exact h.mlen
    · exact push_len h.mlen
  exact ret1 4 (.inr rfl) rfl ⟨⟨_, rfl⟩, _, _, .inl ⟨ms, hsub, rfl⟩, ((h.mails hsub hlen).loc (L' := { L with MA := MA, mc := mc }) rfl).mono (by omega), rfl, hI⟩
set_option maxHeartbeats 2000000 in
theorem deliverM (L : StL) (s : StS) (M : Nat) (h : SOk L s M) (hM : M ≤ 100000) (S : Nat → Prop) (w0 : World) (hI : Inv S w0 w0 (spt L s)) (i : Int) : Calls Tryz.prog 13 #[.pointer (some ⟨L.sb, 0, none⟩), .int .i64 i] w0 fun en w' => ∃ v L' s', en = .returned v ∧ Mv s s' ∧ SOk L' s' (M + 1) ∧ L'.sb = L.sb ∧ L'.cut = L.cut ∧ Inv S w0 w' (spt L' s') ∧ (∀ (j : Nat) (m : SMail), L.cut = false → i = (j : Int) → s.mails[j]? = some m → v = .nilIface ∧ s' = deliverF s j m) := by
  have hn := h.n1
  have hk := h.k1
  refine calls_of_W (N := Tryz.f13.ntmps) Tryz.func13 rfl rfl rfl ?_
  refine W_seq ?_
  refine W_region ?_
  refine WL_val rfl rfl rfl (by exact rAsgnN rfl rfl) ?_
  refine WL_nil ?_
  refine W_seq ?_
  refine W_seq ?_
  refine W_region ?_
  refine WL_val rfl rfl rfl (by exact rMoveP rfl rfl) ?_
  refine WL_val rfl rfl rfl (rPtrEq rfl Tryz.underlying30 rfl rfl) ?_
  refine WL_nil ?_
  refine W_cond false rfl ?_
  refine W_skip ?_
  have hmo : ∀ m ∈ s.mails, m.src < 1000 ∧ m.dst < 1000 := fun m hm => by
    have := h.mok m hm
    omega
  have hz9 : zero9.size = 9 := rfl
  refine W_seq ?_
  refine W_region ?_
  refine WL_val rfl rfl rfl (by exact rMoveP rfl rfl) ?_
  refine WL_val rfl rfl rfl (rNilChk rfl rfl) ?_
  refine WL_val rfl rfl rfl (by exact rFldN (off := 7) rfl (by kernel_rfl) rfl) ?_
  refine WL_val rfl rfl rfl (by exact rMoveI rfl rfl) ?_
  refine WL_call rfl rfl rfl (rCall (vs := [.pointer _, .int .i64 _]) rfl Tryz.func25 rfl rfl rfl) ?_
  refine (take_any L s i h.mlen hmo (DLs _) _ (hI.fromB (X := []))).mono ?_
  rintro en w1 hcase
  obtain ⟨ag, er, L1, s1, rfl, hag, hone, hsb, hcs, hJ⟩ : ∃ (ag : Array Value) (er : Value) (L1 : StL) (s1 : StS), en = .returned (.tuple #[.agg ag, er]) ∧ ag.size = 9 ∧ ag.toList.all (·.oneCell') = true ∧ L1.sb = L.sb ∧
      (((∃ n, er = .iface 49 (.int .i64 n)) ∧ (L.cut = false → ¬ (0 ≤ i ∧ i < (s.mails.length : Int))) ∧ L1 = L ∧ s1 = s) ∨ (er = .nilIface ∧ ∃ (j : Nat) (m : SMail) (MA : Option Addr) (mc : Nat), i = (j : Int) ∧ s.mails[j]? = some m ∧ ag = (mailL m).toArray ∧ L1 = { L with MA := MA, mc := mc } ∧ s1 = { s with mails := s.mails.eraseIdx j })) ∧ Inv (DLs (spt L s)) w0 w1 (spt L1 s1) := by
    rcases hcase with ⟨n, rfl, hct, hJ⟩ | ⟨j, m, MA, mc, hij, hm, rfl, hJ⟩
    · exact ⟨_, _, L, s, rfl, rfl, rfl, rfl, .inl ⟨⟨n, rfl⟩, hct, rfl, rfl⟩, hJ⟩
    · exact ⟨_, _, { L with MA := MA, mc := mc }, { s with mails := s.mails.eraseIdx j }, rfl, rfl, rfl, rfl, .inr ⟨rfl, j, m, MA, mc, hij, hm, rfl, rfl, rfl⟩, hJ⟩
  refine ⟨_, rfl, ?_⟩
  replace hI := hI.callB (X := []) hJ
  refine WL_val rfl rfl rfl (by exact rMoveT rfl rfl) ?_
  refine WL_val rfl rfl rfl (rExtr rfl rfl rfl) ?_
  refine WL_val rfl rfl rfl (rExtr rfl rfl rfl) ?_
  refine WL_alloc (u := .agg zero9) (vs := zero9) hI rfl rfl rfl rfl (by kernel_rfl) rfl ?_
  clear hI; rintro b5 w - - hI
  refine WL_stw0 (u := .agg ag) (vs := ag) (n := 9) hI rfl rfl rfl rfl rfl rfl (by kernel_rfl) hag rfl hone ?_
  clear hI; intro w hI
  refine WL_val rfl rfl rfl (by exact rAsgn rfl) ?_
  refine WL_nil ?_
  rcases hcs with ⟨⟨n, rfl⟩, hct, rfl, rfl⟩ | ⟨rfl, j, m, MA, mc, hij, hm, rfl, rfl, rfl⟩
  · refine W_seq ?_
    refine W_seq ?_
    refine W_region ?_
    refine WL_val rfl rfl rfl (by exact rMoveE rfl rfl) ?_
    refine WL_val rfl rfl rfl (by exact rIfaceNe rfl Tryz.underlying27 rfl rfl) ?_
    refine WL_nil ?_
    refine W_cond true rfl ?_
    refine W_seq ?_
    refine W_region ?_
    refine WL_val rfl rfl rfl (by exact rMoveE rfl rfl) ?_
    refine WL_val rfl rfl rfl (by exact rAsgnE rfl rfl) ?_
    refine WL_nil ?_
    refine W_ret ?_
    exact ret1 4 (.inr rfl) rfl ⟨_, L1, s1, rfl, Mv.refl _, h.mono (by omega), rfl, rfl, hI.d0, fun j m hc hj hm => absurd (show 0 ≤ i ∧ i < (s1.mails.length : Int) by have := (List.getElem?_eq_some_iff.1 hm).1; omega) (hct hc)⟩
  have hgd : ∀ (j' : Nat) (m' : SMail), L.cut = false → i = (j' : Int) → s.mails[j']? = some m' → (Value.nilIface : Value) = .nilIface ∧ deliverF s j m = deliverF s j' m' := fun j' m' _ hj' hm' => by
    obtain rfl : j = j' := by omega
    rw [hm] at hm'
    injection hm' with hm'
    exact ⟨rfl, by rw [hm']⟩
  have hmm := h.mok m (List.mem_of_getElem? hm)
  obtain ⟨s1, hs1⟩ : ∃ s1 : StS, { s with mails := s.mails.eraseIdx j } = s1 := ⟨_, rfl⟩
  obtain ⟨L1, hL1⟩ : ∃ L1 : StL, { L with MA := MA, mc := mc } = L1 := ⟨_, rfl⟩
  have h1 : SOk L1 s1 M := by
    rw [← hs1, ← hL1]
    exact (h.mails (fun x hx => List.mem_of_mem_eraseIdx hx) (by rw [List.length_eraseIdx]; have := h.mlen; split <;> omega)).loc rfl
  have hn1 : s1.n = s.n ∧ s1.k = s.k := by rw [← hs1]; exact ⟨rfl, rfl⟩
  rw [hs1, hL1] at hI
  have hsbe : L1.sb = L.sb := by rw [← hL1]
  have hcute : L1.cut = L.cut := by rw [← hL1]
  have hdel : deliverF s j m = if m.dst < s.n then nodeF s1 m.dst m.m else hearF s1 m.src m.m := by rw [← hs1]; rfl
  have hc0 : ∀ w, Inv S w0 w ([B b5 89 (mailL m).toArray] ++ spt L1 s1) → w.cell? ⟨L.sb, 0, none⟩ = some (.int .i64 (s.n : Int)) := fun w hI => by
    have := sp_c0 (X := [_]) hI
    rw [hsbe, hn1.1] at this; exact this
  have hcl1 := h1.cok m.m.client (by have := hmm.1; omega)
  refine W_seq ?_
  refine W_seq ?_
  refine W_region ?_
  refine WL_val rfl rfl rfl (by exact rMoveN rfl rfl) ?_
  refine WL_val rfl rfl rfl (by exact rNilNe rfl Tryz.underlying27 rfl) ?_
  refine WL_nil ?_
  refine W_cond false rfl ?_
  refine W_skip ?_
  by_cases hd : m.dst < s.n
  · rw [if_pos hd] at hdel
    refine W_seq ?_
    refine W_seq ?_
    refine W_draw (by kernel_rfl) ?_
    refine WA_inv (T := []) hI.drew ?_
    intro Sx hSx hXS
    replace hI := hI.drew
    refine WT_take 0 rfl rfl (by kernel_rfl) (hXS _ hI) rfl (fun W hW => have hI := hSx W hW; (by exact rFldN (off := 1) rfl (by kernel_rfl) rfl)) ?_
    refine WT_take 1 rfl rfl (by kernel_rfl) (hXS _ hI) rfl (fun W hW => have hI := hSx W hW; (by exact rLd (v := .int .i64 _) rfl (by kernel_rfl) rfl (by exact hI.c0 rfl))) ?_
    refine WT_take 2 rfl rfl (by kernel_rfl) (hXS _ hI) rfl (fun W hW => have hI := hSx W hW; (by exact rMoveP rfl rfl)) ?_
    refine WT_take 3 rfl rfl (by kernel_rfl) (hXS _ hI) rfl (fun W hW => have hI := hSx W hW; (rNilChk rfl rfl)) ?_
    refine WT_take 4 rfl rfl (by kernel_rfl) (hXS _ hI) rfl (fun W hW => have hI := hSx W hW; (by exact rFldN (off := 0) rfl (by kernel_rfl) rfl)) ?_
    refine WT_take 5 rfl rfl (by kernel_rfl) (hXS _ hI) rfl (fun W hW => have hI := hSx W hW; (by exact rFldN (off := 0) rfl (by kernel_rfl) rfl)) ?_
    refine WT_take 6 rfl rfl (by kernel_rfl) (hXS _ hI) rfl (fun W hW => have hI := hSx W hW; (rLd (v := .int .i64 (s.n : Int)) rfl (by kernel_rfl) rfl (hc0 _ hI))) ?_
    refine WT_take 7 rfl rfl (by kernel_rfl) (hXS _ hI) rfl (fun W hW => have hI := hSx W hW; (by exact rLssT rfl rfl rfl (by omega))) ?_
    refine WT_end (by kernel_rfl) ?_
    refine W_cond true rfl ?_
    refine W_region ?_
    refine WL_val rfl rfl rfl (by exact rMoveP rfl rfl) ?_
    refine WL_val rfl rfl rfl (by exact rFldN (off := 1) rfl (by kernel_rfl) rfl) ?_
    refine WL_val rfl rfl rfl (by exact rLd (v := .int .i64 _) rfl (by kernel_rfl) rfl (by exact hI.c0 rfl)) ?_
    refine WL_val rfl rfl rfl (by exact rFldN (off := 2) rfl (by kernel_rfl) rfl) ?_
    refine WL_val rfl rfl rfl (rLdA (n := 7) (l := msgL m.m) rfl (by kernel_rfl) (by kernel_rfl) rfl rfl (blk_sub hI.g0 2 [] rfl)) ?_
    refine WL_call rfl rfl rfl (rCall (vs := [.pointer _, .int .i64 _, .agg _]) rfl Tryz.func26 rfl rfl rfl) ?_
    rw [← hsbe]
    refine (node_any L1 s1 m.dst m.m (by omega) (by omega) hmm.2.1 (by have := hmm.1; omega) (DLs _) _ (hI.fromB (X := [_]))).mono ?_
    rintro en w1 ⟨rfl, MA', mc', hJ⟩
    refine ⟨_, rfl, ?_⟩
    replace hI := hI.callB (X := [_]) hJ
    refine WL_nil ?_
    refine W_seq ?_
    refine W_region ?_
    refine WL_val rfl rfl rfl (by exact rAsgnN rfl rfl) ?_
    refine WL_nil ?_
    refine W_ret ?_
    exact ret1 4 (.inr rfl) rfl ⟨_, { L1 with MA := MA', mc := mc' }, deliverF s j m, rfl, .inr (.inr (.inr ⟨j, m, hm, rfl⟩)), by rw [hdel]; exact ((h1.node (j := m.dst) (m := m.m) (by omega) (by have := hmm.1; omega) hmm.2.1 hmm.2.2.1 hmm.2.2.2.1).loc (L' := { L1 with MA := MA', mc := mc' }) rfl).mono (by omega), rfl, hcute, by rw [hdel]; exact hI.d0, hgd⟩
  · rw [if_neg hd] at hdel
    have hsrc : m.src < s.n := by rcases hmm.2.2.2.2.2 with h | h; exact absurd h.1 hd; exact h.1
    refine W_seq ?_
    refine W_seq ?_
    refine W_draw (by kernel_rfl) ?_
    refine WA_inv (T := []) hI.drew ?_
    intro Sx hSx hXS
    replace hI := hI.drew
    refine WT_take 0 rfl rfl (by kernel_rfl) (hXS _ hI) rfl (fun W hW => have hI := hSx W hW; (by exact rFldN (off := 1) rfl (by kernel_rfl) rfl)) ?_
    refine WT_take 1 rfl rfl (by kernel_rfl) (hXS _ hI) rfl (fun W hW => have hI := hSx W hW; (by exact rLd (v := .int .i64 _) rfl (by kernel_rfl) rfl (by exact hI.c0 rfl))) ?_
    refine WT_take 2 rfl rfl (by kernel_rfl) (hXS _ hI) rfl (fun W hW => have hI := hSx W hW; (by exact rMoveP rfl rfl)) ?_
    refine WT_take 3 rfl rfl (by kernel_rfl) (hXS _ hI) rfl (fun W hW => have hI := hSx W hW; (rNilChk rfl rfl)) ?_
    refine WT_take 4 rfl rfl (by kernel_rfl) (hXS _ hI) rfl (fun W hW => have hI := hSx W hW; (by exact rFldN (off := 0) rfl (by kernel_rfl) rfl)) ?_
    refine WT_take 5 rfl rfl (by kernel_rfl) (hXS _ hI) rfl (fun W hW => have hI := hSx W hW; (by exact rFldN (off := 0) rfl (by kernel_rfl) rfl)) ?_
    refine WT_take 6 rfl rfl (by kernel_rfl) (hXS _ hI) rfl (fun W hW => have hI := hSx W hW; (rLd (v := .int .i64 (s.n : Int)) rfl (by kernel_rfl) rfl (hc0 _ hI))) ?_
    refine WT_take 7 rfl rfl (by kernel_rfl) (hXS _ hI) rfl (fun W hW => have hI := hSx W hW; (by exact rLssF rfl rfl rfl (by omega))) ?_
    refine WT_end (by kernel_rfl) ?_
    refine W_cond false rfl ?_
    refine W_region ?_
    refine WL_val rfl rfl rfl (by exact rMoveP rfl rfl) ?_
    refine WL_val rfl rfl rfl (by exact rFldN (off := 0) rfl (by kernel_rfl) rfl) ?_
    refine WL_val rfl rfl rfl (by exact rLd (v := .int .i64 _) rfl (by kernel_rfl) rfl (by exact hI.c0 rfl)) ?_
    refine WL_val rfl rfl rfl (by exact rFldN (off := 2) rfl (by kernel_rfl) rfl) ?_
    refine WL_val rfl rfl rfl (rLdA (n := 7) (l := msgL m.m) rfl (by kernel_rfl) (by kernel_rfl) rfl rfl (blk_sub hI.g0 2 [] rfl)) ?_
    refine WL_call rfl rfl rfl (rCall (vs := [.pointer _, .int .i64 _, .agg _]) rfl Tryz.func27 rfl rfl rfl) ?_
    rw [← hsbe]
    refine (hear_any L1 s1 m.src m.m (by omega) (by omega) (by omega) (by have := hmm.1; omega) ⟨by have := h1.elen; omega, by have := h1.elen; have := h1.slen; omega⟩ (fun hb => ⟨(hcl1.2.2 hb).1, (hcl1.2.2 hb).2.1, (hcl1.2.2 hb).2.2.1⟩) ⟨by have := hcl1.1; omega, by have := hcl1.2.1; omega, by have := hmm.2.2.2.1; omega⟩ (DLs _) _ (hI.fromB (X := [_]))).mono ?_
    rintro en w1 ⟨rfl, MA', mc', EA, ec, SA, sc, cw, hJ, ho, hi⟩
    refine ⟨_, rfl, ?_⟩
    replace hI := hI.callB (X := [_]) hJ
    refine WL_nil ?_
    refine W_seq ?_
    refine W_region ?_
    refine WL_val rfl rfl rfl (by exact rAsgnN rfl rfl) ?_
    refine WL_nil ?_
    refine W_ret ?_
    exact ret1 4 (.inr rfl) rfl ⟨_, { L1 with MA := MA', mc := mc', EA := EA, ec := ec, SA := SA, sc := sc, cw := cw }, deliverF s j m, rfl, .inr (.inr (.inr ⟨j, m, hm, rfl⟩)), by rw [hdel]; exact h1.hear (by have := hmm.1; omega) hmm.2.2.2.1 ho hi, rfl, hcute, by rw [hdel]; exact hI.d0, hgd⟩
set_option maxHeartbeats 4000000 in
theorem beginM (L : StL) (s : StS) (M : Nat) (h : SOk L s M) (hM : M ≤ 100000) (S : Nat → Prop) (w0 : World) (hI : Inv S w0 w0 (spt L s)) (c key : Int) (write : Bool) (value : Int) :
    Calls Tryz.prog 12 #[.pointer (some ⟨L.sb, 0, none⟩), .int .i64 c, .int .i64 key, .bool write, .int .i64 value] w0 fun en w' => ∃ v L' s', en = .returned v ∧ Mv s s' ∧ SOk L' s' (M + 1) ∧ L'.sb = L.sb ∧ L'.cut = L.cut ∧ Inv S w0 w' (spt L' s') ∧ (∀ c' kn : Nat, MayB s c c' → key = (kn : Int) → kn < 8 → -1000000 ≤ value → value ≤ 1000000 → (write = false → value = 0) → v = .nilIface ∧ s' = begS s c' kn write value) := by
  have hel := h.elen
  refine calls_of_W (N := Tryz.f12.ntmps) Tryz.func12 rfl rfl rfl ?_
  refine W_seq ?_
  refine W_region ?_
  refine WL_val rfl rfl rfl (by exact rAsgnN rfl rfl) ?_
  refine WL_nil ?_
  by_cases hbad : key < 0 ∨ 8 ≤ key ∨ value < -1000000 ∨ 1000000 < value ∨ (write = false ∧ value ≠ 0)
  · refine W_seq ?_
    refine W_seq_cut (fun ρ w => ρ 35 = .bool true ∧ Inv S w0 w (spt L s)) ?_ ?_
    · by_cases h1 : key < 0
      · refine W_region ?_
        refine WL_val rfl rfl rfl (by exact rMoveI rfl rfl) ?_
        refine WL_val rfl rfl rfl (by exact rLssT rfl rfl rfl (by omega)) ?_
        refine WL_val rfl rfl rfl (by exact rMoveB rfl rfl) ?_
        refine WL_skip rfl rfl rfl ?_
        refine WL_skip rfl rfl rfl ?_
        refine WL_val rfl rfl rfl (by exact rPickTB rfl rfl rfl) ?_
        refine WL_val rfl rfl rfl (by exact rMoveB rfl rfl) ?_
        refine WL_skip rfl rfl rfl ?_
        refine WL_skip rfl rfl rfl ?_
        refine WL_val rfl rfl rfl (by exact rPickTB rfl rfl rfl) ?_
        refine WL_val rfl rfl rfl (by exact rMoveB rfl rfl) ?_
        refine WL_skip rfl rfl rfl ?_
        refine WL_skip rfl rfl rfl ?_
        refine WL_val rfl rfl rfl (by exact rPickTB rfl rfl rfl) ?_
        refine WL_val rfl rfl rfl (by exact rMoveB rfl rfl) ?_
        refine WL_skip rfl rfl rfl ?_
        refine WL_skip rfl rfl rfl ?_
        refine WL_skip rfl rfl rfl ?_
        refine WL_skip rfl rfl rfl ?_
        refine WL_skip rfl rfl rfl ?_
        refine WL_skip rfl rfl rfl ?_
        refine WL_val rfl rfl rfl (by exact rPickTB rfl rfl rfl) ?_
        refine WL_nil ?_
        exact ⟨rfl, hI⟩
      by_cases h2 : 8 ≤ key
      · refine W_region ?_
        refine WL_val rfl rfl rfl (by exact rMoveI rfl rfl) ?_
        refine WL_val rfl rfl rfl (by exact rLssF rfl rfl rfl (by omega)) ?_
        refine WL_val rfl rfl rfl (by exact rMoveB rfl rfl) ?_
        refine WL_val rfl rfl rfl (by exact rMoveI rfl rfl) ?_
        refine WL_val rfl rfl rfl (by exact rGeqT rfl rfl rfl (by omega)) ?_
        refine WL_val rfl rfl rfl (by exact rPickFB rfl rfl rfl) ?_
        refine WL_val rfl rfl rfl (by exact rMoveB rfl rfl) ?_
        refine WL_skip rfl rfl rfl ?_
        refine WL_skip rfl rfl rfl ?_
        refine WL_val rfl rfl rfl (by exact rPickTB rfl rfl rfl) ?_
        refine WL_val rfl rfl rfl (by exact rMoveB rfl rfl) ?_
        refine WL_skip rfl rfl rfl ?_
        refine WL_skip rfl rfl rfl ?_
        refine WL_val rfl rfl rfl (by exact rPickTB rfl rfl rfl) ?_
        refine WL_val rfl rfl rfl (by exact rMoveB rfl rfl) ?_
        refine WL_skip rfl rfl rfl ?_
        refine WL_skip rfl rfl rfl ?_
        refine WL_skip rfl rfl rfl ?_
        refine WL_skip rfl rfl rfl ?_
        refine WL_skip rfl rfl rfl ?_
        refine WL_skip rfl rfl rfl ?_
        refine WL_val rfl rfl rfl (by exact rPickTB rfl rfl rfl) ?_
        refine WL_nil ?_
        exact ⟨rfl, hI⟩
      by_cases h3 : value < -1000000
      · refine W_region ?_
        refine WL_val rfl rfl rfl (by exact rMoveI rfl rfl) ?_
        refine WL_val rfl rfl rfl (by exact rLssF rfl rfl rfl (by omega)) ?_
        refine WL_val rfl rfl rfl (by exact rMoveB rfl rfl) ?_
        refine WL_val rfl rfl rfl (by exact rMoveI rfl rfl) ?_
        refine WL_val rfl rfl rfl (by exact rGeqF rfl rfl rfl (by omega)) ?_
        refine WL_val rfl rfl rfl (by exact rPickFB rfl rfl rfl) ?_
        refine WL_val rfl rfl rfl (by exact rMoveB rfl rfl) ?_
        refine WL_val rfl rfl rfl (by exact rMoveI rfl rfl) ?_
        refine WL_val rfl rfl rfl (by exact rLssT rfl rfl rfl (by omega)) ?_
        refine WL_val rfl rfl rfl (by exact rPickFB rfl rfl rfl) ?_
        refine WL_val rfl rfl rfl (by exact rMoveB rfl rfl) ?_
        refine WL_skip rfl rfl rfl ?_
        refine WL_skip rfl rfl rfl ?_
        refine WL_val rfl rfl rfl (by exact rPickTB rfl rfl rfl) ?_
        refine WL_val rfl rfl rfl (by exact rMoveB rfl rfl) ?_
        refine WL_skip rfl rfl rfl ?_
        refine WL_skip rfl rfl rfl ?_
        refine WL_skip rfl rfl rfl ?_
        refine WL_skip rfl rfl rfl ?_
        refine WL_skip rfl rfl rfl ?_
        refine WL_skip rfl rfl rfl ?_
        refine WL_val rfl rfl rfl (by exact rPickTB rfl rfl rfl) ?_
        refine WL_nil ?_
        exact ⟨rfl, hI⟩
      by_cases h4 : 1000000 < value
      · refine W_region ?_
        refine WL_val rfl rfl rfl (by exact rMoveI rfl rfl) ?_
        refine WL_val rfl rfl rfl (by exact rLssF rfl rfl rfl (by omega)) ?_
        refine WL_val rfl rfl rfl (by exact rMoveB rfl rfl) ?_
        refine WL_val rfl rfl rfl (by exact rMoveI rfl rfl) ?_
        refine WL_val rfl rfl rfl (by exact rGeqF rfl rfl rfl (by omega)) ?_
        refine WL_val rfl rfl rfl (by exact rPickFB rfl rfl rfl) ?_
        refine WL_val rfl rfl rfl (by exact rMoveB rfl rfl) ?_
        refine WL_val rfl rfl rfl (by exact rMoveI rfl rfl) ?_
        refine WL_val rfl rfl rfl (by exact rLssF rfl rfl rfl (by omega)) ?_
        refine WL_val rfl rfl rfl (by exact rPickFB rfl rfl rfl) ?_
        refine WL_val rfl rfl rfl (by exact rMoveB rfl rfl) ?_
        refine WL_val rfl rfl rfl (by exact rMoveI rfl rfl) ?_
        refine WL_val rfl rfl rfl (by exact rGtrT rfl rfl rfl (by omega)) ?_
        refine WL_val rfl rfl rfl (by exact rPickFB rfl rfl rfl) ?_
        refine WL_val rfl rfl rfl (by exact rMoveB rfl rfl) ?_
        refine WL_skip rfl rfl rfl ?_
        refine WL_skip rfl rfl rfl ?_
        refine WL_skip rfl rfl rfl ?_
        refine WL_skip rfl rfl rfl ?_
        refine WL_skip rfl rfl rfl ?_
        refine WL_skip rfl rfl rfl ?_
        refine WL_val rfl rfl rfl (by exact rPickTB rfl rfl rfl) ?_
        refine WL_nil ?_
        exact ⟨rfl, hI⟩
      obtain ⟨rfl, h5⟩ : write = false ∧ value ≠ 0 := by
        rcases hbad with h | h | h | h | h
        · exact absurd h h1
        · exact absurd h h2
        · exact absurd h h3
        · exact absurd h h4
        · exact h
      refine W_region ?_
      refine WL_val rfl rfl rfl (by exact rMoveI rfl rfl) ?_
      refine WL_val rfl rfl rfl (by exact rLssF rfl rfl rfl (by omega)) ?_
      refine WL_val rfl rfl rfl (by exact rMoveB rfl rfl) ?_
      refine WL_val rfl rfl rfl (by exact rMoveI rfl rfl) ?_
      refine WL_val rfl rfl rfl (by exact rGeqF rfl rfl rfl (by omega)) ?_
      refine WL_val rfl rfl rfl (by exact rPickFB rfl rfl rfl) ?_
      refine WL_val rfl rfl rfl (by exact rMoveB rfl rfl) ?_
      refine WL_val rfl rfl rfl (by exact rMoveI rfl rfl) ?_
      refine WL_val rfl rfl rfl (by exact rLssF rfl rfl rfl (by omega)) ?_
      refine WL_val rfl rfl rfl (by exact rPickFB rfl rfl rfl) ?_
      refine WL_val rfl rfl rfl (by exact rMoveB rfl rfl) ?_
      refine WL_val rfl rfl rfl (by exact rMoveI rfl rfl) ?_
      refine WL_val rfl rfl rfl (by exact rGtrF rfl rfl rfl (by omega)) ?_
      refine WL_val rfl rfl rfl (by exact rPickFB rfl rfl rfl) ?_
      refine WL_val rfl rfl rfl (by exact rMoveB rfl rfl) ?_
      refine WL_val rfl rfl rfl (by exact rMoveB rfl rfl) ?_
      refine WL_val rfl rfl rfl (by exact rNotF rfl rfl) ?_
      refine WL_val rfl rfl rfl (by exact rMoveB rfl rfl) ?_
      refine WL_val rfl rfl rfl (by exact rMoveI rfl rfl) ?_
      refine WL_val rfl rfl rfl (by exact rNeqT rfl rfl rfl (by omega)) ?_
      refine WL_val rfl rfl rfl (by exact rPickTB rfl rfl rfl) ?_
      refine WL_val rfl rfl rfl (by exact rPickFB rfl rfl rfl) ?_
      refine WL_nil ?_
      exact ⟨rfl, hI⟩
    · clear hI
      rintro ρ w ⟨h35, hI⟩
      refine W_cond true h35 ?_
      refine W_seq ?_
      refine W_region ?_
      refine WL_val rfl rfl rfl (rIface rfl Tryz.underlying49 rfl rfl) ?_
      refine WL_val rfl rfl rfl (by exact rAsgnE rfl rfl) ?_
      refine WL_nil ?_
      refine W_ret ?_
      exact ret1 10 (.inr rfl) rfl ⟨_, L, s, rfl, Mv.refl _, h.mono (by omega), rfl, rfl, hI, fun c' kn _ h1 h2 h3 h4 h5 => absurd hbad (fun hb => by
        rcases hb with h | h | h | h | h
        · omega
        · omega
        · omega
        · omega
        · exact h.2 (h5 h.1))⟩
  have hg1 : 0 ≤ key ∧ key < 8 ∧ -1000000 ≤ value ∧ value ≤ 1000000 := by omega
  refine W_seq_cut (fun ρ w => Has ρ [(0, .pointer (some ⟨L.sb, 0, none⟩)), (1, .int .i64 c), (2, .int .i64 key), (3, .bool write), (4, .int .i64 value)] ∧ Inv S w0 w (spt L s)) ?_ ?_
  · cases write with
    | true =>
      refine W_seq ?_
      refine W_region ?_
      refine WL_val rfl rfl rfl (by exact rMoveI rfl rfl) ?_
      refine WL_val rfl rfl rfl (by exact rLssF rfl rfl rfl (by omega)) ?_
      refine WL_val rfl rfl rfl (by exact rMoveB rfl rfl) ?_
      refine WL_val rfl rfl rfl (by exact rMoveI rfl rfl) ?_
      refine WL_val rfl rfl rfl (by exact rGeqF rfl rfl rfl (by omega)) ?_
      refine WL_val rfl rfl rfl (by exact rPickFB rfl rfl rfl) ?_
      refine WL_val rfl rfl rfl (by exact rMoveB rfl rfl) ?_
      refine WL_val rfl rfl rfl (by exact rMoveI rfl rfl) ?_
      refine WL_val rfl rfl rfl (by exact rLssF rfl rfl rfl (by omega)) ?_
      refine WL_val rfl rfl rfl (by exact rPickFB rfl rfl rfl) ?_
      refine WL_val rfl rfl rfl (by exact rMoveB rfl rfl) ?_
      refine WL_val rfl rfl rfl (by exact rMoveI rfl rfl) ?_
      refine WL_val rfl rfl rfl (by exact rGtrF rfl rfl rfl (by omega)) ?_
      refine WL_val rfl rfl rfl (by exact rPickFB rfl rfl rfl) ?_
      refine WL_val rfl rfl rfl (by exact rMoveB rfl rfl) ?_
      refine WL_val rfl rfl rfl (by exact rMoveB rfl rfl) ?_
      refine WL_val rfl rfl rfl (by exact rNotT rfl rfl) ?_
      refine WL_val rfl rfl rfl (by exact rMoveB rfl rfl) ?_
      refine WL_skip rfl rfl rfl ?_
      refine WL_skip rfl rfl rfl ?_
      refine WL_val rfl rfl rfl (by exact rPickFB rfl rfl rfl) ?_
      refine WL_val rfl rfl rfl (by exact rPickFB rfl rfl rfl) ?_
      refine WL_nil ?_
      refine W_cond false rfl ?_
      refine W_skip ?_
      exact ⟨⟨rfl, rfl, rfl, rfl, rfl, trivial⟩, hI⟩
    | false =>
      have h0 : value = 0 := Classical.byContradiction fun hv => hbad (.inr (.inr (.inr (.inr ⟨rfl, hv⟩))))
      refine W_seq ?_
      refine W_region ?_
      refine WL_val rfl rfl rfl (by exact rMoveI rfl rfl) ?_
      refine WL_val rfl rfl rfl (by exact rLssF rfl rfl rfl (by omega)) ?_
      refine WL_val rfl rfl rfl (by exact rMoveB rfl rfl) ?_
      refine WL_val rfl rfl rfl (by exact rMoveI rfl rfl) ?_
      refine WL_val rfl rfl rfl (by exact rGeqF rfl rfl rfl (by omega)) ?_
      refine WL_val rfl rfl rfl (by exact rPickFB rfl rfl rfl) ?_
      refine WL_val rfl rfl rfl (by exact rMoveB rfl rfl) ?_
      refine WL_val rfl rfl rfl (by exact rMoveI rfl rfl) ?_
      refine WL_val rfl rfl rfl (by exact rLssF rfl rfl rfl (by omega)) ?_
      refine WL_val rfl rfl rfl (by exact rPickFB rfl rfl rfl) ?_
      refine WL_val rfl rfl rfl (by exact rMoveB rfl rfl) ?_
      refine WL_val rfl rfl rfl (by exact rMoveI rfl rfl) ?_
      refine WL_val rfl rfl rfl (by exact rGtrF rfl rfl rfl (by omega)) ?_
      refine WL_val rfl rfl rfl (by exact rPickFB rfl rfl rfl) ?_
      refine WL_val rfl rfl rfl (by exact rMoveB rfl rfl) ?_
      refine WL_val rfl rfl rfl (by exact rMoveB rfl rfl) ?_
      refine WL_val rfl rfl rfl (by exact rNotF rfl rfl) ?_
      refine WL_val rfl rfl rfl (by exact rMoveB rfl rfl) ?_
      refine WL_val rfl rfl rfl (by exact rMoveI rfl rfl) ?_
      refine WL_val rfl rfl rfl (by exact rNeqF rfl rfl rfl (by omega)) ?_
      refine WL_val rfl rfl rfl (by exact rPickTB rfl rfl rfl) ?_
      refine WL_val rfl rfl rfl (by exact rPickFB rfl rfl rfl) ?_
      refine WL_nil ?_
      refine W_cond false rfl ?_
      refine W_skip ?_
      exact ⟨⟨rfl, rfl, rfl, rfl, rfl, trivial⟩, hI⟩
  clear hI
  rintro ρ w ⟨hH, hI⟩
  obtain ⟨σ, rfl⟩ := hH.open
  obtain ⟨kn, rfl⟩ : ∃ kn : Nat, key = (kn : Int) := ⟨key.toNat, by omega⟩
  have hkn : kn < 8 := by omega
  refine W_seq ?_
  refine W_seq ?_
  refine W_region ?_
  refine WL_val rfl rfl rfl (by exact rMoveP rfl rfl) ?_
  refine WL_val rfl rfl rfl (by exact rMoveI rfl rfl) ?_
  refine WL_call rfl rfl rfl (rCall (vs := [.pointer _, .int .i64 _]) rfl Tryz.func22 rfl rfl rfl) ?_
  refine (free_any L s c h.k1.2 (by omega) (DLs _) _ (hI.fromB (X := []))).mono ?_
  rintro en w1 ⟨hcase, hJ⟩
  obtain ⟨v, rfl, hv⟩ : ∃ v, en = .returned v ∧ ((v = .nilIface ∧ ∃ c', MayB s c c') ∨ ((∃ n, v = .iface 49 (.int .i64 n)) ∧ ∀ c', ¬ MayB s c c')) := by
    rcases hcase with ⟨rfl, hm⟩ | ⟨⟨n, rfl⟩, hno⟩
    · exact ⟨_, rfl, .inl ⟨rfl, hm⟩⟩
    · exact ⟨_, rfl, .inr ⟨⟨n, rfl⟩, hno⟩⟩
  refine ⟨_, rfl, ?_⟩
  replace hI := hI.callB (X := []) hJ
  refine WL_val rfl rfl rfl (by exact rAsgn rfl) ?_
  refine WL_nil ?_
  rcases hv with ⟨rfl, c', hmb⟩ | ⟨⟨n, rfl⟩, hno⟩
  rotate_left
  · refine W_seq ?_
    refine W_region ?_
    refine WL_val rfl rfl rfl (by exact rMoveE rfl rfl) ?_
    refine WL_val rfl rfl rfl (by exact rIfaceNe rfl Tryz.underlying27 rfl rfl) ?_
    refine WL_nil ?_
    refine W_cond true rfl ?_
    refine W_seq ?_
    refine W_region ?_
    refine WL_val rfl rfl rfl (by exact rMoveE rfl rfl) ?_
    refine WL_val rfl rfl rfl (by exact rAsgnE rfl rfl) ?_
    refine WL_nil ?_
    refine W_ret ?_
    exact ret1 10 (.inr rfl) rfl ⟨_, L, s, rfl, Mv.refl _, h.mono (by omega), rfl, rfl, hI, fun c' _ hm => absurd hm (hno c')⟩
  obtain ⟨rfl, hc, hb, hgn, hroom⟩ := hmb
  have hcx := h.cok c' hc
  refine W_seq ?_
  refine W_region ?_
  refine WL_val rfl rfl rfl (by exact rMoveN rfl rfl) ?_
  refine WL_val rfl rfl rfl (by exact rNilNe rfl Tryz.underlying27 rfl) ?_
  refine WL_nil ?_
  refine W_cond false rfl ?_
  refine W_skip ?_
  refine W_seq ?_
  refine W_region ?_
  refine WL_val rfl rfl rfl (by exact rMoveI rfl rfl) ?_
  refine WL_val rfl rfl rfl (by exact rMoveI rfl rfl) ?_
  refine WL_val rfl rfl rfl (rBuild (qs := [(0, .int .i64 _), (1, .int .i64 _), (2, .int .i64 _), (3, .int .i64 _)]) (vs := [_, _, _, _, _, _, _]) [.int .i64 0, .int .i64 0, .int .i64 0, .int .i64 0, .int .i64 0, .int .i64 0, .int .i64 0] [0, 1, 2, 3] rfl rfl rfl (fun _ => by kernel_rfl)) ?_
  refine WL_alloc (u := .agg #[.int .i64 0, .int .i64 0, .int .i64 0, .int .i64 0, .int .i64 0, .int .i64 0, .int .i64 0]) (vs := #[.int .i64 0, .int .i64 0, .int .i64 0, .int .i64 0, .int .i64 0, .int .i64 0, .int .i64 0]) hI rfl rfl rfl rfl (by kernel_rfl) rfl ?_
  clear hI; rintro b12 w - - hI
  refine WL_stw0 (u := .agg _) (vs := #[_, _, _, _, _, _, _]) (n := 7) hI rfl rfl rfl rfl rfl rfl (by kernel_rfl) rfl rfl rfl ?_
  clear hI; intro w hI
  refine WL_nil ?_
  refine W_seq_cut (fun ρ w => Has ρ [(12, .pointer (some ⟨b12, 0, none⟩)), (0, .pointer (some ⟨L.sb, 0, none⟩)), (1, .int .i64 (c' : Int))] ∧ Inv S w0 w ([B b12 48 (evL (evB c' kn write value)).toArray] ++ spt L s)) ?_ ?_
  · cases write with
    | true =>
      refine W_seq ?_
      refine W_region ?_
      refine WL_val rfl rfl rfl (by exact rMoveB rfl rfl) ?_
      refine WL_nil ?_
      refine W_cond true rfl ?_
      refine W_region ?_
      refine WL_val rfl rfl rfl (by exact rMoveI rfl rfl) ?_
      refine WL_val rfl rfl rfl (by exact rFldN (off := 3) rfl (by kernel_rfl) rfl) ?_
      refine WL_st0 (u := .int .i64 _) hI rfl rfl rfl rfl rfl rfl (by kernel_rfl) rfl rfl rfl ?_
      clear hI; intro w hI
      refine WL_val rfl rfl rfl (by exact rFldN (off := 4) rfl (by kernel_rfl) rfl) ?_
      refine WL_st0 (u := .int .i64 _) hI rfl rfl rfl rfl rfl rfl (by kernel_rfl) rfl rfl rfl ?_
      clear hI; intro w hI
      refine WL_nil ?_
      exact ⟨⟨rfl, rfl, rfl, trivial⟩, hI⟩
    | false =>
      refine W_seq ?_
      refine W_region ?_
      refine WL_val rfl rfl rfl (by exact rMoveB rfl rfl) ?_
      refine WL_nil ?_
      refine W_cond false rfl ?_
      refine W_skip ?_
      exact ⟨⟨rfl, rfl, rfl, trivial⟩, hI⟩
  clear hI
  rintro ρ w ⟨hH, hI⟩
  obtain ⟨σ, rfl⟩ := hH.open
  obtain ⟨ev, hev⟩ : ∃ ev, evB c' kn write value = ev := ⟨_, rfl⟩
  rw [hev] at hI
  refine W_seq ?_
  refine W_region ?_
  refine WL_val rfl rfl rfl (by exact rMoveP rfl rfl) ?_
  refine WL_val rfl rfl rfl (rLdA (n := 7) (l := evL ev) rfl (by kernel_rfl) (by kernel_rfl) rfl rfl (fun k u hk => hI.cell 0 rfl (by rw [Nat.zero_add, List.getElem?_toArray]; exact hk))) ?_
  refine WL_val rfl rfl rfl (rBuild (qs := []) (vs := [.int .i64 0, .int .i64 0]) [.int .i64 0, .int .i64 0] [] rfl rfl rfl (fun _ => by kernel_rfl)) ?_
  refine WL_call rfl rfl rfl (rCall (vs := [.pointer _, .agg _, .agg _]) rfl Tryz.func23 rfl rfl rfl) ?_
  refine (see_any L s ev ⟨0, 0, 0⟩ (DLs _) _ (hI.fromB (X := [_])) ⟨by omega, by have := h.slen; omega⟩).mono ?_
  rintro en w1 ⟨rfl, EA, ec, SA, sc, hJ⟩
  refine ⟨_, rfl, ?_⟩
  replace hI := hI.callB (X := [_]) hJ
  refine WL_nil ?_
  obtain ⟨s1, hs1⟩ : ∃ s1, obsF s ev ⟨0, 0, 0⟩ = s1 := ⟨_, rfl⟩
  obtain ⟨L1, hL1⟩ : ∃ L1 : StL, { L with EA := EA, ec := ec, SA := SA, sc := sc } = L1 := ⟨_, rfl⟩
  have hk1 : s1.k = s.k := by rw [← hs1]; rfl
  have hn1 : s1.n = s.n := by rw [← hs1]; rfl
  have hcb1 : L1.cb = L.cb := by rw [← hL1]
  have hsb1 : L1.sb = L.sb := by rw [← hL1]
  have hcl1 : s1.cl = s.cl := by rw [← hs1]; rfl
  have hc1 : c' < s1.k := by omega
  rw [hs1, hL1] at hI
  have h6 : ∀ w, Inv S w0 w ([B b12 48 (evL ev).toArray] ++ spt L1 s1) → w.cell? ⟨L.sb, 6, none⟩ = some (.slice (some ⟨L1.cb, 0, none⟩) s1.k s1.k) := fun w hI => by rw [← hsb1]; exact sp_c6 hI
  refine W_seq ?_
  refine W_region ?_
  refine WL_val rfl rfl rfl (by exact rMoveP rfl rfl) ?_
  refine WL_val rfl rfl rfl (rNilChk rfl rfl) ?_
  refine WL_val rfl rfl rfl (by exact rFldN (off := 6) rfl (by kernel_rfl) rfl) ?_
  refine WL_val rfl rfl rfl (by exact rLd (v := .slice _ _ _) rfl (by kernel_rfl) rfl (by exact (h6 _ hI))) ?_
  refine WL_val rfl rfl rfl (by exact rMoveI rfl rfl) ?_
  refine WL_val rfl rfl rfl (rIdx (sz := 15) rfl Tryz.underlying65 (by kernel_rfl) rfl rfl (by omega)) ?_
  refine WL_val rfl rfl rfl (by exact rAsgnP rfl rfl) ?_
  refine WL_nil ?_
  unfold spt at hI
  rw [← clX_start (c := c')] at hI
  refine W_seq ?_
  refine W_draw (by kernel_rfl) ?_
  refine WA_inv (T := []) hI.d3.drew ?_
  intro Sx hSx hXS
  replace hI := hI.drew
  refine WT_take 0 rfl rfl (by kernel_rfl) (hXS _ hI.d3) rfl (fun W hW => have hI := hSx W hW; (by exact rMoveP rfl rfl)) ?_
  refine WT_take 1 rfl rfl (by kernel_rfl) (hXS _ hI.d3) rfl (fun W hW => have hI := hSx W hW; (by exact rMoveP rfl rfl)) ?_
  refine WT_take 2 rfl rfl (by kernel_rfl) (hXS _ hI.d3) rfl (fun W hW => have hI := hSx W hW; (by exact rMoveP rfl rfl)) ?_
  refine WT_take 3 rfl rfl (by kernel_rfl) (hXS _ hI.d3) rfl (fun W hW => have hI := hSx W hW; (rLdA (n := 7) (l := evL ev) rfl (by kernel_rfl) (by kernel_rfl) rfl rfl (fun k u hk => hI.cell 0 rfl (by rw [Nat.zero_add, List.getElem?_toArray]; exact hk)))) ?_
  refine WT_take 4 rfl rfl (by kernel_rfl) (hXS _ hI.d3) rfl (fun W hW => have hI := hSx W hW; (rBuild (qs := [(1, .int .i64 _)]) (vs := [_, _]) [.int .i64 0, .int .i64 0] [1] rfl rfl rfl (fun _ => by kernel_rfl))) ?_
  refine WT_take 5 rfl rfl (by kernel_rfl) (hXS _ hI.d3) rfl (fun W hW => have hI := hSx W hW; (rBuild (qs := [(0, .agg #[_, _])]) (vs := [_, _, _]) [.int .i64 0, .int .i64 0, .int .i64 0] [0] rfl rfl rfl (fun _ => by kernel_rfl))) ?_
  refine WT_take 6 rfl rfl (by kernel_rfl) (hXS _ hI.d3) rfl (fun W hW => have hI := hSx W hW; (rNilChk rfl rfl)) ?_
  refine WT_take 7 rfl rfl (by kernel_rfl) (hXS _ hI.d3) rfl (fun W hW => have hI := hSx W hW; (by exact rFld0 rfl (by kernel_rfl) rfl)) ?_
  refine WT_one 8 rfl (by kernel_rfl) rfl ?_
  refine WL_st 3 rfl (u := .bool true) (j := 0 + c' * 15) hI rfl rfl rfl rfl rfl rfl (by kernel_rfl) rfl (clX_blt0 hc1) (clX_set0 (x := s1.cl c') (cv := cntV L1 s1 c') (cv' := cntV L1 s1 c') (x' := { s1.cl c' with busy := true }) hc1 rfl) ?_
  clear hI; intro w hI
  refine WL_nil ⟨hXS _ hI.d3, ?_⟩
  refine WT_take 9 rfl rfl (by kernel_rfl) (hXS _ hI.d3) rfl (fun W hW => have hI := hSx W hW; (rNilChk rfl rfl)) ?_
  refine WT_take 10 rfl rfl (by kernel_rfl) (hXS _ hI.d3) rfl (fun W hW => have hI := hSx W hW; (by exact rFld (off := 2) rfl (by kernel_rfl) rfl)) ?_
  refine WT_one 11 rfl (by kernel_rfl) rfl ?_
  refine WL_stA 3 rfl (u := .agg (evL ev).toArray) (vs := (evL ev).toArray) (n := 7) (j := 0 + c' * 15 + 2) hI rfl rfl rfl rfl rfl rfl (by kernel_rfl) rfl (by have := clX_lt (L := L1) (s := s1) (x := { s1.cl c' with busy := true }) (cv := cntV L1 s1 c') hc1 (j := 14) (by omega); omega) rfl (clX_sp (x := { s1.cl c' with busy := true }) (cv := cntV L1 s1 c') (cv' := cntV L1 s1 c') (x' := { s1.cl c' with busy := true, began := ev }) hc1 2 (by simp [evL]) rfl) ?_
  clear hI; intro w hI
  refine WL_nil ⟨hXS _ hI.d3, ?_⟩
  refine WT_take 12 rfl rfl (by kernel_rfl) (hXS _ hI.d3) rfl (fun W hW => have hI := hSx W hW; (rNilChk rfl rfl)) ?_
  refine WT_take 13 rfl rfl (by kernel_rfl) (hXS _ hI.d3) rfl (fun W hW => have hI := hSx W hW; (by exact rFld (off := 12) rfl (by kernel_rfl) rfl)) ?_
  refine WT_one 14 rfl (by kernel_rfl) rfl ?_
  refine WL_stA 3 rfl (u := .agg (entL ⟨0, -2, 0⟩).toArray) (vs := (entL ⟨0, -2, 0⟩).toArray) (n := 3) (j := 0 + c' * 15 + 12) hI rfl rfl rfl rfl rfl rfl (by kernel_rfl) rfl (by have := clX_lt (L := L1) (s := s1) (x := { s1.cl c' with busy := true, began := ev }) (cv := cntV L1 s1 c') hc1 (j := 14) (by omega); omega) rfl (clX_sp (x := { s1.cl c' with busy := true, began := ev }) (cv := cntV L1 s1 c') (cv' := cntV L1 s1 c') (x' := { s1.cl c' with busy := true, began := ev, best := ⟨0, -2, 0⟩ }) hc1 12 (by simp [entL]) rfl) ?_
  clear hI; intro w hI
  refine WL_nil ⟨hXS _ hI.d3, ?_⟩
  refine WT_end (by kernel_rfl) ?_
  replace hI := cl_back (X := [B b12 48 (evL ev).toArray]) (L := L1) (s := s1) (x' := { s1.cl c' with busy := true, began := ev, best := ⟨0, -2, 0⟩ }) hc1 rfl hI
  obtain ⟨s2, hs2⟩ : ∃ s2, setCl s1 c' { s1.cl c' with busy := true, began := ev, best := ⟨0, -2, 0⟩ } = s2 := ⟨_, rfl⟩
  rw [hs2] at hI
  have hk2 : s2.k = s.k := by rw [← hs2]; exact hk1
  have hn2 : s2.n = s.n := by rw [← hs2]; exact hn1
  have hx2 : s2.cl c' = { s1.cl c' with busy := true, began := ev, best := ⟨0, -2, 0⟩ } := by rw [← hs2, setCl_self]
  have hbeg : begS s c' kn write value = sendF s2 c' 1 ⟨0, 0, 0⟩ := by rw [← hs2, ← hs1, ← hev]; rfl
  have hn := h.n1
  have hk8 := h.k1
  refine W_seq ?_
  refine W_region ?_
  refine WL_val rfl rfl rfl (by exact rMoveP rfl rfl) ?_
  refine WL_val rfl rfl rfl (by exact rMoveI rfl rfl) ?_
  refine WL_val rfl rfl rfl (rBuild (qs := []) (vs := [.int .i64 0, .int .i64 0, .int .i64 0]) [.int .i64 0, .int .i64 0, .int .i64 0] [] rfl rfl rfl (fun _ => by kernel_rfl)) ?_
  refine WL_call rfl rfl rfl (rCall (vs := [.pointer _, .int .i64 _, .int .i64 _, .agg _]) rfl Tryz.func24 rfl rfl rfl) ?_
  rw [← hsb1]
  refine (ssend_any L1 s2 c' 1 ⟨0, 0, 0⟩ (by omega) (by omega) (by omega) (by rw [hx2]; show (s1.cl c').round ≤ 1000000; rw [hcl1]; have := hcx.1; omega) (by rw [hx2, ← hev]; show (0 : Int) ≤ (kn : Int); omega) (DLs _) _ (hI.fromB (X := [_]))).mono ?_
  rintro en w1 ⟨rfl, b', MA, mc, hJ⟩
  refine ⟨_, rfl, ?_⟩
  replace hI := hI.callB (X := [_]) hJ
  refine WL_nil ?_
  refine W_seq ?_
  refine W_region ?_
  refine WL_val rfl rfl rfl (by exact rAsgnN rfl rfl) ?_
  refine WL_nil ?_
  refine W_ret ?_
  refine ret1 10 (.inr rfl) rfl ⟨_, { L1 with cw := fun i => if i = c' then some b' else L1.cw i, MA := MA, mc := mc }, begS s c' kn write value, rfl, .inr (.inl ⟨c', kn, write, value, hc, hb, hgn, hkn, ⟨hg1.2.2.1, hg1.2.2.2⟩, rfl⟩), ?_, rfl, by rw [← hL1], by rw [hbeg]; exact hI.d0, fun c2 k2 hm2 hk2 _ _ _ _ => by
    obtain rfl : c' = c2 := by have := hm2.eq; omega
    obtain rfl : kn = k2 := by omega
    exact ⟨rfl, rfl⟩⟩
  exact (h.loc (L' := L1) (by rw [← hL1])).begin hc hb hroom hkn (by show (if c' = c' then some b' else L1.cw c') ≠ none; rw [if_pos rfl]; exact fun h => by cases h) (fun i hi => if_neg hi)
end Go.Proofs.YtglioflpblpmpaaGreatDoor
namespace Go.Proofs.YtglioflpblpmpaaGreatDoor
open Go.RowKit
set_option linter.unusedVariables false
set_option linter.unusedSimpArgs false
section
variable {P : Program} {N : Nat} {ops : Array Oper} {Q : XPost} {rest : List Oper} {ρ : Env} {o : Oper} {w0 w w' : World} {S : Nat → Prop} {H : List Ent} {d g t tt : Nat} {cs : Array Value} {v : Value}
theorem made_flat (zs : List Value) (n : Nat) (h : 0 < zs.length) : madeCells zs.toArray (n * zs.length) = flatB n (fun _ => zs) := by
  apply Array.ext
  · simp [madeCells, flatB_size (m := zs.length) (f := fun _ => zs) (fun _ => rfl)]
  · intro j h1 h2
    have hj : j < n * zs.length := by simpa [madeCells] using h1
    have hm : j % zs.length < zs.length := Nat.mod_lt _ h
    have hd : j / zs.length < n := Nat.div_lt_of_lt_mul (by rw [Nat.mul_comm]; exact hj)
    have h3 := flatB_at (f := fun _ => zs) (m := zs.length) (n := n) (fun _ => rfl) hd hm
    rw [show j / zs.length * zs.length + j % zs.length = j by rw [Nat.mul_comm]; exact Nat.div_add_mod _ _, Array.getElem?_eq_getElem h2, List.getElem?_eq_getElem hm] at h3
    injection h3 with h3
    rw [h3]
    simp [madeCells, hm]
theorem WL_mkZ {x y : Operand} {e n m by_ : Nat} {z : Value} (zs : List Value) (hI : Inv S w0 w H) (hw : wantedR ops ρ o = true) (hd : o.dst = some d) (hN : Nat.blt d N = true) (ho : o.op = .makeSlice t x y) (hx : ev ρ x = .int .i64 (n : Int)) (hy : ev ρ y = .int .i64 (n : Int))
    (ht : P.underlying t = some (.slice e)) (hi : (P.info? e).map (fun i => (i.zero, i.size, i.bytes)) = some (some z, m, by_)) (hz : z.cells = zs.toArray) (hzl : zs.length = m) (hm : 0 < m) (hb : by_ * n ≤ 281474976710656) (h63 : n ≤ 9223372036854775807)
    (h : ∀ g w', Pure w w' → g = w.heap.size → Inv S w0 w' (B g e (flatB n fun _ => zs) :: H) → WL P N ops Q rest (upd ρ d (.slice (some ⟨g, 0, none⟩) n n)) w') : WL P N ops Q (o :: rest) ρ w := by
  cases hp : P.info? e with
  | none => simp [hp] at hi
  | some i =>
    simp only [hp, Option.map_some, Option.some.injEq, Prod.mk.injEq] at hi
    obtain ⟨h1, h2, h3⟩ := hi
    subst h2 h3
    have hb : (i.bytes : Int) * (n : Int) ≤ 281474976710656 := by
      have h : ((i.bytes * n : Nat) : Int) ≤ 281474976710656 := by omega
      rwa [Int.natCast_mul] at h
    have hr := run_make (P := P) w t e i z ht hp h1 .i64 .i64 n n (by omega) (by omega) hb (by omega)
    rw [hz, Int.toNat_natCast, ← hzl, made_flat zs n (by omega)] at hr
    exact WL_eff hw hd hN (by simp [execOp, ho, hx, hy, hr]) (h _ _ ((Pure.refl w).alloc _) rfl (hI.box e _))
end
/-- What may be set up. -/
def SetOk (n k a t : Int) : Prop := (1 ≤ n ∧ n ≤ 7) ∧ (1 ≤ k ∧ k ≤ 8) ∧ (1 ≤ a ∧ a ≤ n) ∧ (1 ≤ t ∧ t ≤ n)
instance (n k a t : Int) : Decidable (SetOk n k a t) := inferInstanceAs (Decidable (_ ∧ _))
set_option maxHeartbeats 2000000 in
theorem scheck_any (n k a t : Int) (b : Bool) (w0 : World) :
    Calls Tryz.prog 5 #[.agg #[.int .i64 n, .int .i64 k, .int .i64 a, .int .i64 t, .bool b]] w0 fun en w' => ((SetOk n k a t ∧ en = .returned .nilIface) ∨ (¬ SetOk n k a t ∧ ∃ z, en = .returned (.iface 49 (.int .i64 z)))) ∧ Pure w0 w' := by
  have hI := Inv.start (fun _ => False) w0
  refine calls_of_W (N := Tryz.f5.ntmps) Tryz.func5 rfl rfl rfl ?_
  refine W_seq ?_
  refine W_region ?_
  refine WL_box (u := .agg _) (vs := #[_, _, _, _, _]) hI rfl rfl rfl rfl rfl rfl ?_
  clear hI; rintro b1 w - - hI
  refine WL_val rfl rfl rfl (by exact rAsgnN rfl rfl) ?_
  refine WL_nil ?_
  refine W_seq ?_
  refine W_block ?_
  by_cases h1 : n < 1 ∨ 7 < n ∨ k < 1 ∨ 8 < k
  · refine W_seq_cut (fun ρ w => ρ 3 = .bool true ∧ Pure w0 w) ?_ ?_
    · by_cases q1 : n < 1
      · refine W_region ?_
        refine WL_val rfl rfl rfl (by exact rFldN (off := 0) rfl (by kernel_rfl) rfl) ?_
        refine WL_val rfl rfl rfl (by exact rLd (v := .int .i64 _) rfl (by kernel_rfl) rfl (by exact hI.c0 rfl)) ?_
        refine WL_val rfl rfl rfl (by exact rLssT rfl rfl rfl (by omega)) ?_
        refine WL_val rfl rfl rfl (by exact rMoveB rfl rfl) ?_
        refine WL_skip rfl rfl rfl ?_
        refine WL_skip rfl rfl rfl ?_
        refine WL_skip rfl rfl rfl ?_
        refine WL_val rfl rfl rfl (by exact rPickTB rfl rfl rfl) ?_
        refine WL_val rfl rfl rfl (by exact rMoveB rfl rfl) ?_
        refine WL_skip rfl rfl rfl ?_
        refine WL_skip rfl rfl rfl ?_
        refine WL_skip rfl rfl rfl ?_
        refine WL_val rfl rfl rfl (by exact rPickTB rfl rfl rfl) ?_
        refine WL_val rfl rfl rfl (by exact rMoveB rfl rfl) ?_
        refine WL_skip rfl rfl rfl ?_
        refine WL_skip rfl rfl rfl ?_
        refine WL_skip rfl rfl rfl ?_
        refine WL_val rfl rfl rfl (by exact rPickTB rfl rfl rfl) ?_
        refine WL_val rfl rfl rfl (by exact rAsgnB rfl rfl) ?_
        refine WL_nil ?_
        exact ⟨rfl, hI.pu⟩
      by_cases q2 : 7 < n
      · refine W_region ?_
        refine WL_val rfl rfl rfl (by exact rFldN (off := 0) rfl (by kernel_rfl) rfl) ?_
        refine WL_val rfl rfl rfl (by exact rLd (v := .int .i64 _) rfl (by kernel_rfl) rfl (by exact hI.c0 rfl)) ?_
        refine WL_val rfl rfl rfl (by exact rLssF rfl rfl rfl (by omega)) ?_
        refine WL_val rfl rfl rfl (by exact rMoveB rfl rfl) ?_
        refine WL_val rfl rfl rfl (by exact rFldN (off := 0) rfl (by kernel_rfl) rfl) ?_
        refine WL_val rfl rfl rfl (by exact rLd (v := .int .i64 _) rfl (by kernel_rfl) rfl (by exact hI.c0 rfl)) ?_
        refine WL_val rfl rfl rfl (by exact rGtrT rfl rfl rfl (by omega)) ?_
        refine WL_val rfl rfl rfl (by exact rPickFB rfl rfl rfl) ?_
        refine WL_val rfl rfl rfl (by exact rMoveB rfl rfl) ?_
        refine WL_skip rfl rfl rfl ?_
        refine WL_skip rfl rfl rfl ?_
        refine WL_skip rfl rfl rfl ?_
        refine WL_val rfl rfl rfl (by exact rPickTB rfl rfl rfl) ?_
        refine WL_val rfl rfl rfl (by exact rMoveB rfl rfl) ?_
        refine WL_skip rfl rfl rfl ?_
        refine WL_skip rfl rfl rfl ?_
        refine WL_skip rfl rfl rfl ?_
        refine WL_val rfl rfl rfl (by exact rPickTB rfl rfl rfl) ?_
        refine WL_val rfl rfl rfl (by exact rAsgnB rfl rfl) ?_
        refine WL_nil ?_
        exact ⟨rfl, hI.pu⟩
      by_cases q3 : k < 1
      · refine W_region ?_
        refine WL_val rfl rfl rfl (by exact rFldN (off := 0) rfl (by kernel_rfl) rfl) ?_
        refine WL_val rfl rfl rfl (by exact rLd (v := .int .i64 _) rfl (by kernel_rfl) rfl (by exact hI.c0 rfl)) ?_
        refine WL_val rfl rfl rfl (by exact rLssF rfl rfl rfl (by omega)) ?_
        refine WL_val rfl rfl rfl (by exact rMoveB rfl rfl) ?_
        refine WL_val rfl rfl rfl (by exact rFldN (off := 0) rfl (by kernel_rfl) rfl) ?_
        refine WL_val rfl rfl rfl (by exact rLd (v := .int .i64 _) rfl (by kernel_rfl) rfl (by exact hI.c0 rfl)) ?_
        refine WL_val rfl rfl rfl (by exact rGtrF rfl rfl rfl (by omega)) ?_
        refine WL_val rfl rfl rfl (by exact rPickFB rfl rfl rfl) ?_
        refine WL_val rfl rfl rfl (by exact rMoveB rfl rfl) ?_
        refine WL_val rfl rfl rfl (by exact rFldN (off := 1) rfl (by kernel_rfl) rfl) ?_
        refine WL_val rfl rfl rfl (by exact rLd (v := .int .i64 _) rfl (by kernel_rfl) rfl (by exact hI.c0 rfl)) ?_
        refine WL_val rfl rfl rfl (by exact rLssT rfl rfl rfl (by omega)) ?_
        refine WL_val rfl rfl rfl (by exact rPickFB rfl rfl rfl) ?_
        refine WL_val rfl rfl rfl (by exact rMoveB rfl rfl) ?_
        refine WL_skip rfl rfl rfl ?_
        refine WL_skip rfl rfl rfl ?_
        refine WL_skip rfl rfl rfl ?_
        refine WL_val rfl rfl rfl (by exact rPickTB rfl rfl rfl) ?_
        refine WL_val rfl rfl rfl (by exact rAsgnB rfl rfl) ?_
        refine WL_nil ?_
        exact ⟨rfl, hI.pu⟩
      have q4 : 8 < k := by omega
      refine W_region ?_
      refine WL_val rfl rfl rfl (by exact rFldN (off := 0) rfl (by kernel_rfl) rfl) ?_
      refine WL_val rfl rfl rfl (by exact rLd (v := .int .i64 _) rfl (by kernel_rfl) rfl (by exact hI.c0 rfl)) ?_
      refine WL_val rfl rfl rfl (by exact rLssF rfl rfl rfl (by omega)) ?_
      refine WL_val rfl rfl rfl (by exact rMoveB rfl rfl) ?_
      refine WL_val rfl rfl rfl (by exact rFldN (off := 0) rfl (by kernel_rfl) rfl) ?_
      refine WL_val rfl rfl rfl (by exact rLd (v := .int .i64 _) rfl (by kernel_rfl) rfl (by exact hI.c0 rfl)) ?_
      refine WL_val rfl rfl rfl (by exact rGtrF rfl rfl rfl (by omega)) ?_
      refine WL_val rfl rfl rfl (by exact rPickFB rfl rfl rfl) ?_
      refine WL_val rfl rfl rfl (by exact rMoveB rfl rfl) ?_
      refine WL_val rfl rfl rfl (by exact rFldN (off := 1) rfl (by kernel_rfl) rfl) ?_
      refine WL_val rfl rfl rfl (by exact rLd (v := .int .i64 _) rfl (by kernel_rfl) rfl (by exact hI.c0 rfl)) ?_
      refine WL_val rfl rfl rfl (by exact rLssF rfl rfl rfl (by omega)) ?_
      refine WL_val rfl rfl rfl (by exact rPickFB rfl rfl rfl) ?_
      refine WL_val rfl rfl rfl (by exact rMoveB rfl rfl) ?_
      refine WL_val rfl rfl rfl (by exact rFldN (off := 1) rfl (by kernel_rfl) rfl) ?_
      refine WL_val rfl rfl rfl (by exact rLd (v := .int .i64 _) rfl (by kernel_rfl) rfl (by exact hI.c0 rfl)) ?_
      refine WL_val rfl rfl rfl (by exact rGtrT rfl rfl rfl (by omega)) ?_
      refine WL_val rfl rfl rfl (by exact rPickFB rfl rfl rfl) ?_
      refine WL_val rfl rfl rfl (by exact rAsgnB rfl rfl) ?_
      refine WL_nil ?_
      exact ⟨rfl, hI.pu⟩
    · clear hI
      rintro ρ w ⟨h3, hp⟩
      refine W_cond true h3 ?_
      refine W_seq ?_
      refine W_region ?_
      refine WL_val rfl rfl rfl (rIface rfl Tryz.underlying49 rfl rfl) ?_
      refine WL_val rfl rfl rfl (by exact rAsgnE rfl rfl) ?_
      refine WL_nil ?_
      refine W_ret ?_
      exact ret1 2 (.inr rfl) rfl ⟨.inr ⟨fun h => by unfold SetOk at h; omega, _, rfl⟩, hp⟩
  refine W_seq ?_
  refine W_region ?_
  refine WL_val rfl rfl rfl (by exact rFldN (off := 0) rfl (by kernel_rfl) rfl) ?_
  refine WL_val rfl rfl rfl (by exact rLd (v := .int .i64 _) rfl (by kernel_rfl) rfl (by exact hI.c0 rfl)) ?_
  refine WL_val rfl rfl rfl (by exact rLssF rfl rfl rfl (by omega)) ?_
  refine WL_val rfl rfl rfl (by exact rMoveB rfl rfl) ?_
  refine WL_val rfl rfl rfl (by exact rFldN (off := 0) rfl (by kernel_rfl) rfl) ?_
  refine WL_val rfl rfl rfl (by exact rLd (v := .int .i64 _) rfl (by kernel_rfl) rfl (by exact hI.c0 rfl)) ?_
  refine WL_val rfl rfl rfl (by exact rGtrF rfl rfl rfl (by omega)) ?_
  refine WL_val rfl rfl rfl (by exact rPickFB rfl rfl rfl) ?_
  refine WL_val rfl rfl rfl (by exact rMoveB rfl rfl) ?_
  refine WL_val rfl rfl rfl (by exact rFldN (off := 1) rfl (by kernel_rfl) rfl) ?_
  refine WL_val rfl rfl rfl (by exact rLd (v := .int .i64 _) rfl (by kernel_rfl) rfl (by exact hI.c0 rfl)) ?_
  refine WL_val rfl rfl rfl (by exact rLssF rfl rfl rfl (by omega)) ?_
  refine WL_val rfl rfl rfl (by exact rPickFB rfl rfl rfl) ?_
  refine WL_val rfl rfl rfl (by exact rMoveB rfl rfl) ?_
  refine WL_val rfl rfl rfl (by exact rFldN (off := 1) rfl (by kernel_rfl) rfl) ?_
  refine WL_val rfl rfl rfl (by exact rLd (v := .int .i64 _) rfl (by kernel_rfl) rfl (by exact hI.c0 rfl)) ?_
  refine WL_val rfl rfl rfl (by exact rGtrF rfl rfl rfl (by omega)) ?_
  refine WL_val rfl rfl rfl (by exact rPickFB rfl rfl rfl) ?_
  refine WL_val rfl rfl rfl (by exact rAsgnB rfl rfl) ?_
  refine WL_nil ?_
  refine W_cond false rfl ?_
  by_cases h2 : a < 1 ∨ n < a ∨ t < 1 ∨ n < t
  · refine W_seq_cut (fun ρ w => ρ 23 = .bool true ∧ Pure w0 w) ?_ ?_
    · by_cases q1 : a < 1
      · refine W_region ?_
        refine WL_val rfl rfl rfl (by exact rFldN (off := 2) rfl (by kernel_rfl) rfl) ?_
        refine WL_val rfl rfl rfl (by exact rLd (v := .int .i64 _) rfl (by kernel_rfl) rfl (by exact hI.c0 rfl)) ?_
        refine WL_val rfl rfl rfl (by exact rLssT rfl rfl rfl (by omega)) ?_
        refine WL_val rfl rfl rfl (by exact rMoveB rfl rfl) ?_
        refine WL_skip rfl rfl rfl ?_
        refine WL_skip rfl rfl rfl ?_
        refine WL_skip rfl rfl rfl ?_
        refine WL_skip rfl rfl rfl ?_
        refine WL_skip rfl rfl rfl ?_
        refine WL_val rfl rfl rfl (by exact rPickTB rfl rfl rfl) ?_
        refine WL_val rfl rfl rfl (by exact rMoveB rfl rfl) ?_
        refine WL_skip rfl rfl rfl ?_
        refine WL_skip rfl rfl rfl ?_
        refine WL_skip rfl rfl rfl ?_
        refine WL_val rfl rfl rfl (by exact rPickTB rfl rfl rfl) ?_
        refine WL_val rfl rfl rfl (by exact rMoveB rfl rfl) ?_
        refine WL_skip rfl rfl rfl ?_
        refine WL_skip rfl rfl rfl ?_
        refine WL_skip rfl rfl rfl ?_
        refine WL_skip rfl rfl rfl ?_
        refine WL_skip rfl rfl rfl ?_
        refine WL_val rfl rfl rfl (by exact rPickTB rfl rfl rfl) ?_
        refine WL_val rfl rfl rfl (by exact rAsgnB rfl rfl) ?_
        refine WL_nil ?_
        exact ⟨rfl, hI.pu⟩
      by_cases q2 : n < a
      · refine W_region ?_
        refine WL_val rfl rfl rfl (by exact rFldN (off := 2) rfl (by kernel_rfl) rfl) ?_
        refine WL_val rfl rfl rfl (by exact rLd (v := .int .i64 _) rfl (by kernel_rfl) rfl (by exact hI.c0 rfl)) ?_
        refine WL_val rfl rfl rfl (by exact rLssF rfl rfl rfl (by omega)) ?_
        refine WL_val rfl rfl rfl (by exact rMoveB rfl rfl) ?_
        refine WL_val rfl rfl rfl (by exact rFldN (off := 2) rfl (by kernel_rfl) rfl) ?_
        refine WL_val rfl rfl rfl (by exact rLd (v := .int .i64 _) rfl (by kernel_rfl) rfl (by exact hI.c0 rfl)) ?_
        refine WL_val rfl rfl rfl (by exact rFldN (off := 0) rfl (by kernel_rfl) rfl) ?_
        refine WL_val rfl rfl rfl (by exact rLd (v := .int .i64 _) rfl (by kernel_rfl) rfl (by exact hI.c0 rfl)) ?_
        refine WL_val rfl rfl rfl (by exact rGtrT rfl rfl rfl (by omega)) ?_
        refine WL_val rfl rfl rfl (by exact rPickFB rfl rfl rfl) ?_
        refine WL_val rfl rfl rfl (by exact rMoveB rfl rfl) ?_
        refine WL_skip rfl rfl rfl ?_
        refine WL_skip rfl rfl rfl ?_
        refine WL_skip rfl rfl rfl ?_
        refine WL_val rfl rfl rfl (by exact rPickTB rfl rfl rfl) ?_
        refine WL_val rfl rfl rfl (by exact rMoveB rfl rfl) ?_
        refine WL_skip rfl rfl rfl ?_
        refine WL_skip rfl rfl rfl ?_
        refine WL_skip rfl rfl rfl ?_
        refine WL_skip rfl rfl rfl ?_
        refine WL_skip rfl rfl rfl ?_
        refine WL_val rfl rfl rfl (by exact rPickTB rfl rfl rfl) ?_
        refine WL_val rfl rfl rfl (by exact rAsgnB rfl rfl) ?_
        refine WL_nil ?_
        exact ⟨rfl, hI.pu⟩
      by_cases q3 : t < 1
      · refine W_region ?_
        refine WL_val rfl rfl rfl (by exact rFldN (off := 2) rfl (by kernel_rfl) rfl) ?_
        refine WL_val rfl rfl rfl (by exact rLd (v := .int .i64 _) rfl (by kernel_rfl) rfl (by exact hI.c0 rfl)) ?_
        refine WL_val rfl rfl rfl (by exact rLssF rfl rfl rfl (by omega)) ?_
        refine WL_val rfl rfl rfl (by exact rMoveB rfl rfl) ?_
        refine WL_val rfl rfl rfl (by exact rFldN (off := 2) rfl (by kernel_rfl) rfl) ?_
        refine WL_val rfl rfl rfl (by exact rLd (v := .int .i64 _) rfl (by kernel_rfl) rfl (by exact hI.c0 rfl)) ?_
        refine WL_val rfl rfl rfl (by exact rFldN (off := 0) rfl (by kernel_rfl) rfl) ?_
        refine WL_val rfl rfl rfl (by exact rLd (v := .int .i64 _) rfl (by kernel_rfl) rfl (by exact hI.c0 rfl)) ?_
        refine WL_val rfl rfl rfl (by exact rGtrF rfl rfl rfl (by omega)) ?_
        refine WL_val rfl rfl rfl (by exact rPickFB rfl rfl rfl) ?_
        refine WL_val rfl rfl rfl (by exact rMoveB rfl rfl) ?_
        refine WL_val rfl rfl rfl (by exact rFldN (off := 3) rfl (by kernel_rfl) rfl) ?_
        refine WL_val rfl rfl rfl (by exact rLd (v := .int .i64 _) rfl (by kernel_rfl) rfl (by exact hI.c0 rfl)) ?_
        refine WL_val rfl rfl rfl (by exact rLssT rfl rfl rfl (by omega)) ?_
        refine WL_val rfl rfl rfl (by exact rPickFB rfl rfl rfl) ?_
        refine WL_val rfl rfl rfl (by exact rMoveB rfl rfl) ?_
        refine WL_skip rfl rfl rfl ?_
        refine WL_skip rfl rfl rfl ?_
        refine WL_skip rfl rfl rfl ?_
        refine WL_skip rfl rfl rfl ?_
        refine WL_skip rfl rfl rfl ?_
        refine WL_val rfl rfl rfl (by exact rPickTB rfl rfl rfl) ?_
        refine WL_val rfl rfl rfl (by exact rAsgnB rfl rfl) ?_
        refine WL_nil ?_
        exact ⟨rfl, hI.pu⟩
      have q4 : n < t := by omega
      refine W_region ?_
      refine WL_val rfl rfl rfl (by exact rFldN (off := 2) rfl (by kernel_rfl) rfl) ?_
      refine WL_val rfl rfl rfl (by exact rLd (v := .int .i64 _) rfl (by kernel_rfl) rfl (by exact hI.c0 rfl)) ?_
      refine WL_val rfl rfl rfl (by exact rLssF rfl rfl rfl (by omega)) ?_
      refine WL_val rfl rfl rfl (by exact rMoveB rfl rfl) ?_
      refine WL_val rfl rfl rfl (by exact rFldN (off := 2) rfl (by kernel_rfl) rfl) ?_
      refine WL_val rfl rfl rfl (by exact rLd (v := .int .i64 _) rfl (by kernel_rfl) rfl (by exact hI.c0 rfl)) ?_
      refine WL_val rfl rfl rfl (by exact rFldN (off := 0) rfl (by kernel_rfl) rfl) ?_
      refine WL_val rfl rfl rfl (by exact rLd (v := .int .i64 _) rfl (by kernel_rfl) rfl (by exact hI.c0 rfl)) ?_
      refine WL_val rfl rfl rfl (by exact rGtrF rfl rfl rfl (by omega)) ?_
      refine WL_val rfl rfl rfl (by exact rPickFB rfl rfl rfl) ?_
      refine WL_val rfl rfl rfl (by exact rMoveB rfl rfl) ?_
      refine WL_val rfl rfl rfl (by exact rFldN (off := 3) rfl (by kernel_rfl) rfl) ?_
      refine WL_val rfl rfl rfl (by exact rLd (v := .int .i64 _) rfl (by kernel_rfl) rfl (by exact hI.c0 rfl)) ?_
      refine WL_val rfl rfl rfl (by exact rLssF rfl rfl rfl (by omega)) ?_
      refine WL_val rfl rfl rfl (by exact rPickFB rfl rfl rfl) ?_
      refine WL_val rfl rfl rfl (by exact rMoveB rfl rfl) ?_
      refine WL_val rfl rfl rfl (by exact rFldN (off := 3) rfl (by kernel_rfl) rfl) ?_
      refine WL_val rfl rfl rfl (by exact rLd (v := .int .i64 _) rfl (by kernel_rfl) rfl (by exact hI.c0 rfl)) ?_
      refine WL_val rfl rfl rfl (by exact rFldN (off := 0) rfl (by kernel_rfl) rfl) ?_
      refine WL_val rfl rfl rfl (by exact rLd (v := .int .i64 _) rfl (by kernel_rfl) rfl (by exact hI.c0 rfl)) ?_
      refine WL_val rfl rfl rfl (by exact rGtrT rfl rfl rfl (by omega)) ?_
      refine WL_val rfl rfl rfl (by exact rPickFB rfl rfl rfl) ?_
      refine WL_val rfl rfl rfl (by exact rAsgnB rfl rfl) ?_
      refine WL_nil ?_
      exact ⟨rfl, hI.pu⟩
    · clear hI
      rintro ρ w ⟨h3, hp⟩
      refine W_cond true h3 ?_
      refine W_seq ?_
      refine W_region ?_
      refine WL_val rfl rfl rfl (rIface rfl Tryz.underlying49 rfl rfl) ?_
      refine WL_val rfl rfl rfl (by exact rAsgnE rfl rfl) ?_
      refine WL_nil ?_
      refine W_ret ?_
      exact ret1 2 (.inr rfl) rfl ⟨.inr ⟨fun h => by unfold SetOk at h; omega, _, rfl⟩, hp⟩
  refine W_seq ?_
  refine W_region ?_
  refine WL_val rfl rfl rfl (by exact rFldN (off := 2) rfl (by kernel_rfl) rfl) ?_
  refine WL_val rfl rfl rfl (by exact rLd (v := .int .i64 _) rfl (by kernel_rfl) rfl (by exact hI.c0 rfl)) ?_
  refine WL_val rfl rfl rfl (by exact rLssF rfl rfl rfl (by omega)) ?_
  refine WL_val rfl rfl rfl (by exact rMoveB rfl rfl) ?_
  refine WL_val rfl rfl rfl (by exact rFldN (off := 2) rfl (by kernel_rfl) rfl) ?_
  refine WL_val rfl rfl rfl (by exact rLd (v := .int .i64 _) rfl (by kernel_rfl) rfl (by exact hI.c0 rfl)) ?_
  refine WL_val rfl rfl rfl (by exact rFldN (off := 0) rfl (by kernel_rfl) rfl) ?_
  refine WL_val rfl rfl rfl (by exact rLd (v := .int .i64 _) rfl (by kernel_rfl) rfl (by exact hI.c0 rfl)) ?_
  refine WL_val rfl rfl rfl (by exact rGtrF rfl rfl rfl (by omega)) ?_
  refine WL_val rfl rfl rfl (by exact rPickFB rfl rfl rfl) ?_
  refine WL_val rfl rfl rfl (by exact rMoveB rfl rfl) ?_
  refine WL_val rfl rfl rfl (by exact rFldN (off := 3) rfl (by kernel_rfl) rfl) ?_
  refine WL_val rfl rfl rfl (by exact rLd (v := .int .i64 _) rfl (by kernel_rfl) rfl (by exact hI.c0 rfl)) ?_
  refine WL_val rfl rfl rfl (by exact rLssF rfl rfl rfl (by omega)) ?_
  refine WL_val rfl rfl rfl (by exact rPickFB rfl rfl rfl) ?_
  refine WL_val rfl rfl rfl (by exact rMoveB rfl rfl) ?_
  refine WL_val rfl rfl rfl (by exact rFldN (off := 3) rfl (by kernel_rfl) rfl) ?_
  refine WL_val rfl rfl rfl (by exact rLd (v := .int .i64 _) rfl (by kernel_rfl) rfl (by exact hI.c0 rfl)) ?_
  refine WL_val rfl rfl rfl (by exact rFldN (off := 0) rfl (by kernel_rfl) rfl) ?_
  refine WL_val rfl rfl rfl (by exact rLd (v := .int .i64 _) rfl (by kernel_rfl) rfl (by exact hI.c0 rfl)) ?_
  refine WL_val rfl rfl rfl (by exact rGtrF rfl rfl rfl (by omega)) ?_
  refine WL_val rfl rfl rfl (by exact rPickFB rfl rfl rfl) ?_
  refine WL_val rfl rfl rfl (by exact rAsgnB rfl rfl) ?_
  refine WL_nil ?_
  refine W_cond false rfl ?_
  refine W_skip ?_
  refine W_seq ?_
  refine W_region ?_
  refine WL_val rfl rfl rfl (by exact rAsgnN rfl rfl) ?_
  refine WL_nil ?_
  refine W_ret ?_
  exact ret1 2 (.inr rfl) rfl ⟨.inl ⟨by unfold SetOk; omega, rfl⟩, hI.pu⟩
set_option maxHeartbeats 1000000 in
theorem crossing_any (n k a t : Int) (b : Bool) (w0 : World) (h : SetOk n k a t) :
    Calls Tryz.prog 6 #[.agg #[.int .i64 n, .int .i64 k, .int .i64 a, .int .i64 t, .bool b]] w0 fun en w' => en = .returned (.bool (decide (n < a + t))) ∧ Pure w0 w' := by
  have hI := Inv.start (fun _ => False) w0
  unfold SetOk at h
  refine calls_of_W (N := Tryz.f6.ntmps) Tryz.func6 rfl rfl rfl ?_
  refine W_seq ?_
  refine W_region ?_
  refine WL_box (u := .agg _) (vs := #[_, _, _, _, _]) hI rfl rfl rfl rfl rfl rfl ?_
  clear hI; rintro b1 w - - hI
  refine WL_val rfl rfl rfl (by exact rAsgnB rfl rfl) ?_
  refine WL_nil ?_
  by_cases hq : n < a + t
  · rw [decide_eq_true hq]
    refine W_seq ?_
    refine W_region ?_
    refine WL_val rfl rfl rfl (by exact rFldN (off := 2) rfl (by kernel_rfl) rfl) ?_
    refine WL_val rfl rfl rfl (by exact rLd (v := .int .i64 _) rfl (by kernel_rfl) rfl (by exact hI.c0 rfl)) ?_
    refine WL_val rfl rfl rfl (by exact rFldN (off := 3) rfl (by kernel_rfl) rfl) ?_
    refine WL_val rfl rfl rfl (by exact rLd (v := .int .i64 _) rfl (by kernel_rfl) rfl (by exact hI.c0 rfl)) ?_
    refine WL_val rfl rfl rfl (by exact rAdd rfl rfl rfl (by omega)) ?_
    refine WL_val rfl rfl rfl (by exact rFldN (off := 0) rfl (by kernel_rfl) rfl) ?_
    refine WL_val rfl rfl rfl (by exact rLd (v := .int .i64 _) rfl (by kernel_rfl) rfl (by exact hI.c0 rfl)) ?_
    refine WL_val rfl rfl rfl (by exact rGtrT rfl rfl rfl (by omega)) ?_
    refine WL_val rfl rfl rfl (by exact rAsgnB rfl rfl) ?_
    refine WL_nil ?_
    refine W_ret ?_
    exact ret1 2 (.inr rfl) rfl ⟨rfl, hI.pu⟩
  · rw [decide_eq_false hq]
    refine W_seq ?_
    refine W_region ?_
    refine WL_val rfl rfl rfl (by exact rFldN (off := 2) rfl (by kernel_rfl) rfl) ?_
    refine WL_val rfl rfl rfl (by exact rLd (v := .int .i64 _) rfl (by kernel_rfl) rfl (by exact hI.c0 rfl)) ?_
    refine WL_val rfl rfl rfl (by exact rFldN (off := 3) rfl (by kernel_rfl) rfl) ?_
    refine WL_val rfl rfl rfl (by exact rLd (v := .int .i64 _) rfl (by kernel_rfl) rfl (by exact hI.c0 rfl)) ?_
    refine WL_val rfl rfl rfl (by exact rAdd rfl rfl rfl (by omega)) ?_
    refine WL_val rfl rfl rfl (by exact rFldN (off := 0) rfl (by kernel_rfl) rfl) ?_
    refine WL_val rfl rfl rfl (by exact rLd (v := .int .i64 _) rfl (by kernel_rfl) rfl (by exact hI.c0 rfl)) ?_
    refine WL_val rfl rfl rfl (by exact rGtrF rfl rfl rfl (by omega)) ?_
    refine WL_val rfl rfl rfl (by exact rAsgnB rfl rfl) ?_
    refine WL_nil ?_
    refine W_ret ?_
    exact ret1 2 (.inr rfl) rfl ⟨rfl, hI.pu⟩
def x0C : SCl := ⟨false, false, ⟨0, 0, 0, 0, 0, 0, 0⟩, false, 0, [], ⟨0, 0, 0⟩⟩
def s0 (n k a t : Nat) (b : Bool) : StS := ⟨n, k, a, t, b, fun _ _ => ⟨0, -1, 0⟩, fun _ => x0C, [], [], []⟩
def zEnt : List Value := [.int .i64 0, .int .i64 0, .int .i64 0, .int .i64 0, .int .i64 0, .int .i64 0, .int .i64 0, .int .i64 0, .int .i64 0, .int .i64 0, .int .i64 0, .int .i64 0, .int .i64 0, .int .i64 0, .int .i64 0, .int .i64 0, .int .i64 0, .int .i64 0, .int .i64 0, .int .i64 0, .int .i64 0, .int .i64 0, .int .i64 0, .int .i64 0]
theorem Inv.manyE {S : Nat → Prop} {w0 w : World} {H : List Ent} (h : Inv S w0 w H) (n : Nat) {es : Nat → Ent} (he : ∀ i, es i = Ent.nil) : Inv S w0 w (Many n es :: H) :=
  h.fresh (Pure.refl _) (Many.ok (fun i _ => by rw [he]; exact Ent.nil_ok _) (fun i j _ _ _ k hk => by rw [he] at hk; exact hk.elim)) (fun k ⟨i, _, hk⟩ => by rw [he] at hk; exact hk.elim)
/-- The nodes, as far as they are begun. -/
def ndTo (j key : Nat) (i : Nat) : List Value := if i < j * 8 + key then entL ⟨0, -1, 0⟩ else entL ⟨0, 0, 0⟩
theorem ndTo_set {n j key : Nat} (hj : j < n) (hk : key < 8) : splice (flatB (n * 8) (ndTo j key)) (0 + j * 24 + key * 3) (entL ⟨0, -1, 0⟩) = flatB (n * 8) (ndTo j (key + 1)) := by
  have h0 := nd_off j key 0
  rw [Nat.add_zero] at h0
  have hl : ∀ a b i, (ndTo a b i).length = 3 := fun a b i => by unfold ndTo; split <;> rfl
  rw [h0]
  refine flatB_splice (fun i => hl _ _ i) (fun i => hl _ _ i) (by omega) (by simp [entL]) (fun i hi => ?_) ?_
  · unfold ndTo
    by_cases h1 : i < j * 8 + key
    · rw [if_pos h1, if_pos (by omega)]
    · rw [if_neg h1, if_neg (by omega)]
  · unfold ndTo
    rw [if_pos (by omega), if_neg (by omega)]
    rfl
theorem ndTo_next {n j : Nat} : flatB (n * 8) (ndTo j 8) = flatB (n * 8) (ndTo (j + 1) 0) := flatB_congr fun i _ => by
  unfold ndTo
  rw [show j * 8 + 8 = (j + 1) * 8 + 0 by omega]
theorem nd_start (n : Nat) : flatB n (fun _ => zEnt) = flatB (n * 8) (ndTo 0 0) := by
  have h1 : flatB (n * 8) (ndTo 0 0) = flatB (n * 8) (fun _ => entL ⟨0, 0, 0⟩) := flatB_congr fun i _ => by unfold ndTo; rw [if_neg (by omega)]
  rw [h1]
  apply Array.ext_getElem?
  intro x
  by_cases hx : x < n * 24
  · have a1 := flatB_at (f := fun _ => zEnt) (m := 24) (n := n) (fun _ => rfl) (i := x / 24) (j := x % 24) (by omega) (by omega)
    have a2 := flatB_at (f := fun _ => entL ⟨0, 0, 0⟩) (m := 3) (n := n * 8) (fun _ => rfl) (i := x / 3) (j := x % 3) (by omega) (by omega)
    rw [show x / 24 * 24 + x % 24 = x by omega] at a1
    rw [show x / 3 * 3 + x % 3 = x by omega] at a2
    rw [a1, a2]
    have e1 : ∀ (l : List Value) (i : Nat), (∀ v ∈ l, v = .int .i64 0) → i < l.length → l[i]? = some (.int .i64 0) := fun l i hl hi => by
      rw [List.getElem?_eq_getElem hi, hl _ (List.getElem_mem _)]
    rw [e1 zEnt _ (by simp [zEnt]) (by show x % 24 < 24; omega), e1 (entL ⟨0, 0, 0⟩) _ (by simp [entL]) (by show x % 3 < 3; omega)]
  · rw [Array.getElem?_eq_none (by rw [flatB_size (m := 24) (fun _ => rfl)]; omega), Array.getElem?_eq_none (by rw [flatB_size (m := 3) (fun _ => rfl)]; omega)]
theorem nd_end {n k a t : Nat} {b : Bool} : flatB (n * 8) (ndTo n 0) = flatB (n * 8) (ndF (s0 n k a t b)) := flatB_congr fun i hi => by
  unfold ndTo
  rw [if_pos (by omega)]
  rfl
end Go.Proofs.YtglioflpblpmpaaGreatDoor
namespace Go.Proofs.YtglioflpblpmpaaGreatDoor
open Go.RowKit
set_option linter.unusedVariables false
set_option linter.unusedSimpArgs false
def zCl : List Value := clL x0C (.slice none 0 0)
def stZ (n k a t : Nat) (b : Bool) (nb cb : Nat) : Array Value := #[.int .i64 (n : Int), .int .i64 (k : Int), .int .i64 (a : Int), .int .i64 (t : Int), .bool b, .slice (some ⟨nb, 0, none⟩) n n, .slice (some ⟨cb, 0, none⟩) k k, .slice none 0 0, .slice none 0 0, .bool false, .slice none 0 0, .slice none 0 0]
def zL (sb nb cb : Nat) : StL := ⟨sb, nb, cb, fun _ => none, none, 0, none, 0, 0, false, [], fun _ => False, none, 0, none, 0⟩
theorem s0_parts {S : Nat → Prop} {w0 w : World} {n k a t sb nb cb : Nat} {b : Bool} (hI : Inv S w0 w [B sb 73 (stZ n k a t b nb cb), B nb 80 (flatB (n * 8) (ndTo n 0)), B cb 84 (flatB k fun _ => zCl)]) : Inv S w0 w (spt (zL sb nb cb) (s0 n k a t b)) := by
  rw [nd_end (n := n) (k := k) (a := a) (t := t) (b := b)] at hI
  have h1 := (hI.manyE k (es := cntE (zL sb nb cb) (s0 n k a t b)) (fun i => rfl)).back 3
  have h2 := (h1.fresh (Pure.refl _) (Row.nil _ 0 89 9) (fun k hk => by simp [Row] at hk)).back 4
  have h3 := (h2.fresh (Pure.refl _) (Row.nil _ 0 55 1) (fun k hk => by simp [Row] at hk)).back 5
  have h4 := (h3.fresh (Pure.refl _) (RowsE.ok (w := w) (vals := []) (D := fun _ => False) (fun _ h => h.elim) (fun v hv => by simp at hv)) (fun k hk => hk.elim)).back 6
  have h5 := (h4.fresh (Pure.refl _) (Row.nil _ 0 48 7) (fun k hk => by simp [Row] at hk)).back 7
  exact (h5.fresh (Pure.refl _) (Row.nil _ 0 77 2) (fun k hk => by simp [Row] at hk)).back 8
set_option maxHeartbeats 4000000 in
theorem new_any (n k a t : Nat) (b : Bool) (hs : SetOk n k a t) (w0 : World) :
    Calls Tryz.prog 11 #[.agg #[.int .i64 (n : Int), .int .i64 (k : Int), .int .i64 (a : Int), .int .i64 (t : Int), .bool b]] w0 fun en w' => ∃ sb nb cb, en = .returned (.tuple #[.pointer (some ⟨sb, 0, none⟩), .nilIface]) ∧ Inv (fun _ => False) w0 w' (spt (zL sb nb cb) (s0 n k a t b)) := by
  have hI := Inv.start (fun _ => False) w0
  have hs' := hs
  unfold SetOk at hs'
  refine calls_of_W (N := Tryz.f11.ntmps) Tryz.func11 rfl rfl rfl ?_
  refine W_seq ?_
  refine W_region ?_
  refine WL_box (u := .agg _) (vs := #[_, _, _, _, _]) hI rfl rfl rfl rfl rfl rfl ?_
  clear hI; rintro b1 w - - hI
  refine WL_val rfl rfl rfl (by exact rAsgnP rfl rfl) ?_
  refine WL_val rfl rfl rfl (by exact rAsgnN rfl rfl) ?_
  refine WL_nil ?_
  refine W_seq ?_
  refine W_seq ?_
  refine W_region ?_
  refine WL_val rfl rfl rfl (by exact rLdB (n := 5) rfl (by kernel_rfl) (by kernel_rfl) rfl rfl hI.g0) ?_
  refine WL_call rfl rfl rfl (rCall (vs := [.agg _]) rfl Tryz.func5 rfl rfl rfl) ?_
  refine (scheck_any n k a t b _).mono ?_
  rintro e w1 ⟨⟨_, rfl⟩ | ⟨hb, _⟩, hp⟩
  rotate_left
  · exact absurd hs hb
  refine ⟨_, rfl, ?_⟩
  replace hI := hI.pure hp
  refine WL_val rfl rfl rfl (by exact rAsgnN rfl rfl) ?_
  refine WL_nil ?_
  refine W_seq ?_
  refine W_region ?_
  refine WL_val rfl rfl rfl (by exact rMoveN rfl rfl) ?_
  refine WL_val rfl rfl rfl (by exact rNilNe rfl Tryz.underlying27 rfl) ?_
  refine WL_nil ?_
  refine W_cond false rfl ?_
  refine W_skip ?_
  refine W_seq_cut (fun ρ w => ∃ sb nb cb, Has ρ [(5, .pointer (some ⟨sb, 0, none⟩))] ∧ Inv (fun _ => False) w0 w [B sb 73 (stZ n k a t b nb cb), B nb 80 (flatB n fun _ => zEnt), B cb 84 (flatB k fun _ => zCl)]) ?_ ?_
  · refine W_draw (by kernel_rfl) ?_
    refine WA_inv (T := []) hI.drew ?_
    intro Sx hSx hXS
    replace hI := hI.drew
    refine WT_take 0 rfl rfl (by kernel_rfl) (hXS _ hI) rfl (fun W hW => have hI := hSx W hW; (by exact rLdB (n := 5) rfl (by kernel_rfl) (by kernel_rfl) rfl rfl hI.g0)) ?_
    refine WT_take 1 rfl rfl (by kernel_rfl) (hXS _ hI) rfl (fun W hW => have hI := hSx W hW; (by exact rFldN (off := 0) rfl (by kernel_rfl) rfl)) ?_
    refine WT_take 2 rfl rfl (by kernel_rfl) (hXS _ hI) rfl (fun W hW => have hI := hSx W hW; (by exact rLd (v := .int .i64 _) rfl (by kernel_rfl) rfl (by exact hI.c0 rfl))) ?_
    refine WT_take 4 rfl rfl (by kernel_rfl) (hXS _ hI) rfl (fun W hW => have hI := hSx W hW; (by exact rFldN (off := 1) rfl (by kernel_rfl) rfl)) ?_
    refine WT_take 5 rfl rfl (by kernel_rfl) (hXS _ hI) rfl (fun W hW => have hI := hSx W hW; (by exact rLd (v := .int .i64 _) rfl (by kernel_rfl) rfl (by exact hI.c0 rfl))) ?_
    refine WT_two 3 6 rfl rfl (by kernel_rfl) rfl rfl ?_ ?_
    · refine WL_mkZ (m := 24) (by_ := 192) (z := .agg zEnt.toArray) zEnt hI rfl rfl rfl rfl rfl rfl Tryz.underlying64 (by kernel_rfl) rfl rfl (by omega) (by omega) (by omega) ?_
      clear hI; rintro b16 w - - hI
      refine WL_nil ⟨hXS _ hI.d0, ?_⟩
      refine WT_one 6 rfl (by kernel_rfl) rfl ?_
      refine WL_mkZ (m := 15) (by_ := 128) (z := .agg zCl.toArray) zCl hI rfl rfl rfl rfl rfl rfl Tryz.underlying65 (by kernel_rfl) rfl rfl (by omega) (by omega) (by omega) ?_
      clear hI; rintro b19 w - - hI
      refine WL_nil ⟨hXS _ hI.d0.d0, ?_⟩
      refine WT_take 7 rfl rfl (by kernel_rfl) (hXS _ hI.d0.d0) rfl (fun W hW => have hI := hSx W hW; (rBuild (qs := [(0, .agg #[_, _, _, _, _]), (1, .slice _ _ _), (2, .slice _ _ _)]) (vs := [_, _, _, _, _, _, _, _, _, _, _, _]) [.int .i64 0, .int .i64 0, .int .i64 0, .int .i64 0, .bool false, .slice none 0 0, .slice none 0 0, .slice none 0 0, .slice none 0 0, .bool false, .slice none 0 0, .slice none 0 0] [0, 5, 6] rfl rfl rfl (fun _ => by kernel_rfl))) ?_
      refine WT_one 8 rfl (by kernel_rfl) rfl ?_
      refine WL_box (u := .agg (stZ n k a t b b16 b19)) (vs := stZ n k a t b b16 b19) hI rfl rfl rfl rfl rfl rfl ?_
      clear hI; rintro b21 w - - hI
      refine WL_nil ⟨hXS _ hI.d0.d0.d0, ?_⟩
      refine WT_take 9 rfl rfl (by kernel_rfl) (hXS _ hI.d0.d0.d0) rfl (fun W hW => have hI := hSx W hW; (by exact rAsgnP rfl rfl)) ?_
      refine WT_end (by kernel_rfl) ?_
      exact ⟨b21, b16, b19, ⟨rfl, trivial⟩, hI.sw1.erase 3⟩
    · refine WL_mkZ (m := 15) (by_ := 128) (z := .agg zCl.toArray) zCl hI rfl rfl rfl rfl rfl rfl Tryz.underlying65 (by kernel_rfl) rfl rfl (by omega) (by omega) (by omega) ?_
      clear hI; rintro b19 w - - hI
      refine WL_nil ⟨hXS _ hI.d0, ?_⟩
      refine WT_one 3 rfl (by kernel_rfl) rfl ?_
      refine WL_mkZ (m := 24) (by_ := 192) (z := .agg zEnt.toArray) zEnt hI rfl rfl rfl rfl rfl rfl Tryz.underlying64 (by kernel_rfl) rfl rfl (by omega) (by omega) (by omega) ?_
      clear hI; rintro b16 w - - hI
      refine WL_nil ⟨hXS _ hI.d0.d0, ?_⟩
      refine WT_take 7 rfl rfl (by kernel_rfl) (hXS _ hI.d0.d0) rfl (fun W hW => have hI := hSx W hW; (rBuild (qs := [(0, .agg #[_, _, _, _, _]), (1, .slice _ _ _), (2, .slice _ _ _)]) (vs := [_, _, _, _, _, _, _, _, _, _, _, _]) [.int .i64 0, .int .i64 0, .int .i64 0, .int .i64 0, .bool false, .slice none 0 0, .slice none 0 0, .slice none 0 0, .slice none 0 0, .bool false, .slice none 0 0, .slice none 0 0] [0, 5, 6] rfl rfl rfl (fun _ => by kernel_rfl))) ?_
      refine WT_one 8 rfl (by kernel_rfl) rfl ?_
      refine WL_box (u := .agg (stZ n k a t b b16 b19)) (vs := stZ n k a t b b16 b19) hI rfl rfl rfl rfl rfl rfl ?_
      clear hI; rintro b21 w - - hI
      refine WL_nil ⟨hXS _ hI.d0.d0.d0, ?_⟩
      refine WT_take 9 rfl rfl (by kernel_rfl) (hXS _ hI.d0.d0.d0) rfl (fun W hW => have hI := hSx W hW; (by exact rAsgnP rfl rfl)) ?_
      refine WT_end (by kernel_rfl) ?_
      exact ⟨b21, b16, b19, ⟨rfl, trivial⟩, hI.erase 3⟩
  clear hI
  rintro ρ w ⟨sb, nb, cb, hH, hI⟩
  obtain ⟨σ, rfl⟩ := hH.open
  rw [nd_start] at hI
  refine W_seq_cut (fun ρ w => Has ρ [(5, .pointer (some ⟨sb, 0, none⟩))] ∧ Inv (fun _ => False) w0 w [B sb 73 (stZ n k a t b nb cb), B nb 80 (flatB (n * 8) (ndTo n 0)), B cb 84 (flatB k fun _ => zCl)]) ?_ ?_
  · refine W_seq ?_
    refine W_region ?_
    refine WL_val rfl rfl rfl (by exact rMoveP rfl rfl) ?_
    refine WL_val rfl rfl rfl (rNilChk rfl rfl) ?_
    refine WL_val rfl rfl rfl (by exact rFldN (off := 5) rfl (by kernel_rfl) rfl) ?_
    refine WL_val rfl rfl rfl (by exact rLd (v := .slice _ _ _) rfl (by kernel_rfl) rfl (by exact hI.c0 rfl)) ?_
    refine WL_val rfl rfl rfl (rLen rfl Tryz.underlying64 rfl) ?_
    refine WL_val rfl rfl rfl (by exact rMoveI rfl rfl) ?_
    refine WL_nil ?_
    refine W_block ?_
    refine W_loop (fun ρ w => ∃ j : Nat, j ≤ n ∧ Has ρ [(27, .int .i64 (j : Int)), (26, .int .i64 (n : Int)), (5, .pointer (some ⟨sb, 0, none⟩))] ∧ Inv (fun _ => False) w0 w [B sb 73 (stZ n k a t b nb cb), B nb 80 (flatB (n * 8) (ndTo j 0)), B cb 84 (flatB k fun _ => zCl)]) (fun ρ _ => n - cnt (ρ 27))
      ⟨0, by omega, ⟨rfl, rfl, rfl, trivial⟩, hI⟩ ?_
    clear hI
    rintro ρ w ⟨j, hj, hH, hI⟩
    obtain ⟨σ, rfl⟩ := hH.open
    by_cases hjn : j < n
    rotate_left
    · obtain rfl : j = n := by omega
      refine W_seq ?_
      refine W_region ?_
      refine WL_val rfl rfl rfl (by exact rLssF rfl rfl rfl (by omega)) ?_
      refine WL_nil ?_
      refine W_seq ?_
      refine W_cond false rfl ?_
      refine W_exit ?_
      exact ⟨⟨rfl, trivial⟩, hI⟩
    refine W_seq ?_
    refine W_region ?_
    refine WL_val rfl rfl rfl (by exact rLssT rfl rfl rfl (by omega)) ?_
    refine WL_nil ?_
    refine W_seq ?_
    refine W_cond true rfl ?_
    refine W_skip ?_
    refine W_seq ?_
    refine W_block ?_
    refine W_seq ?_
    refine W_region ?_
    refine WL_val rfl rfl rfl (by exact rMoveI rfl rfl) ?_
    refine WL_val rfl rfl rfl (by exact rAsgnI rfl rfl) ?_
    refine WL_nil ?_
    refine W_seq ?_
    refine W_region ?_
    refine WL_val rfl rfl rfl (by exact rMoveI rfl rfl) ?_
    refine WL_nil ?_
    refine W_block ?_
    refine W_loop (fun ρ w => ∃ key : Nat, key ≤ 8 ∧ Has ρ [(30, .int .i64 (key : Int)), (6, .int .i64 (j : Int)), (27, .int .i64 (j : Int)), (26, .int .i64 (n : Int)), (5, .pointer (some ⟨sb, 0, none⟩))] ∧ Inv (fun _ => False) w0 w [B sb 73 (stZ n k a t b nb cb), B nb 80 (flatB (n * 8) (ndTo j key)), B cb 84 (flatB k fun _ => zCl)]) (fun ρ _ => 8 - cnt (ρ 30))
      ⟨0, by omega, ⟨rfl, rfl, rfl, rfl, rfl, trivial⟩, hI⟩ ?_
    clear hI
    rintro ρ w ⟨key, hk, hH, hI⟩
    obtain ⟨σ, rfl⟩ := hH.open
    by_cases hk8 : key < 8
    rotate_left
    · obtain rfl : key = 8 := by omega
      rw [ndTo_next] at hI
      refine W_seq ?_
      refine W_region ?_
      refine WL_val rfl rfl rfl (by exact rLssF rfl rfl rfl (by omega)) ?_
      refine WL_nil ?_
      refine W_seq ?_
      refine W_cond false rfl ?_
      refine W_exit ?_
      refine W_region ?_
      refine WL_val rfl rfl rfl (by exact rInc rfl rfl rfl (by omega)) ?_
      refine WL_val rfl rfl rfl (by exact rMoveI rfl rfl) ?_
      refine WL_nil ?_
      exact ⟨⟨j + 1, by omega, ⟨rfl, rfl, rfl, trivial⟩, hI⟩, by show n - ((j + 1 : Nat) : Int).toNat < n - (j : Int).toNat; omega⟩
    have hlt : ∀ i, (ndTo j key i).length = 3 := fun i => by unfold ndTo; split <;> rfl
    refine W_seq ?_
    refine W_region ?_
    refine WL_val rfl rfl rfl (by exact rLssT rfl rfl rfl (by omega)) ?_
    refine WL_nil ?_
    refine W_seq ?_
    refine W_cond true rfl ?_
    refine W_skip ?_
    refine W_seq ?_
    refine W_block ?_
    refine W_seq ?_
    refine W_region ?_
    refine WL_val rfl rfl rfl (by exact rMoveI rfl rfl) ?_
    refine WL_val rfl rfl rfl (by exact rAsgnI rfl rfl) ?_
    refine WL_nil ?_
    refine W_region ?_
    refine WL_val rfl rfl rfl (by exact rMoveP rfl rfl) ?_
    refine WL_val rfl rfl rfl (rNilChk rfl rfl) ?_
    refine WL_val rfl rfl rfl (by exact rFldN (off := 5) rfl (by kernel_rfl) rfl) ?_
    refine WL_val rfl rfl rfl (by exact rLd (v := .slice _ _ _) rfl (by kernel_rfl) rfl (by exact hI.c0 rfl)) ?_
    refine WL_val rfl rfl rfl (by exact rMoveI rfl rfl) ?_
    refine WL_val rfl rfl rfl (by exact rMoveI rfl rfl) ?_
    refine WL_val rfl rfl rfl (rBuild (qs := [(1, .int .i64 _)]) (vs := [_, _]) [.int .i64 0, .int .i64 0] [1] rfl rfl rfl (fun _ => by kernel_rfl)) ?_
    refine WL_val rfl rfl rfl (rBuild (qs := [(0, .agg #[_, _])]) (vs := [_, _, _]) [.int .i64 0, .int .i64 0, .int .i64 0] [0] rfl rfl rfl (fun _ => by kernel_rfl)) ?_
    refine WL_val rfl rfl rfl (rIdx (sz := 24) rfl Tryz.underlying64 (by kernel_rfl) rfl rfl (by omega)) ?_
    refine WL_val rfl rfl rfl (rIdxArr (sz := 3) rfl Tryz.underlying80 (by kernel_rfl) rfl rfl rfl (by omega)) ?_
    refine WL_stA 1 rfl (u := .agg (entL ⟨0, -1, 0⟩).toArray) (vs := (entL ⟨0, -1, 0⟩).toArray) (n := 3) (j := 0 + j * 24 + key * 3) hI rfl rfl rfl rfl rfl rfl (by kernel_rfl) rfl (by rw [flatB_size hlt]; omega) rfl (ndTo_set hjn hk8) ?_
    clear hI; intro w hI
    refine WL_nil ?_
    refine W_region ?_
    refine WL_val rfl rfl rfl (by exact rInc rfl rfl rfl (by omega)) ?_
    refine WL_val rfl rfl rfl (by exact rMoveI rfl rfl) ?_
    refine WL_nil ?_
    exact ⟨⟨key + 1, by omega, ⟨rfl, rfl, rfl, rfl, rfl, trivial⟩, hI⟩, by show 8 - ((key + 1 : Nat) : Int).toNat < 8 - (key : Int).toNat; omega⟩
  clear hI
  rintro ρ w ⟨hH, hI⟩
  obtain ⟨σ, rfl⟩ := hH.open
  refine W_seq ?_
  refine W_region ?_
  refine WL_val rfl rfl rfl (by exact rMoveP rfl rfl) ?_
  refine WL_val rfl rfl rfl (by exact rAsgnP rfl rfl) ?_
  refine WL_val rfl rfl rfl (by exact rAsgnN rfl rfl) ?_
  refine WL_nil ?_
  refine W_ret ?_
  exact ret2 2 3 (.inr rfl) rfl ⟨sb, nb, cb, rfl, s0_parts hI⟩
theorem s0_ok {n k a t : Nat} {b : Bool} (hs : SetOk n k a t) (sb nb cb : Nat) : SOk (zL sb nb cb) (s0 n k a t b) 0 := by
  unfold SetOk at hs
  refine ⟨by show 1 ≤ n ∧ n ≤ 7; omega, by show 1 ≤ k ∧ k ≤ 8; omega, by show 1 ≤ a ∧ a ≤ n; omega, by show 1 ≤ t ∧ t ≤ n; omega, Nat.zero_le _, Nat.zero_le _, rfl, ?_, fun m hm => (by cases hm), fun c _ => ⟨Nat.le_refl _, Nat.le_refl _, fun h => (by cases h)⟩, fun c b _ h => (by cases h), fun _ _ _ _ => Nat.le_refl _⟩
  show 0 + busyN (s0 n k a t b) k ≤ 120
  have := busyN_le (s0 n k a t b) k
  omega
section
variable {P : Program} {ρ : Env} {w : World} {o : Oper} {x : Operand} {t t' e : TypeId}
theorem rSliceNilT {n c : Nat} (ho : o.op = .binOp .eql t x (.const (.slice none 0 0)) t') (ht : P.underlying t = some (.slice e)) (hx : ev ρ x = .slice none n c) : Runs P ρ o w (.bool true) := by
  have h := run_equal (P := P) (w := w) (t := t) (x := .slice none n c) (y := .slice none 0 0) (r := true) (fun d => by simp [Op.equalIn, run_underlying ht])
  simp [Runs, execOp, ho, hx, show ev ρ (.const (.slice none 0 0)) = .slice none 0 0 from rfl, eqGuard, binOp, h]
theorem rSliceNilF {n c : Nat} {p : Addr} (ho : o.op = .binOp .eql t x (.const (.slice none 0 0)) t') (ht : P.underlying t = some (.slice e)) (hx : ev ρ x = .slice (some p) n c) : Runs P ρ o w (.bool false) := by
  have h := run_equal (P := P) (w := w) (t := t) (x := .slice (some p) n c) (y := .slice none 0 0) (r := false) (fun d => by simp [Op.equalIn, run_underlying ht])
  simp [Runs, execOp, ho, hx, show ev ρ (.const (.slice none 0 0)) = .slice none 0 0 from rfl, eqGuard, binOp, h]
end
theorem evs_one (l : List Ev) : (l.flatMap evL).all (·.oneCell') = true := by
  rw [List.all_eq_true]
  intro u hu
  obtain ⟨m, _, h⟩ := List.mem_flatMap.1 hu
  simp only [evL, List.mem_cons, List.not_mem_nil, or_false] at h
  rcases h with h | h | h | h | h | h | h <;> rw [h] <;> rfl
set_option maxHeartbeats 1000000 in
theorem cloneE_any (A : Option Addr) (c : Nat) (l : List Ev) (D : Nat → Prop) (w0 : World) (h : Rd w0 D 7 (.slice A l.length c) l.length (l.flatMap evL)) (hb : l.length ≤ 1000000) :
    Calls Tryz.prog 19 #[.slice A l.length c] w0 fun en w' => ∃ A' c', en = .returned (.slice A' l.length c') ∧ Inv (fun _ => False) w0 w' [Row 0 48 7 A' l.length c' (l.flatMap evL)] := by
  obtain ⟨A1, c1, hv, hnc, hcm, hlen, hcell⟩ := h
  injection hv with e1 e2 e3
  subst e1 e3
  have hI := Inv.start (fun _ => False) w0
  refine calls_of_W (N := Tryz.f19.ntmps) Tryz.func19 rfl rfl rfl ?_
  refine W_seq ?_
  refine W_region ?_
  refine WL_val rfl rfl rfl (by exact rAsgnS rfl rfl) ?_
  refine WL_nil ?_
  cases A with
  | none =>
    have hl : l = [] := by
      rcases Nat.eq_zero_or_pos l.length with h0 | h0
      · exact List.eq_nil_of_length_eq_zero h0
      · obtain ⟨b, o, hbo, _⟩ := hcell h0
        cases hbo
    subst hl
    refine W_seq ?_
    refine W_seq ?_
    refine W_region ?_
    refine WL_val rfl rfl rfl (by exact rMoveS rfl rfl) ?_
    refine WL_val rfl rfl rfl (rSliceNilT rfl Tryz.underlying35 rfl) ?_
    refine WL_nil ?_
    refine W_cond true rfl ?_
    refine W_seq ?_
    refine W_region ?_
    refine WL_val rfl rfl rfl (by exact rAsgnS rfl rfl) ?_
    refine WL_nil ?_
    refine W_ret ?_
    exact ret1 2 (.inr rfl) rfl ⟨none, 0, rfl, hI.fresh (Pure.refl _) (Row.nil _ 0 48 7) (fun k hk => by simp [Row] at hk)⟩
  | some p =>
    refine W_seq ?_
    refine W_seq ?_
    refine W_region ?_
    refine WL_val rfl rfl rfl (by exact rMoveS rfl rfl) ?_
    refine WL_val rfl rfl rfl (rSliceNilF rfl Tryz.underlying35 rfl) ?_
    refine WL_nil ?_
    refine W_cond false rfl ?_
    refine W_skip ?_
    refine W_seq ?_
    refine W_region ?_
    refine WL_lit (vs := []) (qs := []) [] [] hI rfl rfl rfl rfl rfl rfl Tryz.underlying35 (fun _ => by kernel_rfl) ?_
    clear hI; rintro b5 w - - hI
    refine WL_val rfl rfl rfl (by exact rMoveS rfl rfl) ?_
    replace hI := hI.u0 (e' := Row 0 48 7 (some ⟨b5, 0, none⟩) 0 0 []) (Chg.refl _ _) (Row.of_blk hI.g0 (Nat.zero_le _) (by simp) (by omega)) (fun k hk => .inl (by have : some b5 = some k := hk; injection this with this; exact this.symm))
    rcases Nat.eq_zero_or_pos l.length with h0 | h0
    · have hl : l = [] := List.eq_nil_of_length_eq_zero h0
      subst hl
      refine WL_val rfl rfl rfl (rApp0 rfl Tryz.underlying35 (sz := 7) (by kernel_rfl) rfl rfl (Nat.le_refl _)) ?_
      refine WL_val rfl rfl rfl (rAsgnS rfl rfl) ?_
      refine WL_nil ?_
      refine W_ret ?_
      exact ret1 2 (.inr rfl) rfl ⟨_, _, rfl, hI⟩
    · obtain ⟨b, o, hbo, _, hcl⟩ := hcell h0
      injection hbo with hbo
      subst hbo
      refine WL_app0 (z := .agg #[.int .i64 0, .int .i64 0, .int .i64 0, .int .i64 0, .int .i64 0, .int .i64 0, .int .i64 0]) (by_ := 56) (news := l.flatMap evL) hI rfl rfl rfl rfl rfl rfl Tryz.underlying35 (by kernel_rfl) rfl (by omega) hlen (fun k u hk => hI.oldp (hcl k u hk)) (evs_one l) (by simp; omega) (by simp; omega) (Nat.zero_le _) ?_
      clear hI; rintro A2 c2 w _ _ hI
      refine WL_val rfl rfl rfl (rAsgnS rfl rfl) ?_
      refine WL_nil ?_
      refine W_ret ?_
      refine ret1 2 (.inr rfl) rfl ⟨A2, c2, ?_, ?_⟩
      · show Ending.returned (.slice A2 (0 + l.length) c2) = _; rw [Nat.zero_add]
      · have h' : Inv (fun _ => False) w0 w [Row 0 48 7 A2 (0 + l.length) c2 ([] ++ l.flatMap evL)] := hI
        rw [Nat.zero_add, List.nil_append] at h'; exact h'
set_option maxHeartbeats 1000000 in
theorem events_any (L : StL) (s : StS) (S : Nat → Prop) (w0 : World) (hI : Inv S w0 w0 (spt L s)) (hb : s.evs.length ≤ 1000000) :
    Calls Tryz.prog 9 #[.pointer (some ⟨L.sb, 0, none⟩)] w0 fun en w' => ∃ A c, en = .returned (.slice A s.evs.length c) ∧ Inv S w0 w' (Row 0 48 7 A s.evs.length c (s.evs.flatMap evL) :: spt L s) := by
  refine calls_of_W (N := Tryz.f9.ntmps) Tryz.func9 rfl rfl rfl ?_
  refine W_seq ?_
  refine W_region ?_
  refine WL_val rfl rfl rfl (by exact rAsgnS rfl rfl) ?_
  refine WL_nil ?_
  refine W_seq ?_
  refine W_seq ?_
  refine W_region ?_
  refine WL_val rfl rfl rfl (by exact rMoveP rfl rfl) ?_
  refine WL_val rfl rfl rfl (rPtrEq rfl Tryz.underlying30 rfl rfl) ?_
  refine WL_nil ?_
  refine W_cond false rfl ?_
  refine W_skip ?_
  have hz : w0.cell? ⟨L.sb, 10, none⟩ = some (.slice L.EA s.evs.length L.ec) := hI.cell 0 rfl rfl
  refine W_seq ?_
  refine W_region ?_
  refine WL_val rfl rfl rfl (by exact rMoveP rfl rfl) ?_
  refine WL_val rfl rfl rfl (rNilChk rfl rfl) ?_
  refine WL_val rfl rfl rfl (by exact rFldN (off := 10) rfl (by kernel_rfl) rfl) ?_
  refine WL_val rfl rfl rfl (by exact rLd (v := .slice _ _ _) rfl (by kernel_rfl) rfl (by exact hz)) ?_
  refine WL_call rfl rfl rfl (rCall (vs := [.slice _ _ _]) rfl Tryz.func19 rfl rfl rfl) ?_
  refine (cloneE_any L.EA L.ec s.evs (fun _ => True) _ (Rd.of_own (hI.ok _ (List.mem_of_getElem? (i := 7) rfl)).1 (fun _ _ _ => trivial)) hb).mono ?_
  rintro en w1 ⟨A, c, rfl, hJ⟩
  refine ⟨_, rfl, ?_⟩
  replace hI := hI.app1 hJ
  refine WL_val rfl rfl rfl (by exact rAsgnS rfl rfl) ?_
  refine WL_nil ?_
  refine W_ret ?_
  exact ret1 2 (.inr rfl) rfl ⟨A, c, rfl, hI⟩
end Go.Proofs.YtglioflpblpmpaaGreatDoor
namespace Go.Proofs.YtglioflpblpmpaaGreatDoor
open Go.RowKit
set_option linter.unusedVariables false
set_option linter.unusedSimpArgs false
section
variable {P : Program} {ρ : Env} {w : World} {o : Oper} {x y : Operand} {t t' : TypeId}
theorem rQuoNN {a b : Nat} (ho : o.op = .binOp .quo t x y t') (hx : ev ρ x = .int .i64 (a : Int)) (hy : ev ρ y = .int .i64 (b : Int)) (hb : 0 < b) (ha : a ≤ 9223372036854775807) : Runs P ρ o w (.int .i64 ((a / b : Nat) : Int)) := by
  have h := rQuoW (P := P) (w := w) ho hx hy (by omega)
  have e : Int.tdiv (a : Int) (b : Int) = ((a / b : Nat) : Int) := (Int.ofNat_tdiv a b).symm
  have hq := Nat.div_le_self a b
  generalize a / b = q at e hq ⊢
  rw [e, wrap64_in (by omega) (by omega)] at h
  exact h
theorem rRemNN {a b : Nat} (ho : o.op = .binOp .rem t x y t') (hx : ev ρ x = .int .i64 (a : Int)) (hy : ev ρ y = .int .i64 (b : Int)) (hb : 0 < b) (ha : a ≤ 9223372036854775807) : Runs P ρ o w (.int .i64 ((a % b : Nat) : Int)) := by
  have h := rRemW (P := P) (w := w) ho hx hy (by omega)
  have e : Int.tmod (a : Int) (b : Int) = ((a % b : Nat) : Int) := (Int.ofNat_tmod a b).symm
  rw [e] at h
  exact h
theorem rSubNN {a b : Nat} (ho : o.op = .binOp .sub t x y t') (hx : ev ρ x = .int .i64 (a : Int)) (hy : ev ρ y = .int .i64 (b : Int)) (hb : b ≤ a) (ha : a ≤ 9223372036854775807) : Runs P ρ o w (.int .i64 ((a - b : Nat) : Int)) := by
  have h := rSub (P := P) (w := w) ho hx hy (by omega)
  rw [show (a : Int) - (b : Int) = ((a - b : Nat) : Int) by omega] at h
  exact h
end
theorem bools_one (l : List Bool) : (boolsV l).all (·.oneCell') = true := by simp [boolsV, Value.oneCell']
theorem boolsV_len (l : List Bool) : (boolsV l).length = l.length := by simp [boolsV]
/-- A new row joins the rows. -/
theorem Inv.rowsIn {S : Nat → Prop} {w0 w : World} {H : List Ent} {A : Option Addr} {m c : Nat} {l : List Bool} {vals : List Value} {D : Nat → Prop} (h : Inv S w0 w (Row 0 4 1 A m c (boolsV l) :: RowsE vals D :: H)) (hm : m = l.length) (hl : l.length ≤ 1000) :
    Inv S w0 w (RowsE (vals ++ [.slice A m c]) (fun k => A.map (·.block) = some k ∨ D k) :: H) := by
  subst hm
  have h0 := h.ok _ (List.mem_of_getElem? (i := 0) rfl)
  have h1 := h.ok _ (List.mem_of_getElem? (i := 1) rfl)
  refine h.join.u0 (Chg.refl _ _) (RowsE.ok (fun k hk => ?_) fun v hv => ?_) (fun k hk => .inl hk)
  · rcases hk with hk | hk
    · exact h0.2.1 k hk
    · exact h1.2.1 k hk
  · rcases List.mem_append.1 hv with hv | hv
    · obtain ⟨l', hl', hb⟩ := h1.1.2 v hv
      exact ⟨l', Rd.mono hl' fun k hk => .inr hk, hb⟩
    · rw [List.mem_singleton.1 hv]
      exact ⟨l, Rd.of_own h0.1 fun k hk _ => .inl (by rw [← ownBlock_slice A l.length c]; exact hk), hl⟩
set_option maxHeartbeats 1000000 in
theorem cloneB_any (A : Option Addr) (n c : Nat) (l : List Bool) (D : Nat → Prop) (w0 : World) (h : Rd w0 D 1 (.slice A n c) n (boolsV l)) (hb : l.length ≤ 1000000) :
    Calls Tryz.prog 64 #[.slice A n c] w0 fun en w' => ∃ A' c', en = .returned (.slice A' n c') ∧ n = l.length ∧ Inv (fun _ => False) w0 w' [Row 0 4 1 A' n c' (boolsV l)] := by
  obtain ⟨A1, c1, hv, hnc, hcm, hlen, hcell⟩ := h
  injection hv with e1 e2 e3
  subst e1 e3
  rw [boolsV_len, Nat.mul_one] at hlen
  subst hlen
  have hI := Inv.start (fun _ => False) w0
  refine calls_of_W (N := Tryz.f64.ntmps) Tryz.func64 rfl rfl rfl ?_
  refine W_seq ?_
  refine W_region ?_
  refine WL_val rfl rfl rfl (by exact rAsgnS rfl rfl) ?_
  refine WL_nil ?_
  cases A with
  | none =>
    have hl : l = [] := by
      rcases Nat.eq_zero_or_pos l.length with h0 | h0
      · exact List.eq_nil_of_length_eq_zero h0
      · obtain ⟨b, o, hbo, _⟩ := hcell h0
        cases hbo
    subst hl
    refine W_seq ?_
    refine W_seq ?_
    refine W_region ?_
    refine WL_val rfl rfl rfl (by exact rMoveS rfl rfl) ?_
    refine WL_val rfl rfl rfl (rSliceNilT rfl Tryz.underlying55 rfl) ?_
    refine WL_nil ?_
    refine W_cond true rfl ?_
    refine W_seq ?_
    refine W_region ?_
    refine WL_val rfl rfl rfl (by exact rAsgnS rfl rfl) ?_
    refine WL_nil ?_
    refine W_ret ?_
    exact ret1 2 (.inr rfl) rfl ⟨none, 0, rfl, rfl, hI.fresh (Pure.refl _) (Row.nil _ 0 4 1) (fun k hk => by simp [Row] at hk)⟩
  | some p =>
    refine W_seq ?_
    refine W_seq ?_
    refine W_region ?_
    refine WL_val rfl rfl rfl (by exact rMoveS rfl rfl) ?_
    refine WL_val rfl rfl rfl (rSliceNilF rfl Tryz.underlying55 rfl) ?_
    refine WL_nil ?_
    refine W_cond false rfl ?_
    refine W_skip ?_
    refine W_seq ?_
    refine W_region ?_
    refine WL_lit (vs := []) (qs := []) [] [] hI rfl rfl rfl rfl rfl rfl Tryz.underlying55 (fun _ => by kernel_rfl) ?_
    clear hI; rintro b5 w - - hI
    refine WL_val rfl rfl rfl (by exact rMoveS rfl rfl) ?_
    replace hI := hI.u0 (e' := Row 0 4 1 (some ⟨b5, 0, none⟩) 0 0 []) (Chg.refl _ _) (Row.of_blk hI.g0 (Nat.zero_le _) (by simp) (by omega)) (fun k hk => .inl (by have : some b5 = some k := hk; injection this with this; exact this.symm))
    rcases Nat.eq_zero_or_pos l.length with h0 | h0
    · have hl : l = [] := List.eq_nil_of_length_eq_zero h0
      subst hl
      refine WL_val rfl rfl rfl (rApp0 rfl Tryz.underlying55 (sz := 1) (by kernel_rfl) rfl rfl (Nat.le_refl _)) ?_
      refine WL_val rfl rfl rfl (rAsgnS rfl rfl) ?_
      refine WL_nil ?_
      refine W_ret ?_
      exact ret1 2 (.inr rfl) rfl ⟨_, _, rfl, rfl, hI⟩
    · obtain ⟨b, o, hbo, _, hcl⟩ := hcell h0
      injection hbo with hbo
      subst hbo
      refine WL_app0 (z := .bool false) (by_ := 1) (news := boolsV l) hI rfl rfl rfl rfl rfl rfl Tryz.underlying55 (by kernel_rfl) rfl (by omega) (by rw [boolsV_len, Nat.mul_one]) (fun k u hk => hI.oldp (hcl k u hk)) (bools_one l) (by simp; omega) (by simp; omega) (Nat.zero_le _) ?_
      clear hI; rintro A2 c2 w _ _ hI
      refine WL_val rfl rfl rfl (rAsgnS rfl rfl) ?_
      refine WL_nil ?_
      refine W_ret ?_
      refine ret1 2 (.inr rfl) rfl ⟨A2, c2, ?_, rfl, ?_⟩
      · show Ending.returned (.slice A2 (0 + l.length) c2) = _; rw [Nat.zero_add]
      · have h' : Inv (fun _ => False) w0 w [Row 0 4 1 A2 (0 + l.length) c2 ([] ++ boolsV l)] := hI
        rw [Nat.zero_add, List.nil_append] at h'; exact h'
/-! ### Who can talk to whom: some answer -/
def CanF (F : Nat) (cap : List Value) (w0 : World) : Prop := ∀ (W : World) (a b : Nat), Pure w0 W → a < 7 → b < 7 → Calls Tryz.prog F ([Value.int .i64 (a : Int), Value.int .i64 (b : Int)] ++ cap).toArray W fun en w' => (∃ r, en = .returned (.bool r)) ∧ Pure W w'
theorem whole1_any (w0 : World) : CanF 66 [] w0 := by
  intro W a b _ _ _
  have hI := Inv.start (fun _ => False) W
  refine calls_of_W (N := Tryz.f66.ntmps) Tryz.func66 rfl rfl rfl ?_
  refine W_seq ?_
  refine W_region ?_
  refine WL_val rfl rfl rfl (by exact rAsgnB rfl rfl) ?_
  refine WL_nil ?_
  refine W_seq ?_
  refine W_region ?_
  refine WL_val rfl rfl rfl (by exact rAsgnB rfl rfl) ?_
  refine WL_nil ?_
  refine W_ret ?_
  exact ret1 4 (.inr rfl) rfl ⟨⟨_, rfl⟩, hI.pu⟩
set_option maxHeartbeats 1000000 in
theorem halves1_any (g n : Nat) (w0 : World) (hn : n ≤ 7) (hc : w0.cell? ⟨g, 0, none⟩ = some (.int .i64 (n : Int))) : CanF 67 [.pointer (some ⟨g, 0, none⟩)] w0 := by
  intro W a b hp ha hb
  have hI := (Inv.start (fun _ => False) w0).pure hp
  have hc := hI.oldp hc
  replace hI := Inv.start (fun _ => False) W
  refine calls_of_W (N := Tryz.f67.ntmps) Tryz.func67 rfl rfl rfl ?_
  refine W_seq ?_
  refine W_region ?_
  refine WL_val rfl rfl rfl (by exact rAsgnB rfl rfl) ?_
  refine WL_nil ?_
  refine W_seq ?_
  refine W_region ?_
  refine WL_val rfl rfl rfl (by exact rMoveI rfl rfl) ?_
  refine WL_val rfl rfl rfl (by exact rLd (v := .int .i64 _) rfl (by kernel_rfl) rfl (by exact hI.oldp hc)) ?_
  refine WL_val rfl rfl rfl (rQuoNN (b := 2) rfl rfl rfl (by omega) (by omega)) ?_
  refine WL_val rfl rfl rfl (by exact rLss rfl rfl rfl) ?_
  refine WL_val rfl rfl rfl (by exact rMoveI rfl rfl) ?_
  refine WL_val rfl rfl rfl (by exact rLd (v := .int .i64 _) rfl (by kernel_rfl) rfl (by exact hI.oldp hc)) ?_
  refine WL_val rfl rfl rfl (rQuoNN (b := 2) rfl rfl rfl (by omega) (by omega)) ?_
  refine WL_val rfl rfl rfl (by exact rLss rfl rfl rfl) ?_
  refine WL_val rfl rfl rfl (rBoolEql rfl Tryz.underlying4 rfl rfl) ?_
  refine WL_val rfl rfl rfl (by exact rAsgnB rfl rfl) ?_
  refine WL_nil ?_
  refine W_ret ?_
  exact ret1 5 (.inr rfl) rfl ⟨⟨_, rfl⟩, hI.pu⟩
set_option maxHeartbeats 1000000 in
theorem bridge1_any (g n : Nat) (w0 : World) (hn : n ≤ 7) (hc : w0.cell? ⟨g, 0, none⟩ = some (.int .i64 (n : Int))) : CanF 68 [.pointer (some ⟨g, 0, none⟩)] w0 := by
  intro W a b hp ha hb
  have hI := (Inv.start (fun _ => False) w0).pure hp
  have hc := hI.oldp hc
  replace hI := Inv.start (fun _ => False) W
  refine calls_of_W (N := Tryz.f68.ntmps) Tryz.func68 rfl rfl rfl ?_
  refine W_seq ?_
  refine W_region ?_
  refine WL_val rfl rfl rfl (by exact rAsgnB rfl rfl) ?_
  refine WL_nil ?_
  by_cases p : a < n / 2
  · by_cases q : b < n / 2
    · refine W_seq ?_
      refine W_region ?_
      refine WL_val rfl rfl rfl (by exact rMoveI rfl rfl) ?_
      refine WL_val rfl rfl rfl (by exact rLd (v := .int .i64 _) rfl (by kernel_rfl) rfl (by exact hI.oldp hc)) ?_
      refine WL_val rfl rfl rfl (rQuoNN (b := 2) rfl rfl rfl (by omega) (by omega)) ?_
      refine WL_val rfl rfl rfl (by exact rLssT rfl rfl rfl (by omega)) ?_
      refine WL_val rfl rfl rfl (by exact rMoveI rfl rfl) ?_
      refine WL_val rfl rfl rfl (by exact rLd (v := .int .i64 _) rfl (by kernel_rfl) rfl (by exact hI.oldp hc)) ?_
      refine WL_val rfl rfl rfl (rQuoNN (b := 2) rfl rfl rfl (by omega) (by omega)) ?_
      refine WL_val rfl rfl rfl (by exact rLssT rfl rfl rfl (by omega)) ?_
      refine WL_val rfl rfl rfl (rBoolEql rfl Tryz.underlying4 rfl rfl) ?_
      refine WL_val rfl rfl rfl (by exact rMoveB rfl rfl) ?_
      refine WL_skip rfl rfl rfl ?_
      refine WL_skip rfl rfl rfl ?_
      refine WL_skip rfl rfl rfl ?_
      refine WL_skip rfl rfl rfl ?_
      refine WL_val rfl rfl rfl (by exact rPickTB rfl rfl rfl) ?_
      refine WL_val rfl rfl rfl (by exact rMoveB rfl rfl) ?_
      refine WL_skip rfl rfl rfl ?_
      refine WL_skip rfl rfl rfl ?_
      refine WL_skip rfl rfl rfl ?_
      refine WL_skip rfl rfl rfl ?_
      refine WL_val rfl rfl rfl (by exact rPickTB rfl rfl rfl) ?_
      refine WL_val rfl rfl rfl (by exact rAsgnB rfl rfl) ?_
      refine WL_nil ?_
      refine W_ret ?_
      exact ret1 5 (.inr rfl) rfl ⟨⟨_, rfl⟩, hI.pu⟩
    · by_cases q2 : b = n / 2
      · refine W_seq ?_
        refine W_region ?_
        refine WL_val rfl rfl rfl (by exact rMoveI rfl rfl) ?_
        refine WL_val rfl rfl rfl (by exact rLd (v := .int .i64 _) rfl (by kernel_rfl) rfl (by exact hI.oldp hc)) ?_
        refine WL_val rfl rfl rfl (rQuoNN (b := 2) rfl rfl rfl (by omega) (by omega)) ?_
        refine WL_val rfl rfl rfl (by exact rLssT rfl rfl rfl (by omega)) ?_
        refine WL_val rfl rfl rfl (by exact rMoveI rfl rfl) ?_
        refine WL_val rfl rfl rfl (by exact rLd (v := .int .i64 _) rfl (by kernel_rfl) rfl (by exact hI.oldp hc)) ?_
        refine WL_val rfl rfl rfl (rQuoNN (b := 2) rfl rfl rfl (by omega) (by omega)) ?_
        refine WL_val rfl rfl rfl (by exact rLssF rfl rfl rfl (by omega)) ?_
        refine WL_val rfl rfl rfl (rBoolEql rfl Tryz.underlying4 rfl rfl) ?_
        refine WL_val rfl rfl rfl (by exact rMoveB rfl rfl) ?_
        refine WL_val rfl rfl rfl (by exact rMoveI rfl rfl) ?_
        refine WL_val rfl rfl rfl (by exact rLd (v := .int .i64 _) rfl (by kernel_rfl) rfl (by exact hI.oldp hc)) ?_
        refine WL_val rfl rfl rfl (rQuoNN (b := 2) rfl rfl rfl (by omega) (by omega)) ?_
        refine WL_val rfl rfl rfl (by exact rEqlF rfl rfl rfl (by omega)) ?_
        refine WL_val rfl rfl rfl (by exact rPickFB rfl rfl rfl) ?_
        refine WL_val rfl rfl rfl (by exact rMoveB rfl rfl) ?_
        refine WL_val rfl rfl rfl (by exact rMoveI rfl rfl) ?_
        refine WL_val rfl rfl rfl (by exact rLd (v := .int .i64 _) rfl (by kernel_rfl) rfl (by exact hI.oldp hc)) ?_
        refine WL_val rfl rfl rfl (rQuoNN (b := 2) rfl rfl rfl (by omega) (by omega)) ?_
        refine WL_val rfl rfl rfl (by exact rEqlT rfl rfl rfl (by omega)) ?_
        refine WL_val rfl rfl rfl (by exact rPickFB rfl rfl rfl) ?_
        refine WL_val rfl rfl rfl (by exact rAsgnB rfl rfl) ?_
        refine WL_nil ?_
        refine W_ret ?_
        exact ret1 5 (.inr rfl) rfl ⟨⟨_, rfl⟩, hI.pu⟩
      · refine W_seq ?_
        refine W_region ?_
        refine WL_val rfl rfl rfl (by exact rMoveI rfl rfl) ?_
        refine WL_val rfl rfl rfl (by exact rLd (v := .int .i64 _) rfl (by kernel_rfl) rfl (by exact hI.oldp hc)) ?_
        refine WL_val rfl rfl rfl (rQuoNN (b := 2) rfl rfl rfl (by omega) (by omega)) ?_
        refine WL_val rfl rfl rfl (by exact rLssT rfl rfl rfl (by omega)) ?_
        refine WL_val rfl rfl rfl (by exact rMoveI rfl rfl) ?_
        refine WL_val rfl rfl rfl (by exact rLd (v := .int .i64 _) rfl (by kernel_rfl) rfl (by exact hI.oldp hc)) ?_
        refine WL_val rfl rfl rfl (rQuoNN (b := 2) rfl rfl rfl (by omega) (by omega)) ?_
        refine WL_val rfl rfl rfl (by exact rLssF rfl rfl rfl (by omega)) ?_
        refine WL_val rfl rfl rfl (rBoolEql rfl Tryz.underlying4 rfl rfl) ?_
        refine WL_val rfl rfl rfl (by exact rMoveB rfl rfl) ?_
        refine WL_val rfl rfl rfl (by exact rMoveI rfl rfl) ?_
        refine WL_val rfl rfl rfl (by exact rLd (v := .int .i64 _) rfl (by kernel_rfl) rfl (by exact hI.oldp hc)) ?_
        refine WL_val rfl rfl rfl (rQuoNN (b := 2) rfl rfl rfl (by omega) (by omega)) ?_
        refine WL_val rfl rfl rfl (by exact rEqlF rfl rfl rfl (by omega)) ?_
        refine WL_val rfl rfl rfl (by exact rPickFB rfl rfl rfl) ?_
        refine WL_val rfl rfl rfl (by exact rMoveB rfl rfl) ?_
        refine WL_val rfl rfl rfl (by exact rMoveI rfl rfl) ?_
        refine WL_val rfl rfl rfl (by exact rLd (v := .int .i64 _) rfl (by kernel_rfl) rfl (by exact hI.oldp hc)) ?_
        refine WL_val rfl rfl rfl (rQuoNN (b := 2) rfl rfl rfl (by omega) (by omega)) ?_
        refine WL_val rfl rfl rfl (by exact rEqlF rfl rfl rfl (by omega)) ?_
        refine WL_val rfl rfl rfl (by exact rPickFB rfl rfl rfl) ?_
        refine WL_val rfl rfl rfl (by exact rAsgnB rfl rfl) ?_
        refine WL_nil ?_
        refine W_ret ?_
        exact ret1 5 (.inr rfl) rfl ⟨⟨_, rfl⟩, hI.pu⟩
  · by_cases q : b < n / 2
    · by_cases p2 : a = n / 2
      · refine W_seq ?_
        refine W_region ?_
        refine WL_val rfl rfl rfl (by exact rMoveI rfl rfl) ?_
        refine WL_val rfl rfl rfl (by exact rLd (v := .int .i64 _) rfl (by kernel_rfl) rfl (by exact hI.oldp hc)) ?_
        refine WL_val rfl rfl rfl (rQuoNN (b := 2) rfl rfl rfl (by omega) (by omega)) ?_
        refine WL_val rfl rfl rfl (by exact rLssF rfl rfl rfl (by omega)) ?_
        refine WL_val rfl rfl rfl (by exact rMoveI rfl rfl) ?_
        refine WL_val rfl rfl rfl (by exact rLd (v := .int .i64 _) rfl (by kernel_rfl) rfl (by exact hI.oldp hc)) ?_
        refine WL_val rfl rfl rfl (rQuoNN (b := 2) rfl rfl rfl (by omega) (by omega)) ?_
        refine WL_val rfl rfl rfl (by exact rLssT rfl rfl rfl (by omega)) ?_
        refine WL_val rfl rfl rfl (rBoolEql rfl Tryz.underlying4 rfl rfl) ?_
        refine WL_val rfl rfl rfl (by exact rMoveB rfl rfl) ?_
        refine WL_val rfl rfl rfl (by exact rMoveI rfl rfl) ?_
        refine WL_val rfl rfl rfl (by exact rLd (v := .int .i64 _) rfl (by kernel_rfl) rfl (by exact hI.oldp hc)) ?_
        refine WL_val rfl rfl rfl (rQuoNN (b := 2) rfl rfl rfl (by omega) (by omega)) ?_
        refine WL_val rfl rfl rfl (by exact rEqlT rfl rfl rfl (by omega)) ?_
        refine WL_val rfl rfl rfl (by exact rPickFB rfl rfl rfl) ?_
        refine WL_val rfl rfl rfl (by exact rMoveB rfl rfl) ?_
        refine WL_skip rfl rfl rfl ?_
        refine WL_skip rfl rfl rfl ?_
        refine WL_skip rfl rfl rfl ?_
        refine WL_skip rfl rfl rfl ?_
        refine WL_val rfl rfl rfl (by exact rPickTB rfl rfl rfl) ?_
        refine WL_val rfl rfl rfl (by exact rAsgnB rfl rfl) ?_
        refine WL_nil ?_
        refine W_ret ?_
        exact ret1 5 (.inr rfl) rfl ⟨⟨_, rfl⟩, hI.pu⟩
      · refine W_seq ?_
        refine W_region ?_
        refine WL_val rfl rfl rfl (by exact rMoveI rfl rfl) ?_
        refine WL_val rfl rfl rfl (by exact rLd (v := .int .i64 _) rfl (by kernel_rfl) rfl (by exact hI.oldp hc)) ?_
        refine WL_val rfl rfl rfl (rQuoNN (b := 2) rfl rfl rfl (by omega) (by omega)) ?_
        refine WL_val rfl rfl rfl (by exact rLssF rfl rfl rfl (by omega)) ?_
        refine WL_val rfl rfl rfl (by exact rMoveI rfl rfl) ?_
        refine WL_val rfl rfl rfl (by exact rLd (v := .int .i64 _) rfl (by kernel_rfl) rfl (by exact hI.oldp hc)) ?_
        refine WL_val rfl rfl rfl (rQuoNN (b := 2) rfl rfl rfl (by omega) (by omega)) ?_
        refine WL_val rfl rfl rfl (by exact rLssT rfl rfl rfl (by omega)) ?_
        refine WL_val rfl rfl rfl (rBoolEql rfl Tryz.underlying4 rfl rfl) ?_
        refine WL_val rfl rfl rfl (by exact rMoveB rfl rfl) ?_
        refine WL_val rfl rfl rfl (by exact rMoveI rfl rfl) ?_
        refine WL_val rfl rfl rfl (by exact rLd (v := .int .i64 _) rfl (by kernel_rfl) rfl (by exact hI.oldp hc)) ?_
        refine WL_val rfl rfl rfl (rQuoNN (b := 2) rfl rfl rfl (by omega) (by omega)) ?_
        refine WL_val rfl rfl rfl (by exact rEqlF rfl rfl rfl (by omega)) ?_
        refine WL_val rfl rfl rfl (by exact rPickFB rfl rfl rfl) ?_
        refine WL_val rfl rfl rfl (by exact rMoveB rfl rfl) ?_
        refine WL_val rfl rfl rfl (by exact rMoveI rfl rfl) ?_
        refine WL_val rfl rfl rfl (by exact rLd (v := .int .i64 _) rfl (by kernel_rfl) rfl (by exact hI.oldp hc)) ?_
        refine WL_val rfl rfl rfl (rQuoNN (b := 2) rfl rfl rfl (by omega) (by omega)) ?_
        refine WL_val rfl rfl rfl (by exact rEqlF rfl rfl rfl (by omega)) ?_
        refine WL_val rfl rfl rfl (by exact rPickFB rfl rfl rfl) ?_
        refine WL_val rfl rfl rfl (by exact rAsgnB rfl rfl) ?_
        refine WL_nil ?_
        refine W_ret ?_
        exact ret1 5 (.inr rfl) rfl ⟨⟨_, rfl⟩, hI.pu⟩
    · refine W_seq ?_
      refine W_region ?_
      refine WL_val rfl rfl rfl (by exact rMoveI rfl rfl) ?_
      refine WL_val rfl rfl rfl (by exact rLd (v := .int .i64 _) rfl (by kernel_rfl) rfl (by exact hI.oldp hc)) ?_
      refine WL_val rfl rfl rfl (rQuoNN (b := 2) rfl rfl rfl (by omega) (by omega)) ?_
      refine WL_val rfl rfl rfl (by exact rLssF rfl rfl rfl (by omega)) ?_
      refine WL_val rfl rfl rfl (by exact rMoveI rfl rfl) ?_
      refine WL_val rfl rfl rfl (by exact rLd (v := .int .i64 _) rfl (by kernel_rfl) rfl (by exact hI.oldp hc)) ?_
      refine WL_val rfl rfl rfl (rQuoNN (b := 2) rfl rfl rfl (by omega) (by omega)) ?_
      refine WL_val rfl rfl rfl (by exact rLssF rfl rfl rfl (by omega)) ?_
      refine WL_val rfl rfl rfl (rBoolEql rfl Tryz.underlying4 rfl rfl) ?_
      refine WL_val rfl rfl rfl (by exact rMoveB rfl rfl) ?_
      refine WL_skip rfl rfl rfl ?_
      refine WL_skip rfl rfl rfl ?_
      refine WL_skip rfl rfl rfl ?_
      refine WL_skip rfl rfl rfl ?_
      refine WL_val rfl rfl rfl (by exact rPickTB rfl rfl rfl) ?_
      refine WL_val rfl rfl rfl (by exact rMoveB rfl rfl) ?_
      refine WL_skip rfl rfl rfl ?_
      refine WL_skip rfl rfl rfl ?_
      refine WL_skip rfl rfl rfl ?_
      refine WL_skip rfl rfl rfl ?_
      refine WL_val rfl rfl rfl (by exact rPickTB rfl rfl rfl) ?_
      refine WL_val rfl rfl rfl (by exact rAsgnB rfl rfl) ?_
      refine WL_nil ?_
      refine W_ret ?_
      exact ret1 5 (.inr rfl) rfl ⟨⟨_, rfl⟩, hI.pu⟩
set_option maxHeartbeats 1000000 in
theorem ring1_any (g n : Nat) (w0 : World) (hn : n ≤ 7) (hc : w0.cell? ⟨g, 0, none⟩ = some (.int .i64 (n : Int))) : CanF 69 [.pointer (some ⟨g, 0, none⟩)] w0 := by
  intro W a b hp ha hb
  have hI := (Inv.start (fun _ => False) w0).pure hp
  have hc := hI.oldp hc
  replace hI := Inv.start (fun _ => False) W
  refine calls_of_W (N := Tryz.f69.ntmps) Tryz.func69 rfl rfl rfl ?_
  refine W_seq ?_
  refine W_region ?_
  refine WL_val rfl rfl rfl (by exact rAsgnB rfl rfl) ?_
  refine WL_nil ?_
  refine W_seq ?_
  refine W_region ?_
  refine WL_val rfl rfl rfl (by exact rMoveI rfl rfl) ?_
  refine WL_val rfl rfl rfl (by exact rMoveI rfl rfl) ?_
  refine WL_val rfl rfl rfl (by exact rSub rfl rfl rfl (by omega)) ?_
  refine WL_val rfl rfl rfl (by exact rMoveI rfl rfl) ?_
  refine WL_val rfl rfl rfl (by exact rMoveI rfl rfl) ?_
  refine WL_val rfl rfl rfl (by exact rSub rfl rfl rfl (by omega)) ?_
  refine WL_val rfl rfl rfl (rMax rfl rfl rfl) ?_
  refine WL_val rfl rfl rfl (by exact rAsgnI rfl rfl) ?_
  refine WL_nil ?_
  refine W_seq ?_
  refine W_region ?_
  refine WL_val rfl rfl rfl (by exact rMoveI rfl rfl) ?_
  refine WL_val rfl rfl rfl (by exact rLd (v := .int .i64 _) rfl (by kernel_rfl) rfl (by exact hI.oldp hc)) ?_
  refine WL_val rfl rfl rfl (by exact rMoveI rfl rfl) ?_
  refine WL_val rfl rfl rfl (by exact rSub rfl rfl rfl (by omega)) ?_
  refine WL_val rfl rfl rfl (rMin rfl rfl rfl) ?_
  refine WL_val rfl rfl rfl (by exact rLd (v := .int .i64 _) rfl (by kernel_rfl) rfl (by exact hI.oldp hc)) ?_
  refine WL_val rfl rfl rfl (rQuoW rfl rfl rfl (by omega)) ?_
  refine WL_val rfl rfl rfl (by exact rAddW rfl rfl rfl) ?_
  refine WL_val rfl rfl rfl (rQuoW rfl rfl rfl (by omega)) ?_
  refine WL_val rfl rfl rfl (by exact rLeq rfl rfl rfl) ?_
  refine WL_val rfl rfl rfl (by exact rAsgnB rfl rfl) ?_
  refine WL_nil ?_
  refine W_ret ?_
  exact ret1 5 (.inr rfl) rfl ⟨⟨_, rfl⟩, hI.pu⟩
set_option maxHeartbeats 1000000 in
theorem alone1_any (g : Nat) (who : Int) (w0 : World) (hc : w0.cell? ⟨g, 0, none⟩ = some (.int .i64 who)) : CanF 70 [.pointer (some ⟨g, 0, none⟩)] w0 := by
  intro W a b hp ha hb
  have hI := (Inv.start (fun _ => False) w0).pure hp
  have hc := hI.oldp hc
  replace hI := Inv.start (fun _ => False) W
  refine calls_of_W (N := Tryz.f70.ntmps) Tryz.func70 rfl rfl rfl ?_
  refine W_seq ?_
  refine W_region ?_
  refine WL_val rfl rfl rfl (by exact rAsgnB rfl rfl) ?_
  refine WL_nil ?_
  by_cases h : (a : Int) = who
  · refine W_seq ?_
    refine W_region ?_
    refine WL_val rfl rfl rfl (by exact rMoveI rfl rfl) ?_
    refine WL_val rfl rfl rfl (by exact rLd (v := .int .i64 _) rfl (by kernel_rfl) rfl (by exact hI.oldp hc)) ?_
    refine WL_val rfl rfl rfl (by exact rNeqF rfl rfl rfl (by omega)) ?_
    refine WL_val rfl rfl rfl (by exact rMoveB rfl rfl) ?_
    refine WL_skip rfl rfl rfl ?_
    refine WL_skip rfl rfl rfl ?_
    refine WL_skip rfl rfl rfl ?_
    refine WL_val rfl rfl rfl (by exact rPickFB rfl rfl rfl) ?_
    refine WL_val rfl rfl rfl (by exact rAsgnB rfl rfl) ?_
    refine WL_nil ?_
    refine W_ret ?_
    exact ret1 5 (.inr rfl) rfl ⟨⟨_, rfl⟩, hI.pu⟩
  · refine W_seq ?_
    refine W_region ?_
    refine WL_val rfl rfl rfl (by exact rMoveI rfl rfl) ?_
    refine WL_val rfl rfl rfl (by exact rLd (v := .int .i64 _) rfl (by kernel_rfl) rfl (by exact hI.oldp hc)) ?_
    refine WL_val rfl rfl rfl (by exact rNeqT rfl rfl rfl (by omega)) ?_
    refine WL_val rfl rfl rfl (by exact rMoveB rfl rfl) ?_
    refine WL_val rfl rfl rfl (by exact rMoveI rfl rfl) ?_
    refine WL_val rfl rfl rfl (by exact rLd (v := .int .i64 _) rfl (by kernel_rfl) rfl (by exact hI.oldp hc)) ?_
    refine WL_val rfl rfl rfl (by exact rNeq rfl rfl rfl) ?_
    refine WL_val rfl rfl rfl (by exact rPickTB rfl rfl rfl) ?_
    refine WL_val rfl rfl rfl (by exact rAsgnB rfl rfl) ?_
    refine WL_nil ?_
    refine W_ret ?_
    exact ret1 5 (.inr rfl) rfl ⟨⟨_, rfl⟩, hI.pu⟩
end Go.Proofs.YtglioflpblpmpaaGreatDoor
