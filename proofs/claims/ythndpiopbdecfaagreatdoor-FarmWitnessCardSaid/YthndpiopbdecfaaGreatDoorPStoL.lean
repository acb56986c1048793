/- Texts of the proof, merged: StoI, Gen1, Gen2, Gen3, FarLaw, FarA, StoJ, StoK, StoL. -/
import Derived.Test.YthndpiopbdecfaaGreatDoorPStoH
import Derived.Test.YthndpiopbdecfaaGreatDoorProg
import Derived.Test.YthndpiopbdecfaaGreatDoorPStoA
import Derived.Test.YthndpiopbdecfaaGreatDoorPReg
namespace Go.Proofs.YthndpiopbdecfaaGreatDoor
open Go.RowKit
set_option linter.unusedVariables false
set_option linter.unusedSimpArgs false
/-- A move of a store. -/
def Mv (s s' : StS) : Prop :=
 (∃ ms : List SMail, (∀ m ∈ ms, m ∈ s.mails) ∧ s' = { s with mails := ms }) ∨
 (∃ (c key : Nat) (write : Bool) (value : Int), c < s.k ∧ (s.cl c).busy = false ∧ (s.cl c).gone = false ∧ key < 8 ∧ (-1000000 ≤ value ∧ value ≤ 1000000) ∧ s' = begS s c key write value) ∨
 (∃ c, c < s.k ∧ (s.cl c).busy = true ∧ s' = giveF s c) ∨
 (∃ (j : Nat) (m : SMail), s.mails[j]? = some m ∧ s' = deliverF s j m)
theorem Mv.refl (s : StS) : Mv s s := .inl ⟨s.mails, fun _ h => h, rfl⟩
def MvPost (L : StL) (s : StS) (M : Nat) (S : Nat → Prop) (w0 : World) (en : Ending) (w' : World) : Prop :=
 (∃ v, en = .returned v) ∧ ∃ L' s', Mv s s' ∧ SOk L' s' (M + 1) ∧ L'.sb = L.sb ∧ Inv S w0 w' (spt L' s')
theorem giveupM (L : StL) (s : StS) (M : Nat) (h : SOk L s M) (S : Nat → Prop) (w0 : World) (hI : Inv S w0 w0 (spt L s)) (c : Int) : Calls Tryz.prog 73 #[.pointer (some ⟨L.sb, 0, none⟩), .int .i64 c] w0 (MvPost L s M S w0) := by
 refine (giveup_any L s c h.k1.2 ⟨by have := h.elen; omega, by have := h.elen; have := h.slen; omega⟩ S w0 hI).mono ?_
 rintro e w' ⟨hv, EA, ec, SA, sc, s', hs, hJ⟩
 refine ⟨hv, { L with EA := EA, ec := ec, SA := SA, sc := sc }, s', ?_, ?_, rfl, hJ⟩
 ·rcases hs with rfl | ⟨c', h1, h2, rfl⟩
  ·exact Mv.refl _
  ·exact .inr (.inr (.inl ⟨c', h1, h2, rfl⟩))
 ·rcases hs with rfl | ⟨c', h1, h2, rfl⟩
  ·exact (h.loc (L' := { L with EA := EA, ec := ec, SA := SA, sc := sc }) rfl).mono (by omega)
  ·exact (h.give (L' := { L with EA := EA, ec := ec, SA := SA, sc := sc }) h1 h2 rfl).mono (by omega)
set_option maxHeartbeats 1000000 in
theorem dropM (L : StL) (s : StS) (M : Nat) (h : SOk L s M) (S : Nat → Prop) (w0 : World) (hI : Inv S w0 w0 (spt L s)) (i : Int) : Calls Tryz.prog 39 #[.pointer (some ⟨L.sb, 0, none⟩), .int .i64 i] w0 (MvPost L s M S w0) := by
 refine Vm Tryz.f39.ntmps Tryz.func39 rfl ?_
 refine W_seq (W_region (Vf rfl (WL_nil (W_seq (W_seq (W_region (V7 rfl ?_)))))))
 refine WL_val rfl rfl rfl (rPtrEq rfl Tryz.underlying50 rfl rfl) ?_
 refine WL_nil (W_cond false rfl (W_skip (W_seq (W_region (V7 rfl (Vb rfl (V5 7 rfl (V0 rfl (V6 [.pointer _, .int .i64 _] rfl Tryz.func67 rfl ?_)))))))))
 refine (ndrop_any L s i h.mlen (DLs _) _ (hI.fromB (X := []))).mono ?_
 rintro en w1 ⟨⟨v, rfl⟩, MA, mc, ms, hms, hJ⟩
 refine ⟨_, rfl, ?_⟩
 replace hI := hI.callB (X := []) hJ
 refine Th rfl (WL_nil ?_)
 refine W_ret ?_
 have hsub : ∀ m ∈ ms, m ∈ s.mails := by
  rcases hms with rfl | ⟨j, _, rfl⟩
  ·exact fun _ h => h
  ·exact fun m hm => List.mem_of_mem_eraseIdx hm
 have hlen : ms.length ≤ 500 := by
  rcases hms with rfl | ⟨j, hj, rfl⟩
  ·exact h.mlen
  ·rw [List.length_eraseIdx, if_pos hj]; have := h.mlen; omega
 exact ret1 4 (.inr rfl) rfl ⟨⟨_, rfl⟩, _, _, .inl ⟨ms, hsub, rfl⟩, ((h.mails hsub hlen).loc (L' := { L with MA := MA, mc := mc }) rfl).mono (by omega), rfl, hI⟩
set_option maxHeartbeats 1000000 in
theorem doubleM (L : StL) (s : StS) (M : Nat) (h : SOk L s M) (S : Nat → Prop) (w0 : World) (hI : Inv S w0 w0 (spt L s)) (i : Int) : Calls Tryz.prog 40 #[.pointer (some ⟨L.sb, 0, none⟩), .int .i64 i] w0 (MvPost L s M S w0) := by
 refine Vm Tryz.f40.ntmps Tryz.func40 rfl ?_
 refine W_seq (W_region (Vf rfl (WL_nil (W_seq (W_seq (W_region (V7 rfl ?_)))))))
 refine WL_val rfl rfl rfl (rPtrEq rfl Tryz.underlying50 rfl rfl) ?_
 refine WL_nil (W_cond false rfl (W_skip (W_seq (W_region (V7 rfl (Vb rfl (V5 7 rfl (V0 rfl (V6 [.pointer _, .int .i64 _] rfl Tryz.func68 rfl ?_)))))))))
 refine (ndouble_any L s i (DLs _) _ (hI.fromB (X := []))).mono ?_
 rintro en w1 ⟨⟨v, rfl⟩, MA, mc, ms, hms, hJ⟩
 refine ⟨_, rfl, ?_⟩
 replace hI := hI.callB (X := []) hJ
 refine Th rfl (WL_nil ?_)
 refine W_ret ?_
 have hsub : ∀ m ∈ ms, m ∈ s.mails := by
  rcases hms with rfl | ⟨m0, h0, rfl⟩
  ·exact fun _ h => h
  ·exact fun m hm => by rcases mem_push hm with hm | rfl; exact hm; exact h0
 have hlen : ms.length ≤ 500 := by
  rcases hms with rfl | ⟨m0, h0, rfl⟩
  ·exact h.mlen
  ·exact push_len h.mlen
 exact ret1 4 (.inr rfl) rfl ⟨⟨_, rfl⟩, _, _, .inl ⟨ms, hsub, rfl⟩, ((h.mails hsub hlen).loc (L' := { L with MA := MA, mc := mc }) rfl).mono (by omega), rfl, hI⟩
set_option maxHeartbeats 2000000 in
theorem deliverM (L : StL) (s : StS) (M : Nat) (h : SOk L s M) (hM : M ≤ 100000) (S : Nat → Prop) (w0 : World) (hI : Inv S w0 w0 (spt L s)) (i : Int) : Calls Tryz.prog 37 #[.pointer (some ⟨L.sb, 0, none⟩), .int .i64 i] w0 fun en w' => ∃ v L' s', en = .returned v ∧ Mv s s' ∧ SOk L' s' (M + 1) ∧ L'.sb = L.sb ∧ L'.cut = L.cut ∧ Inv S w0 w' (spt L' s') ∧ (∀ (j : Nat) (m : SMail), L.cut = false → i = (j : Int) → s.mails[j]? = some m → v = .nilIface ∧ s' = deliverF s j m) := by
 have hn := h.n1
 have hk := h.k1
 refine Vm Tryz.f37.ntmps Tryz.func37 rfl ?_
 refine W_seq (W_region (Vf rfl (WL_nil (W_seq (W_seq (W_region (V7 rfl ?_)))))))
 refine WL_val rfl rfl rfl (rPtrEq rfl Tryz.underlying50 rfl rfl) ?_
 refine WL_nil (W_cond false rfl (W_skip ?_))
 have hmo : ∀ m ∈ s.mails, m.src < 1000 ∧ m.dst < 1000 := fun m hm => by
  have := h.mok m hm
  omega
 have hz9 : zero9.size = 9 := rfl
 refine W_seq (W_region (V7 rfl (Vb rfl (V5 7 rfl (V0 rfl (V6 [.pointer _, .int .i64 _] rfl Tryz.func63 rfl ?_))))))
 refine (take_any L s i h.mlen hmo (DLs _) _ (hI.fromB (X := []))).mono ?_
 rintro en w1 hcase
 obtain ⟨ag, er, L1, s1, rfl, hag, hone, hsb, hcs, hJ⟩ : ∃ (ag : Array Value) (er : Value) (L1 : StL) (s1 : StS), en = .returned (.tuple #[.agg ag, er]) ∧ ag.size = 9 ∧ ag.toList.all (·.oneCell') = true ∧ L1.sb = L.sb ∧
   (((∃ n, er = .iface 49 (.int .i64 n)) ∧ (L.cut = false → ¬ (0 ≤ i ∧ i < (s.mails.length : Int))) ∧ L1 = L ∧ s1 = s) ∨ (er = .nilIface ∧ ∃ (j : Nat) (m : SMail) (MA : Option Addr) (mc : Nat), i = (j : Int) ∧ s.mails[j]? = some m ∧ ag = (mailL m).toArray ∧ L1 = { L with MA := MA, mc := mc } ∧ s1 = { s with mails := s.mails.eraseIdx j })) ∧ Inv (DLs (spt L s)) w0 w1 (spt L1 s1) := by
  rcases hcase with ⟨n, rfl, hct, hJ⟩ | ⟨j, m, MA, mc, hij, hm, rfl, hJ⟩
  ·exact ⟨_, _, L, s, rfl, rfl, rfl, rfl, .inl ⟨⟨n, rfl⟩, hct, rfl, rfl⟩, hJ⟩
  ·exact ⟨_, _, { L with MA := MA, mc := mc }, { s with mails := s.mails.eraseIdx j }, rfl, rfl, rfl, rfl, .inr ⟨rfl, j, m, MA, mc, hij, hm, rfl, rfl, rfl⟩, hJ⟩
 refine ⟨_, rfl, ?_⟩
 replace hI := hI.callB (X := []) hJ
 refine Vv rfl (Vg rfl (Vg rfl (T0 (.agg zero9) zero9 hI rfl ?_)))
 clear hI; rintro b5 w - - hI
 refine WL_stw0 (u := .agg ag) (vs := ag) (n := 9) hI rfl rfl rfl rfl rfl rfl (by kernel_rfl) hag rfl hone ?_
 clear hI; intro w hI
 refine Th rfl (WL_nil ?_)
 rcases hcs with ⟨⟨n, rfl⟩, hct, rfl, rfl⟩ | ⟨rfl, j, m, MA, mc, hij, hm, rfl, rfl, rfl⟩
 ·refine W_seq (W_seq (W_region (Vo rfl (Tf rfl Tryz.underlying29 rfl (WL_nil (W_cond true rfl (W_seq (W_region (Vo rfl (Vk rfl (WL_nil ?_)))))))))))
  refine W_ret ?_
  exact ret1 4 (.inr rfl) rfl ⟨_, L1, s1, rfl, Mv.refl _, h.mono (by omega), rfl, rfl, hI.d0, fun j m hc hj hm => absurd (show 0 ≤ i ∧ i < (s1.mails.length : Int) by have := (List.getElem?_eq_some_iff.1 hm).1; omega) (hct hc)⟩
 have hgd : ∀ (j' : Nat) (m' : SMail), L.cut = false → i = (j' : Int) → s.mails[j']? = some m' → (Value.nilIface : Value) = .nilIface ∧ deliverF s j m = deliverF s j' m' := fun j' m' _ hj' hm' => by
  obtain rfl : j = j' := by omega
  rw [hm] at hm'
  injection hm' with hm'
  exact ⟨rfl, by rw [hm']⟩
 have hmm := h.mok m (List.mem_of_getElem? hm)
 obtain ⟨s1, hs1⟩ : ∃ s1 : StS, { s with mails := s.mails.eraseIdx j } = s1 := ⟨_, rfl⟩
 obtain ⟨L1, hL1⟩ : ∃ L1 : StL, { L with MA := MA, mc := mc } = L1 := ⟨_, rfl⟩
 have h1 : SOk L1 s1 M := by
  rw [← hs1, ← hL1]
  exact (h.mails (fun x hx => List.mem_of_mem_eraseIdx hx) (by rw [List.length_eraseIdx]; have := h.mlen; split <;> omega)).loc rfl
 have hn1 : s1.n = s.n ∧ s1.k = s.k := by rw [← hs1]; exact ⟨rfl, rfl⟩
 rw [hs1, hL1] at hI
 have hsbe : L1.sb = L.sb := by rw [← hL1]
 have hcute : L1.cut = L.cut := by rw [← hL1]
 have hdel : deliverF s j m = if m.dst < s.n then nodeF s1 m.dst m.m else hearF s1 m.src m.m := by rw [← hs1]; rfl
 have hc0 : ∀ w, Inv S w0 w ([B b5 167 (mailL m).toArray] ++ spt L1 s1) → w.cell? ⟨L.sb, 0, none⟩ = some (.int .i64 (s.n : Int)) := fun w hI => by
  have := sp_c0 (X := [_]) hI
  rw [hsbe, hn1.1] at this; exact this
 have hcl1 := h1.cok m.m.client (by have := hmm.1; omega)
 refine W_seq (W_seq (W_region (T3 rfl (Tc rfl Tryz.underlying29 rfl (WL_nil (W_cond false rfl (W_skip ?_)))))))
 by_cases hd : m.dst < s.n
 ·rw [if_pos hd] at hdel
  refine W_seq (W_seq (W_draw (by kernel_rfl) ?_))
  refine WA_inv (T := []) hI.drew ?_
  intro Sx hSx hXS
  replace hI := hI.drew
  refine Vc 0 1 (hXS _ hI) rfl (V9 1 (.int .i64 _) (hXS _ hI) rfl (fun W hW => (hSx W hW).c0 rfl) (Vh 2 (hXS _ hI) rfl (Vi 3 (hXS _ hI) rfl (Vc 4 0 (hXS _ hI) rfl (Vc 5 0 (hXS _ hI) rfl (V9 6 (.int .i64 (s.n : Int)) (hXS _ hI) rfl (fun W hW => have hI := hSx W hW; hc0 _ hI) ?_))))))
  refine WT_take 7 rfl rfl (by kernel_rfl) (hXS _ hI) rfl (fun W hW => have hI := hSx W hW; (by exact rLssT rfl rfl rfl (by omega))) ?_
  refine WT_end (by kernel_rfl) (W_cond true rfl (W_region (V7 rfl (V5 1 rfl (V3 (.int .i64 _) rfl (hI.c0 rfl) (V5 2 rfl (U6 7 (msgL m.m) rfl (blk_sub hI.g0 2 [] rfl) (V6 [.pointer _, .int .i64 _, .agg _] rfl Tryz.func64 rfl ?_))))))))
  rw [← hsbe]
  refine (node_any L1 s1 m.dst m.m (by omega) (by omega) hmm.2.1 (by have := hmm.1; omega) (DLs _) _ (hI.fromB (X := [_]))).mono ?_
  rintro en w1 ⟨rfl, MA', mc', hJ⟩
  refine ⟨_, rfl, ?_⟩
  replace hI := hI.callB (X := [_]) hJ
  refine WL_nil (W_seq (W_region (Vf rfl (WL_nil ?_))))
  refine W_ret ?_
  exact ret1 4 (.inr rfl) rfl ⟨_, { L1 with MA := MA', mc := mc' }, deliverF s j m, rfl, .inr (.inr (.inr ⟨j, m, hm, rfl⟩)), by rw [hdel]; exact ((h1.node (j := m.dst) (m := m.m) (by omega) (by have := hmm.1; omega) hmm.2.1 hmm.2.2.1 hmm.2.2.2.1).loc (L' := { L1 with MA := MA', mc := mc' }) rfl).mono (by omega), rfl, hcute, by rw [hdel]; exact hI.d0, hgd⟩
 ·rw [if_neg hd] at hdel
  have hsrc : m.src < s.n := by rcases hmm.2.2.2.2.2 with h | h; exact absurd h.1 hd; exact h.1
  refine W_seq (W_seq (W_draw (by kernel_rfl) ?_))
  refine WA_inv (T := []) hI.drew ?_
  intro Sx hSx hXS
  replace hI := hI.drew
  refine Vc 0 1 (hXS _ hI) rfl (V9 1 (.int .i64 _) (hXS _ hI) rfl (fun W hW => (hSx W hW).c0 rfl) (Vh 2 (hXS _ hI) rfl (Vi 3 (hXS _ hI) rfl (Vc 4 0 (hXS _ hI) rfl (Vc 5 0 (hXS _ hI) rfl (V9 6 (.int .i64 (s.n : Int)) (hXS _ hI) rfl (fun W hW => have hI := hSx W hW; hc0 _ hI) ?_))))))
  refine WT_take 7 rfl rfl (by kernel_rfl) (hXS _ hI) rfl (fun W hW => have hI := hSx W hW; (by exact rLssF rfl rfl rfl (by omega))) ?_
  refine WT_end (by kernel_rfl) (W_cond false rfl (W_region (V7 rfl (V5 0 rfl (V3 (.int .i64 _) rfl (hI.c0 rfl) (V5 2 rfl (U6 7 (msgL m.m) rfl (blk_sub hI.g0 2 [] rfl) (V6 [.pointer _, .int .i64 _, .agg _] rfl Tryz.func65 rfl ?_))))))))
  rw [← hsbe]
  refine (hear_any L1 s1 m.src m.m (by omega) (by omega) (by omega) (by have := hmm.1; omega) ⟨by have := h1.elen; omega, by have := h1.elen; have := h1.slen; omega⟩ (fun hb => ⟨(hcl1.2.2 hb).1, (hcl1.2.2 hb).2.1, (hcl1.2.2 hb).2.2.1⟩) ⟨by have := hcl1.1; omega, by have := hcl1.2.1; omega, by have := hmm.2.2.2.1; omega⟩ (DLs _) _ (hI.fromB (X := [_]))).mono ?_
  rintro en w1 ⟨rfl, MA', mc', EA, ec, SA, sc, cw, hJ, ho, hi⟩
  refine ⟨_, rfl, ?_⟩
  replace hI := hI.callB (X := [_]) hJ
  refine WL_nil (W_seq (W_region (Vf rfl (WL_nil ?_))))
  refine W_ret ?_
  exact ret1 4 (.inr rfl) rfl ⟨_, { L1 with MA := MA', mc := mc', EA := EA, ec := ec, SA := SA, sc := sc, cw := cw }, deliverF s j m, rfl, .inr (.inr (.inr ⟨j, m, hm, rfl⟩)), by rw [hdel]; exact h1.hear (by have := hmm.1; omega) hmm.2.2.2.1 ho hi, rfl, hcute, by rw [hdel]; exact hI.d0, hgd⟩
set_option maxHeartbeats 4000000 in
theorem beginM (L : StL) (s : StS) (M : Nat) (h : SOk L s M) (hM : M ≤ 100000) (S : Nat → Prop) (w0 : World) (hI : Inv S w0 w0 (spt L s)) (c key : Int) (write : Bool) (value : Int) :
  Calls Tryz.prog 62 #[.pointer (some ⟨L.sb, 0, none⟩), .int .i64 c, .int .i64 key, .bool write, .int .i64 value] w0 fun en w' => ∃ v L' s', en = .returned v ∧ Mv s s' ∧ SOk L' s' (M + 1) ∧ L'.sb = L.sb ∧ L'.cut = L.cut ∧ Inv S w0 w' (spt L' s') ∧ (∀ c' kn : Nat, MayB s c c' → key = (kn : Int) → kn < 8 → -1000000 ≤ value → value ≤ 1000000 → (write = false → value = 0) → v = .nilIface ∧ s' = begS s c' kn write value) ∧ (((∃ n : Int, v = .iface 49 (.int .i64 n)) ∧ s' = s ∧ L' = L) ∨ (v = .nilIface ∧ ∃ c' kn : Nat, MayB s c c' ∧ key = (kn : Int) ∧ kn < 8 ∧ (-1000000 ≤ value ∧ value ≤ 1000000) ∧ (write = false → value = 0) ∧ s' = begS s c' kn write value)) := by
 have hel := h.elen
 refine Vm Tryz.f62.ntmps Tryz.func62 rfl ?_
 refine W_seq (W_region (Vf rfl (WL_nil ?_)))
 by_cases hbad : key < 0 ∨ 8 ≤ key ∨ value < -1000000 ∨ 1000000 < value ∨ (write = false ∧ value ≠ 0)
 ·refine W_seq ?_
  refine W_seq_cut (fun ρ w => ρ 35 = .bool true ∧ Inv S w0 w (spt L s)) ?_ ?_
  ·by_cases h1 : key < 0
   ·refine W_region (V0 rfl (Vp rfl (V2 rfl (V1 rfl (V1 rfl (Vd rfl (V2 rfl (V1 rfl (V1 rfl (Vd rfl (V2 rfl (V1 rfl (V1 rfl ?_)))))))))))))
    refine Vd rfl (V2 rfl (V1 rfl (V1 rfl (V1 rfl (V1 rfl (V1 rfl (V1 rfl (Vd rfl (WL_nil ?_)))))))))
    exact ⟨rfl, hI⟩
   by_cases h2 : 8 ≤ key
   ·refine W_region (V0 rfl (Vn rfl (V2 rfl (V0 rfl (Tg rfl (V8 rfl (V2 rfl (V1 rfl (V1 rfl (Vd rfl (V2 rfl (V1 rfl (V1 rfl ?_)))))))))))))
    refine Vd rfl (V2 rfl (V1 rfl (V1 rfl (V1 rfl (V1 rfl (V1 rfl (V1 rfl (Vd rfl (WL_nil ?_)))))))))
    exact ⟨rfl, hI⟩
   by_cases h3 : value < -1000000
   ·refine W_region (V0 rfl (Vn rfl (V2 rfl (V0 rfl (To rfl (V8 rfl (V2 rfl (V0 rfl (Vp rfl (V8 rfl (V2 rfl (V1 rfl (V1 rfl ?_)))))))))))))
    refine Vd rfl (V2 rfl (V1 rfl (V1 rfl (V1 rfl (V1 rfl (V1 rfl (V1 rfl (Vd rfl (WL_nil ?_)))))))))
    exact ⟨rfl, hI⟩
   by_cases h4 : 1000000 < value
   ·refine W_region (V0 rfl (Vn rfl (V2 rfl (V0 rfl (To rfl (V8 rfl (V2 rfl (V0 rfl (Vn rfl (V8 rfl (V2 rfl (V0 rfl (Ts rfl ?_)))))))))))))
    refine V8 rfl (V2 rfl (V1 rfl (V1 rfl (V1 rfl (V1 rfl (V1 rfl (V1 rfl (Vd rfl (WL_nil ?_)))))))))
    exact ⟨rfl, hI⟩
   obtain ⟨rfl, h5⟩ : write = false ∧ value ≠ 0 := by
    rcases hbad with h | h | h | h | h
    ·exact absurd h h1
    ·exact absurd h h2
    ·exact absurd h h3
    ·exact absurd h h4
    ·exact h
   refine W_region (V0 rfl (Vn rfl (V2 rfl (V0 rfl (To rfl (V8 rfl (V2 rfl (V0 rfl (Vn rfl (V8 rfl (V2 rfl (V0 rfl (Td rfl ?_)))))))))))))
   refine V8 rfl (V2 rfl (V2 rfl (Ta rfl (V2 rfl (V0 rfl (Tx rfl (Vd rfl (V8 rfl (WL_nil ?_)))))))))
   exact ⟨rfl, hI⟩
  ·clear hI
   rintro ρ w ⟨h35, hI⟩
   refine W_cond true h35 (W_seq (W_region (Vx rfl Tryz.underlying49 rfl (Vk rfl (WL_nil ?_)))))
   refine W_ret ?_
   exact ret1 10 (.inr rfl) rfl ⟨_, L, s, rfl, Mv.refl _, h.mono (by omega), rfl, rfl, hI, fun c' kn _ h1 h2 h3 h4 h5 => absurd hbad (fun hb => by
    rcases hb with h | h | h | h | h
    ·omega
    ·omega
    ·omega
    ·omega
    ·exact h.2 (h5 h.1)), .inl ⟨⟨_, rfl⟩, rfl, rfl⟩⟩
 have hg1 : 0 ≤ key ∧ key < 8 ∧ -1000000 ≤ value ∧ value ≤ 1000000 := by omega
 have hw00 : write = false → value = 0 := fun hw => Classical.byContradiction fun hv => hbad (.inr (.inr (.inr (.inr ⟨hw, hv⟩))))
 refine W_seq_cut (fun ρ w => Has ρ [(0, .pointer (some ⟨L.sb, 0, none⟩)), (1, .int .i64 c), (2, .int .i64 key), (3, .bool write), (4, .int .i64 value)] ∧ Inv S w0 w (spt L s)) ?_ ?_
 ·cases write with
  | true =>
   refine W_seq (W_region (V0 rfl (Vn rfl (V2 rfl (V0 rfl (To rfl (V8 rfl (V2 rfl (V0 rfl (Vn rfl (V8 rfl (V2 rfl (V0 rfl ?_)))))))))))))
   refine Td rfl (V8 rfl (V2 rfl (V2 rfl (T4 rfl (V2 rfl (V1 rfl (V1 rfl (V8 rfl (V8 rfl (WL_nil (W_cond false rfl (W_skip ?_))))))))))))
   exact ⟨⟨rfl, rfl, rfl, rfl, rfl, trivial⟩, hI⟩
  | false =>
   have h0 : value = 0 := Classical.byContradiction fun hv => hbad (.inr (.inr (.inr (.inr ⟨rfl, hv⟩))))
   refine W_seq (W_region (V0 rfl (Vn rfl (V2 rfl (V0 rfl (To rfl (V8 rfl (V2 rfl (V0 rfl (Vn rfl (V8 rfl (V2 rfl (V0 rfl ?_)))))))))))))
   refine Td rfl (V8 rfl (V2 rfl (V2 rfl (Ta rfl (V2 rfl (V0 rfl (U5 rfl (Vd rfl (V8 rfl (WL_nil (W_cond false rfl (W_skip ?_))))))))))))
   exact ⟨⟨rfl, rfl, rfl, rfl, rfl, trivial⟩, hI⟩
 clear hI
 rintro ρ w ⟨hH, hI⟩
 obtain ⟨σ, rfl⟩ := hH.open
 obtain ⟨kn, rfl⟩ : ∃ kn : Nat, key = (kn : Int) := ⟨key.toNat, by omega⟩
 have hkn : kn < 8 := by omega
 refine W_seq (W_seq (W_region (V7 rfl (V0 rfl (V6 [.pointer _, .int .i64 _] rfl Tryz.func61 rfl ?_)))))
 refine (free_any L s c h.k1.2 (by omega) (DLs _) _ (hI.fromB (X := []))).mono ?_
 rintro en w1 ⟨hcase, hJ⟩
 obtain ⟨v, rfl, hv⟩ : ∃ v, en = .returned v ∧ ((v = .nilIface ∧ ∃ c', MayB s c c') ∨ ((∃ n, v = .iface 49 (.int .i64 n)) ∧ ∀ c', ¬ MayB s c c')) := by
  rcases hcase with ⟨rfl, hm⟩ | ⟨⟨n, rfl⟩, hno⟩
  ·exact ⟨_, rfl, .inl ⟨rfl, hm⟩⟩
  ·exact ⟨_, rfl, .inr ⟨⟨n, rfl⟩, hno⟩⟩
 refine ⟨_, rfl, ?_⟩
 replace hI := hI.callB (X := []) hJ
 refine Th rfl (WL_nil ?_)
 rcases hv with ⟨rfl, c', hmb⟩ | ⟨⟨n, rfl⟩, hno⟩
 rotate_left
 ·refine W_seq (W_region (Vo rfl (Tf rfl Tryz.underlying29 rfl (WL_nil (W_cond true rfl (W_seq (W_region (Vo rfl (Vk rfl (WL_nil ?_))))))))))
  refine W_ret ?_
  exact ret1 10 (.inr rfl) rfl ⟨_, L, s, rfl, Mv.refl _, h.mono (by omega), rfl, rfl, hI, fun c' _ hm => absurd hm (hno c'), .inl ⟨⟨_, rfl⟩, rfl, rfl⟩⟩
 obtain ⟨rfl, hc, hb, hgn, hroom⟩ := hmb
 have hcx := h.cok c' hc
 refine W_seq (W_region (T3 rfl (Tc rfl Tryz.underlying29 rfl (WL_nil (W_cond false rfl (W_skip (W_seq (W_region (V0 rfl (V0 rfl (T6 [(0, .int .i64 _), (1, .int .i64 _), (2, .int .i64 _), (3, .int .i64 _)] [_, _, _, _, _, _, _] rfl [.int .i64 0, .int .i64 0, .int .i64 0, .int .i64 0, .int .i64 0, .int .i64 0, .int .i64 0] [0, 1, 2, 3] rfl (fun _ => by kernel_rfl) (T0 (.agg #[.int .i64 0, .int .i64 0, .int .i64 0, .int .i64 0, .int .i64 0, .int .i64 0, .int .i64 0]) (#[.int .i64 0, .int .i64 0, .int .i64 0, .int .i64 0, .int .i64 0, .int .i64 0, .int .i64 0]) hI rfl ?_))))))))))))
 clear hI; rintro b12 w - - hI
 refine T1 7 (#[_, _, _, _, _, _, _]) (.agg _) hI rfl ?_
 clear hI; intro w hI
 refine WL_nil ?_
 refine W_seq_cut (fun ρ w => Has ρ [(12, .pointer (some ⟨b12, 0, none⟩)), (0, .pointer (some ⟨L.sb, 0, none⟩)), (1, .int .i64 (c' : Int))] ∧ Inv S w0 w ([B b12 48 (evL (evB c' kn write value)).toArray] ++ spt L s)) ?_ ?_
 ·cases write with
  | true =>
   refine W_seq (W_region (V2 rfl (WL_nil (W_cond true rfl (W_region (V0 rfl (V5 3 rfl ?_)))))))
   refine WL_st0 (u := .int .i64 _) hI rfl rfl rfl rfl rfl rfl (by kernel_rfl) rfl rfl rfl ?_
   clear hI; intro w hI
   refine V5 4 rfl ?_
   refine WL_st0 (u := .int .i64 _) hI rfl rfl rfl rfl rfl rfl (by kernel_rfl) rfl rfl rfl ?_
   clear hI; intro w hI
   refine WL_nil ?_
   exact ⟨⟨rfl, rfl, rfl, trivial⟩, hI⟩
  | false =>
   refine W_seq (W_region (V2 rfl (WL_nil (W_cond false rfl (W_skip ?_)))))
   exact ⟨⟨rfl, rfl, rfl, trivial⟩, hI⟩
 clear hI
 rintro ρ w ⟨hH, hI⟩
 obtain ⟨σ, rfl⟩ := hH.open
 obtain ⟨ev, hev⟩ : ∃ ev, evB c' kn write value = ev := ⟨_, rfl⟩
 rw [hev] at hI
 refine W_seq (W_region (V7 rfl ?_))
 refine U6 7 (evL ev) rfl (fun k u hk => hI.cell 0 rfl (by rw [Nat.zero_add, List.getElem?_toArray]; exact hk)) ?_
 refine T6 [] [.int .i64 0, .int .i64 0] rfl [.int .i64 0, .int .i64 0] [] rfl (fun _ => by kernel_rfl) (V6 [.pointer _, .agg _, .agg _] rfl Tryz.func94 rfl ?_)
 refine (see_any L s ev ⟨0, 0, 0⟩ (DLs _) _ (hI.fromB (X := [_])) ⟨by omega, by have := h.slen; omega⟩).mono ?_
 rintro en w1 ⟨rfl, EA, ec, SA, sc, hJ⟩
 refine ⟨_, rfl, ?_⟩
 replace hI := hI.callB (X := [_]) hJ
 refine WL_nil ?_
 obtain ⟨s1, hs1⟩ : ∃ s1, obsF s ev ⟨0, 0, 0⟩ = s1 := ⟨_, rfl⟩
 obtain ⟨L1, hL1⟩ : ∃ L1 : StL, { L with EA := EA, ec := ec, SA := SA, sc := sc } = L1 := ⟨_, rfl⟩
 have hk1 : s1.k = s.k := by rw [← hs1]; rfl
 have hn1 : s1.n = s.n := by rw [← hs1]; rfl
 have hcb1 : L1.cb = L.cb := by rw [← hL1]
 have hsb1 : L1.sb = L.sb := by rw [← hL1]
 have hcl1 : s1.cl = s.cl := by rw [← hs1]; rfl
 have hc1 : c' < s1.k := by omega
 rw [hs1, hL1] at hI
 have h6 : ∀ w, Inv S w0 w ([B b12 48 (evL ev).toArray] ++ spt L1 s1) → w.cell? ⟨L.sb, 6, none⟩ = some (.slice (some ⟨L1.cb, 0, none⟩) s1.k s1.k) := fun w hI => by rw [← hsb1]; exact sp_c6 hI
 refine W_seq (W_region (V7 rfl (Vb rfl (V5 6 rfl (V3 (.slice _ _ _) rfl (h6 _ hI) (V0 rfl (Ti 15 rfl Tryz.underlying92 rfl (U4 rfl (WL_nil ?_)))))))))
 unfold spt at hI
 rw [← clX_start (c := c')] at hI
 refine W_seq (W_draw (by kernel_rfl) ?_)
 refine WA_inv (T := []) hI.d3.drew ?_
 intro Sx hSx hXS
 replace hI := hI.drew
 refine Vh 0 (hXS _ hI.d3) rfl (Vh 1 (hXS _ hI.d3) rfl (Vh 2 (hXS _ hI.d3) rfl ?_))
 refine U7 3 7 (evL ev) (hXS _ hI.d3) rfl (fun W hW => have hI := hSx W hW; fun k u hk => hI.cell 0 rfl (by rw [Nat.zero_add, List.getElem?_toArray]; exact hk)) ?_
 refine Ty 4 [(1, .int .i64 _)] [_, _] (hXS _ hI.d3) rfl [.int .i64 0, .int .i64 0] [1] rfl (fun _ _ => fun _ => by kernel_rfl) (Ty 5 [(0, .agg #[_, _])] [_, _, _] (hXS _ hI.d3) rfl [.int .i64 0, .int .i64 0, .int .i64 0] [0] rfl (fun _ _ => fun _ => by kernel_rfl) (Vi 6 (hXS _ hI.d3) rfl (Tz 7 (hXS _ hI.d3) rfl (Vt 8 rfl ?_))))
 refine WL_st 3 rfl (u := .bool true) (j := 0 + c' * 15) hI rfl rfl rfl rfl rfl rfl (by kernel_rfl) rfl (clX_blt0 hc1) (clX_set0 (x := s1.cl c') (cv := cntV L1 s1 c') (cv' := cntV L1 s1 c') (x' := { s1.cl c' with busy := true }) hc1 rfl) ?_
 clear hI; intro w hI
 refine WL_nil ⟨hXS _ hI.d3, ?_⟩
 refine Vi 9 (hXS _ hI.d3) rfl (T8 10 2 (hXS _ hI.d3) rfl (Vt 11 rfl ?_))
 refine WL_stA 3 rfl (u := .agg (evL ev).toArray) (vs := (evL ev).toArray) (n := 7) (j := 0 + c' * 15 + 2) hI rfl rfl rfl rfl rfl rfl (by kernel_rfl) rfl (by have := clX_lt (L := L1) (s := s1) (x := { s1.cl c' with busy := true }) (cv := cntV L1 s1 c') hc1 (j := 14) (by omega); omega) rfl (clX_sp (x := { s1.cl c' with busy := true }) (cv := cntV L1 s1 c') (cv' := cntV L1 s1 c') (x' := { s1.cl c' with busy := true, began := ev }) hc1 2 (by simp [evL]) rfl) ?_
 clear hI; intro w hI
 refine WL_nil ⟨hXS _ hI.d3, ?_⟩
 refine Vi 12 (hXS _ hI.d3) rfl (T8 13 12 (hXS _ hI.d3) rfl (Vt 14 rfl ?_))
 refine WL_stA 3 rfl (u := .agg (entL ⟨0, -2, 0⟩).toArray) (vs := (entL ⟨0, -2, 0⟩).toArray) (n := 3) (j := 0 + c' * 15 + 12) hI rfl rfl rfl rfl rfl rfl (by kernel_rfl) rfl (by have := clX_lt (L := L1) (s := s1) (x := { s1.cl c' with busy := true, began := ev }) (cv := cntV L1 s1 c') hc1 (j := 14) (by omega); omega) rfl (clX_sp (x := { s1.cl c' with busy := true, began := ev }) (cv := cntV L1 s1 c') (cv' := cntV L1 s1 c') (x' := { s1.cl c' with busy := true, began := ev, best := ⟨0, -2, 0⟩ }) hc1 12 (by simp [entL]) rfl) ?_
 clear hI; intro w hI
 refine WL_nil ⟨hXS _ hI.d3, ?_⟩
 refine WT_end (by kernel_rfl) ?_
 replace hI := cl_back (X := [B b12 48 (evL ev).toArray]) (L := L1) (s := s1) (x' := { s1.cl c' with busy := true, began := ev, best := ⟨0, -2, 0⟩ }) hc1 rfl hI
 obtain ⟨s2, hs2⟩ : ∃ s2, setCl s1 c' { s1.cl c' with busy := true, began := ev, best := ⟨0, -2, 0⟩ } = s2 := ⟨_, rfl⟩
 rw [hs2] at hI
 have hk2 : s2.k = s.k := by rw [← hs2]; exact hk1
 have hn2 : s2.n = s.n := by rw [← hs2]; exact hn1
 have hx2 : s2.cl c' = { s1.cl c' with busy := true, began := ev, best := ⟨0, -2, 0⟩ } := by rw [← hs2, setCl_self]
 have hbeg : begS s c' kn write value = sendF s2 c' 1 ⟨0, 0, 0⟩ := by rw [← hs2, ← hs1, ← hev]; rfl
 have hn := h.n1
 have hk8 := h.k1
 refine W_seq (W_region (V7 rfl (V0 rfl (T6 [] [.int .i64 0, .int .i64 0, .int .i64 0] rfl [.int .i64 0, .int .i64 0, .int .i64 0] [] rfl (fun _ => by kernel_rfl) (V6 [.pointer _, .int .i64 _, .int .i64 _, .agg _] rfl Tryz.func95 rfl ?_)))))
 rw [← hsb1]
 refine (ssend_any L1 s2 c' 1 ⟨0, 0, 0⟩ (by omega) (by omega) (by omega) (by rw [hx2]; show (s1.cl c').round ≤ 1000000; rw [hcl1]; have := hcx.1; omega) (by rw [hx2, ← hev]; show (0 : Int) ≤ (kn : Int); omega) (DLs _) _ (hI.fromB (X := [_]))).mono ?_
 rintro en w1 ⟨rfl, b', MA, mc, hJ⟩
 refine ⟨_, rfl, ?_⟩
 replace hI := hI.callB (X := [_]) hJ
 refine WL_nil (W_seq (W_region (Vf rfl (WL_nil ?_))))
 refine W_ret ?_
 refine ret1 10 (.inr rfl) rfl ⟨_, { L1 with cw := fun i => if i = c' then some b' else L1.cw i, MA := MA, mc := mc }, begS s c' kn write value, rfl, .inr (.inl ⟨c', kn, write, value, hc, hb, hgn, hkn, ⟨hg1.2.2.1, hg1.2.2.2⟩, rfl⟩), ?_, rfl, by rw [← hL1], by rw [hbeg]; exact hI.d0, fun c2 k2 hm2 hk2 _ _ _ _ => by
  obtain rfl : c' = c2 := by have := hm2.eq; omega
  obtain rfl : kn = k2 := by omega
  exact ⟨rfl, rfl⟩, .inr ⟨rfl, c', kn, ⟨rfl, hc, hb, hgn, hroom⟩, rfl, hkn, ⟨hg1.2.2.1, hg1.2.2.2⟩, hw00, rfl⟩⟩
 exact (h.loc (L' := L1) (by rw [← hL1])).begin hc hb hroom hkn (by show (if c' = c' then some b' else L1.cw c') ≠ none; rw [if_pos rfl]; exact fun h => by cases h) (fun i hi => if_neg hi)
abbrev at0 (b : Nat) : Value := .pointer (some ⟨b, 0, none⟩)
def tapeE (q : Nat) (nv : Value) (u : Nat) : Ent := B q 61 #[nv, .int .i64 (u : Int)]
theorem belF_lt (nums : List Int) (u : Nat) (n : Int) (h : 0 < n) : 0 ≤ belF nums u n ∧ belF nums u n < n := ⟨Int.emod_nonneg _ (by omega), Int.emod_lt_of_pos _ h⟩
theorem wrap_u64n {n : Int} (h : 0 < n) (h2 : n ≤ 9223372036854775807) : IntKind.u64.wrap n = n := by simp [IntKind.wrap, IntKind.signed, IntKind.bits]; omega
theorem belF_wrap (nums : List Int) (u : Nat) (n : Int) (h : 0 < n) (h2 : n ≤ 9223372036854775807) : IntKind.i64.wrap (Int.tmod (IntKind.u64.wrap (nums.getD u 0)) (IntKind.u64.wrap n)) = belF nums u n := by
 have e1 : IntKind.u64.wrap n = n := by simp [IntKind.wrap, IntKind.signed, IntKind.bits]; omega
 have h0 : 0 ≤ IntKind.u64.wrap (nums.getD u 0) := by simp [IntKind.wrap, IntKind.signed, IntKind.bits]; omega
 have h3 := belF_lt nums u n h
 rw [e1, Int.tmod_eq_emod_of_nonneg h0]
 show IntKind.i64.wrap (belF nums u n) = belF nums u n
 rw [wrap64_in (by omega) (by omega)]
set_option maxHeartbeats 1000000 in
theorem below_any (S D : Nat → Prop) (w0 w : World) (H : List Ent) (q : Nat) (A : Option Addr) (len c : Nat) (nums : List Int) (u : Nat) (n : Int) (hI : Inv S w0 w (tapeE q (.slice A len c) u :: H)) (hN : Ints w0 D (.slice A len c) nums) (hD : ∀ k, D k → ¬ S k) (hn : 0 < n) (hn2 : n ≤ 9223372036854775807) (hu : u < 9223372036854775807) :
  Calls Tryz.prog 35 #[at0 q, .int .i64 n] w fun e w' => e = .returned (.int .i64 (belF nums u n)) ∧ Inv S w0 w' (tapeE q (.slice A len c) (u + 1) :: H) := by
 unfold tapeE at hI
 have hlen : len = nums.length := by
  obtain ⟨A', c', hv, _⟩ := hN
  injection hv
 refine Vm Tryz.f35.ntmps Tryz.func35 rfl ?_
 refine W_seq (W_region (Va rfl (WL_nil (W_seq (W_seq (W_region (V7 rfl ?_)))))))
 refine WL_val rfl rfl rfl (rPtrEq rfl Tryz.underlying58 rfl rfl) ?_
 refine V2 rfl (V0 rfl ?_)
 refine WL_val rfl rfl rfl (by exact rLeqF rfl rfl rfl (by omega)) ?_
 refine V8 rfl (WL_nil (W_cond false rfl (W_skip (W_seq (W_region (Va rfl (WL_nil ?_)))))))
 have hcell : u < len → ∃ b o, A = some ⟨b, o, none⟩ ∧ D b ∧ w0.cell? ⟨b, o + u, none⟩ = some (.int .i64 (nums.getD u 0)) := fun h => by
  obtain ⟨b, o, hA, hb, _, hc⟩ := hN.get (k := u) (by omega)
  refine ⟨b, o, hA, hb, ?_⟩
  rw [hc, List.getD_eq_getElem?_getD, List.getElem?_eq_getElem (by omega)]
  rfl
 have hfin : ∀ (x : Int) (w : World), Inv S w0 w (B q 61 #[.slice A len c, .int .i64 (u : Int)] :: H) → True := fun _ _ _ => trivial
 by_cases hlt : u < len
 ·obtain ⟨b, o, rfl, hb, hc⟩ := hcell hlt
  refine W_seq (W_seq (W_draw (by kernel_rfl) ?_))
  refine WA_inv (T := []) hI.drew ?_
  intro Sx hSx hXS
  replace hI := hI.drew
  refine Vh 0 (hXS _ hI) rfl (Vi 1 (hXS _ hI) rfl (Vc 2 1 (hXS _ hI) rfl (V9 3 (.int .i64 _) (hXS _ hI) rfl (fun W hW => (hSx W hW).c0 rfl) (Vh 4 (hXS _ hI) rfl (Vi 5 (hXS _ hI) rfl (Vc 6 0 (hXS _ hI) rfl (V9 7 (.slice _ _ _) (hXS _ hI) rfl (fun W hW => (hSx W hW).c0 rfl) (Uh 8 (hXS _ hI) rfl Tryz.underlying26 rfl ?_))))))))
  refine WT_take 9 rfl rfl (by kernel_rfl) (hXS _ hI) rfl (fun W hW => have hI := hSx W hW; (by exact rLssT rfl rfl rfl (by omega))) ?_
  refine WT_end (by kernel_rfl) (W_cond true rfl (W_draw (by kernel_rfl) ?_))
  refine WA_inv (T := []) hI.drew ?_
  intro Sx hSx hXS
  replace hI := hI.drew
  refine Vh 0 (hXS _ hI) rfl (Vi 1 (hXS _ hI) rfl (Vc 2 0 (hXS _ hI) rfl (V9 3 (.slice _ _ _) (hXS _ hI) rfl (fun W hW => (hSx W hW).c0 rfl) (Vh 4 (hXS _ hI) rfl (Vi 5 (hXS _ hI) rfl (Vc 6 1 (hXS _ hI) rfl (V9 7 (.int .i64 _) (hXS _ hI) rfl (fun W hW => (hSx W hW).c0 rfl) ?_)))))))
  refine WT_take 8 rfl rfl (by kernel_rfl) (hXS _ hI) rfl (fun W hW => have hI := hSx W hW; (rIdx1 (i := u) rfl Tryz.underlying26 (by kernel_rfl) rfl rfl (by omega))) ?_
  refine V9 9 (.int .i64 _) (hXS _ hI) rfl (fun W hW => have hI := hSx W hW; hI.old hc (hD b hb)) (Ua 10 (hXS _ hI) rfl (WT_end (by kernel_rfl) (W_seq (W_region (V7 rfl (Vb rfl (V5 1 rfl (V3 (.int .i64 _) rfl (hI.c0 rfl) (Vu rfl (Vb rfl (V5 1 rfl ?_)))))))))))
  refine WL_st0 (u := .int .i64 _) hI rfl rfl rfl rfl rfl rfl (by kernel_rfl) rfl rfl rfl ?_
  clear hI; intro w hI
  refine WL_nil (W_seq (W_region (V0 rfl ?_)))
  refine WL_val rfl rfl rfl (rConvW rfl Tryz.underlying3 Tryz.underlying158 rfl) ?_
  refine V0 rfl ?_
  refine WL_val rfl rfl rfl (rConvW rfl Tryz.underlying3 Tryz.underlying158 rfl) ?_
  refine WL_val rfl rfl rfl (rRemW rfl rfl rfl (by rw [wrap_u64n hn hn2]; omega)) ?_
  refine WL_val rfl rfl rfl (rConvW rfl Tryz.underlying158 Tryz.underlying3 rfl) ?_
  refine Va rfl (WL_nil ?_)
  refine W_ret ?_
  refine ret1 4 (.inr rfl) rfl ⟨?_, hI⟩
  rw [← belF_wrap nums u n hn hn2]
  rfl
 ·refine W_seq (W_seq (W_draw (by kernel_rfl) ?_))
  refine WA_inv (T := []) hI.drew ?_
  intro Sx hSx hXS
  replace hI := hI.drew
  refine Vh 0 (hXS _ hI) rfl (Vi 1 (hXS _ hI) rfl (Vc 2 1 (hXS _ hI) rfl (V9 3 (.int .i64 _) (hXS _ hI) rfl (fun W hW => (hSx W hW).c0 rfl) (Vh 4 (hXS _ hI) rfl (Vi 5 (hXS _ hI) rfl (Vc 6 0 (hXS _ hI) rfl (V9 7 (.slice _ _ _) (hXS _ hI) rfl (fun W hW => (hSx W hW).c0 rfl) (Uh 8 (hXS _ hI) rfl Tryz.underlying26 rfl ?_))))))))
  refine WT_take 9 rfl rfl (by kernel_rfl) (hXS _ hI) rfl (fun W hW => have hI := hSx W hW; (by exact rLssF rfl rfl rfl (by omega))) ?_
  refine WT_end (by kernel_rfl) (W_cond false rfl (W_skip (W_seq (W_region (V7 rfl (Vb rfl (V5 1 rfl (V3 (.int .i64 _) rfl (hI.c0 rfl) (Vu rfl (Vb rfl (V5 1 rfl ?_)))))))))))
  refine WL_st0 (u := .int .i64 _) hI rfl rfl rfl rfl rfl rfl (by kernel_rfl) rfl rfl rfl ?_
  clear hI; intro w hI
  refine WL_nil (W_seq (W_region (V0 rfl ?_)))
  refine WL_val rfl rfl rfl (rConvW rfl Tryz.underlying3 Tryz.underlying158 rfl) ?_
  refine V0 rfl ?_
  refine WL_val rfl rfl rfl (rConvW rfl Tryz.underlying3 Tryz.underlying158 rfl) ?_
  refine WL_val rfl rfl rfl (rRemW rfl rfl rfl (by rw [wrap_u64n hn hn2]; omega)) ?_
  refine WL_val rfl rfl rfl (rConvW rfl Tryz.underlying158 Tryz.underlying3 rfl) ?_
  refine Va rfl (WL_nil ?_)
  refine W_ret ?_
  refine ret1 4 (.inr rfl) rfl ⟨?_, hI⟩
  rw [← belF_wrap nums u n hn hn2, List.getD_eq_getElem?_getD, List.getElem?_eq_none (by omega)]
  rfl
theorem infoGen : (Tryz.prog.info? 54).map (fun i => (i.zero, i.size, i.bytes)) = some (some .nilIface, 1, 16) := by kernel_rfl
theorem zeroGen (w : World) : (zeroValue 54).run Tryz.prog w = .ok .nilIface w := by kernel_rfl
theorem gdel_cells (cur : Array Value) (xs news zs : List Value) (n k size : Nat) (htake : cur.toList.take (n * size) = xs) (hlen : xs.length = n * size) (hk : k < n) (hnews : news = xs.drop ((k + 1) * size)) (hz : zs.length = size) (hcs : n * size ≤ cur.size) :
  (splice (splice cur (0 + k * size) news) ((k + (n - (k + 1))) * size) zs).toList.take ((n - 1) * size) = xs.take (k * size) ++ xs.drop ((k + 1) * size) := by
 have e1 : (k + (n - (k + 1))) = n - 1 := by omega
 have hnl : news.length = (n - (k + 1)) * size := by rw [hnews, List.length_drop, hlen, Nat.sub_mul]
 have e2 : k * size + (n - (k + 1)) * size = (n - 1) * size := by rw [← Nat.add_mul]; congr 1
 have e3 : (n - 1) * size + size = n * size := by
  have : n = (n - 1) + 1 := by omega
  conv => rhs; rw [this, Nat.add_mul, Nat.one_mul]
 have e4 : k * size ≤ n * size := Nat.mul_le_mul_right _ (by omega)
 rw [e1, splice_list _ _ _ (by rw [splice_size, hz]; omega), List.append_assoc, List.take_append_of_le_length (by rw [List.length_take, Array.length_toList, splice_size]; omega), List.take_take, Nat.min_self,
  splice_list _ _ _ (by rw [hnl]; omega), Nat.zero_add, List.take_append_of_le_length (by rw [List.length_append, List.length_take, Array.length_toList, hnl]; omega), List.take_of_length_le (by rw [List.length_append, List.length_take, Array.length_toList, hnl]; omega), hnews, ← htake, List.take_take, Nat.min_eq_left e4]
set_option maxHeartbeats 400000 in
set_option maxRecDepth 100000 in
theorem gdelete_any (base n k : Nat) (v : Value) (xs : List Value) (w : World) (h : w.ownsRow base 54 1 v n xs) (h1 : ∀ u ∈ xs, u.oneCell' = true) (hk : k < n) (hn : n ≤ 1000000) :
  Calls Tryz.prog 187 #[v, .int .i64 k, .int .i64 ((k : Int) + 1)] w fun e w' => ∃ v', e = .returned v' ∧
   w'.ownsRow base 54 1 v' (n - 1) (xs.eraseIdx k) ∧ Chg (fun k => some k = v.ownBlock) w w' ∧ v'.ownBlock = v.ownBlock := by
 obtain ⟨i0, hi0, hz0, hz1, hz2⟩ := info_parts infoGen
 rcases h.2 with ⟨rfl, rfl⟩ | ⟨g, cap, cur, rfl, hbg, hg, hnc, hcm, hcs, htake⟩
 ·omega
 have hlen := h.1
 simp only [maxLen] at hcm
 have hB : Blk w g 54 cur := hg
 obtain ⟨news, hnews⟩ : ∃ news, news = xs.drop ((k + 1)) := ⟨_, rfl⟩
 have hnl : news.length = (n - (k + 1)) := by rw [hnews, List.length_drop, hlen]; omega
 have hget : ∀ j u, xs[j]? = some u → w.cell? ⟨g, j, none⟩ = some u := fun j u hj => by
  rw [hB.cell, ← Array.getElem?_toList]
  rw [← htake, List.getElem?_take] at hj
  split at hj
  ·exact hj
  ·cases hj
 obtain ⟨A, hA, hsrc⟩ : ∃ A : Addr, (if cap = k + 1 then some (⟨g, 0, none⟩ : Addr) else some ⟨g, (k + 1), none⟩) = some A ∧ Hid (∀ t u, news[t]? = some u → w.drew.cell? (A.add t) = some u) := by
  by_cases hc : cap = k + 1
  ·refine ⟨_, by rw [if_pos hc], fun t u hu => ?_⟩
   have h0 : news.length = 0 := by rw [hnl]; omega
   rw [List.length_eq_zero_iff.1 h0] at hu
   simp at hu
  ·refine ⟨_, by rw [if_neg hc], fun t u hu => ?_⟩
   rw [Addr.add_lit]
   rw [hnews, List.getElem?_drop] at hu
   exact hget _ u hu
 have s1 : Hid (news.length = (n - (k + 1))) := hnl
 have s2 : Hid (∀ u ∈ news, u.oneCell' = true) := fun u hu => h1 u (List.mem_of_mem_drop (hnews ▸ hu))
 have s3 : Hid (∀ t, t < news.length → (w.drew.cell? ⟨g, 0 + k + t, none⟩).isSome = true ∧ w.drew.frozen? ⟨g, 0 + k + t, none⟩ = false) := by
  intro t ht
  refine ⟨?_, hB.frozen _⟩
  show (w.cell? _).isSome = true
  rw [hB.cell, Array.getElem?_eq_getElem (by rw [hcs]; omega)]
  rfl
 obtain ⟨W1, hW1⟩ : ∃ W1, W1 = w.drew.setCells g (0 + k) news := ⟨_, rfl⟩
 have hB1 : Blk W1 g 54 (splice cur (0 + k) news) := by rw [hW1]; exact hB.drew.setCells _ _
 have hcl : ∀ ty, (Builtin.clear_ #[150] ty #[.slice (some ⟨g, (k + (n - (k + 1))), none⟩) (n - (k + (n - (k + 1)))) (cap - (k + (n - (k + 1))))]).run Tryz.prog W1 = .ok (.tuple #[]) (W1.setCells g ((k + (n - (k + 1)))) (Builtin.zeroCells #[.nilIface] (n - (k + (n - (k + 1))))).toList) :=
  fun ty => run_clear_row W1 _ _ ty _ Tryz.underlying150 zeroGen (by simp [Value.cells, Value.oneCell']) g _ _ _ (by omega) (fun j hj => by
   rw [hB1.cell, Array.getElem?_eq_getElem (by rw [splice_size, hcs]; simp [Value.cells] at hj; omega)]; rfl) (fun j _ => hB1.frozen _)
 have HW := Lib.hid hW1
 have HB1 := Lib.hid hB1
 have hkc : k ≤ cap := by omega
 have hkc1 : k + 1 ≤ cap := by omega
 have e1 : IntKind.i64.wrap ((k : Int) + 1) = (k : Int) + 1 := by rw [IntKind.wrap_i64]; omega
 have hne : ((k : Int) == (k : Int) + 1) = false := by rw [beq_eq_false_iff_ne]; omega
 have HX := Lib.hid htake
 have HN := Lib.hid hnews
 have HL := Lib.hid hlen
 have HCS := Lib.hid hcs
 clear hget hB hB1 hW1 hnl hnews h h1 hg htake hlen hcs
 go_enter Tryz.func187, Tryz.ntmps187
 have hp0 : (0 : Int) ≤ (k : Int) + 1 := by omega
 have hp1 : (k : Int) + 1 ≤ (n : Int) := by omega
 have hp2 : ((k : Int) + 1).toNat = k + 1 := by omega
 have hp3 : (k : Int) ≤ (cap : Int) := by omega
 go_wp2_with fail
 go_region_law (refine step_append_room rfl (.tmp 22) (.tmp 25) 150 rfl 54 i0 1 Tryz.underlying150 hi0 hz1 g 0 k cap (by simp [Act.eval, Act.put]) A (n - (k + 1)) (cap - (k + 1)) news (by simp [Act.eval, Act.put]) (by rw [Nat.mul_one]; exact s1.out) hsrc.out s2.out (by omega) (by simp only [Nat.mul_one]; exact s3.out) ?_; rw [Nat.mul_one, ← HW.out])
 go_wp2
 go_ret
 refine ⟨.slice (some ⟨g, 0, none⟩) (k + (n - (k + 1))) cap, rfl, ⟨?_, .inr ⟨g, cap, splice (splice cur (0 + k) news) ((k + (n - (k + 1)))) (Builtin.zeroCells #[.nilIface] (n - (k + (n - (k + 1))))).toList, by rw [show k + (n - (k + 1)) = n - 1 by omega], hbg, HB1.out.setCells _ _, by omega, by simp only [maxLen]; omega, ?_, ?_⟩⟩, ?_, rfl⟩
 ·have := HL.out; rw [List.length_eraseIdx_of_lt (by omega)]; omega
 ·rw [splice_size, splice_size]; exact HCS.out
 ·have := gdel_cells cur xs news (Builtin.zeroCells #[.nilIface] (n - (k + (n - (k + 1))))).toList n k 1 HX.out HL.out (by omega) (by rw [Nat.mul_one]; exact HN.out) (by simp [Builtin.zeroCells]; omega) (by rw [HCS.out]; omega)
  simp only [Nat.mul_one] at this ⊢
  rw [this, List.eraseIdx_eq_take_drop_succ]
 ·have hS : (fun k => some k = (Value.slice (some ⟨g, 0, none⟩) n cap).ownBlock) g ∨ w.heap.size ≤ g := .inl rfl
  refine Chg.setCells hS _ _ ?_
  rw [HW.out]
  exact Chg.setCells hS _ _ (Chg.refl _ w).drew
mutual
/-- A generator lies at a value, in the parts of a list. -/
inductive Rep : Ge → Value → List Ent → Prop
 | rd {k b} : Rep (.rd k) (.iface 143 (at0 b)) [B b 145 #[.int .i64 k]]
 | wr {k l t b} : -1000000 ≤ l → l ≤ t → t ≤ 1000000 → Rep (.wr k l t) (.iface 205 (at0 b)) [B b 207 #[.int .i64 k, .int .i64 l, .int .i64 t]]
 | lim {n g v L b} : n ≤ 1000 → Rep g v L → Rep (.lim n g) (.iface 147 (at0 b)) (B b 149 #[v, .int .i64 (n : Int)] :: L)
 | mix {gs vs L b A c} : gs.length ≤ 1000000 → RepL gs vs L → Rep (.mix gs) (.iface 153 (at0 b)) (B b 155 #[.slice A gs.length c] :: Row 0 54 1 A gs.length c vs :: L)
 | thn {gs vs L b A c} : gs.length ≤ 1000000 → RepL gs vs L → Rep (.thn gs) (.iface 156 (at0 b)) (B b 157 #[.slice A gs.length c] :: Win 54 1 A gs.length c vs :: L)
inductive RepL : List Ge → List Value → List Ent → Prop
 | nil : RepL [] [] []
 | cons {g v L gs vs M} : Rep g v L → RepL gs vs M → RepL (g :: gs) (v :: vs) (L ++ M)
end
theorem Rep.val {g : Ge} {v : Value} {L : List Ent} (h : Rep g v L) : ∃ T b, v = .iface T (at0 b) := by
 cases h <;> exact ⟨_, _, rfl⟩
theorem RepL.len : ∀ {gs : List Ge} {vs : List Value} {L : List Ent}, RepL gs vs L → vs.length = gs.length
 | _, _, _, .nil => rfl
 | _, _, _, .cons _ h => by simp [RepL.len h]
theorem RepL.one : ∀ {gs : List Ge} {vs : List Value} {L : List Ent}, RepL gs vs L → ∀ u ∈ vs, u.oneCell' = true
 | _, _, _, .nil => by simp
 | _, _, _, .cons h h2 => by
  intro u hu
  rcases List.mem_cons.1 hu with rfl | hu
  ·obtain ⟨T, b, rfl⟩ := h.val; rfl
  ·exact RepL.one h2 u hu
theorem RepL.at_ : ∀ {gs : List Ge} {vs : List Value} {L : List Ent} (_ : RepL gs vs L) (i : Nat) (g : Ge), gs[i]? = some g →
  ∃ v M R, vs[i]? = some v ∧ Rep g v M ∧ L.Perm (M ++ R) ∧ RepL (gs.eraseIdx i) (vs.eraseIdx i) R ∧ ∀ g' M', Rep g' v M' → ∃ L', RepL (gs.set i g') vs L' ∧ L'.Perm (M' ++ R)
 | _, _, _, .nil, i, g, hi => by simp at hi
 | _, _, _, @RepL.cons g0 v0 L0 gs vs M0 h0 h1, 0, g, hi => by
  simp only [List.getElem?_cons_zero, Option.some.injEq] at hi
  subst hi
  exact ⟨v0, L0, M0, rfl, h0, List.Perm.refl _, h1, fun g' M' h' => ⟨M' ++ M0, .cons h' h1, List.Perm.refl _⟩⟩
 | _, _, _, @RepL.cons g0 v0 L0 gs vs M0 h0 h1, i + 1, g, hi => by
  simp only [List.getElem?_cons_succ] at hi
  obtain ⟨v, M, R, hv, hg, hp, he, hs⟩ := RepL.at_ h1 i g hi
  refine ⟨v, M, L0 ++ R, by simpa using hv, hg, (hp.append_left L0).trans (List.perm_append_comm_assoc L0 M R), ?_, fun g' M' h' => ?_⟩
  ·simp only [List.eraseIdx_cons_succ]
   exact .cons h0 he
  ·obtain ⟨L', h2, hp2⟩ := hs g' M' h'
   refine ⟨L0 ++ L', ?_, (hp2.append_left L0).trans (List.perm_append_comm_assoc L0 M' R)⟩
   simp only [List.set_cons_succ]
   exact .cons h0 h2
section
variable {S : Nat → Prop} {w0 w w' : World} {H : List Ent}
theorem Inv.mid1 {t : Ent} {X L M : List Ent} (h : Inv S w0 w (t :: (X ++ (L ++ M)))) : Inv S w0 w (t :: (L ++ (X ++ M))) := h.perm ((List.perm_append_comm_assoc X L M).cons t)
theorem Inv.rowGet {base e n c j : Nat} {A : Option Addr} {xs : List Value} {u : Value} (hI : Inv S w0 w (Row base e 1 A n c xs :: H)) (hj : xs[j]? = some u) : ∃ g, A = some ⟨g, 0, none⟩ ∧ w.cell? ⟨g, j, none⟩ = some u := by
 have h1 : w.ownsRow base e 1 (.slice A n c) n xs := (hI.ok _ (List.mem_cons_self ..)).1
 have hl := (List.getElem?_eq_some_iff.1 hj).1
 rcases h1.2 with ⟨hv, h0⟩ | ⟨g, cap, cur, hv, hb, hh, hnc, hcm, hcs, htake⟩
 ·have := h1.1; omega
 ·injection hv with q1 q2 q3
  subst q1 q3
  have hB : Blk w g e cur := hh
  refine ⟨g, rfl, ?_⟩
  rw [hB.cell, ← Array.getElem?_toList]
  rw [← htake, List.getElem?_take] at hj
  split at hj
  ·exact hj
  ·cases hj
theorem Inv.rowCell {base e n c j g : Nat} {xs : List Value} {u : Value} (hI : Inv S w0 w (Row base e 1 (some ⟨g, 0, none⟩) n c xs :: H)) (hj : xs[j]? = some u) : w.cell? ⟨g, j, none⟩ = some u := by
 obtain ⟨g', hA, h⟩ := hI.rowGet hj
 injection hA with hA
 injection hA with hA
 subst hA
 exact h
theorem Inv.sub {H' : List Ent} (h : Inv S w0 w H) (hs : H'.Sublist H) : Inv S w0 w H' := ⟨h.chg, fun e he => h.ok e (hs.subset he), fun e he => h.own e (hs.subset he), h.apart.sublist hs⟩
theorem gdel_inv {n c k : Nat} {A : Option Addr} {xs : List Value} (hI : Inv S w0 w (Row 0 54 1 A n c xs :: H)) (h1 : ∀ u ∈ xs, u.oneCell' = true) (hk : k < n) (hn : n ≤ 1000000) :
  Calls Tryz.prog 187 #[.slice A n c, .int .i64 (k : Int), .int .i64 ((k : Int) + 1)] w fun en w' => ∃ A' c', en = .returned (.slice A' (n - 1) c') ∧ Inv S w0 w' (Row 0 54 1 A' (n - 1) c' (xs.eraseIdx k) :: H) := by
 have hown : w.ownsRow 0 54 1 (.slice A n c) n xs := (hI.ok _ (List.mem_cons_self ..)).1
 refine (gdelete_any 0 n k _ _ w hown h1 hk hn).mono ?_
 rintro e w' ⟨v', rfl, ho, hc, hb⟩
 obtain ⟨A', c', rfl⟩ : ∃ A' c', v' = .slice A' (n - 1) c' := by
  rcases ho.2 with ⟨hv, h0⟩ | ⟨g, cap, cur, hv, _⟩
  ·exact ⟨none, 0, by rw [hv, h0]⟩
  ·exact ⟨_, _, hv⟩
 have ob : ∀ (A : Option Addr) (n c : Nat), (Value.slice A n c).ownBlock = A.map (·.block) := fun A n c => by cases A <;> rfl
 rw [ob, ob] at hb
 refine ⟨A', c', rfl, hI.u0 (hc.mono fun k _ hk => ?_) (Row.ok ho) fun k hk => .inl ?_⟩
 ·show A.map (·.block) = some k
  rw [← ob A n c]; exact hk.symm
 ·show A.map (·.block) = some k
  rw [← hb]; exact hk
end
def caB (r : Option Ca) : Bool := (r.getD (false, 0, 0)).1
def caK (r : Option Ca) : Int := (r.getD (false, 0, 0)).2.1
def caX (r : Option Ca) : Int := (r.getD (false, 0, 0)).2.2
def caV (r : Option Ca) : Value := .agg #[.bool (caB r), .int .i64 (caK r), .int .i64 (caX r)]
/-- Who is at a value gives what the generator gives. -/
def Gives (nums : List Int) (D : Nat → Prop) (A : Option Addr) (len cp : Nat) (g : Ge) (v : Value) (L : List Ent) : Prop :=
 ∃ T b f, v = .iface T (at0 b) ∧ (∀ y (w : World), (callMethod (.iface T (at0 b)) "Next" #[y]).run Tryz.prog w = .ok (.enter f #[at0 b, y]) w) ∧
  ∀ (S : Nat → Prop) (w0 w : World) (H : List Ent) (q u : Nat), Inv S w0 w (tapeE q (.slice A len cp) u :: (L ++ H)) → Ints w0 D (.slice A len cp) nums → (∀ k, D k → ¬ S k) → u + g.sz ≤ 4611686018427387904 →
   Calls Tryz.prog f #[at0 b, at0 q] w fun e w' => ∃ r g' L' u', Nx nums g u r g' u' ∧ Rep g' v L' ∧ e = .returned (.tuple #[caV r, .bool r.isSome]) ∧ Inv S w0 w' (tapeE q (.slice A len cp) u' :: (L' ++ H))
section
variable {nums : List Int} {D : Nat → Prop} {A : Option Addr} {len cp : Nat}
set_option maxHeartbeats 1000000 in
theorem read_gives (k : Int) (b : Nat) : Gives nums D A len cp (.rd k) (.iface 143 (at0 b)) [B b 145 #[.int .i64 k]] := by
 refine ⟨_, _, 184, rfl, fun y w => by kernel_rfl, ?_⟩
 intro S w0 w H q u hI hN hD hu
 simp only [List.cons_append, List.nil_append] at hI
 unfold tapeE at hI
 refine Vm Tryz.f184.ntmps Tryz.func184 rfl ?_
 refine W_seq (W_region (T0 (.agg #[.bool false, .int .i64 0, .int .i64 0]) (#[.bool false, .int .i64 0, .int .i64 0]) hI rfl ?_))
 clear hI; rintro b4 w - - hI
 refine V4 rfl (WL_nil (W_seq (W_region (V7 rfl (Vb rfl (V5 0 rfl (V3 (.int .i64 _) rfl (hI.c2 rfl) (T6 [(1, .int .i64 _)] [_, _, _] rfl [.bool false, .int .i64 0, .int .i64 0] [1] rfl (fun _ => by kernel_rfl) (T1 3 (#[_, _, _]) (.agg _) hI rfl ?_)))))))))
 clear hI; intro w hI
 refine V4 rfl (WL_nil ?_)
 refine W_ret ?_
 refine Ud 160 3 (.inr rfl) rfl hI.g0 ?_
 exact ⟨some (false, k, 0), .rd k, _, u, .rd, .rd, rfl, hI.d0⟩
set_option maxHeartbeats 1000000 in
theorem write_gives (k l t : Int) (b : Nat) (h1 : -1000000 ≤ l) (h2 : l ≤ t) (h3 : t ≤ 1000000) : Gives nums D A len cp (.wr k l t) (.iface 205 (at0 b)) [B b 207 #[.int .i64 k, .int .i64 l, .int .i64 t]] := by
 refine ⟨_, _, 192, rfl, fun y w => by kernel_rfl, ?_⟩
 intro S w0 w H q u hI hN hD hu
 simp only [List.cons_append, List.nil_append] at hI
 unfold tapeE at hI
 have hlt := belF_lt nums u (t - l + 1) (by omega)
 refine Vm Tryz.f192.ntmps Tryz.func192 rfl ?_
 refine W_seq (W_region (T0 (.agg #[.bool false, .int .i64 0, .int .i64 0]) (#[.bool false, .int .i64 0, .int .i64 0]) hI rfl ?_))
 clear hI; rintro b4 w - - hI
 refine V4 rfl (WL_nil (W_seq (W_draw (by kernel_rfl) ?_)))
 refine WA_inv (T := [22]) hI.d1.drew ?_
 intro Sx hSx hXS
 replace hI := hI.drew
 refine Vh 0 (hXS _ hI.d1) rfl (Vi 1 (hXS _ hI.d1) rfl (Vc 2 0 (hXS _ hI.d1) rfl (V9 3 (.int .i64 _) (hXS _ hI.d1) rfl (fun W hW => (hSx W hW).c1 rfl) (Vh 4 (hXS _ hI.d1) rfl (Vi 5 (hXS _ hI.d1) rfl (Vc 6 1 (hXS _ hI.d1) rfl (V9 7 (.int .i64 _) (hXS _ hI.d1) rfl (fun W hW => (hSx W hW).c1 rfl) (Vh 8 (hXS _ hI.d1) rfl (Vh 9 (hXS _ hI.d1) rfl (Vi 10 (hXS _ hI.d1) rfl (Vc 11 2 (hXS _ hI.d1) rfl (V9 12 (.int .i64 _) (hXS _ hI.d1) rfl (fun W hW => (hSx W hW).c1 rfl) (Vh 13 (hXS _ hI.d1) rfl ?_)))))))))))))
 refine Vi 14 (hXS _ hI.d1) rfl (Vc 15 1 (hXS _ hI.d1) rfl (V9 16 (.int .i64 _) (hXS _ hI.d1) rfl (fun W hW => (hSx W hW).c1 rfl) ?_))
 refine WT_take 17 rfl rfl (by kernel_rfl) (hXS _ hI.d1) rfl (fun W hW => have hI := hSx W hW; (by exact rSub rfl rfl rfl (by omega))) ?_
 refine WT_take 18 rfl rfl (by kernel_rfl) (hXS _ hI.d1) rfl (fun W hW => have hI := hSx W hW; (by exact rAdd rfl rfl rfl (by omega))) ?_
 refine Vt 19 rfl ?_
 refine V6 [.pointer _, .int .i64 _] rfl Tryz.func35 rfl ?_
 refine (below_any S D w0 _ _ q A len cp nums u (t - l + 1) (hI.pull 1 rfl) hN hD (by omega) (by omega) (by have : (Ge.wr k l t).sz = 1 := rfl; omega)).mono ?_
 rintro e w1 ⟨rfl, hI1⟩
 refine ⟨_, rfl, ?_⟩
 replace hI : Inv S w0 w1 (B b4 160 #[.bool false, .int .i64 0, .int .i64 0] :: B q 61 #[.slice A len cp, .int .i64 ((u + 1 : Nat) : Int)] :: B b 207 #[.int .i64 k, .int .i64 l, .int .i64 t] :: H) := hI1.back 1
 clear hI1
 refine WL_nil ⟨hXS _ hI.d1, ?_⟩
 refine WT_take 20 rfl rfl (by kernel_rfl) (hXS _ hI.d1) rfl (fun W hW => have hI := hSx W hW; (by exact rAdd rfl rfl rfl (by omega))) ?_
 refine Ty 21 [(0, .bool _), (1, .int .i64 _), (2, .int .i64 _)] [_, _, _] (hXS _ hI.d1) rfl [.bool false, .int .i64 0, .int .i64 0] [0, 1, 2] rfl (fun _ _ => fun _ => by kernel_rfl) ?_
 refine WT_A (by kernel_rfl) ?_
 clear hXS hSx
 refine T2 22 rfl ?_
 refine T1 3 (#[_, _, _]) (.agg _) hI rfl ?_
 clear hI; intro w hI
 refine WL_nil (T2 23 rfl ?_)
 refine V4 rfl (WL_nil ?_)
 refine WA_end (by kernel_rfl) ?_
 refine W_ret ?_
 refine Ud 160 3 (.inr rfl) rfl hI.g0 ?_
 exact ⟨some (true, k, l + belF nums u (t - l + 1)), .wr k l t, _, u + 1, .wr, .wr h1 h2 h3, rfl, hI.d0⟩
set_option maxHeartbeats 1000000 in
theorem limit_gives (n : Nat) (g : Ge) (v : Value) (L : List Ent) (b : Nat) (hn : n ≤ 1000) (hg : Rep g v L) (hG : Gives nums D A len cp g v L) : Gives nums D A len cp (.lim n g) (.iface 147 (at0 b)) (B b 149 #[v, .int .i64 (n : Int)] :: L) := by
 refine ⟨_, _, 185, rfl, fun y w => by kernel_rfl, ?_⟩
 intro S w0 w H q u hI hN hD hu
 obtain ⟨T, bc, f, rfl, hm, hG⟩ := hG
 simp only [List.cons_append] at hI
 have hsz : (Ge.lim n g).sz = 1 + g.sz := by simp only [Ge.sz]
 unfold tapeE at hI
 refine Vm Tryz.f185.ntmps Tryz.func185 rfl ?_
 refine W_seq (W_region (T0 (.agg #[.bool false, .int .i64 0, .int .i64 0]) (#[.bool false, .int .i64 0, .int .i64 0]) hI rfl ?_))
 clear hI; rintro b4 w - - hI
 refine V4 rfl (WL_nil ?_)
 cases n with
 | zero =>
  refine W_seq (W_seq (W_region (V7 rfl (Vb rfl (V5 1 rfl (V3 (.int .i64 _) rfl (hI.c2 rfl) (Vz rfl (WL_nil (W_cond true rfl (W_seq (W_region (T6 [] [_, _, _] rfl [.bool false, .int .i64 0, .int .i64 0] [] rfl (fun _ => by kernel_rfl) (T1 3 (#[_, _, _]) (.agg _) hI rfl ?_)))))))))))))
  clear hI; intro w hI
  refine V4 rfl (WL_nil ?_)
  refine W_ret ?_
  refine Ud 160 3 (.inr rfl) rfl hI.g0 ?_
  exact ⟨none, .lim 0 g, _, u, .lim0, .lim hn hg, rfl, hI.d0⟩
 | succ n =>
  refine W_seq (W_seq (W_region (V7 rfl (Vb rfl (V5 1 rfl (V3 (.int .i64 _) rfl (hI.c2 rfl) (Vr rfl (WL_nil (W_cond false rfl (W_skip (W_seq (W_region (V7 rfl ?_)))))))))))))
  refine Vb rfl (V5 1 rfl (V3 (.int .i64 _) rfl (hI.c2 rfl) ?_))
  refine WL_val rfl rfl rfl (rDecN (a := n + 1) (b := 1) rfl rfl rfl (by omega) (by omega)) ?_
  refine Vb rfl (V5 1 rfl ?_)
  refine WL_st2 (u := .int .i64 _) hI rfl rfl rfl rfl rfl rfl (by kernel_rfl) rfl rfl rfl ?_
  clear hI; intro w hI
  refine WL_nil (W_seq (W_region (V7 rfl (Vb rfl (V5 0 rfl ?_)))))
  refine WL_val rfl rfl rfl (rLd rfl (by kernel_rfl) rfl (by exact hI.c2 rfl)) ?_
  refine V7 rfl ?_
  refine WL_call rfl rfl rfl (rCallI (f := f) (vs := [_]) rfl rfl rfl (fun w => hm _ w)) ?_
  refine (hG S w0 _ _ q u ((hI.pull 1 rfl).mid1 (X := [_, _])) hN hD (by omega)).mono ?_
  rintro e w1 ⟨r, g', L', u', hx, hr, rfl, hI1⟩
  unfold caV
  refine ⟨_, rfl, ?_⟩
  replace hI : Inv S w0 w1 (B b4 160 #[.bool false, .int .i64 0, .int .i64 0] :: B q 61 #[.slice A len cp, .int .i64 (u' : Int)] :: B b 149 #[.iface T (at0 bc), .int .i64 (n : Int)] :: (L' ++ H)) := (hI1.mid1 (L := [_, _])).back 1
  clear hI1
  refine Vg rfl (Vg rfl (T1 3 (#[_, _, _]) (.agg _) hI rfl ?_))
  clear hI; intro w hI
  refine V4 rfl (WL_nil ?_)
  refine W_ret ?_
  refine Ud 160 3 (.inr rfl) rfl hI.g0 ?_
  exact ⟨r, .lim n g', _, u', .lim hx, .lim (by omega) hr, rfl, hI.d0⟩
set_option maxHeartbeats 2000000 in
theorem mix_gives (gs0 : List Ge) (vs0 : List Value) (L0 : List Ent) (b : Nat) (A0 : Option Addr) (c0 : Nat) (hl0 : gs0.length ≤ 1000000) (hg0 : RepL gs0 vs0 L0) (hG : ∀ g, szL gs0 ≥ g.sz → ∀ v L, Rep g v L → Gives nums D A len cp g v L) :
  Gives nums D A len cp (.mix gs0) (.iface 153 (at0 b)) (B b 155 #[.slice A0 gs0.length c0] :: Row 0 54 1 A0 gs0.length c0 vs0 :: L0) := by
 refine ⟨_, _, 186, rfl, fun y w => by kernel_rfl, ?_⟩
 intro S w0 w H q u0 hI hN hD hu
 simp only [List.cons_append] at hI
 have hsz : ∀ gs, (Ge.mix gs).sz = 1 + szL gs := fun gs => by simp only [Ge.sz]
 unfold tapeE at hI
 refine Vm Tryz.f186.ntmps Tryz.func186 rfl ?_
 refine W_seq (W_region (T0 (.agg #[.bool false, .int .i64 0, .int .i64 0]) (#[.bool false, .int .i64 0, .int .i64 0]) hI rfl ?_))
 clear hI; rintro b4 w - - hI
 refine V4 rfl (WL_nil (W_seq (W_block ?_)))
 refine W_loopN (fun mu ρ w => ∃ (gs : List Ge) (vs : List Value) (L : List Ent) (A1 : Option Addr) (c1 u : Nat), mu = gs.length ∧ gs.length ≤ 1000000 ∧ szL gs ≤ szL gs0 ∧ RepL gs vs L ∧ u + (Ge.mix gs).sz ≤ 4611686018427387904 ∧ (∀ r g'' u'', Nx nums (.mix gs) u r g'' u'' → Nx nums (.mix gs0) u0 r g'' u'') ∧ Has ρ [(0, at0 b), (1, at0 q), (4, at0 b4)] ∧
   Inv S w0 w (B b4 160 #[.bool false, .int .i64 0, .int .i64 0] :: B q 61 #[.slice A len cp, .int .i64 (u : Int)] :: B b 155 #[.slice A1 gs.length c1] :: Row 0 54 1 A1 gs.length c1 vs :: (L ++ H))) gs0.length
  ⟨gs0, vs0, L0, A0, c0, u0, rfl, hl0, Nat.le_refl _, hg0, hu, fun _ _ _ h => h, ⟨rfl, rfl, rfl, trivial⟩, hI⟩ ?_
 clear hI hu
 rintro mu ρ w ⟨gs, vs, L, A1, c1, u, rfl, hl, hle, hg, hu, hx0, hH, hI⟩
 obtain ⟨σ, rfl⟩ := hH.open
 rcases Nat.eq_zero_or_pos gs.length with hz | hpos
 ·have hgs : gs = [] := List.eq_nil_of_length_eq_zero hz
  subst hgs
  simp only [List.length_nil] at hI
  refine W_seq (W_seq (W_region (V7 rfl (Vb rfl (V5 0 rfl (V3 (.slice _ _ _) rfl (hI.c2 rfl) (Vs rfl Tryz.underlying150 rfl (Td rfl (WL_nil (W_cond false rfl ?_))))))))))
  refine W_exit ?_
  refine W_seq (W_region (T6 [] [_, _, _] rfl [.bool false, .int .i64 0, .int .i64 0] [] rfl (fun _ => by kernel_rfl) (T1 3 (#[_, _, _]) (.agg _) hI rfl ?_)))
  clear hI; intro w hI
  refine V4 rfl (WL_nil ?_)
  refine W_ret ?_
  refine Ud 160 3 (.inr rfl) rfl hI.g0 ?_
  exact ⟨none, .mix [], _, u, hx0 _ _ _ .mix0, .mix (by simp) hg, rfl, hI.d0.sw0.sw0⟩
 have hbl := belF_lt nums u (gs.length : Int) (by omega)
 obtain ⟨i, hi⟩ : ∃ i : Nat, belF nums u (gs.length : Int) = (i : Int) := ⟨(belF nums u (gs.length : Int)).toNat, by omega⟩
 have hil : i < gs.length := by omega
 obtain ⟨g, hgi⟩ : ∃ g, gs[i]? = some g := ⟨gs[i], List.getElem?_eq_getElem hil⟩
 obtain ⟨v, M, R, hvi, hrg, hp, hrE, hrS⟩ := hg.at_ i g hgi
 have hszi := szL_erase gs i g hgi
 obtain ⟨T, bc, f, rfl, hm, hGi⟩ := hG g (by omega) v M hrg
 obtain ⟨ga, rfl, -⟩ := (hI.pull 3 rfl).rowGet hvi
 have hMix := hsz gs
 replace hI : Inv S w0 w (B b4 160 #[.bool false, .int .i64 0, .int .i64 0] :: B q 61 #[.slice A len cp, .int .i64 (u : Int)] :: B b 155 #[.slice (some ⟨ga, 0, none⟩) gs.length c1] :: Row 0 54 1 (some ⟨ga, 0, none⟩) gs.length c1 vs :: (M ++ (R ++ H))) :=
  hI.perm (((((by rw [← List.append_assoc]; exact hp.append_right H : (L ++ H).Perm (M ++ (R ++ H))).cons _).cons _).cons _).cons _)
 refine W_seq (W_seq (W_region (V7 rfl (Vb rfl (V5 0 rfl (V3 (.slice _ _ _) rfl (hI.c2 rfl) (Vs rfl Tryz.underlying150 rfl (Ts rfl (WL_nil (W_cond true rfl (W_skip (W_block (W_seq ?_)))))))))))))
 refine W_region (V7 rfl (V7 rfl (Vb rfl (V5 0 rfl (V3 (.slice _ _ _) rfl (hI.c2 rfl) (Vs rfl Tryz.underlying150 rfl (V6 [.pointer _, .int .i64 _] rfl Tryz.func35 rfl ?_)))))))
 refine (below_any S D w0 _ _ q A len cp nums u (gs.length : Int) (hI.pull 1 rfl) hN hD (by omega) (by omega) (by omega)).mono ?_
 rintro e w1 ⟨rfl, hI1⟩
 rw [hi]
 refine ⟨_, rfl, ?_⟩
 replace hI : Inv S w0 w1 (B b4 160 #[.bool false, .int .i64 0, .int .i64 0] :: B q 61 #[.slice A len cp, .int .i64 ((u + 1 : Nat) : Int)] :: B b 155 #[.slice (some ⟨ga, 0, none⟩) gs.length c1] :: Row 0 54 1 (some ⟨ga, 0, none⟩) gs.length c1 vs :: (M ++ (R ++ H))) := hI1.back 1
 clear hI1
 refine Va rfl (WL_nil (W_seq (W_seq (W_region (V7 rfl (Vb rfl (V5 0 rfl (V3 (.slice _ _ _) rfl (hI.c2 rfl) (V0 rfl (Tj rfl Tryz.underlying150 rfl ?_))))))))))
 refine WL_val rfl rfl rfl (rLd rfl (by kernel_rfl) rfl (by exact ((hI.pull 3 rfl).rowCell hvi))) ?_
 refine V7 rfl ?_
 refine WL_call rfl rfl rfl (rCallI (f := f) (vs := [_]) rfl rfl rfl (fun w => hm _ w)) ?_
 refine (hGi S w0 _ _ q (u + 1) ((hI.pull 1 rfl).mid1 (X := [_, _, _])) hN hD (by omega)).mono ?_
 rintro e w1 ⟨r, g', M', u', hx, hr, rfl, hI1⟩
 unfold caV
 refine ⟨_, rfl, ?_⟩
 replace hI : Inv S w0 w1 (B b4 160 #[.bool false, .int .i64 0, .int .i64 0] :: B q 61 #[.slice A len cp, .int .i64 (u' : Int)] :: B b 155 #[.slice (some ⟨ga, 0, none⟩) gs.length c1] :: Row 0 54 1 (some ⟨ga, 0, none⟩) gs.length c1 vs :: (M' ++ (R ++ H))) := (hI1.mid1 (L := [_, _, _])).back 1
 clear hI1
 refine Vv rfl (Vg rfl (Vg rfl (T0 (.agg #[.bool false, .int .i64 0, .int .i64 0]) (#[.bool false, .int .i64 0, .int .i64 0]) hI rfl ?_)))
 clear hI; rintro b7 w - - hI
 refine T1 3 (#[_, _, _]) (.agg _) hI rfl ?_
 clear hI; intro w hI
 refine V4 rfl (WL_nil (W_seq (W_region (V2 rfl (WL_nil ?_)))))
 cases r with
 | some c =>
  refine W_cond true rfl (W_seq (W_region (Tn 3 rfl hI.g0 ?_)))
  refine WL_stw1 (u := .agg _) (vs := #[_, _, _]) (n := 3) hI rfl rfl rfl rfl rfl rfl (by kernel_rfl) rfl rfl rfl ?_
  clear hI; intro w hI
  refine V4 rfl (WL_nil ?_)
  refine W_ret ?_
  refine Ud 160 3 (.inr rfl) rfl hI.g1 ?_
  obtain ⟨L2, hL2, hp2⟩ := hrS g' M' hr
  refine ⟨some c, .mix (gs.set i g'), _, u', hx0 _ _ _ (.mixS hgi (by rw [hi]) hx), .mix (A := some ⟨ga, 0, none⟩) (c := c1) (by rw [List.length_set]; exact hl) hL2, rfl, ?_⟩
  rw [List.length_set]
  refine hI.d0.d0.perm ?_
  have hpp : (M' ++ (R ++ H)).Perm (L2 ++ H) := by rw [← List.append_assoc]; exact hp2.symm.append_right H
  exact ((hpp.cons _).cons _).cons _
 | none =>
  refine W_cond false rfl (W_skip ?_)
  replace hI := hI.d0
  refine W_region (V7 rfl (V7 rfl (Vb rfl (V5 0 rfl (V3 (.slice _ _ _) rfl (hI.c2 rfl) (V0 rfl (V0 rfl (Vu rfl (V6 [.slice _ _ _, .int .i64 _, .int .i64 _] rfl Tryz.func187 rfl ?_)))))))))
  refine (gdel_inv (hI.pull 3 rfl) hg.one hil hl).mono ?_
  rintro e w1 ⟨A', c', rfl, hI1⟩
  refine ⟨_, rfl, ?_⟩
  replace hI : Inv S w0 w1 (B b4 160 #[.bool false, .int .i64 0, .int .i64 0] :: B q 61 #[.slice A len cp, .int .i64 (u' : Int)] :: B b 155 #[.slice (some ⟨ga, 0, none⟩) gs.length c1] :: Row 0 54 1 A' (gs.length - 1) c' (vs.eraseIdx i) :: (M' ++ (R ++ H))) := hI1.back 3
  clear hI1
  refine Vb rfl (V5 0 rfl ?_)
  refine WL_stw2 (u := .slice _ _ _) (vs := #[_]) (n := 1) hI rfl rfl rfl rfl rfl rfl (by kernel_rfl) rfl rfl rfl ?_
  clear hI; intro w hI
  refine WL_nil ?_
  have hlE : (gs.eraseIdx i).length = gs.length - 1 := by rw [List.length_eraseIdx_of_lt hil]
  refine ⟨(gs.eraseIdx i).length, by omega, gs.eraseIdx i, vs.eraseIdx i, R, A', c', u', rfl, by omega, by omega, hrE, ?_, fun r g'' u'' h => hx0 _ _ _ (.mixN hgi (by rw [hi]) hx h), ⟨rfl, rfl, rfl, trivial⟩, ?_⟩
  ·have := hx.sz
   have := hsz (gs.eraseIdx i)
   omega
  ·rw [hlE]
   exact hI.sub (((((List.sublist_append_right ..).cons_cons _).cons_cons _).cons_cons _).cons_cons _)
set_option maxHeartbeats 2000000 in
theorem then_gives (gs0 : List Ge) (vs0 : List Value) (L0 : List Ent) (b : Nat) (A0 : Option Addr) (c0 : Nat) (hl0 : gs0.length ≤ 1000000) (hg0 : RepL gs0 vs0 L0) (hG : ∀ g, szL gs0 ≥ g.sz → ∀ v L, Rep g v L → Gives nums D A len cp g v L) :
  Gives nums D A len cp (.thn gs0) (.iface 156 (at0 b)) (B b 157 #[.slice A0 gs0.length c0] :: Win 54 1 A0 gs0.length c0 vs0 :: L0) := by
 refine ⟨_, _, 188, rfl, fun y w => by kernel_rfl, ?_⟩
 intro S w0 w H q u0 hI hN hD hu
 simp only [List.cons_append] at hI
 have hsz : ∀ gs, (Ge.thn gs).sz = 1 + szL gs := fun gs => by simp only [Ge.sz]
 unfold tapeE at hI
 refine Vm Tryz.f188.ntmps Tryz.func188 rfl ?_
 refine W_seq (W_region (T0 (.agg #[.bool false, .int .i64 0, .int .i64 0]) (#[.bool false, .int .i64 0, .int .i64 0]) hI rfl ?_))
 clear hI; rintro b4 w - - hI
 refine V4 rfl (WL_nil (W_seq (W_block ?_)))
 refine W_loopN (fun mu ρ w => ∃ (gs : List Ge) (vs : List Value) (L : List Ent) (A1 : Option Addr) (c1 u : Nat), mu = gs.length ∧ gs.length ≤ 1000000 ∧ szL gs ≤ szL gs0 ∧ RepL gs vs L ∧ u + (Ge.thn gs).sz ≤ 4611686018427387904 ∧ (∀ r g'' u'', Nx nums (.thn gs) u r g'' u'' → Nx nums (.thn gs0) u0 r g'' u'') ∧ Has ρ [(0, at0 b), (1, at0 q), (4, at0 b4)] ∧
   Inv S w0 w (B b4 160 #[.bool false, .int .i64 0, .int .i64 0] :: B q 61 #[.slice A len cp, .int .i64 (u : Int)] :: B b 157 #[.slice A1 gs.length c1] :: Win 54 1 A1 gs.length c1 vs :: (L ++ H))) gs0.length
  ⟨gs0, vs0, L0, A0, c0, u0, rfl, hl0, Nat.le_refl _, hg0, hu, fun _ _ _ h => h, ⟨rfl, rfl, rfl, trivial⟩, hI⟩ ?_
 clear hI hu
 rintro mu ρ w ⟨gs, vs, L, A1, c1, u, rfl, hl, hle, hg, hu, hx0, hH, hI⟩
 obtain ⟨σ, rfl⟩ := hH.open
 cases hg with
 | nil =>
  simp only [List.length_nil] at hI
  refine W_seq (W_seq (W_region (V7 rfl (Vb rfl (V5 0 rfl (V3 (.slice _ _ _) rfl (hI.c2 rfl) (Vs rfl Tryz.underlying150 rfl (Td rfl (WL_nil (W_cond false rfl ?_))))))))))
  refine W_exit ?_
  refine W_seq (W_region (T6 [] [_, _, _] rfl [.bool false, .int .i64 0, .int .i64 0] [] rfl (fun _ => by kernel_rfl) (T1 3 (#[_, _, _]) (.agg _) hI rfl ?_)))
  clear hI; intro w hI
  refine V4 rfl (WL_nil ?_)
  refine W_ret ?_
  refine Ud 160 3 (.inr rfl) rfl hI.g0 ?_
  exact ⟨none, .thn [], _, u, hx0 _ _ _ .thn0, .thn (by simp) .nil, rfl, hI.d0.sw0.sw0⟩
 | @cons g v M gs vs R hrg hrR =>
 have hszi : szL (g :: gs) = 1 + g.sz + szL gs := by simp only [szL]
 obtain ⟨T, bc, f, rfl, hm, hGi⟩ := hG g (by omega) v M hrg
 obtain ⟨ga, oa, rfl, -⟩ := (hI.pull 3 rfl).winGet (j := 0) rfl
 have hThn := hsz (g :: gs)
 have hwin : ∀ {w : World} {H : List Ent}, Inv S w0 w (Win 54 1 (some ⟨ga, oa, none⟩) (g :: gs).length c1 (.iface T (at0 bc) :: vs) :: H) → w.cell? ⟨ga, oa, none⟩ = some (.iface T (at0 bc)) := fun h => by
  obtain ⟨g1, o1, h1, h2⟩ := h.winGet (j := 0) rfl
  injection h1 with h1
  injection h1 with h1 h3
  subst h1 h3
  exact h2
 rw [List.append_assoc] at hI
 have hpos : 0 < (g :: gs).length := by simp
 refine W_seq (W_seq (W_region (V7 rfl (Vb rfl (V5 0 rfl (V3 (.slice _ _ _) rfl (hI.c2 rfl) (Vs rfl Tryz.underlying150 rfl (Ts rfl (WL_nil (W_cond true rfl (W_skip (W_block (W_seq ?_)))))))))))))
 refine W_seq (W_region (V7 rfl (Vb rfl (V5 0 rfl (V3 (.slice _ _ _) rfl (hI.c2 rfl) ?_)))))
 refine WL_val rfl rfl rfl (rIdx1 (i := 0) rfl Tryz.underlying150 (by kernel_rfl) rfl rfl (by simp)) ?_
 refine WL_val rfl rfl rfl (rLd rfl (by kernel_rfl) rfl (by exact (hwin (hI.pull 3 rfl)))) ?_
 refine V7 rfl ?_
 refine WL_call rfl rfl rfl (rCallI (f := f) (vs := [_]) rfl rfl rfl (fun w => hm _ w)) ?_
 refine (hGi S w0 _ _ q u ((hI.pull 1 rfl).mid1 (X := [_, _, _])) hN hD (by omega)).mono ?_
 rintro e w1 ⟨r, g', M', u', hx, hr, rfl, hI1⟩
 unfold caV
 refine ⟨_, rfl, ?_⟩
 replace hI : Inv S w0 w1 (B b4 160 #[.bool false, .int .i64 0, .int .i64 0] :: B q 61 #[.slice A len cp, .int .i64 (u' : Int)] :: B b 157 #[.slice (some ⟨ga, oa, none⟩) (g :: gs).length c1] :: Win 54 1 (some ⟨ga, oa, none⟩) (g :: gs).length c1 (.iface T (at0 bc) :: vs) :: (M' ++ (R ++ H))) := (hI1.mid1 (L := [_, _, _])).back 1
 clear hI1
 refine Vv rfl (Vg rfl (Vg rfl (T0 (.agg #[.bool false, .int .i64 0, .int .i64 0]) (#[.bool false, .int .i64 0, .int .i64 0]) hI rfl ?_)))
 clear hI; rintro b6 w - - hI
 refine T1 3 (#[_, _, _]) (.agg _) hI rfl ?_
 clear hI; intro w hI
 refine V4 rfl (WL_nil (W_seq (W_region (V2 rfl (WL_nil ?_)))))
 cases r with
 | some c =>
  refine W_cond true rfl (W_seq (W_region (Tn 3 rfl hI.g0 ?_)))
  refine WL_stw1 (u := .agg _) (vs := #[_, _, _]) (n := 3) hI rfl rfl rfl rfl rfl rfl (by kernel_rfl) rfl rfl rfl ?_
  clear hI; intro w hI
  refine V4 rfl (WL_nil ?_)
  refine W_ret ?_
  refine Ud 160 3 (.inr rfl) rfl hI.g1 ?_
  refine ⟨some c, .thn (g' :: gs), _, u', hx0 _ _ _ (.thnS hx), .thn (A := some ⟨ga, oa, none⟩) (c := c1) hl (.cons hr hrR), rfl, ?_⟩
  simp only [List.cons_append, List.append_assoc]
  exact hI.d0.d0
 | none =>
  refine W_cond false rfl (W_skip ?_)
  replace hI := hI.d0
  refine W_region (V7 rfl (V7 rfl (Vb rfl (V5 0 rfl (V3 (.slice _ _ _) rfl (hI.c2 rfl) ?_)))))
  refine WL_val rfl rfl rfl (rSliceFromG (sz := 1) (i := 1) rfl Tryz.underlying150 (by kernel_rfl) rfl rfl (by omega)) ?_
  refine Vb rfl (V5 0 rfl ?_)
  refine WL_stw2 (u := .slice _ _ _) (vs := #[_]) (n := 1) hI rfl rfl rfl rfl rfl rfl (by kernel_rfl) rfl rfl rfl ?_
  clear hI; intro w hI
  refine WL_nil ?_
  replace hI := (hI.pull 3 rfl).winTail (n := gs.length)
  have hI2 : Inv S w0 w (B b4 160 #[.bool false, .int .i64 0, .int .i64 0] :: B q 61 #[.slice A len cp, .int .i64 (u' : Int)] :: B b 157 #[.slice (if c1 = 1 then some ⟨ga, oa, none⟩ else (some ⟨ga, oa, none⟩ : Option Addr).map (·.add (1 * 1))) gs.length (c1 - 1)] :: Win 54 1 (if c1 = 1 then some ⟨ga, oa, none⟩ else (some ⟨ga, oa, none⟩ : Option Addr).map (·.add (1 * 1))) gs.length (c1 - 1) vs :: (M' ++ (R ++ H))) := hI.back 3
  have hsx := hx.sz
  have hT := hsz gs
  have hg1 : (g :: gs).length = gs.length + 1 := rfl
  refine ⟨gs.length, by omega, gs, vs, R, (if c1 = 1 then some ⟨ga, oa, none⟩ else (some ⟨ga, oa, none⟩ : Option Addr).map (·.add (1 * 1))), c1 - 1, u', rfl, by omega, by omega, hrR, by omega, fun r g'' u'' h => hx0 _ _ _ (.thnN hx h), ⟨rfl, rfl, rfl, trivial⟩, ?_⟩
  exact hI2.sub (((((List.sublist_append_right ..).cons_cons _).cons_cons _).cons_cons _).cons_cons _)
theorem gives_all : ∀ (n : Nat) (g : Ge), g.sz ≤ n → ∀ v L, Rep g v L → Gives nums D A len cp g v L
 | 0, g, h, v, L, hr => by
  have : 0 < g.sz := by cases g <;> simp only [Ge.sz] <;> omega
  omega
 | n + 1, g, h, v, L, hr => by
  cases hr with
  | rd => exact read_gives _ _
  | wr h1 h2 h3 => exact write_gives _ _ _ _ h1 h2 h3
  | lim hn hg =>
   simp only [Ge.sz] at h
   exact limit_gives _ _ _ _ _ hn hg (gives_all n _ (by omega) _ _ hg)
  | mix hl hg =>
   simp only [Ge.sz] at h
   exact mix_gives _ _ _ _ _ _ hl hg fun g hg' v L hv => gives_all n g (by omega) v L hv
  | thn hl hg =>
   simp only [Ge.sz] at h
   exact then_gives _ _ _ _ _ _ hl hg fun g hg' v L hv => gives_all n g (by omega) v L hv
/-- What a generator gives, wherever it lies. -/
theorem Rep.gives {g : Ge} {v : Value} {L : List Ent} (h : Rep g v L) : Gives nums D A len cp g v L := gives_all _ g (Nat.le_refl _) v L h
end
end Go.Proofs.YthndpiopbdecfaaGreatDoor
namespace Go.Proofs.YthndpiopbdecfaaGreatDoor
set_option linter.unusedVariables false
set_option linter.unusedSimpArgs false
def wtM (n : Nat) (m : SMail) : Nat := if m.dst < n then 2 else 1
def wtL (n : Nat) (ms : List SMail) : Nat := (ms.map (wtM n)).sum
def potC (n : Nat) (x : SCl) : Nat := if x.busy = true ∧ x.telling = false then 2 * n + 1 else 0
def potS (s : StS) : Nat → Nat
 | 0 => 0
 | k + 1 => potS s k + potC s.n (s.cl k)
def muS (s : StS) : Nat := wtL s.n s.mails + potS s s.k
theorem wtM_le (n : Nat) (m : SMail) : 1 ≤ wtM n m ∧ wtM n m ≤ 2 := by
 unfold wtM
 split <;> omega
theorem wtL_nil (n : Nat) : wtL n [] = 0 := rfl
theorem wtL_cons (n : Nat) (m : SMail) (ms : List SMail) : wtL n (m :: ms) = wtM n m + wtL n ms := by simp [wtL]
theorem wtL_app (n : Nat) (a b : List SMail) : wtL n (a ++ b) = wtL n a + wtL n b := by simp [wtL]
theorem wtL_len (n : Nat) : ∀ ms : List SMail, wtL n ms ≤ 2 * ms.length
 | [] => Nat.le_refl _
 | m :: ms => by
  have h1 := wtL_len n ms
  have h2 := wtM_le n m
  rw [wtL_cons, List.length_cons]
  omega
theorem wtL_push (n : Nat) (ms : List SMail) (m : SMail) : wtL n (pushM ms m) ≤ wtL n ms + wtM n m := by
 unfold pushM
 split
 ·rw [wtL_app, wtL_cons, wtL_nil]; omega
 ·omega
theorem wtL_send (s : StS) (c what : Nat) (e : SEnt) (n : Nat) : ∀ j, wtL n (sendTo s c what e j) ≤ wtL n s.mails + 2 * j
 | 0 => Nat.le_refl _
 | j + 1 => by
  have h1 := wtL_send s c what e n j
  have h2 := wtL_push n (sendTo s c what e j) (sendM s c what e j)
  have h3 := wtM_le n (sendM s c what e j)
  have h4 : sendTo s c what e (j + 1) = pushM (sendTo s c what e j) (sendM s c what e j) := by
   unfold sendTo
   rw [List.range_succ, List.foldl_append]; rfl
  rw [h4]
  omega
theorem wtL_erase (n : Nat) : ∀ (ms : List SMail) (i : Nat) (m : SMail), ms[i]? = some m → wtL n (ms.eraseIdx i) + wtM n m = wtL n ms
 | [], i, m, h => by simp at h
 | a :: ms, 0, m, h => by
  simp only [List.getElem?_cons_zero, Option.some.injEq] at h
  subst h
  rw [List.eraseIdx_cons_zero, wtL_cons]; omega
 | a :: ms, i + 1, m, h => by
  simp only [List.getElem?_cons_succ] at h
  have := wtL_erase n ms i m h
  rw [List.eraseIdx_cons_succ, wtL_cons, wtL_cons]; omega
theorem potS_same {s s' : StS} (hn : s'.n = s.n) : ∀ k, (∀ c, c < k → potC s.n (s'.cl c) = potC s.n (s.cl c)) → potS s' k = potS s k
 | 0, _ => rfl
 | k + 1, h => by
  rw [potS, potS, potS_same hn k (fun c hc => h c (by omega)), hn, h k (by omega)]
theorem potS_cl {s : StS} {c : Nat} {x : SCl} : ∀ k, c < k → potS (setCl s c x) k + potC s.n (s.cl c) = potS s k + potC s.n x
 | 0, h => by omega
 | k + 1, h => by
  rw [potS, potS]
  have hn : (setCl s c x).n = s.n := rfl
  by_cases hc : c = k
  ·subst hc
   have h1 : potS (setCl s c x) c = potS s c := potS_same (s := s) (s' := setCl s c x) rfl c fun i hi => by
    show potC s.n (if i = c then x else s.cl i) = _
    rw [if_neg (by omega)]
   have h2 : (setCl s c x).cl c = x := by show (if c = c then x else s.cl c) = x; rw [if_pos rfl]
   rw [h1, h2, hn]; omega
  ·have h1 := potS_cl (s := s) (x := x) k (by omega : c < k)
   have h2 : (setCl s c x).cl k = s.cl k := by show (if k = c then x else s.cl k) = _; rw [if_neg (fun h => hc h.symm)]
   rw [h2, hn]; omega
theorem mu_cl {s : StS} {c : Nat} {x : SCl} (hc : c < s.k) : muS (setCl s c x) + potC s.n (s.cl c) = muS s + potC s.n x := by
 have := potS_cl (s := s) (x := x) s.k hc
 unfold muS
 show wtL s.n s.mails + potS (setCl s c x) s.k + _ = _
 omega
theorem mu_obs (s : StS) (e : Ev) (st : SEnt) : muS (obsF s e st) = muS s := by
 unfold muS
 show wtL s.n s.mails + potS (obsF s e st) s.k = _
 rw [potS_same (s := s) (s' := obsF s e st) rfl s.k (fun _ _ => rfl)]
theorem mu_mails (s : StS) (ms : List SMail) : muS { s with mails := ms } + wtL s.n s.mails = muS s + wtL s.n ms := by
 unfold muS
 show wtL s.n ms + potS { s with mails := ms } s.k + _ = _
 rw [potS_same (s := s) (s' := { s with mails := ms }) rfl s.k (fun _ _ => rfl)]
 omega
theorem potC_le (n : Nat) (x : SCl) : potC n x ≤ 2 * n + 1 := by unfold potC; split <;> omega
theorem potC_idle (n : Nat) {x : SCl} (h : x.busy = false) : potC n x = 0 := by unfold potC; rw [h]; simp
theorem potC_tell (n : Nat) {x : SCl} (h : x.telling = true) : potC n x = 0 := by unfold potC; rw [h]; simp
/-- Telling the nodes: two more a node, and no more to come of the client's asking. -/
theorem mu_send {s : StS} {c what : Nat} {e : SEnt} (hc : c < s.k) : muS (sendF s c what e) + potC s.n (s.cl c) ≤ muS s + 2 * s.n + potC s.n (roundC s c what) := by
 have h1 := mu_cl (s := s) (x := roundC s c what) hc
 have h2 : muS (sendF s c what e) + wtL s.n s.mails = muS (setCl s c (roundC s c what)) + wtL s.n (sendTo s c what e s.n) := mu_mails (setCl s c (roundC s c what)) (sendTo s c what e s.n)
 have h3 := wtL_send s c what e s.n s.n
 omega
theorem mu_done {s : StS} {c : Nat} (hc : c < s.k) : muS (doneS s c) ≤ muS s := by
 have h0 := mu_obs s (evD (s.cl c)) ⟨(s.cl c).best.t, (s.cl c).best.c, 0⟩
 have h1 : muS (doneS s c) + potC s.n (s.cl c) = muS (obsF s (evD (s.cl c)) ⟨(s.cl c).best.t, (s.cl c).best.c, 0⟩) + potC s.n { s.cl c with busy := false } := mu_cl (s := obsF s (evD (s.cl c)) ⟨(s.cl c).best.t, (s.cl c).best.c, 0⟩) (c := c) (x := { s.cl c with busy := false }) hc
 have h2 : potC s.n { s.cl c with busy := false } = 0 := potC_idle _ rfl
 omega
theorem mu_node {s : StS} {j : Nat} {m : SMsg} : muS (nodeF s j m) ≤ muS s + 1 := by
 have h1 : muS (nodeF s j m) + wtL s.n s.mails = muS (setEnt s j m.key (ownN s j m)) + wtL s.n (pushM s.mails ⟨j, s.n + m.client, { m with what := 3, e := ownN s j m }⟩) := mu_mails (setEnt s j m.key (ownN s j m)) (pushM s.mails ⟨j, s.n + m.client, { m with what := 3, e := ownN s j m }⟩)
 have h2 := wtL_push s.n s.mails ⟨j, s.n + m.client, { m with what := 3, e := ownN s j m }⟩
 have h3 : wtM s.n ⟨j, s.n + m.client, { m with what := 3, e := ownN s j m }⟩ = 1 := by unfold wtM; rw [if_neg (by show ¬ s.n + m.client < s.n; omega)]
 have h4 : muS (setEnt s j m.key (ownN s j m)) = muS s := by
  unfold muS
  show wtL s.n s.mails + potS (setEnt s j m.key (ownN s j m)) s.k = _
  rw [potS_same (s := s) (s' := setEnt s j m.key (ownN s j m)) rfl s.k (fun _ _ => rfl)]
 omega
theorem heard_pot (n : Nat) (x : SCl) (j : Nat) (m : SMsg) : potC n (heardC x j m) = potC n x := by
 unfold heardC
 dsimp only
 split
 ·rfl
 ·split <;> rfl
theorem new_pot (n : Nat) (x : SCl) (c : Nat) : potC n (newC x c) = potC n x := by
 unfold newC
 split <;> rfl
theorem mu_hear {s : StS} {j : Nat} {m : SMsg} (hc : m.client < s.k) : muS (hearF s j m) ≤ muS s := by
 unfold hearF
 dsimp only
 split
 ·exact Nat.le_refl _
 rename_i hbad
 have hbusy : (s.cl m.client).busy = true := by
  cases h : (s.cl m.client).busy
  ·exact absurd (.inl h) hbad
  ·rfl
 have e1 := mu_cl (s := s) (c := m.client) (x := heardC (s.cl m.client) j m) hc
 rw [heard_pot] at e1
 split
 ·split
  ·have h1 := mu_done (s := setCl s m.client (heardC (s.cl m.client) j m)) (c := m.client) hc
   omega
  ·omega
 ·rename_i htell
  split
  ·omega
  ·have e2 := mu_cl (s := s) (c := m.client) (x := newC (heardC (s.cl m.client) j m) m.client) hc
   rw [new_pot, heard_pot] at e2
   split
   ·have h1 := mu_send (s := setCl s m.client (newC (heardC (s.cl m.client) j m) m.client)) (c := m.client) (what := 2) (e := (newC (heardC (s.cl m.client) j m) m.client).best) hc
    have h2 : (setCl s m.client (newC (heardC (s.cl m.client) j m) m.client)).cl m.client = newC (heardC (s.cl m.client) j m) m.client := by
     show (if m.client = m.client then _ else _) = _
     rw [if_pos rfl]
    have h3 : (setCl s m.client (newC (heardC (s.cl m.client) j m) m.client)).n = s.n := rfl
    rw [h2, h3, new_pot, heard_pot] at h1
    have h4 : potC s.n (s.cl m.client) = 2 * s.n + 1 := by
     unfold potC
     rw [if_pos ⟨hbusy, by simpa using htell⟩]
    have h5 : potC s.n (roundC (setCl s m.client (newC (heardC (s.cl m.client) j m) m.client)) m.client 2) = 0 := potC_tell _ rfl
    omega
   ·have h1 := mu_done (s := setCl s m.client (newC (heardC (s.cl m.client) j m) m.client)) (c := m.client) hc
    omega
/-- EACH DELIVERY MAKES IT LESS. -/
theorem mu_deliver {s : StS} {i : Nat} {m : SMail} (hm : s.mails[i]? = some m) (hc : m.m.client < s.k) : muS (deliverF s i m) < muS s := by
 have h1 := mu_mails s (s.mails.eraseIdx i)
 have h2 := wtL_erase s.n s.mails i m hm
 have h4 := wtM_le s.n m
 unfold deliverF
 dsimp only
 split
 ·rename_i hd
  have h3 := mu_node (s := { s with mails := s.mails.eraseIdx i }) (j := m.dst) (m := m.m)
  have h5 : wtM s.n m = 2 := by unfold wtM; rw [if_pos hd]
  omega
 ·have h3 := mu_hear (s := { s with mails := s.mails.eraseIdx i }) (j := m.src) (m := m.m) hc
  omega
theorem setCl_at (s : StS) (c : Nat) (x : SCl) : (setCl s c x).cl c = x := by
 show (if c = c then x else s.cl c) = x
 rw [if_pos rfl]
theorem mu_beg {s : StS} {c key : Nat} {write : Bool} {value : Int} (hc : c < s.k) : muS (begS s c key write value) ≤ muS s + 4 * s.n + 1 := by
 obtain ⟨s1, hs1⟩ : ∃ s1, obsF s (evB c key write value) ⟨0, 0, 0⟩ = s1 := ⟨_, rfl⟩
 obtain ⟨X, hX⟩ : ∃ X, { s1.cl c with busy := true, began := evB c key write value, best := ⟨0, -2, 0⟩ } = X := ⟨_, rfl⟩
 have e1 : begS s c key write value = sendF (setCl s1 c X) c 1 ⟨0, 0, 0⟩ := by rw [← hX, ← hs1]; rfl
 have n1 : s1.n = s.n := by rw [← hs1]; rfl
 have k1 : s1.k = s.k := by rw [← hs1]; rfl
 have h0 : muS s1 = muS s := by rw [← hs1]; exact mu_obs ..
 have h1 := mu_cl (s := s1) (c := c) (x := X) (by omega)
 have h2 := mu_send (s := setCl s1 c X) (c := c) (what := 1) (e := ⟨0, 0, 0⟩) (by show c < s1.k; omega)
 rw [setCl_at, ← e1] at h2
 have h3 : (setCl s1 c X).n = s1.n := rfl
 rw [h3] at h2
 have h6 := potC_le s1.n (roundC (setCl s1 c X) c 1)
 rw [n1] at h1 h2 h6
 omega
theorem mu_le {s : StS} {K : Nat} (hm : s.mails.length ≤ 500) (hn : s.n ≤ 7) (hk : s.k ≤ 8) : muS s ≤ 1120 := by
 have h1 := wtL_len s.n s.mails
 have h2 : ∀ k, potS s k ≤ k * 15 := by
  intro k
  induction k with
  | zero => exact Nat.le_refl _
  | succ k ih =>
   have := potC_le s.n (s.cl k)
   rw [potS, Nat.succ_mul]
   omega
 have h3 := h2 s.k
 have : s.k * 15 ≤ 8 * 15 := Nat.mul_le_mul_right _ hk
 unfold muS
 omega
end Go.Proofs.YthndpiopbdecfaaGreatDoor
namespace Go.Proofs.YthndpiopbdecfaaGreatDoor
open Go.RowKit
set_option linter.unusedVariables false
set_option linter.unusedSimpArgs false
/-- A plan, as it lies in a trial. -/
structure FPlan where
 n : Nat
 k : Nat
 a : Nat
 t : Nat
 bk : Bool
 title : List UInt8
 gen : List UInt8
 bud : Int
/-- A trial, plainly. -/
structure Tr where
 st : StS
 g : Ge
 u : Nat
 b : Nat
 em : Bool
def trC (sb : Nat) (gv : Value) (q : Nat) (p : FPlan) (b : Nat) (em : Bool) : Array Value := #[.pointer (some ⟨sb, 0, none⟩), gv, .pointer (some ⟨q, 0, none⟩), .int .i64 (p.n : Int), .int .i64 (p.k : Int), .int .i64 (p.a : Int), .int .i64 (p.t : Int), .bool p.bk, strV p.title, strV p.gen, .int .i64 p.bud, .int .i64 (b : Int), .bool em]
def OkCa (k v : Int) (w : Bool) : Prop := (0 ≤ k ∧ k < 8) ∧ (-1000000 ≤ v ∧ v ≤ 1000000) ∧ (w = false → v = 0)
/-- A client begins, or does not. -/
def BegR (nums : List Int) (t : Tr) (c : Int) (r : Bool) (t' : Tr) : Prop :=
 ((t.em = true ∨ 40 ≤ t.b ∨ ∀ c', ¬ MayB t.st c c') ∧ r = false ∧ t' = t) ∨
 (t.em = false ∧ t.b < 40 ∧ ∃ c', MayB t.st c c' ∧ ∃ rr g' u', Nx nums t.g t.u rr g' u' ∧
  ((rr = none ∧ r = false ∧ t' = ⟨t.st, g', u', t.b, true⟩) ∨
   ∃ w k v, rr = some (w, k, v) ∧ ((¬ OkCa k v w ∧ r = false ∧ t' = ⟨t.st, g', u', t.b, false⟩) ∨ (OkCa k v w ∧ r = true ∧ t' = ⟨begS t.st c' k.toNat w v, g', u', t.b + 1, false⟩))))
set_option maxHeartbeats 1000000 in
theorem belowG_any (S D : Nat → Prop) (w0 w : World) (H : List Ent) (q : Nat) (A : Option Addr) (len c : Nat) (nums : List Int) (u : Nat) (n : Int) (hI : Inv S w0 w (tapeE q (.slice A len c) u :: H)) (hN : Ints w0 D (.slice A len c) nums) (hD : ∀ k, D k → ¬ S k) (hn2 : n ≤ 9223372036854775807) (hu : u < 9223372036854775807) :
  Calls Tryz.prog 35 #[at0 q, .int .i64 n] w fun e w' => ∃ (z : Nat) (u' : Nat), e = .returned (.int .i64 (z : Int)) ∧ (0 < n → u' = u + 1 ∧ (z : Int) < n) ∧ (n ≤ 0 → z = 0) ∧ u ≤ u' ∧ u' ≤ u + 1 ∧ Inv S w0 w' (tapeE q (.slice A len c) u' :: H) := by
 by_cases hn : 0 < n
 ·refine (below_any S D w0 w H q A len c nums u n hI hN hD hn hn2 hu).mono ?_
  rintro e w' ⟨rfl, h⟩
  have hb := belF_lt nums u n hn
  exact ⟨(belF nums u n).toNat, u + 1, by rw [Int.toNat_of_nonneg hb.1], fun _ => ⟨rfl, by omega⟩, fun h => absurd hn (by omega), by omega, by omega, h⟩
 ·unfold tapeE at hI
  refine Vm Tryz.f35.ntmps Tryz.func35 rfl ?_
  refine W_seq (W_region (Va rfl (WL_nil (W_seq (W_seq (W_region (V7 rfl ?_)))))))
  refine WL_val rfl rfl rfl (rPtrEq rfl Tryz.underlying58 rfl rfl) ?_
  refine V2 rfl (V0 rfl ?_)
  refine WL_val rfl rfl rfl (by exact rLeqT rfl rfl rfl (by omega)) ?_
  refine V8 rfl (WL_nil (W_cond true rfl (W_seq (W_region (Va rfl (WL_nil ?_))))))
  refine W_ret ?_
  exact ret1 4 (.inr rfl) rfl ⟨0, u, rfl, fun h => absurd h hn, fun _ => rfl, by omega, by omega, hI⟩
theorem used_any (S : Nat → Prop) (w0 w : World) (H : List Ent) (q : Nat) (nv : Value) (u : Nat) (hI : Inv S w0 w (tapeE q nv u :: H)) :
  Calls Tryz.prog 15 #[at0 q] w fun e w' => e = .returned (.int .i64 (u : Int)) ∧ Inv S w0 w' (tapeE q nv u :: H) := by
 unfold tapeE at hI
 refine Vm Tryz.f15.ntmps Tryz.func15 rfl ?_
 refine W_seq (W_region (Va rfl (WL_nil (W_seq (W_seq (W_region (V7 rfl ?_)))))))
 refine WL_val rfl rfl rfl (rPtrEq rfl Tryz.underlying58 rfl rfl) ?_
 refine WL_nil (W_cond false rfl (W_skip (W_seq (W_region (V7 rfl (Vb rfl (V5 1 rfl (V3 (.int .i64 _) rfl (hI.c0 rfl) (Va rfl (WL_nil ?_))))))))))
 refine W_ret ?_
 exact ret1 2 (.inr rfl) rfl ⟨rfl, hI⟩
theorem nwaiting_any (b n c : Nat) (A : Option Addr) (w0 : World) (hc : w0.cell? ⟨b, 7, none⟩ = some (.slice A n c)) : Calls Tryz.prog 66 #[.pointer (some ⟨b, 7, none⟩)] w0 fun e w' => e = .returned (.int .i64 (n : Int)) ∧ Pure w0 w' := by
 have hI := Inv.start (fun _ => False) w0
 refine Vm Tryz.f66.ntmps Tryz.func66 rfl ?_
 refine W_seq (W_region (Va rfl (WL_nil (W_seq (W_region (V7 rfl (Vb rfl (Te rfl (V3 (.slice _ _ _) rfl (hI.oldp hc) (Vs rfl Tryz.underlying93 rfl (Va rfl (WL_nil ?_))))))))))))
 refine W_ret ?_
 exact ret1 2 (.inr rfl) rfl ⟨rfl, hI.pu⟩
theorem waiting_any (b n c : Nat) (A : Option Addr) (w0 : World) (hc : w0.cell? ⟨b, 7, none⟩ = some (.slice A n c)) : Calls Tryz.prog 38 #[.pointer (some ⟨b, 0, none⟩)] w0 fun e w' => e = .returned (.int .i64 (n : Int)) ∧ Pure w0 w' := by
 have hI := Inv.start (fun _ => False) w0
 refine Vm Tryz.f38.ntmps Tryz.func38 rfl ?_
 refine W_seq (W_region (Va rfl (WL_nil (W_seq (W_seq (W_region (V7 rfl ?_)))))))
 refine WL_val rfl rfl rfl (rPtrEq rfl Tryz.underlying50 rfl rfl) ?_
 refine WL_nil (W_cond false rfl (W_skip (W_seq (W_region (V7 rfl (Vb rfl (V5 7 rfl (V6 [.pointer _] rfl Tryz.func66 rfl ?_))))))))
 refine (nwaiting_any b n c A _ (hI.oldp hc)).mono ?_
 rintro e w1 ⟨rfl, hp⟩
 refine ⟨_, rfl, ?_⟩
 replace hI := hI.pure hp
 refine Va rfl (WL_nil ?_)
 refine W_ret ?_
 exact ret1 2 (.inr rfl) rfl ⟨rfl, hI.pu⟩
theorem sp_c7 {S : Nat → Prop} {w0 w : World} {X : List Ent} {L : StL} {s : StS} (hI : Inv S w0 w (X ++ spt L s)) : w.cell? ⟨L.sb, 7, none⟩ = some (.slice L.MA s.mails.length L.mc) := hI.fromB.cell 0 rfl rfl
theorem Inv.hd1 {S : Nat → Prop} {w0 w : World} {e : Ent} {H : List Ent} (h : Inv S w0 w (e :: H)) : Inv S w0 w [e] := h.sub (by simp)
theorem gen_perm {α : Type} (X : List α) (a b : α) (L R : List α) : (X ++ (a :: b :: (L ++ R))).Perm (b :: (L ++ ((X ++ [a]) ++ R))) := by
 have e : X ++ (a :: b :: (L ++ R)) = (X ++ [a]) ++ (b :: (L ++ R)) := by simp
 rw [e]
 exact List.perm_middle.trans ((List.perm_append_comm_assoc (X ++ [a]) L R).cons b)
theorem rNilChkI {P : Program} {ρ : Env} {o : Oper} {w : World} {x : Operand} {T : TypeId} {v : Value} (ho : o.op = .nilCheck x) (hx : ev ρ x = .iface T v) : Runs P ρ o w (.iface T v) := by simp [Runs, execOp, ho, hx]
set_option maxHeartbeats 4000000 in
theorem tbegin_any (S D : Nat → Prop) (w0 w : World) (L : StL) (gv : Value) (LG : List Ent) (q tb : Nat) (p : FPlan) (t : Tr) (A : Option Addr) (len cp : Nat) (nums : List Int) (M : Nat) (c : Int)
  (hI : Inv S w0 w (B tb 63 (trC L.sb gv q p t.b t.em) :: tapeE q (.slice A len cp) t.u :: (LG ++ spt L t.st))) (hr : Rep t.g gv LG) (hok : SOk L t.st M) (hM : M ≤ 100000) (hN : Ints w0 D (.slice A len cp) nums) (hD : ∀ k, D k → ¬ S k) (hu : t.u + t.g.sz ≤ 4611686018427387904) (hb : t.b ≤ 1000) :
  Calls Tryz.prog 36 #[at0 tb, .int .i64 c] w fun e w' => ∃ r t' L' LG', e = .returned (.bool r) ∧ BegR nums t c r t' ∧ Rep t'.g gv LG' ∧ SOk L' t'.st (M + 1) ∧ L'.sb = L.sb ∧ L'.cut = L.cut ∧
   Inv S w0 w' (B tb 63 (trC L.sb gv q p t'.b t'.em) :: tapeE q (.slice A len cp) t'.u :: (LG' ++ spt L' t'.st)) := by
 obtain ⟨s, g, u, b, em⟩ := t
 dsimp only at hI hr hok hu hb ⊢
 have hk8 := hok.k1.2
 have hel := hok.elen
 obtain ⟨T, bv, f, rfl, hme, hG⟩ := hr.gives (nums := nums) (D := D) (A := A) (len := len) (cp := cp)
 refine Vm Tryz.f36.ntmps Tryz.func36 rfl ?_
 refine W_seq (W_region (V4 rfl (WL_nil ?_)))
 cases em with
 | true =>
  refine W_seq (W_seq (W_region (V7 rfl (Vb rfl (V5 12 rfl (V3 (.bool _) rfl (hI.c0 rfl) (V2 rfl (V1 rfl (V1 rfl (V1 rfl (V1 rfl (V1 rfl (Vd rfl ?_)))))))))))))
  refine V2 rfl (V1 rfl (V1 rfl (V1 rfl (V1 rfl (V1 rfl (V1 rfl (V1 rfl (Vd rfl (WL_nil (W_cond true rfl (W_seq (W_region (V4 rfl ?_)))))))))))))
  refine WL_nil ?_
  refine W_ret ?_
  exact ret1 4 (.inr rfl) rfl ⟨false, ⟨s, g, u, b, true⟩, L, LG, rfl, .inl ⟨.inl rfl, rfl, rfl⟩, hr, hok.mono (by omega), rfl, rfl, hI⟩
 | false =>
  by_cases hb40 : 40 ≤ b
  ·refine W_seq (W_seq (W_region (V7 rfl (Vb rfl (V5 12 rfl (V3 (.bool _) rfl (hI.c0 rfl) (V2 rfl (V7 rfl (Vb rfl (V5 11 rfl (V3 (.int .i64 _) rfl (hI.c0 rfl) (Tg rfl (V8 rfl ?_)))))))))))))
   refine V2 rfl (V1 rfl (V1 rfl (V1 rfl (V1 rfl (V1 rfl (V1 rfl (V1 rfl (Vd rfl (WL_nil (W_cond true rfl (W_seq (W_region (V4 rfl ?_)))))))))))))
   refine WL_nil ?_
   refine W_ret ?_
   exact ret1 4 (.inr rfl) rfl ⟨false, ⟨s, g, u, b, false⟩, L, LG, rfl, .inl ⟨.inr (.inl hb40), rfl, rfl⟩, hr, hok.mono (by omega), rfl, rfl, hI⟩
  have hFree : ∀ (w : World), Inv S w0 w (B tb 63 (trC L.sb (.iface T (at0 bv)) q p b false) :: tapeE q (.slice A len cp) u :: (LG ++ spt L s)) →
    Calls Tryz.prog 61 #[.pointer (some ⟨L.sb, 0, none⟩), .int .i64 c] w fun en w' => ∃ v, en = .returned v ∧ ((v = .nilIface ∧ ∃ c', MayB s c c') ∨ ((∃ n, v = .iface 49 (.int .i64 n)) ∧ ∀ c', ¬ MayB s c c')) ∧ Inv S w0 w' (B tb 63 (trC L.sb (.iface T (at0 bv)) q p b false) :: tapeE q (.slice A len cp) u :: (LG ++ spt L s)) := by
   intro w hI
   refine (free_any L s c hk8 (by omega) (DLs (spt L s)) _ (Inv.fromB (X := B tb 63 (trC L.sb (.iface T (at0 bv)) q p b false) :: tapeE q (.slice A len cp) u :: LG) hI)).mono ?_
   rintro en w1 ⟨hc, hJ⟩
   have hI1 := Inv.callB (X := B tb 63 (trC L.sb (.iface T (at0 bv)) q p b false) :: tapeE q (.slice A len cp) u :: LG) hI hJ
   rcases hc with ⟨rfl, hm⟩ | ⟨⟨n, rfl⟩, hno⟩
   ·exact ⟨_, rfl, .inl ⟨rfl, hm⟩, hI1⟩
   ·exact ⟨_, rfl, .inr ⟨⟨n, rfl⟩, hno⟩, hI1⟩
  by_cases hmb : ∃ c', MayB s c c'
  rotate_left
  ·refine W_seq (W_seq (W_region (V7 rfl (Vb rfl (V5 12 rfl (V3 (.bool _) rfl (hI.c0 rfl) (V2 rfl (V7 rfl (Vb rfl (V5 11 rfl (V3 (.int .i64 _) rfl (hI.c0 rfl) (To rfl (V8 rfl ?_)))))))))))))
   refine V2 rfl (V7 rfl (Vb rfl (V5 0 rfl (V3 (.pointer _) rfl (hI.c0 rfl) (V0 rfl (V6 [.pointer _, .int .i64 _] rfl Tryz.func61 rfl ?_))))))
   refine (hFree _ hI).mono ?_
   rintro e w1 ⟨v, rfl, hv, hI'⟩
   rcases hv with ⟨_, hm⟩ | ⟨⟨n, rfl⟩, _⟩
   ·exact absurd hm hmb
   refine ⟨_, rfl, ?_⟩
   replace hI := hI'
   clear hI'
   refine Tf rfl Tryz.underlying29 rfl (V8 rfl (WL_nil (W_cond true rfl (W_seq (W_region (V4 rfl (WL_nil ?_)))))))
   refine W_ret ?_
   exact ret1 4 (.inr rfl) rfl ⟨false, ⟨s, g, u, b, false⟩, L, LG, rfl, .inl ⟨.inr (.inr fun c' h => hmb ⟨c', h⟩), rfl, rfl⟩, hr, hok.mono (by omega), rfl, rfl, hI⟩
  refine W_seq (W_seq (W_region (V7 rfl (Vb rfl (V5 12 rfl (V3 (.bool _) rfl (hI.c0 rfl) (V2 rfl (V7 rfl (Vb rfl (V5 11 rfl (V3 (.int .i64 _) rfl (hI.c0 rfl) (To rfl (V8 rfl ?_)))))))))))))
  refine V2 rfl (V7 rfl (Vb rfl (V5 0 rfl (V3 (.pointer _) rfl (hI.c0 rfl) (V0 rfl (V6 [.pointer _, .int .i64 _] rfl Tryz.func61 rfl ?_))))))
  refine (hFree _ hI).mono ?_
  rintro e w1 ⟨v, rfl, hv, hI'⟩
  rcases hv with ⟨rfl, _⟩ | ⟨_, hno⟩
  rotate_left
  ·obtain ⟨c', hm⟩ := hmb
   exact absurd hm (hno c')
  refine ⟨_, rfl, ?_⟩
  replace hI := hI'
  clear hI'
  refine Tc rfl Tryz.underlying29 rfl (V8 rfl (WL_nil (W_cond false rfl (W_skip ?_))))
  obtain ⟨c', hmb⟩ := hmb
  refine W_seq_cut (fun ρ w => ∃ rr g' LG' u', Nx nums g u rr g' u' ∧ Rep g' (.iface T (at0 bv)) LG' ∧ ∃ b5, Has ρ [(6, .bool rr.isSome), (5, at0 b5), (0, at0 tb), (1, .int .i64 c)] ∧ Inv S w0 w (B b5 160 #[.bool (caB rr), .int .i64 (caK rr), .int .i64 (caX rr)] :: B tb 63 (trC L.sb (.iface T (at0 bv)) q p b false) :: tapeE q (.slice A len cp) u' :: (LG' ++ spt L s))) ?_ ?_
  ·have hNext : ∀ (X : List Ent) (w : World), Inv S w0 w (X ++ (B tb 63 (trC L.sb (.iface T (at0 bv)) q p b false) :: tapeE q (.slice A len cp) u :: (LG ++ spt L s))) →
     Calls Tryz.prog f #[at0 bv, at0 q] w fun e w' => ∃ r g' L' u', Nx nums g u r g' u' ∧ Rep g' (.iface T (at0 bv)) L' ∧ e = .returned (.tuple #[.agg #[.bool (caB r), .int .i64 (caK r), .int .i64 (caX r)], .bool r.isSome]) ∧
      Inv S w0 w' (X ++ (B tb 63 (trC L.sb (.iface T (at0 bv)) q p b false) :: tapeE q (.slice A len cp) u' :: (L' ++ spt L s))) := by
    intro X w hI
    refine (hG S w0 _ _ q u (hI.perm (gen_perm X _ _ LG (spt L s))) hN hD (by omega)).mono ?_
    rintro e w1 ⟨r, g', L', u', hnx, hr', rfl, hI1⟩
    exact ⟨r, g', L', u', hnx, hr', rfl, hI1.perm (gen_perm X _ _ L' (spt L s)).symm⟩
   refine W_draw (by kernel_rfl) ?_
   refine WA_inv (T := []) hI.hd1.drew ?_
   intro Sx hSx hXS
   replace hI := hI.drew
   refine Vh 0 (hXS _ hI.hd1) rfl (Vi 1 (hXS _ hI.hd1) rfl (Vc 2 1 (hXS _ hI.hd1) rfl (V9 3 (.iface T (at0 bv)) (hXS _ hI.hd1) rfl (fun W hW => (hSx W hW).c0 rfl) (Vh 4 (hXS _ hI.hd1) rfl (Vi 5 (hXS _ hI.hd1) rfl (Vc 6 2 (hXS _ hI.hd1) rfl (V9 7 (.pointer _) (hXS _ hI.hd1) rfl (fun W hW => (hSx W hW).c0 rfl) ?_)))))))
   refine WT_take 8 rfl rfl (by kernel_rfl) (hXS _ hI.hd1) rfl (fun W hW => have hI := hSx W hW; (rNilChkI rfl rfl)) ?_
   refine WT_take 9 rfl rfl (by kernel_rfl) (hXS _ hI.hd1) rfl (fun W hW => have hI := hSx W hW; (by exact rMoveE rfl rfl)) ?_
   refine WT_two 10 14 rfl rfl (by kernel_rfl) rfl rfl ?_ ?_
   ·refine WL_call rfl rfl rfl (rCallI (f := f) (vs := [_]) rfl rfl rfl (fun w => hme _ w)) ?_
    refine (hNext [] _ hI).mono ?_
    rintro e w1 ⟨r, g', L', u', hnx, hr', rfl, hI1⟩
    refine ⟨_, rfl, ?_⟩
    replace hI := hI1
    clear hI1
    refine WL_nil ⟨hXS _ hI.hd1, ?_⟩
    refine Ug 11 (hXS _ hI.hd1) rfl (Tl 12 (hXS _ hI.hd1) rfl (Tl 13 (hXS _ hI.hd1) rfl (Vt 14 rfl ?_)))
    refine T0 (.agg #[.bool false, .int .i64 0, .int .i64 0]) (#[.bool false, .int .i64 0, .int .i64 0]) hI rfl ?_
    clear hI; rintro b5 w - - hI
    refine WL_nil ⟨hXS _ hI.d0.hd1, ?_⟩
    refine Vt 15 rfl ?_
    refine T1 3 (#[_, _, _]) (.agg _) hI rfl ?_
    clear hI; intro w hI
    refine WL_nil ⟨hXS _ hI.d0.hd1, ?_⟩
    refine U3 16 (hXS _ hI.d0.hd1) rfl (WT_end (by kernel_rfl) ?_)
    exact ⟨r, g', L', u', hnx, hr', _, ⟨rfl, rfl, rfl, rfl, trivial⟩, hI⟩
   ·refine T0 (.agg #[.bool false, .int .i64 0, .int .i64 0]) (#[.bool false, .int .i64 0, .int .i64 0]) hI rfl ?_
    clear hI; rintro b5 w - - hI
    refine WL_nil ⟨hXS _ hI.d0.hd1, ?_⟩
    refine Vt 10 rfl ?_
    refine WL_call rfl rfl rfl (rCallI (f := f) (vs := [_]) rfl rfl rfl (fun w => hme _ w)) ?_
    refine (hNext [_] _ hI).mono ?_
    rintro e w1 ⟨r, g', L', u', hnx, hr', rfl, hI1⟩
    refine ⟨_, rfl, ?_⟩
    replace hI := hI1
    clear hI1
    refine WL_nil ⟨hXS _ hI.d0.hd1, ?_⟩
    refine Ug 11 (hXS _ hI.d0.hd1) rfl (Tl 12 (hXS _ hI.d0.hd1) rfl (Tl 13 (hXS _ hI.d0.hd1) rfl (Vt 15 rfl ?_)))
    refine T1 3 (#[_, _, _]) (.agg _) hI rfl ?_
    clear hI; intro w hI
    refine WL_nil ⟨hXS _ hI.d0.hd1, ?_⟩
    refine U3 16 (hXS _ hI.d0.hd1) rfl (WT_end (by kernel_rfl) ?_)
    exact ⟨r, g', L', u', hnx, hr', _, ⟨rfl, rfl, rfl, rfl, trivial⟩, hI⟩
  clear hI hFree
  rintro ρ w ⟨rr, g', LG', u', hnx, hr', b5, hH, hI⟩
  obtain ⟨σ, rfl⟩ := hH.open
  cases rr with
  | none =>
   refine W_seq (W_seq (W_region (V2 rfl (Ta rfl (WL_nil (W_cond true rfl (W_seq (W_region (V7 rfl (Vb rfl (V5 12 rfl ?_)))))))))))
   refine WL_st1 (u := .bool _) hI rfl rfl rfl rfl rfl rfl (by kernel_rfl) rfl rfl rfl ?_
   clear hI; intro w hI
   refine WL_nil (W_seq (W_region (V4 rfl (WL_nil ?_))))
   refine W_ret ?_
   exact ret1 4 (.inr rfl) rfl ⟨false, ⟨s, g', u', b, true⟩, L, LG', rfl, .inr ⟨rfl, by show b < 40; omega, c', hmb, none, g', u', hnx, .inl ⟨rfl, rfl, rfl⟩⟩, hr', hok.mono (by omega), rfl, rfl, hI.d0⟩
  | some ca =>
   obtain ⟨wr, ky, vl⟩ := ca
   replace hI : Inv S w0 w (B b5 160 #[.bool wr, .int .i64 ky, .int .i64 vl] :: B tb 63 (trC L.sb (.iface T (at0 bv)) q p b false) :: tapeE q (.slice A len cp) u' :: (LG' ++ spt L s)) := hI
   refine W_seq (W_seq (W_region (V2 rfl (T4 rfl (WL_nil (W_cond false rfl (W_skip ?_)))))))
   by_cases hoc : OkCa ky vl wr
   ·obtain ⟨⟨k1, k2⟩, ⟨v1, v2⟩, hw⟩ := id hoc
    have hB : ∀ (w : World), Inv S w0 w (B b5 160 #[.bool wr, .int .i64 ky, .int .i64 vl] :: B tb 63 (trC L.sb (.iface T (at0 bv)) q p b false) :: tapeE q (.slice A len cp) u' :: (LG' ++ spt L s)) →
      Calls Tryz.prog 62 #[.pointer (some ⟨L.sb, 0, none⟩), .int .i64 c, .int .i64 ky, .bool wr, .int .i64 vl] w fun en w' => ∃ L', en = .returned .nilIface ∧ SOk L' (begS s c' ky.toNat wr vl) (M + 1) ∧ L'.sb = L.sb ∧ L'.cut = L.cut ∧ Inv S w0 w' (B b5 160 #[.bool wr, .int .i64 ky, .int .i64 vl] :: B tb 63 (trC L.sb (.iface T (at0 bv)) q p b false) :: tapeE q (.slice A len cp) u' :: (LG' ++ spt L' (begS s c' ky.toNat wr vl))) := by
     intro w hI
     refine (beginM L s M hok hM (DLs (spt L s)) _ (Inv.fromB (X := B b5 160 #[.bool wr, .int .i64 ky, .int .i64 vl] :: B tb 63 (trC L.sb (.iface T (at0 bv)) q p b false) :: tapeE q (.slice A len cp) u' :: LG') hI) c ky wr vl).mono ?_
     rintro en w1 ⟨v, L', s', rfl, _, hok', hsb, hcut, hJ, hex, _⟩
     obtain ⟨rfl, rfl⟩ := hex c' ky.toNat hmb (by omega) (by omega) v1 v2 hw
     exact ⟨L', rfl, hok', hsb, hcut, Inv.callB (X := B b5 160 #[.bool wr, .int .i64 ky, .int .i64 vl] :: B tb 63 (trC L.sb (.iface T (at0 bv)) q p b false) :: tapeE q (.slice A len cp) u' :: LG') hI hJ⟩
    refine W_seq (W_seq (W_draw (by kernel_rfl) ?_))
    refine WA_inv (T := [11]) hI.drew ?_
    intro Sx hSx hXS
    replace hI := hI.drew
    refine Vh 0 (hXS _ hI) rfl (Vi 1 (hXS _ hI) rfl (Vc 2 0 (hXS _ hI) rfl (V9 3 (.pointer _) (hXS _ hI) rfl (fun W hW => (hSx W hW).c1 rfl) (Vw 4 (hXS _ hI) rfl (Vc 5 1 (hXS _ hI) rfl (V9 6 (.int .i64 _) (hXS _ hI) rfl (fun W hW => (hSx W hW).c0 rfl) (Vc 7 0 (hXS _ hI) rfl (V9 8 (.bool _) (hXS _ hI) rfl (fun W hW => (hSx W hW).c0 rfl) (Vc 9 2 (hXS _ hI) rfl (V9 10 (.int .i64 _) (hXS _ hI) rfl (fun W hW => (hSx W hW).c0 rfl) ?_))))))))))
    refine WT_A (by kernel_rfl) ?_
    clear hXS hSx
    refine T2 11 rfl ?_
    refine V6 [.pointer _, .int .i64 _, .int .i64 _, .bool _, .int .i64 _] rfl Tryz.func62 rfl ?_
    refine (hB _ hI).mono ?_
    rintro e w1 ⟨L', rfl, hok', hsb, hcut, hI1⟩
    refine ⟨_, rfl, ?_⟩
    replace hI := hI1
    clear hI1
    refine WL_nil (T2 12 rfl ?_)
    refine Tc rfl Tryz.underlying29 rfl (WL_nil ?_)
    refine WA_end (by kernel_rfl) ?_
    refine W_cond false rfl (W_skip (W_seq (W_region (V7 rfl (Vb rfl (V5 11 rfl (V3 (.int .i64 _) rfl (hI.c1 rfl) (Vu rfl (Vb rfl (V5 11 rfl ?_))))))))))
    refine WL_st1 (u := .int .i64 _) hI rfl rfl rfl rfl rfl rfl (by kernel_rfl) rfl rfl rfl ?_
    clear hI; intro w hI
    refine WL_nil (W_seq (W_region (V4 rfl (WL_nil ?_))))
    refine W_ret ?_
    exact ret1 4 (.inr rfl) rfl ⟨true, ⟨begS s c' ky.toNat wr vl, g', u', b + 1, false⟩, L', LG', rfl, .inr ⟨rfl, by show b < 40; omega, c', hmb, some (wr, ky, vl), g', u', hnx, .inr ⟨wr, ky, vl, rfl, .inr ⟨hoc, rfl, rfl⟩⟩⟩, hr', hok', hsb, hcut, hI.d0⟩
   ·have hB : ∀ (w : World), Inv S w0 w (B b5 160 #[.bool wr, .int .i64 ky, .int .i64 vl] :: B tb 63 (trC L.sb (.iface T (at0 bv)) q p b false) :: tapeE q (.slice A len cp) u' :: (LG' ++ spt L s)) →
      Calls Tryz.prog 62 #[.pointer (some ⟨L.sb, 0, none⟩), .int .i64 c, .int .i64 ky, .bool wr, .int .i64 vl] w fun en w' => ∃ n : Int, en = .returned (.iface 49 (.int .i64 n)) ∧ Inv S w0 w' (B b5 160 #[.bool wr, .int .i64 ky, .int .i64 vl] :: B tb 63 (trC L.sb (.iface T (at0 bv)) q p b false) :: tapeE q (.slice A len cp) u' :: (LG' ++ spt L s)) := by
     intro w hI
     refine (beginM L s M hok hM (DLs (spt L s)) _ (Inv.fromB (X := B b5 160 #[.bool wr, .int .i64 ky, .int .i64 vl] :: B tb 63 (trC L.sb (.iface T (at0 bv)) q p b false) :: tapeE q (.slice A len cp) u' :: LG') hI) c ky wr vl).mono ?_
     rintro en w1 ⟨v, L', s', rfl, _, hok', hsb, hcut, hJ, _, hx⟩
     rcases hx with ⟨⟨n, rfl⟩, hs, hL⟩ | ⟨_, c2, kn, _, h1, h2, h3, h4, _⟩
     ·rw [hs, hL] at hJ
      exact ⟨n, rfl, Inv.callB (X := B b5 160 #[.bool wr, .int .i64 ky, .int .i64 vl] :: B tb 63 (trC L.sb (.iface T (at0 bv)) q p b false) :: tapeE q (.slice A len cp) u' :: LG') hI hJ⟩
     ·exact absurd ⟨⟨by omega, by omega⟩, h3, h4⟩ hoc
    refine W_seq (W_seq (W_draw (by kernel_rfl) ?_))
    refine WA_inv (T := [11]) hI.drew ?_
    intro Sx hSx hXS
    replace hI := hI.drew
    refine Vh 0 (hXS _ hI) rfl (Vi 1 (hXS _ hI) rfl (Vc 2 0 (hXS _ hI) rfl (V9 3 (.pointer _) (hXS _ hI) rfl (fun W hW => (hSx W hW).c1 rfl) (Vw 4 (hXS _ hI) rfl (Vc 5 1 (hXS _ hI) rfl (V9 6 (.int .i64 _) (hXS _ hI) rfl (fun W hW => (hSx W hW).c0 rfl) (Vc 7 0 (hXS _ hI) rfl (V9 8 (.bool _) (hXS _ hI) rfl (fun W hW => (hSx W hW).c0 rfl) (Vc 9 2 (hXS _ hI) rfl (V9 10 (.int .i64 _) (hXS _ hI) rfl (fun W hW => (hSx W hW).c0 rfl) ?_))))))))))
    refine WT_A (by kernel_rfl) ?_
    clear hXS hSx
    refine T2 11 rfl ?_
    refine V6 [.pointer _, .int .i64 _, .int .i64 _, .bool _, .int .i64 _] rfl Tryz.func62 rfl ?_
    refine (hB _ hI).mono ?_
    rintro e w1 ⟨n, rfl, hI1⟩
    refine ⟨_, rfl, ?_⟩
    replace hI := hI1
    clear hI1
    refine WL_nil (T2 12 rfl ?_)
    refine Tf rfl Tryz.underlying29 rfl (WL_nil ?_)
    refine WA_end (by kernel_rfl) ?_
    refine W_cond true rfl (W_seq (W_region (V4 rfl (WL_nil ?_))))
    refine W_ret ?_
    exact ret1 4 (.inr rfl) rfl ⟨false, ⟨s, g', u', b, false⟩, L, LG', rfl, .inr ⟨rfl, by show b < 40; omega, c', hmb, some (wr, ky, vl), g', u', hnx, .inr ⟨wr, ky, vl, rfl, .inl ⟨hoc, rfl, rfl⟩⟩⟩, hr', hok.mono (by omega), rfl, rfl, hI.d0⟩
section
variable {P : Program} {N : Nat} {ops : Array Oper} {Q : XPost} {rest : List Oper} {ρ : Env} {o : Oper} {w0 w w' : World} {S : Nat → Prop} {H : List Ent} {d g t tt : Nat} {cs : Array Value} {v : Value}
theorem made_flat (zs : List Value) (n : Nat) (h : 0 < zs.length) : madeCells zs.toArray (n * zs.length) = flatB n (fun _ => zs) := by
 apply Array.ext
 ·simp [madeCells, flatB_size (m := zs.length) (f := fun _ => zs) (fun _ => rfl)]
 ·intro j h1 h2
  have hj : j < n * zs.length := by simpa [madeCells] using h1
  have hm : j % zs.length < zs.length := Nat.mod_lt _ h
  have hd : j / zs.length < n := Nat.div_lt_of_lt_mul (by rw [Nat.mul_comm]; exact hj)
  have h3 := flatB_at (f := fun _ => zs) (m := zs.length) (n := n) (fun _ => rfl) hd hm
  rw [show j / zs.length * zs.length + j % zs.length = j by rw [Nat.mul_comm]; exact Nat.div_add_mod _ _, Array.getElem?_eq_getElem h2, List.getElem?_eq_getElem hm] at h3
  injection h3 with h3
  rw [h3]
  simp [madeCells, hm]
theorem WL_mkZ {x y : Operand} {e n m by_ : Nat} {z : Value} (zs : List Value) (hI : Inv S w0 w H) (hw : wantedR ops ρ o = true) (hd : o.dst = some d) (hN : Nat.blt d N = true) (ho : o.op = .makeSlice t x y) (hx : ev ρ x = .int .i64 (n : Int)) (hy : ev ρ y = .int .i64 (n : Int))
  (ht : P.underlying t = some (.slice e)) (hi : (P.info? e).map (fun i => (i.zero, i.size, i.bytes)) = some (some z, m, by_)) (hz : z.cells = zs.toArray) (hzl : zs.length = m) (hm : 0 < m) (hb : by_ * n ≤ 281474976710656) (h63 : n ≤ 9223372036854775807)
  (h : ∀ g w', Pure w w' → g = w.heap.size → Inv S w0 w' (B g e (flatB n fun _ => zs) :: H) → WL P N ops Q rest (upd ρ d (.slice (some ⟨g, 0, none⟩) n n)) w') : WL P N ops Q (o :: rest) ρ w := by
 cases hp : P.info? e with
 | none => simp [hp] at hi
 | some i =>
  simp only [hp, Option.map_some, Option.some.injEq, Prod.mk.injEq] at hi
  obtain ⟨h1, h2, h3⟩ := hi
  subst h2 h3
  have hb : (i.bytes : Int) * (n : Int) ≤ 281474976710656 := by
   have h : ((i.bytes * n : Nat) : Int) ≤ 281474976710656 := by omega
   rwa [Int.natCast_mul] at h
  have hr := run_make (P := P) w t e i z ht hp h1 .i64 .i64 n n (by omega) (by omega) hb (by omega)
  rw [hz, Int.toNat_natCast, ← hzl, made_flat zs n (by omega)] at hr
  exact WL_eff hw hd hN (by simp [execOp, ho, hx, hy, hr]) (h _ _ ((Pure.refl w).alloc _) rfl (hI.box e _))
end
/-- What may be set up. -/
def SetOk (n k a t : Int) : Prop := (1 ≤ n ∧ n ≤ 7) ∧ (1 ≤ k ∧ k ≤ 8) ∧ (1 ≤ a ∧ a ≤ n) ∧ (1 ≤ t ∧ t ≤ n)
instance (n k a t : Int) : Decidable (SetOk n k a t) := inferInstanceAs (Decidable (_ ∧ _))
set_option maxHeartbeats 2000000 in
theorem scheck_any (n k a t : Int) (b : Bool) (w0 : World) :
  Calls Tryz.prog 6 #[.agg #[.int .i64 n, .int .i64 k, .int .i64 a, .int .i64 t, .bool b]] w0 fun en w' => ((SetOk n k a t ∧ en = .returned .nilIface) ∨ (¬ SetOk n k a t ∧ ∃ z, en = .returned (.iface 49 (.int .i64 z)))) ∧ Pure w0 w' := by
 have hI := Inv.start (fun _ => False) w0
 refine Vm Tryz.f6.ntmps Tryz.func6 rfl ?_
 refine W_seq (W_region (T7 (.agg _) (#[_, _, _, _, _]) hI rfl ?_))
 clear hI; rintro b1 w - - hI
 refine Vf rfl (WL_nil (W_seq (W_block ?_)))
 by_cases h1 : n < 1 ∨ 7 < n ∨ k < 1 ∨ 8 < k
 ·refine W_seq_cut (fun ρ w => ρ 3 = .bool true ∧ Pure w0 w) ?_ ?_
  ·by_cases q1 : n < 1
   ·refine W_region (V5 0 rfl (V3 (.int .i64 _) rfl (hI.c0 rfl) (Vp rfl (V2 rfl (V1 rfl (V1 rfl (V1 rfl (Vd rfl (V2 rfl (V1 rfl (V1 rfl (V1 rfl (Vd rfl ?_)))))))))))))
    refine V2 rfl (V1 rfl (V1 rfl (V1 rfl (Vd rfl (V4 rfl (WL_nil ?_))))))
    exact ⟨rfl, hI.pu⟩
   by_cases q2 : 7 < n
   ·refine W_region (V5 0 rfl (V3 (.int .i64 _) rfl (hI.c0 rfl) (Vn rfl (V2 rfl (V5 0 rfl (V3 (.int .i64 _) rfl (hI.c0 rfl) (Ts rfl (V8 rfl (V2 rfl (V1 rfl (V1 rfl (V1 rfl (Vd rfl ?_)))))))))))))
    refine V2 rfl (V1 rfl (V1 rfl (V1 rfl (Vd rfl (V4 rfl (WL_nil ?_))))))
    exact ⟨rfl, hI.pu⟩
   by_cases q3 : k < 1
   ·refine W_region (V5 0 rfl (V3 (.int .i64 _) rfl (hI.c0 rfl) (Vn rfl (V2 rfl (V5 0 rfl (V3 (.int .i64 _) rfl (hI.c0 rfl) (Td rfl (V8 rfl (V2 rfl (V5 1 rfl (V3 (.int .i64 _) rfl (hI.c0 rfl) (Vp rfl (V8 rfl ?_)))))))))))))
    refine V2 rfl (V1 rfl (V1 rfl (V1 rfl (Vd rfl (V4 rfl (WL_nil ?_))))))
    exact ⟨rfl, hI.pu⟩
   have q4 : 8 < k := by omega
   refine W_region (V5 0 rfl (V3 (.int .i64 _) rfl (hI.c0 rfl) (Vn rfl (V2 rfl (V5 0 rfl (V3 (.int .i64 _) rfl (hI.c0 rfl) (Td rfl (V8 rfl (V2 rfl (V5 1 rfl (V3 (.int .i64 _) rfl (hI.c0 rfl) (Vn rfl (V8 rfl ?_)))))))))))))
   refine V2 rfl (V5 1 rfl (V3 (.int .i64 _) rfl (hI.c0 rfl) (Ts rfl (V8 rfl (V4 rfl (WL_nil ?_))))))
   exact ⟨rfl, hI.pu⟩
  ·clear hI
   rintro ρ w ⟨h3, hp⟩
   refine W_cond true h3 (W_seq (W_region (Vx rfl Tryz.underlying49 rfl (Vk rfl (WL_nil ?_)))))
   refine W_ret ?_
   exact ret1 2 (.inr rfl) rfl ⟨.inr ⟨fun h => by unfold SetOk at h; omega, _, rfl⟩, hp⟩
 refine W_seq (W_region (V5 0 rfl (V3 (.int .i64 _) rfl (hI.c0 rfl) (Vn rfl (V2 rfl (V5 0 rfl (V3 (.int .i64 _) rfl (hI.c0 rfl) (Td rfl (V8 rfl (V2 rfl (V5 1 rfl (V3 (.int .i64 _) rfl (hI.c0 rfl) (Vn rfl ?_)))))))))))))
 refine V8 rfl (V2 rfl (V5 1 rfl (V3 (.int .i64 _) rfl (hI.c0 rfl) (Td rfl (V8 rfl (V4 rfl (WL_nil (W_cond false rfl ?_))))))))
 by_cases h2 : a < 1 ∨ n < a ∨ t < 1 ∨ n < t
 ·refine W_seq_cut (fun ρ w => ρ 23 = .bool true ∧ Pure w0 w) ?_ ?_
  ·by_cases q1 : a < 1
   ·refine W_region (V5 2 rfl (V3 (.int .i64 _) rfl (hI.c0 rfl) (Vp rfl (V2 rfl (V1 rfl (V1 rfl (V1 rfl (V1 rfl (V1 rfl (Vd rfl (V2 rfl (V1 rfl (V1 rfl ?_)))))))))))))
    refine V1 rfl (Vd rfl (V2 rfl (V1 rfl (V1 rfl (V1 rfl (V1 rfl (V1 rfl (Vd rfl (V4 rfl (WL_nil ?_))))))))))
    exact ⟨rfl, hI.pu⟩
   by_cases q2 : n < a
   ·refine W_region (V5 2 rfl (V3 (.int .i64 _) rfl (hI.c0 rfl) (Vn rfl (V2 rfl (V5 2 rfl (V3 (.int .i64 _) rfl (hI.c0 rfl) (V5 0 rfl (V3 (.int .i64 _) rfl (hI.c0 rfl) (Ts rfl (V8 rfl (V2 rfl (V1 rfl (V1 rfl ?_)))))))))))))
    refine V1 rfl (Vd rfl (V2 rfl (V1 rfl (V1 rfl (V1 rfl (V1 rfl (V1 rfl (Vd rfl (V4 rfl (WL_nil ?_))))))))))
    exact ⟨rfl, hI.pu⟩
   by_cases q3 : t < 1
   ·refine W_region (V5 2 rfl (V3 (.int .i64 _) rfl (hI.c0 rfl) (Vn rfl (V2 rfl (V5 2 rfl (V3 (.int .i64 _) rfl (hI.c0 rfl) (V5 0 rfl (V3 (.int .i64 _) rfl (hI.c0 rfl) (Td rfl (V8 rfl (V2 rfl (V5 3 rfl (V3 (.int .i64 _) rfl (hI.c0 rfl) ?_)))))))))))))
    refine Vp rfl (V8 rfl (V2 rfl (V1 rfl (V1 rfl (V1 rfl (V1 rfl (V1 rfl (Vd rfl (V4 rfl (WL_nil ?_))))))))))
    exact ⟨rfl, hI.pu⟩
   have q4 : n < t := by omega
   refine W_region (V5 2 rfl (V3 (.int .i64 _) rfl (hI.c0 rfl) (Vn rfl (V2 rfl (V5 2 rfl (V3 (.int .i64 _) rfl (hI.c0 rfl) (V5 0 rfl (V3 (.int .i64 _) rfl (hI.c0 rfl) (Td rfl (V8 rfl (V2 rfl (V5 3 rfl (V3 (.int .i64 _) rfl (hI.c0 rfl) ?_)))))))))))))
   refine Vn rfl (V8 rfl (V2 rfl (V5 3 rfl (V3 (.int .i64 _) rfl (hI.c0 rfl) (V5 0 rfl (V3 (.int .i64 _) rfl (hI.c0 rfl) (Ts rfl (V8 rfl (V4 rfl (WL_nil ?_))))))))))
   exact ⟨rfl, hI.pu⟩
  ·clear hI
   rintro ρ w ⟨h3, hp⟩
   refine W_cond true h3 (W_seq (W_region (Vx rfl Tryz.underlying49 rfl (Vk rfl (WL_nil ?_)))))
   refine W_ret ?_
   exact ret1 2 (.inr rfl) rfl ⟨.inr ⟨fun h => by unfold SetOk at h; omega, _, rfl⟩, hp⟩
 refine W_seq (W_region (V5 2 rfl (V3 (.int .i64 _) rfl (hI.c0 rfl) (Vn rfl (V2 rfl (V5 2 rfl (V3 (.int .i64 _) rfl (hI.c0 rfl) (V5 0 rfl (V3 (.int .i64 _) rfl (hI.c0 rfl) (Td rfl (V8 rfl (V2 rfl (V5 3 rfl ?_)))))))))))))
 refine V3 (.int .i64 _) rfl (hI.c0 rfl) (Vn rfl (V8 rfl (V2 rfl (V5 3 rfl (V3 (.int .i64 _) rfl (hI.c0 rfl) (V5 0 rfl (V3 (.int .i64 _) rfl (hI.c0 rfl) (Td rfl (V8 rfl (V4 rfl (WL_nil (W_cond false rfl (W_skip ?_)))))))))))))
 refine W_seq (W_region (Vf rfl (WL_nil ?_)))
 refine W_ret ?_
 exact ret1 2 (.inr rfl) rfl ⟨.inl ⟨by unfold SetOk; omega, rfl⟩, hI.pu⟩
def x0C : SCl := ⟨false, false, ⟨0, 0, 0, 0, 0, 0, 0⟩, false, 0, [], ⟨0, 0, 0⟩⟩
def s0 (n k a t : Nat) (b : Bool) : StS := ⟨n, k, a, t, b, fun _ _ => ⟨0, -1, 0⟩, fun _ => x0C, [], [], []⟩
def zEnt : List Value := [.int .i64 0, .int .i64 0, .int .i64 0, .int .i64 0, .int .i64 0, .int .i64 0, .int .i64 0, .int .i64 0, .int .i64 0, .int .i64 0, .int .i64 0, .int .i64 0, .int .i64 0, .int .i64 0, .int .i64 0, .int .i64 0, .int .i64 0, .int .i64 0, .int .i64 0, .int .i64 0, .int .i64 0, .int .i64 0, .int .i64 0, .int .i64 0]
theorem Inv.manyE {S : Nat → Prop} {w0 w : World} {H : List Ent} (h : Inv S w0 w H) (n : Nat) {es : Nat → Ent} (he : ∀ i, es i = Ent.nil) : Inv S w0 w (Many n es :: H) :=
 h.fresh (Pure.refl _) (Many.ok (fun i _ => by rw [he]; exact Ent.nil_ok _) (fun i j _ _ _ k hk => by rw [he] at hk; exact hk.elim)) (fun k ⟨i, _, hk⟩ => by rw [he] at hk; exact hk.elim)
/-- The nodes, as far as they are begun. -/
def ndTo (j key : Nat) (i : Nat) : List Value := if i < j * 8 + key then entL ⟨0, -1, 0⟩ else entL ⟨0, 0, 0⟩
theorem ndTo_set {n j key : Nat} (hj : j < n) (hk : key < 8) : splice (flatB (n * 8) (ndTo j key)) (0 + j * 24 + key * 3) (entL ⟨0, -1, 0⟩) = flatB (n * 8) (ndTo j (key + 1)) := by
 have h0 := nd_off j key 0
 rw [Nat.add_zero] at h0
 have hl : ∀ a b i, (ndTo a b i).length = 3 := fun a b i => by unfold ndTo; split <;> rfl
 rw [h0]
 refine flatB_splice (fun i => hl _ _ i) (fun i => hl _ _ i) (by omega) (by simp [entL]) (fun i hi => ?_) ?_
 ·unfold ndTo
  by_cases h1 : i < j * 8 + key
  ·rw [if_pos h1, if_pos (by omega)]
  ·rw [if_neg h1, if_neg (by omega)]
 ·unfold ndTo
  rw [if_pos (by omega), if_neg (by omega)]
  rfl
theorem ndTo_next {n j : Nat} : flatB (n * 8) (ndTo j 8) = flatB (n * 8) (ndTo (j + 1) 0) := flatB_congr fun i _ => by
 unfold ndTo
 rw [show j * 8 + 8 = (j + 1) * 8 + 0 by omega]
theorem nd_start (n : Nat) : flatB n (fun _ => zEnt) = flatB (n * 8) (ndTo 0 0) := by
 have h1 : flatB (n * 8) (ndTo 0 0) = flatB (n * 8) (fun _ => entL ⟨0, 0, 0⟩) := flatB_congr fun i _ => by unfold ndTo; rw [if_neg (by omega)]
 rw [h1]
 apply Array.ext_getElem?
 intro x
 by_cases hx : x < n * 24
 ·have a1 := flatB_at (f := fun _ => zEnt) (m := 24) (n := n) (fun _ => rfl) (i := x / 24) (j := x % 24) (by omega) (by omega)
  have a2 := flatB_at (f := fun _ => entL ⟨0, 0, 0⟩) (m := 3) (n := n * 8) (fun _ => rfl) (i := x / 3) (j := x % 3) (by omega) (by omega)
  rw [show x / 24 * 24 + x % 24 = x by omega] at a1
  rw [show x / 3 * 3 + x % 3 = x by omega] at a2
  rw [a1, a2]
  have e1 : ∀ (l : List Value) (i : Nat), (∀ v ∈ l, v = .int .i64 0) → i < l.length → l[i]? = some (.int .i64 0) := fun l i hl hi => by
   rw [List.getElem?_eq_getElem hi, hl _ (List.getElem_mem _)]
  rw [e1 zEnt _ (by simp [zEnt]) (by show x % 24 < 24; omega), e1 (entL ⟨0, 0, 0⟩) _ (by simp [entL]) (by show x % 3 < 3; omega)]
 ·rw [Array.getElem?_eq_none (by rw [flatB_size (m := 24) (fun _ => rfl)]; omega), Array.getElem?_eq_none (by rw [flatB_size (m := 3) (fun _ => rfl)]; omega)]
theorem nd_end {n k a t : Nat} {b : Bool} : flatB (n * 8) (ndTo n 0) = flatB (n * 8) (ndF (s0 n k a t b)) := flatB_congr fun i hi => by
 unfold ndTo
 rw [if_pos (by omega)]
 rfl
def zCl : List Value := clL x0C (.slice none 0 0)
def stZ (n k a t : Nat) (b : Bool) (nb cb : Nat) : Array Value := #[.int .i64 (n : Int), .int .i64 (k : Int), .int .i64 (a : Int), .int .i64 (t : Int), .bool b, .slice (some ⟨nb, 0, none⟩) n n, .slice (some ⟨cb, 0, none⟩) k k, .slice none 0 0, .slice none 0 0, .bool false, .slice none 0 0, .slice none 0 0]
def zL (sb nb cb : Nat) : StL := ⟨sb, nb, cb, fun _ => none, none, 0, none, 0, 0, false, [], fun _ => False, none, 0, none, 0⟩
theorem s0_parts {S : Nat → Prop} {w0 w : World} {n k a t sb nb cb : Nat} {b : Bool} (hI : Inv S w0 w [B sb 100 (stZ n k a t b nb cb), B nb 105 (flatB (n * 8) (ndTo n 0)), B cb 209 (flatB k fun _ => zCl)]) : Inv S w0 w (spt (zL sb nb cb) (s0 n k a t b)) := by
 rw [nd_end (n := n) (k := k) (a := a) (t := t) (b := b)] at hI
 have h1 := (hI.manyE k (es := cntE (zL sb nb cb) (s0 n k a t b)) (fun i => rfl)).back 3
 have h2 := (h1.fresh (Pure.refl _) (Row.nil _ 0 167 9) (fun k hk => by simp [Row] at hk)).back 4
 have h3 := (h2.fresh (Pure.refl _) (Row.nil _ 0 70 1) (fun k hk => by simp [Row] at hk)).back 5
 have h4 := (h3.fresh (Pure.refl _) (RowsE.ok (w := w) (vals := []) (D := fun _ => False) (fun _ h => h.elim) (fun v hv => by simp at hv)) (fun k hk => hk.elim)).back 6
 have h5 := (h4.fresh (Pure.refl _) (Row.nil _ 0 48 7) (fun k hk => by simp [Row] at hk)).back 7
 exact (h5.fresh (Pure.refl _) (Row.nil _ 0 102 2) (fun k hk => by simp [Row] at hk)).back 8
set_option maxHeartbeats 4000000 in
theorem new_any (n k a t : Nat) (b : Bool) (hs : SetOk n k a t) (w0 : World) :
  Calls Tryz.prog 12 #[.agg #[.int .i64 (n : Int), .int .i64 (k : Int), .int .i64 (a : Int), .int .i64 (t : Int), .bool b]] w0 fun en w' => ∃ sb nb cb, en = .returned (.tuple #[.pointer (some ⟨sb, 0, none⟩), .nilIface]) ∧ Inv (fun _ => False) w0 w' (spt (zL sb nb cb) (s0 n k a t b)) := by
 have hI := Inv.start (fun _ => False) w0
 have hs' := hs
 unfold SetOk at hs'
 refine Vm Tryz.f12.ntmps Tryz.func12 rfl ?_
 refine W_seq (W_region (T7 (.agg _) (#[_, _, _, _, _]) hI rfl ?_))
 clear hI; rintro b1 w - - hI
 refine U4 rfl (Vf rfl (WL_nil (W_seq (W_seq (W_region (Tn 5 rfl hI.g0 (V6 [.agg _] rfl Tryz.func6 rfl ?_)))))))
 refine (scheck_any n k a t b _).mono ?_
 rintro e w1 ⟨⟨_, rfl⟩ | ⟨hb, _⟩, hp⟩
 rotate_left
 ·exact absurd hs hb
 refine ⟨_, rfl, ?_⟩
 replace hI := hI.pure hp
 refine Vf rfl (WL_nil (W_seq (W_region (T3 rfl (Tc rfl Tryz.underlying29 rfl (WL_nil (W_cond false rfl (W_skip ?_))))))))
 refine W_seq_cut (fun ρ w => ∃ sb nb cb, Has ρ [(5, .pointer (some ⟨sb, 0, none⟩))] ∧ Inv (fun _ => False) w0 w [B sb 100 (stZ n k a t b nb cb), B nb 105 (flatB n fun _ => zEnt), B cb 209 (flatB k fun _ => zCl)]) ?_ ?_
 ·refine W_draw (by kernel_rfl) ?_
  refine WA_inv (T := []) hI.drew ?_
  intro Sx hSx hXS
  replace hI := hI.drew
  refine WT_take 0 rfl rfl (by kernel_rfl) (hXS _ hI) rfl (fun W hW => have hI := hSx W hW; (by exact rLdB (n := 5) rfl (by kernel_rfl) (by kernel_rfl) rfl rfl hI.g0)) ?_
  refine Vc 1 0 (hXS _ hI) rfl (V9 2 (.int .i64 _) (hXS _ hI) rfl (fun W hW => (hSx W hW).c0 rfl) (Vc 4 1 (hXS _ hI) rfl (V9 5 (.int .i64 _) (hXS _ hI) rfl (fun W hW => (hSx W hW).c0 rfl) ?_)))
  refine WT_two 3 6 rfl rfl (by kernel_rfl) rfl rfl ?_ ?_
  ·refine WL_mkZ (m := 24) (by_ := 192) (z := .agg zEnt.toArray) zEnt hI rfl rfl rfl rfl rfl rfl Tryz.underlying91 (by kernel_rfl) rfl rfl (by omega) (by omega) (by omega) ?_
   clear hI; rintro b16 w - - hI
   refine WL_nil ⟨hXS _ hI.d0, ?_⟩
   refine Vt 6 rfl ?_
   refine WL_mkZ (m := 15) (by_ := 128) (z := .agg zCl.toArray) zCl hI rfl rfl rfl rfl rfl rfl Tryz.underlying92 (by kernel_rfl) rfl rfl (by omega) (by omega) (by omega) ?_
   clear hI; rintro b19 w - - hI
   refine WL_nil ⟨hXS _ hI.d0.d0, ?_⟩
   refine Ty 7 [(0, .agg #[_, _, _, _, _]), (1, .slice _ _ _), (2, .slice _ _ _)] [_, _, _, _, _, _, _, _, _, _, _, _] (hXS _ hI.d0.d0) rfl [.int .i64 0, .int .i64 0, .int .i64 0, .int .i64 0, .bool false, .slice none 0 0, .slice none 0 0, .slice none 0 0, .slice none 0 0, .bool false, .slice none 0 0, .slice none 0 0] [0, 5, 6] rfl (fun _ _ => fun _ => by kernel_rfl) (Vt 8 rfl ?_)
   refine T7 (.agg (stZ n k a t b b16 b19)) (stZ n k a t b b16 b19) hI rfl ?_
   clear hI; rintro b21 w - - hI
   refine WL_nil ⟨hXS _ hI.d0.d0.d0, ?_⟩
   refine WT_take 9 rfl rfl (by kernel_rfl) (hXS _ hI.d0.d0.d0) rfl (fun W hW => have hI := hSx W hW; (by exact rAsgnP rfl rfl)) ?_
   refine WT_end (by kernel_rfl) ?_
   exact ⟨b21, b16, b19, ⟨rfl, trivial⟩, hI.sw1.erase 3⟩
  ·refine WL_mkZ (m := 15) (by_ := 128) (z := .agg zCl.toArray) zCl hI rfl rfl rfl rfl rfl rfl Tryz.underlying92 (by kernel_rfl) rfl rfl (by omega) (by omega) (by omega) ?_
   clear hI; rintro b19 w - - hI
   refine WL_nil ⟨hXS _ hI.d0, ?_⟩
   refine Vt 3 rfl ?_
   refine WL_mkZ (m := 24) (by_ := 192) (z := .agg zEnt.toArray) zEnt hI rfl rfl rfl rfl rfl rfl Tryz.underlying91 (by kernel_rfl) rfl rfl (by omega) (by omega) (by omega) ?_
   clear hI; rintro b16 w - - hI
   refine WL_nil ⟨hXS _ hI.d0.d0, ?_⟩
   refine Ty 7 [(0, .agg #[_, _, _, _, _]), (1, .slice _ _ _), (2, .slice _ _ _)] [_, _, _, _, _, _, _, _, _, _, _, _] (hXS _ hI.d0.d0) rfl [.int .i64 0, .int .i64 0, .int .i64 0, .int .i64 0, .bool false, .slice none 0 0, .slice none 0 0, .slice none 0 0, .slice none 0 0, .bool false, .slice none 0 0, .slice none 0 0] [0, 5, 6] rfl (fun _ _ => fun _ => by kernel_rfl) (Vt 8 rfl ?_)
   refine T7 (.agg (stZ n k a t b b16 b19)) (stZ n k a t b b16 b19) hI rfl ?_
   clear hI; rintro b21 w - - hI
   refine WL_nil ⟨hXS _ hI.d0.d0.d0, ?_⟩
   refine WT_take 9 rfl rfl (by kernel_rfl) (hXS _ hI.d0.d0.d0) rfl (fun W hW => have hI := hSx W hW; (by exact rAsgnP rfl rfl)) ?_
   refine WT_end (by kernel_rfl) ?_
   exact ⟨b21, b16, b19, ⟨rfl, trivial⟩, hI.erase 3⟩
 clear hI
 rintro ρ w ⟨sb, nb, cb, hH, hI⟩
 obtain ⟨σ, rfl⟩ := hH.open
 rw [nd_start] at hI
 refine W_seq_cut (fun ρ w => Has ρ [(5, .pointer (some ⟨sb, 0, none⟩))] ∧ Inv (fun _ => False) w0 w [B sb 100 (stZ n k a t b nb cb), B nb 105 (flatB (n * 8) (ndTo n 0)), B cb 209 (flatB k fun _ => zCl)]) ?_ ?_
 ·refine W_seq (W_region (V7 rfl (Vb rfl (V5 5 rfl (V3 (.slice _ _ _) rfl (hI.c0 rfl) (Vs rfl Tryz.underlying91 rfl (V0 rfl (WL_nil (W_block ?_)))))))))
  refine W_loop (fun ρ w => ∃ j : Nat, j ≤ n ∧ Has ρ [(27, .int .i64 (j : Int)), (26, .int .i64 (n : Int)), (5, .pointer (some ⟨sb, 0, none⟩))] ∧ Inv (fun _ => False) w0 w [B sb 100 (stZ n k a t b nb cb), B nb 105 (flatB (n * 8) (ndTo j 0)), B cb 209 (flatB k fun _ => zCl)]) (fun ρ _ => n - cnt (ρ 27))
   ⟨0, by omega, ⟨rfl, rfl, rfl, trivial⟩, hI⟩ ?_
  clear hI
  rintro ρ w ⟨j, hj, hH, hI⟩
  obtain ⟨σ, rfl⟩ := hH.open
  by_cases hjn : j < n
  rotate_left
  ·obtain rfl : j = n := by omega
   refine W_seq (W_region (Vn rfl (WL_nil (W_seq (W_cond false rfl ?_)))))
   refine W_exit ?_
   exact ⟨⟨rfl, trivial⟩, hI⟩
  refine W_seq (W_region (Vp rfl (WL_nil (W_seq (W_cond true rfl (W_skip (W_seq (W_block (W_seq (W_region (V0 rfl (Va rfl (WL_nil ?_)))))))))))))
  refine W_seq (W_region (V0 rfl (WL_nil (W_block ?_))))
  refine W_loop (fun ρ w => ∃ key : Nat, key ≤ 8 ∧ Has ρ [(30, .int .i64 (key : Int)), (6, .int .i64 (j : Int)), (27, .int .i64 (j : Int)), (26, .int .i64 (n : Int)), (5, .pointer (some ⟨sb, 0, none⟩))] ∧ Inv (fun _ => False) w0 w [B sb 100 (stZ n k a t b nb cb), B nb 105 (flatB (n * 8) (ndTo j key)), B cb 209 (flatB k fun _ => zCl)]) (fun ρ _ => 8 - cnt (ρ 30))
   ⟨0, by omega, ⟨rfl, rfl, rfl, rfl, rfl, trivial⟩, hI⟩ ?_
  clear hI
  rintro ρ w ⟨key, hk, hH, hI⟩
  obtain ⟨σ, rfl⟩ := hH.open
  by_cases hk8 : key < 8
  rotate_left
  ·obtain rfl : key = 8 := by omega
   rw [ndTo_next] at hI
   refine W_seq (W_region (Vn rfl (WL_nil (W_seq (W_cond false rfl ?_)))))
   refine W_exit ?_
   refine W_region (Vu rfl (V0 rfl (WL_nil ?_)))
   exact ⟨⟨j + 1, by omega, ⟨rfl, rfl, rfl, trivial⟩, hI⟩, by show n - ((j + 1 : Nat) : Int).toNat < n - (j : Int).toNat; omega⟩
  have hlt : ∀ i, (ndTo j key i).length = 3 := fun i => by unfold ndTo; split <;> rfl
  refine W_seq (W_region (Vp rfl (WL_nil (W_seq (W_cond true rfl (W_skip (W_seq (W_block (W_seq (W_region (V0 rfl (Va rfl (WL_nil ?_)))))))))))))
  refine W_region (V7 rfl (Vb rfl (V5 5 rfl (V3 (.slice _ _ _) rfl (hI.c0 rfl) (V0 rfl (V0 rfl (T6 [(1, .int .i64 _)] [_, _] rfl [.int .i64 0, .int .i64 0] [1] rfl (fun _ => by kernel_rfl) (T6 [(0, .agg #[_, _])] [_, _, _] rfl [.int .i64 0, .int .i64 0, .int .i64 0] [0] rfl (fun _ => by kernel_rfl) (Ti 24 rfl Tryz.underlying91 rfl ?_)))))))))
  refine WL_val rfl rfl rfl (rIdxArr (sz := 3) rfl Tryz.underlying105 (by kernel_rfl) rfl rfl rfl (by omega)) ?_
  refine WL_stA 1 rfl (u := .agg (entL ⟨0, -1, 0⟩).toArray) (vs := (entL ⟨0, -1, 0⟩).toArray) (n := 3) (j := 0 + j * 24 + key * 3) hI rfl rfl rfl rfl rfl rfl (by kernel_rfl) rfl (by rw [flatB_size hlt]; omega) rfl (ndTo_set hjn hk8) ?_
  clear hI; intro w hI
  refine WL_nil (W_region (Vu rfl (V0 rfl (WL_nil ?_))))
  exact ⟨⟨key + 1, by omega, ⟨rfl, rfl, rfl, rfl, rfl, trivial⟩, hI⟩, by show 8 - ((key + 1 : Nat) : Int).toNat < 8 - (key : Int).toNat; omega⟩
 clear hI
 rintro ρ w ⟨hH, hI⟩
 obtain ⟨σ, rfl⟩ := hH.open
 refine W_seq (W_region (V7 rfl (U4 rfl (Vf rfl (WL_nil ?_)))))
 refine W_ret ?_
 exact ret2 2 3 (.inr rfl) rfl ⟨sb, nb, cb, rfl, s0_parts hI⟩
theorem new_bad (n k a t : Int) (b : Bool) (hs : ¬ SetOk n k a t) (w0 : World) :
  Calls Tryz.prog 12 #[.agg #[.int .i64 n, .int .i64 k, .int .i64 a, .int .i64 t, .bool b]] w0 fun en w' => (∃ z : Int, en = .returned (.tuple #[.pointer none, .iface 49 (.int .i64 z)])) ∧ Pure w0 w' := by
 have hI := Inv.start (fun _ => False) w0
 refine Vm Tryz.f12.ntmps Tryz.func12 rfl ?_
 refine W_seq (W_region (T7 (.agg _) (#[_, _, _, _, _]) hI rfl ?_))
 clear hI; rintro b1 w - - hI
 refine U4 rfl (Vf rfl (WL_nil (W_seq (W_seq (W_region (Tn 5 rfl hI.g0 (V6 [.agg _] rfl Tryz.func6 rfl ?_)))))))
 refine (scheck_any n k a t b _).mono ?_
 rintro e w1 ⟨⟨hb, _⟩ | ⟨_, z, rfl⟩, hp⟩
 ·exact absurd hb hs
 refine ⟨_, rfl, ?_⟩
 replace hI := hI.pure hp
 refine Vk rfl (WL_nil (W_seq (W_region (Vo rfl (Tf rfl Tryz.underlying29 rfl (WL_nil (W_cond true rfl (W_seq (W_region (Vo rfl (U4 rfl (Vk rfl (WL_nil ?_)))))))))))))
 refine W_ret ?_
 exact ret2 2 3 (.inr rfl) rfl ⟨⟨z, rfl⟩, hI.pu⟩
theorem s0_ok {n k a t : Nat} {b : Bool} (hs : SetOk n k a t) (sb nb cb : Nat) : SOk (zL sb nb cb) (s0 n k a t b) 0 := by
 unfold SetOk at hs
 refine ⟨by show 1 ≤ n ∧ n ≤ 7; omega, by show 1 ≤ k ∧ k ≤ 8; omega, by show 1 ≤ a ∧ a ≤ n; omega, by show 1 ≤ t ∧ t ≤ n; omega, Nat.zero_le _, Nat.zero_le _, rfl, ?_, fun m hm => (by cases hm), fun c _ => ⟨Nat.le_refl _, Nat.le_refl _, fun h => (by cases h)⟩, fun c b _ h => (by cases h), fun _ _ _ _ => Nat.le_refl _⟩
 show 0 + busyN (s0 n k a t b) k ≤ 120
 have := busyN_le (s0 n k a t b) k
 omega
section
variable {P : Program} {ρ : Env} {w : World} {o : Oper} {x : Operand} {t t' e : TypeId}
theorem rSliceNilT {n c : Nat} (ho : o.op = .binOp .eql t x (.const (.slice none 0 0)) t') (ht : P.underlying t = some (.slice e)) (hx : ev ρ x = .slice none n c) : Runs P ρ o w (.bool true) := by
 have h := run_equal (P := P) (w := w) (t := t) (x := .slice none n c) (y := .slice none 0 0) (r := true) (fun d => by simp [Op.equalIn, run_underlying ht])
 simp [Runs, execOp, ho, hx, show ev ρ (.const (.slice none 0 0)) = .slice none 0 0 from rfl, eqGuard, binOp, h]
theorem rSliceNilF {n c : Nat} {p : Addr} (ho : o.op = .binOp .eql t x (.const (.slice none 0 0)) t') (ht : P.underlying t = some (.slice e)) (hx : ev ρ x = .slice (some p) n c) : Runs P ρ o w (.bool false) := by
 have h := run_equal (P := P) (w := w) (t := t) (x := .slice (some p) n c) (y := .slice none 0 0) (r := false) (fun d => by simp [Op.equalIn, run_underlying ht])
 simp [Runs, execOp, ho, hx, show ev ρ (.const (.slice none 0 0)) = .slice none 0 0 from rfl, eqGuard, binOp, h]
end
theorem evs_one (l : List Ev) : (l.flatMap evL).all (·.oneCell') = true := by
 rw [List.all_eq_true]
 intro u hu
 obtain ⟨m, _, h⟩ := List.mem_flatMap.1 hu
 simp only [evL, List.mem_cons, List.not_mem_nil, or_false] at h
 rcases h with h | h | h | h | h | h | h <;> rw [h] <;> rfl
set_option maxHeartbeats 1000000 in
theorem cloneE_any (A : Option Addr) (c : Nat) (l : List Ev) (D : Nat → Prop) (w0 : World) (h : Rd w0 D 7 (.slice A l.length c) l.length (l.flatMap evL)) (hb : l.length ≤ 1000000) :
  Calls Tryz.prog 43 #[.slice A l.length c] w0 fun en w' => ∃ A' c', en = .returned (.slice A' l.length c') ∧ Inv (fun _ => False) w0 w' [Row 0 48 7 A' l.length c' (l.flatMap evL)] := by
 obtain ⟨A1, c1, hv, hnc, hcm, hlen, hcell⟩ := h
 injection hv with e1 e2 e3
 subst e1 e3
 have hI := Inv.start (fun _ => False) w0
 refine Vm Tryz.f43.ntmps Tryz.func43 rfl ?_
 refine W_seq (W_region (Vl rfl (WL_nil ?_)))
 cases A with
 | none =>
  have hl : l = [] := by
   rcases Nat.eq_zero_or_pos l.length with h0 | h0
   ·exact List.eq_nil_of_length_eq_zero h0
   ·obtain ⟨b, o, hbo, _⟩ := hcell h0
    cases hbo
  subst hl
  refine W_seq (W_seq (W_region (Ve rfl ?_)))
  refine WL_val rfl rfl rfl (rSliceNilT rfl Tryz.underlying32 rfl) ?_
  refine WL_nil (W_cond true rfl (W_seq (W_region (Vl rfl (WL_nil ?_)))))
  refine W_ret ?_
  exact ret1 2 (.inr rfl) rfl ⟨none, 0, rfl, hI.fresh (Pure.refl _) (Row.nil _ 0 48 7) (fun k hk => by simp [Row] at hk)⟩
 | some p =>
  refine W_seq (W_seq (W_region (Ve rfl ?_)))
  refine WL_val rfl rfl rfl (rSliceNilF rfl Tryz.underlying32 rfl) ?_
  refine WL_nil (W_cond false rfl (W_skip (W_seq (W_region (Vy [] [] [] [] hI rfl Tryz.underlying32 (fun _ => by kernel_rfl) ?_)))))
  clear hI; rintro b5 w - - hI
  refine Ve rfl ?_
  replace hI := hI.u0 (e' := Row 0 48 7 (some ⟨b5, 0, none⟩) 0 0 []) (Chg.refl _ _) (Row.of_blk hI.g0 (Nat.zero_le _) (by simp) (by omega)) (fun k hk => .inl (by have : some b5 = some k := hk; injection this with this; exact this.symm))
  rcases Nat.eq_zero_or_pos l.length with h0 | h0
  ·have hl : l = [] := List.eq_nil_of_length_eq_zero h0
   subst hl
   refine WL_val rfl rfl rfl (rApp0 rfl Tryz.underlying32 (sz := 7) (by kernel_rfl) rfl rfl (Nat.le_refl _)) ?_
   refine Vl rfl (WL_nil ?_)
   refine W_ret ?_
   exact ret1 2 (.inr rfl) rfl ⟨_, _, rfl, hI⟩
  ·obtain ⟨b, o, hbo, _, hcl⟩ := hcell h0
   injection hbo with hbo
   subst hbo
   refine WL_app0 (z := .agg #[.int .i64 0, .int .i64 0, .int .i64 0, .int .i64 0, .int .i64 0, .int .i64 0, .int .i64 0]) (by_ := 56) (news := l.flatMap evL) hI rfl rfl rfl rfl rfl rfl Tryz.underlying32 (by kernel_rfl) rfl (by omega) hlen (fun k u hk => hI.oldp (hcl k u hk)) (evs_one l) (by simp; omega) (by simp; omega) (Nat.zero_le _) ?_
   clear hI; rintro A2 c2 w _ _ hI
   refine Vl rfl (WL_nil ?_)
   refine W_ret ?_
   refine ret1 2 (.inr rfl) rfl ⟨A2, c2, ?_, ?_⟩
   ·show Ending.returned (.slice A2 (0 + l.length) c2) = _; rw [Nat.zero_add]
   ·have h' : Inv (fun _ => False) w0 w [Row 0 48 7 A2 (0 + l.length) c2 ([] ++ l.flatMap evL)] := hI
    rw [Nat.zero_add, List.nil_append] at h'; exact h'
set_option maxHeartbeats 1000000 in
theorem events_any (L : StL) (s : StS) (S : Nat → Prop) (w0 : World) (hI : Inv S w0 w0 (spt L s)) (hb : s.evs.length ≤ 1000000) :
  Calls Tryz.prog 18 #[.pointer (some ⟨L.sb, 0, none⟩)] w0 fun en w' => ∃ A c, en = .returned (.slice A s.evs.length c) ∧ Inv S w0 w' (Row 0 48 7 A s.evs.length c (s.evs.flatMap evL) :: spt L s) := by
 refine Vm Tryz.f18.ntmps Tryz.func18 rfl ?_
 refine W_seq (W_region (Vl rfl (WL_nil (W_seq (W_seq (W_region (V7 rfl ?_)))))))
 refine WL_val rfl rfl rfl (rPtrEq rfl Tryz.underlying50 rfl rfl) ?_
 refine WL_nil (W_cond false rfl (W_skip ?_))
 have hz : w0.cell? ⟨L.sb, 10, none⟩ = some (.slice L.EA s.evs.length L.ec) := hI.cell 0 rfl rfl
 refine W_seq (W_region (V7 rfl (Vb rfl (V5 10 rfl (V3 (.slice _ _ _) rfl hz (V6 [.slice _ _ _] rfl Tryz.func43 rfl ?_))))))
 refine (cloneE_any L.EA L.ec s.evs (fun _ => True) _ (Rd.of_own (hI.ok _ (List.mem_of_getElem? (i := 7) rfl)).1 (fun _ _ _ => trivial)) hb).mono ?_
 rintro en w1 ⟨A, c, rfl, hJ⟩
 refine ⟨_, rfl, ?_⟩
 replace hI := hI.app1 hJ
 refine Vl rfl (WL_nil ?_)
 refine W_ret ?_
 exact ret1 2 (.inr rfl) rfl ⟨A, c, rfl, hI⟩
section
variable {P : Program} {ρ : Env} {w : World} {o : Oper} {x y : Operand} {t t' : TypeId}
theorem rQuoNN {a b : Nat} (ho : o.op = .binOp .quo t x y t') (hx : ev ρ x = .int .i64 (a : Int)) (hy : ev ρ y = .int .i64 (b : Int)) (hb : 0 < b) (ha : a ≤ 9223372036854775807) : Runs P ρ o w (.int .i64 ((a / b : Nat) : Int)) := by
 have h := rQuoW (P := P) (w := w) ho hx hy (by omega)
 have e : Int.tdiv (a : Int) (b : Int) = ((a / b : Nat) : Int) := (Int.ofNat_tdiv a b).symm
 have hq := Nat.div_le_self a b
 generalize a / b = q at e hq ⊢
 rw [e, wrap64_in (by omega) (by omega)] at h
 exact h
theorem Tt {N_ : Nat} {ops_ : Array Oper} {Q_ : XPost} {rest_ : List Oper} {d_ : Nat} {a : Nat} (b : Nat) (h0_ : @Eq _ (wantedR ops_ ρ o, o.dst, Nat.blt d_ N_, o.op, ev ρ x, ev ρ y) (true, some d_, true, .binOp .quo t x y t', .int .i64 (a : Int), .int .i64 (b : Int))) (K_ : WL P N_ ops_ Q_ rest_ (upd ρ d_ (.int .i64 ((a / b : Nat) : Int))) w) (h1_ : 0 < b := by omega) (h2_ : a ≤ 9223372036854775807 := by omega) : WL P N_ ops_ Q_ (o :: rest_) ρ w := WL_val (q1 h0_) (q1 (q2 h0_)) (q1 (q2 (q2 h0_))) (rQuoNN (b := b) (q1 (q2 (q2 (q2 h0_)))) (q1 (q2 (q2 (q2 (q2 h0_))))) (q2 (q2 (q2 (q2 (q2 h0_))))) h1_ h2_) K_
theorem rRemNN {a b : Nat} (ho : o.op = .binOp .rem t x y t') (hx : ev ρ x = .int .i64 (a : Int)) (hy : ev ρ y = .int .i64 (b : Int)) (hb : 0 < b) (ha : a ≤ 9223372036854775807) : Runs P ρ o w (.int .i64 ((a % b : Nat) : Int)) := by
 have h := rRemW (P := P) (w := w) ho hx hy (by omega)
 have e : Int.tmod (a : Int) (b : Int) = ((a % b : Nat) : Int) := (Int.ofNat_tmod a b).symm
 rw [e] at h
 exact h
theorem rSubNN {a b : Nat} (ho : o.op = .binOp .sub t x y t') (hx : ev ρ x = .int .i64 (a : Int)) (hy : ev ρ y = .int .i64 (b : Int)) (hb : b ≤ a) (ha : a ≤ 9223372036854775807) : Runs P ρ o w (.int .i64 ((a - b : Nat) : Int)) := by
 have h := rSub (P := P) (w := w) ho hx hy (by omega)
 rw [show (a : Int) - (b : Int) = ((a - b : Nat) : Int) by omega] at h
 exact h
end
theorem bools_one (l : List Bool) : (boolsV l).all (·.oneCell') = true := by simp [boolsV, Value.oneCell']
theorem boolsV_len (l : List Bool) : (boolsV l).length = l.length := by simp [boolsV]
/-- A new row joins the rows. -/
theorem Inv.rowsIn {S : Nat → Prop} {w0 w : World} {H : List Ent} {A : Option Addr} {m c : Nat} {l : List Bool} {vals : List Value} {D : Nat → Prop} (h : Inv S w0 w (Row 0 4 1 A m c (boolsV l) :: RowsE vals D :: H)) (hm : m = l.length) (hl : l.length ≤ 1000) :
  Inv S w0 w (RowsE (vals ++ [.slice A m c]) (fun k => A.map (·.block) = some k ∨ D k) :: H) := by
 subst hm
 have h0 := h.ok _ (List.mem_of_getElem? (i := 0) rfl)
 have h1 := h.ok _ (List.mem_of_getElem? (i := 1) rfl)
 refine h.join.u0 (Chg.refl _ _) (RowsE.ok (fun k hk => ?_) fun v hv => ?_) (fun k hk => .inl hk)
 ·rcases hk with hk | hk
  ·exact h0.2.1 k hk
  ·exact h1.2.1 k hk
 ·rcases List.mem_append.1 hv with hv | hv
  ·obtain ⟨l', hl', hb⟩ := h1.1.2 v hv
   exact ⟨l', Rd.mono hl' fun k hk => .inr hk, hb⟩
  ·rw [List.mem_singleton.1 hv]
   exact ⟨l, Rd.of_own h0.1 fun k hk _ => .inl (by rw [← ownBlock_slice A l.length c]; exact hk), hl⟩
set_option maxHeartbeats 1000000 in
theorem cloneB_any (A : Option Addr) (n c : Nat) (l : List Bool) (D : Nat → Prop) (w0 : World) (h : Rd w0 D 1 (.slice A n c) n (boolsV l)) (hb : l.length ≤ 1000000) :
  Calls Tryz.prog 108 #[.slice A n c] w0 fun en w' => ∃ A' c', en = .returned (.slice A' n c') ∧ n = l.length ∧ Inv (fun _ => False) w0 w' [Row 0 4 1 A' n c' (boolsV l)] := by
 obtain ⟨A1, c1, hv, hnc, hcm, hlen, hcell⟩ := h
 injection hv with e1 e2 e3
 subst e1 e3
 rw [boolsV_len, Nat.mul_one] at hlen
 subst hlen
 have hI := Inv.start (fun _ => False) w0
 refine Vm Tryz.f108.ntmps Tryz.func108 rfl ?_
 refine W_seq (W_region (Vl rfl (WL_nil ?_)))
 cases A with
 | none =>
  have hl : l = [] := by
   rcases Nat.eq_zero_or_pos l.length with h0 | h0
   ·exact List.eq_nil_of_length_eq_zero h0
   ·obtain ⟨b, o, hbo, _⟩ := hcell h0
    cases hbo
  subst hl
  refine W_seq (W_seq (W_region (Ve rfl ?_)))
  refine WL_val rfl rfl rfl (rSliceNilT rfl Tryz.underlying70 rfl) ?_
  refine WL_nil (W_cond true rfl (W_seq (W_region (Vl rfl (WL_nil ?_)))))
  refine W_ret ?_
  exact ret1 2 (.inr rfl) rfl ⟨none, 0, rfl, rfl, hI.fresh (Pure.refl _) (Row.nil _ 0 4 1) (fun k hk => by simp [Row] at hk)⟩
 | some p =>
  refine W_seq (W_seq (W_region (Ve rfl ?_)))
  refine WL_val rfl rfl rfl (rSliceNilF rfl Tryz.underlying70 rfl) ?_
  refine WL_nil (W_cond false rfl (W_skip (W_seq (W_region (Vy [] [] [] [] hI rfl Tryz.underlying70 (fun _ => by kernel_rfl) ?_)))))
  clear hI; rintro b5 w - - hI
  refine Ve rfl ?_
  replace hI := hI.u0 (e' := Row 0 4 1 (some ⟨b5, 0, none⟩) 0 0 []) (Chg.refl _ _) (Row.of_blk hI.g0 (Nat.zero_le _) (by simp) (by omega)) (fun k hk => .inl (by have : some b5 = some k := hk; injection this with this; exact this.symm))
  rcases Nat.eq_zero_or_pos l.length with h0 | h0
  ·have hl : l = [] := List.eq_nil_of_length_eq_zero h0
   subst hl
   refine WL_val rfl rfl rfl (rApp0 rfl Tryz.underlying70 (sz := 1) (by kernel_rfl) rfl rfl (Nat.le_refl _)) ?_
   refine Vl rfl (WL_nil ?_)
   refine W_ret ?_
   exact ret1 2 (.inr rfl) rfl ⟨_, _, rfl, rfl, hI⟩
  ·obtain ⟨b, o, hbo, _, hcl⟩ := hcell h0
   injection hbo with hbo
   subst hbo
   refine WL_app0 (z := .bool false) (by_ := 1) (news := boolsV l) hI rfl rfl rfl rfl rfl rfl Tryz.underlying70 (by kernel_rfl) rfl (by omega) (by rw [boolsV_len, Nat.mul_one]) (fun k u hk => hI.oldp (hcl k u hk)) (bools_one l) (by simp; omega) (by simp; omega) (Nat.zero_le _) ?_
   clear hI; rintro A2 c2 w _ _ hI
   refine Vl rfl (WL_nil ?_)
   refine W_ret ?_
   refine ret1 2 (.inr rfl) rfl ⟨A2, c2, ?_, rfl, ?_⟩
   ·show Ending.returned (.slice A2 (0 + l.length) c2) = _; rw [Nat.zero_add]
   ·have h' : Inv (fun _ => False) w0 w [Row 0 4 1 A2 (0 + l.length) c2 ([] ++ boolsV l)] := hI
    rw [Nat.zero_add, List.nil_append] at h'; exact h'
/-! ### Who can talk to whom: some answer -/
def CanF (F : Nat) (cap : List Value) (w0 : World) : Prop := ∀ (W : World) (a b : Nat), Pure w0 W → a < 7 → b < 7 → Calls Tryz.prog F ([Value.int .i64 (a : Int), Value.int .i64 (b : Int)] ++ cap).toArray W fun en w' => (∃ r, en = .returned (.bool r)) ∧ Pure W w'
set_option maxHeartbeats 1000000 in
theorem halves1_any (g n : Nat) (w0 : World) (hn : n ≤ 7) (hc : w0.cell? ⟨g, 0, none⟩ = some (.int .i64 (n : Int))) : CanF 104 [.pointer (some ⟨g, 0, none⟩)] w0 := by
 intro W a b hp ha hb
 have hI := (Inv.start (fun _ => False) w0).pure hp
 have hc := hI.oldp hc
 replace hI := Inv.start (fun _ => False) W
 refine Vm Tryz.f104.ntmps Tryz.func104 rfl ?_
 refine W_seq (W_region (V4 rfl (WL_nil (W_seq (W_region (V0 rfl (V3 (.int .i64 _) rfl (hI.oldp hc) (Tt 2 rfl ?_))))))))
 refine WL_val rfl rfl rfl (by exact rLss rfl rfl rfl) ?_
 refine V0 rfl (V3 (.int .i64 _) rfl (hI.oldp hc) (Tt 2 rfl ?_))
 refine WL_val rfl rfl rfl (by exact rLss rfl rfl rfl) ?_
 refine WL_val rfl rfl rfl (rBoolEql rfl Tryz.underlying4 rfl rfl) ?_
 refine V4 rfl (WL_nil ?_)
 refine W_ret ?_
 exact ret1 5 (.inr rfl) rfl ⟨⟨_, rfl⟩, hI.pu⟩
set_option maxHeartbeats 1000000 in
theorem bridge1_any (g n : Nat) (w0 : World) (hn : n ≤ 7) (hc : w0.cell? ⟨g, 0, none⟩ = some (.int .i64 (n : Int))) : CanF 105 [.pointer (some ⟨g, 0, none⟩)] w0 := by
 intro W a b hp ha hb
 have hI := (Inv.start (fun _ => False) w0).pure hp
 have hc := hI.oldp hc
 replace hI := Inv.start (fun _ => False) W
 refine Vm Tryz.f105.ntmps Tryz.func105 rfl ?_
 refine W_seq (W_region (V4 rfl (WL_nil ?_)))
 by_cases p : a < n / 2
 ·by_cases q : b < n / 2
  ·refine W_seq (W_region (V0 rfl (V3 (.int .i64 _) rfl (hI.oldp hc) (Tt 2 rfl (Vp rfl (V0 rfl (V3 (.int .i64 _) rfl (hI.oldp hc) (Tt 2 rfl (Vp rfl ?_)))))))))
   refine WL_val rfl rfl rfl (rBoolEql rfl Tryz.underlying4 rfl rfl) ?_
   refine V2 rfl (V1 rfl (V1 rfl (V1 rfl (V1 rfl (Vd rfl (V2 rfl (V1 rfl (V1 rfl (V1 rfl (V1 rfl (Vd rfl (V4 rfl (WL_nil ?_)))))))))))))
   refine W_ret ?_
   exact ret1 5 (.inr rfl) rfl ⟨⟨_, rfl⟩, hI.pu⟩
  ·by_cases q2 : b = n / 2
   ·refine W_seq (W_region (V0 rfl (V3 (.int .i64 _) rfl (hI.oldp hc) (Tt 2 rfl (Vp rfl (V0 rfl (V3 (.int .i64 _) rfl (hI.oldp hc) (Tt 2 rfl (Vn rfl ?_)))))))))
    refine WL_val rfl rfl rfl (rBoolEql rfl Tryz.underlying4 rfl rfl) ?_
    refine V2 rfl (V0 rfl (V3 (.int .i64 _) rfl (hI.oldp hc) (Tt 2 rfl (Vr rfl (V8 rfl (V2 rfl (V0 rfl (V3 (.int .i64 _) rfl (hI.oldp hc) (Tt 2 rfl (Vz rfl (V8 rfl (V4 rfl (WL_nil ?_)))))))))))))
    refine W_ret ?_
    exact ret1 5 (.inr rfl) rfl ⟨⟨_, rfl⟩, hI.pu⟩
   ·refine W_seq (W_region (V0 rfl (V3 (.int .i64 _) rfl (hI.oldp hc) (Tt 2 rfl (Vp rfl (V0 rfl (V3 (.int .i64 _) rfl (hI.oldp hc) (Tt 2 rfl (Vn rfl ?_)))))))))
    refine WL_val rfl rfl rfl (rBoolEql rfl Tryz.underlying4 rfl rfl) ?_
    refine V2 rfl (V0 rfl (V3 (.int .i64 _) rfl (hI.oldp hc) (Tt 2 rfl (Vr rfl (V8 rfl (V2 rfl (V0 rfl (V3 (.int .i64 _) rfl (hI.oldp hc) (Tt 2 rfl (Vr rfl (V8 rfl (V4 rfl (WL_nil ?_)))))))))))))
    refine W_ret ?_
    exact ret1 5 (.inr rfl) rfl ⟨⟨_, rfl⟩, hI.pu⟩
 ·by_cases q : b < n / 2
  ·by_cases p2 : a = n / 2
   ·refine W_seq (W_region (V0 rfl (V3 (.int .i64 _) rfl (hI.oldp hc) (Tt 2 rfl (Vn rfl (V0 rfl (V3 (.int .i64 _) rfl (hI.oldp hc) (Tt 2 rfl (Vp rfl ?_)))))))))
    refine WL_val rfl rfl rfl (rBoolEql rfl Tryz.underlying4 rfl rfl) ?_
    refine V2 rfl (V0 rfl (V3 (.int .i64 _) rfl (hI.oldp hc) (Tt 2 rfl (Vz rfl (V8 rfl (V2 rfl (V1 rfl (V1 rfl (V1 rfl (V1 rfl (Vd rfl (V4 rfl (WL_nil ?_)))))))))))))
    refine W_ret ?_
    exact ret1 5 (.inr rfl) rfl ⟨⟨_, rfl⟩, hI.pu⟩
   ·refine W_seq (W_region (V0 rfl (V3 (.int .i64 _) rfl (hI.oldp hc) (Tt 2 rfl (Vn rfl (V0 rfl (V3 (.int .i64 _) rfl (hI.oldp hc) (Tt 2 rfl (Vp rfl ?_)))))))))
    refine WL_val rfl rfl rfl (rBoolEql rfl Tryz.underlying4 rfl rfl) ?_
    refine V2 rfl (V0 rfl (V3 (.int .i64 _) rfl (hI.oldp hc) (Tt 2 rfl (Vr rfl (V8 rfl (V2 rfl (V0 rfl (V3 (.int .i64 _) rfl (hI.oldp hc) (Tt 2 rfl (Vr rfl (V8 rfl (V4 rfl (WL_nil ?_)))))))))))))
    refine W_ret ?_
    exact ret1 5 (.inr rfl) rfl ⟨⟨_, rfl⟩, hI.pu⟩
  ·refine W_seq (W_region (V0 rfl (V3 (.int .i64 _) rfl (hI.oldp hc) (Tt 2 rfl (Vn rfl (V0 rfl (V3 (.int .i64 _) rfl (hI.oldp hc) (Tt 2 rfl (Vn rfl ?_)))))))))
   refine WL_val rfl rfl rfl (rBoolEql rfl Tryz.underlying4 rfl rfl) ?_
   refine V2 rfl (V1 rfl (V1 rfl (V1 rfl (V1 rfl (Vd rfl (V2 rfl (V1 rfl (V1 rfl (V1 rfl (V1 rfl (Vd rfl (V4 rfl (WL_nil ?_)))))))))))))
   refine W_ret ?_
   exact ret1 5 (.inr rfl) rfl ⟨⟨_, rfl⟩, hI.pu⟩
set_option maxHeartbeats 1000000 in
theorem ring1_any (g n : Nat) (w0 : World) (hn : n ≤ 7) (hc : w0.cell? ⟨g, 0, none⟩ = some (.int .i64 (n : Int))) : CanF 106 [.pointer (some ⟨g, 0, none⟩)] w0 := by
 intro W a b hp ha hb
 have hI := (Inv.start (fun _ => False) w0).pure hp
 have hc := hI.oldp hc
 replace hI := Inv.start (fun _ => False) W
 refine Vm Tryz.f106.ntmps Tryz.func106 rfl ?_
 refine W_seq (W_region (V4 rfl (WL_nil (W_seq (W_region (V0 rfl (V0 rfl ?_)))))))
 refine WL_val rfl rfl rfl (by exact rSub rfl rfl rfl (by omega)) ?_
 refine V0 rfl (V0 rfl ?_)
 refine WL_val rfl rfl rfl (by exact rSub rfl rfl rfl (by omega)) ?_
 refine WL_val rfl rfl rfl (rMax rfl rfl rfl) ?_
 refine Va rfl (WL_nil (W_seq (W_region (V0 rfl (V3 (.int .i64 _) rfl (hI.oldp hc) (V0 rfl ?_))))))
 refine WL_val rfl rfl rfl (by exact rSub rfl rfl rfl (by omega)) ?_
 refine WL_val rfl rfl rfl (rMin rfl rfl rfl) ?_
 refine V3 (.int .i64 _) rfl (hI.oldp hc) ?_
 refine WL_val rfl rfl rfl (rQuoW rfl rfl rfl (by omega)) ?_
 refine WL_val rfl rfl rfl (by exact rAddW rfl rfl rfl) ?_
 refine WL_val rfl rfl rfl (rQuoW rfl rfl rfl (by omega)) ?_
 refine WL_val rfl rfl rfl (by exact rLeq rfl rfl rfl) ?_
 refine V4 rfl (WL_nil ?_)
 refine W_ret ?_
 exact ret1 5 (.inr rfl) rfl ⟨⟨_, rfl⟩, hI.pu⟩
set_option maxHeartbeats 1000000 in
theorem alone1_any (g : Nat) (who : Int) (w0 : World) (hc : w0.cell? ⟨g, 0, none⟩ = some (.int .i64 who)) : CanF 107 [.pointer (some ⟨g, 0, none⟩)] w0 := by
 intro W a b hp ha hb
 have hI := (Inv.start (fun _ => False) w0).pure hp
 have hc := hI.oldp hc
 replace hI := Inv.start (fun _ => False) W
 refine Vm Tryz.f107.ntmps Tryz.func107 rfl ?_
 refine W_seq (W_region (V4 rfl (WL_nil ?_)))
 by_cases h : (a : Int) = who
 ·refine W_seq (W_region (V0 rfl (V3 (.int .i64 _) rfl (hI.oldp hc) (U5 rfl (V2 rfl (V1 rfl (V1 rfl (V1 rfl (V8 rfl (V4 rfl (WL_nil ?_)))))))))))
  refine W_ret ?_
  exact ret1 5 (.inr rfl) rfl ⟨⟨_, rfl⟩, hI.pu⟩
 ·refine W_seq (W_region (V0 rfl (V3 (.int .i64 _) rfl (hI.oldp hc) (Tx rfl (V2 rfl (V0 rfl (V3 (.int .i64 _) rfl (hI.oldp hc) ?_)))))))
  refine WL_val rfl rfl rfl (by exact rNeq rfl rfl rfl) ?_
  refine Vd rfl (V4 rfl (WL_nil ?_))
  refine W_ret ?_
  exact ret1 5 (.inr rfl) rfl ⟨⟨_, rfl⟩, hI.pu⟩
end Go.Proofs.YthndpiopbdecfaaGreatDoor
