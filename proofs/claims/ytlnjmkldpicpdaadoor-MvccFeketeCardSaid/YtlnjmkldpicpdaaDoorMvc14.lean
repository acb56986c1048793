/- mvcc: a base that was asked (the keepers' two words). -/
import Derived.Test.YtlnjmkldpicpdaaDoorMvc13
namespace Go.Proofs.YtlnjmkldpicpdaaDoor
open Go.RowKit
set_option linter.unusedVariables false
set_option linter.unusedSimpArgs false
structure Ask where
  tx : Int
  kind : Int
  key : Int
instance : Inhabited Ask := ⟨⟨0, 0, 0⟩⟩
def askV (a : Ask) : List Value := [.int .i64 a.tx, .int .i64 a.kind, .int .i64 a.key]
theorem askV_len (a : Ask) : (askV a).length = 3 := rfl
def stepA (s : Bs) (a : Ask) : Bs := (doF s a.tx a.kind a.key).1
def runA (s : Bs) (l : List Ask) : Bs := l.foldl stepA s
theorem wf_tick {s : Bs} {cT : Nat} (hw : Wf s cT) : Wf (tick s) cT :=
  ⟨hw.olen, hw.tlen, hw.cap, hw.good, by have := hw.time0; show 0 ≤ s.time + 1; omega, fun k => by have := hw.ord k; show ((bOrd s k).length : Int) ≤ s.time + 1; omega, hw.ops⟩
theorem wf_doF {s : Bs} {cT : Nat} (hw : Wf s cT) (tx kind key : Int) : Wf (doF s tx kind key).1 cT := by
  unfold doF
  by_cases hok : OkAsk s tx kind key
  · rw [if_pos hok]
    have hi : tx.toNat < (tick s).txs.length := by have := hok.htx; show tx.toNat < s.txs.length; omega
    have h1 := wf_tick hw
    have ho := hw.ops tx.toNat
    have hk : ∀ k, ((bOrd (tick s) k).length : Int) + 1 ≤ (tick s).time := fun k => by have := hw.ord k; show ((bOrd s k).length : Int) + 1 ≤ s.time + 1; omega
    unfold actF
    by_cases k1 : kind = 1
    · rw [if_pos k1]; exact h1.setTx hi ho
    · rw [if_neg k1]
      by_cases k2 : kind = 2
      · rw [if_pos k2]; exact h1.setTx hi (by have := hok.hlen (.inl k2); show (_ ++ [_]).length ≤ 60; rw [List.length_append]; exact this)
      · rw [if_neg k2]
        by_cases k3 : kind = 3
        · rw [if_pos k3]; exact h1.setTx hi (by have := hok.hlen (.inr k3); show (_ ++ [_]).length ≤ 60; rw [List.length_append]; exact this)
        · rw [if_neg k3]
          by_cases k4 : kind = 4
          · rw [if_pos k4]
            unfold commitF
            have hs1 : Wf (setTx (tick s) tx.toNat (overT (txAt (tick s) tx.toNat))) cT := h1.setTx hi ho
            have hi1 : tx.toNat < (setTx (tick s) tx.toNat (overT (txAt (tick s) tx.toNat))).txs.length := by rw [setTx_len]; exact hi
            have hs2 := hs1.setTx (t := comT (txAt (setTx (tick s) tx.toNat (overT (txAt (tick s) tx.toNat))) tx.toNat) (tick s).time) hi1 (hs1.ops _)
            dsimp only
            by_cases hb : beatenF (setTx (tick s) tx.toNat (overT (txAt (tick s) tx.toNat))) tx.toNat = true
            · rw [if_pos hb]; exact hs1
            · rw [if_neg hb]
              by_cases hr : ((tick s).careful && roundF (setTx (setTx (tick s) tx.toNat (overT (txAt (tick s) tx.toNat))) tx.toNat (comT (txAt (setTx (tick s) tx.toNat (overT (txAt (tick s) tx.toNat))) tx.toNat) (tick s).time)) tx.toNat) = true
              · rw [if_pos hr]; exact hs2.setTx (by rw [setTx_len]; exact hi1) (hs2.ops _)
              · rw [if_neg hr]
                exact hs2.ordTo (by rw [setTx_len]; exact hi1) hk 8
          · rw [if_neg k4]; exact h1.setTx hi ho
  · rw [if_neg hok]; exact hw
theorem doF_time (s : Bs) (tx kind key : Int) : (doF s tx kind key).1.time ≤ s.time + 1 := by
  unfold doF
  split
  · unfold actF
    repeat' split
    all_goals first | exact Int.le_refl _ | skip
    unfold commitF
    dsimp only
    repeat' split
    all_goals exact Int.le_refl _
  · show s.time ≤ s.time + 1; omega
theorem runA_wf {cT : Nat} : ∀ (l : List Ask) (s : Bs), Wf s cT → Wf (runA s l) cT ∧ (runA s l).time ≤ s.time + l.length
  | [], s, h => ⟨h, by show s.time ≤ s.time + 0; omega⟩
  | a :: l, s, h => by
    have h1 := runA_wf l (stepA s a) (wf_doF h ..)
    have h2 := doF_time s a.tx a.kind a.key
    refine ⟨h1.1, Int.le_trans h1.2 ?_⟩
    show (doF s a.tx a.kind a.key).1.time + (l.length : Int) ≤ s.time + ((l.length + 1 : Nat) : Int)
    omega
theorem runA_take {s : Bs} {l : List Ask} {k : Nat} {a : Ask} (h : l[k]? = some a) : runA s (l.take (k + 1)) = stepA (runA s (l.take k)) a := by
  have hk := (List.getElem?_eq_some_iff.1 h).1
  rw [List.take_add_one, h]
  simp [runA]
def basedAsks : List Ask := [⟨0, 1, 0⟩, ⟨1, 1, 0⟩, ⟨0, 3, 0⟩, ⟨1, 3, 0⟩, ⟨0, 4, 0⟩]
theorem basedAsks_ok : ∀ k : Nat, k < 5 → (doF (runA (newS 2 false) (basedAsks.take k)) (basedAsks.getD k default).tx (basedAsks.getD k default).kind (basedAsks.getD k default).key).2 = true := by decide +kernel
theorem basedLast : (doF (runA (newS 2 false) basedAsks) 1 4 0).2 = false := by decide +kernel
theorem basedLast_ok : OkAsk (runA (newS 2 false) basedAsks) 1 4 0 := by decide +kernel
def asksR (w : World) (D : Nat → Prop) (v : Value) (l : List Ask) : Prop := Rd w D 3 v l.length (l.flatMap askV)
theorem asksR.get {w : World} {D : Nat → Prop} {A : Option Addr} {n c k : Nat} {l : List Ask} {a : Ask} (h : asksR w D (.slice A n c) l) (hk : l[k]? = some a) :
    n = l.length ∧ ∃ b f, A = some ⟨b, f, none⟩ ∧ D b ∧ w.cell? ⟨b, f + k * 3, none⟩ = some (.int .i64 a.tx) ∧ w.cell? ⟨b, f + k * 3 + 1, none⟩ = some (.int .i64 a.kind) ∧ w.cell? ⟨b, f + k * 3 + 2, none⟩ = some (.int .i64 a.key) := by
  have hl := (List.getElem?_eq_some_iff.1 hk).1
  obtain ⟨A', c', hv, h1, h2, h3, h4⟩ := h
  injection hv with e1 e2 e3
  subst e1 e2 e3
  obtain ⟨b, f, rfl, hD, hc⟩ := h4 (by omega)
  have q := fun j hj => flat_get askV_len l k j a hk hj
  refine ⟨rfl, b, f, rfl, hD, ?_, ?_, ?_⟩
  · have := hc _ _ (q 0 (by decide)); simpa using this
  · have := hc _ _ (q 1 (by decide)); rw [Nat.add_assoc]; exact this
  · have := hc _ _ (q 2 (by decide)); rw [Nat.add_assoc]; exact this
def bptI (S : Nat → Prop) (w0 w : World) (b : Nat) (s : Bs) (H : List Ent) : Prop := ∃ T cT A ca O co rest, Inv S w0 w (bpt b T cT A ca O co rest s ++ H) ∧ Wf s cT
set_option maxHeartbeats 2000000 in
theorem played_any (car : Bool) (A : Option Addr) (n c : Nat) (l : List Ask) (D : Nat → Prop) (w0 : World) (h : asksR w0 D (.slice A n c) l) (hl : l.length ≤ 80) :
    Calls Tryd.prog 7 #[.bool car, .slice A n c] w0 fun en w' => ∃ b, en = .returned (.pointer (some ⟨b, 0, none⟩)) ∧ bptI (fun _ => False) w0 w' b (runA (newS 8 car) l) [] := by
  have hn : n = l.length := by obtain ⟨_, _, hv, _⟩ := h; injection hv
  subst hn
  have hI := Inv.start (fun _ => False) w0
  refine calls_of_W (N := Tryd.f7.ntmps) Tryd.func7 rfl rfl rfl ?_
  refine W_seq ?_
  refine W_region ?_
  refine WL_val rfl rfl rfl (by first | exact rAsgnP rfl rfl | exact rAsgn rfl) ?_
  refine WL_nil ?_
  refine W_seq ?_
  refine W_region ?_
  refine WL_val rfl rfl rfl (by first | exact rMoveB rfl rfl | exact rMove rfl) ?_
  refine WL_call rfl rfl rfl (rCall (vs := [.int .i64 _, .bool _]) rfl Tryd.func17 rfl rfl rfl) ?_
  refine (new_any 8 car _ (by omega)).mono ?_
  rintro e w1 ⟨b, T, cT, rest, rfl, hwf, hI1⟩
  refine ⟨_, rfl, ?_⟩
  replace hI := hI.app hI1
  refine WL_val rfl rfl rfl (by first | exact rMoveT rfl rfl | exact rMove rfl) ?_
  refine WL_val rfl rfl rfl (rExtr rfl rfl rfl) ?_
  refine WL_val rfl rfl rfl (rExtr rfl rfl rfl) ?_
  refine WL_val rfl rfl rfl (by first | exact rAsgnP rfl rfl | exact rAsgn rfl) ?_
  refine WL_val rfl rfl rfl (by first | exact rAsgnN rfl rfl | exact rAsgnE rfl rfl | exact rAsgn rfl) ?_
  refine WL_nil ?_
  refine W_seq ?_
  refine W_seq ?_
  refine W_region ?_
  refine WL_val rfl rfl rfl (by first | exact rMoveN rfl rfl | exact rMoveE rfl rfl | exact rMove rfl) ?_
  refine WL_val rfl rfl rfl (by first | exact rIfaceNe rfl Tryd.underlying37 rfl rfl | exact rNilNe rfl Tryd.underlying37 rfl) ?_
  refine WL_val rfl rfl rfl (by first | exact rMoveB rfl rfl | exact rMove rfl) ?_
  first | refine WL_val rfl rfl rfl (by first | exact rMoveP rfl rfl | exact rMove rfl) ?_ | refine WL_skip rfl rfl rfl ?_
  first | refine WL_val rfl rfl rfl (rPtrEq rfl Tryd.underlying23 rfl rfl) ?_ | refine WL_skip rfl rfl rfl ?_
  refine WL_val rfl rfl rfl (by first | exact rPickTB rfl rfl rfl | exact rPickFB rfl rfl rfl | exact rPickB rfl rfl rfl rfl) ?_
  refine WL_nil ?_
  refine W_cond false rfl ?_
  refine W_skip ?_
  refine W_seq ?_
  refine W_seq ?_
  refine W_region ?_
  refine WL_val rfl rfl rfl (by first | exact rAsgnI rfl rfl | exact rAsgn rfl) ?_
  refine WL_nil ?_
  refine W_block ?_
  refine W_loop (fun ρ w => ∃ k : Nat, k ≤ l.length ∧ Has ρ [(7, .int .i64 ((k : Nat) : Int)), (1, .slice A l.length c), (5, .pointer (some ⟨b, 0, none⟩))] ∧ bptI (fun _ => False) w0 w b (runA (newS 8 car) (l.take k)) []) (fun ρ _ => l.length - cnt (ρ 7))
    ⟨0, by omega, ⟨rfl, rfl, rfl, trivial⟩, T, cT, _, _, _, _, rest, hI, hwf⟩ ?_
  clear hI
  rintro ρ w ⟨k, hk, hH, T, cT, A', ca, O, co, rest, hI, hwf⟩
  obtain ⟨σ, rfl⟩ := hH.open
  by_cases hkn : k < l.length
  · have hak : l[k]? = some l[k] := List.getElem?_eq_getElem hkn
    obtain ⟨-, ab, af, rfl, hDa, q0, q1, q2⟩ := h.get hak
    have htm := (runA_wf (l.take k) (newS 8 car) (Wf.new (cT := 8) (by omega) (by omega) (by omega))).2
    have htm : (runA (newS 8 car) (l.take k)).time ≤ 1000 := by
      refine Int.le_trans htm ?_
      show (0 : Int) + ((l.take k).length : Nat) ≤ 1000
      rw [List.length_take]; omega
    refine W_seq ?_
    refine W_seq ?_
    refine W_region ?_
    refine WL_val rfl rfl rfl (by first | exact rMoveI rfl rfl | exact rMove rfl) ?_
    refine WL_val rfl rfl rfl (by first | exact rMoveS rfl rfl | exact rMove rfl) ?_
    refine WL_val rfl rfl rfl (rLen rfl Tryd.underlying22 rfl) ?_
    refine WL_val rfl rfl rfl (by first | exact rLssT rfl rfl rfl (by omega) | exact rLssF rfl rfl rfl (by omega) | exact rLss rfl rfl rfl) ?_
    refine WL_nil ?_
    refine W_cond true rfl ?_
    refine W_skip ?_
    refine W_seq ?_
    refine W_block ?_
    refine W_region ?_
    refine WL_val rfl rfl rfl (by first | exact rMoveP rfl rfl | exact rMove rfl) ?_
    refine WL_val rfl rfl rfl (by first | exact rMoveS rfl rfl | exact rMove rfl) ?_
    refine WL_val rfl rfl rfl (by first | exact rMoveI rfl rfl | exact rMove rfl) ?_
    refine WL_val rfl rfl rfl (rIdx (sz := 3) rfl Tryd.underlying22 (by kernel_rfl) rfl rfl (by omega)) ?_
    refine WL_val rfl rfl rfl (by first | exact rLd3 rfl (by kernel_rfl) (by kernel_rfl) rfl (by first | exact hI.oldp q0 | exact q0 | exact hI.oldp q1 | exact q1 | exact hI.oldp q2 | exact q2) (by first | exact hI.oldp q0 | exact q0 | exact hI.oldp q1 | exact q1 | exact hI.oldp q2 | exact q2) (by first | exact hI.oldp q0 | exact q0 | exact hI.oldp q1 | exact q1 | exact hI.oldp q2 | exact q2)) ?_
    refine WL_call rfl rfl rfl (rCall (vs := [.pointer _, .agg _]) rfl Tryd.func18 rfl rfl rfl) ?_
    refine (do_any b T cT A' ca O co rest _ _ _ _ _ _ hI.from hwf htm).mono ?_
    rintro e w1 ⟨⟨A2, ca2, O2, co2, hI2⟩, v, rfl, -⟩
    refine ⟨_, rfl, ?_⟩
    replace hI := hI.turnL hI2
    refine WL_nil ?_
    refine W_region ?_
    refine WL_val rfl rfl rfl (by first | exact rMoveI rfl rfl | exact rMove rfl) ?_
    refine WL_val rfl rfl rfl (by first | exact rInc rfl rfl rfl (by omega) | exact rAdd rfl rfl rfl (by omega) | exact rAddW rfl rfl rfl) ?_
    refine WL_val rfl rfl rfl (by first | exact rAsgnI rfl rfl | exact rAsgn rfl) ?_
    refine WL_nil ?_
    refine ⟨⟨k + 1, by omega, ⟨rfl, rfl, rfl, trivial⟩, ?_⟩, by show l.length - ((k + 1 : Nat) : Int).toNat < l.length - (k : Int).toNat; omega⟩
    rw [runA_take hak]
    exact ⟨T, cT, A2, ca2, O2, co2, rest, hI, wf_doF hwf ..⟩
  · obtain rfl : k = l.length := by omega
    refine W_seq ?_
    refine W_seq ?_
    refine W_region ?_
    refine WL_val rfl rfl rfl (by first | exact rMoveI rfl rfl | exact rMove rfl) ?_
    refine WL_val rfl rfl rfl (by first | exact rMoveS rfl rfl | exact rMove rfl) ?_
    refine WL_val rfl rfl rfl (rLen rfl Tryd.underlying22 rfl) ?_
    refine WL_val rfl rfl rfl (by first | exact rLssT rfl rfl rfl (by omega) | exact rLssF rfl rfl rfl (by omega) | exact rLss rfl rfl rfl) ?_
    refine WL_nil ?_
    refine W_cond false rfl ?_
    refine W_exit ?_
    refine W_seq ?_
    refine W_region ?_
    refine WL_val rfl rfl rfl (by first | exact rMoveP rfl rfl | exact rMove rfl) ?_
    refine WL_val rfl rfl rfl (by first | exact rAsgnP rfl rfl | exact rAsgn rfl) ?_
    refine WL_nil ?_
    refine W_ret ?_
    rw [List.take_length] at hI hwf
    exact ret1 4 (.inr rfl) rfl ⟨b, rfl, T, cT, A', ca, O, co, rest, hI, hwf⟩
set_option maxHeartbeats 2000000 in
theorem based_any (w0 : World) (hg : w0.cell? ⟨0, 0, none⟩ = some (.iface 120 (.agg #[hdl 37]))) :
    Calls Tryd.prog 8 #[] w0 fun en w' => en = .returned (.bool true) ∧ Pure w0 w' := by
  have hI := Inv.start (fun _ => False) w0
  refine calls_of_W (N := Tryd.f8.ntmps) Tryd.func8 rfl rfl rfl ?_
  refine W_seq ?_
  refine W_region ?_
  refine WL_val rfl rfl rfl (by first | exact rAsgnB rfl rfl | exact rAsgn rfl) ?_
  refine WL_nil ?_
  refine W_seq ?_
  refine W_region ?_
  refine WL_call rfl rfl rfl (rCall (vs := [.int .i64 _, .bool _]) rfl Tryd.func17 rfl rfl rfl) ?_
  refine (new_any 2 false _ (by omega)).mono ?_
  rintro e w1 ⟨b, T, cT, rest, rfl, hwf, hI1⟩
  refine ⟨_, rfl, ?_⟩
  replace hI := hI.app hI1
  refine WL_val rfl rfl rfl (by first | exact rMoveT rfl rfl | exact rMove rfl) ?_
  refine WL_val rfl rfl rfl (rExtr rfl rfl rfl) ?_
  refine WL_val rfl rfl rfl (rExtr rfl rfl rfl) ?_
  refine WL_val rfl rfl rfl (by first | exact rAsgnP rfl rfl | exact rAsgn rfl) ?_
  refine WL_val rfl rfl rfl (by first | exact rAsgnN rfl rfl | exact rAsgnE rfl rfl | exact rAsgn rfl) ?_
  refine WL_nil ?_
  refine W_seq ?_
  refine W_seq ?_
  refine W_region ?_
  refine WL_val rfl rfl rfl (by first | exact rMoveN rfl rfl | exact rMoveE rfl rfl | exact rMove rfl) ?_
  refine WL_val rfl rfl rfl (by first | exact rIfaceNe rfl Tryd.underlying37 rfl rfl | exact rNilNe rfl Tryd.underlying37 rfl) ?_
  refine WL_val rfl rfl rfl (by first | exact rMoveB rfl rfl | exact rMove rfl) ?_
  first | refine WL_val rfl rfl rfl (by first | exact rMoveP rfl rfl | exact rMove rfl) ?_ | refine WL_skip rfl rfl rfl ?_
  first | refine WL_val rfl rfl rfl (rPtrEq rfl Tryd.underlying23 rfl rfl) ?_ | refine WL_skip rfl rfl rfl ?_
  refine WL_val rfl rfl rfl (by first | exact rPickTB rfl rfl rfl | exact rPickFB rfl rfl rfl | exact rPickB rfl rfl rfl rfl) ?_
  refine WL_nil ?_
  refine W_cond false rfl ?_
  refine W_skip ?_
  refine W_seq_cut (fun ρ w => ∃ T cT A ca O co rest, Has ρ [(1, .pointer (some ⟨b, 0, none⟩))] ∧ Inv (fun _ => False) w0 w (bpt b T cT A ca O co rest (runA (newS 2 false) basedAsks) ++ []) ∧ Wf (runA (newS 2 false) basedAsks) cT) ?_ ?_
  · refine W_seq ?_
    refine W_region ?_
    refine WL_val rfl rfl rfl (rBuild (qs := [(0, .int .i64 _), (1, .int .i64 _)]) (vs := [_, _, _]) [.int .i64 0, .int .i64 0, .int .i64 0] [0, 1] rfl rfl rfl (fun _ => by kernel_rfl)) ?_
    refine WL_val rfl rfl rfl (rBuild (qs := [(0, .int .i64 _), (1, .int .i64 _)]) (vs := [_, _, _]) [.int .i64 0, .int .i64 0, .int .i64 0] [0, 1] rfl rfl rfl (fun _ => by kernel_rfl)) ?_
    refine WL_val rfl rfl rfl (rBuild (qs := [(0, .int .i64 _), (1, .int .i64 _)]) (vs := [_, _, _]) [.int .i64 0, .int .i64 0, .int .i64 0] [0, 1] rfl rfl rfl (fun _ => by kernel_rfl)) ?_
    refine WL_val rfl rfl rfl (rBuild (qs := [(0, .int .i64 _), (1, .int .i64 _)]) (vs := [_, _, _]) [.int .i64 0, .int .i64 0, .int .i64 0] [0, 1] rfl rfl rfl (fun _ => by kernel_rfl)) ?_
    refine WL_val rfl rfl rfl (rBuild (qs := [(0, .int .i64 _), (1, .int .i64 _)]) (vs := [_, _, _]) [.int .i64 0, .int .i64 0, .int .i64 0] [0, 1] rfl rfl rfl (fun _ => by kernel_rfl)) ?_
    refine WL_lit (vs := [_, _, _, _, _, _, _, _, _, _, _, _, _, _, _]) (qs := [(0, .agg #[_, _, _]), (1, .agg #[_, _, _]), (2, .agg #[_, _, _]), (3, .agg #[_, _, _]), (4, .agg #[_, _, _])]) [.int .i64 0, .int .i64 0, .int .i64 0, .int .i64 0, .int .i64 0, .int .i64 0, .int .i64 0, .int .i64 0, .int .i64 0, .int .i64 0, .int .i64 0, .int .i64 0, .int .i64 0, .int .i64 0, .int .i64 0] [0, 3, 6, 9, 12] hI rfl rfl rfl rfl rfl rfl Tryd.underlying22 (fun _ => by kernel_rfl) ?_
    clear hI; rintro b20 w - - hI
    refine WL_val rfl rfl rfl (rLen rfl Tryd.underlying22 rfl) ?_
    refine WL_val rfl rfl rfl (by first | exact rMoveI rfl rfl | exact rMove rfl) ?_
    refine WL_nil ?_
    replace hI : Inv (fun _ => False) w0 w (bpt b T cT (fun _ => none) (fun _ => 0) (fun _ => none) (fun _ => 0) rest (newS 2 false) ++ [B b20 58 (basedAsks.flatMap askV).toArray]) := by
      have h0 : Inv (fun _ => False) w0 w ([B b20 58 (basedAsks.flatMap askV).toArray] ++ (bpt b T cT (fun _ => none) (fun _ => 0) (fun _ => none) (fun _ => 0) rest (newS 2 false) ++ [])) := hI
      rw [List.append_nil] at h0
      exact h0.perm List.perm_append_comm
    refine W_block ?_
    refine W_loop (fun ρ w => ∃ k : Nat, ∃ T cT A ca O co rest, k ≤ 5 ∧ Has ρ [(22, .int .i64 ((k : Nat) : Int)), (21, .int .i64 5), (20, .slice (some ⟨b20, 0, none⟩) 5 5), (1, .pointer (some ⟨b, 0, none⟩))] ∧ Inv (fun _ => False) w0 w (bpt b T cT A ca O co rest (runA (newS 2 false) (basedAsks.take k)) ++ [B b20 58 (basedAsks.flatMap askV).toArray]) ∧ Wf (runA (newS 2 false) (basedAsks.take k)) cT) (fun ρ _ => 5 - cnt (ρ 22))
      ⟨0, T, cT, _, _, _, _, rest, by omega, ⟨rfl, rfl, rfl, rfl, trivial⟩, hI, hwf⟩ ?_
    clear hI
    rintro ρ w ⟨k, T, cT, A, ca, O, co, rest, hk, hH, hI, hwf⟩
    obtain ⟨σ, rfl⟩ := hH.open
    by_cases hkn : k < 5
    · have hak : basedAsks[k]? = some (basedAsks.getD k default) := by rw [List.getD_eq_getElem?_getD, List.getElem?_eq_getElem (by exact hkn)]; rfl
      have q := fun j hj => flat_get askV_len basedAsks k j _ hak hj
      have q' : ∀ (j : Nat) (u : Value), (askV (basedAsks.getD k default))[j]? = some u → w.cell? ⟨b20, 0 + k * 3 + j, none⟩ = some u := fun j u hj => by
        rw [Nat.zero_add]
        refine hI.c4 ?_
        rw [List.getElem?_toArray, q j (by have := (List.getElem?_eq_some_iff.1 hj).1; simpa [askV] using this)]
        exact hj
      have q0 := q' 0 _ rfl
      have q1 := q' 1 _ rfl
      have q2 := q' 2 _ rfl
      rw [Nat.add_zero] at q0
      have htm := (runA_wf (basedAsks.take k) (newS 2 false) (Wf.new (cT := 8) (by omega) (by omega) (by omega))).2
      have htm : (runA (newS 2 false) (basedAsks.take k)).time ≤ 1000 := by
        refine Int.le_trans htm ?_
        show (0 : Int) + ((basedAsks.take k).length : Nat) ≤ 1000
        rw [List.length_take]; omega
      have hok := basedAsks_ok k hkn
      refine W_seq ?_
      refine W_region ?_
      refine WL_val rfl rfl rfl (by first | exact rLssT rfl rfl rfl (by omega) | exact rLssF rfl rfl rfl (by omega) | exact rLss rfl rfl rfl) ?_
      refine WL_nil ?_
      refine W_seq ?_
      refine W_cond true rfl ?_
      refine W_skip ?_
      refine W_seq ?_
      refine W_block ?_
      refine W_seq ?_
      refine W_region ?_
      refine WL_val rfl rfl rfl (rIdx (sz := 3) rfl Tryd.underlying22 (by kernel_rfl) rfl rfl (by omega)) ?_
      refine WL_val rfl rfl rfl (by first | exact rLdB (n := 3) rfl (by kernel_rfl) (by kernel_rfl) rfl rfl hI.g0 | exact rLd3 rfl (by kernel_rfl) (by kernel_rfl) rfl (by first | exact hI.c0 rfl | exact hI.oldp q0 | exact q0 | exact hI.oldp q1 | exact q1 | exact hI.oldp q2 | exact q2) (by first | exact hI.c0 rfl | exact hI.oldp q0 | exact q0 | exact hI.oldp q1 | exact q1 | exact hI.oldp q2 | exact q2) (by first | exact hI.c0 rfl | exact hI.oldp q0 | exact q0 | exact hI.oldp q1 | exact q1 | exact hI.oldp q2 | exact q2)) ?_
      refine WL_alloc (u := .agg #[.int .i64 0, .int .i64 0, .int .i64 0]) (vs := #[.int .i64 0, .int .i64 0, .int .i64 0]) hI rfl rfl rfl rfl (by kernel_rfl) rfl ?_
      clear hI; rintro b4 w - - hI
      first | refine WL_stw0 (u := .agg _) (vs := #[_, _, _]) (n := 3) hI rfl rfl rfl rfl rfl rfl (by kernel_rfl) rfl rfl rfl ?_
      clear hI; intro w hI
      refine WL_nil ?_
      refine W_seq ?_
      refine W_region ?_
      refine WL_val rfl rfl rfl (by first | exact rMoveP rfl rfl | exact rMove rfl) ?_
      refine WL_val rfl rfl rfl (by first | exact rLdB (n := 3) rfl (by kernel_rfl) (by kernel_rfl) rfl rfl hI.g0 | exact rLd3 rfl (by kernel_rfl) (by kernel_rfl) rfl (by first | exact hI.c0 rfl) (by first | exact hI.c0 rfl) (by first | exact hI.c0 rfl)) ?_
      refine WL_call rfl rfl rfl (rCall (vs := [.pointer _, .agg _]) rfl Tryd.func18 rfl rfl rfl) ?_
      replace hI := hI.d0
      refine (do_any b T cT A ca O co rest _ _ _ _ _ _ hI.from hwf htm).mono ?_
      rintro e w1 ⟨⟨A2, ca2, O2, co2, hI2⟩, v, rfl, hv⟩
      refine ⟨_, rfl, ?_⟩
      replace hI := hI.turnL hI2
      obtain rfl : v = .nilIface := by
        rcases hv with ⟨hv, _⟩ | ⟨_, hv, _⟩
        · exact hv
        · rw [hok] at hv; cases hv
      refine WL_val rfl rfl rfl (by first | exact rIfaceNe rfl Tryd.underlying37 rfl rfl | exact rNilNe rfl Tryd.underlying37 rfl) ?_
      refine WL_nil ?_
      refine W_cond false rfl ?_
      refine W_skip ?_
      refine W_region ?_
      refine WL_val rfl rfl rfl (by first | exact rInc rfl rfl rfl (by omega) | exact rAdd rfl rfl rfl (by omega) | exact rAddW rfl rfl rfl) ?_
      refine WL_val rfl rfl rfl (by first | exact rMoveI rfl rfl | exact rMove rfl) ?_
      refine WL_nil ?_
      refine ⟨⟨k + 1, T, cT, A2, ca2, O2, co2, rest, by omega, ⟨rfl, rfl, rfl, rfl, trivial⟩, ?_, ?_⟩, by show 5 - ((k + 1 : Nat) : Int).toNat < 5 - (k : Int).toNat; omega⟩
      · rw [runA_take hak]; exact hI
      · rw [runA_take hak]; exact wf_doF hwf ..
    · obtain rfl : k = 5 := by omega
      refine W_seq ?_
      refine W_region ?_
      refine WL_val rfl rfl rfl (by first | exact rLssT rfl rfl rfl (by omega) | exact rLssF rfl rfl rfl (by omega) | exact rLss rfl rfl rfl) ?_
      refine WL_nil ?_
      refine W_seq ?_
      refine W_cond false rfl ?_
      refine W_exit ?_
      exact ⟨T, cT, A, ca, O, co, rest, ⟨rfl, trivial⟩, hI.erase 4, hwf⟩
  clear hI
  rintro ρ w ⟨T, cT, A, ca, O, co, rest, hH, hI, hwf⟩
  obtain ⟨σ, rfl⟩ := hH.open
  have htm : (runA (newS 2 false) basedAsks).time ≤ 1000 := by decide +kernel
  refine W_seq ?_
  refine W_region ?_
  refine WL_val rfl rfl rfl (by first | exact rMoveP rfl rfl | exact rMove rfl) ?_
  refine WL_val rfl rfl rfl (rBuild (qs := [(0, .int .i64 _), (1, .int .i64 _)]) (vs := [_, _, _]) [.int .i64 0, .int .i64 0, .int .i64 0] [0, 1] rfl rfl rfl (fun _ => by kernel_rfl)) ?_
  refine WL_call rfl rfl rfl (rCall (vs := [.pointer _, .agg _]) rfl Tryd.func18 rfl rfl rfl) ?_
  refine (do_any b T cT A ca O co rest _ _ _ _ _ _ hI.from hwf htm).mono ?_
  rintro e w1 ⟨⟨A2, ca2, O2, co2, hI2⟩, v, rfl, hv⟩
  refine ⟨_, rfl, ?_⟩
  replace hI := hI.turnL hI2
  obtain rfl : v = .iface 59 (.int .i64 12) := by
    rcases hv with ⟨_, hv⟩ | ⟨_, _, hv⟩
    · rw [basedLast] at hv; cases hv
    · exact hv basedLast_ok
  refine WL_call rfl rfl rfl (rCall (vs := [_]) rfl Tryd.func19 rfl rfl rfl) ?_
  refine (tell_any _ 12 _ (.inl rfl) (hI.oldp hg)).mono ?_
  rintro e w1 ⟨rfl, hp⟩
  refine ⟨_, rfl, ?_⟩
  replace hI := hI.pure hp
  refine WL_val rfl rfl rfl (by first | exact rEqlT rfl rfl rfl (by omega) | exact rEqlF rfl rfl rfl (by omega) | exact rEql rfl rfl rfl) ?_
  refine WL_val rfl rfl rfl (by first | exact rAsgnB rfl rfl | exact rAsgn rfl) ?_
  refine WL_nil ?_
  refine W_ret ?_
  exact ret1 0 (.inr rfl) rfl ⟨rfl, hI.pu⟩
end Go.Proofs.YtlnjmkldpicpdaaDoor
