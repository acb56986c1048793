/- GenLimits: a limit is one; one alone behind none gives what it gives. -/
import Derived.Test.YtlhmldjgmbcocaaDoorGenA
import Derived.Test.YtlhmldjgmbcocaaDoorPick
namespace Go.Proofs.YtlhmldjgmbcocaaDoor
open Go.RowKit
set_option linter.unusedVariables false
set_option linter.unusedSimpArgs false
theorem dg_lt {n : Nat} (h : n < 10) : dgN n = [UInt8.ofNat (48 + n)] := if_pos h
theorem dg_ge {n : Nat} (h : 10 ≤ n) (h2 : n < 30) : dgN n = dgN (n / 10) ++ dgN (n % 10) := by
  rw [dg_lt (show n / 10 < 10 by omega), dg_lt (show n % 10 < 10 by omega)]
  unfold dgN
  rw [if_neg (by omega)]
  rfl
set_option maxHeartbeats 1000000 in
theorem digit_any (n : Nat) (hn : n < 10) (w0 : World) : Calls Tryd.prog 7 #[.int .i64 (n : Int)] w0 fun e w' => e = .returned (strV (dgN n)) ∧ Pure w0 w' := by
  have hI := Inv.start (fun _ => False) w0
  rw [dg_lt hn]
  refine calls_of_W (N := Tryd.f7.ntmps) Tryd.func7 rfl rfl rfl ?_
  refine W_seq ?_
  refine W_region ?_
  refine WL_val rfl rfl rfl (by first | exact rAsgnStr rfl rfl | exact rAsgn rfl) ?_
  refine WL_nil ?_
  refine W_seq ?_
  refine W_seq ?_
  refine W_region ?_
  refine WL_val rfl rfl rfl (by first | exact rMoveI rfl rfl | exact rMove rfl) ?_
  refine WL_val rfl rfl rfl (by first | exact rLssT rfl rfl rfl (by omega) | exact rLssF rfl rfl rfl (by omega) | exact rLss rfl rfl rfl) ?_
  refine WL_nil ?_
  refine W_cond true rfl ?_
  have h48 : IntKind.u8.wrap (48 + (n : Int)) = ((UInt8.ofNat (48 + n)).toNat : Int) := by
    rw [UInt8.toNat_ofNat', Nat.mod_eq_of_lt (by omega)]
    simp [IntKind.wrap, IntKind.signed, IntKind.bits]; omega
  refine W_seq ?_
  refine W_region ?_
  refine WL_val rfl rfl rfl (by first | exact rMoveI rfl rfl | exact rMove rfl) ?_
  refine WL_val rfl rfl rfl (by first | exact rInc rfl rfl rfl (by omega) | exact rAdd rfl rfl rfl (by omega) | exact rAddW rfl rfl rfl) ?_
  refine WL_val rfl rfl rfl (rConvW rfl Tryd.underlying3 Tryd.underlying5 rfl) ?_
  refine WL_lit (vs := [_]) (qs := [(0, .int .u8 _)]) [.int .u8 0] [0] hI rfl rfl rfl rfl rfl rfl Tryd.underlying27 (fun _ => by kernel_rfl) ?_
  clear hI; rintro b8 w - - hI
  refine WL_val rfl rfl rfl (rBytesStrL [UInt8.ofNat (48 + n)] rfl Tryd.underlying27 Tryd.underlying5 Tryd.underlying9 rfl rfl (fun j v hj => by match j, hj with | 0, hj => cases hj; rw [← h48]; exact hI.c0 rfl)) ?_
  refine WL_val rfl rfl rfl (by first | exact rAsgnStr rfl rfl | exact rAsgn rfl) ?_
  refine WL_nil ?_
  refine W_ret ?_
  exact ret1 2 (.inr rfl) rfl ⟨rfl, hI.pu⟩
set_option maxHeartbeats 1000000 in
theorem digits_any (n : Nat) (hn : n < 30) (w0 : World) : Calls Tryd.prog 7 #[.int .i64 (n : Int)] w0 fun e w' => e = .returned (strV (dgN n)) ∧ Pure w0 w' := by
  by_cases h10 : n < 10
  · exact digit_any n h10 w0
  have hI := Inv.start (fun _ => False) w0
  rw [dg_ge (by omega) hn]
  have q1 : IntKind.i64.wrap ((n : Int).tdiv 10) = ((n / 10 : Nat) : Int) := by rw [Int.tdiv_eq_ediv_of_nonneg (by omega), wrap64_in (by omega) (by omega)]; omega
  have q2 : ((n : Int).tmod 10) = ((n % 10 : Nat) : Int) := by rw [Int.tmod_eq_emod_of_nonneg (by omega)]; omega
  have l1 : (dgN (n / 10)).length = 1 := by rw [dg_lt (by omega)]; rfl
  have l2 : (dgN (n % 10)).length = 1 := by rw [dg_lt (by omega)]; rfl
  have d1 : ∀ w, Calls Tryd.prog 7 #[.int .i64 (IntKind.i64.wrap ((n : Int).tdiv 10))] w fun e w' => e = .returned (strV (dgN (n / 10))) ∧ Pure w w' := fun w => by rw [q1]; exact digit_any (n / 10) (by omega) w
  have d2 : ∀ w, Calls Tryd.prog 7 #[.int .i64 ((n : Int).tmod 10)] w fun e w' => e = .returned (strV (dgN (n % 10))) ∧ Pure w w' := fun w => by rw [q2]; exact digit_any (n % 10) (by omega) w
  generalize dgN (n / 10) = D1 at l1 d1 ⊢
  generalize dgN (n % 10) = D2 at l2 d2 ⊢
  refine calls_of_W (N := Tryd.f7.ntmps) Tryd.func7 rfl rfl rfl ?_
  refine W_seq ?_
  refine W_region ?_
  refine WL_val rfl rfl rfl (by first | exact rAsgnStr rfl rfl | exact rAsgn rfl) ?_
  refine WL_nil ?_
  refine W_seq ?_
  refine W_seq ?_
  refine W_region ?_
  refine WL_val rfl rfl rfl (by first | exact rMoveI rfl rfl | exact rMove rfl) ?_
  refine WL_val rfl rfl rfl (by first | exact rLssT rfl rfl rfl (by omega) | exact rLssF rfl rfl rfl (by omega) | exact rLss rfl rfl rfl) ?_
  refine WL_nil ?_
  refine W_cond false rfl ?_
  refine W_skip ?_
  refine W_seq ?_
  refine W_region ?_
  refine WL_val rfl rfl rfl (by first | exact rMoveI rfl rfl | exact rMove rfl) ?_
  refine WL_val rfl rfl rfl (rQuoW rfl rfl rfl (by omega)) ?_
  refine WL_call rfl rfl rfl (rCall (vs := [.int .i64 _]) rfl Tryd.func7 rfl rfl rfl) ?_
  refine (d1 _).mono ?_
  rintro e w1 ⟨rfl, hp⟩
  refine ⟨_, rfl, ?_⟩
  replace hI := hI.pure hp
  refine WL_val rfl rfl rfl (by first | exact rMoveI rfl rfl | exact rMove rfl) ?_
  refine WL_val rfl rfl rfl (rRemW rfl rfl rfl (by omega)) ?_
  refine WL_call rfl rfl rfl (rCall (vs := [.int .i64 _]) rfl Tryd.func7 rfl rfl rfl) ?_
  refine (d2 _).mono ?_
  rintro e w2 ⟨rfl, hp2⟩
  refine ⟨_, rfl, ?_⟩
  replace hI := hI.pure hp2
  refine WL_val rfl rfl rfl (rStrAdd rfl rfl rfl (by first | omega | (simp only [List.length_append, List.length_cons, List.length_nil]; omega))) ?_
  refine WL_val rfl rfl rfl (by first | exact rAsgnStr rfl rfl | exact rAsgn rfl) ?_
  refine WL_nil ?_
  refine W_ret ?_
  exact ret1 2 (.inr rfl) rfl ⟨rfl, hI.pu⟩
theorem lim_pos (n : Nat) (bs : List UInt8) : limText n bs = ([108, 105, 109, 105, 116, 32] ++ dgN n ++ [32]) ++ bs := by simp [limText, tLimit]
theorem dgN_len (n : Nat) : (dgN n).length ≤ 2 := by unfold dgN; split <;> simp
theorem dgN_pos (n : Nat) : 0 < (dgN n).length := by unfold dgN; split <;> simp
theorem bytes_get (l : List UInt8) {j : Nat} {v : UInt8} (h : l[j]? = some v) : (bytesL l)[j]? = some (.int .u8 (v.toNat : Int)) := by simp [bytesL, h]
theorem flatMap_take {α : Type} {s : Nat} {f : α → List Value} (hf : ∀ a, (f a).length = s) : ∀ (l : List α) (k : Nat), (l.flatMap f).take (k * s) = (l.take k).flatMap f
  | [], k => by simp
  | a :: l, 0 => by simp
  | a :: l, k + 1 => by
    rw [List.flatMap_cons, List.take_succ_cons, List.flatMap_cons, ← flatMap_take hf l k, List.take_append, hf, Nat.succ_mul, List.take_of_length_le (by rw [hf]; omega)]
    congr 2
    omega
theorem Inv.winBytes {S : Nat → Prop} {w0 w : World} {H : List Ent} {e n c : Nat} {A : Option Addr} {l : List UInt8} (hI : Inv S w0 w (Win e 1 A n c ([] ++ bytesL l) :: H)) (hl : 0 < l.length) : ∃ g o, A = some ⟨g, o, none⟩ ∧ ∀ (j : Nat) (v : UInt8), l[j]? = some v → w.cell? ⟨g, o + j, none⟩ = some (.int .u8 (v.toNat : Int)) := by
  rw [List.nil_append] at hI
  obtain ⟨g, o, hA, -⟩ := hI.winGet (bytes_get l (List.getElem?_eq_getElem hl))
  refine ⟨g, o, hA, fun j v hj => ?_⟩
  obtain ⟨g', o', hA', h⟩ := hI.winGet (bytes_get l hj)
  rw [hA] at hA'
  injection hA' with hA'
  injection hA' with h1 h2
  subst h1 h2
  exact h
set_option maxHeartbeats 8000000 in
theorem law_any (bs : List UInt8) (A : Option Addr) (len cp : Nat) (nums : List Int) (D : Nat → Prop) (n0 : Int) (w0 : World) (hG : NumG w0) (hN : Ints w0 D (.slice A len cp) nums) :
    Calls Tryd.prog 3 #[strV bs, .slice A len cp, .int .i64 n0] w0 fun e w' => e = .returned (.bool true) ∧ Pure w0 w' := by
  have hI := Inv.start (fun _ => False) w0
  refine calls_of_W (N := Tryd.f3.ntmps) Tryd.func3 rfl rfl rfl ?_
  refine W_seq ?_
  refine W_region ?_
  refine WL_val rfl rfl rfl (by first | exact rAsgnB rfl rfl | exact rAsgn rfl) ?_
  refine WL_nil ?_
  by_cases hl : 500 < bs.length
  · refine W_seq ?_
    refine W_seq ?_
    refine W_region ?_
    refine WL_val rfl rfl rfl (by first | exact rMoveStr rfl rfl | exact rMove rfl) ?_
    refine WL_val rfl rfl rfl (rStrLen rfl Tryd.underlying9 rfl) ?_
    refine WL_val rfl rfl rfl (by first | exact rGtrT rfl rfl rfl (by omega) | exact rGtrF rfl rfl rfl (by omega) | exact rGtr rfl rfl rfl) ?_
    refine WL_val rfl rfl rfl (by first | exact rMoveB rfl rfl | exact rMove rfl) ?_
    refine WL_skip rfl rfl rfl ?_
    refine WL_skip rfl rfl rfl ?_
    refine WL_skip rfl rfl rfl ?_
    refine WL_val rfl rfl rfl (by first | exact rPickTB rfl rfl rfl | exact rPickFB rfl rfl rfl | exact rPickB rfl rfl rfl rfl) ?_
    refine WL_nil ?_
    refine W_cond true rfl ?_
    refine W_seq ?_
    refine W_region ?_
    refine WL_val rfl rfl rfl (by first | exact rAsgnB rfl rfl | exact rAsgn rfl) ?_
    refine WL_nil ?_
    refine W_ret ?_
    exact ret1 6 (.inr rfl) rfl ⟨rfl, hI.pu⟩
  by_cases hl2 : 100 < len
  · refine W_seq ?_
    refine W_seq ?_
    refine W_region ?_
    refine WL_val rfl rfl rfl (by first | exact rMoveStr rfl rfl | exact rMove rfl) ?_
    refine WL_val rfl rfl rfl (rStrLen rfl Tryd.underlying9 rfl) ?_
    refine WL_val rfl rfl rfl (by first | exact rGtrT rfl rfl rfl (by omega) | exact rGtrF rfl rfl rfl (by omega) | exact rGtr rfl rfl rfl) ?_
    refine WL_val rfl rfl rfl (by first | exact rMoveB rfl rfl | exact rMove rfl) ?_
    first | refine WL_val rfl rfl rfl (by first | exact rMoveS rfl rfl | exact rMove rfl) ?_ | refine WL_skip rfl rfl rfl ?_
    first | refine WL_val rfl rfl rfl (rLen rfl Tryd.underlying22 rfl) ?_ | refine WL_skip rfl rfl rfl ?_
    first | refine WL_val rfl rfl rfl (by first | exact rGtrT rfl rfl rfl (by omega) | exact rGtrF rfl rfl rfl (by omega) | exact rGtr rfl rfl rfl) ?_ | refine WL_skip rfl rfl rfl ?_
    refine WL_val rfl rfl rfl (by first | exact rPickTB rfl rfl rfl | exact rPickFB rfl rfl rfl | exact rPickB rfl rfl rfl rfl) ?_
    refine WL_nil ?_
    refine W_cond true rfl ?_
    refine W_seq ?_
    refine W_region ?_
    refine WL_val rfl rfl rfl (by first | exact rAsgnB rfl rfl | exact rAsgn rfl) ?_
    refine WL_nil ?_
    refine W_ret ?_
    exact ret1 6 (.inr rfl) rfl ⟨rfl, hI.pu⟩
  refine W_seq ?_
  refine W_seq ?_
  refine W_region ?_
  refine WL_val rfl rfl rfl (by first | exact rMoveStr rfl rfl | exact rMove rfl) ?_
  refine WL_val rfl rfl rfl (rStrLen rfl Tryd.underlying9 rfl) ?_
  refine WL_val rfl rfl rfl (by first | exact rGtrT rfl rfl rfl (by omega) | exact rGtrF rfl rfl rfl (by omega) | exact rGtr rfl rfl rfl) ?_
  refine WL_val rfl rfl rfl (by first | exact rMoveB rfl rfl | exact rMove rfl) ?_
  first | refine WL_val rfl rfl rfl (by first | exact rMoveS rfl rfl | exact rMove rfl) ?_ | refine WL_skip rfl rfl rfl ?_
  first | refine WL_val rfl rfl rfl (rLen rfl Tryd.underlying22 rfl) ?_ | refine WL_skip rfl rfl rfl ?_
  first | refine WL_val rfl rfl rfl (by first | exact rGtrT rfl rfl rfl (by omega) | exact rGtrF rfl rfl rfl (by omega) | exact rGtr rfl rfl rfl) ?_ | refine WL_skip rfl rfl rfl ?_
  refine WL_val rfl rfl rfl (by first | exact rPickTB rfl rfl rfl | exact rPickFB rfl rfl rfl | exact rPickB rfl rfl rfl rfl) ?_
  refine WL_nil ?_
  refine W_cond false rfl ?_
  refine W_skip ?_
  have hpn := pickN_lt n0 (n := 30) (by omega)
  refine W_seq ?_
  refine W_region ?_
  refine WL_val rfl rfl rfl (by first | exact rMoveI rfl rfl | exact rMove rfl) ?_
  refine WL_call rfl rfl rfl (rCall (vs := [.int .i64 _, .int .i64 _]) rfl Tryd.func5 rfl rfl rfl) ?_
  refine (pick_any n0 30 _ (by omega) (by omega)).mono ?_
  rintro e w1 ⟨rfl, rfl⟩
  refine ⟨_, rfl, ?_⟩
  refine WL_val rfl rfl rfl (by first | exact rAsgnI rfl rfl | exact rAsgn rfl) ?_
  refine WL_nil ?_
  generalize pickN n0 30 = n at hpn ⊢
  have hdl := dgN_len n
  have hll : (limText n bs).length ≤ 1000 := by simp only [limText, tLimit, List.length_append, List.length_cons, List.length_nil]; omega
  have hka := ktake_any bs A len cp nums D 60 w0 hG hN (by omega) (by omega)
  have hkb : ∀ w, Pure w0 w → _ := fun w hp => ktake_any (limText n bs) A len cp nums D 60 w (hG.chg (Pure.chg hp (fun _ => False)) NoG.none) (hN.pure hp) (by omega) (by omega)
  cases hx : parsedT bs with
  | none =>
    refine W_seq ?_
    refine W_region ?_
    refine WL_val rfl rfl rfl (by first | exact rMoveStr rfl rfl | exact rMove rfl) ?_
    refine WL_val rfl rfl rfl (by first | exact rMoveS rfl rfl | exact rMove rfl) ?_
    refine WL_call rfl rfl rfl (rCall (vs := [.string _, .slice _ _ _, .int .i64 _]) rfl Tryd.func6 rfl rfl rfl) ?_
    refine hka.mono ?_
    rintro e w1 (⟨cs, A', c', ⟨g, g', u', h, -⟩, -⟩ | ⟨-, rfl, hp⟩)
    · rw [hx] at h; cases h
    refine ⟨_, rfl, ?_⟩
    replace hI := hI.pure hp
    refine WL_val rfl rfl rfl (by first | exact rMoveT rfl rfl | exact rMove rfl) ?_
    refine WL_val rfl rfl rfl (rExtr rfl rfl rfl) ?_
    refine WL_val rfl rfl rfl (rExtr rfl rfl rfl) ?_
    refine WL_val rfl rfl rfl (by first | exact rAsgnS rfl rfl | exact rAsgn rfl) ?_
    refine WL_val rfl rfl rfl (by first | exact rAsgnB rfl rfl | exact rAsgn rfl) ?_
    refine WL_nil ?_
    refine W_seq ?_
    refine W_region ?_
    refine WL_val rfl rfl rfl (by first | exact rMoveStr rfl rfl | exact rMove rfl) ?_
    refine WL_val rfl rfl rfl (rStrAdd rfl rfl rfl (by first | omega | (simp only [List.length_append, List.length_cons, List.length_nil]; omega))) ?_
    refine WL_val rfl rfl rfl (by first | exact rAsgnStr rfl rfl | exact rAsgn rfl) ?_
    refine WL_nil ?_
    refine W_seq_cut (fun ρ w => Has ρ [(0, strV bs), (1, .slice A len cp), (2, .int .i64 (n : Int)), (7, .slice none 0 0), (8, .bool false), (9, strV (limText n bs))] ∧ Inv (fun _ => False) w0 w []) ?_ ?_
    · rcases Nat.eq_zero_or_pos n with hn0 | hn0
      · subst hn0
        refine W_seq ?_
        refine W_region ?_
        refine WL_val rfl rfl rfl (by first | exact rMoveI rfl rfl | exact rMove rfl) ?_
        refine WL_val rfl rfl rfl (by first | exact rGtrT rfl rfl rfl (by omega) | exact rGtrF rfl rfl rfl (by omega) | exact rGtr rfl rfl rfl) ?_
        refine WL_nil ?_
        refine W_cond false rfl ?_
        refine W_skip ?_
        exact ⟨⟨rfl, rfl, rfl, rfl, rfl, rfl, trivial⟩, hI⟩
      · refine W_seq ?_
        refine W_region ?_
        refine WL_val rfl rfl rfl (by first | exact rMoveI rfl rfl | exact rMove rfl) ?_
        refine WL_val rfl rfl rfl (by first | exact rGtrT rfl rfl rfl (by omega) | exact rGtrF rfl rfl rfl (by omega) | exact rGtr rfl rfl rfl) ?_
        refine WL_nil ?_
        refine W_cond true rfl ?_
        refine W_region ?_
        refine WL_lit (vs := []) (qs := []) [] [] hI rfl rfl rfl rfl rfl rfl Tryd.underlying27 (fun _ => by kernel_rfl) ?_
        clear hI; rintro b34 w - - hI
        refine WL_val rfl rfl rfl (by first | exact rMoveI rfl rfl | exact rMove rfl) ?_
        refine WL_call rfl rfl rfl (rCall (vs := [.int .i64 _]) rfl Tryd.func7 rfl rfl rfl) ?_
        refine (digits_any n hpn _).mono ?_
        rintro e wd ⟨rfl, hpd⟩
        refine ⟨_, rfl, ?_⟩
        replace hI := (hI.pure hpd).winNil
        refine WL_appW (z := .int .u8 0) (by_ := 1) _ hI rfl rfl rfl rfl rfl rfl Tryd.underlying27 (by kernel_rfl) rfl (by omega) (src_str Tryd.underlying9 (dgN n)) (by omega) (by omega) ?_
        clear hI
        intro A37 c37 w _ _ hI
        obtain ⟨g37, o37, rfl, hc37⟩ := hI.winBytes (dgN_pos n)
        refine WL_val rfl rfl rfl (rBytesStrL (dgN n) rfl Tryd.underlying27 Tryd.underlying5 Tryd.underlying9 rfl (Nat.zero_add _).symm hc37) ?_
        refine WL_val rfl rfl rfl (rStrAdd (l := [108, 105, 109, 105, 116, 32]) rfl rfl rfl (by simp only [List.length_cons, List.length_nil]; omega)) ?_
        refine WL_val rfl rfl rfl (rStrAdd (l := [108, 105, 109, 105, 116, 32] ++ dgN n) (m := [32]) rfl rfl rfl (by simp only [List.length_append, List.length_cons, List.length_nil]; omega)) ?_
        refine WL_val rfl rfl rfl (by first | exact rMoveStr rfl rfl | exact rMove rfl) ?_
        refine WL_val rfl rfl rfl (rStrAdd (l := [108, 105, 109, 105, 116, 32] ++ dgN n ++ [32]) rfl rfl rfl (by simp only [List.length_append, List.length_cons, List.length_nil]; omega)) ?_
        refine WL_val rfl rfl rfl (by first | exact rAsgnStr rfl rfl | exact rAsgn rfl) ?_
        refine WL_nil ?_
        exact ⟨⟨rfl, rfl, rfl, rfl, rfl, congrArg strV (lim_pos n bs).symm, trivial⟩, hI.d0⟩
    clear hI
    rintro ρ w ⟨hH, hI⟩
    obtain ⟨σ, rfl⟩ := hH.open
    refine W_seq_cut (fun ρ w => Has ρ [(7, .slice none 0 0), (8, .bool false)] ∧ Inv (fun _ => False) w0 w []) ?_ ?_
    · refine W_region ?_
      refine WL_val rfl rfl rfl (by first | exact rMoveStr rfl rfl | exact rMove rfl) ?_
      refine WL_val rfl rfl rfl (by first | exact rMoveS rfl rfl | exact rMove rfl) ?_
      refine WL_call rfl rfl rfl (rCall (vs := [.string _, .slice _ _ _, .int .i64 _]) rfl Tryd.func6 rfl rfl rfl) ?_
      refine (hkb _ hI.pu).mono ?_
      intro e w1 hk
      have hk' : (∃ A' m c' ok, e = .returned (.tuple #[.slice A' m c', .bool ok])) ∧ Pure w w1 := by
        rcases hk with ⟨cs, A', c', -, rfl, hJ⟩ | ⟨-, rfl, hp⟩
        · exact ⟨⟨_, _, _, _, rfl⟩, hJ.pu⟩
        · exact ⟨⟨_, _, _, _, rfl⟩, hp⟩
      obtain ⟨⟨Ab, mb, cb, ok, rfl⟩, hp⟩ := hk'
      refine ⟨_, rfl, ?_⟩
      replace hI := hI.pure hp
      refine WL_val rfl rfl rfl (by first | exact rMoveT rfl rfl | exact rMove rfl) ?_
      refine WL_val rfl rfl rfl (rExtr rfl rfl rfl) ?_
      refine WL_val rfl rfl rfl (rExtr rfl rfl rfl) ?_
      refine WL_val rfl rfl rfl (by first | exact rAsgnS rfl rfl | exact rAsgn rfl) ?_
      refine WL_val rfl rfl rfl (by first | exact rAsgnB rfl rfl | exact rAsgn rfl) ?_
      refine WL_nil ?_
      exact ⟨⟨rfl, rfl, trivial⟩, hI⟩
    clear hI
    rintro ρ w ⟨hH, hI⟩
    obtain ⟨σ, rfl⟩ := hH.open
    refine W_seq ?_
    refine W_seq ?_
    refine W_region ?_
    refine WL_call rfl rfl rfl (rCall (vs := []) rfl Tryd.func8 rfl rfl rfl) ?_
    refine (made_any _ (hG.chg hI.chg NoG.none)).mono ?_
    rintro e wm ⟨rfl, hpm⟩
    refine ⟨_, rfl, ?_⟩
    replace hI := hI.pure hpm
    refine WL_val rfl rfl rfl (by first | exact rNotT rfl rfl | exact rNotF rfl rfl | exact rNot rfl rfl) ?_
    refine WL_val rfl rfl rfl (by first | exact rMoveB rfl rfl | exact rMove rfl) ?_
    first | refine WL_val rfl rfl rfl (by first | exact rMoveB rfl rfl | exact rMove rfl) ?_ | refine WL_skip rfl rfl rfl ?_
    first | refine WL_val rfl rfl rfl (by first | exact rNotT rfl rfl | exact rNotF rfl rfl | exact rNot rfl rfl) ?_ | refine WL_skip rfl rfl rfl ?_
    refine WL_val rfl rfl rfl (by first | exact rPickTB rfl rfl rfl | exact rPickFB rfl rfl rfl | exact rPickB rfl rfl rfl rfl) ?_
    refine WL_val rfl rfl rfl (by first | exact rMoveB rfl rfl | exact rMove rfl) ?_
    refine WL_skip rfl rfl rfl ?_
    refine WL_skip rfl rfl rfl ?_
    refine WL_val rfl rfl rfl (by first | exact rPickTB rfl rfl rfl | exact rPickFB rfl rfl rfl | exact rPickB rfl rfl rfl rfl) ?_
    refine WL_nil ?_
    refine W_cond true rfl ?_
    refine W_seq ?_
    refine W_region ?_
    refine WL_call rfl rfl rfl (rCall (vs := []) rfl Tryd.func8 rfl rfl rfl) ?_
    refine (made_any _ (hG.chg hI.chg NoG.none)).mono ?_
    rintro e wm ⟨rfl, hpm⟩
    refine ⟨_, rfl, ?_⟩
    replace hI := hI.pure hpm
    refine WL_val rfl rfl rfl (by first | exact rMoveB rfl rfl | exact rMove rfl) ?_
    first | refine WL_val rfl rfl rfl (by first | exact rMoveB rfl rfl | exact rMove rfl) ?_ | refine WL_skip rfl rfl rfl ?_
    first | refine WL_val rfl rfl rfl (by first | exact rMoveB rfl rfl | exact rMove rfl) ?_ | refine WL_skip rfl rfl rfl ?_
    first | refine WL_val rfl rfl rfl (by first | exact rMoveS rfl rfl | exact rMove rfl) ?_ | refine WL_skip rfl rfl rfl ?_
    first | refine WL_val rfl rfl rfl (rLen rfl Tryd.underlying24 rfl) ?_ | refine WL_skip rfl rfl rfl ?_
    first | refine WL_val rfl rfl rfl (by first | exact rEqlT rfl rfl rfl (by omega) | exact rEqlF rfl rfl rfl (by omega) | exact rEql rfl rfl rfl) ?_ | refine WL_skip rfl rfl rfl ?_
    first | refine WL_val rfl rfl rfl (by first | exact rPickTB rfl rfl rfl | exact rPickFB rfl rfl rfl | exact rPickB rfl rfl rfl rfl) ?_ | refine WL_skip rfl rfl rfl ?_
    refine WL_val rfl rfl rfl (by first | exact rPickTB rfl rfl rfl | exact rPickFB rfl rfl rfl | exact rPickB rfl rfl rfl rfl) ?_
    refine WL_val rfl rfl rfl (by first | exact rAsgnB rfl rfl | exact rAsgn rfl) ?_
    refine WL_nil ?_
    refine W_ret ?_
    exact ret1 6 (.inr rfl) rfl ⟨rfl, hI.pu⟩
  | some g =>
    refine W_seq ?_
    refine W_region ?_
    refine WL_val rfl rfl rfl (by first | exact rMoveStr rfl rfl | exact rMove rfl) ?_
    refine WL_val rfl rfl rfl (by first | exact rMoveS rfl rfl | exact rMove rfl) ?_
    refine WL_call rfl rfl rfl (rCall (vs := [.string _, .slice _ _ _, .int .i64 _]) rfl Tryd.func6 rfl rfl rfl) ?_
    refine hka.mono ?_
    rintro e w1 (⟨ca, Aa, cca, ⟨g', g1, u1, h, hTa⟩, rfl, hJ⟩ | ⟨h, -⟩)
    rotate_left
    · rw [hx] at h; cases h
    rw [hx] at h
    cases h
    refine ⟨_, rfl, ?_⟩
    replace hI := hI.app1 hJ
    clear hJ
    refine WL_val rfl rfl rfl (by first | exact rMoveT rfl rfl | exact rMove rfl) ?_
    refine WL_val rfl rfl rfl (rExtr rfl rfl rfl) ?_
    refine WL_val rfl rfl rfl (rExtr rfl rfl rfl) ?_
    refine WL_val rfl rfl rfl (by first | exact rAsgnS rfl rfl | exact rAsgn rfl) ?_
    refine WL_val rfl rfl rfl (by first | exact rAsgnB rfl rfl | exact rAsgn rfl) ?_
    refine WL_nil ?_
    refine W_seq ?_
    refine W_region ?_
    refine WL_val rfl rfl rfl (by first | exact rMoveStr rfl rfl | exact rMove rfl) ?_
    refine WL_val rfl rfl rfl (rStrAdd rfl rfl rfl (by first | omega | (simp only [List.length_append, List.length_cons, List.length_nil]; omega))) ?_
    refine WL_val rfl rfl rfl (by first | exact rAsgnStr rfl rfl | exact rAsgn rfl) ?_
    refine WL_nil ?_
    refine W_seq_cut (fun ρ w => Has ρ [(0, strV bs), (1, .slice A len cp), (2, .int .i64 (n : Int)), (7, .slice Aa ca.length cca), (8, .bool true), (9, strV (limText n bs))] ∧ Inv (fun _ => False) w0 w [Row 0 45 3 Aa ca.length cca (ca.flatMap caL)]) ?_ ?_
    · rcases Nat.eq_zero_or_pos n with hn0 | hn0
      · subst hn0
        refine W_seq ?_
        refine W_region ?_
        refine WL_val rfl rfl rfl (by first | exact rMoveI rfl rfl | exact rMove rfl) ?_
        refine WL_val rfl rfl rfl (by first | exact rGtrT rfl rfl rfl (by omega) | exact rGtrF rfl rfl rfl (by omega) | exact rGtr rfl rfl rfl) ?_
        refine WL_nil ?_
        refine W_cond false rfl ?_
        refine W_skip ?_
        exact ⟨⟨rfl, rfl, rfl, rfl, rfl, rfl, trivial⟩, hI⟩
      · refine W_seq ?_
        refine W_region ?_
        refine WL_val rfl rfl rfl (by first | exact rMoveI rfl rfl | exact rMove rfl) ?_
        refine WL_val rfl rfl rfl (by first | exact rGtrT rfl rfl rfl (by omega) | exact rGtrF rfl rfl rfl (by omega) | exact rGtr rfl rfl rfl) ?_
        refine WL_nil ?_
        refine W_cond true rfl ?_
        refine W_region ?_
        refine WL_lit (vs := []) (qs := []) [] [] hI rfl rfl rfl rfl rfl rfl Tryd.underlying27 (fun _ => by kernel_rfl) ?_
        clear hI; rintro b34 w - - hI
        refine WL_val rfl rfl rfl (by first | exact rMoveI rfl rfl | exact rMove rfl) ?_
        refine WL_call rfl rfl rfl (rCall (vs := [.int .i64 _]) rfl Tryd.func7 rfl rfl rfl) ?_
        refine (digits_any n hpn _).mono ?_
        rintro e wd ⟨rfl, hpd⟩
        refine ⟨_, rfl, ?_⟩
        replace hI := (hI.pure hpd).winNil
        refine WL_appW (z := .int .u8 0) (by_ := 1) _ hI rfl rfl rfl rfl rfl rfl Tryd.underlying27 (by kernel_rfl) rfl (by omega) (src_str Tryd.underlying9 (dgN n)) (by omega) (by omega) ?_
        clear hI
        intro A37 c37 w _ _ hI
        obtain ⟨g37, o37, rfl, hc37⟩ := hI.winBytes (dgN_pos n)
        refine WL_val rfl rfl rfl (rBytesStrL (dgN n) rfl Tryd.underlying27 Tryd.underlying5 Tryd.underlying9 rfl (Nat.zero_add _).symm hc37) ?_
        refine WL_val rfl rfl rfl (rStrAdd (l := [108, 105, 109, 105, 116, 32]) rfl rfl rfl (by simp only [List.length_cons, List.length_nil]; omega)) ?_
        refine WL_val rfl rfl rfl (rStrAdd (l := [108, 105, 109, 105, 116, 32] ++ dgN n) (m := [32]) rfl rfl rfl (by simp only [List.length_append, List.length_cons, List.length_nil]; omega)) ?_
        refine WL_val rfl rfl rfl (by first | exact rMoveStr rfl rfl | exact rMove rfl) ?_
        refine WL_val rfl rfl rfl (rStrAdd (l := [108, 105, 109, 105, 116, 32] ++ dgN n ++ [32]) rfl rfl rfl (by simp only [List.length_append, List.length_cons, List.length_nil]; omega)) ?_
        refine WL_val rfl rfl rfl (by first | exact rAsgnStr rfl rfl | exact rAsgn rfl) ?_
        refine WL_nil ?_
        exact ⟨⟨rfl, rfl, rfl, rfl, rfl, congrArg strV (lim_pos n bs).symm, trivial⟩, hI.d0⟩
    clear hI
    rintro ρ w ⟨hH, hI⟩
    obtain ⟨σ, rfl⟩ := hH.open
    cases hy : parsedT (limText n bs) with
    | none =>
      refine W_seq ?_
      refine W_region ?_
      refine WL_val rfl rfl rfl (by first | exact rMoveStr rfl rfl | exact rMove rfl) ?_
      refine WL_val rfl rfl rfl (by first | exact rMoveS rfl rfl | exact rMove rfl) ?_
      refine WL_call rfl rfl rfl (rCall (vs := [.string _, .slice _ _ _, .int .i64 _]) rfl Tryd.func6 rfl rfl rfl) ?_
      refine (hkb _ hI.pu).mono ?_
      rintro e w2 (⟨cs, A', c', ⟨g, g', u', h, -⟩, -⟩ | ⟨-, rfl, hp⟩)
      · rw [hy] at h; cases h
      refine ⟨_, rfl, ?_⟩
      replace hI := hI.pure hp
      refine WL_val rfl rfl rfl (by first | exact rMoveT rfl rfl | exact rMove rfl) ?_
      refine WL_val rfl rfl rfl (rExtr rfl rfl rfl) ?_
      refine WL_val rfl rfl rfl (rExtr rfl rfl rfl) ?_
      refine WL_val rfl rfl rfl (by first | exact rAsgnS rfl rfl | exact rAsgn rfl) ?_
      refine WL_val rfl rfl rfl (by first | exact rAsgnB rfl rfl | exact rAsgn rfl) ?_
      refine WL_nil ?_
      refine W_seq ?_
      refine W_seq ?_
      refine W_region ?_
      refine WL_call rfl rfl rfl (rCall (vs := []) rfl Tryd.func8 rfl rfl rfl) ?_
      refine (made_any _ (hG.chg hI.chg NoG.none)).mono ?_
      rintro e wm ⟨rfl, hpm⟩
      refine ⟨_, rfl, ?_⟩
      replace hI := hI.pure hpm
      refine WL_val rfl rfl rfl (by first | exact rNotT rfl rfl | exact rNotF rfl rfl | exact rNot rfl rfl) ?_
      refine WL_val rfl rfl rfl (by first | exact rMoveB rfl rfl | exact rMove rfl) ?_
      first | refine WL_val rfl rfl rfl (by first | exact rMoveB rfl rfl | exact rMove rfl) ?_ | refine WL_skip rfl rfl rfl ?_
      first | refine WL_val rfl rfl rfl (by first | exact rNotT rfl rfl | exact rNotF rfl rfl | exact rNot rfl rfl) ?_ | refine WL_skip rfl rfl rfl ?_
      refine WL_val rfl rfl rfl (by first | exact rPickTB rfl rfl rfl | exact rPickFB rfl rfl rfl | exact rPickB rfl rfl rfl rfl) ?_
      refine WL_val rfl rfl rfl (by first | exact rMoveB rfl rfl | exact rMove rfl) ?_
      first | refine WL_val rfl rfl rfl (by first | exact rMoveB rfl rfl | exact rMove rfl) ?_ | refine WL_skip rfl rfl rfl ?_
      first | refine WL_val rfl rfl rfl (by first | exact rNotT rfl rfl | exact rNotF rfl rfl | exact rNot rfl rfl) ?_ | refine WL_skip rfl rfl rfl ?_
      refine WL_val rfl rfl rfl (by first | exact rPickTB rfl rfl rfl | exact rPickFB rfl rfl rfl | exact rPickB rfl rfl rfl rfl) ?_
      refine WL_nil ?_
      refine W_cond true rfl ?_
      refine W_seq ?_
      refine W_region ?_
      refine WL_call rfl rfl rfl (rCall (vs := []) rfl Tryd.func8 rfl rfl rfl) ?_
      refine (made_any _ (hG.chg hI.chg NoG.none)).mono ?_
      rintro e wm ⟨rfl, hpm⟩
      refine ⟨_, rfl, ?_⟩
      replace hI := hI.pure hpm
      refine WL_val rfl rfl rfl (by first | exact rMoveB rfl rfl | exact rMove rfl) ?_
      first | refine WL_val rfl rfl rfl (by first | exact rMoveB rfl rfl | exact rMove rfl) ?_ | refine WL_skip rfl rfl rfl ?_
      first | refine WL_val rfl rfl rfl (by first | exact rMoveB rfl rfl | exact rMove rfl) ?_ | refine WL_skip rfl rfl rfl ?_
      first | refine WL_val rfl rfl rfl (by first | exact rMoveS rfl rfl | exact rMove rfl) ?_ | refine WL_skip rfl rfl rfl ?_
      first | refine WL_val rfl rfl rfl (rLen rfl Tryd.underlying24 rfl) ?_ | refine WL_skip rfl rfl rfl ?_
      first | refine WL_val rfl rfl rfl (by first | exact rEqlT rfl rfl rfl (by omega) | exact rEqlF rfl rfl rfl (by omega) | exact rEql rfl rfl rfl) ?_ | refine WL_skip rfl rfl rfl ?_
      first | refine WL_val rfl rfl rfl (by first | exact rPickTB rfl rfl rfl | exact rPickFB rfl rfl rfl | exact rPickB rfl rfl rfl rfl) ?_ | refine WL_skip rfl rfl rfl ?_
      refine WL_val rfl rfl rfl (by first | exact rPickTB rfl rfl rfl | exact rPickFB rfl rfl rfl | exact rPickB rfl rfl rfl rfl) ?_
      refine WL_val rfl rfl rfl (by first | exact rAsgnB rfl rfl | exact rAsgn rfl) ?_
      refine WL_nil ?_
      refine W_ret ?_
      exact ret1 6 (.inr rfl) rfl ⟨rfl, hI.pu⟩
    | some gb =>
      refine W_seq ?_
      refine W_region ?_
      refine WL_val rfl rfl rfl (by first | exact rMoveStr rfl rfl | exact rMove rfl) ?_
      refine WL_val rfl rfl rfl (by first | exact rMoveS rfl rfl | exact rMove rfl) ?_
      refine WL_call rfl rfl rfl (rCall (vs := [.string _, .slice _ _ _, .int .i64 _]) rfl Tryd.func6 rfl rfl rfl) ?_
      refine (hkb _ hI.pu).mono ?_
      rintro e w2 (⟨cb, Ab, ccb, ⟨g', g2, u2, h, hTb⟩, rfl, hJ⟩ | ⟨h, -⟩)
      rotate_left
      · rw [hy] at h; cases h
      rw [hy] at h
      cases h
      refine ⟨_, rfl, ?_⟩
      replace hI := hI.app1 hJ
      clear hJ
      refine WL_val rfl rfl rfl (by first | exact rMoveT rfl rfl | exact rMove rfl) ?_
      refine WL_val rfl rfl rfl (rExtr rfl rfl rfl) ?_
      refine WL_val rfl rfl rfl (rExtr rfl rfl rfl) ?_
      refine WL_val rfl rfl rfl (by first | exact rAsgnS rfl rfl | exact rAsgn rfl) ?_
      refine WL_val rfl rfl rfl (by first | exact rAsgnB rfl rfl | exact rAsgn rfl) ?_
      refine WL_nil ?_
      refine W_seq ?_
      refine W_seq ?_
      refine W_region ?_
      refine WL_call rfl rfl rfl (rCall (vs := []) rfl Tryd.func8 rfl rfl rfl) ?_
      refine (made_any _ (hG.chg hI.chg NoG.none)).mono ?_
      rintro e wm ⟨rfl, hpm⟩
      refine ⟨_, rfl, ?_⟩
      replace hI := hI.pure hpm
      refine WL_val rfl rfl rfl (by first | exact rNotT rfl rfl | exact rNotF rfl rfl | exact rNot rfl rfl) ?_
      refine WL_val rfl rfl rfl (by first | exact rMoveB rfl rfl | exact rMove rfl) ?_
      first | refine WL_val rfl rfl rfl (by first | exact rMoveB rfl rfl | exact rMove rfl) ?_ | refine WL_skip rfl rfl rfl ?_
      first | refine WL_val rfl rfl rfl (by first | exact rNotT rfl rfl | exact rNotF rfl rfl | exact rNot rfl rfl) ?_ | refine WL_skip rfl rfl rfl ?_
      refine WL_val rfl rfl rfl (by first | exact rPickTB rfl rfl rfl | exact rPickFB rfl rfl rfl | exact rPickB rfl rfl rfl rfl) ?_
      refine WL_val rfl rfl rfl (by first | exact rMoveB rfl rfl | exact rMove rfl) ?_
      first | refine WL_val rfl rfl rfl (by first | exact rMoveB rfl rfl | exact rMove rfl) ?_ | refine WL_skip rfl rfl rfl ?_
      first | refine WL_val rfl rfl rfl (by first | exact rNotT rfl rfl | exact rNotF rfl rfl | exact rNot rfl rfl) ?_ | refine WL_skip rfl rfl rfl ?_
      refine WL_val rfl rfl rfl (by first | exact rPickTB rfl rfl rfl | exact rPickFB rfl rfl rfl | exact rPickB rfl rfl rfl rfl) ?_
      refine WL_nil ?_
      refine W_cond false rfl ?_
      refine W_skip ?_
      obtain rfl := parsed_lim hpn (parsedT_some hx) (parsedT_some hy)
      have hcb := Tk.limit hTb hTa
      have hbn : cb.length = min n ca.length := by rw [hcb, List.length_take]
      have hcb2 : cb = ca.take cb.length := by rw [hbn, ← List.take_take, List.take_length]; exact hcb
      have hbl : cb.length ≤ ca.length := by omega
      obtain ⟨_, _, hvb, hb1, hb2⟩ := (CasA.of_row hI).form
      injection hvb with _ _ hvb
      subst hvb
      obtain ⟨_, _, hva, ha1, ha2⟩ := (CasA.of_row hI.d0).form
      injection hva with _ _ hva
      subst hva
      have hsab : ∀ (w' : World) (H : List Ent), Inv (fun _ => False) w0 w' (Row 0 45 3 Ab cb.length ccb (cb.flatMap caL) :: Row 0 45 3 Aa ca.length cca (ca.flatMap caL) :: H) →
          Calls Tryd.prog 9 #[.slice Ab cb.length ccb, .slice Aa cb.length cca] w' fun e w'' => e = .returned (.bool true) ∧ Pure w' w'' := fun w' H hI => by
        have h1 : CasA w' Aa cb.length cca cb := by
          have h2 := Rd.take (CasA.of_row hI.d0) (k := cb.length) (c' := cca) hbl (by omega) (Nat.le_refl _)
          unfold CasA
          have e1 : (ca.flatMap caL).take (cb.length * 3) = cb.flatMap caL := by
            rw [flatMap_take caL_len, ← hcb2]
          rw [e1] at h2
          exact h2
        have h3 := same_any Ab Aa cb.length cb.length ccb cca cb cb w' (CasA.of_row hI) h1 rfl rfl
        rw [decide_eq_true rfl] at h3
        exact h3
      have hkc : ∀ w, Pure w0 w → _ := fun w hp => ktake_any (thenText bs) A len cp nums D 60 w (hG.chg (Pure.chg hp (fun _ => False)) NoG.none) (hN.pure hp) (by simp only [thenText, tThen, List.length_append, List.length_cons, List.length_nil]; omega) (by omega)
      cases hz : parsedT (thenText bs) with
      | none =>
        refine W_seq ?_
        refine W_region ?_
        refine WL_val rfl rfl rfl (by first | exact rMoveStr rfl rfl | exact rMove rfl) ?_
        refine WL_val rfl rfl rfl (rStrAdd rfl rfl rfl (by first | omega | (simp only [List.length_append, List.length_cons, List.length_nil]; omega))) ?_
        refine WL_val rfl rfl rfl (rStrAdd rfl rfl rfl (by first | omega | (simp only [List.length_append, List.length_cons, List.length_nil]; omega))) ?_
        refine WL_val rfl rfl rfl (by first | exact rMoveS rfl rfl | exact rMove rfl) ?_
        refine WL_call rfl rfl rfl (rCall (vs := [.string _, .slice _ _ _, .int .i64 _]) rfl Tryd.func6 rfl rfl rfl) ?_
        refine (hkc _ hI.pu).mono ?_
        rintro e w2 (⟨cs, A', c', ⟨g, g', u', h, -⟩, -⟩ | ⟨-, rfl, hp⟩)
        · rw [hz] at h; cases h
        refine ⟨_, rfl, ?_⟩
        replace hI := hI.pure hp
        refine WL_val rfl rfl rfl (by first | exact rMoveT rfl rfl | exact rMove rfl) ?_
        refine WL_val rfl rfl rfl (rExtr rfl rfl rfl) ?_
        refine WL_val rfl rfl rfl (rExtr rfl rfl rfl) ?_
        refine WL_val rfl rfl rfl (by first | exact rAsgnS rfl rfl | exact rAsgn rfl) ?_
        refine WL_val rfl rfl rfl (by first | exact rAsgnB rfl rfl | exact rAsgn rfl) ?_
        refine WL_nil ?_
        refine W_seq ?_
        refine W_region ?_
        refine WL_val rfl rfl rfl (by first | exact rMoveS rfl rfl | exact rMove rfl) ?_
        refine WL_val rfl rfl rfl (rLen rfl Tryd.underlying24 rfl) ?_
        refine WL_val rfl rfl rfl (by first | exact rMoveI rfl rfl | exact rMove rfl) ?_
        refine WL_val rfl rfl rfl (by first | exact rMoveS rfl rfl | exact rMove rfl) ?_
        refine WL_val rfl rfl rfl (rLen rfl Tryd.underlying24 rfl) ?_
        refine WL_val rfl rfl rfl (rMin rfl rfl rfl) ?_
        refine WL_val rfl rfl rfl (by first | exact rEqlT rfl rfl rfl (by omega) | exact rEqlF rfl rfl rfl (by omega) | exact rEql rfl rfl rfl) ?_
        refine WL_val rfl rfl rfl (by first | exact rMoveB rfl rfl | exact rMove rfl) ?_
        first | refine WL_val rfl rfl rfl (by first | exact rMoveS rfl rfl | exact rMove rfl) ?_ | refine WL_skip rfl rfl rfl ?_
        first | refine WL_val rfl rfl rfl (by first | exact rMoveS rfl rfl | exact rMove rfl) ?_ | refine WL_skip rfl rfl rfl ?_
        first | refine WL_val rfl rfl rfl (by first | exact rMoveS rfl rfl | exact rMove rfl) ?_ | refine WL_skip rfl rfl rfl ?_
        first | refine WL_val rfl rfl rfl (rLen rfl Tryd.underlying24 rfl) ?_ | refine WL_skip rfl rfl rfl ?_
        first | refine WL_val rfl rfl rfl (rSliceTo (sz := 3) rfl Tryd.underlying24 (by kernel_rfl) rfl rfl (by omega)) ?_ | refine WL_skip rfl rfl rfl ?_
        refine WL_call rfl rfl rfl (rCall (vs := [.slice _ _ _, .slice _ _ _]) rfl Tryd.func9 rfl rfl rfl) ?_
        refine (hsab _ _ hI).mono ?_
        rintro e w3 ⟨rfl, hp3⟩
        refine ⟨_, rfl, ?_⟩
        replace hI := hI.pure hp3
        refine WL_val rfl rfl rfl (by first | exact rPickTB rfl rfl rfl | exact rPickFB rfl rfl rfl | exact rPickB rfl rfl rfl rfl) ?_
        refine WL_val rfl rfl rfl (by first | exact rMoveB rfl rfl | exact rMove rfl) ?_
        first | refine WL_val rfl rfl rfl (by first | exact rMoveB rfl rfl | exact rMove rfl) ?_ | refine WL_skip rfl rfl rfl ?_
        first | refine WL_val rfl rfl rfl (by first | exact rNotT rfl rfl | exact rNotF rfl rfl | exact rNot rfl rfl) ?_ | refine WL_skip rfl rfl rfl ?_
        first | refine WL_val rfl rfl rfl (by first | exact rMoveB rfl rfl | exact rMove rfl) ?_ | refine WL_skip rfl rfl rfl ?_
        refine WL_skip rfl rfl rfl ?_
        refine WL_skip rfl rfl rfl ?_
        refine WL_skip rfl rfl rfl ?_
        first | refine WL_val rfl rfl rfl (by first | exact rPickTB rfl rfl rfl | exact rPickFB rfl rfl rfl | exact rPickB rfl rfl rfl rfl) ?_ | refine WL_skip rfl rfl rfl ?_
        refine WL_val rfl rfl rfl (by first | exact rPickTB rfl rfl rfl | exact rPickFB rfl rfl rfl | exact rPickB rfl rfl rfl rfl) ?_
        refine WL_val rfl rfl rfl (by first | exact rAsgnB rfl rfl | exact rAsgn rfl) ?_
        refine WL_nil ?_
        refine W_ret ?_
        exact ret1 6 (.inr rfl) rfl ⟨rfl, hI.pu⟩
      | some gc =>
        refine W_seq ?_
        refine W_region ?_
        refine WL_val rfl rfl rfl (by first | exact rMoveStr rfl rfl | exact rMove rfl) ?_
        refine WL_val rfl rfl rfl (rStrAdd rfl rfl rfl (by first | omega | (simp only [List.length_append, List.length_cons, List.length_nil]; omega))) ?_
        refine WL_val rfl rfl rfl (rStrAdd rfl rfl rfl (by first | omega | (simp only [List.length_append, List.length_cons, List.length_nil]; omega))) ?_
        refine WL_val rfl rfl rfl (by first | exact rMoveS rfl rfl | exact rMove rfl) ?_
        refine WL_call rfl rfl rfl (rCall (vs := [.string _, .slice _ _ _, .int .i64 _]) rfl Tryd.func6 rfl rfl rfl) ?_
        refine (hkc _ hI.pu).mono ?_
        rintro e w2 (⟨cc, Ac, ccc, ⟨g', g3, u3, h, hTc⟩, rfl, hJ⟩ | ⟨h, -⟩)
        rotate_left
        · rw [hz] at h; cases h
        rw [hz] at h
        cases h
        refine ⟨_, rfl, ?_⟩
        replace hI := hI.app1 hJ
        clear hJ
        refine WL_val rfl rfl rfl (by first | exact rMoveT rfl rfl | exact rMove rfl) ?_
        refine WL_val rfl rfl rfl (rExtr rfl rfl rfl) ?_
        refine WL_val rfl rfl rfl (rExtr rfl rfl rfl) ?_
        refine WL_val rfl rfl rfl (by first | exact rAsgnS rfl rfl | exact rAsgn rfl) ?_
        refine WL_val rfl rfl rfl (by first | exact rAsgnB rfl rfl | exact rAsgn rfl) ?_
        refine WL_nil ?_
        obtain rfl := parsed_then (parsedT_some hx) (parsedT_some hz)
        obtain rfl := Tk.one hTc hTa
        refine W_seq ?_
        refine W_region ?_
        refine WL_val rfl rfl rfl (by first | exact rMoveS rfl rfl | exact rMove rfl) ?_
        refine WL_val rfl rfl rfl (rLen rfl Tryd.underlying24 rfl) ?_
        refine WL_val rfl rfl rfl (by first | exact rMoveI rfl rfl | exact rMove rfl) ?_
        refine WL_val rfl rfl rfl (by first | exact rMoveS rfl rfl | exact rMove rfl) ?_
        refine WL_val rfl rfl rfl (rLen rfl Tryd.underlying24 rfl) ?_
        refine WL_val rfl rfl rfl (rMin rfl rfl rfl) ?_
        refine WL_val rfl rfl rfl (by first | exact rEqlT rfl rfl rfl (by omega) | exact rEqlF rfl rfl rfl (by omega) | exact rEql rfl rfl rfl) ?_
        refine WL_val rfl rfl rfl (by first | exact rMoveB rfl rfl | exact rMove rfl) ?_
        first | refine WL_val rfl rfl rfl (by first | exact rMoveS rfl rfl | exact rMove rfl) ?_ | refine WL_skip rfl rfl rfl ?_
        first | refine WL_val rfl rfl rfl (by first | exact rMoveS rfl rfl | exact rMove rfl) ?_ | refine WL_skip rfl rfl rfl ?_
        first | refine WL_val rfl rfl rfl (by first | exact rMoveS rfl rfl | exact rMove rfl) ?_ | refine WL_skip rfl rfl rfl ?_
        first | refine WL_val rfl rfl rfl (rLen rfl Tryd.underlying24 rfl) ?_ | refine WL_skip rfl rfl rfl ?_
        first | refine WL_val rfl rfl rfl (rSliceTo (sz := 3) rfl Tryd.underlying24 (by kernel_rfl) rfl rfl (by omega)) ?_ | refine WL_skip rfl rfl rfl ?_
        refine WL_call rfl rfl rfl (rCall (vs := [.slice _ _ _, .slice _ _ _]) rfl Tryd.func9 rfl rfl rfl) ?_
        refine (hsab _ _ (hI.pull 0 rfl).sw0.sw1).mono ?_
        rintro e w3 ⟨rfl, hp3⟩
        refine ⟨_, rfl, ?_⟩
        replace hI := hI.pure hp3
        refine WL_val rfl rfl rfl (by first | exact rPickTB rfl rfl rfl | exact rPickFB rfl rfl rfl | exact rPickB rfl rfl rfl rfl) ?_
        refine WL_val rfl rfl rfl (by first | exact rMoveB rfl rfl | exact rMove rfl) ?_
        first | refine WL_val rfl rfl rfl (by first | exact rMoveB rfl rfl | exact rMove rfl) ?_ | refine WL_skip rfl rfl rfl ?_
        first | refine WL_val rfl rfl rfl (by first | exact rNotT rfl rfl | exact rNotF rfl rfl | exact rNot rfl rfl) ?_ | refine WL_skip rfl rfl rfl ?_
        first | refine WL_val rfl rfl rfl (by first | exact rMoveB rfl rfl | exact rMove rfl) ?_ | refine WL_skip rfl rfl rfl ?_
        first | refine WL_val rfl rfl rfl (by first | exact rMoveS rfl rfl | exact rMove rfl) ?_ | refine WL_skip rfl rfl rfl ?_
        first | refine WL_val rfl rfl rfl (by first | exact rMoveS rfl rfl | exact rMove rfl) ?_ | refine WL_skip rfl rfl rfl ?_
        refine WL_call rfl rfl rfl (rCall (vs := [.slice _ _ _, .slice _ _ _]) rfl Tryd.func9 rfl rfl rfl) ?_
        refine (same_any _ _ _ _ _ _ cc cc _ (CasA.of_row hI) (CasA.of_row hI.d0.d0) rfl rfl).mono ?_
        rw [decide_eq_true rfl]
        rintro e w4 ⟨rfl, hp4⟩
        refine ⟨_, rfl, ?_⟩
        replace hI := hI.pure hp4
        first | refine WL_val rfl rfl rfl (by first | exact rPickTB rfl rfl rfl | exact rPickFB rfl rfl rfl | exact rPickB rfl rfl rfl rfl) ?_ | refine WL_skip rfl rfl rfl ?_
        refine WL_val rfl rfl rfl (by first | exact rPickTB rfl rfl rfl | exact rPickFB rfl rfl rfl | exact rPickB rfl rfl rfl rfl) ?_
        refine WL_val rfl rfl rfl (by first | exact rAsgnB rfl rfl | exact rAsgn rfl) ?_
        refine WL_nil ?_
        refine W_ret ?_
        exact ret1 6 (.inr rfl) rfl ⟨rfl, hI.pu⟩
end Go.Proofs.YtlhmldjgmbcocaaDoor
