/- The closures that say who can talk to whom, and the five kinds of links. -/
import Derived.Test.YtcpcneggclgbcaaLinks
namespace Go.Proofs.Ytcpcneggclgbcaa
open Go.RowKit
set_option linter.unusedVariables false
set_option linter.unusedSimpArgs false

theorem enter_halves1 (args : Array Value) (W : World) : Sem.run Try.prog (callFunc 57 args) W = .ok (.enter 57 args) W := by go_simp

def halB (n a b : Nat) : Bool := (decide (a < n / 2) == decide (b < n / 2))
def briB (n a b : Nat) : Bool := (halB n a b || decide (a = n / 2) || decide (b = n / 2))
def distB (a b : Nat) : Nat := if a ≤ b then b - a else a - b
def ringB (n a b : Nat) : Bool := decide ((if (distB a b : Int) ≤ (n : Int) - distB a b then (distB a b : Int) else (n : Int) - distB a b) ≤ ((n : Int) / 2 + 1) / 2)
def aloB (who a b : Nat) : Bool := (decide (a ≠ who) && decide (b ≠ who))

theorem whole1_any (a b : Nat) (W : World) : Calls Try.prog 56 #[.int .i64 a, .int .i64 b] W fun e W' => e = .returned (.bool true) ∧ W = W' := by
  go_enter Try.func56, Try.ntmps56
  go_wp2
  go_ret
  exact ⟨rfl, rfl⟩

theorem halves1_any (n a b g : Nat) (W : World) (hc : W.cell? ⟨g, 0, none⟩ = some (.int .i64 n)) (hn : n ≤ 7) (ha : a < 7) (hb : b < 7) :
    Calls Try.prog 57 #[.int .i64 a, .int .i64 b, .pointer (some ⟨g, 0, none⟩)] W fun e W' => e = .returned (.bool (halB n a b)) ∧ W = W' := by
  go_enter Try.func57, Try.ntmps57
  go_wp2
  go_ret
  refine ⟨ret_bool ?_, rfl⟩
  unfold halB
  by_cases h1 : a < n / 2 <;> by_cases h2 : b < n / 2 <;> simp [h1, h2] <;> omega

set_option maxHeartbeats 400000 in
theorem bridge1_any (n a b g : Nat) (W : World) (hc : W.cell? ⟨g, 0, none⟩ = some (.int .i64 n)) (hn : n ≤ 7) (ha : a < 7) (hb : b < 7) :
    Calls Try.prog 58 #[.int .i64 a, .int .i64 b, .pointer (some ⟨g, 0, none⟩)] W fun e W' => e = .returned (.bool (briB n a b)) ∧ W = W' := by
  have HV : Hid (briB n a b = (halB n a b || decide (a = n / 2) || decide (b = n / 2))) := rfl
  generalize briB n a b = res at *
  by_cases p : a < n / 2 <;> by_cases q : b < n / 2
  · have p' : (a : Int) < (n : Int) / 2 := by omega
    have q' : (b : Int) < (n : Int) / 2 := by omega
    have HR : Hid (res = true) := by rw [Hid, HV.out]; simp [halB, p, q]
    clear p q
    go_enter Try.func58, Try.ntmps58
    go_wp2
    go_ret
    exact ⟨ret_bool (by rw [HR.out]), rfl⟩
  · have p' : (a : Int) < (n : Int) / 2 := by omega
    have q' : ¬ (b : Int) < (n : Int) / 2 := by omega
    have r : ((a : Int) == (n : Int) / 2) = false := by rw [beq_eq_false_iff_ne]; omega
    have hane : ¬ a = n / 2 := by omega
    have HR : Hid (res = decide ((b : Int) = (n : Int) / 2)) := by
      rw [Hid, HV.out]
      by_cases t : b = n / 2
      · have t' : (b : Int) = (n : Int) / 2 := by omega
        simp [t, t']
      · have t' : ¬ (b : Int) = (n : Int) / 2 := by omega
        simp [halB, p, q, hane, t, t']
    clear hane
    clear p q
    go_enter Try.func58, Try.ntmps58
    go_wp2
    go_ret
    exact ⟨ret_bool (by rw [HR.out]; rfl), rfl⟩
  · have p' : ¬ (a : Int) < (n : Int) / 2 := by omega
    have q' : (b : Int) < (n : Int) / 2 := by omega
    by_cases t : a = n / 2
    · have r : ((a : Int) == (n : Int) / 2) = true := by rw [beq_iff_eq]; omega
      have HR : Hid (res = true) := by rw [Hid, HV.out]; simp [t]
      clear p q t
      go_enter Try.func58, Try.ntmps58
      go_wp2
      go_ret
      exact ⟨ret_bool (by rw [HR.out]), rfl⟩
    · have r : ((a : Int) == (n : Int) / 2) = false := by rw [beq_eq_false_iff_ne]; omega
      have r2 : ((b : Int) == (n : Int) / 2) = false := by rw [beq_eq_false_iff_ne]; omega
      have HR : Hid (res = false) := by rw [Hid, HV.out]; simp [halB, p, q, t]; omega
      clear p q t
      go_enter Try.func58, Try.ntmps58
      go_wp2
      go_ret
      exact ⟨ret_bool (by rw [HR.out]), rfl⟩
  · have p' : ¬ (a : Int) < (n : Int) / 2 := by omega
    have q' : ¬ (b : Int) < (n : Int) / 2 := by omega
    have HR : Hid (res = true) := by rw [Hid, HV.out]; simp [halB, p, q]
    clear p q
    go_enter Try.func58, Try.ntmps58
    go_wp2
    go_ret
    exact ⟨ret_bool (by rw [HR.out]), rfl⟩

set_option maxHeartbeats 400000 in
theorem ring1_any (n a b g : Nat) (W : World) (hc : W.cell? ⟨g, 0, none⟩ = some (.int .i64 n)) (hn : n ≤ 7) (ha : a < 7) (hb : b < 7) :
    Calls Try.prog 59 #[.int .i64 a, .int .i64 b, .pointer (some ⟨g, 0, none⟩)] W fun e W' => e = .returned (.bool (ringB n a b)) ∧ W = W' := by
  go_enter Try.func59, Try.ntmps59
  go_wp2
  all_goals
    go_ret
    refine ⟨ret_bool ?_, rfl⟩
    unfold ringB distB
    apply decide_eq_decide.2
    split <;> split <;> omega

theorem alone1_any (who a b g : Nat) (W : World) (hc : W.cell? ⟨g, 0, none⟩ = some (.int .i64 who)) (hn : who ≤ 7) (ha : a < 7) (hb : b < 7) :
    Calls Try.prog 60 #[.int .i64 a, .int .i64 b, .pointer (some ⟨g, 0, none⟩)] W fun e W' => e = .returned (.bool (aloB who a b)) ∧ W = W' := by
  by_cases h1 : a = who
  · have h2 : ((a : Int) != (who : Int)) = false := by simp; omega
    go_enter Try.func60, Try.ntmps60
    go_wp2
    go_ret
    exact ⟨ret_bool (by simp [aloB, h1]), rfl⟩
  · have h2 : ((a : Int) != (who : Int)) = true := by simp; omega
    by_cases h3 : b = who
    · have h4 : ((b : Int) != (who : Int)) = false := by simp; omega
      have HR : Hid (aloB who a b = false) := by rw [Hid]; simp [aloB, h3]
      clear h1 h3
      go_enter Try.func60, Try.ntmps60
      go_wp2
      go_ret
      exact ⟨ret_bool (by rw [HR.out]), rfl⟩
    · have h4 : ((b : Int) != (who : Int)) = true := by simp; omega
      have HR : Hid (aloB who a b = true) := by rw [Hid]; simp [aloB, h1, h3]
      clear h1 h3
      go_enter Try.func60, Try.ntmps60
      go_wp2
      go_ret
      exact ⟨ret_bool (by rw [HR.out]), rfl⟩

def canOf (k n who : Nat) : Nat → Nat → Bool :=
  if k = 7 then fun _ _ => true else if k = 8 then halB n else if k = 9 then briB n else if k = 10 then ringB n else aloB who

theorem enter_whole1 (args : Array Value) (W : World) : Sem.run Try.prog (callFunc 56 args) W = .ok (.enter 56 args) W := by go_simp
theorem enter_bridge1 (args : Array Value) (W : World) : Sem.run Try.prog (callFunc 58 args) W = .ok (.enter 58 args) W := by go_simp
theorem enter_ring1 (args : Array Value) (W : World) : Sem.run Try.prog (callFunc 59 args) W = .ok (.enter 59 args) W := by go_simp
theorem enter_alone1 (args : Array Value) (W : World) : Sem.run Try.prog (callFunc 60 args) W = .ok (.enter 60 args) W := by go_simp
theorem Grid.mono {w : World} {D E : Nat → Prop} {v : Value} {g : List (List Bool)} (h : Grid w D v g) (hD : ∀ k, D k → E k) : Grid w E v g := by
  obtain ⟨rows, h1, h2⟩ := h
  refine ⟨rows, h1.mono hD, fun i l hl => ?_⟩
  obtain ⟨r, hr, hb⟩ := h2 i l hl
  exact ⟨r, hr, Rd.mono hb hD⟩

set_option maxHeartbeats 400000 in
theorem halves_any (n : Nat) (w : World) (h1 : 1 ≤ n) (h7 : n ≤ 7) :
    Calls Try.prog 35 #[.int .i64 n] w fun e w' => ∃ v, e = .returned (.tuple #[v, .nilIface]) ∧ Grid w' (fun j => w.heap.size ≤ j) v (gridOf (halB n) n) ∧ Pure w w' := by
  go_enter Try.func35, Try.ntmps35
  go_wp2_with fail
  refine (links1 57 n (halB n) _ enter_halves1 h1 h7 (.pointer (some ⟨w.heap.size, 0, none⟩)) (fun W a b hW ha hb => halves1_any n a b w.heap.size W (by rw [((Blk.new w 3 #[.int .i64 n]).pure hW).cell]; rfl) h7 (by omega) (by omega))).mono ?_
  rintro e w1 ⟨v, rfl, hg, hp⟩
  have HG := Lib.hid hg
  have HP := Lib.hid hp
  clear hg hp
  go_wp2
  go_ret2
  refine ⟨v, rfl, ?_, ((Pure.refl w).alloc _).trans HP.out⟩
  exact HG.out.mono fun k hk => by simp at hk; omega

set_option maxHeartbeats 400000 in
theorem bridge_any (n : Nat) (w : World) (h1 : 1 ≤ n) (h7 : n ≤ 7) :
    Calls Try.prog 36 #[.int .i64 n] w fun e w' => ∃ v, e = .returned (.tuple #[v, .nilIface]) ∧ Grid w' (fun j => w.heap.size ≤ j) v (gridOf (briB n) n) ∧ Pure w w' := by
  go_enter Try.func36, Try.ntmps36
  go_wp2_with fail
  refine (links1 58 n (briB n) _ enter_bridge1 h1 h7 (.pointer (some ⟨w.heap.size, 0, none⟩)) (fun W a b hW ha hb => bridge1_any n a b w.heap.size W (by rw [((Blk.new w 3 #[.int .i64 n]).pure hW).cell]; rfl) h7 (by omega) (by omega))).mono ?_
  rintro e w1 ⟨v, rfl, hg, hp⟩
  have HG := Lib.hid hg
  have HP := Lib.hid hp
  clear hg hp
  go_wp2
  go_ret2
  refine ⟨v, rfl, ?_, ((Pure.refl w).alloc _).trans HP.out⟩
  exact HG.out.mono fun k hk => by simp at hk; omega

set_option maxHeartbeats 400000 in
theorem ring_any (n : Nat) (w : World) (h1 : 1 ≤ n) (h7 : n ≤ 7) :
    Calls Try.prog 37 #[.int .i64 n] w fun e w' => ∃ v, e = .returned (.tuple #[v, .nilIface]) ∧ Grid w' (fun j => w.heap.size ≤ j) v (gridOf (ringB n) n) ∧ Pure w w' := by
  go_enter Try.func37, Try.ntmps37
  go_wp2_with fail
  refine (links1 59 n (ringB n) _ enter_ring1 h1 h7 (.pointer (some ⟨w.heap.size, 0, none⟩)) (fun W a b hW ha hb => ring1_any n a b w.heap.size W (by rw [((Blk.new w 3 #[.int .i64 n]).pure hW).cell]; rfl) h7 (by omega) (by omega))).mono ?_
  rintro e w1 ⟨v, rfl, hg, hp⟩
  have HG := Lib.hid hg
  have HP := Lib.hid hp
  clear hg hp
  go_wp2
  go_ret2
  refine ⟨v, rfl, ?_, ((Pure.refl w).alloc _).trans HP.out⟩
  exact HG.out.mono fun k hk => by simp at hk; omega
set_option maxHeartbeats 400000 in
theorem alone_any (n who : Nat) (w : World) (h1 : 1 ≤ n) (h7 : n ≤ 7) (hw : who < n) :
    Calls Try.prog 38 #[.int .i64 n, .int .i64 who] w fun e w' => ∃ v, e = .returned (.tuple #[v, .nilIface]) ∧ Grid w' (fun j => w.heap.size ≤ j) v (gridOf (aloB who) n) ∧ Pure w w' := by
  go_enter Try.func38, Try.ntmps38
  go_wp2_with fail
  refine (links1 60 n (aloB who) _ enter_alone1 h1 h7 (.pointer (some ⟨w.heap.size, 0, none⟩)) (fun W a b hW ha hb => alone1_any who a b w.heap.size W (by rw [((Blk.new w 3 #[.int .i64 who]).pure hW).cell]; rfl) (by omega) (by omega) (by omega))).mono ?_
  rintro e w1 ⟨v, rfl, hg, hp⟩
  have hc : w1.cell? ⟨w.heap.size, 0, none⟩ = some (.int .i64 who) := by rw [((Blk.new w 3 #[.int .i64 who]).pure hp).cell]; rfl
  have HG := Lib.hid hg
  have HP := Lib.hid hp
  clear hg hp
  have q1 : ¬ (who : Int) < 0 := by omega
  have q2 : ¬ (n : Int) ≤ (who : Int) := by omega
  go_wp2
  go_ret2
  refine ⟨v, rfl, ?_, ((Pure.refl w).alloc _).trans HP.out⟩
  exact HG.out.mono fun k hk => by simp at hk; omega

set_option maxHeartbeats 400000 in
theorem whole_any (n : Nat) (w : World) (h1 : 1 ≤ n) (h7 : n ≤ 7) :
    Calls Try.prog 34 #[.int .i64 n] w fun e w' => ∃ v, e = .returned (.tuple #[v, .nilIface]) ∧ Grid w' (fun j => w.heap.size ≤ j) v (gridOf (fun _ _ => true) n) ∧ Pure w w' := by
  go_enter Try.func34, Try.ntmps34
  go_wp2_with fail
  refine (links0 56 n (fun _ _ => true) _ enter_whole1 h1 h7 (fun W a b hW ha hb => whole1_any a b W)).mono ?_
  rintro e w1 ⟨v, rfl, hg, hp⟩
  have HG := Lib.hid hg
  have HP := Lib.hid hp
  clear hg hp
  go_wp2
  go_ret2
  exact ⟨v, rfl, HG.out, HP.out⟩

set_option maxHeartbeats 400000 in
theorem plinks_any (k n who : Nat) (w : World) (hk : 7 ≤ k) (hk' : k ≤ 11) (h1 : 1 ≤ n) (h7 : n ≤ 7) (hw : who < n) :
    Calls Try.prog 14 #[.int .i64 k, .int .i64 n, .int .i64 who] w fun e w' => ∃ v, e = .returned (.tuple #[v, .nilIface]) ∧ Grid w' (fun j => w.heap.size ≤ j) v (gridOf (canOf k n who) n) ∧ Pure w w' := by
  have hc : k = 7 ∨ k = 8 ∨ k = 9 ∨ k = 10 ∨ k = 11 := by omega
  rcases hc with rfl | rfl | rfl | rfl | rfl
  · go_enter Try.func14, Try.ntmps14
    go_wp2_with (go_at_call 34; refine (whole_any n _ h1 h7).mono ?_; rintro e w1 ⟨v, rfl, hg, hp⟩; have HG := Lib.hid hg; have HP := Lib.hid hp; clear hg hp)
    go_ret2
    exact ⟨v, rfl, HG.out, HP.out⟩
  · go_enter Try.func14, Try.ntmps14
    go_wp2_with (go_at_call 35; refine (halves_any n _ h1 h7).mono ?_; rintro e w1 ⟨v, rfl, hg, hp⟩; have HG := Lib.hid hg; have HP := Lib.hid hp; clear hg hp)
    go_ret2
    exact ⟨v, rfl, HG.out, HP.out⟩
  · go_enter Try.func14, Try.ntmps14
    go_wp2_with (go_at_call 36; refine (bridge_any n _ h1 h7).mono ?_; rintro e w1 ⟨v, rfl, hg, hp⟩; have HG := Lib.hid hg; have HP := Lib.hid hp; clear hg hp)
    go_ret2
    exact ⟨v, rfl, HG.out, HP.out⟩
  · go_enter Try.func14, Try.ntmps14
    go_wp2_with (go_at_call 37; refine (ring_any n _ h1 h7).mono ?_; rintro e w1 ⟨v, rfl, hg, hp⟩; have HG := Lib.hid hg; have HP := Lib.hid hp; clear hg hp)
    go_ret2
    exact ⟨v, rfl, HG.out, HP.out⟩
  · go_enter Try.func14, Try.ntmps14
    go_wp2_with (go_at_call 38; refine (alone_any n who _ h1 h7 hw).mono ?_; rintro e w1 ⟨v, rfl, hg, hp⟩; have HG := Lib.hid hg; have HP := Lib.hid hp; clear hg hp)
    go_ret2
    exact ⟨v, rfl, HG.out, HP.out⟩
end Go.Proofs.Ytcpcneggclgbcaa
