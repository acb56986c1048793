/- Most: whether one talks to more than half. -/
import Derived.Test.YtcpcneggclgbcaaProg
import Derived.Test.YtcpcneggclgbcaaBase
namespace Go.Proofs.Ytcpcneggclgbcaa
open Go.RowKit
set_option linter.unusedVariables false
set_option linter.unusedSimpArgs false
def cntTrue (l : List Bool) : Nat := l.countP id
theorem cntTrue_le (l : List Bool) : cntTrue l ≤ l.length := List.countP_le_length
theorem cntTrue_snoc (l : List Bool) (b : Bool) : cntTrue (l ++ [b]) = cntTrue l + if b then 1 else 0 := by
  unfold cntTrue; cases b <;> simp
def mostB (g : List (List Bool)) (who : Nat) : Bool := decide (g.length < 2 * cntTrue (g.getD who []))

set_option maxHeartbeats 400000 in
theorem most_any (A : Option Addr) (n c : Nat) (g : List (List Bool)) (who : Nat) (D : Nat → Prop) (w : World) (hg : Grid w D (.slice A n c) g) (hn : g.length = n) (hw : who < n) (hl : ∀ row ∈ g, row.length = n) (h7 : n ≤ 1000000) :
    Calls Try.prog 15 #[.slice A n c, .int .i64 who] w fun e w' => e = .returned (.bool (mostB g who)) ∧ w = w' := by
  have hwl : who < g.length := by omega
  obtain ⟨b, o, A', c', rfl, hb, hcell, _, hcm, hbs⟩ := hg.get hwl
  have HM : Hid (mostB g who = decide (n < 2 * cntTrue g[who])) := by
    unfold mostB
    rw [hn, List.getD_eq_getElem?_getD, List.getElem?_eq_getElem hwl]
    rfl
  have hrl := hl _ (List.getElem_mem hwl)
  generalize mostB g who = res at *
  generalize g[who] = row at *
  rw [hrl] at hcell hbs
  have HL := Lib.hid hrl
  have HB := Lib.hid hbs
  clear hrl hbs hl hg hwl hn
  have hw2 : ¬ (who : Int) < 0 := by omega
  have hw3 : ¬ (n : Int) ≤ (who : Int) := by omega
  go_enter Try.func15, Try.ntmps15
  go_wp2
  go_loop [5, 6, 7, 21] (fun cnt _ _ i => ∃ k : Nat, k ≤ n ∧ i = .int .i64 k ∧ cnt = .int .i64 (cntTrue (row.take k))) (fun _ _ _ i => n - (intOf i).toNat)
  case atStart => exact ⟨0, Nat.zero_le _, rfl, rfl⟩
  case round =>
    obtain ⟨k, hk, rfl, rfl⟩ := hrel
    have hd := cntTrue_le (row.take k)
    have hdl : (row.take k).length ≤ k := List.length_take_le _ _
    by_cases hlt : k < n
    · have hkr : k < row.length := by rw [HL.out]; exact hlt
      obtain ⟨b2, o2, rfl, _, hb2, h2⟩ := HB.out.get hkr
      have HS := Lib.hid (cntTrue_snoc (row.take k) row[k])
      have HT := Lib.hid (List.take_succ_eq_append_getElem hkr)
      generalize row[k] = x at *
      clear hkr
      cases x
      all_goals
        go_wp2
        go_round
        case rel => exact ⟨k + 1, by omega, by go_num, by rw [HT.out, HS.out]; simp⟩
        case measure => simp [intOf]; omega
    · have hkm : k = n := by omega
      have HX := Lib.hid (show row.take k = row from List.take_of_length_le (by rw [HL.out]; omega))
      clear hkm
      go_wp2
      go_ret
      exact ⟨ret_bool (by rw [HM.out, HX.out]; simp; omega), rfl⟩
end Go.Proofs.Ytcpcneggclgbcaa
