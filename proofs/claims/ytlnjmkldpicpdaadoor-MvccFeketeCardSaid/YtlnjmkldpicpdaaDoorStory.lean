/- isolate: a story in memory; versions. -/
import Derived.Test.YtlnjmkldpicpdaaDoorIso1
namespace Go.Proofs.YtlnjmkldpicpdaaDoor
open Go.RowKit
set_option linter.unusedVariables false
set_option linter.unusedSimpArgs false

structure IOp where
  write : Bool
  key : Int
  src : Int
  num : Int
structure ITx where
  ops : List IOp
  com : Bool
structure IStory where
  txs : List ITx
  order : List (List Int)

def opV (o : IOp) : List Value := [.bool o.write, .int .i64 o.key, .int .i64 o.src, .int .i64 o.num]
def opAgg (o : IOp) : Value := .agg #[.bool o.write, .int .i64 o.key, .int .i64 o.src, .int .i64 o.num]
theorem opV_len (o : IOp) : (opV o).length = 4 := rfl
def Ops (w : World) (D : Nat → Prop) (v : Value) (l : List IOp) : Prop := Rd w D 4 v l.length (l.flatMap opV)
def txV (p : Value × ITx) : List Value := [p.1, .bool p.2.com]
theorem txV_len (p : Value × ITx) : (txV p).length = 2 := rfl
def Txs (w : World) (D : Nat → Prop) (v : Value) (l : List ITx) : Prop :=
  ∃ vs : List (Value × ITx), vs.map (·.2) = l ∧ Rd w D 2 v l.length (vs.flatMap txV) ∧ ∀ p ∈ vs, Ops w D p.1 p.2.ops
def IGrid (w : World) (D : Nat → Prop) (v : Value) (g : List (List Int)) : Prop :=
  ∃ rows : List Value, Rd w D 1 v g.length rows ∧ ∀ (i : Nat) (l : List Int), g[i]? = some l → ∃ r, rows[i]? = some r ∧ Ints w D r l
section
variable {w w' : World} {D S : Nat → Prop} {v : Value}
theorem Ops.chg {l : List IOp} (h : Ops w D v l) (hc : Chg S w w') (hs : ∀ k, D k → ¬ S k) : Ops w' D v l := Rd.chg h hc hs
theorem Txs.chg {l : List ITx} (h : Txs w D v l) (hc : Chg S w w') (hs : ∀ k, D k → ¬ S k) : Txs w' D v l := by
  obtain ⟨vs, h1, h2, h3⟩ := h
  exact ⟨vs, h1, h2.chg hc hs, fun p hp => (h3 p hp).chg hc hs⟩
theorem IGrid.chg {g : List (List Int)} (h : IGrid w D v g) (hc : Chg S w w') (hs : ∀ k, D k → ¬ S k) : IGrid w' D v g := by
  obtain ⟨rows, h1, h2⟩ := h
  refine ⟨rows, h1.chg hc hs, fun i l hl => ?_⟩
  obtain ⟨r, hr, hb⟩ := h2 i l hl
  exact ⟨r, hr, hb.chg hc hs⟩
theorem Ops.pure {l : List IOp} (h : Ops w D v l) (hc : Pure w w') : Ops w' D v l := h.chg (hc.chg (fun _ => False)) fun _ _ h => h
theorem Txs.pure {l : List ITx} (h : Txs w D v l) (hc : Pure w w') : Txs w' D v l := h.chg (hc.chg (fun _ => False)) fun _ _ h => h
theorem IGrid.pure {g : List (List Int)} (h : IGrid w D v g) (hc : Pure w w') : IGrid w' D v g := h.chg (hc.chg (fun _ => False)) fun _ _ h => h
theorem Ops.form {l : List IOp} (h : Ops w D v l) : ∃ A c, v = .slice A l.length c ∧ l.length ≤ c ∧ c ≤ 9223372036854775807 := Rd.form h
theorem Txs.form {l : List ITx} (h : Txs w D v l) : ∃ A c, v = .slice A l.length c ∧ l.length ≤ c ∧ c ≤ 9223372036854775807 := by
  obtain ⟨vs, h1, h2, h3⟩ := h
  exact h2.form
theorem IGrid.form {g : List (List Int)} (h : IGrid w D v g) : ∃ A c, v = .slice A g.length c ∧ g.length ≤ c ∧ c ≤ 9223372036854775807 := by
  obtain ⟨rows, h1, _⟩ := h
  exact h1.form
/-- The cells of the k-th op. -/
theorem Ops.get {l : List IOp} {A : Option Addr} {n c k : Nat} {o : IOp} (h : Ops w D (.slice A n c) l) (hk : l[k]? = some o) :
    ∃ b f, A = some ⟨b, f, none⟩ ∧ b < w.heap.size ∧ w.cell? ⟨b, f + k * 4, none⟩ = some (.bool o.write) ∧ w.cell? ⟨b, f + k * 4 + 1, none⟩ = some (.int .i64 o.key) ∧
      w.cell? ⟨b, f + k * 4 + 2, none⟩ = some (.int .i64 o.src) ∧ w.cell? ⟨b, f + k * 4 + 3, none⟩ = some (.int .i64 o.num) := by
  have hl := (List.getElem?_eq_some_iff.1 hk).1
  have q := fun j hj => flat_get opV_len l k j o hk hj
  obtain ⟨A', c', hv, h1, h2, h3, h4⟩ := h
  injection hv with ha _ _
  subst ha
  obtain ⟨b, f, rfl, hb, hc⟩ := h4 (by omega)
  have c0 := hc (k * 4 + 0) _ (q 0 (by omega))
  have c1 := hc (k * 4 + 1) _ (q 1 (by omega))
  have c2 := hc (k * 4 + 2) _ (q 2 (by omega))
  have c3 := hc (k * 4 + 3) _ (q 3 (by omega))
  exact ⟨b, f, rfl, World.block_lt_of_cell? w _ c0, c0, c1, c2, c3⟩
/-- The cells of the k-th transaction. -/
theorem Txs.get {l : List ITx} {A : Option Addr} {n c k : Nat} {t : ITx} (h : Txs w D (.slice A n c) l) (hk : l[k]? = some t) :
    ∃ b f A' c', A = some ⟨b, f, none⟩ ∧ b < w.heap.size ∧ w.cell? ⟨b, f + k * 2, none⟩ = some (.slice A' t.ops.length c') ∧ w.cell? ⟨b, f + k * 2 + 1, none⟩ = some (.bool t.com) ∧
      t.ops.length ≤ c' ∧ c' ≤ 9223372036854775807 ∧ Ops w D (.slice A' t.ops.length c') t.ops := by
  have hl := (List.getElem?_eq_some_iff.1 hk).1
  obtain ⟨vs, rfl, h2, h3⟩ := h
  rw [List.getElem?_map] at hk
  obtain ⟨p, hp, rfl⟩ := Option.map_eq_some_iff.1 hk
  have q := fun j hj => flat_get txV_len vs k j p hp hj
  have ho := h3 p (List.mem_of_getElem? hp)
  obtain ⟨A0, c0, e0, hc1, hc2⟩ := ho.form
  obtain ⟨A', c', hv, h1, h2', h3', h4⟩ := h2
  injection hv with ha _ _
  subst ha
  obtain ⟨b, f, rfl, hb, hc⟩ := h4 (by omega)
  have x0 := hc (k * 2 + 0) _ (q 0 (by omega))
  have x1 := hc (k * 2 + 1) _ (q 1 (by omega))
  rw [e0] at ho
  refine ⟨b, f, A0, c0, rfl, World.block_lt_of_cell? w _ x0, ?_, x1, hc1, hc2, ho⟩
  rw [← e0]
  exact x0
theorem IGrid.get {A : Option Addr} {n c i : Nat} {g : List (List Int)} {l : List Int} (h : IGrid w D (.slice A n c) g) (hi : g[i]? = some l) :
    ∃ b o A' c', A = some ⟨b, o, none⟩ ∧ b < w.heap.size ∧ w.cell? ⟨b, o + i, none⟩ = some (.slice A' l.length c') ∧ l.length ≤ c' ∧ c' ≤ 9223372036854775807 ∧ Ints w D (.slice A' l.length c') l := by
  have hl := (List.getElem?_eq_some_iff.1 hi).1
  obtain ⟨rows, h1, h2⟩ := h
  obtain ⟨r, hr, hb⟩ := h2 i l hi
  obtain ⟨b, o, c0, hv, hD, _, _, hc⟩ := h1.at_ hr (by omega)
  injection hv with ha _ _
  obtain ⟨A', c', rfl, hc1, hc2⟩ := Rd.form hb
  exact ⟨b, o, A', c', ha, World.block_lt_of_cell? w _ hc, hc, hc1, hc2, hb⟩
end

def versF (l : List IOp) (key : Int) : Nat := (l.filter fun o => o.write && decide (o.key = key)).length
theorem versF_take {l : List IOp} {k : Nat} {o : IOp} (hk : l[k]? = some o) (key : Int) : versF (l.take (k + 1)) key = versF (l.take k) key + (if o.write = true ∧ o.key = key then 1 else 0) := by
  have hl := List.getElem?_eq_some_iff.1 hk
  unfold versF
  rw [List.take_succ_eq_append_getElem hl.1, hl.2, List.filter_append, List.length_append]
  congr 1
  by_cases h1 : o.write = true <;> by_cases h2 : o.key = key <;> simp [h1, h2]
theorem versF_le (l : List IOp) (key : Int) : versF l key ≤ l.length := List.length_filter_le _ _

set_option maxHeartbeats 1000000 in
theorem iversions_any (A : Option Addr) (c : Nat) (b : Bool) (key : Int) (l : List IOp) (D : Nat → Prop) (w : World) (h : Ops w D (.slice A l.length c) l) (hc : l.length ≤ c) (hc2 : c ≤ 9223372036854775807) :
    Calls Tryd.prog 30 #[.agg #[.slice A l.length c, .bool b], .int .i64 key] w fun e w' => e = .returned (.int .i64 (versF l key)) ∧ Pure w w' := by
  have HS := Lib.hid h
  clear h
  generalize hn : l.length = n at *
  have HN := Lib.hid hn
  clear hn
  go_enter Tryd.func30, Tryd.ntmps30
  go_wp2
  go_loopw [5, 11] (fun m i wr => ∃ k : Nat, k ≤ n ∧ i = .int .i64 k ∧ m = .int .i64 (versF (l.take k) key) ∧ Pure w wr) (fun _ i _ => n - (intOf i).toNat)
  case atStart => exact ⟨0, by omega, rfl, rfl, (Pure.refl w).alloc _⟩
  case round =>
    obtain ⟨k, hk, rfl, rfl, hp⟩ := hrel
    have HP := Lib.hid hp
    clear hp
    have hv9 : versF (l.take k) key ≤ k := Nat.le_trans (versF_le _ _) (by simp; omega)
    by_cases hkn : k < n
    · have hkn' : (k : Int) < (n : Int) := by omega
      obtain ⟨o, ho⟩ : ∃ o, l[k]? = some o := ⟨_, List.getElem?_eq_getElem (by rw [HN.out]; exact hkn)⟩
      obtain ⟨bb, f, rfl, q0, q1, q2, q3, q4⟩ := (HS.out.pure HP.out).get ho
      have HV := Lib.hid (versF_take ho key)
      generalize versF (l.take k) key = m at *
      clear ho
      obtain ⟨ow, ok, os, on⟩ := o
      dsimp only at q1 q2 q3 q4 HV
      cases ow
      · have HV2 : Hid (versF (l.take (k + 1)) key = m) := Lib.hid (by have := HV.out; simpa using this)
        clear HV
        go_wp2
        go_roundw
        case rel => exact ⟨k + 1, by omega, by go_num, by rw [HV2.out], HP.out.alloc _⟩
        case measure => simp [intOf]; omega
      · by_cases hkk : ok = key
        · have HV2 : Hid (versF (l.take (k + 1)) key = m + 1) := Lib.hid (by have := HV.out; simpa [hkk] using this)
          clear HV
          subst hkk
          go_wp2
          go_roundw
          case rel => exact ⟨k + 1, by omega, by go_num, by rw [HV2.out]; go_num, HP.out.alloc _⟩
          case measure => simp [intOf]; omega
        · have HV2 : Hid (versF (l.take (k + 1)) key = m) := Lib.hid (by have := HV.out; simpa [hkk] using this)
          clear HV
          go_wp2
          go_roundw
          case rel => exact ⟨k + 1, by omega, by go_num, by rw [HV2.out], HP.out.alloc _⟩
          case measure => simp [intOf]; omega
    · obtain rfl : k = n := by omega
      go_wp2
      go_ret
      exact ⟨ret_int (by rw [List.take_of_length_le (by rw [HN.out]; omega)]), HP.out⟩
end Go.Proofs.YtlnjmkldpicpdaaDoor
