/- clock: how many steps each process has; cuts that are picked. Plain, but for values. -/
import Derived.Test.YtajbhabkhgpcfaaDoorClk12
import Derived.Test.YtajbhabkhgpcfaaDoorPick
namespace Go.Proofs.YtajbhabkhgpcfaaDoor
open Go.RowKit
set_option linter.unusedVariables false
set_option linter.unusedSimpArgs false
def allF (l : List Ck) (k r : Nat) : Nat := ((List.range k).filter fun i => (cAt l i).proc == ((r : Nat) : Int)).length
theorem allF_succ (l : List Ck) (k r : Nat) : allF l (k + 1) r = if (cAt l k).proc = ((r : Nat) : Int) then allF l k r + 1 else allF l k r := by
  unfold allF
  rw [List.range_succ, List.filter_append, List.length_append]
  by_cases h : (cAt l k).proc = ((r : Nat) : Int)
  · rw [if_pos h, List.filter_cons_of_pos (by rw [h]; simp)]; rfl
  · rw [if_neg h, List.filter_cons_of_neg (by simpa using h)]; rfl
theorem allF_le (l : List Ck) (k r : Nat) : allF l k r ≤ k := by
  have := List.length_filter_le (fun i => (cAt l i).proc == ((r : Nat) : Int)) (List.range k)
  simpa [allF] using this
theorem allF_same {l : List Ck} {k : Nat} (h : (cAt l k).proc < 0 ∨ 8 ≤ (cAt l k).proc) : vl (allF l (k + 1)) = vl (allF l k) := vl_congr fun q hq => by rw [allF_succ, if_neg (by omega)]
theorem allF_here {l : List Ck} {k pn : Nat} (h : (cAt l k).proc = (pn : Int)) : vl (fun q => if q = pn then allF l k pn + 1 else allF l k q) = vl (allF l (k + 1)) := vl_congr fun q hq => by
  rw [allF_succ, h]
  by_cases e : q = pn
  · subst e; simp
  · rw [if_neg e, if_neg (by omega)]
theorem all_hlen {l : List Ck} (hok : OkClk l) (r : Nat) : allF l l.length r = hlen l l.length r := by
  unfold allF hlen hix
  congr 1
  refine List.filter_congr fun i hi => ?_
  have hcn := ckE_none (hok.2 i (List.mem_range.1 hi))
  have : ((cAt l i).proc = (r : Int)) ↔ prc l i = r := by
    show _ ↔ (cAt l i).proc.toNat = r
    omega
  rw [Bool.eq_iff_iff]
  simp only [beq_iff_eq]
  exact this
def mixV (f : Nat → Nat) (ci : List Int) (k : Nat) : List Int := (List.range 8).map fun r => if r < k then ((f r : Nat) : Int) else ci.getD r 0
theorem mixV_len (f : Nat → Nat) (ci : List Int) (k : Nat) : (mixV f ci k).length = 8 := by simp [mixV]
theorem mixV_zero {f : Nat → Nat} {ci : List Int} (h : ci.length = 8) : mixV f ci 0 = ci := by
  refine List.ext_getElem (by rw [mixV_len, h]) (fun i h1 h2 => ?_)
  simp [mixV, List.getD, List.getElem?_eq_getElem h2]
theorem mixV_full {f : Nat → Nat} {ci : List Int} : mixV f ci 8 = vl f := List.map_congr_left fun r hr => by rw [if_pos (List.mem_range.1 hr)]
theorem mixV_set {f : Nat → Nat} {ci : List Int} {k : Nat} : (mixV f ci k).set k ((f k : Nat) : Int) = mixV f ci (k + 1) := by
  refine List.ext_getElem (by simp [mixV]) (fun i h1 h2 => ?_)
  simp only [mixV, List.getElem_set, List.getElem_map, List.getElem_range]
  by_cases h : k = i
  · subst h; simp
  · rw [if_neg h]
    by_cases h3 : i < k
    · rw [if_pos h3, if_pos (by omega)]
    · rw [if_neg h3, if_neg (by omega)]
theorem mixV_at {f : Nat → Nat} {ci : List Int} {k : Nat} (hk : k < 8) : (i64s (mixV f ci k)).toArray[k]? = some (.int .i64 (ci.getD k 0)) := by simp [i64s, mixV, hk]
theorem mixV_past {f : Nat → Nat} {ci : List Int} {k : Nat} (hk : k < 8) : (i64s (mixV f ci (k + 1))).toArray[k]? = some (.int .i64 ((f k : Nat) : Int)) := by simp [i64s, mixV, hk]
def cutF (l : List Ck) (ci : List Int) (r : Nat) : Nat := pickN (ci.getD r 0) (allF l l.length r + 1)
theorem cutF_has {l : List Ck} (hok : OkClk l) (ci : List Int) : hasP l (cutF l ci) := fun r hr => by
  have h1 := pickN_lt (ci.getD r 0) (n := allF l l.length r + 1) (by omega)
  have h2 := all_hlen hok r
  show pickN _ _ ≤ hlen l l.length r
  omega
end Go.Proofs.YtajbhabkhgpcfaaDoor
