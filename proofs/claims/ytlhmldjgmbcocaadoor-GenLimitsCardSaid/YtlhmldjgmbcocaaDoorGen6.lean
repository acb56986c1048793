/- gen: numerals: strconv.Atoi and Itoa at this program (the kit's contracts), and what must stand in memory for them. -/
import Derived.Test.YtlhmldjgmbcocaaDoorProg
import Derived.Test.YtlhmldjgmbcocaaDoorShelf
import Derived.Test.YtlhmldjgmbcocaaDoorSxX
import Derived.Test.YtlhmldjgmbcocaaDoorStrL
import Derived.Test.YtlhmldjgmbcocaaDoorGenLaw2
namespace Go.Proofs.YtlhmldjgmbcocaaDoor
open Go.RowKit
set_option linter.unusedVariables false
set_option linter.unusedSimpArgs false
structure NumG (w : World) : Prop where
  syn : ∃ tp p, w.var? Tryd.prog "strconv.ErrSyntax" = some #[.iface tp p]
  rng : ∃ tp p, w.var? Tryd.prog "strconv.ErrRange" = some #[.iface tp p]
  tab : Lib.TabIs Tryd.prog w "internal/strconv.uint64pow10" .u64 Lib.pow10Tab
/-- What is written to is none of these variables. -/
def NoG (S : Nat → Prop) : Prop := ¬ S 0 ∧ ¬ S 1 ∧ ¬ S 2
theorem gsynN : Tryd.prog.globalNamed "strconv.ErrSyntax" = some 0 := by kernel_rfl
theorem grngN : Tryd.prog.globalNamed "strconv.ErrRange" = some 1 := by kernel_rfl
theorem gpowN : Tryd.prog.globalNamed "internal/strconv.uint64pow10" = some 2 := by kernel_rfl
theorem var_keep {S : Nat → Prop} {w w' : World} {name : String} {g : Nat} {cs : Array Value} (hg : Tryd.prog.globalNamed name = some g) (hc : Chg S w w') (hS : ¬ S g) (h : w.var? Tryd.prog name = some cs) : w'.var? Tryd.prog name = some cs := by
  unfold World.var? at h ⊢
  rw [hg, Option.bind_some] at h ⊢
  have hlt : g < w.heap.size := by
    refine Nat.lt_of_not_le fun hn => ?_
    rw [Array.getElem?_eq_none hn] at h
    cases h
  rw [hc.block g hlt hS]
  exact h
theorem NumG.chg {S : Nat → Prop} {w w' : World} (h : NumG w) (hc : Chg S w w') (hS : NoG S) : NumG w' := by
  obtain ⟨⟨t1, p1, h1⟩, ⟨t2, p2, h2⟩, h3⟩ := h
  exact ⟨⟨t1, p1, var_keep gsynN hc hS.1 h1⟩, ⟨t2, p2, var_keep grngN hc hS.2.1 h2⟩, var_keep gpowN hc hS.2.2 h3⟩
theorem NoG.none : NoG (fun _ => False) := ⟨id, id, id⟩
def atoiPost (t : Tok) (w : World) (e : Ending) (w' : World) : Prop := (match Lib.atoiAll t with
  | .ok n => e = .returned (.tuple #[.int .i64 n, .nilIface]) ∧ -9223372036854775808 ≤ n ∧ n ≤ 9223372036854775807
  | _ => ∃ n T u, e = .returned (.tuple #[.int .i64 n, .iface T u])) ∧ Pure w w'
theorem atoi_any (t : Tok) (ht : t.length ≤ 1000000) (w : World) (hG : NumG w) : Calls Tryd.prog 20 #[strV t] w (atoiPost t w) := by
  have hs : (⟨t.toArray⟩ : ByteArray).size = t.length := str_size t
  unfold atoiPost
  cases h : Lib.atoiAll t
  · rename_i n
    refine (Any.strconv_Atoi_ok Tryd.laysC172 ⟨t.toArray⟩ (by omega) n h w).mono ?_
    rintro e w' ⟨rfl, hw⟩
    refine ⟨⟨rfl, by have := Lib.atoiAll_bounds h; omega⟩, ?_⟩
    rcases hw with rfl | ⟨x, rfl⟩
    · exact Pure.refl _
    · exact Lib.bytesWorld_below _ _ _
  · obtain ⟨tp, p, hv⟩ := hG.syn
    refine (Any.strconv_Atoi_syntax_var Tryd.laysC172 ⟨t.toArray⟩ (by omega) h tp p w hv).mono ?_
    rintro e w' ⟨N, rfl, -, -, hb⟩
    exact ⟨⟨_, _, _, rfl⟩, hb⟩
  · obtain ⟨tp, p, hv⟩ := hG.rng
    refine (Any.strconv_Atoi_range_var Tryd.laysC172 ⟨t.toArray⟩ (by omega) h tp p w hv).mono ?_
    rintro e w' ⟨N, rfl, -, -, hb⟩
    exact ⟨⟨_, _, _, rfl⟩, hb⟩
theorem itoa_any (n : Int) (h1 : -9223372036854775808 ≤ n) (h2 : n ≤ 9223372036854775807) (w : World) (hG : NumG w) : Calls Tryd.prog 21 #[.int .i64 n] w fun e w' => e = .returned (strV (Lib.itoa n)) ∧ Pure w w' := by
  refine (Any.strconv_Itoa Tryd.laysM171 n h1 h2 w hG.tab).mono ?_
  rintro e w' ⟨rfl, k, os, rfl⟩
  refine ⟨rfl, ⟨rfl, rfl, rfl, ?_, fun j hj => ?_⟩⟩
  · show w.heap.size ≤ (w.heap ++ os).size
    rw [Array.size_append]; omega
  · show (w.heap ++ os)[j]? = w.heap[j]?
    rw [Array.getElem?_append_left hj]
end Go.Proofs.YtlhmldjgmbcocaaDoor
