/- record.Merge: its sort: slices.SortFunc at tickets, by the kit's contract. -/
import Derived.Test.YtfagfkgmibmanaaShelf
import Derived.Test.YtfagfkgmibmanaaRec9
import Derived.Test.YtfagfkgmibmanaaSxB
import Derived.Lib.RowBridge
namespace Go.Proofs.Ytfagfkgmibmanaa
open Go Go.RowKit
set_option linter.unusedVariables false
set_option linter.unusedSimpArgs false
/-- A ticket: its number, its event. -/
abbrev Tk := Int × Ev
instance : Inhabited Ev := ⟨⟨0, 0, 0, 0, 0, 0, 0⟩⟩
def tkL (x : Tk) : List Value := .int .i64 x.1 :: evL x.2
theorem tkL_len (x : Tk) : (tkL x).length = 8 := rfl
def tkC (x y : Tk) : Int := if x.1 < y.1 then -1 else if y.1 < x.1 then 1 else 0
theorem tkLt (x y : Tk) : Go.Proofs.ltOf tkC x y = decide (x.1 < y.1) := by
  unfold Go.Proofs.ltOf tkC
  by_cases h1 : x.1 < y.1
  · simp [h1]
  · by_cases h2 : y.1 < x.1 <;> simp [h1, h2]
theorem tkSwo : Go.Sort.SWO (Go.Proofs.ltOf tkC) where
  irrefl x := by rw [tkLt]; simp
  trans x y z h1 h2 := by rw [tkLt] at *; simp at *; omega
  ntrans x y z h1 h2 := by rw [tkLt] at *; simp at *; omega
set_option maxHeartbeats 1000000 in
theorem cmp_any (x y : Tk) (W : World) : Calls Try.prog 9 #[.agg (tkL x).toArray, .agg (tkL y).toArray] W fun e w' => e = .returned (.int .i64 (tkC x y)) ∧ ∃ q os', w' = Go.Sort.grow (W.drewN q) os' := by
  obtain ⟨x0, x1, x2, x3, x4, x5, x6, x7⟩ := x
  obtain ⟨y0, y1, y2, y3, y4, y5, y6, y7⟩ := y
  obtain ⟨r, hr⟩ : ∃ r, tkC (x0, ⟨x1, x2, x3, x4, x5, x6, x7⟩) (y0, ⟨y1, y2, y3, y4, y5, y6, y7⟩) = r := ⟨_, rfl⟩
  rw [hr]
  unfold tkC at hr
  simp only at hr
  simp only [tkL, evL]
  go_enter Try.func9, Try.ntmps9
  go_wp2
  all_goals go_ret
  · rename_i h1
    rw [if_pos h1] at hr
    subst hr
    exact ⟨rfl, 0, _, by rw [Go.Sort.alloc_eq_grow, Go.Sort.alloc_eq_grow, Go.Sort.grow_grow]; rfl⟩
  · rename_i h1 h2
    rw [if_neg (by omega), if_pos (by omega)] at hr
    subst hr
    exact ⟨rfl, 0, _, by rw [Go.Sort.alloc_eq_grow, Go.Sort.alloc_eq_grow, Go.Sort.grow_grow]; rfl⟩
  · rename_i h1 h2
    rw [if_neg (by omega), if_neg (by omega)] at hr
    subst hr
    exact ⟨rfl, 0, _, by rw [Go.Sort.alloc_eq_grow, Go.Sort.alloc_eq_grow, Go.Sort.grow_grow]; rfl⟩
theorem cmpLays_any (blk off size : Nat) (w : World) : Go.Proofs.CmpLays Try.prog 9 #[] tkL 8 tkC blk off size w := fun _ _ _ _ x y => cmp_any x y _
theorem tks_len (L : List Tk) : (L.flatMap tkL).length = L.length * 8 := by
  induction L with
  | nil => rfl
  | cons z L ih => rw [List.flatMap_cons, List.length_append, ih, tkL_len]; simp; omega
theorem flatK_eq (L : List Tk) : Go.Sort.flatK tkL 8 L.toArray = (L.flatMap tkL).toArray := by
  apply Array.ext_getElem?
  intro t
  have hR : (L.flatMap tkL).toArray[t]? = (L.flatMap tkL)[t]? := by simp
  rw [hR]
  by_cases ht : t < L.length * 8
  · have hd : t = t / 8 * 8 + t % 8 := by omega
    have hk : t / 8 < L.length := by omega
    have h1 : (Go.Sort.flatK tkL 8 L.toArray)[t]? = some ((tkL L.toArray[t / 8]!)[t % 8]!) := by
      have h0 : t < (Go.Sort.flatK tkL 8 L.toArray).size := by rw [Go.Sort.size_flatK]; simpa using ht
      rw [Array.getElem?_eq_getElem h0, ← getElem!_pos (Go.Sort.flatK tkL 8 L.toArray) t h0, Go.Sort.get_flatK _ _ _ _ (by simpa using ht)]
    rw [h1]
    have h2 := flatN (s := 8) (f := tkL) tkL_len L (t / 8) L[t / 8] (List.getElem?_eq_getElem hk) (t % 8) (by omega)
    rw [← hd] at h2
    rw [h2]
    have h3 : L.toArray[t / 8]! = L[t / 8] := by
      rw [getElem!_pos L.toArray (t / 8) (by simpa using hk)]
      simp
    rw [h3]
    have h4 : t % 8 < (tkL L[t / 8]).length := by rw [tkL_len]; omega
    rw [List.getElem?_eq_getElem h4, getElem!_pos (tkL L[t / 8]) (t % 8) h4]
  · rw [Array.getElem?_eq_none (by rw [Go.Sort.size_flatK]; simp; omega), List.getElem?_eq_none (by rw [tks_len]; omega)]
def tksC (L : List Tk) (junk : List Value) : Array Value := (L.flatMap tkL ++ junk).toArray
theorem tksC_splice {L L' : List Tk} {junk : List Value} (h : L'.length = L.length) : splice (tksC L junk) 0 (L'.flatMap tkL) = tksC L' junk := by
  have h1 := tks_len L
  have h2 := tks_len L'
  apply Array.ext'
  rw [splice_list _ _ _ (by unfold tksC; rw [List.size_toArray, List.length_append]; omega)]
  unfold tksC
  rw [List.toList_toArray, List.toList_toArray, List.take_zero, List.nil_append, Nat.zero_add, h2, h, ← h1, List.drop_left]
theorem Chg.grown_ {D : Nat → Prop} (w : World) (os : Array Obj) (q : Nat) : Chg D w (Go.Sort.grow (w.drewN q) os) := ⟨rfl, rfl, rfl, by simp [Go.Sort.grow, World.drewN], fun k hk _ => by
  show (w.heap ++ os)[k]? = _
  rw [Array.getElem?_append_left hk]⟩
def TsPost (S : Nat → Prop) (w0 : World) (g : Nat) (d : List Tk) (junk : List Value) (e : Ending) (w' : World) : Prop :=
  e = .returned (.tuple #[]) ∧ ∃ d' : List Tk, d'.Perm d ∧ (d'.Pairwise fun a b => a.1 ≤ b.1) ∧ Inv S w0 w' [B g 42 (tksC d' junk)]
theorem sortT_any (g n c : Nat) (d : List Tk) (junk : List Value) (S : Nat → Prop) (w0 : World) (hn : d.length = n) (hl : n ≤ 1000000) (hI : Inv S w0 w0 [B g 42 (tksC d junk)]) :
    Calls Try.prog 8 #[.slice (some ⟨g, 0, none⟩) n c, .func (.func 9) #[] #[]] w0 (TsPost S w0 g d junk) := by
  have hB : Blk w0 g 42 (tksC d junk) := hI.g0
  have eg : ∀ args w, (callFunc 9 args).run Try.prog w = .ok (.enter 9 args) w := enters_of Try.func9 (by kernel_rfl) rfl
  have hH : Go.Sort.HoldsK tkL 8 w0 g 0 d.toArray := by
    unfold Go.Sort.HoldsK
    rw [flatK_eq]
    intro j hj
    have hj' : j < (d.flatMap tkL).length := by simpa using hj
    refine ⟨?_, hB.frozen _⟩
    rw [Nat.zero_add, hB.cell]
    unfold tksC
    rw [show (d.flatMap tkL ++ junk).toArray[j]? = (d.flatMap tkL ++ junk)[j]? by simp, List.getElem?_append_left hj', List.getElem?_eq_getElem hj']
    show _ = some ((d.flatMap tkL).toArray[j]!)
    rw [getElem!_pos (d.flatMap tkL).toArray j hj]
    simp
  have hcon := Go.Proofs.AnyQ.slices_SortFunc Try.sortT 8 Try.isAgg42 Try.sizeOf42 tkL tkL_len (fun x v hv => by
    obtain ⟨x0, x1, x2, x3, x4, x5, x6, x7⟩ := x
    simp [tkL, evL] at hv
    rcases hv with rfl | rfl | rfl | rfl | rfl | rfl | rfl | rfl <;> rfl) tkC tkSwo 9 #[] g 0 c d.toArray w0 eg (cmpLays_any g 0 _ w0) hH (Blk.lt hB) (by simp; omega)
  change Calls Try.prog 8 _ _ _ at hcon
  rw [show d.toArray.size = n by simpa using hn] at hcon
  refine hcon.mono ?_
  rintro e w' ⟨rfl, d', q, os, hp, hs, rfl⟩
  obtain ⟨hsz, _, hperm⟩ := hp
  have hln : d'.toList.length = d.length := by simpa using hsz
  have hpm : d'.toList.Perm d := by
    have h1 : d'.extract 0 n = d' := by
      rw [show n = d'.size by rw [hsz]; simpa using hn.symm]
      simp
    have h2 : d.toArray.extract 0 n = d.toArray := by
      rw [show n = d.toArray.size by simpa using hn.symm]
      simp
    rw [h1, h2] at hperm
    simpa using hperm
  have hso : d'.toList.Pairwise fun a b => a.1 ≤ b.1 := by
    rw [List.pairwise_iff_getElem]
    intro i j hi hj hij
    have h1 := hs i j (Nat.zero_le _) hij (by simp at hj; rw [hsz] at hj; simp at hj; omega)
    rw [tkLt, getElem!_pos d' j (by simpa using hj), getElem!_pos d' i (by simpa using hi)] at h1
    simp at h1 ⊢
    exact h1
  refine ⟨rfl, d'.toList, hpm, hso, ?_⟩
  have hw : Go.Proofs.sortWorldK tkL 8 w0 g 0 q d' os = Go.Sort.grow ((w0.drewN q).setCells g 0 (d'.toList.flatMap tkL)) os := by
    unfold Go.Proofs.sortWorldK Go.Sort.putRowK
    have e1 : Go.Sort.flatK tkL 8 d' = (d'.toList.flatMap tkL).toArray := by
      have := flatK_eq d'.toList
      simpa using this
    rw [e1]
    have e2 := Go.Lib.putRow_eq_setCells id w0 g 0 (Go.Sort.flatK tkL 8 d.toArray) (d'.toList.flatMap tkL) q hH (by rw [tks_len, Go.Sort.size_flatK, hln]; simp)
    rw [e2, List.map_id]
  rw [hw]
  have hB2 : Blk (w0.drewN q) g 42 (tksC d junk) := hB
  have hB3 := hB2.setCells (d'.toList.flatMap tkL) 0
  rw [tksC_splice hln] at hB3
  have hlt : g < ((w0.drewN q).setCells g 0 (d'.toList.flatMap tkL)).heap.size := hB3.lt
  have hB4 : Blk (Go.Sort.grow ((w0.drewN q).setCells g 0 (d'.toList.flatMap tkL)) os) g 42 (tksC d'.toList junk) := by
    show (((w0.drewN q).setCells g 0 (d'.toList.flatMap tkL)).heap ++ os)[g]? = _
    rw [Array.getElem?_append_left hlt]
    exact hB3
  have hC1 : Chg (B g 42 (tksC d junk)).D w0 ((w0.drewN q).setCells g 0 (d'.toList.flatMap tkL)) := Chg.setCells (S := (B g 42 (tksC d junk)).D) (b := g) (.inl rfl) _ _ (by
    have := Chg.grown_ (D := (B g 42 (tksC d junk)).D) w0 #[] q
    rwa [Go.Sort.grow_empty] at this)
  have hC2 : Chg (B g 42 (tksC d junk)).D ((w0.drewN q).setCells g 0 (d'.toList.flatMap tkL)) (Go.Sort.grow ((w0.drewN q).setCells g 0 (d'.toList.flatMap tkL)) os) := Chg.grown_ _ os 0
  exact hI.upd 0 rfl (hC1.trans' hC2 (fun _ _ h => h)) (B.ok hB4) (fun k hk => .inl hk)
end Go.Proofs.Ytfagfkgmibmanaa
