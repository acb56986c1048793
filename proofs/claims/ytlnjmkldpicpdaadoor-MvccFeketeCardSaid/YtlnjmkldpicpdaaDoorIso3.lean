/- slices.DeleteFunc, isolate.Serial. -/
import Derived.Test.YtlnjmkldpicpdaaDoorIso2
namespace Go.Proofs.YtlnjmkldpicpdaaDoor
open Go.RowKit
set_option linter.unusedVariables false
set_option linter.unusedSimpArgs false

def keepF (t : List ITx) (l : List Nat) : List Nat := l.filter fun x => comAt t (x : Int)
def DelPost (w : World) (A' : Option Addr) (g cm : Nat) (r : List Nat) (e : Ending) (w' : World) : Prop :=
  Chg (fun k => k = g) w w' ∧ e = .returned (.slice A' r.length cm) ∧ ∀ (j x : Nat), r[j]? = some x → w'.cell? ⟨g, j, none⟩ = some (.int .i64 x)
theorem keep_next {t : List ITx} {l : List Nat} {k x : Nat} (h : l[k]? = some x) : keepF t (l.take (k + 1)) = keepF t (l.take k) ++ (if comAt t (x : Int) then [x] else []) := by
  unfold keepF
  rw [take_next h, List.filter_append, List.filter_cons, List.filter_nil]
theorem keep_all {t : List ITx} {l : List Nat} (h : ∀ y ∈ l, (!comAt t (y : Int)) = false) : keepF t l = l := List.filter_eq_self.2 fun y hy => by simpa using h y hy
theorem keep_le (t : List ITx) (l : List Nat) (k : Nat) : (keepF t (l.take k)).length ≤ k := Nat.le_trans (List.length_filter_le _ _) (List.length_take_le _ _)

set_option maxHeartbeats 1000000 in
theorem delf_any (sb : Nat) (A : Option Addr) (n c : Nat) (t : List ITx) (D : Nat → Prop) (w0 : World) (hs : w0.cell? ⟨sb, 0, none⟩ = some (.slice A n c)) (h : Txs w0 D (.slice A n c) t) (hl : t.length = n)
    (g m cm : Nat) (A' : Option Addr) (l : List Nat) (hm : l.length = m) (hmc : m ≤ cm) (hm63 : m < 9223372036854775807) (hn : ∀ x ∈ l, x < n) (hsg : sb ≠ g) (hDg : ¬ D g)
    (cur : Array Value) (hr : l = [] ∨ (A' = some ⟨g, 0, none⟩ ∧ cur.size = cm ∧ Blk w0 g 3 cur ∧ ∀ (j x : Nat), l[j]? = some x → cur[j]? = some (.int .i64 x))) :
    Calls Tryd.prog 24 #[.slice A' m cm, .func (.func 25) #[] #[.pointer (some ⟨sb, 0, none⟩)]] w0 (DelPost w0 A' g cm (keepF t l)) := by
  have hrd : ∀ (j x : Nat), l[j]? = some x → A' = some ⟨g, 0, none⟩ ∧ w0.cell? ⟨g, j, none⟩ = some (.int .i64 x) := fun j x hx => by
    rcases hr with rfl | ⟨h1, h2, h3, h4⟩
    · simp at hx
    · exact ⟨h1, by rw [h3.cell]; exact h4 j x hx⟩
  refine calls_of_W (N := Tryd.f24.ntmps) Tryd.func24 rfl rfl rfl ?_
  refine W_seq ?_
  refine W_region ?_
  refine WL_val rfl rfl rfl (by first | exact rAsgnS rfl rfl | exact rAsgn rfl) ?_
  refine WL_nil ?_
  refine W_seq ?_
  refine W_region ?_
  refine WL_val rfl rfl rfl (by first | exact rMoveS rfl rfl | exact rMove rfl) ?_
  refine WL_val rfl rfl rfl (by first | exact rMoveF rfl rfl | exact rMove rfl) ?_
  refine WL_call rfl rfl rfl (rCall (vs := [.slice _ _ _, .func _ _ _]) rfl Tryd.func40 rfl rfl rfl) ?_
  refine (idxf_any sb A n c t D w0 hs h hl g m cm A' l hm (by omega) hn hrd).mono ?_
  rintro e w1 ⟨rfl, ⟨k, x, rfl, hx, hpx, hbef⟩ | ⟨rfl, hall⟩⟩
  · have hk : k < m := by have := (List.getElem?_eq_some_iff.1 hx).1; omega
    rcases hr with rfl | ⟨rfl, hcs, hB, hcur⟩
    · simp at hx
    have hI := Inv.own1 hB
    refine ⟨_, rfl, ?_⟩
    refine WL_val rfl rfl rfl (by first | exact rAsgnI rfl rfl | exact rAsgn rfl) ?_
    refine WL_nil ?_
    refine W_seq ?_
    refine W_seq ?_
    refine W_region ?_
    refine WL_val rfl rfl rfl (by first | exact rMoveI rfl rfl | exact rMove rfl) ?_
    refine WL_val rfl rfl rfl (by first | exact rEqlT rfl rfl rfl (by omega) | exact rEqlF rfl rfl rfl (by omega) | exact rEql rfl rfl rfl) ?_
    refine WL_nil ?_
    refine W_cond false rfl ?_
    refine W_skip ?_
    refine W_seq ?_
    refine W_seq ?_
    refine W_region ?_
    refine WL_val rfl rfl rfl (by first | exact rMoveI rfl rfl | exact rMove rfl) ?_
    refine WL_val rfl rfl rfl (by first | exact rInc rfl rfl rfl (by omega) | exact rAdd rfl rfl rfl (by omega) | exact rAddW rfl rfl rfl) ?_
    refine WL_val rfl rfl rfl (by first | exact rAsgnI rfl rfl | exact rAsgn rfl) ?_
    refine WL_nil ?_
    refine W_block ?_
    have hcx : comAt t (x : Int) = false := by simpa using hpx
    have hst : keepF t (l.take (k + 1)) = l.take k := by
      rw [keep_next hx, keep_all hbef, hcx]
      simp
    refine W_loop (fun ρ w => ∃ (i j : Nat) (cu : Array Value), i < j ∧ j ≤ m ∧ Has ρ [(5, .int .i64 i), (6, .int .i64 j), (0, .slice (some ⟨g, 0, none⟩) m cm), (1, .func (.func 25) #[] #[.pointer (some ⟨sb, 0, none⟩)])] ∧ i = (keepF t (l.take j)).length ∧ cu.size = cm ∧
      (∀ (q y : Nat), (keepF t (l.take j))[q]? = some y → cu[q]? = some (.int .i64 y)) ∧ (∀ (q y : Nat), j ≤ q → l[q]? = some y → cu[q]? = some (.int .i64 y)) ∧ Inv (fun k => k = g) w0 w [B g 3 cu]) (fun ρ _ => m - cnt (ρ 6))
      ⟨k, k + 1, cur, by omega, by omega, ⟨rfl, rfl, rfl, rfl, trivial⟩, by rw [hst]; simp; omega, hcs, fun q y hq => ?_, fun q y _ hq => hcur q y hq, hI⟩ ?_
    · rw [hst, List.getElem?_take] at hq
      split at hq
      · exact hcur q y hq
      · cases hq
    clear hI
    rintro ρ w ⟨i, j, cu, hij, hjm, hH, hi, hcu, h1, h2, hI⟩
    obtain ⟨σ, rfl⟩ := hH.open
    by_cases hlt : j < m
    · obtain ⟨y, hy⟩ : ∃ y, l[j]? = some y := ⟨_, List.getElem?_eq_getElem (by omega)⟩
      have hcy := h2 j y (Nat.le_refl _) hy
      refine W_seq ?_
      refine W_seq ?_
      refine W_region ?_
      refine WL_val rfl rfl rfl (by first | exact rMoveI rfl rfl | exact rMove rfl) ?_
      refine WL_val rfl rfl rfl (by first | exact rMoveS rfl rfl | exact rMove rfl) ?_
      refine WL_val rfl rfl rfl (rLen rfl Tryd.underlying33 rfl) ?_
      refine WL_val rfl rfl rfl (by first | exact rLssT rfl rfl rfl (by omega) | exact rLssF rfl rfl rfl (by omega) | exact rLss rfl rfl rfl) ?_
      refine WL_nil ?_
      refine W_cond true rfl ?_
      refine W_skip ?_
      refine W_seq_cut (fun ρ w => ∃ (i' : Nat) (cu : Array Value), i' < j + 1 ∧ Has ρ [(5, .int .i64 i'), (6, .int .i64 j), (0, .slice (some ⟨g, 0, none⟩) m cm), (1, .func (.func 25) #[] #[.pointer (some ⟨sb, 0, none⟩)])] ∧ i' = (keepF t (l.take (j + 1))).length ∧ cu.size = cm ∧
        (∀ (q y : Nat), (keepF t (l.take (j + 1)))[q]? = some y → cu[q]? = some (.int .i64 y)) ∧ (∀ (q y : Nat), j + 1 ≤ q → l[q]? = some y → cu[q]? = some (.int .i64 y)) ∧ Inv (fun k => k = g) w0 w [B g 3 cu]) ?_ ?_
      · refine W_block ?_
        have hcy' := hI.c0 hcy
        refine W_seq ?_
        refine W_region ?_
        refine WL_val rfl rfl rfl (by first | exact rMoveS rfl rfl | exact rMove rfl) ?_
        refine WL_val rfl rfl rfl (by first | exact rMoveI rfl rfl | exact rMove rfl) ?_
        refine WL_val rfl rfl rfl (by first | exact rIdx0 rfl Tryd.underlying33 (by kernel_rfl) rfl rfl rfl (by omega) | exact rIdx1 rfl Tryd.underlying33 (by kernel_rfl) rfl rfl (by omega)) ?_
        refine WL_val rfl rfl rfl (by first | exact rLd (v := .int .i64 _) rfl (by kernel_rfl) rfl (by first | exact hI.oldp hcy' | exact hcy') | exact rLd rfl (by kernel_rfl) rfl (by first | exact hI.oldp hcy' | exact hcy')) ?_
        refine WL_val rfl rfl rfl (by first | exact rAsgnI rfl rfl | exact rAsgn rfl) ?_
        refine WL_nil ?_
        refine W_seq ?_
        refine W_region ?_
        refine WL_val rfl rfl rfl (by first | exact rMoveF rfl rfl | exact rMove rfl) ?_
        refine WL_val rfl rfl rfl (by first | exact rMoveI rfl rfl | exact rMove rfl) ?_
        -- STOP: call ['Op.call', ('st', {'callee': ['Callee.value', ['Operand.tmp', '26']], 'args': ('arr', [['Operand.tmp', '27']]), 'argTypes': ('arr', ['3'])})]
        refine WL_call rfl rfl rfl (rCallF (first := []) (cap := [_]) (vs := [.int .i64 _, .pointer _]) rfl rfl Tryd.func25 rfl rfl rfl) ?_
        refine (idel_any sb A n c y t D _ (hI.old hs hsg) (h.chg hI.chg (fun k hk e => hDg (e ▸ hk))) hl (hn y (List.mem_of_getElem? hy))).mono ?_
        rintro e w1 ⟨rfl, rfl⟩
        refine ⟨_, rfl, ?_⟩
        have hkn := keep_next (t := t) hy
        cases hc : comAt t (y : Int) with
        | true =>
          rw [hc, if_pos rfl] at hkn
          refine WL_val rfl rfl rfl (by first | exact rNotT rfl rfl | exact rNotF rfl rfl | exact rNot rfl rfl) ?_
          refine WL_nil ?_
          refine W_cond true rfl ?_
          refine W_seq ?_
          refine W_region ?_
          refine WL_val rfl rfl rfl (by first | exact rMoveS rfl rfl | exact rMove rfl) ?_
          refine WL_val rfl rfl rfl (by first | exact rMoveI rfl rfl | exact rMove rfl) ?_
          refine WL_val rfl rfl rfl (by first | exact rMoveI rfl rfl | exact rMove rfl) ?_
          refine WL_val rfl rfl rfl (by first | exact rIdx0 rfl Tryd.underlying33 (by kernel_rfl) rfl rfl rfl (by omega) | exact rIdx1 rfl Tryd.underlying33 (by kernel_rfl) rfl rfl (by omega)) ?_
          refine WL_st0 (u := .int .i64 _) (j := i) hI rfl rfl rfl rfl rfl rfl (by kernel_rfl) rfl (by simp [Nat.blt]; omega) rfl ?_
          clear hI; rintro w hI
          refine WL_nil ?_
          refine W_region ?_
          refine WL_val rfl rfl rfl (by first | exact rMoveI rfl rfl | exact rMove rfl) ?_
          refine WL_val rfl rfl rfl (by first | exact rInc rfl rfl rfl (by omega) | exact rAdd rfl rfl rfl (by omega) | exact rAddW rfl rfl rfl) ?_
          refine WL_val rfl rfl rfl (by first | exact rAsgnI rfl rfl | exact rAsgn rfl) ?_
          refine WL_nil ?_
          refine ⟨i + 1, _, by omega, ⟨rfl, rfl, rfl, rfl, trivial⟩, by rw [hkn]; simp [hi], by simpa using hcu, fun q z hq => ?_, fun q z hq hz => ?_, hI⟩
          · rw [Array.getElem?_setIfInBounds]
            rw [hkn] at hq
            by_cases hqi : i = q
            · subst hqi
              rw [hi, List.getElem?_append_right (Nat.le_refl _)] at hq
              simp at hq
              rw [if_pos rfl, if_pos (by omega), hq]
            · rw [if_neg hqi]
              refine h1 q z ?_
              have := (List.getElem?_eq_some_iff.1 hq).1
              simp at this
              rwa [List.getElem?_append_left (by omega)] at hq
          · rw [Array.getElem?_setIfInBounds, if_neg (by omega)]
            exact h2 q z (by omega) hz
        | false =>
          rw [hc] at hkn
          simp only [Bool.false_eq_true, if_false, List.append_nil] at hkn
          refine WL_val rfl rfl rfl (by first | exact rNotT rfl rfl | exact rNotF rfl rfl | exact rNot rfl rfl) ?_
          refine WL_nil ?_
          refine W_cond false rfl ?_
          refine W_skip ?_
          exact ⟨i, cu, by omega, ⟨rfl, rfl, rfl, rfl, trivial⟩, by rw [hkn]; exact hi, hcu, by rw [hkn]; exact h1, fun q z hq hz => h2 q z (by omega) hz, hI⟩
      · clear hI
        rintro ρ w ⟨i', cu', hi', hH, h3, h4, h5, h6, hI⟩
        obtain ⟨σ, rfl⟩ := hH.open
        refine W_region ?_
        refine WL_val rfl rfl rfl (by first | exact rMoveI rfl rfl | exact rMove rfl) ?_
        refine WL_val rfl rfl rfl (by first | exact rInc rfl rfl rfl (by omega) | exact rAdd rfl rfl rfl (by omega) | exact rAddW rfl rfl rfl) ?_
        refine WL_val rfl rfl rfl (by first | exact rAsgnI rfl rfl | exact rAsgn rfl) ?_
        refine WL_nil ?_
        exact ⟨⟨i', j + 1, cu', hi', by omega, ⟨rfl, rfl, rfl, rfl, trivial⟩, h3, h4, h5, h6, hI⟩, by show m - ((j + 1 : Nat) : Int).toNat < m - (j : Int).toNat; omega⟩
    · obtain rfl : m = j := by omega
      rw [List.take_of_length_le (by omega)] at hi h1
      refine W_seq ?_
      refine W_seq ?_
      refine W_region ?_
      refine WL_val rfl rfl rfl (by first | exact rMoveI rfl rfl | exact rMove rfl) ?_
      refine WL_val rfl rfl rfl (by first | exact rMoveS rfl rfl | exact rMove rfl) ?_
      refine WL_val rfl rfl rfl (rLen rfl Tryd.underlying33 rfl) ?_
      refine WL_val rfl rfl rfl (by first | exact rLssT rfl rfl rfl (by omega) | exact rLssF rfl rfl rfl (by omega) | exact rLss rfl rfl rfl) ?_
      refine WL_nil ?_
      refine W_cond false rfl ?_
      refine W_exit ?_
      refine W_seq ?_
      refine W_region ?_
      refine WL_val rfl rfl rfl (by first | exact rMoveS rfl rfl | exact rMove rfl) ?_
      refine WL_val rfl rfl rfl (by first | exact rMoveI rfl rfl | exact rMove rfl) ?_
      refine WL_val rfl rfl rfl (by first | exact rSliceFrom (sz := 1) rfl Tryd.underlying33 (by kernel_rfl) rfl rfl (by omega) (by omega) | exact rSliceFromG (sz := 1) rfl Tryd.underlying33 (by kernel_rfl) rfl rfl (by omega)) ?_
      -- STOP: call ['Op.call', ('st', {'callee': ['Callee.builtin', 'Builtin.clear'], 'args': ('arr', [['Operand.tmp', '38']]), 'argTypes': ('arr', ['33'])})]
      refine WL_clear (i := 0) (z := .int .i64 0) rfl hI rfl rfl rfl Tryd.underlying33 (by kernel_rfl) rfl rfl rfl (by omega) (by omega) ?_
      clear hI; rintro w cu' hz1 hz2 hI
      refine WL_nil ?_
      refine W_seq ?_
      refine W_region ?_
      refine WL_val rfl rfl rfl (by first | exact rMoveS rfl rfl | exact rMove rfl) ?_
      refine WL_val rfl rfl rfl (by first | exact rMoveI rfl rfl | exact rMove rfl) ?_
      refine WL_val rfl rfl rfl (rSliceTo (sz := 1) rfl Tryd.underlying33 (by kernel_rfl) rfl rfl (by omega)) ?_
      refine WL_val rfl rfl rfl (by first | exact rAsgnS rfl rfl | exact rAsgn rfl) ?_
      refine WL_nil ?_
      refine W_ret ?_
      refine ret1 4 (.inr rfl) rfl ⟨hI.chg, by rw [← hi]; rfl, fun q y hq => ?_⟩
      have hlt := (List.getElem?_eq_some_iff.1 hq).1
      refine hI.c0 ?_
      rw [hz2 q (by omega)]
      exact h1 q y hq
  · refine ⟨_, rfl, ?_⟩
    refine WL_val rfl rfl rfl (by first | exact rAsgnI rfl rfl | exact rAsgn rfl) ?_
    refine WL_nil ?_
    refine W_seq ?_
    refine W_seq ?_
    refine W_region ?_
    refine WL_val rfl rfl rfl (by first | exact rMoveI rfl rfl | exact rMove rfl) ?_
    refine WL_val rfl rfl rfl (by first | exact rEqlT rfl rfl rfl (by omega) | exact rEqlF rfl rfl rfl (by omega) | exact rEql rfl rfl rfl) ?_
    refine WL_nil ?_
    refine W_cond true rfl ?_
    refine W_seq ?_
    refine W_region ?_
    refine WL_val rfl rfl rfl (by first | exact rMoveS rfl rfl | exact rMove rfl) ?_
    refine WL_val rfl rfl rfl (by first | exact rAsgnS rfl rfl | exact rAsgn rfl) ?_
    refine WL_nil ?_
    refine W_ret ?_
    refine ret1 4 (.inr rfl) rfl ⟨Chg.refl _ _, by rw [keep_all hall, hm]; rfl, fun j x hx => ?_⟩
    rw [keep_all hall] at hx
    exact (hrd j x hx).2

def allF (t : List ITx) (g : List (List Int)) : Nat → Nat → Bool := orAll [overF g, seenF t, anewF t g]
def SerialPost (w : World) (n : Nat) (t : List ITx) (g : List (List Int)) (e : Ending) (w' : World) : Prop :=
  Pure w w' ∧ ((StoryOk t g ∧ ∃ l, orderF n (allF t g) = some l ∧ ∃ A c, e = .returned (.tuple #[.slice A (keepF t l).length c, .nilIface]) ∧ (keepF t l).length ≤ c ∧ ∀ (j x : Nat), (keepF t l)[j]? = some x → ∃ b, A = some ⟨b, 0, none⟩ ∧ w.heap.size ≤ b ∧ w'.cell? ⟨b, j, none⟩ = some (.int .i64 x)) ∨
    (StoryOk t g ∧ orderF n (allF t g) = none ∧ ∃ x, IsErr x ∧ e = .returned (.tuple #[.slice none 0 0, x])) ∨
    (¬ StoryOk t g ∧ ∃ x, IsErr x ∧ e = .returned (.tuple #[.slice none 0 0, x])))
theorem keep_len (t : List ITx) (l : List Nat) : (keepF t l).length ≤ l.length := List.length_filter_le _ _

set_option maxHeartbeats 1000000 in
theorem iserial_any (A : Option Addr) (n c : Nat) (A2 : Option Addr) (n2 c2 : Nat) (t : List ITx) (g : List (List Int)) (D : Nat → Prop) (w0 : World) (h : Txs w0 D (.slice A n c) t) (hl : t.length = n) (h2 : IGrid w0 D (.slice A2 n2 c2) g) (hn2 : g.length = n2) (hD : ∀ k, D k → k < w0.heap.size) :
    Calls Tryd.prog 11 #[.agg #[.slice A n c, .slice A2 n2 c2]] w0 (SerialPost w0 n t g) := by
  have hI := Inv.start (fun _ => False) w0
  refine calls_of_W (N := Tryd.f11.ntmps) Tryd.func11 rfl rfl rfl ?_
  refine W_seq ?_
  refine W_region ?_
  refine WL_box (u := .agg _) (vs := #[_, _]) hI rfl rfl rfl rfl rfl rfl ?_
  clear hI; rintro b1 w - - hI
  refine WL_val rfl rfl rfl (by first | exact rAsgnS rfl rfl | exact rAsgn rfl) ?_
  refine WL_val rfl rfl rfl (by first | exact rAsgnN rfl rfl | exact rAsgnE rfl rfl | exact rAsgn rfl) ?_
  refine WL_nil ?_
  refine W_seq ?_
  refine W_region ?_
  refine WL_val rfl rfl rfl (by first | exact rLdB (n := 2) rfl (by kernel_rfl) (by kernel_rfl) rfl rfl hI.g0 | exact rLd2 rfl (by kernel_rfl) (by kernel_rfl) rfl (by first | exact hI.c0 rfl) (by first | exact hI.c0 rfl)) ?_
  refine WL_call rfl rfl rfl (rCall (vs := [.agg _]) rfl Tryd.func12 rfl rfl rfl) ?_
  refine (iall_any A n c A2 n2 c2 t g D _ (h.pure hI.pu) hl (h2.pure hI.pu) hn2 (fun k hk => Nat.lt_of_lt_of_le (hD k hk) hI.pu.size)).mono ?_
  rintro e w1 ⟨hp1, ⟨hok, o1, o2, o3, rfl, s1, s2, s3⟩ | ⟨hno, x, ⟨u, rfl⟩, rfl⟩⟩
  · refine ⟨_, rfl, ?_⟩
    replace hI := hI.fresh hp1 (G3.ok s1 s2 s3) (fun k hk => hk.1)
    generalize w1.heap.size = hiB at hI
    generalize w.heap.size = loB at hI
    clear s1 s2 s3 hp1
    have hn8 : n ≤ 8 := by have := hok.1; omega
    refine WL_val rfl rfl rfl (by first | exact rMoveT rfl rfl | exact rMove rfl) ?_
    refine WL_val rfl rfl rfl (rExtr rfl rfl rfl) ?_
    refine WL_val rfl rfl rfl (rExtr rfl rfl rfl) ?_
    refine WL_alloc (u := .agg #[.slice none 0 0, .slice none 0 0, .slice none 0 0]) (vs := #[.slice none 0 0, .slice none 0 0, .slice none 0 0]) hI rfl rfl rfl rfl (by kernel_rfl) rfl ?_
    clear hI; rintro b4 w - - hI
    first | refine WL_stw0 (u := .agg _) (vs := #[_, _, _]) (n := 3) hI rfl rfl rfl rfl rfl rfl (by kernel_rfl) rfl rfl rfl ?_ | refine WL_stw1 (u := .agg _) (vs := #[_, _, _]) (n := 3) hI rfl rfl rfl rfl rfl rfl (by kernel_rfl) rfl rfl rfl ?_ | refine WL_stw2 (u := .agg _) (vs := #[_, _, _]) (n := 3) hI rfl rfl rfl rfl rfl rfl (by kernel_rfl) rfl rfl rfl ?_
    clear hI; intro w hI
    refine WL_val rfl rfl rfl (by first | exact rAsgnN rfl rfl | exact rAsgnE rfl rfl | exact rAsgn rfl) ?_
    refine WL_nil ?_
    refine W_seq ?_
    refine W_seq ?_
    refine W_region ?_
    refine WL_val rfl rfl rfl (by first | exact rMoveN rfl rfl | exact rMoveE rfl rfl | exact rMove rfl) ?_
    refine WL_val rfl rfl rfl (by first | exact rIfaceNe rfl Tryd.underlying37 rfl rfl | exact rNilNe rfl Tryd.underlying37 rfl) ?_
    refine WL_nil ?_
    refine W_cond false rfl ?_
    refine W_skip ?_
    refine W_seq ?_
    refine W_region ?_
    refine WL_val rfl rfl rfl (by first | exact rFldN (off := 0) rfl (by kernel_rfl) rfl | exact rFld0 rfl (by kernel_rfl) rfl) ?_
    refine WL_val rfl rfl rfl (by first | exact rLd (v := .slice _ _ _) rfl (by kernel_rfl) rfl (by first | exact hI.c0 rfl) | exact rLd rfl (by kernel_rfl) rfl (by first | exact hI.c0 rfl)) ?_
    refine WL_val rfl rfl rfl (by first | exact rFldN (off := 1) rfl (by kernel_rfl) rfl | exact rFld (off := 1) rfl (by kernel_rfl) rfl) ?_
    refine WL_val rfl rfl rfl (by first | exact rLd (v := .slice _ _ _) rfl (by kernel_rfl) rfl (by first | exact hI.c0 rfl) | exact rLd rfl (by kernel_rfl) rfl (by first | exact hI.c0 rfl)) ?_
    refine WL_val rfl rfl rfl (by first | exact rFldN (off := 2) rfl (by kernel_rfl) rfl | exact rFld (off := 2) rfl (by kernel_rfl) rfl) ?_
    refine WL_val rfl rfl rfl (by first | exact rLd (v := .slice _ _ _) rfl (by kernel_rfl) rfl (by first | exact hI.c0 rfl) | exact rLd rfl (by kernel_rfl) rfl (by first | exact hI.c0 rfl)) ?_
    refine WL_lit (vs := [_, _, _]) (qs := [(0, .slice _ _ _), (1, .slice _ _ _), (2, .slice _ _ _)]) [.slice none 0 0, .slice none 0 0, .slice none 0 0] [0, 1, 2] hI rfl rfl rfl rfl rfl rfl Tryd.underlying91 (fun _ => by kernel_rfl) ?_
    clear hI; rintro b22 w - - hI
    refine WL_call rfl rfl rfl (rCall (vs := [.slice _ _ _]) rfl Tryd.func23 rfl rfl rfl) ?_
    have hg := hI.g2
    refine (itogether_any _ _ _ n [overF g, seenF t, anewF t g] _ _ (graphs3 hI.g0 hg.1 hg.2.1 hg.2.2) (fun k hk => hk) rfl (by omega) (by omega) (by omega)).mono ?_
    rintro e w1 ⟨rfl, hp⟩
    refine ⟨_, rfl, ?_⟩
    have hsq := hp.toSq (by omega)
    replace hI := hI.pure (G1.pu hp)
    clear hp hg
    refine WL_call rfl rfl rfl (rCall (vs := [.slice _ _ _]) rfl Tryd.func22 rfl rfl rfl) ?_
    refine (gorder_any _ _ n (allF t g) _ _ hsq (by omega)).mono ?_
    rintro e w2 (⟨l, v, ho, rfl, hown, hp⟩ | ⟨ho, ⟨x, ⟨u, rfl⟩, rfl⟩, hp⟩)
    · refine ⟨_, rfl, ?_⟩
      have hspec := orderTo_spec n l ho
      have hlt := hI.lt
      have hls : b1 < w1.heap.size := by
        have := (hI.ok _ (List.mem_of_getElem? (i := 3) rfl)).2.1 b1 rfl
        exact this
      have hn : ∀ x ∈ l, x < n := hspec.2.2.1
      have hll : l.length = n := hspec.1
      rcases hown.2 with ⟨rfl, hl0⟩ | ⟨gb, cap, cur, rfl, hg, hh, hnc, hcm, hcs, htake⟩
      · have hl0' : l = [] := List.eq_nil_of_length_eq_zero hl0
        subst hl0'
        replace hI := hI.pure hp
        have hsz := hp.size
        refine WL_val rfl rfl rfl (by first | exact rMoveT rfl rfl | exact rMove rfl) ?_
        refine WL_val rfl rfl rfl (rExtr rfl rfl rfl) ?_
        refine WL_val rfl rfl rfl (rExtr rfl rfl rfl) ?_
        refine WL_val rfl rfl rfl (by first | exact rAsgnS rfl rfl | exact rAsgn rfl) ?_
        refine WL_val rfl rfl rfl (by first | exact rAsgnN rfl rfl | exact rAsgnE rfl rfl | exact rAsgn rfl) ?_
        refine WL_nil ?_
        refine W_seq ?_
        refine W_seq ?_
        refine W_region ?_
        refine WL_val rfl rfl rfl (by first | exact rMoveN rfl rfl | exact rMoveE rfl rfl | exact rMove rfl) ?_
        refine WL_val rfl rfl rfl (by first | exact rIfaceNe rfl Tryd.underlying37 rfl rfl | exact rNilNe rfl Tryd.underlying37 rfl) ?_
        refine WL_nil ?_
        refine W_cond false rfl ?_
        refine W_skip ?_
        refine W_seq ?_
        refine W_region ?_
        refine WL_val rfl rfl rfl (by first | exact rMoveS rfl rfl | exact rMove rfl) ?_
        refine WL_val rfl rfl rfl (rFunc (l := []) (m := [_]) rfl rfl rfl) ?_
        refine WL_call rfl rfl rfl (rCall (vs := [.slice _ _ _, .func _ _ _]) rfl Tryd.func24 rfl rfl rfl) ?_
        refine (delf_any b1 A n c t D _ (hI.c3 rfl) (h.pure hI.pu) hl w2.heap.size 0 0 none [] rfl (by omega) (by omega) (by simp) (by omega) (fun hd => by have h1 := hD _ hd; have h2 := hI.pu.size; omega) #[] (.inl rfl)).mono ?_
        rintro e w3 ⟨hc, rfl, hcells⟩
        refine ⟨_, rfl, ?_⟩
        refine WL_val rfl rfl rfl (by first | exact rAsgnS rfl rfl | exact rAsgn rfl) ?_
        refine WL_val rfl rfl rfl (by first | exact rAsgnN rfl rfl | exact rAsgnE rfl rfl | exact rAsgn rfl) ?_
        refine WL_nil ?_
        refine W_ret ?_
        refine ret2 2 3 (.inr rfl) rfl ⟨(hI.chg.trans' hc fun k hk1 hk2 => ?_).toPure, .inl ⟨hok, [], ho, none, 0, rfl, by simp [keepF], fun j x hx => by simp [keepF] at hx⟩⟩
        have := hI.pu.size
        omega
      · have hBk : Blk w2 gb 3 cur := hh
        have hcs' : cur.size = cap := by omega
        replace hI := hI.pure hp
        have hsz := hp.size
        have hlo := hI.pu.size
        refine WL_val rfl rfl rfl (by first | exact rMoveT rfl rfl | exact rMove rfl) ?_
        refine WL_val rfl rfl rfl (rExtr rfl rfl rfl) ?_
        refine WL_val rfl rfl rfl (rExtr rfl rfl rfl) ?_
        refine WL_val rfl rfl rfl (by first | exact rAsgnS rfl rfl | exact rAsgn rfl) ?_
        refine WL_val rfl rfl rfl (by first | exact rAsgnN rfl rfl | exact rAsgnE rfl rfl | exact rAsgn rfl) ?_
        refine WL_nil ?_
        refine W_seq ?_
        refine W_seq ?_
        refine W_region ?_
        refine WL_val rfl rfl rfl (by first | exact rMoveN rfl rfl | exact rMoveE rfl rfl | exact rMove rfl) ?_
        refine WL_val rfl rfl rfl (by first | exact rIfaceNe rfl Tryd.underlying37 rfl rfl | exact rNilNe rfl Tryd.underlying37 rfl) ?_
        refine WL_nil ?_
        refine W_cond false rfl ?_
        refine W_skip ?_
        refine W_seq ?_
        refine W_region ?_
        refine WL_val rfl rfl rfl (by first | exact rMoveS rfl rfl | exact rMove rfl) ?_
        refine WL_val rfl rfl rfl (rFunc (l := []) (m := [_]) rfl rfl rfl) ?_
        refine WL_call rfl rfl rfl (rCall (vs := [.slice _ _ _, .func _ _ _]) rfl Tryd.func24 rfl rfl rfl) ?_
        have hown1 := (hI.own _ (List.mem_of_getElem? (i := 3) rfl) b1 rfl).resolve_left id
        refine (delf_any b1 A n c t D _ (hI.c3 rfl) (h.pure hI.pu) hl gb l.length cap (some ⟨gb, 0, none⟩) l rfl hnc (by omega) hn (by omega) (fun hd => by have h1 := hD _ hd; have := (hI.own _ (List.mem_of_getElem? (i := 3) rfl) b1 rfl).resolve_left id; omega) cur (.inr ⟨rfl, hcs', hBk, fun j x hx => ?_⟩)).mono ?_
        · have h1 : (natV l)[j]? = some (.int .i64 x) := by simp [natV, hx]
          rw [← htake, List.getElem?_take] at h1
          split at h1
          · simpa using h1
          · cases h1
        rintro e w3 ⟨hc, rfl, hcells⟩
        refine ⟨_, rfl, ?_⟩
        refine WL_val rfl rfl rfl (by first | exact rAsgnS rfl rfl | exact rAsgn rfl) ?_
        refine WL_val rfl rfl rfl (by first | exact rAsgnN rfl rfl | exact rAsgnE rfl rfl | exact rAsgn rfl) ?_
        refine WL_nil ?_
        refine W_ret ?_
        refine ret2 2 3 (.inr rfl) rfl ⟨(hI.chg.trans' hc fun k hk1 hk2 => ?_).toPure, .inl ⟨hok, l, ho, _, _, rfl, Nat.le_trans (keep_len t l) hnc, fun j x hx => ⟨gb, rfl, by omega, hcells j x hx⟩⟩⟩
        omega
    · refine ⟨_, rfl, ?_⟩
      replace hI := hI.pure hp
      refine WL_val rfl rfl rfl (by first | exact rMoveT rfl rfl | exact rMove rfl) ?_
      refine WL_val rfl rfl rfl (rExtr rfl rfl rfl) ?_
      refine WL_val rfl rfl rfl (rExtr rfl rfl rfl) ?_
      refine WL_val rfl rfl rfl (by first | exact rAsgnS rfl rfl | exact rAsgn rfl) ?_
      refine WL_val rfl rfl rfl (by first | exact rAsgnN rfl rfl | exact rAsgnE rfl rfl | exact rAsgn rfl) ?_
      refine WL_nil ?_
      refine W_seq ?_
      refine W_seq ?_
      refine W_region ?_
      refine WL_val rfl rfl rfl (by first | exact rMoveN rfl rfl | exact rMoveE rfl rfl | exact rMove rfl) ?_
      refine WL_val rfl rfl rfl (by first | exact rIfaceNe rfl Tryd.underlying37 rfl rfl | exact rNilNe rfl Tryd.underlying37 rfl) ?_
      refine WL_nil ?_
      refine W_cond true rfl ?_
      refine W_seq ?_
      refine W_region ?_
      refine WL_val rfl rfl rfl (by first | exact rMoveN rfl rfl | exact rMoveE rfl rfl | exact rMove rfl) ?_
      refine WL_val rfl rfl rfl (by first | exact rAsgnS rfl rfl | exact rAsgn rfl) ?_
      refine WL_val rfl rfl rfl (by first | exact rAsgnN rfl rfl | exact rAsgnE rfl rfl | exact rAsgn rfl) ?_
      refine WL_nil ?_
      refine W_ret ?_
      exact ret2 2 3 (.inr rfl) rfl ⟨hI.pu, .inr (.inl ⟨hok, ho, _, ⟨_, rfl⟩, rfl⟩)⟩
  · refine ⟨_, rfl, ?_⟩
    replace hI := hI.pure hp1
    refine WL_val rfl rfl rfl (by first | exact rMoveT rfl rfl | exact rMove rfl) ?_
    refine WL_val rfl rfl rfl (rExtr rfl rfl rfl) ?_
    refine WL_val rfl rfl rfl (rExtr rfl rfl rfl) ?_
    refine WL_alloc (u := .agg #[.slice none 0 0, .slice none 0 0, .slice none 0 0]) (vs := #[.slice none 0 0, .slice none 0 0, .slice none 0 0]) hI rfl rfl rfl rfl (by kernel_rfl) rfl ?_
    clear hI; rintro b4 w - - hI
    first | refine WL_stw0 (u := .agg _) (vs := #[_, _, _]) (n := 3) hI rfl rfl rfl rfl rfl rfl (by kernel_rfl) rfl rfl rfl ?_ | refine WL_stw1 (u := .agg _) (vs := #[_, _, _]) (n := 3) hI rfl rfl rfl rfl rfl rfl (by kernel_rfl) rfl rfl rfl ?_ | refine WL_stw2 (u := .agg _) (vs := #[_, _, _]) (n := 3) hI rfl rfl rfl rfl rfl rfl (by kernel_rfl) rfl rfl rfl ?_
    clear hI; intro w hI
    refine WL_val rfl rfl rfl (by first | exact rAsgnN rfl rfl | exact rAsgnE rfl rfl | exact rAsgn rfl) ?_
    refine WL_nil ?_
    refine W_seq ?_
    refine W_seq ?_
    refine W_region ?_
    refine WL_val rfl rfl rfl (by first | exact rMoveN rfl rfl | exact rMoveE rfl rfl | exact rMove rfl) ?_
    refine WL_val rfl rfl rfl (by first | exact rIfaceNe rfl Tryd.underlying37 rfl rfl | exact rNilNe rfl Tryd.underlying37 rfl) ?_
    refine WL_nil ?_
    refine W_cond true rfl ?_
    refine W_seq ?_
    refine W_region ?_
    refine WL_val rfl rfl rfl (by first | exact rMoveN rfl rfl | exact rMoveE rfl rfl | exact rMove rfl) ?_
    refine WL_val rfl rfl rfl (by first | exact rAsgnS rfl rfl | exact rAsgn rfl) ?_
    refine WL_val rfl rfl rfl (by first | exact rAsgnN rfl rfl | exact rAsgnE rfl rfl | exact rAsgn rfl) ?_
    refine WL_nil ?_
    refine W_ret ?_
    exact ret2 2 3 (.inr rfl) rfl ⟨hI.pu, .inr (.inr ⟨hno, _, ⟨_, rfl⟩, rfl⟩)⟩
end Go.Proofs.YtlnjmkldpicpdaaDoor
