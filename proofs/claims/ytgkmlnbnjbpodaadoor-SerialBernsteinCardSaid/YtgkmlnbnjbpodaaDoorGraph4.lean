/- graph.Cycle over square grids. -/
import Derived.Test.YtgkmlnbnjbpodaaDoorGraph3
import Derived.Test.YtgkmlnbnjbpodaaDoorSxB
namespace Go.Proofs.YtgkmlnbnjbpodaaDoor
open Go.RowKit
set_option linter.unusedVariables false
set_option linter.unusedSimpArgs false

def bestTo (n : Nat) (f : Nat → Nat → Bool) : Nat → Option (Nat × Nat)
  | 0 => none
  | v + 1 => match bestTo n f v with
    | none => if 0 < roadsF n f v v then some (v, roadsF n f v v) else none
    | some (b, l) => if 0 < roadsF n f v v ∧ roadsF n f v v < l then some (v, roadsF n f v v) else some (b, l)
def nextC (n : Nat) (f : Nat → Nat → Bool) (best least : Nat) (out : List Nat) : Option Nat :=
  (List.range n).find? fun v => decide (best ≤ v) && (f (out.getLastD 0) v && decide (roadsF n f best v + out.length = least))
def cycTo (n : Nat) (f : Nat → Nat → Bool) (best least : Nat) : Nat → List Nat
  | 0 => [best]
  | k + 1 => match nextC n f best least (cycTo n f best least k) with
    | some v => cycTo n f best least k ++ [v]
    | none => cycTo n f best least k
def cycF (n : Nat) (f : Nat → Nat → Bool) : Option (List Nat) := (bestTo n f n).map fun p => cycTo n f p.1 p.2 (p.2 - 1)
theorem bestTo_some {n : Nat} {f : Nat → Nat → Bool} : ∀ {k b l : Nat}, bestTo n f k = some (b, l) → b < k ∧ l = roadsF n f b b ∧ 0 < l
  | 0, b, l, h => by simp [bestTo] at h
  | k + 1, b, l, h => by
    rw [bestTo] at h
    cases hb : bestTo n f k with
    | none =>
      simp only [hb] at h
      split at h
      · injection h with h; injection h with h1 h2; subst h1 h2; exact ⟨by omega, rfl, by assumption⟩
      · cases h
    | some p =>
      obtain ⟨b', l'⟩ := p
      simp only [hb] at h
      have ih := bestTo_some hb
      split at h
      · rename_i hc; injection h with h; injection h with h1 h2; subst h1 h2; exact ⟨by omega, rfl, hc.1⟩
      · injection h with h; injection h with h1 h2; subst h1 h2; exact ⟨by omega, ih.2.1, ih.2.2⟩
theorem bestTo_none {n : Nat} {f : Nat → Nat → Bool} : ∀ {k : Nat}, bestTo n f k = none → ∀ v, v < k → roadsF n f v v = 0
  | 0, _, v, hv => by omega
  | k + 1, h, v, hv => by
    rw [bestTo] at h
    cases hb : bestTo n f k with
    | none =>
      simp only [hb] at h
      split at h
      · cases h
      · rename_i hc
        rcases Nat.lt_or_ge v k with hlt | hge
        · exact bestTo_none hb v hlt
        · have : v = k := by omega
          subst this; omega
    | some p =>
      obtain ⟨b', l'⟩ := p
      simp only [hb] at h
      split at h <;> cases h
structure CycI (n : Nat) (f : Nat → Nat → Bool) (best least : Nat) (out : List Nat) : Prop where
  ne : out ≠ []
  rng : ∀ v ∈ out, best ≤ v ∧ v < n
  head : out[0]? = some best
  edge : ∀ (i a b : Nat), out[i]? = some a → out[i + 1]? = some b → f a b = true
  left : ∀ (i a : Nat), out[i]? = some a → roadsF n f best a + i = least
theorem CycI.last {n : Nat} {f : Nat → Nat → Bool} {best least : Nat} {out : List Nat} (h : CycI n f best least out) : out[out.length - 1]? = some (out.getLastD 0) := by
  have : 0 < out.length := List.length_pos_iff.2 h.ne
  rw [List.getLastD_eq_getLast?, List.getLast?_eq_getElem?, List.getElem?_eq_getElem (by omega)]
  rfl
theorem CycI.next {n : Nat} {f : Nat → Nat → Bool} {best least : Nat} {out : List Nat} (h : CycI n f best least out) (hb : best < n) (hl : out.length < least) : ∃ v, best ≤ v ∧ v < n ∧ f (out.getLastD 0) v = true ∧ roadsF n f best v + out.length = least := by
  have hp : 0 < out.length := List.length_pos_iff.2 h.ne
  have h1 := h.left _ _ h.last
  obtain ⟨_, _, h2 | ⟨v, q1, q2, q3, q4, q5⟩⟩ := roads_src (n := n) (f := f) (Nat.le_of_lt hb) (u := out.getLastD 0) (by omega)
  · omega
  · exact ⟨v, q1, q2, q3, by omega⟩
theorem CycI.step {n : Nat} {f : Nat → Nat → Bool} {best least v : Nat} {out : List Nat} (h : CycI n f best least out) (h1 : best ≤ v) (h2 : v < n) (h3 : f (out.getLastD 0) v = true) (h4 : roadsF n f best v + out.length = least) : CycI n f best least (out ++ [v]) := by
  have hp : 0 < out.length := List.length_pos_iff.2 h.ne
  refine ⟨by simp, fun x hx => ?_, ?_, fun i a b ha hb => ?_, fun i a ha => ?_⟩
  · rcases List.mem_append.1 hx with hx | hx
    · exact h.rng x hx
    · rw [List.mem_singleton.1 hx]; exact ⟨h1, h2⟩
  · rw [List.getElem?_append_left hp]; exact h.head
  · have hlt := (List.getElem?_eq_some_iff.1 hb).1
    simp at hlt
    rcases Nat.lt_or_ge (i + 1) out.length with hi | hi
    · rw [List.getElem?_append_left hi] at hb
      rw [List.getElem?_append_left (by omega)] at ha
      exact h.edge i a b ha hb
    · have hie : i = out.length - 1 := by omega
      subst hie
      rw [List.getElem?_append_left (by omega), h.last] at ha
      rw [show out.length - 1 + 1 = out.length by omega, List.getElem?_append_right (Nat.le_refl _), Nat.sub_self] at hb
      simp at ha hb
      subst hb
      rw [← ha]
      simpa using h3
  · have hlt := (List.getElem?_eq_some_iff.1 ha).1
    simp at hlt
    rcases Nat.lt_or_ge i out.length with hi | hi
    · rw [List.getElem?_append_left hi] at ha
      exact h.left i a ha
    · have hie : i = out.length := by omega
      subst hie
      rw [List.getElem?_append_right (Nat.le_refl _), Nat.sub_self] at ha
      simp at ha
      subst ha
      exact h4
/-- A way round over roads. -/
def CycL (n : Nat) (f : Nat → Nat → Bool) (l : List Nat) : Prop := 0 < l.length ∧ (∀ v ∈ l, v < n) ∧ ∀ (i a b : Nat), l[i]? = some a → l[(i + 1) % l.length]? = some b → f a b = true
theorem CycI.end {n : Nat} {f : Nat → Nat → Bool} {best least : Nat} {out : List Nat} (h : CycI n f best least out) (hb : best < n) (hl : out.length = least) : CycL n f out := by
  have hp : 0 < out.length := List.length_pos_iff.2 h.ne
  refine ⟨hp, fun v hv => (h.rng v hv).2, fun i a b ha hb' => ?_⟩
  have hlt := (List.getElem?_eq_some_iff.1 ha).1
  rcases Nat.lt_or_ge (i + 1) out.length with hi | hi
  · rw [Nat.mod_eq_of_lt hi] at hb'
    exact h.edge i a b ha hb'
  · have hie : i + 1 = out.length := by omega
    rw [hie, Nat.mod_self, h.head] at hb'
    injection hb' with hb'
    subst hb'
    have h1 := h.left i a ha
    obtain ⟨_, _, h2 | ⟨v, q1, q2, q3, q4, q5⟩⟩ := roads_src (n := n) (f := f) (Nat.le_of_lt hb) (u := a) (by omega)
    · exact h2.2
    · omega
theorem cycTo_next {n : Nat} {f : Nat → Nat → Bool} {best least v : Nat} {out : List Nat} (h1 : best ≤ v) (h2 : v < n) (h3 : f (out.getLastD 0) v = true) (h4 : roadsF n f best v + out.length = least) (hl : ∀ x, best ≤ x → x < v → ¬ (f (out.getLastD 0) x = true ∧ roadsF n f best x + out.length = least)) : nextC n f best least out = some v := by
  unfold nextC
  rw [List.find?_range_eq_some]
  refine ⟨by simp only [h1, h3, h4, decide_true, Bool.and_self], List.mem_range.2 h2, fun x hx => ?_⟩
  by_cases hb : best ≤ x
  · have := hl x hb hx
    simp only [Bool.not_eq_true', Bool.and_eq_false_iff, decide_eq_false_iff_not]
    by_cases hf : f (out.getLastD 0) x = true
    · exact .inr (.inr (fun h => this ⟨hf, h⟩))
    · exact .inr (.inl (by simpa using hf))
  · simp [hb]
theorem rSubM {P : Program} {ρ : Env} {o : Oper} {w : World} {x y : Operand} {t t' : TypeId} {a b : Nat} {q : Int} (ho : o.op = .binOp .sub t x y t') (hx : ev ρ x = .int .i64 (a : Int)) (hy : ev ρ y = .int .i64 q) (hq : q = (b : Int)) (h : b ≤ a) (ha : a ≤ 9223372036854775807) : Runs P ρ o w (.int .i64 ((a - b : Nat) : Int)) := by
  subst hq
  have := rSub (P := P) (w := w) ho hx hy (by omega)
  rwa [← Int.ofNat_sub h] at this
def slen : Value → Nat
  | .slice _ n _ => n
  | _ => 0
def CyclePost (w : World) (n : Nat) (f : Nat → Nat → Bool) (e : Ending) (w' : World) : Prop :=
  (∃ l A c, cycF n f = some l ∧ CycL n f l ∧ Cyc n f ∧ e = .returned (.tuple #[.slice A l.length c, .nilIface]) ∧ w'.ownsRow w.heap.size 3 1 (.slice A l.length c) l.length (natV l) ∧ Pure w w') ∨
  (cycF n f = none ∧ ¬ Cyc n f ∧ e = .returned (.tuple #[.slice none 0 0, .iface 29 (.int .i64 8)]) ∧ Pure w w')
theorem no_cyc {n : Nat} {f : Nat → Nat → Bool} (h : bestTo n f n = none) : ¬ Cyc n f := fun hc => by
  obtain ⟨v, hv, hp⟩ := cyc_roads hc
  have := bestTo_none h v hv
  omega
def bI : Option (Nat × Nat) → Int
  | none => -1
  | some p => (p.1 : Nat)
def lI : Option (Nat × Nat) → Int
  | none => 0
  | some p => (p.2 : Nat)
set_option maxHeartbeats 2000000 in
theorem cycle_any (A : Option Addr) (n c : Nat) (f : Nat → Nat → Bool) (D : Nat → Prop) (w0 : World) (hG : SqG w0 D (.slice A n c) n f) (hn : n ≤ 40) :
    Calls Tryd.prog 14 #[.slice A n c] w0 (CyclePost w0 n f) := by
  have hI := Inv.start (fun _ => False) w0
  refine calls_of_W (N := Tryd.f14.ntmps) Tryd.func14 rfl rfl rfl ?_
  refine W_seq ?_
  refine W_region ?_
  refine WL_val rfl rfl rfl (by first | exact rAsgnS rfl rfl | exact rAsgn rfl) ?_
  refine WL_val rfl rfl rfl (by first | exact rAsgnN rfl rfl | exact rAsgnE rfl rfl | exact rAsgn rfl) ?_
  refine WL_nil ?_
  refine W_seq ?_
  refine W_seq ?_
  refine W_region ?_
  refine WL_val rfl rfl rfl (by first | exact rMoveS rfl rfl | exact rMove rfl) ?_
  refine WL_call rfl rfl rfl (rCall (vs := [.slice _ _ _]) rfl Tryd.func29 rfl rfl rfl) ?_
  refine (gcheck_any A c n f D _ hG hn).mono ?_
  rintro e w1 ⟨rfl, rfl⟩
  refine ⟨_, rfl, ?_⟩
  refine WL_val rfl rfl rfl (by first | exact rAsgnN rfl rfl | exact rAsgnE rfl rfl | exact rAsgn rfl) ?_
  refine WL_nil ?_
  refine W_seq ?_
  refine W_region ?_
  refine WL_val rfl rfl rfl (by first | exact rMoveN rfl rfl | exact rMoveE rfl rfl | exact rMove rfl) ?_
  refine WL_val rfl rfl rfl (by first | exact rIfaceNe rfl Tryd.underlying25 rfl rfl | exact rNilNe rfl Tryd.underlying25 rfl) ?_
  refine WL_nil ?_
  refine W_cond false rfl ?_
  refine W_skip ?_
  refine W_seq ?_
  refine W_region ?_
  refine WL_val rfl rfl rfl (by first | exact rAsgnI rfl rfl | exact rAsgn rfl) ?_
  refine WL_val rfl rfl rfl (by first | exact rAsgnI rfl rfl | exact rAsgn rfl) ?_
  refine WL_nil ?_
  refine W_seq_cut (fun ρ w => Has ρ [(0, .slice A n c), (5, .int .i64 (bI (bestTo n f n))), (6, .int .i64 (lI (bestTo n f n)))] ∧ Inv (fun _ => False) w0 w []) ?_ ?_
  · refine W_seq ?_
    refine W_region ?_
    refine WL_val rfl rfl rfl (by first | exact rMoveS rfl rfl | exact rMove rfl) ?_
    refine WL_val rfl rfl rfl (rLen rfl Tryd.underlying33 rfl) ?_
    refine WL_val rfl rfl rfl (by first | exact rMoveI rfl rfl | exact rMove rfl) ?_
    refine WL_nil ?_
    refine W_block ?_
    refine W_loop (fun ρ w => ∃ k : Nat, k ≤ n ∧ Has ρ [(20, .int .i64 (k : Int)), (19, .int .i64 (n : Int)), (0, .slice A n c), (5, .int .i64 (bI (bestTo n f k))), (6, .int .i64 (lI (bestTo n f k)))] ∧ Inv (fun _ => False) w0 w []) (fun ρ _ => n - cnt (ρ 20))
      ⟨0, by omega, ⟨rfl, rfl, rfl, rfl, rfl, trivial⟩, hI⟩ ?_
    clear hI
    rintro ρ w ⟨k, hk, hH, hI⟩
    obtain ⟨σ, rfl⟩ := hH.open
    by_cases hkn : k < n
    · refine W_seq ?_
      refine W_region ?_
      refine WL_val rfl rfl rfl (by first | exact rLssT rfl rfl rfl (by omega) | exact rLssF rfl rfl rfl (by omega) | exact rLss rfl rfl rfl) ?_
      refine WL_nil ?_
      refine W_seq ?_
      refine W_cond true rfl ?_
      refine W_skip ?_
      refine W_seq ?_
      refine W_block ?_
      refine W_seq ?_
      refine W_region ?_
      refine WL_val rfl rfl rfl (by first | exact rMoveI rfl rfl | exact rMove rfl) ?_
      refine WL_val rfl rfl rfl (by first | exact rAsgnI rfl rfl | exact rAsgn rfl) ?_
      refine WL_nil ?_
      refine W_seq ?_
      refine W_region ?_
      refine WL_val rfl rfl rfl (by first | exact rMoveS rfl rfl | exact rMove rfl) ?_
      refine WL_val rfl rfl rfl (by first | exact rMoveI rfl rfl | exact rMove rfl) ?_
      refine WL_call rfl rfl rfl (rCall (vs := [.slice _ _ _, .int .i64 _]) rfl Tryd.func30 rfl rfl rfl) ?_
      refine (roads_any A n c k f D _ (hG.pure hI.pu) hn hkn).mono ?_
      rintro e w1 ⟨ob, rfl, hp, hok, hge⟩
      refine ⟨_, rfl, ?_⟩
      replace hI := hI.fresh hp hok (fun k hk => by have : k = ob := hk; omega)
      refine WL_val rfl rfl rfl (by first | exact rMoveI rfl rfl | exact rMove rfl) ?_
      refine WL_val rfl rfl rfl (by first | exact rIdx0 rfl Tryd.underlying23 (by kernel_rfl) rfl rfl rfl (by omega) | exact rIdx1 rfl Tryd.underlying23 (by kernel_rfl) rfl rfl (by omega)) ?_
      refine WL_val rfl rfl rfl (by first | exact rLd (v := .int .i64 _) rfl (by kernel_rfl) rfl (by first | exact hI.c0 rfl | exact (hI.c0 (numC_get (roadsF n f k) hkn))) | exact rLd rfl (by kernel_rfl) rfl (by first | exact hI.c0 rfl | exact (hI.c0 (numC_get (roadsF n f k) hkn)))) ?_
      refine WL_val rfl rfl rfl (by first | exact rAsgnI rfl rfl | exact rAsgn rfl) ?_
      refine WL_nil ?_
      replace hI := hI.d0
      have hle := roads_le (n := n) (f := f) (first := k) (by omega) k
      have hb1 : bestTo n f (k + 1) = (match bestTo n f k with
        | none => if 0 < roadsF n f k k then some (k, roadsF n f k k) else none
        | some (b, l) => if 0 < roadsF n f k k ∧ roadsF n f k k < l then some (k, roadsF n f k k) else some (b, l)) := rfl
      cases hbt : bestTo n f k with
      | none =>
        rw [hbt] at hb1
        simp only at hb1
        by_cases hr : 0 < roadsF n f k k
        · rw [if_pos hr] at hb1
          refine W_seq ?_
          refine W_region ?_
          refine WL_val rfl rfl rfl (by first | exact rMoveI rfl rfl | exact rMove rfl) ?_
          refine WL_val rfl rfl rfl (by first | exact rGtrT rfl rfl rfl (by omega) | exact rGtrF rfl rfl rfl (by omega) | exact rGtr rfl rfl rfl) ?_
          refine WL_val rfl rfl rfl (by first | exact rMoveB rfl rfl | exact rMove rfl) ?_
          first | refine WL_val rfl rfl rfl (by first | exact rMoveI rfl rfl | exact rMove rfl) ?_ | refine WL_skip rfl rfl rfl ?_
          first | refine WL_val rfl rfl rfl (by first | exact rLssT rfl rfl rfl (by omega) | exact rLssF rfl rfl rfl (by omega) | exact rLss rfl rfl rfl) ?_ | refine WL_skip rfl rfl rfl ?_
          first | refine WL_val rfl rfl rfl (by first | exact rMoveB rfl rfl | exact rMove rfl) ?_ | refine WL_skip rfl rfl rfl ?_
          refine WL_skip rfl rfl rfl ?_
          refine WL_skip rfl rfl rfl ?_
          refine WL_skip rfl rfl rfl ?_
          first | refine WL_val rfl rfl rfl (by first | exact rPickTB rfl rfl rfl | exact rPickFB rfl rfl rfl | exact rPickB rfl rfl rfl rfl) ?_ | refine WL_skip rfl rfl rfl ?_
          refine WL_val rfl rfl rfl (by first | exact rPickTB rfl rfl rfl | exact rPickFB rfl rfl rfl | exact rPickB rfl rfl rfl rfl) ?_
          refine WL_nil ?_
          refine W_cond true rfl ?_
          refine W_region ?_
          refine WL_val rfl rfl rfl (by first | exact rMoveI rfl rfl | exact rMove rfl) ?_
          refine WL_val rfl rfl rfl (by first | exact rMoveI rfl rfl | exact rMove rfl) ?_
          refine WL_val rfl rfl rfl (by first | exact rAsgnI rfl rfl | exact rAsgn rfl) ?_
          refine WL_val rfl rfl rfl (by first | exact rAsgnI rfl rfl | exact rAsgn rfl) ?_
          refine WL_nil ?_
          refine W_region ?_
          refine WL_val rfl rfl rfl (by first | exact rInc rfl rfl rfl (by omega) | exact rAdd rfl rfl rfl (by omega) | exact rAddW rfl rfl rfl) ?_
          refine WL_val rfl rfl rfl (by first | exact rMoveI rfl rfl | exact rMove rfl) ?_
          refine WL_nil ?_
          exact ⟨⟨k + 1, by omega, ⟨rfl, rfl, rfl, by rw [hb1]; rfl, by rw [hb1]; rfl, trivial⟩, hI⟩, by show n - ((k + 1 : Nat) : Int).toNat < n - (k : Int).toNat; omega⟩
        · rw [if_neg hr] at hb1
          refine W_seq ?_
          refine W_region ?_
          refine WL_val rfl rfl rfl (by first | exact rMoveI rfl rfl | exact rMove rfl) ?_
          refine WL_val rfl rfl rfl (by first | exact rGtrT rfl rfl rfl (by omega) | exact rGtrF rfl rfl rfl (by omega) | exact rGtr rfl rfl rfl) ?_
          refine WL_val rfl rfl rfl (by first | exact rMoveB rfl rfl | exact rMove rfl) ?_
          refine WL_skip rfl rfl rfl ?_
          refine WL_skip rfl rfl rfl ?_
          refine WL_skip rfl rfl rfl ?_
          refine WL_skip rfl rfl rfl ?_
          refine WL_skip rfl rfl rfl ?_
          refine WL_skip rfl rfl rfl ?_
          refine WL_skip rfl rfl rfl ?_
          refine WL_val rfl rfl rfl (by first | exact rPickTB rfl rfl rfl | exact rPickFB rfl rfl rfl | exact rPickB rfl rfl rfl rfl) ?_
          refine WL_nil ?_
          refine W_cond false rfl ?_
          refine W_skip ?_
          refine W_region ?_
          refine WL_val rfl rfl rfl (by first | exact rInc rfl rfl rfl (by omega) | exact rAdd rfl rfl rfl (by omega) | exact rAddW rfl rfl rfl) ?_
          refine WL_val rfl rfl rfl (by first | exact rMoveI rfl rfl | exact rMove rfl) ?_
          refine WL_nil ?_
          exact ⟨⟨k + 1, by omega, ⟨rfl, rfl, rfl, by rw [hb1]; rfl, by rw [hb1]; rfl, trivial⟩, hI⟩, by show n - ((k + 1 : Nat) : Int).toNat < n - (k : Int).toNat; omega⟩
      | some p =>
        obtain ⟨b, l⟩ := p
        rw [hbt] at hb1
        simp only at hb1
        have hbk := bestTo_some hbt
        by_cases hr : 0 < roadsF n f k k
        · by_cases hl : roadsF n f k k < l
          · rw [if_pos ⟨hr, hl⟩] at hb1
            refine W_seq ?_
            refine W_region ?_
            refine WL_val rfl rfl rfl (by first | exact rMoveI rfl rfl | exact rMove rfl) ?_
            refine WL_val rfl rfl rfl (by first | exact rGtrT rfl rfl rfl (by omega) | exact rGtrF rfl rfl rfl (by omega) | exact rGtr rfl rfl rfl) ?_
            refine WL_val rfl rfl rfl (by first | exact rMoveB rfl rfl | exact rMove rfl) ?_
            first | refine WL_val rfl rfl rfl (by first | exact rMoveI rfl rfl | exact rMove rfl) ?_ | refine WL_skip rfl rfl rfl ?_
            first | refine WL_val rfl rfl rfl (rLssF (a := ((b : Nat) : Int)) rfl rfl rfl (by omega)) ?_ | refine WL_skip rfl rfl rfl ?_
            first | refine WL_val rfl rfl rfl (by first | exact rMoveB rfl rfl | exact rMove rfl) ?_ | refine WL_skip rfl rfl rfl ?_
            first | refine WL_val rfl rfl rfl (by first | exact rMoveI rfl rfl | exact rMove rfl) ?_ | refine WL_skip rfl rfl rfl ?_
            first | refine WL_val rfl rfl rfl (by first | exact rMoveI rfl rfl | exact rMove rfl) ?_ | refine WL_skip rfl rfl rfl ?_
            first | refine WL_val rfl rfl rfl (rLssT (b := ((l : Nat) : Int)) rfl rfl rfl (by omega)) ?_ | refine WL_skip rfl rfl rfl ?_
            first | refine WL_val rfl rfl rfl (by first | exact rPickTB rfl rfl rfl | exact rPickFB rfl rfl rfl | exact rPickB rfl rfl rfl rfl) ?_ | refine WL_skip rfl rfl rfl ?_
            refine WL_val rfl rfl rfl (by first | exact rPickTB rfl rfl rfl | exact rPickFB rfl rfl rfl | exact rPickB rfl rfl rfl rfl) ?_
            refine WL_nil ?_
            refine W_cond true rfl ?_
            refine W_region ?_
            refine WL_val rfl rfl rfl (by first | exact rMoveI rfl rfl | exact rMove rfl) ?_
            refine WL_val rfl rfl rfl (by first | exact rMoveI rfl rfl | exact rMove rfl) ?_
            refine WL_val rfl rfl rfl (by first | exact rAsgnI rfl rfl | exact rAsgn rfl) ?_
            refine WL_val rfl rfl rfl (by first | exact rAsgnI rfl rfl | exact rAsgn rfl) ?_
            refine WL_nil ?_
            refine W_region ?_
            refine WL_val rfl rfl rfl (by first | exact rInc rfl rfl rfl (by omega) | exact rAdd rfl rfl rfl (by omega) | exact rAddW rfl rfl rfl) ?_
            refine WL_val rfl rfl rfl (by first | exact rMoveI rfl rfl | exact rMove rfl) ?_
            refine WL_nil ?_
            exact ⟨⟨k + 1, by omega, ⟨rfl, rfl, rfl, by rw [hb1]; rfl, by rw [hb1]; rfl, trivial⟩, hI⟩, by show n - ((k + 1 : Nat) : Int).toNat < n - (k : Int).toNat; omega⟩
          · rw [if_neg (fun h => hl h.2)] at hb1
            refine W_seq ?_
            refine W_region ?_
            refine WL_val rfl rfl rfl (by first | exact rMoveI rfl rfl | exact rMove rfl) ?_
            refine WL_val rfl rfl rfl (by first | exact rGtrT rfl rfl rfl (by omega) | exact rGtrF rfl rfl rfl (by omega) | exact rGtr rfl rfl rfl) ?_
            refine WL_val rfl rfl rfl (by first | exact rMoveB rfl rfl | exact rMove rfl) ?_
            first | refine WL_val rfl rfl rfl (by first | exact rMoveI rfl rfl | exact rMove rfl) ?_ | refine WL_skip rfl rfl rfl ?_
            first | refine WL_val rfl rfl rfl (rLssF (a := ((b : Nat) : Int)) rfl rfl rfl (by omega)) ?_ | refine WL_skip rfl rfl rfl ?_
            first | refine WL_val rfl rfl rfl (by first | exact rMoveB rfl rfl | exact rMove rfl) ?_ | refine WL_skip rfl rfl rfl ?_
            first | refine WL_val rfl rfl rfl (by first | exact rMoveI rfl rfl | exact rMove rfl) ?_ | refine WL_skip rfl rfl rfl ?_
            first | refine WL_val rfl rfl rfl (by first | exact rMoveI rfl rfl | exact rMove rfl) ?_ | refine WL_skip rfl rfl rfl ?_
            first | refine WL_val rfl rfl rfl (rLssF (b := ((l : Nat) : Int)) rfl rfl rfl (by omega)) ?_ | refine WL_skip rfl rfl rfl ?_
            first | refine WL_val rfl rfl rfl (by first | exact rPickTB rfl rfl rfl | exact rPickFB rfl rfl rfl | exact rPickB rfl rfl rfl rfl) ?_ | refine WL_skip rfl rfl rfl ?_
            refine WL_val rfl rfl rfl (by first | exact rPickTB rfl rfl rfl | exact rPickFB rfl rfl rfl | exact rPickB rfl rfl rfl rfl) ?_
            refine WL_nil ?_
            refine W_cond false rfl ?_
            refine W_skip ?_
            refine W_region ?_
            refine WL_val rfl rfl rfl (by first | exact rInc rfl rfl rfl (by omega) | exact rAdd rfl rfl rfl (by omega) | exact rAddW rfl rfl rfl) ?_
            refine WL_val rfl rfl rfl (by first | exact rMoveI rfl rfl | exact rMove rfl) ?_
            refine WL_nil ?_
            exact ⟨⟨k + 1, by omega, ⟨rfl, rfl, rfl, by rw [hb1]; rfl, by rw [hb1]; rfl, trivial⟩, hI⟩, by show n - ((k + 1 : Nat) : Int).toNat < n - (k : Int).toNat; omega⟩
        · rw [if_neg (fun h => hr h.1)] at hb1
          refine W_seq ?_
          refine W_region ?_
          refine WL_val rfl rfl rfl (by first | exact rMoveI rfl rfl | exact rMove rfl) ?_
          refine WL_val rfl rfl rfl (by first | exact rGtrT rfl rfl rfl (by omega) | exact rGtrF rfl rfl rfl (by omega) | exact rGtr rfl rfl rfl) ?_
          refine WL_val rfl rfl rfl (by first | exact rMoveB rfl rfl | exact rMove rfl) ?_
          refine WL_skip rfl rfl rfl ?_
          refine WL_skip rfl rfl rfl ?_
          refine WL_skip rfl rfl rfl ?_
          refine WL_skip rfl rfl rfl ?_
          refine WL_skip rfl rfl rfl ?_
          refine WL_skip rfl rfl rfl ?_
          refine WL_skip rfl rfl rfl ?_
          refine WL_val rfl rfl rfl (by first | exact rPickTB rfl rfl rfl | exact rPickFB rfl rfl rfl | exact rPickB rfl rfl rfl rfl) ?_
          refine WL_nil ?_
          refine W_cond false rfl ?_
          refine W_skip ?_
          refine W_region ?_
          refine WL_val rfl rfl rfl (by first | exact rInc rfl rfl rfl (by omega) | exact rAdd rfl rfl rfl (by omega) | exact rAddW rfl rfl rfl) ?_
          refine WL_val rfl rfl rfl (by first | exact rMoveI rfl rfl | exact rMove rfl) ?_
          refine WL_nil ?_
          exact ⟨⟨k + 1, by omega, ⟨rfl, rfl, rfl, by rw [hb1]; rfl, by rw [hb1]; rfl, trivial⟩, hI⟩, by show n - ((k + 1 : Nat) : Int).toNat < n - (k : Int).toNat; omega⟩
    · obtain rfl : k = n := by omega
      refine W_seq ?_
      refine W_region ?_
      refine WL_val rfl rfl rfl (by first | exact rLssT rfl rfl rfl (by omega) | exact rLssF rfl rfl rfl (by omega) | exact rLss rfl rfl rfl) ?_
      refine WL_nil ?_
      refine W_seq ?_
      refine W_cond false rfl ?_
      refine W_exit ?_
      exact ⟨⟨rfl, rfl, rfl, trivial⟩, hI⟩
  clear hI
  rintro ρ w ⟨hH, hI⟩
  obtain ⟨σ, rfl⟩ := hH.open
  cases hbt : bestTo n f n with
  | none =>
    refine W_seq ?_
    refine W_seq ?_
    refine W_region ?_
    refine WL_val rfl rfl rfl (by first | exact rMoveI rfl rfl | exact rMove rfl) ?_
    refine WL_val rfl rfl rfl (by first | exact rLssT rfl rfl rfl (by omega) | exact rLssF rfl rfl rfl (by omega) | exact rLss rfl rfl rfl) ?_
    refine WL_nil ?_
    refine W_cond true rfl ?_
    refine W_seq ?_
    refine W_region ?_
    refine WL_val rfl rfl rfl (rIface rfl Tryd.underlying29 rfl rfl) ?_
    refine WL_val rfl rfl rfl (by first | exact rAsgnS rfl rfl | exact rAsgn rfl) ?_
    refine WL_val rfl rfl rfl (by first | exact rAsgnN rfl rfl | exact rAsgnE rfl rfl | exact rAsgn rfl) ?_
    refine WL_nil ?_
    refine W_ret ?_
    exact ret2 2 3 (.inr rfl) rfl (.inr ⟨by simp [cycF, hbt], no_cyc hbt, rfl, hI.pu⟩)
  | some p =>
    obtain ⟨best, least⟩ := p
    obtain ⟨hb, hl, hl0⟩ := bestTo_some hbt
    have hle := roads_le (n := n) (f := f) (first := best) (by omega) best
    have hcyc := roads_cyc (n := n) (f := f) hb (by omega)
    replace hI : Inv (fun _ => False) w0 w [] := hI
    refine W_seq ?_
    refine W_seq ?_
    refine W_region ?_
    refine WL_val rfl rfl rfl (by first | exact rMoveI rfl rfl | exact rMove rfl) ?_
    refine WL_val rfl rfl rfl (rLssF (a := ((best : Nat) : Int)) rfl rfl rfl (by omega)) ?_
    refine WL_nil ?_
    refine W_cond false rfl ?_
    refine W_skip ?_
    refine W_seq ?_
    refine W_region ?_
    refine WL_val rfl rfl rfl (by first | exact rMoveS rfl rfl | exact rMove rfl) ?_
    refine WL_val rfl rfl rfl (by first | exact rMoveI rfl rfl | exact rMove rfl) ?_
    refine WL_call rfl rfl rfl (rCall (vs := [.slice _ _ _, .int .i64 _]) rfl Tryd.func30 rfl rfl rfl) ?_
    refine (roads_any A n c best f D _ (hG.pure hI.pu) hn hb).mono ?_
    rintro e w1 ⟨ob, rfl, hp, hok, hge⟩
    refine ⟨_, rfl, ?_⟩
    replace hI := hI.fresh hp hok (fun k hk => by have : k = ob := hk; omega)
    refine WL_val rfl rfl rfl (by first | exact rAsgnS rfl rfl | exact rAsgn rfl) ?_
    refine WL_nil ?_
    refine W_seq ?_
    refine W_region ?_
    refine WL_val rfl rfl rfl (by first | exact rMoveI rfl rfl | exact rMove rfl) ?_
    refine WL_lit (vs := [_]) (qs := [(0, .int .i64 _)]) [.int .i64 0] [0] hI rfl rfl rfl rfl rfl rfl Tryd.underlying23 (fun _ => by kernel_rfl) ?_
    clear hI; rintro b50 w - - hI
    refine WL_val rfl rfl rfl (by first | exact rAsgnS rfl rfl | exact rAsgn rfl) ?_
    refine WL_nil ?_
    replace hI : Inv (fun _ => False) w0 w [B b50 3 #[.int .i64 ((best : Nat) : Int)], B ob 3 (numC n (roadsF n f best))] := hI
    have hb50 : w0.heap.size ≤ b50 := (hI.own _ (List.mem_of_getElem? (i := 0) rfl) b50 rfl).resolve_left (fun h => h)
    replace hI := hI.u0 (e' := Row w0.heap.size 3 1 (some ⟨b50, 0, none⟩) 1 1 (natV [best])) (Chg.refl _ _) (Row.of_blk (n := 1) hI.g0 hb50 rfl (by omega)) (fun k hk => .inl (by have : some b50 = some k := hk; injection this with this; exact this.symm))
    have hC0 : CycI n f best least [best] := ⟨by simp, fun v hv => by rw [List.mem_singleton.1 hv]; exact ⟨Nat.le_refl _, hb⟩, rfl, fun i a b _ h2 => by simp at h2, fun i a h => by
      match i, h with
      | 0, h => simp at h; subst h; omega⟩
    refine W_seq ?_
    refine W_block ?_
    refine W_loop (fun ρ w => ∃ (k : Nat) (A' : Option Addr) (c' : Nat), (cycTo n f best least k).length = k + 1 ∧ k + 1 ≤ least ∧ CycI n f best least (cycTo n f best least k) ∧ Has ρ [(10, .slice A' (k + 1) c'), (5, .int .i64 ((best : Nat) : Int)), (6, .int .i64 ((least : Nat) : Int)), (0, .slice A n c), (9, .slice (some ⟨ob, 0, none⟩) n n)] ∧ Inv (fun _ => False) w0 w [Row w0.heap.size 3 1 A' (k + 1) c' (natV (cycTo n f best least k)), B ob 3 (numC n (roadsF n f best))]) (fun ρ _ => least - slen (ρ 10))
      ⟨0, _, _, rfl, by omega, hC0, ⟨rfl, rfl, rfl, rfl, rfl, trivial⟩, hI⟩ ?_
    clear hI
    rintro ρ w ⟨k, A', c', hlen, hkl, hC, hH, hI⟩
    obtain ⟨σ, rfl⟩ := hH.open
    by_cases hlt : k + 1 < least
    · have hlast := hC.last
      rw [hlen] at hlast
      have hlr := hC.rng _ (List.mem_of_getElem? hlast)
      have hnx := hC.next hb (by omega)
      generalize hL : (cycTo n f best least k).getLastD 0 = last at *
      obtain ⟨lb, lo, rfl⟩ := row_addr hI.g0 (by omega)
      have e1 : (natV (cycTo n f best least k))[k + 1 - 1]? = some (.int .i64 ((last : Nat) : Int)) := by simp only [natV, List.getElem?_map, hlast]; rfl
      refine W_seq ?_
      refine W_seq ?_
      refine W_region ?_
      refine WL_val rfl rfl rfl (by first | exact rMoveS rfl rfl | exact rMove rfl) ?_
      refine WL_val rfl rfl rfl (rLen rfl Tryd.underlying23 rfl) ?_
      refine WL_val rfl rfl rfl (by first | exact rMoveI rfl rfl | exact rMove rfl) ?_
      refine WL_val rfl rfl rfl (by first | exact rLssT rfl rfl rfl (by omega) | exact rLssF rfl rfl rfl (by omega) | exact rLss rfl rfl rfl) ?_
      refine WL_nil ?_
      refine W_cond true rfl ?_
      refine W_skip ?_
      refine W_block ?_
      refine W_seq ?_
      refine W_region ?_
      refine WL_val rfl rfl rfl (by first | exact rMoveS rfl rfl | exact rMove rfl) ?_
      refine WL_val rfl rfl rfl (by first | exact rMoveS rfl rfl | exact rMove rfl) ?_
      refine WL_val rfl rfl rfl (rLen rfl Tryd.underlying23 rfl) ?_
      refine WL_val rfl rfl rfl (rSubM (a := k + 1) (b := 1) rfl rfl rfl rfl (by omega) (by omega)) ?_
      refine WL_val rfl rfl rfl (by first | exact rIdx0 rfl Tryd.underlying23 (by kernel_rfl) rfl rfl rfl (by omega) | exact rIdx1 rfl Tryd.underlying23 (by kernel_rfl) rfl rfl (by omega)) ?_
      refine WL_val rfl rfl rfl (by first | exact rLd (v := .int .i64 _) rfl (by kernel_rfl) rfl (by first | exact (row_cell hI.g0 e1)) | exact rLd rfl (by kernel_rfl) rfl (by first | exact (row_cell hI.g0 e1))) ?_
      refine WL_val rfl rfl rfl (by first | exact rAsgnI rfl rfl | exact rAsgn rfl) ?_
      refine WL_nil ?_
      refine W_seq ?_
      refine W_region ?_
      refine WL_val rfl rfl rfl (by first | exact rMoveI rfl rfl | exact rMove rfl) ?_
      refine WL_val rfl rfl rfl (by first | exact rAsgnI rfl rfl | exact rAsgn rfl) ?_
      refine WL_nil ?_
      refine W_block ?_
      refine W_loop (fun ρ w => ∃ (j : Nat), best + j ≤ n ∧ (∀ x, best ≤ x → x < best + j → ¬ (f last x = true ∧ roadsF n f best x + (k + 1) = least)) ∧ Has ρ [(12, .int .i64 ((best + j : Nat) : Int)), (11, .int .i64 ((last : Nat) : Int)), (10, .slice (some ⟨lb, lo, none⟩) (k + 1) c'), (5, .int .i64 ((best : Nat) : Int)), (6, .int .i64 ((least : Nat) : Int)), (0, .slice A n c), (9, .slice (some ⟨ob, 0, none⟩) n n)] ∧ Inv (fun _ => False) w0 w [Row w0.heap.size 3 1 (some ⟨lb, lo, none⟩) (k + 1) c' (natV (cycTo n f best least k)), B ob 3 (numC n (roadsF n f best))]) (fun ρ _ => n - cnt (ρ 12))
        ⟨0, by omega, fun x h1 h2 => by omega, ⟨rfl, rfl, rfl, rfl, rfl, rfl, rfl, trivial⟩, hI⟩ ?_
      clear hI
      rintro ρ w ⟨j, hj, hno, hH, hI⟩
      obtain ⟨σ, rfl⟩ := hH.open
      have hjn : best + j < n := by
        obtain ⟨v, v1, v2, v3, v4⟩ := hnx
        rcases Nat.lt_or_ge (best + j) n with h | h
        · exact h
        · exact absurd ⟨v3, by omega⟩ (hno v v1 (by omega))
      obtain ⟨gb, go, rfl, _, hrow⟩ := hG.get (by omega)
      obtain ⟨rb, ro, c'', q1, q2, q3, _, q4⟩ := hrow last hlr.2
      have q5 := q4 (best + j) hjn
      have q6 := numC_get (roadsF n f best) hjn
      refine W_seq ?_
      refine W_seq ?_
      refine W_region ?_
      refine WL_val rfl rfl rfl (by first | exact rMoveI rfl rfl | exact rMove rfl) ?_
      refine WL_val rfl rfl rfl (by first | exact rMoveS rfl rfl | exact rMove rfl) ?_
      refine WL_val rfl rfl rfl (rLen rfl Tryd.underlying33 rfl) ?_
      refine WL_val rfl rfl rfl (by first | exact rLssT rfl rfl rfl (by omega) | exact rLssF rfl rfl rfl (by omega) | exact rLss rfl rfl rfl) ?_
      refine WL_nil ?_
      refine W_cond true rfl ?_
      refine W_skip ?_
      refine W_seq ?_
      refine W_block ?_
      by_cases hm : f last (best + j) = true ∧ roadsF n f best (best + j) + (k + 1) = least
      · obtain ⟨hm1, hm2⟩ := hm
        rw [hm1] at q5
        refine W_seq ?_
        refine W_region ?_
        refine WL_val rfl rfl rfl (by first | exact rMoveS rfl rfl | exact rMove rfl) ?_
        refine WL_val rfl rfl rfl (by first | exact rMoveI rfl rfl | exact rMove rfl) ?_
        refine WL_val rfl rfl rfl (by first | exact rIdx0 rfl Tryd.underlying33 (by kernel_rfl) rfl rfl rfl (by omega) | exact rIdx1 rfl Tryd.underlying33 (by kernel_rfl) rfl rfl (by omega)) ?_
        refine WL_val rfl rfl rfl (by first | exact rLd (v := .slice _ _ _) rfl (by kernel_rfl) rfl (by first | exact hI.oldp q1 | exact q1 | exact hI.oldp q5 | exact q5 | exact (hI.c1 q6)) | exact rLd rfl (by kernel_rfl) rfl (by first | exact hI.oldp q1 | exact q1 | exact hI.oldp q5 | exact q5 | exact (hI.c1 q6))) ?_
        refine WL_val rfl rfl rfl (by first | exact rMoveI rfl rfl | exact rMove rfl) ?_
        refine WL_val rfl rfl rfl (by first | exact rIdx0 rfl Tryd.underlying37 (by kernel_rfl) rfl rfl rfl (by omega) | exact rIdx1 rfl Tryd.underlying37 (by kernel_rfl) rfl rfl (by omega)) ?_
        refine WL_val rfl rfl rfl (by first | exact rLd (v := .bool _) rfl (by kernel_rfl) rfl (by first | exact hI.oldp q1 | exact q1 | exact hI.oldp q5 | exact q5 | exact (hI.c1 q6)) | exact rLd rfl (by kernel_rfl) rfl (by first | exact hI.oldp q1 | exact q1 | exact hI.oldp q5 | exact q5 | exact (hI.c1 q6))) ?_
        refine WL_val rfl rfl rfl (by first | exact rMoveB rfl rfl | exact rMove rfl) ?_
        first | refine WL_val rfl rfl rfl (by first | exact rMoveS rfl rfl | exact rMove rfl) ?_ | refine WL_skip rfl rfl rfl ?_
        first | refine WL_val rfl rfl rfl (by first | exact rMoveI rfl rfl | exact rMove rfl) ?_ | refine WL_skip rfl rfl rfl ?_
        first | refine WL_val rfl rfl rfl (by first | exact rIdx0 rfl Tryd.underlying23 (by kernel_rfl) rfl rfl rfl (by omega) | exact rIdx1 rfl Tryd.underlying23 (by kernel_rfl) rfl rfl (by omega)) ?_ | refine WL_skip rfl rfl rfl ?_
        first | refine WL_val rfl rfl rfl (by first | exact rLd (v := .int .i64 _) rfl (by kernel_rfl) rfl (by first | exact hI.oldp q1 | exact q1 | exact hI.oldp q5 | exact q5 | exact (hI.c1 q6)) | exact rLd rfl (by kernel_rfl) rfl (by first | exact hI.oldp q1 | exact q1 | exact hI.oldp q5 | exact q5 | exact (hI.c1 q6))) ?_ | refine WL_skip rfl rfl rfl ?_
        first | refine WL_val rfl rfl rfl (by first | exact rMoveI rfl rfl | exact rMove rfl) ?_ | refine WL_skip rfl rfl rfl ?_
        first | refine WL_val rfl rfl rfl (by first | exact rMoveS rfl rfl | exact rMove rfl) ?_ | refine WL_skip rfl rfl rfl ?_
        first | refine WL_val rfl rfl rfl (rLen rfl Tryd.underlying23 rfl) ?_ | refine WL_skip rfl rfl rfl ?_
        first | refine WL_val rfl rfl rfl (by first | exact rSub rfl rfl rfl (by omega) | exact rSubW rfl rfl rfl) ?_ | refine WL_skip rfl rfl rfl ?_
        first | refine WL_val rfl rfl rfl (by first | exact rEqlT rfl rfl rfl (by omega) | exact rEqlF rfl rfl rfl (by omega) | exact rEql rfl rfl rfl) ?_ | refine WL_skip rfl rfl rfl ?_
        refine WL_val rfl rfl rfl (by first | exact rPickTB rfl rfl rfl | exact rPickFB rfl rfl rfl | exact rPickB rfl rfl rfl rfl) ?_
        refine WL_nil ?_
        refine W_cond true rfl ?_
        refine W_seq ?_
        refine W_region ?_
        refine WL_val rfl rfl rfl (by first | exact rMoveS rfl rfl | exact rMove rfl) ?_
        refine WL_val rfl rfl rfl (by first | exact rMoveI rfl rfl | exact rMove rfl) ?_
        refine WL_lit (vs := [_]) (qs := [(0, .int .i64 _)]) [.int .i64 0] [0] hI rfl rfl rfl rfl rfl rfl Tryd.underlying23 (fun _ => by kernel_rfl) ?_
        clear hI; rintro b88 w - - hI
        first | refine WL_app1 (z := .int .i64 0) (by_ := 8) hI rfl rfl rfl rfl rfl rfl Tryd.underlying23 (by kernel_rfl) rfl (by omega) (by rfl) hI.lit0 (by first | rfl | simp [i64s, Value.oneCell']) (by omega) (by omega) (by first | exact Nat.zero_le _ | (have := hI.chg.size; omega)) ?_ | refine WL_app2 (z := .int .i64 0) (by_ := 8) hI rfl rfl rfl rfl rfl rfl Tryd.underlying23 (by kernel_rfl) rfl (by omega) (by rfl) hI.lit0 (by first | rfl | simp [i64s, Value.oneCell']) (by omega) (by omega) (by first | exact Nat.zero_le _ | (have := hI.chg.size; omega)) ?_ | refine WL_app3 (z := .int .i64 0) (by_ := 8) hI rfl rfl rfl rfl rfl rfl Tryd.underlying23 (by kernel_rfl) rfl (by omega) (by rfl) hI.lit0 (by first | rfl | simp [i64s, Value.oneCell']) (by omega) (by omega) (by first | exact Nat.zero_le _ | (have := hI.chg.size; omega)) ?_ | refine WL_app4 (z := .int .i64 0) (by_ := 8) hI rfl rfl rfl rfl rfl rfl Tryd.underlying23 (by kernel_rfl) rfl (by omega) (by rfl) hI.lit0 (by first | rfl | simp [i64s, Value.oneCell']) (by omega) (by omega) (by first | exact Nat.zero_le _ | (have := hI.chg.size; omega)) ?_ | refine WL_app5 (z := .int .i64 0) (by_ := 8) hI rfl rfl rfl rfl rfl rfl Tryd.underlying23 (by kernel_rfl) rfl (by omega) (by rfl) hI.lit0 (by first | rfl | simp [i64s, Value.oneCell']) (by omega) (by omega) (by first | exact Nat.zero_le _ | (have := hI.chg.size; omega)) ?_
        clear hI; rintro A89 c89 w hA89 hc89 hI
        replace hI := hI.d0
        refine WL_val rfl rfl rfl (by first | exact rAsgnS rfl rfl | exact rAsgn rfl) ?_
        refine WL_nil ?_
        refine W_exit ?_
        have hnext : nextC n f best least (cycTo n f best least k) = some (best + j) := cycTo_next (by omega) hjn (by rw [hL]; exact hm1) (by rw [hlen]; omega) (fun x h1 h2 => by rw [hL, hlen]; exact hno x h1 h2)
        have hct : cycTo n f best least (k + 1) = cycTo n f best least k ++ [best + j] := by rw [cycTo, hnext]
        have e2 : natV (cycTo n f best least k ++ [best + j]) = natV (cycTo n f best least k) ++ [.int .i64 ((best + j : Nat) : Int)] := by simp [natV]
        refine ⟨⟨k + 1, A89, c89, by rw [hct]; simp [hlen], by omega, ?_, ⟨rfl, rfl, rfl, rfl, rfl, trivial⟩, ?_⟩, by show least - (k + 1 + 1) < least - (k + 1); omega⟩
        · rw [hct]
          exact hC.step (by omega) hjn (by rw [hL]; exact hm1) (by rw [hlen]; omega)
        · rw [hct, e2]
          exact hI
      · have hno' : ∀ x, best ≤ x → x < best + (j + 1) → ¬ (f last x = true ∧ roadsF n f best x + (k + 1) = least) := fun x h1 h2 => by
          rcases Nat.lt_or_ge x (best + j) with h | h
          · exact hno x h1 h
          · have : x = best + j := by omega
            subst this; exact hm
        cases hfv : f last (best + j) with
        | false =>
          rw [hfv] at q5
          refine W_seq ?_
          refine W_region ?_
          refine WL_val rfl rfl rfl (by first | exact rMoveS rfl rfl | exact rMove rfl) ?_
          refine WL_val rfl rfl rfl (by first | exact rMoveI rfl rfl | exact rMove rfl) ?_
          refine WL_val rfl rfl rfl (by first | exact rIdx0 rfl Tryd.underlying33 (by kernel_rfl) rfl rfl rfl (by omega) | exact rIdx1 rfl Tryd.underlying33 (by kernel_rfl) rfl rfl (by omega)) ?_
          refine WL_val rfl rfl rfl (by first | exact rLd (v := .slice _ _ _) rfl (by kernel_rfl) rfl (by first | exact hI.oldp q1 | exact q1 | exact hI.oldp q5 | exact q5) | exact rLd rfl (by kernel_rfl) rfl (by first | exact hI.oldp q1 | exact q1 | exact hI.oldp q5 | exact q5)) ?_
          refine WL_val rfl rfl rfl (by first | exact rMoveI rfl rfl | exact rMove rfl) ?_
          refine WL_val rfl rfl rfl (by first | exact rIdx0 rfl Tryd.underlying37 (by kernel_rfl) rfl rfl rfl (by omega) | exact rIdx1 rfl Tryd.underlying37 (by kernel_rfl) rfl rfl (by omega)) ?_
          refine WL_val rfl rfl rfl (by first | exact rLd (v := .bool _) rfl (by kernel_rfl) rfl (by first | exact hI.oldp q1 | exact q1 | exact hI.oldp q5 | exact q5) | exact rLd rfl (by kernel_rfl) rfl (by first | exact hI.oldp q1 | exact q1 | exact hI.oldp q5 | exact q5)) ?_
          refine WL_val rfl rfl rfl (by first | exact rMoveB rfl rfl | exact rMove rfl) ?_
          first | refine WL_val rfl rfl rfl (by first | exact rMoveS rfl rfl | exact rMove rfl) ?_ | refine WL_skip rfl rfl rfl ?_
          first | refine WL_val rfl rfl rfl (by first | exact rMoveI rfl rfl | exact rMove rfl) ?_ | refine WL_skip rfl rfl rfl ?_
          first | refine WL_val rfl rfl rfl (by first | exact rIdx0 rfl Tryd.underlying23 (by kernel_rfl) rfl rfl rfl (by omega) | exact rIdx1 rfl Tryd.underlying23 (by kernel_rfl) rfl rfl (by omega)) ?_ | refine WL_skip rfl rfl rfl ?_
          first | refine WL_val rfl rfl rfl (by first | exact rLd (v := .int .i64 _) rfl (by kernel_rfl) rfl (by first | exact hI.oldp q1 | exact q1 | exact hI.oldp q5 | exact q5) | exact rLd rfl (by kernel_rfl) rfl (by first | exact hI.oldp q1 | exact q1 | exact hI.oldp q5 | exact q5)) ?_ | refine WL_skip rfl rfl rfl ?_
          first | refine WL_val rfl rfl rfl (by first | exact rMoveI rfl rfl | exact rMove rfl) ?_ | refine WL_skip rfl rfl rfl ?_
          first | refine WL_val rfl rfl rfl (by first | exact rMoveS rfl rfl | exact rMove rfl) ?_ | refine WL_skip rfl rfl rfl ?_
          first | refine WL_val rfl rfl rfl (rLen rfl Tryd.underlying23 rfl) ?_ | refine WL_skip rfl rfl rfl ?_
          first | refine WL_val rfl rfl rfl (by first | exact rSub rfl rfl rfl (by omega) | exact rSubW rfl rfl rfl) ?_ | refine WL_skip rfl rfl rfl ?_
          first | refine WL_val rfl rfl rfl (by first | exact rEqlT rfl rfl rfl (by omega) | exact rEqlF rfl rfl rfl (by omega) | exact rEql rfl rfl rfl) ?_ | refine WL_skip rfl rfl rfl ?_
          refine WL_val rfl rfl rfl (by first | exact rPickTB rfl rfl rfl | exact rPickFB rfl rfl rfl | exact rPickB rfl rfl rfl rfl) ?_
          refine WL_nil ?_
          refine W_cond false rfl ?_
          refine W_skip ?_
          refine W_region ?_
          refine WL_val rfl rfl rfl (by first | exact rMoveI rfl rfl | exact rMove rfl) ?_
          refine WL_val rfl rfl rfl (by first | exact rInc rfl rfl rfl (by omega) | exact rAdd rfl rfl rfl (by omega) | exact rAddW rfl rfl rfl) ?_
          refine WL_val rfl rfl rfl (by first | exact rAsgnI rfl rfl | exact rAsgn rfl) ?_
          refine WL_nil ?_
          exact ⟨⟨j + 1, by omega, hno', ⟨rfl, rfl, rfl, rfl, rfl, rfl, rfl, trivial⟩, hI⟩, by show n - ((best + j + 1 : Nat) : Int).toNat < n - ((best + j : Nat) : Int).toNat; omega⟩
        | true =>
          have hm2 : ¬ roadsF n f best (best + j) + (k + 1) = least := fun h => hm ⟨hfv, h⟩
          rw [hfv] at q5
          refine W_seq ?_
          refine W_region ?_
          refine WL_val rfl rfl rfl (by first | exact rMoveS rfl rfl | exact rMove rfl) ?_
          refine WL_val rfl rfl rfl (by first | exact rMoveI rfl rfl | exact rMove rfl) ?_
          refine WL_val rfl rfl rfl (by first | exact rIdx0 rfl Tryd.underlying33 (by kernel_rfl) rfl rfl rfl (by omega) | exact rIdx1 rfl Tryd.underlying33 (by kernel_rfl) rfl rfl (by omega)) ?_
          refine WL_val rfl rfl rfl (by first | exact rLd (v := .slice _ _ _) rfl (by kernel_rfl) rfl (by first | exact hI.oldp q1 | exact q1 | exact hI.oldp q5 | exact q5 | exact (hI.c1 q6)) | exact rLd rfl (by kernel_rfl) rfl (by first | exact hI.oldp q1 | exact q1 | exact hI.oldp q5 | exact q5 | exact (hI.c1 q6))) ?_
          refine WL_val rfl rfl rfl (by first | exact rMoveI rfl rfl | exact rMove rfl) ?_
          refine WL_val rfl rfl rfl (by first | exact rIdx0 rfl Tryd.underlying37 (by kernel_rfl) rfl rfl rfl (by omega) | exact rIdx1 rfl Tryd.underlying37 (by kernel_rfl) rfl rfl (by omega)) ?_
          refine WL_val rfl rfl rfl (by first | exact rLd (v := .bool _) rfl (by kernel_rfl) rfl (by first | exact hI.oldp q1 | exact q1 | exact hI.oldp q5 | exact q5 | exact (hI.c1 q6)) | exact rLd rfl (by kernel_rfl) rfl (by first | exact hI.oldp q1 | exact q1 | exact hI.oldp q5 | exact q5 | exact (hI.c1 q6))) ?_
          refine WL_val rfl rfl rfl (by first | exact rMoveB rfl rfl | exact rMove rfl) ?_
          first | refine WL_val rfl rfl rfl (by first | exact rMoveS rfl rfl | exact rMove rfl) ?_ | refine WL_skip rfl rfl rfl ?_
          first | refine WL_val rfl rfl rfl (by first | exact rMoveI rfl rfl | exact rMove rfl) ?_ | refine WL_skip rfl rfl rfl ?_
          first | refine WL_val rfl rfl rfl (by first | exact rIdx0 rfl Tryd.underlying23 (by kernel_rfl) rfl rfl rfl (by omega) | exact rIdx1 rfl Tryd.underlying23 (by kernel_rfl) rfl rfl (by omega)) ?_ | refine WL_skip rfl rfl rfl ?_
          first | refine WL_val rfl rfl rfl (by first | exact rLd (v := .int .i64 _) rfl (by kernel_rfl) rfl (by first | exact hI.oldp q1 | exact q1 | exact hI.oldp q5 | exact q5 | exact (hI.c1 q6)) | exact rLd rfl (by kernel_rfl) rfl (by first | exact hI.oldp q1 | exact q1 | exact hI.oldp q5 | exact q5 | exact (hI.c1 q6))) ?_ | refine WL_skip rfl rfl rfl ?_
          first | refine WL_val rfl rfl rfl (by first | exact rMoveI rfl rfl | exact rMove rfl) ?_ | refine WL_skip rfl rfl rfl ?_
          first | refine WL_val rfl rfl rfl (by first | exact rMoveS rfl rfl | exact rMove rfl) ?_ | refine WL_skip rfl rfl rfl ?_
          first | refine WL_val rfl rfl rfl (rLen rfl Tryd.underlying23 rfl) ?_ | refine WL_skip rfl rfl rfl ?_
          first | refine WL_val rfl rfl rfl (by first | exact rSub rfl rfl rfl (by omega) | exact rSubW rfl rfl rfl) ?_ | refine WL_skip rfl rfl rfl ?_
          first | refine WL_val rfl rfl rfl (by first | exact rEqlT rfl rfl rfl (by omega) | exact rEqlF rfl rfl rfl (by omega) | exact rEql rfl rfl rfl) ?_ | refine WL_skip rfl rfl rfl ?_
          refine WL_val rfl rfl rfl (by first | exact rPickTB rfl rfl rfl | exact rPickFB rfl rfl rfl | exact rPickB rfl rfl rfl rfl) ?_
          refine WL_nil ?_
          refine W_cond false rfl ?_
          refine W_skip ?_
          refine W_region ?_
          refine WL_val rfl rfl rfl (by first | exact rMoveI rfl rfl | exact rMove rfl) ?_
          refine WL_val rfl rfl rfl (by first | exact rInc rfl rfl rfl (by omega) | exact rAdd rfl rfl rfl (by omega) | exact rAddW rfl rfl rfl) ?_
          refine WL_val rfl rfl rfl (by first | exact rAsgnI rfl rfl | exact rAsgn rfl) ?_
          refine WL_nil ?_
          exact ⟨⟨j + 1, by omega, hno', ⟨rfl, rfl, rfl, rfl, rfl, rfl, rfl, trivial⟩, hI⟩, by show n - ((best + j + 1 : Nat) : Int).toNat < n - ((best + j : Nat) : Int).toNat; omega⟩
    · have hk : k = least - 1 := by omega
      refine W_seq ?_
      refine W_seq ?_
      refine W_region ?_
      refine WL_val rfl rfl rfl (by first | exact rMoveS rfl rfl | exact rMove rfl) ?_
      refine WL_val rfl rfl rfl (rLen rfl Tryd.underlying23 rfl) ?_
      refine WL_val rfl rfl rfl (by first | exact rMoveI rfl rfl | exact rMove rfl) ?_
      refine WL_val rfl rfl rfl (by first | exact rLssT rfl rfl rfl (by omega) | exact rLssF rfl rfl rfl (by omega) | exact rLss rfl rfl rfl) ?_
      refine WL_nil ?_
      refine W_cond false rfl ?_
      refine W_exit ?_
      refine W_seq ?_
      refine W_region ?_
      refine WL_val rfl rfl rfl (by first | exact rMoveS rfl rfl | exact rMove rfl) ?_
      refine WL_val rfl rfl rfl (by first | exact rAsgnS rfl rfl | exact rAsgn rfl) ?_
      refine WL_val rfl rfl rfl (by first | exact rAsgnN rfl rfl | exact rAsgnE rfl rfl | exact rAsgn rfl) ?_
      refine WL_nil ?_
      refine W_ret ?_
      refine ret2 2 3 (.inr rfl) rfl (.inl ⟨cycTo n f best least k, A', c', by simp [cycF, hbt, hk], hC.end hb (by omega), hcyc, by rw [hlen]; rfl, ?_, hI.pu⟩)
      rw [hlen]
      exact hI.g0
end Go.Proofs.YtgkmlnbnjbpodaaDoor
