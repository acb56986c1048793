/- isolate: empty, together, round, back. -/
import Derived.Test.YtlnjmkldpicpdaaDoorGraph2
namespace Go.Proofs.YtlnjmkldpicpdaaDoor
open Go.RowKit
set_option linter.unusedVariables false
set_option linter.unusedSimpArgs false

set_option maxHeartbeats 1000000 in
set_option maxRecDepth 100000 in
theorem iempty_any (n : Nat) (w : World) (hn : n ≤ 40) :
    Calls Tryd.prog 27 #[.int .i64 n] w fun e w' => e = .returned (.slice (some ⟨w.heap.size, 0, none⟩) n n) ∧ RelM w n (fun _ _ => false) w' := by
  obtain ⟨i1, hi1, hy0, hy1, hy2⟩ := info_parts ginfoBool
  obtain ⟨i2, hi2, hx0, hx1, hx2⟩ := info_parts ginfoBools
  have hmk := fun W => run_make_rep (P := Tryd.prog) 41 47 i2 (.slice none 0 0) Tryd.underlying41 hi2 hx0 rfl hx1 n (by rw [hx2]; omega) (by omega) W
  have hmk2 := fun W => run_make_rep (P := Tryd.prog) 47 4 i1 (.bool false) Tryd.underlying47 hi1 hy0 rfl hy1 n (by rw [hy2]; omega) (by omega) W
  go_enter Tryd.func27, Tryd.ntmps27
  go_wp2
  go_loopw [4, 9] (fun _ i wr => ∃ k : Nat, k ≤ n ∧ i = .int .i64 k ∧ RelC w n (fun _ _ => false) k wr) (fun _ i _ => n - (intOf i).toNat)
  case atStart => exact ⟨0, by omega, rfl, [], MGp.start (Blk.new w _ _), rfl, fun i r h => by simp at h, (Pure.refl w).alloc _⟩
  case round =>
    obtain ⟨k, hk, rfl, hrel⟩ := hrel
    have HR := Lib.hid hrel
    clear hrel
    by_cases hkn : k < n
    · have hkn' : (k : Int) < (n : Int) := by omega
      have hob : ∃ cs, Blk wr w.heap.size 47 cs ∧ k < cs.size := by
        obtain ⟨rbs, h1, h2, _⟩ := HR.out
        exact ⟨_, h1.out, by simp [outC]; omega⟩
      obtain ⟨cs, hcs, hcsz⟩ := hob
      have hsz := hcs.lt
      obtain ⟨u0, c0⟩ : ∃ u, wr.cell? ⟨w.heap.size, k, none⟩ = some u := ⟨_, by rw [hcs.cell]; exact Array.getElem?_eq_getElem hcsz⟩
      have f0 := hcs.frozen k
      clear hcs hcsz
      go_wp2
      have HR2 := Lib.hid (relC_next HR.out hkn ((Pure.refl wr).alloc (.cells (rep (.bool false) n) 4)) (by rw [← rep_row]; exact Blk.new wr _ _))
      rw [World.setCell_alloc_past _ _ _ _ hsz] at HR2
      go_roundw
      case rel => exact ⟨k + 1, by omega, by go_num, HR2.out⟩
      case measure => simp [intOf]; omega
    · obtain rfl : k = n := by omega
      go_wp2
      go_ret
      exact ⟨rfl, relM_of_relC HR.out⟩

def IsErrOr (b : Bool) (v : Value) : Prop := (b = true ∧ v = .nilIface) ∨ (b = false ∧ IsErr v)

set_option maxHeartbeats 400000 in
theorem iround_any (A : Option Addr) (c n : Nat) (f : Nat → Nat → Bool) (D : Nat → Prop) (w : World) (h : SqG w D (.slice A n c) n f) (hn : n ≤ 40) :
    Calls Tryd.prog 31 #[.slice A n c] w fun e w' => e = .returned (.bool (orderF n f).isNone) ∧ Pure w w' := by
  have HS := Lib.hid h
  clear h
  go_enter Tryd.func31, Tryd.ntmps31
  go_wp2_with fail
  refine (gorder_any _ _ _ _ _ _ HS.out hn).mono ?_
  rintro e w' (⟨l, v, h1, rfl, h2, h3⟩ | ⟨h1, ⟨x, ⟨u, rfl⟩, rfl⟩, h3⟩)
  · have H1 := Lib.hid h1
    have H3 := Lib.hid h3
    clear h1 h2 h3
    go_wp2
    go_ret
    exact ⟨ret_bool (by rw [H1.out]; rfl), H3.out⟩
  · have H1 := Lib.hid h1
    have H3 := Lib.hid h3
    clear h1 h3
    go_wp2
    go_ret
    exact ⟨ret_bool (by rw [H1.out]; rfl), H3.out⟩

/-! ### back -/
def backRow (n : Nat) (g cl : Nat → Nat → Bool) (i k : Nat) : Bool := (List.range k).any fun y => g i y && cl y i
def backTo (n : Nat) (g cl : Nat → Nat → Bool) (i : Nat) : Bool := (List.range i).any fun x => backRow n g cl x n
theorem backRow_succ (n : Nat) (g cl : Nat → Nat → Bool) (i k : Nat) : backRow n g cl i (k + 1) = (backRow n g cl i k || (g i k && cl k i)) := by simp [backRow, List.range_succ]
theorem backTo_succ (n : Nat) (g cl : Nat → Nat → Bool) (i : Nat) : backTo n g cl (i + 1) = (backTo n g cl i || backRow n g cl i n) := by simp [backTo, List.range_succ]
theorem backTo_found {n : Nat} {g cl : Nat → Nat → Bool} {i k : Nat} (hi : i < n) (hk : k < n) (h1 : g i k = true) (h2 : cl k i = true) : backTo n g cl n = true := by
  unfold backTo
  rw [List.any_eq_true]
  refine ⟨i, List.mem_range.2 hi, ?_⟩
  unfold backRow
  rw [List.any_eq_true]
  exact ⟨k, List.mem_range.2 hk, by rw [h1, h2]; rfl⟩

set_option maxHeartbeats 1000000 in
theorem iback_any (A : Option Addr) (c n : Nat) (g : Nat → Nat → Bool) (D : Nat → Prop) (A' : Option Addr) (c' : Nat) (by_ : Nat → Nat → Bool) (D' : Nat → Prop) (w : World) (h : SqG w D (.slice A n c) n g) (h' : SqG w D' (.slice A' n c') n by_) (hn : n ≤ 40) :
    Calls Tryd.prog 32 #[.slice A n c, .slice A' n c'] w fun e w' => e = .returned (.bool (backTo n g (closF n by_) n)) ∧ Pure w w' := by
  have HS := Lib.hid h
  have HS' := Lib.hid h'
  clear h h'
  go_enter Tryd.func32, Tryd.ntmps32
  go_wp2_with fail
  refine (gclosed_any _ _ _ _ _ _ HS'.out hn).mono ?_
  rintro e w1 ⟨rfl, hm⟩
  have hP : Pure w w1 := by obtain ⟨_, _, _, h⟩ := hm; exact h
  have HC := Lib.hid (hm.toSq (by omega))
  have HG := Lib.hid (HS.out.pure hP)
  have HP := Lib.hid hP
  clear hm hP
  generalize hcl : closF n by_ = cl at *
  have HCL := Lib.hid hcl
  clear hcl
  go_wp2
  go_loop [7, 8, 18] (fun _ _ i => ∃ k : Nat, k ≤ n ∧ i = .int .i64 k ∧ backTo n g cl k = false) (fun _ _ i => n - (intOf i).toNat)
  case atStart => exact ⟨0, by omega, rfl, rfl⟩
  case round =>
    obtain ⟨i, hi, rfl, hno⟩ := hrel
    have HNO := Lib.hid hno
    clear hno
    by_cases hin : i < n
    · have hin' : (i : Int) < (n : Int) := by omega
      obtain ⟨b, o, rfl, _, hr⟩ := HG.out.get (show 0 < n by omega)
      obtain ⟨rb, ro, cr, q1, q2, q3, q4, q5⟩ := hr i hin
      have HR := Lib.hid q5
      clear hr q5
      go_wp2
      go_loop [9, 10, 25] (fun _ _ i' => ∃ k : Nat, k ≤ n ∧ i' = .int .i64 k ∧ backRow n g cl i k = false) (fun _ _ i => n - (intOf i).toNat)
      case atStart => exact ⟨0, by omega, rfl, rfl⟩
      case round =>
        obtain ⟨k, hk, rfl, hno⟩ := hrel
        have HNK := Lib.hid hno
        clear hno
        by_cases hkn : k < n
        · have hkn' : (k : Int) < (n : Int) := by omega
          have x1 := HR.out k hkn
          obtain ⟨cb, co, ec, _, hcr⟩ := HC.out.get (show 0 < n by omega)
          injection ec with ec
          injection ec with ec1 ec2
          subst ec1 ec2
          obtain ⟨sb, so, cs, s1, _, _, _, s5⟩ := hcr k hkn
          have x2 := s5 i hin
          clear hcr s5
          simp only [Nat.zero_add] at s1
          have HF : Hid (g i k = true → cl k i = true → backTo n g cl n = true) := fun h1 h2 => backTo_found hin hkn h1 h2
          have HS2 := Lib.hid (backRow_succ n g cl i k)
          generalize g i k = b1 at *
          generalize cl k i = b2 at *
          cases b1 <;> cases b2
          · go_wp2
            go_round
            case rel => first | exact ⟨k + 1, by omega, by go_num, by rw [HS2.out, HNK.out]; rfl⟩ | ((repeat apply Exists.intro); exact ⟨⟨k + 1, by omega, by go_num, by rw [HS2.out, HNK.out]; rfl⟩, rfl⟩)
            case measure => simp [intOf]; omega
          · go_wp2
            go_round
            case rel => first | exact ⟨k + 1, by omega, by go_num, by rw [HS2.out, HNK.out]; rfl⟩ | ((repeat apply Exists.intro); exact ⟨⟨k + 1, by omega, by go_num, by rw [HS2.out, HNK.out]; rfl⟩, rfl⟩)
            case measure => simp [intOf]; omega
          · go_wp2
            go_round
            case rel => first | exact ⟨k + 1, by omega, by go_num, by rw [HS2.out, HNK.out]; rfl⟩ | ((repeat apply Exists.intro); exact ⟨⟨k + 1, by omega, by go_num, by rw [HS2.out, HNK.out]; rfl⟩, rfl⟩)
            case measure => simp [intOf]; omega
          · have hf := HF.out rfl rfl
            have HFF := Lib.hid hf
            clear hf
            go_wp2
            go_ret
            exact ⟨ret_bool (by rw [HCL.out, HFF.out]), HP.out⟩
        · obtain rfl : k = n := by omega
          have HT := Lib.hid (backTo_succ k g cl i)
          go_wp2
          go_round
          case rel => first | exact ⟨i + 1, by omega, by go_num, by rw [HT.out, HNO.out, HNK.out]; rfl⟩ | ((repeat apply Exists.intro); exact ⟨⟨i + 1, by omega, by go_num, by rw [HT.out, HNO.out, HNK.out]; rfl⟩, rfl⟩)
          case measure => simp [intOf]; omega
    · obtain rfl : i = n := by omega
      go_wp2
      go_ret
      exact ⟨ret_bool (by rw [HCL.out, HNO.out]), HP.out⟩

/-! ### together -/
/-- The slice value v is a list of grids. -/
def Graphs (w : World) (D : Nat → Prop) (v : Value) (n : Nat) (fs : List (Nat → Nat → Bool)) : Prop :=
  ∃ gs : List Value, Rd w D 1 v fs.length gs ∧ ∀ (i : Nat) f, fs[i]? = some f → ∃ g, gs[i]? = some g ∧ SqG w D g n f
theorem Graphs.pure {w w' : World} {D : Nat → Prop} {v : Value} {n : Nat} {fs : List (Nat → Nat → Bool)} (h : Graphs w D v n fs) (hp : Pure w w') : Graphs w' D v n fs := by
  obtain ⟨gs, h1, h2⟩ := h
  refine ⟨gs, h1.pure hp, fun i f hf => ?_⟩
  obtain ⟨g, h3, h4⟩ := h2 i f hf
  exact ⟨g, h3, h4.pure hp⟩
theorem Graphs.get {w : World} {D : Nat → Prop} {A : Option Addr} {m c n : Nat} {fs : List (Nat → Nat → Bool)} (h : Graphs w D (.slice A m c) n fs) {i : Nat} {f : Nat → Nat → Bool} (hi : fs[i]? = some f) :
    ∃ b o A' c', A = some ⟨b, o, none⟩ ∧ w.cell? ⟨b, o + i, none⟩ = some (.slice A' n c') ∧ SqG w D (.slice A' n c') n f := by
  obtain ⟨gs, h1, h2⟩ := h
  obtain ⟨g, h3, h4⟩ := h2 i f hi
  have hl := (List.getElem?_eq_some_iff.1 hi).1
  obtain ⟨b, o, c0, hv, hD, _, _, hc⟩ := h1.at_ h3 (by omega)
  injection hv with ha _ _
  obtain ⟨A', c', rfl, _, _⟩ := h4.form
  exact ⟨b, o, A', c', ha, hc, h4⟩
def orAll (fs : List (Nat → Nat → Bool)) : Nat → Nat → Bool := fun x y => fs.any fun f => f x y
/-- How far together is: the graphs ahead of the a-th, and of that one the rows ahead of row i and of row i the cells ahead of k. -/
def orTo (fs : List (Nat → Nat → Bool)) (f : Nat → Nat → Bool) (a i k : Nat) : Nat → Nat → Bool := fun x y => orAll (fs.take a) x y || ((decide (x < i) || (decide (x = i) && decide (y < k))) && f x y)
theorem orTo_step (fs : List (Nat → Nat → Bool)) (f : Nat → Nat → Bool) (a i k x y : Nat) : (if x = i ∧ y = k then (orTo fs f a i k i k || f i k) else orTo fs f a i k x y) = orTo fs f a i (k + 1) x y := by
  unfold orTo
  by_cases h : x = i ∧ y = k
  · obtain ⟨rfl, rfl⟩ := h
    simp
  · rw [if_neg h]
    have : (decide (x < i) || (decide (x = i) && decide (y < k))) = (decide (x < i) || (decide (x = i) && decide (y < k + 1))) := by
      by_cases h1 : x = i
      · have h2 : ¬ y = k := fun e => h ⟨h1, e⟩
        have h3 : (y < k) ↔ (y < k + 1) := by omega
        simp [h1, h3]
      · simp [h1]
    rw [this]
theorem orTo_row (fs : List (Nat → Nat → Bool)) (f : Nat → Nat → Bool) (a i n x y : Nat) (hy : y < n) : orTo fs f a i n x y = orTo fs f a (i + 1) 0 x y := by
  unfold orTo
  have : (decide (x < i) || (decide (x = i) && decide (y < n))) = (decide (x < i + 1) || (decide (x = i + 1) && decide (y < 0))) := by
    have h3 : (x < i + 1) ↔ (x < i ∨ x = i) := by omega
    simp [hy, h3]
  rw [this]
theorem orTo_next {fs : List (Nat → Nat → Bool)} {f : Nat → Nat → Bool} {a n x y : Nat} (hf : fs[a]? = some f) (hx : x < n) : orTo fs f a n 0 x y = orAll (fs.take (a + 1)) x y := by
  have hl := List.getElem?_eq_some_iff.1 hf
  have e : fs.take (a + 1) = fs.take a ++ [f] := by rw [List.take_succ_eq_append_getElem hl.1, hl.2]
  unfold orTo orAll
  rw [e, List.any_append]
  simp [hx]
theorem orTo_zero (fs : List (Nat → Nat → Bool)) (f : Nat → Nat → Bool) (a x y : Nat) : orTo fs f a 0 0 x y = orAll (fs.take a) x y := by
  unfold orTo
  simp
theorem RelM.congr' {w wr : World} {n : Nat} {f g : Nat → Nat → Bool} (h : RelM w n f wr) (hf : ∀ i j, i < n → j < n → f i j = g i j) : RelM w n g wr := by
  obtain ⟨rbs, h1, h2⟩ := h
  exact ⟨rbs, h1.congr hf, h2⟩

theorem SqG.getD {w : World} {D : Nat → Prop} {A : Option Addr} {n c : Nat} {f : Nat → Nat → Bool} (h : SqG w D (.slice A n c) n f) (hn : 0 < n) : ∃ b o, A = some ⟨b, o, none⟩ ∧ D b ∧ ∀ i, i < n → ∃ rb ro c', w.cell? ⟨b, o + i, none⟩ = some (.slice (some ⟨rb, ro, none⟩) n c') ∧
    n ≤ c' ∧ c' ≤ 9223372036854775807 ∧ D rb ∧ ∀ j, j < n → w.cell? ⟨rb, ro + j, none⟩ = some (.bool (f i j)) := by
  obtain ⟨A', c', hv, h1, h2, h3⟩ := h
  injection hv with ha _ _
  subst ha
  exact h3 hn
theorem Graphs.chg {w w' : World} {D S : Nat → Prop} {v : Value} {n : Nat} {fs : List (Nat → Nat → Bool)} (h : Graphs w D v n fs) (hc : Chg S w w') (hs : ∀ k, D k → ¬ S k) : Graphs w' D v n fs := by
  obtain ⟨gs, h1, h2⟩ := h
  refine ⟨gs, h1.chg hc hs, fun i f hf => ?_⟩
  obtain ⟨g, h3, h4⟩ := h2 i f hf
  exact ⟨g, h3, h4.chg hc hs⟩
theorem relM_sq {w wr wr' : World} {n x k r : Nat} {f : Nat → Nat → Bool} {D : Nat → Prop} {v : Value} {b : Bool} (h : SqG wr D v n f) (hD : ∀ k, D k → k < w.heap.size) (hr : w.heap.size < r) (hp : Pure wr wr') : SqG (wr'.setCell ⟨r, k, none⟩ (.bool b)) D v n f :=
  h.chg ((hp.chg (fun i => i = r)).setCell (p := ⟨r, k, none⟩) (.inl rfl) (.bool b)) fun k hk e => by have := hD k hk; omega

set_option maxHeartbeats 2000000 in
set_option maxRecDepth 100000 in
theorem itogether_any (A : Option Addr) (m c n : Nat) (fs : List (Nat → Nat → Bool)) (D : Nat → Prop) (w : World) (h : Graphs w D (.slice A m c) n fs) (hD : ∀ k, D k → k < w.heap.size) (hm : fs.length = m) (hm0 : 0 < m) (hm9 : m ≤ 9) (hn : n ≤ 40) :
    Calls Tryd.prog 23 #[.slice A m c] w fun e w' => e = .returned (.slice (some ⟨w.heap.size, 0, none⟩) n n) ∧ RelM w n (orAll fs) w' := by
  have HS := Lib.hid h
  have HM := Lib.hid hm
  have HD := Lib.hid hD
  obtain ⟨b, o, A0, c0, rfl, q0, hq0⟩ := h.get (i := 0) (f := fs[0]'(by omega)) (List.getElem?_eq_getElem (by omega))
  simp only [Nat.add_zero] at q0
  clear hq0 h hm hD
  go_enter Tryd.func23, Tryd.ntmps23
  go_wp2_with fail
  refine (iempty_any n _ hn).mono ?_
  rintro e w1 ⟨rfl, hr⟩
  have HR := Lib.hid hr
  clear hr q0
  go_wp2
  go_loopw [5, 17] (fun _ i wr => ∃ a : Nat, a ≤ m ∧ i = .int .i64 a ∧ RelM w n (orAll (fs.take a)) wr ∧ Graphs wr D (.slice (some ⟨b, o, none⟩) m c) n fs) (fun _ i _ => m - (intOf i).toNat)
  case atStart => exact ⟨0, by omega, rfl, HR.out, HS.out.pure (by obtain ⟨_, _, _, h⟩ := HR.out; exact h)⟩
  case round =>
    obtain ⟨a, ha, rfl, hrel, hgs⟩ := hrel
    have HA := Lib.hid hrel
    have HGS := Lib.hid hgs
    clear hrel hgs
    by_cases ham : a < m
    · have ham' : (a : Int) < (m : Int) := by omega
      have hfa : fs[a]? = some (fs[a]'(by rw [HM.out]; exact ham)) := List.getElem?_eq_getElem _
      obtain ⟨b', o', A1, c1, e1, q1, hg1⟩ := HGS.out.get hfa
      injection e1 with e1
      injection e1 with e11 e12
      subst e11 e12
      have HF := Lib.hid hfa
      generalize fs[a]'(by rw [HM.out]; exact ham) = f at *
      have HG := Lib.hid hg1
      clear hfa hg1
      go_wp2
      clear q1
      have HA0 := Lib.hid (HA.out.congr' (g := orTo fs f a 0 0) (fun x y _ _ => (orTo_zero fs f a x y).symm))
      obtain ⟨wo, rfl⟩ : ∃ wo : World, wo = wr := ⟨_, rfl⟩
      go_loopw [6, 7, 23] (fun _ _ i wr => ∃ x : Nat, x ≤ n ∧ i = .int .i64 x ∧ RelM w n (orTo fs f a x 0) wr ∧ SqG wr D (.slice A1 n c1) n f ∧ Graphs wr D (.slice (some ⟨b, o, none⟩) m c) n fs) (fun _ _ i _ => n - (intOf i).toNat)
      case atStart => exact ⟨0, by omega, rfl, HA0.out, HG.out, HGS.out⟩
      case round =>
        obtain ⟨x, hx, rfl, hrel, hsq, hgs⟩ := hrel
        have HX := Lib.hid hrel
        have HQ := Lib.hid hsq
        have HGX := Lib.hid hgs
        clear hrel hsq hgs
        by_cases hxn : x < n
        · have hxn' : (x : Int) < (n : Int) := by omega
          obtain ⟨gb, go, rfl, _, hr⟩ := HQ.out.getD (show 0 < n by omega)
          obtain ⟨rb, ro, cr, q1, q2, q3, q4, q5⟩ := hr x hxn
          have HQ5 := Lib.hid q5
          have HRB := Lib.hid q4
          clear hr q4 q5
          go_wp2
          clear q1
          obtain ⟨wq, rfl⟩ : ∃ wq : World, wq = wr := ⟨_, rfl⟩
          go_loopw [8, 9, 30] (fun _ _ i wr => ∃ k : Nat, k ≤ n ∧ i = .int .i64 k ∧ RelM w n (orTo fs f a x k) wr ∧ Graphs wr D (.slice (some ⟨b, o, none⟩) m c) n fs ∧ SqG wr D (.slice (some ⟨gb, go, none⟩) n c1) n f ∧ ∀ j, j < n → wr.cell? ⟨rb, ro + j, none⟩ = some (.bool (f x j))) (fun _ _ i _ => n - (intOf i).toNat)
          case atStart => exact ⟨0, by omega, rfl, HX.out, HGX.out, HQ.out, HQ5.out⟩
          case round =>
            obtain ⟨k, hk, rfl, hrel, hgs, hsq, hcl⟩ := hrel
            have HGK := Lib.hid hgs
            have HQK := Lib.hid hsq
            clear hgs hsq
            by_cases hkn : k < n
            · have hkn' : (k : Int) < (n : Int) := by omega
              have x0 := hcl k hkn
              have HCL := Lib.hid hcl
              clear hcl
              obtain ⟨rbs, h1, h2, h3⟩ := hrel
              obtain ⟨ru, e1, c1', d1, f1, _⟩ := h1.at_ hxn
              have x1 := d1 k hkn
              have y1 := f1 k
              have HSET := Lib.hid (fun b => relM_set h1 h2 h3 e1 hkn b ((Pure.refl wr).drew))
              have HLT := Lib.hid (h2 _ _ e1)
              clear d1 f1 h1 h2 h3 e1
              have HN := Lib.hid (orTo_step fs f a x k)
              generalize orTo fs f a x k x k = b1 at *
              generalize f x k = b2 at *
              have HCH := Lib.hid (fun b => ((Pure.refl wr).drew.chg (fun i => i = ru)).setCell (p := ⟨ru, k, none⟩) (.inl rfl) (.bool b))
              have HNS : Hid (∀ k, D k → ¬ k = ru) := fun k hk e => by have := HD.out k hk; have := HLT.out; omega
              cases b1 <;> cases b2
              all_goals
                go_wp2_with fail
                refine wp_region_g (S := fun W => W = wr.drew) (by kernel_rfl) ?_
                refine wpAnyG_take [0,1,2,3,4,5,6,7,8,9,10,11,12,13,14,15] _ _ 16 (by kernel_rfl) (by kernel_rfl) (by kernel_rfl) (fun _ _ _ _ _ h => h) (aF := ?_) (w := wr.drew) (by rfl) 1 (by kernel_rfl) (by kernel_rfl) (by simp only [subOps, List.filterMap_cons, List.filterMap_nil, List.getElem?_toArray, List.getElem?_cons_zero, List.getElem?_cons_succ]; rfl) (by simp only [List.map_cons, List.map_nil]; rfl) ?_ ?_
                rotate_left
                · intro W hW
                  subst hW
                  repeat (refine wpStillD_step (fun K hK => ?_); go_simp; refine hK _ ?_; clear hK K)
                  refine wpStillD_nil ?_
                  rfl
                refine wpAnyG_last (k := 16) rfl (by kernel_rfl) (by kernel_rfl) ?_
                go_wp2
                go_roundw
                case rel =>
                  first
                  | exact ⟨k + 1, by omega, by go_num, (HSET.out _).congr (fun y z => HN.out y z), HGK.out.chg (HCH.out _) HNS.out, HQK.out.chg (HCH.out _) HNS.out, fun j hj => chg_cell (HCH.out _) (HNS.out _ HRB.out) (HCL.out j hj)⟩
                  | ((repeat apply Exists.intro); exact ⟨⟨k + 1, by omega, by go_num, (HSET.out _).congr (fun y z => HN.out y z), HGK.out.chg (HCH.out _) HNS.out, HQK.out.chg (HCH.out _) HNS.out, fun j hj => chg_cell (HCH.out _) (HNS.out _ HRB.out) (HCL.out j hj)⟩, rfl⟩)
                case measure => simp [intOf]; omega
            · obtain rfl : k = n := by omega
              have HK := Lib.hid hrel
              clear hrel hcl
              go_wp2
              go_roundw
              case rel => first | exact ⟨x + 1, by omega, by go_num, HK.out.congr' (fun y z _ hz => orTo_row fs f a x k y z hz), HQK.out, HGK.out⟩ | ((repeat apply Exists.intro); exact ⟨⟨x + 1, by omega, by go_num, HK.out.congr' (fun y z _ hz => orTo_row fs f a x k y z hz), HQK.out, HGK.out⟩, rfl⟩)
              case measure => simp [intOf]; omega
        · obtain rfl : x = n := by omega
          go_wp2
          go_roundw
          case rel => first | exact ⟨a + 1, by omega, by go_num, HX.out.congr' (fun y z hy _ => orTo_next HF.out hy), HGX.out⟩ | ((repeat apply Exists.intro); exact ⟨⟨a + 1, by omega, by go_num, HX.out.congr' (fun y z hy _ => orTo_next HF.out hy), HGX.out⟩, rfl⟩)
          case measure => simp [intOf]; omega
    · obtain rfl : a = m := by omega
      have HA2 : Hid (RelM w n (orAll fs) wr) := by have := HA.out; rw [List.take_of_length_le (by rw [HM.out]; omega)] at this; exact this
      clear HA
      go_wp2
      go_ret
      exact ⟨rfl, HA2.out⟩
end Go.Proofs.YtlnjmkldpicpdaaDoor
