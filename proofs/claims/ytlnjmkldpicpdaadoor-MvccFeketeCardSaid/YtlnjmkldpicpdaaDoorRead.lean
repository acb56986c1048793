/- isolate: Edges.read. -/
import Derived.Test.YtlnjmkldpicpdaaDoorStory4
namespace Go.Proofs.YtlnjmkldpicpdaaDoor
open Go.RowKit
set_option linter.unusedVariables false
set_option linter.unusedSimpArgs false

def ordAt (g : List (List Int)) (k : Int) : List Int := (g[k.toNat]?).getD []
def behindOf (g : List (List Int)) (o : IOp) : Nat := if o.src = -1 then 0 else (idxI (ordAt g o.key) o.src + 1).toNat
/-- The edges of one read of the transaction k. -/
def seenC (t : List ITx) (k : Nat) (o : IOp) (x y : Nat) : Bool :=
  decide (o.src ≠ -1) && decide (o.src ≠ k) && decide (o.num = versF (opsAt t o.src) o.key - 1) && decide (o.src = x) && decide (k = y)
def anewAt (r : Option Int) (k x y : Nat) : Bool := match r with
  | some z => decide (z ≠ (k : Int)) && decide (k = x) && decide (z = (y : Int))
  | none => false
def anewC (g : List (List Int)) (k : Nat) (o : IOp) (x y : Nat) : Bool := anewAt (ordAt g o.key)[behindOf g o]? k x y
def rowsOf (r2 r3 : List Nat) (i : Nat) : Prop := (∃ j : Nat, r2[j]? = some i) ∨ ∃ j : Nat, r3[j]? = some i
theorem idxI_ge (l : List Int) (x : Int) : -1 ≤ idxI l x := by
  unfold idxI
  split <;> omega
theorem idxI_lt (l : List Int) (x : Int) : idxI l x < l.length := by
  unfold idxI
  split
  · rename_i i h
    have := (List.findIdx?_eq_some_iff_getElem.1 h).1
    omega
  · omega

/-- What the reading of one op leaves. -/
structure ReadRel (w w' : World) (o2 : Nat) (r2 : List Nat) (o3 : Nat) (r3 : List Nat) (n : Nat) (f2 f3 : Nat → Nat → Bool) : Prop where
  m2 : MG w' 47 4 o2 r2 n f2
  m3 : MG w' 47 4 o3 r3 n f3
  chg : Chg (rowsOf r2 r3) w w'
theorem ReadRel.pure {w w1 w2 : World} {o2 o3 n : Nat} {r2 r3 : List Nat} {f2 f3 : Nat → Nat → Bool} (h : ReadRel w w1 o2 r2 o3 r3 n f2 f3) (hp : Pure w1 w2) : ReadRel w w2 o2 r2 o3 r3 n f2 f3 :=
  ⟨h.m2.pure hp, h.m3.pure hp, h.chg.pure hp⟩
theorem ReadRel.start {w w' : World} {o2 o3 n : Nat} {r2 r3 : List Nat} {f2 f3 : Nat → Nat → Bool} (h2 : MG w 47 4 o2 r2 n f2) (h3 : MG w 47 4 o3 r3 n f3) (hp : Pure w w') : ReadRel w w' o2 r2 o3 r3 n f2 f3 :=
  ⟨h2.pure hp, h3.pure hp, hp.chg _⟩
theorem ReadRel.set2 {w w1 : World} {o2 o3 n i j r : Nat} {r2 r3 : List Nat} {f2 f3 : Nat → Nat → Bool} (h : ReadRel w w1 o2 r2 o3 r3 n f2 f3) (hd : ∀ i j r : Nat, r2[i]? = some r → r3[j]? = some r → False) (hr : r2[i]? = some r) (hj : j < n) (b : Bool) :
    ReadRel w (w1.setCell ⟨r, j, none⟩ (.bool b)) o2 r2 o3 r3 n (fun x y => if x = i ∧ y = j then b else f2 x y) f3 := by
  refine ⟨h.m2.set_ (by decide) hr hj b, ?_, h.chg.setCell (p := ⟨r, j, none⟩) (.inl (.inl ⟨i, hr⟩)) _⟩
  refine ⟨h.m3.out.far (p := ⟨r, j, none⟩) ?_ _, h.m3.len, fun i' r' hr' => (h.m3.row i' r' hr').far (p := ⟨r, j, none⟩) ?_ _, h.m3.nd⟩
  · exact h.m3.out.ne_ (h.m2.row i r hr) (by decide)
  · rintro rfl; exact hd i i' _ hr hr'
theorem ReadRel.set3 {w w1 : World} {o2 o3 n i j r : Nat} {r2 r3 : List Nat} {f2 f3 : Nat → Nat → Bool} (h : ReadRel w w1 o2 r2 o3 r3 n f2 f3) (hd : ∀ i j r : Nat, r2[i]? = some r → r3[j]? = some r → False) (hr : r3[i]? = some r) (hj : j < n) (b : Bool) :
    ReadRel w (w1.setCell ⟨r, j, none⟩ (.bool b)) o2 r2 o3 r3 n f2 (fun x y => if x = i ∧ y = j then b else f3 x y) := by
  refine ⟨?_, h.m3.set_ (by decide) hr hj b, h.chg.setCell (p := ⟨r, j, none⟩) (.inl (.inr ⟨i, hr⟩)) _⟩
  refine ⟨h.m2.out.far (p := ⟨r, j, none⟩) ?_ _, h.m2.len, fun i' r' hr' => (h.m2.row i' r' hr').far (p := ⟨r, j, none⟩) ?_ _, h.m2.nd⟩
  · exact h.m2.out.ne_ (h.m3.row i r hr) (by decide)
  · rintro rfl; exact hd i' i _ hr' hr
theorem ReadRel.congr {w w1 : World} {o2 o3 n : Nat} {r2 r3 : List Nat} {f2 f3 g2 g3 : Nat → Nat → Bool} (h : ReadRel w w1 o2 r2 o3 r3 n f2 f3) (h2 : ∀ x y, f2 x y = g2 x y) (h3 : ∀ x y, f3 x y = g3 x y) : ReadRel w w1 o2 r2 o3 r3 n g2 g3 :=
  ⟨h.m2.congr fun i j _ _ => h2 i j, h.m3.congr fun i j _ _ => h3 i j, h.chg⟩

theorem IGrid.getD {w : World} {D : Nat → Prop} {A : Option Addr} {n c i : Nat} {g : List (List Int)} {l : List Int} (h : IGrid w D (.slice A n c) g) (hi : g[i]? = some l) :
    ∃ b o A' c', A = some ⟨b, o, none⟩ ∧ D b ∧ b < w.heap.size ∧ w.cell? ⟨b, o + i, none⟩ = some (.slice A' l.length c') ∧ l.length ≤ c' ∧ c' ≤ 9223372036854775807 ∧ Ints w D (.slice A' l.length c') l := by
  have hl := (List.getElem?_eq_some_iff.1 hi).1
  obtain ⟨rows, h1, h2⟩ := h
  obtain ⟨r, hr, hb⟩ := h2 i l hi
  obtain ⟨b, o, c0, hv, hD, _, _, hc⟩ := h1.at_ hr (by omega)
  injection hv with ha _ _
  obtain ⟨A', c', rfl, hc1, hc2⟩ := Rd.form hb
  exact ⟨b, o, A', c', ha, hD, World.block_lt_of_cell? w _ hc, hc, hc1, hc2, hb⟩
theorem wrapI {x : Int} (h1 : -9223372036854775808 ≤ x) (h2 : x ≤ 9223372036854775807) : IntKind.i64.wrap x = x := by
  rw [IntKind.wrap_i64]
  omega
theorem ints_at {w : World} {D : Nat → Prop} {l : List Int} {A : Option Addr} {n c q : Nat} {z : Int} (h : Ints w D (.slice A n c) l) (hz : l[q]? = some z) : ∃ b o, A = some ⟨b, o, none⟩ ∧ b < w.heap.size ∧ w.cell? ⟨b, o + q, none⟩ = some (.int .i64 z) := by
  have hl := List.getElem?_eq_some_iff.1 hz
  obtain ⟨b, o, h1, _, h2, h3⟩ := h.get hl.1
  rw [hl.2] at h3
  exact ⟨b, o, h1, h2, h3⟩
theorem set_or {zi k : Nat} (hzk : ¬ (zi : Int) = (k : Int)) (f : Nat → Nat → Bool) (x y : Nat) :
    (if x = k ∧ y = zi then true else f x y) = (f x y || anewAt (some (zi : Int)) k x y) := by
  have e : (decide ((zi : Int) ≠ k) && decide (k = x) && decide ((zi : Int) = y)) = decide (x = k ∧ y = zi) := by
    by_cases h1 : x = k <;> by_cases h2 : y = zi
    · subst h1 h2; simp [hzk]
    · have : ¬ zi = y := fun e => h2 e.symm
      simp [h2]; omega
    · simp [h1]; omega
    · simp [h1]; omega
  simp only [anewAt, e]
  by_cases h : x = k ∧ y = zi <;> simp [h]
set_option maxHeartbeats 4000000 in
set_option maxRecDepth 100000 in
theorem iread_any (v1 : Option Addr) (o2 : Nat) (r2 : List Nat) (o3 : Nat) (r3 : List Nat) (f2 f3 : Nat → Nat → Bool) (A : Option Addr) (n c : Nat) (A2 : Option Addr) (n2 c2 : Nat) (t : List ITx) (g : List (List Int)) (D : Nat → Prop) (w : World) (k : Nat) (o : IOp)
    (h : Txs w D (.slice A n c) t) (hl : t.length = n) (hn : n ≤ 8) (h2 : IGrid w D (.slice A2 n2 c2) g) (hn2 : g.length = n2) (hn28 : n2 = 8)
    (hm2 : MG w 47 4 o2 r2 n f2) (hm3 : MG w 47 4 o3 r3 n f3) (hd : ∀ i j r : Nat, r2[i]? = some r → r3[j]? = some r → False) (hD : ∀ i, D i → ¬ rowsOf r2 r3 i)
    (hk : k < n) (hkey : 0 ≤ o.key ∧ o.key < 8) (hsrc : -1 ≤ o.src ∧ o.src < n) (hord : ∀ l ∈ g, ∀ x ∈ l, 0 ≤ x ∧ x < n) (hol : ∀ l ∈ g, l.length ≤ 8) :
    Calls Tryd.prog 28 #[.agg #[.slice v1 n n, .slice (some ⟨o2, 0, none⟩) n n, .slice (some ⟨o3, 0, none⟩) n n], .agg #[.slice A n c, .slice A2 n2 c2], .int .i64 k, opAgg o] w fun e w' =>
      (∃ v, e = .returned v) ∧ ReadRel w w' o2 r2 o3 r3 n (fun x y => f2 x y || seenC t k o x y) (fun x y => f3 x y || anewC g k o x y) := by
  obtain ⟨ow, ok, os, on⟩ := o
  unfold opAgg
  dsimp only at *
  obtain ⟨key, rfl⟩ : ∃ q : Nat, ok = q := ⟨ok.toNat, by omega⟩
  have hkey8 : key < 8 := by omega
  have hkey8' : (key : Int) < 8 := by omega
  obtain ⟨l, hgl⟩ : ∃ l, g[key]? = some l := ⟨_, List.getElem?_eq_getElem (by omega)⟩
  have hl8 := hol l (List.mem_of_getElem? hgl)
  have HLX := Lib.hid (hord l (List.mem_of_getElem? hgl))
  obtain ⟨gb, go, A3, c3, rfl, gD, g0, g1, g2, g3, g4⟩ := h2.getD hgl
  have HI := Lib.hid g4
  have HGD := Lib.hid gD
  have HM2 := Lib.hid hm2
  clear g4 gD
  generalize hm : l.length = m at *
  have HM := Lib.hid hm
  clear hm
  have HOA : Hid (ordAt g (key : Int) = l) := Lib.hid (by simp [ordAt, hgl])
  have HT := Lib.hid h
  have HL := Lib.hid hl
  have HG := Lib.hid h2
  have HGL := Lib.hid hgl
  have HDD := Lib.hid hd
  have HDR := Lib.hid hD
  subst hn28
  have HP0 := Lib.hid ((((Pure.refl w).alloc (.cells #[.slice v1 n n, .slice (some ⟨o2, 0, none⟩) n n, .slice (some ⟨o3, 0, none⟩) n n] 43)).alloc (.cells #[.slice A n c, .slice (some ⟨gb, go, none⟩) (8 : Nat) c2] 29)).alloc (.cells #[.bool ow, .int .i64 key, .int .i64 os, .int .i64 on] 70))
  have HR0 := Lib.hid (ReadRel.start hm2 hm3 HP0.out)
  have HO2 := Lib.hid hm2.out.lt
  clear h hl h2 hgl hd hD hm2 hm3 hord hol hkey hn2
  go_enter Tryd.func28, Tryd.ntmps28
  by_cases h1 : os = -1
  · subst h1
    have HF2 : Hid (∀ x y, f2 x y = (f2 x y || seenC t k ⟨ow, key, -1, on⟩ x y)) := Lib.hid (fun x y => by simp [seenC])
    have HAN : Hid (∀ x y, anewC g k ⟨ow, key, -1, on⟩ x y = anewAt l[0]? k x y) := Lib.hid (fun x y => by unfold anewC; simp only [HOA.out, behindOf, if_true])
    have HRR := Lib.hid HR0.out
    have HIN := Lib.hid (HI.out.pure HP0.out)
    have e7 := pure_cell HP0.out g1
    have e0 : (((w.alloc (.cells #[.slice v1 n n, .slice (some ⟨o2, 0, none⟩) n n, .slice (some ⟨o3, 0, none⟩) n n] 43)).alloc (.cells #[.slice A n c, .slice (some ⟨gb, go, none⟩) (8 : Nat) c2] 29)).alloc (.cells #[.bool ow, .int .i64 key, .int .i64 (-1), .int .i64 on] 70)).cell? ⟨w.heap.size + 1, 0, none⟩ = some (.slice A n c) := by simp [go_sem]
    have e1 : (((w.alloc (.cells #[.slice v1 n n, .slice (some ⟨o2, 0, none⟩) n n, .slice (some ⟨o3, 0, none⟩) n n] 43)).alloc (.cells #[.slice A n c, .slice (some ⟨gb, go, none⟩) (8 : Nat) c2] 29)).alloc (.cells #[.bool ow, .int .i64 key, .int .i64 (-1), .int .i64 on] 70)).cell? ⟨w.heap.size + 2, 1, none⟩ = some (.int .i64 key) := by simp [go_sem]
    have e2 : (((w.alloc (.cells #[.slice v1 n n, .slice (some ⟨o2, 0, none⟩) n n, .slice (some ⟨o3, 0, none⟩) n n] 43)).alloc (.cells #[.slice A n c, .slice (some ⟨gb, go, none⟩) (8 : Nat) c2] 29)).alloc (.cells #[.bool ow, .int .i64 key, .int .i64 (-1), .int .i64 on] 70)).cell? ⟨w.heap.size + 2, 2, none⟩ = some (.int .i64 (-1)) := by simp [go_sem]
    have e3 : (((w.alloc (.cells #[.slice v1 n n, .slice (some ⟨o2, 0, none⟩) n n, .slice (some ⟨o3, 0, none⟩) n n] 43)).alloc (.cells #[.slice A n c, .slice (some ⟨gb, go, none⟩) (8 : Nat) c2] 29)).alloc (.cells #[.bool ow, .int .i64 key, .int .i64 (-1), .int .i64 on] 70)).cell? ⟨w.heap.size + 2, 3, none⟩ = some (.int .i64 on) := by simp [go_sem]
    have e4 : (((w.alloc (.cells #[.slice v1 n n, .slice (some ⟨o2, 0, none⟩) n n, .slice (some ⟨o3, 0, none⟩) n n] 43)).alloc (.cells #[.slice A n c, .slice (some ⟨gb, go, none⟩) (8 : Nat) c2] 29)).alloc (.cells #[.bool ow, .int .i64 key, .int .i64 (-1), .int .i64 on] 70)).cell? ⟨w.heap.size, 1, none⟩ = some (.slice (some ⟨o2, 0, none⟩) n n) := by simp [go_sem]
    have e5 : (((w.alloc (.cells #[.slice v1 n n, .slice (some ⟨o2, 0, none⟩) n n, .slice (some ⟨o3, 0, none⟩) n n] 43)).alloc (.cells #[.slice A n c, .slice (some ⟨gb, go, none⟩) (8 : Nat) c2] 29)).alloc (.cells #[.bool ow, .int .i64 key, .int .i64 (-1), .int .i64 on] 70)).cell? ⟨w.heap.size, 2, none⟩ = some (.slice (some ⟨o3, 0, none⟩) n n) := by simp [go_sem]
    have e6 : (((w.alloc (.cells #[.slice v1 n n, .slice (some ⟨o2, 0, none⟩) n n, .slice (some ⟨o3, 0, none⟩) n n] 43)).alloc (.cells #[.slice A n c, .slice (some ⟨gb, go, none⟩) (8 : Nat) c2] 29)).alloc (.cells #[.bool ow, .int .i64 key, .int .i64 (-1), .int .i64 on] 70)).cell? ⟨w.heap.size + 1, 1, none⟩ = some (.slice (some ⟨gb, go, none⟩) (8 : Nat) c2) := by simp [go_sem]
    go_wp2_with fail
    refine wp_region_h (S := fun W => Pure (((w.alloc (.cells #[.slice v1 n n, .slice (some ⟨o2, 0, none⟩) n n, .slice (some ⟨o3, 0, none⟩) n n] 43)).alloc (.cells #[.slice A n c, .slice (some ⟨gb, go, none⟩) (8 : Nat) c2] 29)).alloc (.cells #[.bool ow, .int .i64 key, .int .i64 (-1), .int .i64 on] 70)) W) (by kernel_rfl) ?_
    refine wpAnyH_take [0,1,2,3,4,5,6,7,8,9,10,11,12,13,14,15,16,17,18,19,20,21,22,23] _ _ (by kernel_rfl) (fun _ _ _ _ _ h => h) (aF := ?_) (w := (((w.alloc (.cells #[.slice v1 n n, .slice (some ⟨o2, 0, none⟩) n n, .slice (some ⟨o3, 0, none⟩) n n] 43)).alloc (.cells #[.slice A n c, .slice (some ⟨gb, go, none⟩) (8 : Nat) c2] 29)).alloc (.cells #[.bool ow, .int .i64 key, .int .i64 (-1), .int .i64 on] 70)).drew) ((Pure.refl _).drew) 0 (by kernel_rfl) (by kernel_rfl) (by simp only [subOps, List.filterMap_cons, List.filterMap_nil, List.getElem?_toArray, List.getElem?_cons_zero, List.getElem?_cons_succ]; rfl) (by simp only [List.map_cons, List.map_nil]; rfl) ?_ ?_
    rotate_left
    · intro W hW
      have s0 := pure_cell hW e0
      have s1 := pure_cell hW e1
      have s2 := pure_cell hW e2
      have s3 := pure_cell hW e3
      repeat (refine wpStillD_step (fun K hK => ?_); go_simp; refine hK _ ?_; clear hK K)
      refine wpStillD_nil ?_
      rfl
    refine wpAnyH_end (by kernel_rfl) ?_
    by_cases hq : 0 < m
    · have hq' : ((0 : Nat) : Int) < (m : Int) := by omega
      obtain ⟨z, hz⟩ : ∃ z, l[0]? = some z := ⟨_, List.getElem?_eq_getElem (by rw [HM.out]; exact hq)⟩
      obtain ⟨b3, o3', rfl, z0, z1⟩ := ints_at HIN.out hz
      try simp only [Nat.add_zero] at z1
      have hz2 := HLX.out z (List.mem_of_getElem? hz)
      have HZ := Lib.hid hz
      clear hz
      obtain ⟨zi, rfl⟩ : ∃ zi : Nat, z = zi := ⟨z.toNat, by omega⟩
      have hzi : zi < n := by omega
      have hzi' : (zi : Int) < (n : Int) := by omega
      clear hz2
      by_cases hzk : (zi : Int) = (k : Int)
      · have HF : Hid (∀ x y, f3 x y = (f3 x y || anewC g k ⟨ow, key, -1, on⟩ x y)) := Lib.hid (fun x y => by rw [HAN.out, HZ.out]; simp [anewAt, hzk])
        go_wp2
        go_end0
        exact ⟨⟨_, rfl⟩, (HRR.out.pure ((Pure.refl _).drew)).congr HF2.out HF.out⟩
      · have HF : Hid (∀ x y, (if x = k ∧ y = zi then true else f3 x y) = (f3 x y || anewC g k ⟨ow, key, -1, on⟩ x y)) := Lib.hid (fun x y => by rw [HAN.out, HZ.out]; exact set_or hzk f3 x y)
        obtain ⟨r, e1, c1, d1, y1, hlt⟩ := HRR.out.m3.at_ hk
        have x1 := d1 zi hzi
        have y2 := y1 zi
        have HSET := Lib.hid (((HRR.out.pure (Pure.drew ((Pure.refl _).drew))).set3 HDD.out e1 hzi true).congr HF2.out HF.out)
        clear d1 y1 e1
        go_wp2_with fail
        refine wp_region_g (S := fun W => W = ((((w.alloc (.cells #[.slice v1 n n, .slice (some ⟨o2, 0, none⟩) n n, .slice (some ⟨o3, 0, none⟩) n n] 43)).alloc (.cells #[.slice A n c, .slice (some ⟨gb, go, none⟩) (8 : Nat) c2] 29)).alloc (.cells #[.bool ow, .int .i64 key, .int .i64 (-1), .int .i64 on] 70)).drew).drew) (by kernel_rfl) ?_
        refine wpAnyG_take [0,1,2,3,4,5,6,7,8,9] _ _ 10 (by kernel_rfl) (by kernel_rfl) (by kernel_rfl) (fun _ _ _ _ _ h => h) (aF := ?_) (w := ((((w.alloc (.cells #[.slice v1 n n, .slice (some ⟨o2, 0, none⟩) n n, .slice (some ⟨o3, 0, none⟩) n n] 43)).alloc (.cells #[.slice A n c, .slice (some ⟨gb, go, none⟩) (8 : Nat) c2] 29)).alloc (.cells #[.bool ow, .int .i64 key, .int .i64 (-1), .int .i64 on] 70)).drew).drew) (by rfl) 1 (by kernel_rfl) (by kernel_rfl) (by simp only [subOps, List.filterMap_cons, List.filterMap_nil, List.getElem?_toArray, List.getElem?_cons_zero, List.getElem?_cons_succ]; rfl) (by simp only [List.map_cons, List.map_nil]; rfl) ?_ ?_
        rotate_left
        · intro W hW
          subst hW
          repeat (refine wpStillD_step (fun K hK => ?_); go_simp; refine hK _ ?_; clear hK K)
          refine wpStillD_nil ?_
          rfl
        refine wpAnyG_last (k := 10) rfl (by kernel_rfl) (by kernel_rfl) ?_
        go_wp2
        go_end0
        exact ⟨⟨_, rfl⟩, HSET.out⟩
    · have hq' : ¬ ((0 : Nat) : Int) < (m : Int) := by omega
      have HF : Hid (∀ x y, f3 x y = (f3 x y || anewC g k ⟨ow, key, -1, on⟩ x y)) := Lib.hid (fun x y => by rw [HAN.out, List.getElem?_eq_none (by rw [HM.out]; omega)]; simp [anewAt])
      go_wp2
      go_end0
      exact ⟨⟨_, rfl⟩, (HRR.out.pure ((Pure.refl _).drew)).congr HF2.out HF.out⟩
  · obtain ⟨i, rfl⟩ : ∃ i : Nat, os = i := ⟨os.toNat, by omega⟩
    have hin : i < n := by omega
    have hin' : (i : Int) < (n : Int) := by omega
    obtain ⟨q, hqq⟩ : ∃ q : Nat, idxI l (i : Int) + 1 = q := ⟨(idxI l (i : Int) + 1).toNat, by have := idxI_ge l (i : Int); omega⟩
    have hq8 : q ≤ m := by have := idxI_lt l (i : Int); rw [HM.out] at this; omega
    have HAN : Hid (∀ x y, anewC g k ⟨ow, key, i, on⟩ x y = anewAt l[q]? k x y) := Lib.hid (fun x y => by unfold anewC; simp only [HOA.out, behindOf]; rw [if_neg h1, hqq]; rfl)
    have HIDX : Hid (∀ W, Ints W D (.slice A3 m c3) l → Calls Tryd.prog 43 #[.slice A3 m c3, .int .i64 (i : Int)] W fun e w' => e = .returned (.int .i64 ((q : Int) - 1)) ∧ w' = W) := Lib.hid (fun W hW => by
      have := index_any A3 c3 (i : Int) l D W (by rw [HM.out]; exact hW) (by rw [HM.out]; omega)
      rw [HM.out, show idxI l (i : Int) = (q : Int) - 1 by omega] at this
      exact this)
    clear hqq
    have e7 := pure_cell HP0.out g1
    have e0 : (((w.alloc (.cells #[.slice v1 n n, .slice (some ⟨o2, 0, none⟩) n n, .slice (some ⟨o3, 0, none⟩) n n] 43)).alloc (.cells #[.slice A n c, .slice (some ⟨gb, go, none⟩) (8 : Nat) c2] 29)).alloc (.cells #[.bool ow, .int .i64 key, .int .i64 (i : Int), .int .i64 on] 70)).cell? ⟨w.heap.size + 1, 0, none⟩ = some (.slice A n c) := by simp [go_sem]
    have e1 : (((w.alloc (.cells #[.slice v1 n n, .slice (some ⟨o2, 0, none⟩) n n, .slice (some ⟨o3, 0, none⟩) n n] 43)).alloc (.cells #[.slice A n c, .slice (some ⟨gb, go, none⟩) (8 : Nat) c2] 29)).alloc (.cells #[.bool ow, .int .i64 key, .int .i64 (i : Int), .int .i64 on] 70)).cell? ⟨w.heap.size + 2, 1, none⟩ = some (.int .i64 key) := by simp [go_sem]
    have e2 : (((w.alloc (.cells #[.slice v1 n n, .slice (some ⟨o2, 0, none⟩) n n, .slice (some ⟨o3, 0, none⟩) n n] 43)).alloc (.cells #[.slice A n c, .slice (some ⟨gb, go, none⟩) (8 : Nat) c2] 29)).alloc (.cells #[.bool ow, .int .i64 key, .int .i64 (i : Int), .int .i64 on] 70)).cell? ⟨w.heap.size + 2, 2, none⟩ = some (.int .i64 (i : Int)) := by simp [go_sem]
    have e3 : (((w.alloc (.cells #[.slice v1 n n, .slice (some ⟨o2, 0, none⟩) n n, .slice (some ⟨o3, 0, none⟩) n n] 43)).alloc (.cells #[.slice A n c, .slice (some ⟨gb, go, none⟩) (8 : Nat) c2] 29)).alloc (.cells #[.bool ow, .int .i64 key, .int .i64 (i : Int), .int .i64 on] 70)).cell? ⟨w.heap.size + 2, 3, none⟩ = some (.int .i64 on) := by simp [go_sem]
    have e4 : (((w.alloc (.cells #[.slice v1 n n, .slice (some ⟨o2, 0, none⟩) n n, .slice (some ⟨o3, 0, none⟩) n n] 43)).alloc (.cells #[.slice A n c, .slice (some ⟨gb, go, none⟩) (8 : Nat) c2] 29)).alloc (.cells #[.bool ow, .int .i64 key, .int .i64 (i : Int), .int .i64 on] 70)).cell? ⟨w.heap.size, 1, none⟩ = some (.slice (some ⟨o2, 0, none⟩) n n) := by simp [go_sem]
    have e5 : (((w.alloc (.cells #[.slice v1 n n, .slice (some ⟨o2, 0, none⟩) n n, .slice (some ⟨o3, 0, none⟩) n n] 43)).alloc (.cells #[.slice A n c, .slice (some ⟨gb, go, none⟩) (8 : Nat) c2] 29)).alloc (.cells #[.bool ow, .int .i64 key, .int .i64 (i : Int), .int .i64 on] 70)).cell? ⟨w.heap.size, 2, none⟩ = some (.slice (some ⟨o3, 0, none⟩) n n) := by simp [go_sem]
    have e6 : (((w.alloc (.cells #[.slice v1 n n, .slice (some ⟨o2, 0, none⟩) n n, .slice (some ⟨o3, 0, none⟩) n n] 43)).alloc (.cells #[.slice A n c, .slice (some ⟨gb, go, none⟩) (8 : Nat) c2] 29)).alloc (.cells #[.bool ow, .int .i64 key, .int .i64 (i : Int), .int .i64 on] 70)).cell? ⟨w.heap.size + 1, 1, none⟩ = some (.slice (some ⟨gb, go, none⟩) (8 : Nat) c2) := by simp [go_sem]
    by_cases hik : k = i
    · subst hik
      have HF2 : Hid (∀ x y, f2 x y = (f2 x y || seenC t k ⟨ow, key, k, on⟩ x y)) := Lib.hid (fun x y => by simp [seenC])
      generalize hF2 : f2 = F2 at *
      have HRW := Lib.hid (HR0.out.pure ((Pure.refl _).drew))
      have HCB := Lib.hid e5
      clear hF2
      go_wp2_with fail
      refine wp_region_h (S := fun W => Pure (((w.alloc (.cells #[.slice v1 n n, .slice (some ⟨o2, 0, none⟩) n n, .slice (some ⟨o3, 0, none⟩) n n] 43)).alloc (.cells #[.slice A n c, .slice (some ⟨gb, go, none⟩) (8 : Nat) c2] 29)).alloc (.cells #[.bool ow, .int .i64 key, .int .i64 (k : Int), .int .i64 on] 70)) W) (by kernel_rfl) ?_
      refine wpAnyH_take [0,1,2,3,4,5,6,7,8,9,10,11,12,13,14,15,16,17,18,19,20,21,22,23] _ _ (by kernel_rfl) (fun _ _ _ _ _ h => h) (aF := ?_) (w := (((w.alloc (.cells #[.slice v1 n n, .slice (some ⟨o2, 0, none⟩) n n, .slice (some ⟨o3, 0, none⟩) n n] 43)).alloc (.cells #[.slice A n c, .slice (some ⟨gb, go, none⟩) (8 : Nat) c2] 29)).alloc (.cells #[.bool ow, .int .i64 key, .int .i64 (k : Int), .int .i64 on] 70)).drew) ((Pure.refl _).drew) 0 (by kernel_rfl) (by kernel_rfl) (by simp only [subOps, List.filterMap_cons, List.filterMap_nil, List.getElem?_toArray, List.getElem?_cons_zero, List.getElem?_cons_succ]; rfl) (by simp only [List.map_cons, List.map_nil]; rfl) ?_ ?_
      rotate_left
      · intro W hW
        have s0 := pure_cell hW e0
        have s1 := pure_cell hW e1
        have s2 := pure_cell hW e2
        have s3 := pure_cell hW e3
        repeat (refine wpStillD_step (fun K hK => ?_); go_simp; refine hK _ ?_; clear hK K)
        refine wpStillD_nil ?_
        rfl
      refine wpAnyH_end (by kernel_rfl) ?_
      go_wp2_with fail
      refine (HIDX.out _ (by exact HI.out.pure (HP0.out.drew))).mono ?_
      rintro e w2 ⟨rfl, hw2⟩
      have HRR : Hid (ReadRel w w2 o2 r2 o3 r3 n F2 f3) := Lib.hid (by rw [hw2]; exact HRW.out)
      have HIN : Hid (Ints w2 D (.slice A3 m c3) l) := Lib.hid (by rw [hw2]; exact HI.out.pure (HP0.out.drew))
      have cb : w2.cell? ⟨w.heap.size, 2, none⟩ = some (.slice (some ⟨o3, 0, none⟩) n n) := by rw [hw2]; exact HCB.out
      clear hw2 e0 e1 e2 e3 e4 e5 e6 e7
      by_cases hq : q < m
      · have hq' : ((q : Nat) : Int) < (m : Int) := by omega
        obtain ⟨z, hz⟩ : ∃ z, l[q]? = some z := ⟨_, List.getElem?_eq_getElem (by rw [HM.out]; exact hq)⟩
        obtain ⟨b3, o3', rfl, z0, z1⟩ := ints_at HIN.out hz
        try simp only [Nat.add_zero] at z1
        have hz2 := HLX.out z (List.mem_of_getElem? hz)
        have HZ := Lib.hid hz
        clear hz
        obtain ⟨zi, rfl⟩ : ∃ zi : Nat, z = zi := ⟨z.toNat, by omega⟩
        have hzi : zi < n := by omega
        have hzi' : (zi : Int) < (n : Int) := by omega
        clear hz2
        by_cases hzk : (zi : Int) = (k : Int)
        · have HF : Hid (∀ x y, f3 x y = (f3 x y || anewC g k ⟨ow, key, k, on⟩ x y)) := Lib.hid (fun x y => by rw [HAN.out, HZ.out]; simp [anewAt, hzk])
          go_wp2
          go_end0
          exact ⟨⟨_, rfl⟩, (HRR.out.pure (Pure.refl _)).congr HF2.out HF.out⟩
        · have HF : Hid (∀ x y, (if x = k ∧ y = zi then true else f3 x y) = (f3 x y || anewC g k ⟨ow, key, k, on⟩ x y)) := Lib.hid (fun x y => by rw [HAN.out, HZ.out]; exact set_or hzk f3 x y)
          obtain ⟨r, e1, c1, d1, y1, hlt⟩ := HRR.out.m3.at_ hk
          have x1 := d1 zi hzi
          have y2 := y1 zi
          have HSET := Lib.hid (((HRR.out.pure (Pure.drew (Pure.refl _))).set3 HDD.out e1 hzi true).congr HF2.out HF.out)
          clear d1 y1 e1
          go_wp2_with fail
          refine wp_region_g (S := fun W => W = (w2).drew) (by kernel_rfl) ?_
          refine wpAnyG_take [0,1,2,3,4,5,6,7,8,9] _ _ 10 (by kernel_rfl) (by kernel_rfl) (by kernel_rfl) (fun _ _ _ _ _ h => h) (aF := ?_) (w := (w2).drew) (by rfl) 1 (by kernel_rfl) (by kernel_rfl) (by simp only [subOps, List.filterMap_cons, List.filterMap_nil, List.getElem?_toArray, List.getElem?_cons_zero, List.getElem?_cons_succ]; rfl) (by simp only [List.map_cons, List.map_nil]; rfl) ?_ ?_
          rotate_left
          · intro W hW
            subst hW
            repeat (refine wpStillD_step (fun K hK => ?_); go_simp; refine hK _ ?_; clear hK K)
            refine wpStillD_nil ?_
            rfl
          refine wpAnyG_last (k := 10) rfl (by kernel_rfl) (by kernel_rfl) ?_
          go_wp2
          go_end0
          exact ⟨⟨_, rfl⟩, HSET.out⟩
      · have hq' : ¬ ((q : Nat) : Int) < (m : Int) := by omega
        have HF : Hid (∀ x y, f3 x y = (f3 x y || anewC g k ⟨ow, key, k, on⟩ x y)) := Lib.hid (fun x y => by rw [HAN.out, List.getElem?_eq_none (by rw [HM.out]; omega)]; simp [anewAt])
        go_wp2
        go_end0
        exact ⟨⟨_, rfl⟩, (HRR.out.pure (Pure.refl _)).congr HF2.out HF.out⟩
    · have hik' : ¬ (i : Int) = (k : Int) := by omega
      have hik2 : ¬ (k : Int) = (i : Int) := by omega
      obtain ⟨tx, htx⟩ : ∃ tx, t[i]? = some tx := ⟨_, List.getElem?_eq_getElem (by rw [HL.out]; exact hin)⟩
      obtain ⟨b5, f5, A5, c5, rfl, p0, p1, p2, p3, p4, p5⟩ := HT.out.get htx
      have HV : Hid (versF (opsAt t (i : Int)) key = versF tx.ops key) := Lib.hid (by simp [opsAt, htx])
      have HOP := Lib.hid p5
      clear p5 htx
      obtain ⟨ops, com⟩ := tx
      dsimp only at p1 p2 p3 p4 HOP HV
      have cc1 : ((i : Int) != -1) = true := bne_iff_ne.2 (by omega)
      have cc2 : ((i : Int) != (k : Int)) = true := bne_iff_ne.2 hik'
      have e8 := pure_cell HP0.out p1
      have e9 := pure_cell HP0.out p2
      go_wp2_with fail
      refine wp_region_h (S := fun W => Pure (((w.alloc (.cells #[.slice v1 n n, .slice (some ⟨o2, 0, none⟩) n n, .slice (some ⟨o3, 0, none⟩) n n] 43)).alloc (.cells #[.slice (some ⟨b5, f5, none⟩) n c, .slice (some ⟨gb, go, none⟩) (8 : Nat) c2] 29)).alloc (.cells #[.bool ow, .int .i64 key, .int .i64 (i : Int), .int .i64 on] 70)) W) (by kernel_rfl) ?_
      refine wpAnyH_take [0,1,2,3,4,5,6,7,8,9,10,11,12,13,14,15,16,17,18,19] _ _ (by kernel_rfl) (fun _ _ _ _ _ h => h) (aF := ?_) (w := (((w.alloc (.cells #[.slice v1 n n, .slice (some ⟨o2, 0, none⟩) n n, .slice (some ⟨o3, 0, none⟩) n n] 43)).alloc (.cells #[.slice (some ⟨b5, f5, none⟩) n c, .slice (some ⟨gb, go, none⟩) (8 : Nat) c2] 29)).alloc (.cells #[.bool ow, .int .i64 key, .int .i64 (i : Int), .int .i64 on] 70)).drew) ((Pure.refl _).drew) 4 (by kernel_rfl) (by kernel_rfl) (by simp only [subOps, List.filterMap_cons, List.filterMap_nil, List.getElem?_toArray, List.getElem?_cons_zero, List.getElem?_cons_succ]; rfl) (by simp only [List.map_cons, List.map_nil]; rfl) ?_ ?_
      rotate_left
      · intro W hW
        have s0 := pure_cell hW e0
        have s1 := pure_cell hW e1
        have s2 := pure_cell hW e2
        have s3 := pure_cell hW e3
        have s8 := pure_cell hW e8
        have s9 := pure_cell hW e9
        repeat (refine wpStillD_step (fun K hK => ?_); go_simp; refine hK _ ?_; clear hK K)
        refine wpStillD_nil ?_
        rfl
      refine wpAnyH_one (k := 20) rfl (by kernel_rfl) ?_
      go_wp2_with (refine (iversions_any A5 c5 com key ops D _ (HOP.out.pure HP0.out.drew) p3 p4).mono ?_; rintro e w1 ⟨rfl, hp⟩)
      have HP1 := Lib.hid hp.undrew
      clear hp
      refine ⟨HP1.out, ?_⟩
      have HI1 := Lib.hid (HI.out.pure (HP0.out.trans HP1.out))
      have HR1 := Lib.hid (HR0.out.pure HP1.out)
      have u1 := pure_cell HP1.out e1
      have u2 := pure_cell HP1.out e2
      have u4 := pure_cell HP1.out e4
      have u5 := pure_cell HP1.out e5
      have u6 := pure_cell HP1.out e6
      have u7 := pure_cell HP1.out e7
      clear e8 e9 p1 p2
      by_cases hv : on = (versF ops key : Int) - 1
      · have HF2 : Hid (∀ x y, (if x = i ∧ y = k then true else f2 x y) = (f2 x y || seenC t k ⟨ow, key, i, on⟩ x y)) := Lib.hid (fun x y => by
          have e : seenC t k ⟨ow, key, i, on⟩ x y = decide (x = i ∧ y = k) := by
            unfold seenC
            dsimp only
            rw [HV.out]
            have a1 : (i : Int) ≠ -1 := by omega
            have a2 : ((i : Int) = (x : Int)) ↔ x = i := by omega
            have a3 : (k = y) ↔ y = k := by omega
            simp [a1, hik', hv, a2, a3]
          rw [e]
          by_cases h : x = i ∧ y = k <;> simp [h])
        have hvb := versF_le ops key
        have hv' : ((versF ops key : Nat) : Int) - 1 = on := by omega
        have hv1 : -1 ≤ on := by omega
        have hv2 : on ≤ 9223372036854775807 := by omega
        have hv3 : versF ops key ≤ 9223372036854775807 := by omega
        have cc4 : IntKind.i64.wrap (((versF ops key : Nat) : Int) - 1) = ((versF ops key : Nat) : Int) - 1 := wrapI (by omega) (by omega)
        have cc5 : IntKind.i64.wrap on = on := wrapI (by omega) (by omega)
        have cc3 : (on == ((versF ops key : Nat) : Int) - 1) = true := beq_iff_eq.2 (by omega)
        clear hv HV hvb
        generalize versF ops key = vv at *
        refine wpAnyH_take [21,22,23] _ _ (by kernel_rfl) (fun _ _ _ _ _ h => h) (aF := ?_) (w := w1) HP1.out 0 (by kernel_rfl) (by kernel_rfl) (by simp only [subOps, List.filterMap_cons, List.filterMap_nil, List.getElem?_toArray, List.getElem?_cons_zero, List.getElem?_cons_succ]; rfl) (by simp only [List.map_cons, List.map_nil]; rfl) ?_ ?_
        rotate_left
        · intro W hW
          repeat (refine wpStillD_step (fun K hK => ?_); go_simp; refine hK _ ?_; clear hK K)
          refine wpStillD_nil ?_
          rfl
        refine wpAnyH_end (by kernel_rfl) ?_
        obtain ⟨r, a1, a2, a3, a4, a5⟩ := HR1.out.m2.at_ hin
        have hrl : r < w.heap.size := by obtain ⟨r', b1, _, _, _, b5⟩ := HM2.out.at_ hin; rw [a1] at b1; injection b1 with b1; rw [b1]; exact b5
        have x1 := a3 k hk
        have x2 := a4 k
        have hch := ((Chg.refl (fun i => i = r) w1).setCell (p := ⟨r, k, none⟩) (.inl rfl) (.bool true))
        have HRW := Lib.hid (HR1.out.set2 HDD.out a1 hk true)
        have v1 := chg_cell hch (by simp; omega) u1
        have v2 := chg_cell hch (by simp; omega) u2
        have v6 := chg_cell hch (by simp; omega) u6
        have v7 := chg_cell hch (fun e => HDR.out gb HGD.out (.inl ⟨i, by rw [a1]; simpa using e.symm⟩)) u7
        have HCB := Lib.hid (chg_cell hch (by simp; omega) u5)
        have HI2 := Lib.hid (HI1.out.chg hch (fun j hj e => HDR.out j hj (.inl ⟨i, by rw [a1, e]⟩)))
        clear hch a3 a4
        generalize hF2 : (fun x y => if x = i ∧ y = k then true else f2 x y) = F2 at *
        have HF3 : Hid (∀ x y, F2 x y = (f2 x y || seenC t k ⟨ow, key, i, on⟩ x y)) := Lib.hid (fun x y => by rw [← hF2]; exact HF2.out x y)
        clear hF2 HF2
        have HF2 := Lib.hid HF3.out
        go_wp2_with fail
        refine (HIDX.out _ (by exact HI2.out)).mono ?_
        rintro e w2 ⟨rfl, hw2⟩
        have HRR : Hid (ReadRel w w2 o2 r2 o3 r3 n F2 f3) := Lib.hid (by rw [hw2]; exact HRW.out)
        have HIN : Hid (Ints w2 D (.slice A3 m c3) l) := Lib.hid (by rw [hw2]; exact HI2.out)
        have cb : w2.cell? ⟨w.heap.size, 2, none⟩ = some (.slice (some ⟨o3, 0, none⟩) n n) := by rw [hw2]; exact HCB.out
        clear hw2 e0 e1 e2 e3 e4 e5 e6 e7
        clear u1 u2 u4 u5 u6 u7 v1 v2 v6 v7 x1 x2
        by_cases hq : q < m
        · have hq' : ((q : Nat) : Int) < (m : Int) := by omega
          obtain ⟨z, hz⟩ : ∃ z, l[q]? = some z := ⟨_, List.getElem?_eq_getElem (by rw [HM.out]; exact hq)⟩
          obtain ⟨b3, o3', rfl, z0, z1⟩ := ints_at HIN.out hz
          try simp only [Nat.add_zero] at z1
          have hz2 := HLX.out z (List.mem_of_getElem? hz)
          have HZ := Lib.hid hz
          clear hz
          obtain ⟨zi, rfl⟩ : ∃ zi : Nat, z = zi := ⟨z.toNat, by omega⟩
          have hzi : zi < n := by omega
          have hzi' : (zi : Int) < (n : Int) := by omega
          clear hz2
          by_cases hzk : (zi : Int) = (k : Int)
          · have HF : Hid (∀ x y, f3 x y = (f3 x y || anewC g k ⟨ow, key, i, on⟩ x y)) := Lib.hid (fun x y => by rw [HAN.out, HZ.out]; simp [anewAt, hzk])
            go_wp2
            go_end0
            exact ⟨⟨_, rfl⟩, (HRR.out.pure (Pure.refl _)).congr HF2.out HF.out⟩
          · have HF : Hid (∀ x y, (if x = k ∧ y = zi then true else f3 x y) = (f3 x y || anewC g k ⟨ow, key, i, on⟩ x y)) := Lib.hid (fun x y => by rw [HAN.out, HZ.out]; exact set_or hzk f3 x y)
            obtain ⟨r, e1, c1, d1, y1, hlt⟩ := HRR.out.m3.at_ hk
            have x1 := d1 zi hzi
            have y2 := y1 zi
            have HSET := Lib.hid (((HRR.out.pure (Pure.drew (Pure.refl _))).set3 HDD.out e1 hzi true).congr HF2.out HF.out)
            clear d1 y1 e1
            go_wp2_with fail
            refine wp_region_g (S := fun W => W = (w2).drew) (by kernel_rfl) ?_
            refine wpAnyG_take [0,1,2,3,4,5,6,7,8,9] _ _ 10 (by kernel_rfl) (by kernel_rfl) (by kernel_rfl) (fun _ _ _ _ _ h => h) (aF := ?_) (w := (w2).drew) (by rfl) 1 (by kernel_rfl) (by kernel_rfl) (by simp only [subOps, List.filterMap_cons, List.filterMap_nil, List.getElem?_toArray, List.getElem?_cons_zero, List.getElem?_cons_succ]; rfl) (by simp only [List.map_cons, List.map_nil]; rfl) ?_ ?_
            rotate_left
            · intro W hW
              subst hW
              repeat (refine wpStillD_step (fun K hK => ?_); go_simp; refine hK _ ?_; clear hK K)
              refine wpStillD_nil ?_
              rfl
            refine wpAnyG_last (k := 10) rfl (by kernel_rfl) (by kernel_rfl) ?_
            go_wp2
            go_end0
            exact ⟨⟨_, rfl⟩, HSET.out⟩
        · have hq' : ¬ ((q : Nat) : Int) < (m : Int) := by omega
          have HF : Hid (∀ x y, f3 x y = (f3 x y || anewC g k ⟨ow, key, i, on⟩ x y)) := Lib.hid (fun x y => by rw [HAN.out, List.getElem?_eq_none (by rw [HM.out]; omega)]; simp [anewAt])
          go_wp2
          go_end0
          exact ⟨⟨_, rfl⟩, (HRR.out.pure (Pure.refl _)).congr HF2.out HF.out⟩
      · have HF2 : Hid (∀ x y, f2 x y = (f2 x y || seenC t k ⟨ow, key, i, on⟩ x y)) := Lib.hid (fun x y => by unfold seenC; dsimp only; rw [HV.out]; simp [hv])
        have hvb := versF_le ops key
        have hv' : ¬ on = ((versF ops key : Nat) : Int) - 1 := hv
        have hv3 : versF ops key ≤ 9223372036854775807 := by omega
        have cc4 : IntKind.i64.wrap (((versF ops key : Nat) : Int) - 1) = ((versF ops key : Nat) : Int) - 1 := wrapI (by omega) (by omega)
        have cc3 : (on == ((versF ops key : Nat) : Int) - 1) = false := by rw [beq_eq_false_iff_ne]; omega
        clear hv HV hvb
        generalize versF ops key = vv at *
        have HRW := Lib.hid HR1.out
        have HCB := Lib.hid u5
        refine wpAnyH_take [21,22,23] _ _ (by kernel_rfl) (fun _ _ _ _ _ h => h) (aF := ?_) (w := w1) HP1.out 0 (by kernel_rfl) (by kernel_rfl) (by simp only [subOps, List.filterMap_cons, List.filterMap_nil, List.getElem?_toArray, List.getElem?_cons_zero, List.getElem?_cons_succ]; rfl) (by simp only [List.map_cons, List.map_nil]; rfl) ?_ ?_
        rotate_left
        · intro W hW
          repeat (refine wpStillD_step (fun K hK => ?_); go_simp; refine hK _ ?_; clear hK K)
          refine wpStillD_nil ?_
          rfl
        refine wpAnyH_end (by kernel_rfl) ?_
        go_wp2_with fail
        refine (HIDX.out _ (by exact HI1.out)).mono ?_
        rintro e w2 ⟨rfl, hw2⟩
        have HRR : Hid (ReadRel w w2 o2 r2 o3 r3 n f2 f3) := Lib.hid (by rw [hw2]; exact HRW.out)
        have HIN : Hid (Ints w2 D (.slice A3 m c3) l) := Lib.hid (by rw [hw2]; exact HI1.out)
        have cb : w2.cell? ⟨w.heap.size, 2, none⟩ = some (.slice (some ⟨o3, 0, none⟩) n n) := by rw [hw2]; exact HCB.out
        clear hw2 e0 e1 e2 e3 e4 e5 e6 e7
        clear u1 u2 u4 u5 u6 u7
        by_cases hq : q < m
        · have hq' : ((q : Nat) : Int) < (m : Int) := by omega
          obtain ⟨z, hz⟩ : ∃ z, l[q]? = some z := ⟨_, List.getElem?_eq_getElem (by rw [HM.out]; exact hq)⟩
          obtain ⟨b3, o3', rfl, z0, z1⟩ := ints_at HIN.out hz
          try simp only [Nat.add_zero] at z1
          have hz2 := HLX.out z (List.mem_of_getElem? hz)
          have HZ := Lib.hid hz
          clear hz
          obtain ⟨zi, rfl⟩ : ∃ zi : Nat, z = zi := ⟨z.toNat, by omega⟩
          have hzi : zi < n := by omega
          have hzi' : (zi : Int) < (n : Int) := by omega
          clear hz2
          by_cases hzk : (zi : Int) = (k : Int)
          · have HF : Hid (∀ x y, f3 x y = (f3 x y || anewC g k ⟨ow, key, i, on⟩ x y)) := Lib.hid (fun x y => by rw [HAN.out, HZ.out]; simp [anewAt, hzk])
            go_wp2
            go_end0
            exact ⟨⟨_, rfl⟩, (HRR.out.pure (Pure.refl _)).congr HF2.out HF.out⟩
          · have HF : Hid (∀ x y, (if x = k ∧ y = zi then true else f3 x y) = (f3 x y || anewC g k ⟨ow, key, i, on⟩ x y)) := Lib.hid (fun x y => by rw [HAN.out, HZ.out]; exact set_or hzk f3 x y)
            obtain ⟨r, e1, c1, d1, y1, hlt⟩ := HRR.out.m3.at_ hk
            have x1 := d1 zi hzi
            have y2 := y1 zi
            have HSET := Lib.hid (((HRR.out.pure (Pure.drew (Pure.refl _))).set3 HDD.out e1 hzi true).congr HF2.out HF.out)
            clear d1 y1 e1
            go_wp2_with fail
            refine wp_region_g (S := fun W => W = (w2).drew) (by kernel_rfl) ?_
            refine wpAnyG_take [0,1,2,3,4,5,6,7,8,9] _ _ 10 (by kernel_rfl) (by kernel_rfl) (by kernel_rfl) (fun _ _ _ _ _ h => h) (aF := ?_) (w := (w2).drew) (by rfl) 1 (by kernel_rfl) (by kernel_rfl) (by simp only [subOps, List.filterMap_cons, List.filterMap_nil, List.getElem?_toArray, List.getElem?_cons_zero, List.getElem?_cons_succ]; rfl) (by simp only [List.map_cons, List.map_nil]; rfl) ?_ ?_
            rotate_left
            · intro W hW
              subst hW
              repeat (refine wpStillD_step (fun K hK => ?_); go_simp; refine hK _ ?_; clear hK K)
              refine wpStillD_nil ?_
              rfl
            refine wpAnyG_last (k := 10) rfl (by kernel_rfl) (by kernel_rfl) ?_
            go_wp2
            go_end0
            exact ⟨⟨_, rfl⟩, HSET.out⟩
        · have hq' : ¬ ((q : Nat) : Int) < (m : Int) := by omega
          have HF : Hid (∀ x y, f3 x y = (f3 x y || anewC g k ⟨ow, key, i, on⟩ x y)) := Lib.hid (fun x y => by rw [HAN.out, List.getElem?_eq_none (by rw [HM.out]; omega)]; simp [anewAt])
          go_wp2
          go_end0
          exact ⟨⟨_, rfl⟩, (HRR.out.pure (Pure.refl _)).congr HF2.out HF.out⟩

end Go.Proofs.YtlnjmkldpicpdaaDoor
