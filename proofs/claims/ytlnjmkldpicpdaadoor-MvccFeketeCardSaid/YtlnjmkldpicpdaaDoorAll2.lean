/- isolate: the walk of All. -/
import Derived.Test.YtlnjmkldpicpdaaDoorAll
namespace Go.Proofs.YtlnjmkldpicpdaaDoor
open Go.RowKit
set_option linter.unusedVariables false
set_option linter.unusedSimpArgs false

def AllPost (w : World) (n : Nat) (t : List ITx) (g : List (List Int)) (e : Ending) (w' : World) : Prop :=
  Pure w w' ∧ ((StoryOk t g ∧ ∃ o1 o2 o3 : Nat, e = .returned (.tuple #[.agg #[.slice (some ⟨o1, 0, none⟩) n n, .slice (some ⟨o2, 0, none⟩) n n, .slice (some ⟨o3, 0, none⟩) n n], .nilIface]) ∧
      SqG w' (fun k => w.heap.size ≤ k) (.slice (some ⟨o1, 0, none⟩) n n) n (overF g) ∧ SqG w' (fun k => w.heap.size ≤ k) (.slice (some ⟨o2, 0, none⟩) n n) n (seenF t) ∧ SqG w' (fun k => w.heap.size ≤ k) (.slice (some ⟨o3, 0, none⟩) n n) n (anewF t g)) ∨
    (¬ StoryOk t g ∧ ∃ x, IsErr x ∧ e = .returned (.tuple #[.agg #[.slice none 0 0, .slice none 0 0, .slice none 0 0], x])))

/-- What holds at the heads of All's loops. -/
structure AllI (w wr : World) (A : Option Addr) (n c : Nat) (A2 : Option Addr) (c2 : Nat) (eb : Nat) (o1 : Nat) (r1 : List Nat) (o2 : Nat) (r2 : List Nat) (o3 : Nat) (r3 : List Nat) (f1 f2 f3 : Nat → Nat → Bool) : Prop where
  tri : Tri w wr o1 r1 o2 r2 o3 r3 n f1 f2 f3
  sb : Blk wr w.heap.size 29 #[.slice A n c, .slice A2 (8 : Nat) c2]
  rb : Blk wr (w.heap.size + 1) 43 #[.slice none 0 0, .slice none 0 0, .slice none 0 0]
  eb_ : Blk wr eb 43 #[.slice (some ⟨o1, 0, none⟩) n n, .slice (some ⟨o2, 0, none⟩) n n, .slice (some ⟨o3, 0, none⟩) n n]
section
variable {w wr w' : World} {A A2 : Option Addr} {n c c2 eb o1 o2 o3 : Nat} {r1 r2 r3 : List Nat} {f1 f2 f3 g1 g2 g3 : Nat → Nat → Bool}
theorem AllI.pure (h : AllI w wr A n c A2 c2 eb o1 r1 o2 r2 o3 r3 f1 f2 f3) (hp : Pure wr w') : AllI w w' A n c A2 c2 eb o1 r1 o2 r2 o3 r3 f1 f2 f3 :=
  ⟨h.tri.pure hp, h.sb.pure hp, h.rb.pure hp, h.eb_.pure hp⟩
theorem AllI.congr (h : AllI w wr A n c A2 c2 eb o1 r1 o2 r2 o3 r3 f1 f2 f3) (h1 : ∀ x y, f1 x y = g1 x y) (h2 : ∀ x y, f2 x y = g2 x y) (h3 : ∀ x y, f3 x y = g3 x y) : AllI w wr A n c A2 c2 eb o1 r1 o2 r2 o3 r3 g1 g2 g3 :=
  ⟨h.tri.congr h1 h2 h3, h.sb, h.rb, h.eb_⟩
theorem AllI.set1 {i j r : Nat} (h : AllI w wr A n c A2 c2 eb o1 r1 o2 r2 o3 r3 f1 f2 f3) (ha : Apart3 w eb r1 r2 r3) (hr : r1[i]? = some r) (hj : j < n) (b : Bool) :
    AllI w (wr.setCell ⟨r, j, none⟩ (.bool b)) A n c A2 c2 eb o1 r1 o2 r2 o3 r3 (fun x y => if x = i ∧ y = j then b else f1 x y) f2 f3 := by
  have hl := ha.lo1 i r hr
  exact ⟨h.tri.set1 ha hr hj b, h.sb.far (p := ⟨r, j, none⟩) (by show w.heap.size ≠ r; omega) _, h.rb.far (p := ⟨r, j, none⟩) (by show w.heap.size + 1 ≠ r; omega) _, h.eb_.far (p := ⟨r, j, none⟩) (by show eb ≠ r; omega) _⟩
theorem AllI.read (h : AllI w wr A n c A2 c2 eb o1 r1 o2 r2 o3 r3 f1 f2 f3) (ha : Apart3 w eb r1 r2 r3) (hr : ReadRel wr w' o2 r2 o3 r3 n g2 g3) :
    AllI w w' A n c A2 c2 eb o1 r1 o2 r2 o3 r3 f1 g2 g3 :=
  ⟨h.tri.read ha hr, h.sb.chg hr.chg (ha.not_rows (.inl (by omega))), h.rb.chg hr.chg (ha.not_rows (.inl (by omega))), h.eb_.chg hr.chg (ha.not_rows (.inr (Nat.le_refl _)))⟩
end
theorem Blk.c0 {w : World} {g : Nat} {t : TypeId} {a : Value} {l : List Value} (h : Blk w g t (a :: l).toArray) : w.cell? ⟨g, 0, none⟩ = some a := by rw [h.cell]; rfl
theorem Blk.c1 {w : World} {g : Nat} {t : TypeId} {a b : Value} {l : List Value} (h : Blk w g t (a :: b :: l).toArray) : w.cell? ⟨g, 1, none⟩ = some b := by rw [h.cell]; rfl
theorem Blk.c2 {w : World} {g : Nat} {t : TypeId} {a b c : Value} {l : List Value} (h : Blk w g t (a :: b :: c :: l).toArray) : w.cell? ⟨g, 2, none⟩ = some c := by rw [h.cell]; rfl
theorem all_end {w wr W : World} {A A2 : Option Addr} {n c c2 eb o1 o2 o3 : Nat} {r1 r2 r3 : List Nat} {t : List ITx} {g : List (List Int)} (h : AllI w wr A n c A2 c2 eb o1 r1 o2 r2 o3 r3 (overF g) (seenF t) (anewF t g)) (ha : Apart3 w eb r1 r2 r3) (hok : StoryOk t g) (hn : n ≤ 8)
    (ho : w.heap.size ≤ o1 ∧ w.heap.size ≤ o2 ∧ w.heap.size ≤ o3) (hc : Chg (fun i => i = w.heap.size + 1) wr W) :
    AllPost w n t g (.returned (.tuple #[.agg #[.slice (some ⟨o1, 0, none⟩) n n, .slice (some ⟨o2, 0, none⟩) n n, .slice (some ⟨o3, 0, none⟩) n n], .nilIface])) W := by
  have m1 := h.tri.m1.chg hc (h.tri.m1.out.ne_ h.rb (by decide)) (fun i r hr e => by have := (ha.lo1 i r hr).1; omega)
  have m2 := h.tri.m2.chg hc (h.tri.m2.out.ne_ h.rb (by decide)) (fun i r hr e => by have := (ha.lo2 i r hr).1; omega)
  have m3 := h.tri.m3.chg hc (h.tri.m3.out.ne_ h.rb (by decide)) (fun i r hr e => by have := (ha.lo3 i r hr).1; omega)
  refine ⟨?_, .inl ⟨hok, o1, o2, o3, rfl, m1.toSq (by omega) ho.1 ?_, m2.toSq (by omega) ho.2.1 ?_, m3.toSq (by omega) ho.2.2 ?_⟩⟩
  · exact ((h.tri.pu.chg (fun i => w.heap.size ≤ i)).trans' hc (fun i hi e => by omega)).below (Nat.le_refl _)
  · intro i r hr; have := (ha.lo1 i r hr).1; show w.heap.size ≤ r; omega
  · intro i r hr; have := (ha.lo2 i r hr).1; show w.heap.size ≤ r; omega
  · intro i r hr; have := (ha.lo3 i r hr).1; show w.heap.size ≤ r; omega

/-- The three empty grids. -/
theorem all_start {w w1 w2 w3 w4 : World} {n : Nat} (hp : Pure w w1) (hs : w.heap.size + 2 ≤ w1.heap.size) (h1 : RelM w1 n (fun _ _ => false) w2) (h2 : RelM w2 n (fun _ _ => false) w3) (h3 : RelM w3 n (fun _ _ => false) w4) :
    ∃ r1 r2 r3, Tri w w4 w1.heap.size r1 w2.heap.size r2 w3.heap.size r3 n (fun _ _ => false) (fun _ _ => false) (fun _ _ => false) ∧ Apart3 w w4.heap.size r1 r2 r3 ∧ Pure w1 w4 := by
  obtain ⟨r1, m1, l1, p1⟩ := h1
  obtain ⟨r2, m2, l2, p2⟩ := h2
  obtain ⟨r3, m3, l3, p3⟩ := h3
  have u1 := fun i r hr => (m1.row i r hr).lt
  have u2 := fun i r hr => (m2.row i r hr).lt
  have u3 := fun i r hr => (m3.row i r hr).lt
  have s1 := p1.size
  have s2 := p2.size
  have s3 := p3.size
  refine ⟨r1, r2, r3, ⟨m1.pure (p2.trans p3), m2.pure p3, m3, ((hp.trans p1).trans p2).trans p3⟩, ⟨fun i j r a b => ?_, fun i j r a b => ?_, fun i j r a b => ?_, fun i r a => ?_, fun i r a => ?_, fun i r a => ?_⟩, (p1.trans p2).trans p3⟩
  · have := u1 i r a; have := l2 j r b; omega
  · have := u1 i r a; have := l3 j r b; omega
  · have := u2 i r a; have := l3 j r b; omega
  · have := u1 i r a; have := l1 i r a; omega
  · have := u2 i r a; have := l2 i r a; omega
  · have := u3 i r a; have := l3 i r a; omega

set_option maxHeartbeats 4000000 in
set_option maxRecDepth 100000 in
theorem iall_any (A : Option Addr) (n c : Nat) (A2 : Option Addr) (n2 c2 : Nat) (t : List ITx) (g : List (List Int)) (D : Nat → Prop) (w : World) (h : Txs w D (.slice A n c) t) (hl : t.length = n) (h2 : IGrid w D (.slice A2 n2 c2) g) (hn2 : g.length = n2) (hD : ∀ k, D k → k < w.heap.size) :
    Calls Tryd.prog 12 #[.agg #[.slice A n c, .slice A2 n2 c2]] w (AllPost w n t g) := by
  have HT := Lib.hid h
  have HG := Lib.hid h2
  have HL := Lib.hid hl
  have HL2 := Lib.hid hn2
  have HD := Lib.hid hD
  clear h hl h2 hn2 hD
  have hP0 := ((Pure.refl w).alloc (.cells #[.slice A n c, .slice A2 n2 c2] 29)).alloc (.cells #[.slice none 0 0, .slice none 0 0, .slice none 0 0] 43)
  have HP0 := Lib.hid hP0
  clear hP0
  go_enter Tryd.func12, Tryd.ntmps12
  go_wp2_with fail
  refine (icheck_any A n c A2 n2 c2 t g D _ (HT.out.pure HP0.out) HL.out (HG.out.pure HP0.out) HL2.out).mono ?_
  rintro e w1 ⟨v, rfl, hv, hp1⟩
  have s0 := pure_cell hp1 (show ((w.alloc (.cells #[.slice A n c, .slice A2 n2 c2] 29)).alloc (.cells #[.slice none 0 0, .slice none 0 0, .slice none 0 0] 43)).cell? ⟨w.heap.size, 0, none⟩ = some (.slice A n c) by simp [go_sem])
  have s1 := pure_cell hp1 (show ((w.alloc (.cells #[.slice A n c, .slice A2 n2 c2] 29)).alloc (.cells #[.slice none 0 0, .slice none 0 0, .slice none 0 0] 43)).cell? ⟨w.heap.size, 1, none⟩ = some (.slice A2 n2 c2) by simp [go_sem])
  have hb := Blk.pure (Blk.new' (g := w.heap.size + 1) (w.alloc (.cells #[.slice A n c, .slice A2 n2 c2] 29)) 43 #[.slice none 0 0, .slice none 0 0, .slice none 0 0] (by simp)) hp1
  have HP1 := Lib.hid (HP0.out.trans hp1)
  have hsz : w.heap.size + 2 ≤ w1.heap.size := by have := hp1.size; simp at this; omega
  have q0 : w1.cell? ⟨w.heap.size + 1, 0, none⟩ = some (.slice none 0 0) := by rw [hb.cell]; rfl
  have q1 : w1.cell? ⟨w.heap.size + 1, 1, none⟩ = some (.slice none 0 0) := by rw [hb.cell]; rfl
  have q2 : w1.cell? ⟨w.heap.size + 1, 2, none⟩ = some (.slice none 0 0) := by rw [hb.cell]; rfl
  have fz0 := hb.frozen 0
  have fz1 := hb.frozen 1
  have fz2 := hb.frozen 2
  have HBB := Lib.hid hb
  clear hb
  have HSB : Hid (Blk w1 w.heap.size 29 #[.slice A n c, .slice A2 n2 c2]) := Lib.hid (((Blk.new w 29 _).alloc _).pure hp1)
  clear hp1
  rcases hv with ⟨hv, rfl⟩ | ⟨hv, u, rfl⟩
  · have HOK := Lib.hid hv
    clear hv
    go_wp2_with fail
    refine (iempty_any n w1 (by have := HOK.out.1; have := HL.out; omega)).mono ?_
    rintro e w2 ⟨rfl, hr1⟩
    have HR1 := Lib.hid hr1
    clear hr1
    go_wp2_with fail
    refine (iempty_any n w2 (by have := HOK.out.1; have := HL.out; omega)).mono ?_
    rintro e w3 ⟨rfl, hr2⟩
    have HR2 := Lib.hid hr2
    clear hr2
    go_wp2_with fail
    refine (iempty_any n w3 (by have := HOK.out.1; have := HL.out; omega)).mono ?_
    rintro e w4 ⟨rfl, hr3⟩
    have HR3 := Lib.hid hr3
    clear hr3
    obtain ⟨r1, r2, r3, htri, hap, hp14⟩ := all_start HP1.out hsz HR1.out HR2.out HR3.out
    have hb1 := HBB.out.pure hp14
    have hsb := HSB.out.pure hp14
    have f0 := hb1.frozen 0
    have HAP := Lib.hid hap
    have HTRI := Lib.hid htri
    have HB1 := Lib.hid hb1
    have HSB4 := Lib.hid hsb
    have z14 : w.heap.size + 2 ≤ w4.heap.size := by have := hp14.size; omega
    clear htri hap hp14 hb1 hsb q0 q1 q2 fz0 fz1 fz2 f0
    have t0 := Blk.c0 (HSB4.out)
    have t1 := Blk.c1 (HSB4.out)
    clear s0 s1
    have HO123 : Hid (w.heap.size ≤ w1.heap.size ∧ w.heap.size ≤ w2.heap.size ∧ w.heap.size ≤ w3.heap.size) := Lib.hid (by
      obtain ⟨_, _, _, p1⟩ := HR1.out
      obtain ⟨_, _, _, p2⟩ := HR2.out
      have := p1.size
      have := p2.size
      omega)
    generalize w1.heap.size = o1 at *
    generalize w2.heap.size = o2 at *
    generalize w3.heap.size = o3 at *
    clear hsz HR1 HR2 HR3 HBB HSB
    obtain rfl : n2 = 8 := by have := HOK.out.2.1; have := HL2.out; omega
    have hlt4 : w.heap.size < w4.heap.size := by omega
    have hn8 : n ≤ 8 := by have := HOK.out.1; have := HL.out; omega
    have HI5 : Hid (AllI w (w4.alloc (.cells #[.slice (some ⟨o1, 0, none⟩) n n, .slice (some ⟨o2, 0, none⟩) n n, .slice (some ⟨o3, 0, none⟩) n n] 43)) A n c A2 c2 w4.heap.size o1 r1 o2 r2 o3 r3 (overB (pairsTo g 0 [] 0)) (seenB t (evsTo t 0 0)) (anewB t g (evsTo t 0 0))) :=
      Lib.hid ⟨(HTRI.out.pure ((Pure.refl w4).alloc _)).congr (fun x y => by simp [overB, pairsTo, pairsOf]) (fun x y => by simp [seenB, evsTo]) (fun x y => by simp [anewB, evsTo]), HSB4.out.alloc _, HB1.out.alloc _, Blk.new w4 _ _⟩
    have HOL : Hid (∀ (q : Nat) l, g[q]? = some l → l.length ≤ 8 ∧ ∀ x ∈ l, 0 ≤ x ∧ x < n) := Lib.hid (fun q l hl => by
      have h1 := HOK.out.2.2.2 q l hl
      have h2 := cntW_le t (q : Int) t.length
      have h3 := h1.2
      have h4 := HL.out
      refine ⟨by omega, fun x hx => ?_⟩
      have := h1.1.1 x hx
      omega)
    go_wp2
    clear t0 t1
    clear HTRI HB1 HSB4
    go_loopw [8, 9, 33] (fun _ _ i wr => ∃ q : Nat, q ≤ 8 ∧ i = .int .i64 q ∧ AllI w wr A n c A2 c2 w4.heap.size o1 r1 o2 r2 o3 r3 (overB (pairsTo g q [] 0)) (seenB t (evsTo t 0 0)) (anewB t g (evsTo t 0 0))) (fun _ _ i _ => 8 - (intOf i).toNat)
    case atStart => exact ⟨0, by omega, rfl, HI5.out⟩
    case round =>
      obtain ⟨q, hq, rfl, hrel⟩ := hrel
      have HI := Lib.hid hrel
      clear hrel
      by_cases hq8 : q < 8
      · have hq8' : (q : Int) < 8 := by omega
        obtain ⟨l, hl⟩ : ∃ l, g[q]? = some l := ⟨_, List.getElem?_eq_getElem (by rw [HL2.out]; omega)⟩
        obtain ⟨gb, go, A3, c3, rfl, g0, g1, g2, g3, g4⟩ := (HG.out.pure HI.out.tri.pu).get hl
        have hl8 := (HOL.out q l hl).1
        have HLX := Lib.hid (HOL.out q l hl).2
        have HX := Lib.hid hl
        have HIN := Lib.hid g4
        have HOV := Lib.hid (over_next hl)
        clear hl g4
        generalize hm : l.length = m at *
        have HM := Lib.hid hm
        clear hm
        go_wp2
        clear g1 g0
        obtain ⟨wo, rfl⟩ : ∃ wo : World, wo = wr := ⟨_, rfl⟩
        go_loopw [9] (fun i wr => ∃ j : Nat, j ≤ m - 1 ∧ i = .int .i64 ((j : Int) + 1) ∧ Ints wr D (.slice A3 m c3) l ∧ AllI w wr A n c (some ⟨gb, go, none⟩) c2 w4.heap.size o1 r1 o2 r2 o3 r3 (overB (pairsTo g q l j)) (seenB t (evsTo t 0 0)) (anewB t g (evsTo t 0 0))) (fun i _ => 9 - (intOf i).toNat)
        case atStart => exact ⟨0, by omega, rfl, HIN.out, HI.out.congr (fun x y => by simp [overB, pairsTo]) (fun _ _ => rfl) (fun _ _ => rfl)⟩
        case round =>
          obtain ⟨j, hj, rfl, hin, hrel⟩ := hrel
          have HIJ := Lib.hid hrel
          have HNJ := Lib.hid hin
          clear hrel hin
          by_cases hjm : j + 1 < m
          · have hjm' : (j : Int) + 1 < (m : Int) := by omega
            have hjm1 : j < m := by omega
            have hjm2 : (j : Int) < (m : Int) := by omega
            obtain ⟨a, ha⟩ : ∃ a, l[j]? = some a := ⟨_, List.getElem?_eq_getElem (by rw [HM.out]; omega)⟩
            obtain ⟨b, hb⟩ : ∃ b, l[j + 1]? = some b := ⟨_, List.getElem?_eq_getElem (by rw [HM.out]; omega)⟩
            have ha2 := HLX.out a (List.mem_of_getElem? ha)
            have hb2 := HLX.out b (List.mem_of_getElem? hb)
            obtain ⟨a, rfl⟩ : ∃ q : Nat, a = q := ⟨a.toNat, by omega⟩
            obtain ⟨b, rfl⟩ : ∃ q : Nat, b = q := ⟨b.toNat, by omega⟩
            obtain ⟨b3, o3', rfl, z0, z1⟩ := ints_at HNJ.out ha
            obtain ⟨b3', o3'', ez, _, z2⟩ := ints_at HNJ.out hb
            injection ez with ez
            injection ez with ez1 ez2
            subst ez1 ez2
            have han : a < n := by omega
            have hbn : b < n := by omega
            have han' : (a : Int) < (n : Int) := by omega
            have hbn' : (b : Int) < (n : Int) := by omega
            have HST := Lib.hid (over_step (g := g) (q := q) ha hb)
            clear ha hb ha2 hb2
            obtain ⟨ra, e1, c1, d1, y1, hlt⟩ := HIJ.out.tri.m1.at_ han
            have x1 := d1 b hbn
            have y2 := y1 b
            have x0 := Blk.c0 HIJ.out.eb_
            have HSET := Lib.hid (((HIJ.out.pure ((Pure.refl wr).drew)).set1 HAP.out e1 hbn true).congr HST.out (fun _ _ => rfl) (fun _ _ => rfl))
            have HNS : Hid (Ints (wr.drew.setCell ⟨ra, b, none⟩ (.bool true)) D (.slice (some ⟨b3, o3', none⟩) m c3) l) := Lib.hid (HNJ.out.chg (((Pure.refl wr).drew.chg (fun i => i = ra)).setCell (p := ⟨ra, b, none⟩) (.inl rfl) (.bool true)) (fun k hk e => by have := HD.out k hk; have := (HAP.out.lo1 _ _ e1).1; omega))
            clear d1 y1 e1
            have cc1 : IntKind.i64.wrap ((j : Int) + 1 - 1) = j := by rw [Int.add_sub_cancel]; exact wrapI (by omega) (by omega)
            have cc2 : IntKind.i64.wrap (j : Int) = j := wrapI (by omega) (by omega)
            have cc3 : 0 ≤ (j : Int) + 1 := by omega
            have cc4 : ((j : Int) + 1).toNat = j + 1 := by omega
            go_wp2_with fail
            refine wp_region_g (S := fun W => W = wr.drew) (by kernel_rfl) ?_
            refine wpAnyG_take [0,1,2,3,4,5,6,7,8,9,10,11,12,13] _ _ 14 (by kernel_rfl) (by kernel_rfl) (by kernel_rfl) (fun _ _ _ _ _ h => h) (aF := ?_) (w := wr.drew) (by rfl) 1 (by kernel_rfl) (by kernel_rfl) (by simp only [subOps, List.filterMap_cons, List.filterMap_nil, List.getElem?_toArray, List.getElem?_cons_zero, List.getElem?_cons_succ]; rfl) (by simp only [List.map_cons, List.map_nil]; rfl) ?_ ?_
            rotate_left
            · intro W hW
              subst hW
              repeat (refine wpStillD_step (fun K hK => ?_); go_simp; refine hK _ ?_; clear hK K)
              refine wpStillD_nil ?_
              rfl
            refine wpAnyG_last (k := 14) rfl (by kernel_rfl) (by kernel_rfl) ?_
            go_wp2
            go_roundw
            case rel => first | exact ⟨j + 1, by omega, by go_num, HNS.out, HSET.out⟩ | ((repeat apply Exists.intro); exact ⟨⟨j + 1, by omega, by go_num, HNS.out, HSET.out⟩, rfl⟩)
            case measure => simp [intOf]; omega
          · have hjm' : ¬ (j : Int) + 1 < (m : Int) := by omega
            have HNX : Hid (AllI w wr A n c (some ⟨gb, go, none⟩) c2 w4.heap.size o1 r1 o2 r2 o3 r3 (overB (pairsTo g (q + 1) [] 0)) (seenB t (evsTo t 0 0)) (anewB t g (evsTo t 0 0))) := Lib.hid (by
              have h1 := HIJ.out
              have h2 : j = m - 1 := by omega
              rw [h2, HOV.out] at h1
              exact h1)
            go_wp2
            go_roundw
            case rel => first | exact ⟨q + 1, by omega, by go_num, HNX.out⟩ | ((repeat apply Exists.intro); exact ⟨⟨q + 1, by omega, by go_num, HNX.out⟩, rfl⟩)
            case measure => simp [intOf]; omega
      · obtain rfl : q = 8 := by omega
        clear hq hq8
        have t0 := Blk.c0 HI.out.sb
        have HI8 : Hid (AllI w wr A n c A2 c2 w4.heap.size o1 r1 o2 r2 o3 r3 (overF g) (seenB t (evsTo t 0 0)) (anewB t g (evsTo t 0 0))) := Lib.hid (by
          have h1 := HI.out
          have h2 := over_all g
          rw [HL2.out] at h2
          rw [h2] at h1
          exact h1)
        clear HI HI5
        go_wp2
        clear t0
        obtain ⟨wo, rfl⟩ : ∃ wo : World, wo = wr := ⟨_, rfl⟩
        go_loopw [61] (fun i wr => ∃ k : Nat, k ≤ n ∧ i = .int .i64 k ∧ AllI w wr A n c A2 c2 w4.heap.size o1 r1 o2 r2 o3 r3 (overF g) (seenB t (evsTo t k 0)) (anewB t g (evsTo t k 0))) (fun i _ => n - (intOf i).toNat)
        case atStart => exact ⟨0, by omega, rfl, HI8.out⟩
        case round =>
          obtain ⟨k, hk, rfl, hrel⟩ := hrel
          have HI := Lib.hid hrel
          clear hrel
          by_cases hkn : k < n
          · have hkn' : (k : Int) < (n : Int) := by omega
            obtain ⟨x, hx⟩ : ∃ x, t[k]? = some x := ⟨_, List.getElem?_eq_getElem (by rw [HL.out]; exact hkn)⟩
            obtain ⟨b, f, A3, c3, rfl, p0, p1, p2, p3, p4, p5⟩ := (HT.out.pure HI.out.tri.pu).get hx
            have HX := Lib.hid hx
            have HTX := Lib.hid (HOK.out.2.2.1 x (List.mem_of_getElem? hx))
            have HOP := Lib.hid p5
            clear hx p5
            obtain ⟨ops, com⟩ := x
            dsimp only at p1 p2 p3 p4 HOP
            have HOA : Hid (opsAt t (k : Int) = ops) := Lib.hid (by simp [opsAt, HX.out])
            have HCA : Hid (comAt t (k : Int) = com) := Lib.hid (by simp [comAt, HX.out])
            have hm60 := HTX.out.1
            dsimp only at hm60
            generalize hm : ops.length = m at *
            have HM := Lib.hid hm
            clear hm
            have HW : Hid (AllI w (wr.alloc (.cells #[.slice A3 m c3, .bool com] 72)) (some ⟨b, f, none⟩) n c A2 c2 w4.heap.size o1 r1 o2 r2 o3 r3 (overF g) (seenB t (evsTo t k 0)) (anewB t g (evsTo t k 0))) := Lib.hid (HI.out.pure ((Pure.refl wr).alloc _))
            have HTB := Lib.hid (Blk.new wr 72 #[.slice A3 m c3, .bool com])
            have hebt : w4.heap.size < wr.heap.size := HI.out.eb_.lt
            go_wp2
            clear p0 p1 p2
            obtain ⟨wq, rfl⟩ : ∃ wq : World, wq = wr := ⟨_, rfl⟩
            go_loopw [69] (fun i wr => ∃ j : Nat, j ≤ m ∧ i = .int .i64 j ∧ AllI w wr (some ⟨b, f, none⟩) n c A2 c2 w4.heap.size o1 r1 o2 r2 o3 r3 (overF g) (seenB t (evsTo t k j)) (anewB t g (evsTo t k j)) ∧ Blk wr wq.heap.size 72 #[.slice A3 m c3, .bool com] ∧ Ops wr D (.slice A3 m c3) ops) (fun i _ => m - (intOf i).toNat)
            case atStart => exact ⟨0, by omega, rfl, HW.out, HTB.out, HOP.out.pure ((Pure.refl wq).alloc _)⟩
            case round =>
              obtain ⟨j, hj, rfl, hrel, htb, hop⟩ := hrel
              have HIJ := Lib.hid hrel
              have HTJ := Lib.hid htb
              have HOJ := Lib.hid hop
              clear hrel htb hop
              by_cases hjm : j < m
              · have hjm' : (j : Int) < (m : Int) := by omega
                obtain ⟨y, hy⟩ : ∃ y, ops[j]? = some y := ⟨_, List.getElem?_eq_getElem (by rw [HM.out]; exact hjm)⟩
                obtain ⟨b4, f4, rfl, q0, q1, q2, q3, q4⟩ := HOJ.out.get hy
                have HOK2 := Lib.hid (HTX.out.2 y (List.mem_of_getElem? hy))
                have HSS : Hid (∀ x z, seenB t (evsTo t k (j + 1)) x z = (seenB t (evsTo t k j) x z || (activeB t k y && seenC t k y x z))) := Lib.hid (fun x z => seen_step (by rw [HOA.out]; exact hy) x z)
                have HAS : Hid (∀ x z, anewB t g (evsTo t k (j + 1)) x z = (anewB t g (evsTo t k j) x z || (activeB t k y && anewC g k y x z))) := Lib.hid (fun x z => anew_step (by rw [HOA.out]; exact hy) x z)
                obtain ⟨ow, ok, os, on⟩ := y
                dsimp only at q1 q2 q3 q4
                have u0 := Blk.c0 HTJ.out
                have u1 := Blk.c1 HTJ.out
                have hltq : wq.heap.size < wr.heap.size := HTJ.out.lt
                have hlts : w.heap.size < wr.heap.size := HIJ.out.sb.lt
                have hlte : w4.heap.size < wr.heap.size := HIJ.out.eb_.lt
                have v0 := Blk.c0 HIJ.out.sb
                have v1 := Blk.c1 HIJ.out.sb
                have HPO := Lib.hid ((Pure.refl wr).alloc (.cells #[.bool ow, .int .i64 ok, .int .i64 os, .int .i64 on] 70))
                have HTO := Lib.hid (HTJ.out.pure HPO.out)
                have HOO := Lib.hid (HOJ.out.pure HPO.out)
                have HSK : Hid (activeB t k ⟨ow, ok, os, on⟩ = false → AllI w (wr.alloc (.cells #[.bool ow, .int .i64 ok, .int .i64 os, .int .i64 on] 70)) (some ⟨b, f, none⟩) n c A2 c2 w4.heap.size o1 r1 o2 r2 o3 r3 (overF g) (seenB t (evsTo t k (j + 1))) (anewB t g (evsTo t k (j + 1)))) := Lib.hid (fun ha =>
                  (HIJ.out.pure HPO.out).congr (fun _ _ => rfl) (fun x z => by rw [HSS.out, ha]; simp) (fun x z => by rw [HAS.out, ha]; simp))
                have HRD : Hid (activeB t k ⟨ow, ok, os, on⟩ = true → Calls Tryd.prog 28 #[.agg #[.slice (some ⟨o1, 0, none⟩) n n, .slice (some ⟨o2, 0, none⟩) n n, .slice (some ⟨o3, 0, none⟩) n n], .agg #[.slice (some ⟨b, f, none⟩) n c, .slice A2 (8 : Nat) c2], .int .i64 k, .agg #[.bool ow, .int .i64 ok, .int .i64 os, .int .i64 on]] (wr.alloc (.cells #[.bool ow, .int .i64 ok, .int .i64 os, .int .i64 on] 70)) fun e w' =>
                    (∃ v, e = .returned v) ∧ AllI w w' (some ⟨b, f, none⟩) n c A2 c2 w4.heap.size o1 r1 o2 r2 o3 r3 (overF g) (seenB t (evsTo t k (j + 1))) (anewB t g (evsTo t k (j + 1))) ∧ Blk w' wq.heap.size 72 #[.slice (some ⟨b4, f4, none⟩) m c3, .bool com] ∧ Ops w' D (.slice (some ⟨b4, f4, none⟩) m c3) ops) := Lib.hid (fun ha => by
                  have hI := HIJ.out.pure HPO.out
                  have hk2 := HOK2.out
                  obtain ⟨⟨z1, z2, z3, z4, z5⟩, _⟩ := hk2
                  dsimp only at z1 z2 z3 z4 z5
                  rw [HL.out] at z4
                  refine (iread_any (some ⟨o1, 0, none⟩) o2 r2 o3 r3 _ _ (some ⟨b, f, none⟩) n c A2 8 c2 t g D _ k ⟨ow, ok, os, on⟩ (HT.out.pure hI.tri.pu) HL.out hn8 (HG.out.pure hI.tri.pu) HL2.out rfl hI.tri.m2 hI.tri.m3 HAP.out.a23 (fun i hi => HAP.out.not_rows (.inl (by have := HD.out i hi; omega))) hkn ⟨z1, z2⟩ ⟨z3, z4⟩ ?_ ?_).mono ?_
                  · intro l hl x hx
                    obtain ⟨q, hq⟩ := List.getElem?_of_mem hl
                    exact (HOL.out q l hq).2 x hx
                  · intro l hl
                    obtain ⟨q, hq⟩ := List.getElem?_of_mem hl
                    exact (HOL.out q l hq).1
                  · rintro e w' ⟨he, hr⟩
                    refine ⟨he, (hI.read HAP.out hr).congr (fun _ _ => rfl) (fun x z => by rw [HSS.out, ha]; simp) (fun x z => by rw [HAS.out, ha]; simp), HTO.out.chg hr.chg (HAP.out.not_rows (.inr (by omega))), HOO.out.chg hr.chg (fun i hi => HAP.out.not_rows (.inl (by have := HD.out i hi; omega)))⟩)
                have HAC : Hid (activeB t k ⟨ow, ok, os, on⟩ = (com && !ow && (decide (os = -1) || comAt t os))) := Lib.hid (by unfold activeB; rw [HCA.out])
                have z34 := HOK2.out.1
                dsimp only at z34
                rw [HL.out] at z34
                clear HSS HAS
                cases com
                · have hI2 := HSK.out (by rw [HAC.out]; rfl)
                  have HI2 := Lib.hid hI2
                  clear hI2 z34
                  go_wp2
                  go_roundw
                  case rel => first | exact ⟨j + 1, by omega, by go_num, HI2.out, HTO.out, HOO.out⟩ | ((repeat apply Exists.intro); exact ⟨⟨j + 1, by omega, by go_num, HI2.out, HTO.out, HOO.out⟩, rfl⟩)
                  case measure => simp [intOf]; omega
                cases ow
                rotate_left
                · have hI2 := HSK.out (by rw [HAC.out]; rfl)
                  have HI2 := Lib.hid hI2
                  clear hI2 z34
                  go_wp2
                  go_roundw
                  case rel => first | exact ⟨j + 1, by omega, by go_num, HI2.out, HTO.out, HOO.out⟩ | ((repeat apply Exists.intro); exact ⟨⟨j + 1, by omega, by go_num, HI2.out, HTO.out, HOO.out⟩, rfl⟩)
                  case measure => simp [intOf]; omega
                have e0 := Blk.c0 (HIJ.out.pure HPO.out).eb_
                have e1 := Blk.c1 (HIJ.out.pure HPO.out).eb_
                have e2 := Blk.c2 (HIJ.out.pure HPO.out).eb_
                by_cases hos : os = -1
                · subst hos
                  have HR := Lib.hid (HRD.out (by rw [HAC.out]; rfl))
                  clear HRD HSK z34
                  go_wp2_with fail
                  refine HR.out.mono ?_
                  rintro e w' ⟨⟨v, rfl⟩, hI2, hT2, hO2⟩
                  have HI2 := Lib.hid hI2
                  have HT2 := Lib.hid hT2
                  have HO2 := Lib.hid hO2
                  clear hI2 hT2 hO2 u0 u1 v0 v1 e0 e1 e2 q0 q1 q2 q3 q4
                  go_wp2
                  go_roundw
                  case rel => first | exact ⟨j + 1, by omega, by go_num, HI2.out, HT2.out, HO2.out⟩ | ((repeat apply Exists.intro); exact ⟨⟨j + 1, by omega, by go_num, HI2.out, HT2.out, HO2.out⟩, rfl⟩)
                  case measure => simp [intOf]; omega
                · obtain ⟨i, rfl⟩ : ∃ i : Nat, os = i := ⟨os.toNat, by omega⟩
                  have hin : i < n := by omega
                  have hin' : (i : Int) < (n : Int) := by omega
                  obtain ⟨x2, hx2⟩ : ∃ x, t[i]? = some x := ⟨_, List.getElem?_eq_getElem (by rw [HL.out]; exact hin)⟩
                  obtain ⟨b5, f5, A5, c5, eb5, p0, p1, p2, p3, p4, p5⟩ := (HT.out.pure HIJ.out.tri.pu).get hx2
                  injection eb5 with eb5
                  injection eb5 with eb51 eb52
                  subst eb51 eb52
                  have HC2 : Hid (comAt t (i : Int) = x2.com) := Lib.hid (by simp [comAt, hx2])
                  clear hx2 p1 p3 p4 p5 z34
                  generalize x2.com = com2 at *
                  cases com2
                  · have hI2 := HSK.out (by rw [HAC.out, HC2.out]; simp)
                    have HI2 := Lib.hid hI2
                    clear hI2
                    go_wp2
                    go_roundw
                    case rel => first | exact ⟨j + 1, by omega, by go_num, HI2.out, HTO.out, HOO.out⟩ | ((repeat apply Exists.intro); exact ⟨⟨j + 1, by omega, by go_num, HI2.out, HTO.out, HOO.out⟩, rfl⟩)
                    case measure => simp [intOf]; omega
                  · have HR := Lib.hid (HRD.out (by rw [HAC.out, HC2.out]; simp))
                    clear HRD HSK
                    go_wp2_with fail
                    refine HR.out.mono ?_
                    rintro e w' ⟨⟨v, rfl⟩, hI2, hT2, hO2⟩
                    have HI2 := Lib.hid hI2
                    have HT2 := Lib.hid hT2
                    have HO2 := Lib.hid hO2
                    clear hI2 hT2 hO2 u0 u1 v0 v1 e0 e1 e2 q0 q1 q2 q3 q4 p0 p2
                    go_wp2
                    go_roundw
                    case rel => first | exact ⟨j + 1, by omega, by go_num, HI2.out, HT2.out, HO2.out⟩ | ((repeat apply Exists.intro); exact ⟨⟨j + 1, by omega, by go_num, HI2.out, HT2.out, HO2.out⟩, rfl⟩)
                    case measure => simp [intOf]; omega
              · obtain rfl : j = m := by omega
                have HNX : Hid (AllI w wr (some ⟨b, f, none⟩) n c A2 c2 w4.heap.size o1 r1 o2 r2 o3 r3 (overF g) (seenB t (evsTo t (k + 1) 0)) (anewB t g (evsTo t (k + 1) 0))) := Lib.hid (by
                  have h1 := HIJ.out
                  have h2 := evs_next t k
                  rw [HOA.out, HM.out] at h2
                  rw [h2] at h1
                  exact h1)
                go_wp2
                go_roundw
                case rel => first | exact ⟨k + 1, by omega, by go_num, HNX.out⟩ | ((repeat apply Exists.intro); exact ⟨⟨k + 1, by omega, by go_num, HNX.out⟩, rfl⟩)
                case measure => simp [intOf]; omega
          · obtain rfl : k = n := by omega
            have HE : Hid (AllI w wr A k c A2 c2 w4.heap.size o1 r1 o2 r2 o3 r3 (overF g) (seenF t) (anewF t g)) := Lib.hid (by
              have h1 := HI.out
              unfold seenF anewF
              rw [HL.out]
              exact h1)
            have y0 := Blk.c0 HI.out.eb_
            have y1 := Blk.c1 HI.out.eb_
            have y2 := Blk.c2 HI.out.eb_
            have v0 := Blk.c0 HI.out.rb
            have v1 := Blk.c1 HI.out.rb
            have v2 := Blk.c2 HI.out.rb
            have k0 := HI.out.rb.frozen 0
            have k1 := HI.out.rb.frozen 1
            have k2 := HI.out.rb.frozen 2
            clear HI HI8
            go_wp2
            have hch : Chg (fun i => i = w.heap.size + 1) wr (((wr.setCell ⟨w.heap.size + 1, 0, none⟩ (.slice (some ⟨o1, 0, none⟩) k k)).setCell ⟨w.heap.size + 1, 1, none⟩ (.slice (some ⟨o2, 0, none⟩) k k)).setCell ⟨w.heap.size + 1, 2, none⟩ (.slice (some ⟨o3, 0, none⟩) k k)) :=
              (((Chg.refl (fun i => i = w.heap.size + 1) wr).setCell (p := ⟨w.heap.size + 1, 0, none⟩) (.inl rfl) _).setCell (p := ⟨w.heap.size + 1, 1, none⟩) (.inl rfl) _).setCell (p := ⟨w.heap.size + 1, 2, none⟩) (.inl rfl) _
            refine bodyPost_ret (v := .tuple #[.agg #[.slice (some ⟨o1, 0, none⟩) k k, .slice (some ⟨o2, 0, none⟩) k k, .slice (some ⟨o3, 0, none⟩) k k], .nilIface]) ?_ rfl (all_end HE.out HAP.out HOK.out hn8 HO123.out hch)
            simp [results, Tryd.results12, go_sem, v0, v1, v2]
  · have HNO := Lib.hid hv
    clear hv
    go_wp2
    have hch : Pure w (((w1.setCell ⟨w.heap.size + 1, 0, none⟩ (.slice none 0 0)).setCell ⟨w.heap.size + 1, 1, none⟩ (.slice none 0 0)).setCell ⟨w.heap.size + 1, 2, none⟩ (.slice none 0 0)) :=
      ((HP1.out.setCell (p := ⟨w.heap.size + 1, 0, none⟩) (by show w.heap.size ≤ w.heap.size + 1; omega) _).setCell (p := ⟨w.heap.size + 1, 1, none⟩) (by show w.heap.size ≤ w.heap.size + 1; omega) _).setCell (p := ⟨w.heap.size + 1, 2, none⟩) (by show w.heap.size ≤ w.heap.size + 1; omega) _
    refine bodyPost_ret (v := .tuple #[.agg #[.slice none 0 0, .slice none 0 0, .slice none 0 0], .iface 59 (.int .i64 u)]) ?_ rfl ⟨hch, .inr ⟨HNO.out, _, ⟨_, rfl⟩, rfl⟩⟩
    simp [results, Tryd.results12, go_sem, q0, q1, q2]
end Go.Proofs.YtlnjmkldpicpdaaDoor
