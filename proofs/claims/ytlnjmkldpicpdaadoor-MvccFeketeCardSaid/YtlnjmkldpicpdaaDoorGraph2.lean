/- graph.Closed; and grids that are made empty. -/
import Derived.Test.YtlnjmkldpicpdaaDoorGraph
namespace Go.Proofs.YtlnjmkldpicpdaaDoor
open Go.RowKit
set_option linter.unusedVariables false
set_option linter.unusedSimpArgs false

/-- make([]T, 0, n) -/
theorem run_make_rep0 {P : Program} (t e : TypeId) (i : TypeInfo) (z : Value) (ht : P.underlying t = some (.slice e)) (hi : P.info? e = some i) (hz : i.zero = some z) (hz1 : z.cells = #[z]) (hs : i.size = 1)
    (n : Nat) (hbytes : i.bytes * n ≤ 281474976710656) (h63 : n ≤ 9223372036854775807) (w : World) :
    (Instr.makeSlice t (.int .i64 0) (.int .i64 (n : Int))).run P w = .ok (.slice (some ⟨w.heap.size, 0, none⟩) 0 n) (w.alloc (.cells (rep z n) e)) := by
  have hb : (i.bytes : Int) * (n : Int) ≤ 281474976710656 := by
    have h : ((i.bytes * n : Nat) : Int) ≤ 281474976710656 := by omega
    rwa [Int.natCast_mul] at h
  have hr := run_make (P := P) w t e i z ht hi hz .i64 .i64 0 n (by omega) (by omega) hb (by omega)
  have hm : madeCells z.cells ((n : Int).toNat * i.size) = rep z n := by
    rw [hz1, hs, Int.toNat_natCast, Nat.mul_one]
    apply Array.ext
    · simp [madeCells, rep]
    · intro j h1 h2
      simp [madeCells, rep, Nat.mod_one]
  rw [hm] at hr
  simpa using hr

/-- At the head of the loop that copies rows. -/
def RelC (w : World) (n : Nat) (f : Nat → Nat → Bool) (k : Nat) (wr : World) : Prop :=
  ∃ rbs : List Nat, MGp wr 47 4 w.heap.size rbs n f ∧ rbs.length = k ∧ (∀ i r : Nat, rbs[i]? = some r → w.heap.size < r) ∧ Pure w wr
/-- At the heads of the loops that close. -/
def RelM (w : World) (n : Nat) (f : Nat → Nat → Bool) (wr : World) : Prop :=
  ∃ rbs : List Nat, MG wr 47 4 w.heap.size rbs n f ∧ (∀ i r : Nat, rbs[i]? = some r → w.heap.size < r) ∧ Pure w wr
theorem relC_next {w wr w1 : World} {n k : Nat} {f : Nat → Nat → Bool} (h : RelC w n f k wr) (hk : k < n) (p1 : Pure wr w1)
    (hb : Blk w1 wr.heap.size 4 ((List.range n).map fun j => Value.bool (f k j)).toArray) :
    RelC w n f (k + 1) (w1.setCell ⟨w.heap.size, k, none⟩ (.slice (some ⟨wr.heap.size, 0, none⟩) n n)) := by
  obtain ⟨rbs, h1, h2, h3, h4⟩ := h
  subst h2
  have hlt := h1.out.lt
  refine ⟨rbs ++ [wr.heap.size], (h1.pure p1).next (by decide) hk hb (fun i x hx e => by have := (h1.row i x hx).lt; omega), by simp, fun i r hr => ?_, ?_⟩
  · rcases Nat.lt_or_ge i rbs.length with hl | hl
    · rw [List.getElem?_append_left hl] at hr; exact h3 i r hr
    · rw [List.getElem?_append_right hl] at hr
      have hm := List.mem_of_getElem? hr
      simp at hm
      omega
  · have := ((h4.chg (fun i => w.heap.size ≤ i)).pure p1).setCell (p := ⟨w.heap.size, rbs.length, none⟩) (.inl (Nat.le_refl _)) (.slice (some ⟨wr.heap.size, 0, none⟩) n n)
    exact this.below (Nat.le_refl _)
theorem relM_of_relC {w wr : World} {n : Nat} {f : Nat → Nat → Bool} (h : RelC w n f n wr) : RelM w n f wr := by
  obtain ⟨rbs, h1, h2, h3, h4⟩ := h
  exact ⟨rbs, h1.full h2, h3, h4⟩
theorem relM_set {w wr : World} {n i j r : Nat} {f : Nat → Nat → Bool} {rbs : List Nat} (h1 : MG wr 47 4 w.heap.size rbs n f) (h3 : ∀ i r : Nat, rbs[i]? = some r → w.heap.size < r) (h4 : Pure w wr) (hr : rbs[i]? = some r) (hj : j < n) (b : Bool) {W : World} (hW : Pure wr W) :
    RelM w n (fun x y => if x = i ∧ y = j then b else f x y) (W.setCell ⟨r, j, none⟩ (.bool b)) := by
  refine ⟨rbs, (h1.pure hW).set_ (by decide) hr hj b, h3, ?_⟩
  have := ((h4.chg (fun k => w.heap.size ≤ k)).pure hW).setCell (p := ⟨r, j, none⟩) (.inl (Nat.le_of_lt (h3 i r hr))) (.bool b)
  exact this.below (Nat.le_refl _)
theorem RelM.congr {w wr : World} {n : Nat} {f g : Nat → Nat → Bool} (h : RelM w n f wr) (hf : ∀ i j, f i j = g i j) : RelM w n g wr := by
  obtain ⟨rbs, h1, h2⟩ := h
  exact ⟨rbs, h1.congr fun i j _ _ => hf i j, h2⟩
theorem RelM.pure {w wr W : World} {n : Nat} {f : Nat → Nat → Bool} (h : RelM w n f wr) (hW : Pure wr W) : RelM w n f W := by
  obtain ⟨rbs, h1, h2, h3⟩ := h
  exact ⟨rbs, h1.pure hW, h2, h3.trans hW⟩
theorem RelM.toSq {w wr : World} {n : Nat} {f : Nat → Nat → Bool} (h : RelM w n f wr) (hm : n ≤ 9223372036854775807) : SqG wr (fun k => w.heap.size ≤ k) (.slice (some ⟨w.heap.size, 0, none⟩) n n) n f := by
  obtain ⟨rbs, h1, h2, h3⟩ := h
  exact h1.toSq hm (Nat.le_refl _) (fun i r hr => Nat.le_of_lt (h2 i r hr))

set_option maxHeartbeats 2000000 in
set_option maxRecDepth 100000 in
theorem gclosed_any (A : Option Addr) (c n : Nat) (f : Nat → Nat → Bool) (D : Nat → Prop) (w : World) (h : SqG w D (.slice A n c) n f) (hn : n ≤ 40) :
    Calls Tryd.prog 44 #[.slice A n c] w fun e w' => e = .returned (.tuple #[.slice (some ⟨w.heap.size, 0, none⟩) n n, .nilIface]) ∧ RelM w n (closF n f) w' := by
  obtain ⟨i1, hi1, hy0, hy1, hy2⟩ := info_parts ginfoBool
  obtain ⟨i2, hi2, hx0, hx1, hx2⟩ := info_parts ginfoBools
  have hmk := fun W => run_make_rep (P := Tryd.prog) 41 47 i2 (.slice none 0 0) Tryd.underlying41 hi2 hx0 rfl hx1 n (by rw [hx2]; omega) (by omega) W
  have HMK0 := Lib.hid (fun W => run_make_rep0 (P := Tryd.prog) 47 4 i1 (.bool false) Tryd.underlying47 hi1 hy0 rfl hy1 n (by rw [hy2]; omega) (by omega) W)
  have HS := Lib.hid h
  clear h
  go_enter Tryd.func44, Tryd.ntmps44
  go_wp2_with (go_at_call 39; refine (gcheck_any _ _ _ _ _ _ HS.out hn).mono ?_; rintro e _ ⟨rfl, rfl⟩)
  clear hmk
  go_loopw [6, 7, 21] (fun _ _ i wr => ∃ k : Nat, k ≤ n ∧ i = .int .i64 k ∧ RelC w n f k wr) (fun _ _ i _ => n - (intOf i).toNat)
  case atStart => exact ⟨0, by omega, rfl, [], MGp.start (Blk.new w _ _), rfl, fun i r h => by simp at h, (Pure.refl w).alloc _⟩
  case round =>
    obtain ⟨k, hk, rfl, hrel⟩ := hrel
    have HR := Lib.hid hrel
    clear hrel
    by_cases hkn : k < n
    · have hkn' : (k : Int) < (n : Int) := by omega
      have hP : Pure w wr := by obtain ⟨_, _, _, _, h⟩ := HR.out; exact h
      have hob : ∃ cs, Blk wr w.heap.size 47 cs ∧ k < cs.size := by
        obtain ⟨rbs, h1, h2, _⟩ := HR.out
        exact ⟨_, h1.out, by simp [outC]; omega⟩
      obtain ⟨cs, hcs, hcsz⟩ := hob
      have hsz := hcs.lt
      obtain ⟨b, o, rfl, _, hr⟩ := (HS.out.pure hP).get (show 0 < n by omega)
      obtain ⟨rb, ro, cr, q1, q2, q3, q4, q5⟩ := hr k hkn
      have hsrc : Hid (∀ (t : Nat) u, ((List.range n).map fun j => Value.bool (f k j))[t]? = some u → (wr.alloc (.cells (rep (.bool false) n) 4)).cell? ((⟨rb, ro, none⟩ : Addr).add t) = some u) := fun t u hu => by
        have ht : t < n := by have := (List.getElem?_eq_some_iff.1 hu).1; simpa using this
        rw [Addr.add_lit, World.cell?_alloc_lt _ _ _ q4, q5 t ht]
        simp [ht] at hu
        rw [hu]
      have HP := Lib.hid hP
      have HCS := Lib.hid (And.intro hcs hcsz)
      clear hr q5 hP hcs hcsz
      have hmk0 := HMK0.out
      go_wp2_with (at_builtin; refine wpList_append_fits _ rfl (.tmp 30) (.tmp 31) 47 rfl wr.heap.size 4 i1 1 Tryd.underlying47 hi1 hy1 wr.heap.size 0 n [] rfl (by exact World.ownsRow_made wr (rep (.bool false) n) n (Nat.le_refl _) (by simp only [maxLen]; omega) (by simp [rep_size])) ⟨rb, ro, none⟩ n cr ((List.range n).map fun j => Value.bool (f k j)) rfl (by simp) hsrc.out (by simp [Value.oneCell']) (by omega) ?_; intro w1 o1 g1; have p1 : Pure wr w1 := ((Pure.refl wr).alloc _).grown g1 (fun k hk => by simp at hk; omega); have hcs1 := HCS.out.1.pure p1; obtain ⟨u0, hu0⟩ : ∃ u, w1.cell? ⟨w.heap.size, k, none⟩ = some u := ⟨_, by rw [hcs1.cell]; exact Array.getElem?_eq_getElem HCS.out.2⟩; have f0 := hcs1.frozen k; have P1 := Lib.hid p1; have O1 := Lib.hid o1; clear hcs1 p1 o1 g1)
      clear hmk0
      have HB : Hid (Blk w1 wr.heap.size 4 ((List.range n).map fun j => Value.bool (f k j)).toArray) := by
        have := O1.out
        simp only [Nat.zero_add, List.nil_append] at this
        exact own_blk this
      have HR2 := Lib.hid (relC_next HR.out hkn P1.out HB.out)
      go_roundw
      case rel => first | exact ⟨k + 1, by omega, by go_num, HR2.out⟩ | ((repeat apply Exists.intro); exact ⟨⟨k + 1, by omega, by go_num, HR2.out⟩, rfl⟩)
      case measure => simp [intOf]; omega
    · obtain rfl : k = n := by omega
      have HM := Lib.hid (relM_of_relC HR.out)
      clear HR HMK0
      go_wp2
      go_loopw [8, 37] (fun _ i wr => ∃ m : Nat, m ≤ k ∧ i = .int .i64 m ∧ RelM w k (closTo k f m) wr) (fun _ i _ => k - (intOf i).toNat)
      case atStart => exact ⟨0, by omega, rfl, HM.out⟩
      case round =>
        obtain ⟨m, hm, rfl, hrel⟩ := hrel
        have HM := Lib.hid hrel
        clear hrel
        by_cases hmn : m < k
        · have hmn' : (m : Int) < (k : Int) := by omega
          go_wp2
          obtain ⟨wo, rfl⟩ : ∃ wo : World, wo = wr := ⟨_, rfl⟩
          go_loopw [9, 42] (fun _ i wr => ∃ u : Nat, u ≤ k ∧ i = .int .i64 u ∧ RelM w k (allC k m u (closTo k f m)) wr) (fun _ i _ => k - (intOf i).toNat)
          case atStart => exact ⟨0, by omega, rfl, HM.out⟩
          case round =>
            obtain ⟨u, hu, rfl, hrel⟩ := hrel
            have HU := Lib.hid hrel
            clear hrel
            by_cases hun : u < k
            · have hun' : (u : Int) < (k : Int) := by omega
              go_wp2
              obtain ⟨wq, rfl⟩ : ∃ wq : World, wq = wr := ⟨_, rfl⟩
              go_loopw [10, 47] (fun _ i wr => ∃ v : Nat, v ≤ k ∧ i = .int .i64 v ∧ RelM w k (rowC m u v (allC k m u (closTo k f m))) wr) (fun _ i _ => k - (intOf i).toNat)
              case atStart => exact ⟨0, by omega, rfl, HU.out⟩
              case round =>
                obtain ⟨v, hv, rfl, hrel⟩ := hrel
                by_cases hvn : v < k
                · have hvn' : (v : Int) < (k : Int) := by omega
                  have HN : Hid (∀ i j, (fun x y => if x = u ∧ y = v then (rowC m u v (allC k m u (closTo k f m)) u v || (rowC m u v (allC k m u (closTo k f m)) u m && rowC m u v (allC k m u (closTo k f m)) m v)) else rowC m u v (allC k m u (closTo k f m)) x y) i j = rowC m u (v + 1) (allC k m u (closTo k f m)) i j) := fun i j => rfl
                  obtain ⟨rbs, h1, h2, h3⟩ := hrel
                  generalize rowC m u v (allC k m u (closTo k f m)) = F at *
                  obtain ⟨ru, e1, c1, d1, f1, _⟩ := h1.at_ hun
                  obtain ⟨rm, e2, c2, d2, _, _⟩ := h1.at_ hmn
                  have x1 := d1 v hvn
                  have x2 := d1 m hmn
                  have x3 := d2 v hvn
                  have y1 := f1 v
                  have HSET := Lib.hid (fun b => relM_set h1 h2 h3 e1 hvn b ((Pure.refl wr).drew))
                  clear d1 d2 f1 h1 h2 h3 e1 e2
                  generalize F u v = b1 at *
                  generalize F u m = b2 at *
                  generalize F m v = b3 at *
                  cases b1 <;> cases b2 <;> cases b3
                  all_goals
                    go_wp2_with fail
                    refine wp_region_g (S := fun W => W = wr.drew) (by kernel_rfl) ?_
                    refine wpAnyG_take [0,1,2,3,4,5,6,7,8,9,10,11,12,13,14,15,16,17,18,19,20,21,22,23,24,25,26,27,28,29,30] _ _ 31 (by kernel_rfl) (by kernel_rfl) (by kernel_rfl) (fun _ _ _ _ _ h => h) (aF := ?_) (w := wr.drew) (by rfl) 1 (by kernel_rfl) (by kernel_rfl) (by simp only [subOps, List.filterMap_cons, List.filterMap_nil, List.getElem?_toArray, List.getElem?_cons_zero, List.getElem?_cons_succ]; rfl) (by simp only [List.map_cons, List.map_nil]; rfl) ?_ ?_
                    rotate_left
                    · intro W hW
                      subst hW
                      repeat (refine wpStillD_step (fun K hK => ?_); go_simp; refine hK _ ?_; clear hK K)
                      refine wpStillD_nil ?_
                      rfl
                    refine wpAnyG_last (k := 31) rfl (by kernel_rfl) (by kernel_rfl) ?_
                    go_wp2
                    go_roundw
                    case rel => first | exact ⟨v + 1, by omega, by go_num, (HSET.out _).congr HN.out⟩ | ((repeat apply Exists.intro); exact ⟨⟨v + 1, by omega, by go_num, (HSET.out _).congr HN.out⟩, rfl⟩)
                    case measure => simp [intOf]; omega
                · obtain rfl : v = k := by omega
                  have HV := Lib.hid hrel
                  clear hrel
                  go_wp2
                  go_roundw
                  case rel => first | exact ⟨u + 1, by omega, by go_num, HV.out⟩ | ((repeat apply Exists.intro); exact ⟨⟨u + 1, by omega, by go_num, HV.out⟩, rfl⟩)
                  case measure => simp [intOf]; omega
            · obtain rfl : u = k := by omega
              go_wp2
              go_roundw
              case rel => first | exact ⟨m + 1, by omega, by go_num, HU.out⟩ | ((repeat apply Exists.intro); exact ⟨⟨m + 1, by omega, by go_num, HU.out⟩, rfl⟩)
              case measure => simp [intOf]; omega
        · obtain rfl : m = k := by omega
          go_wp2
          go_ret2
          exact ⟨rfl, HM.out⟩
end Go.Proofs.YtlnjmkldpicpdaaDoor
