/- NetKeeps: the walk. -/
import Derived.Test.YtcpcneggclgbcaaNet
import Derived.Test.YtcpcneggclgbcaaPick
namespace Go.Proofs.Ytcpcneggclgbcaa
open Go.RowKit
set_option linter.unusedVariables false

theorem infoInt : (Try.prog.info? 3).map (fun i => (i.zero, i.size, i.bytes)) = some (some (.int .i64 0), 1, 8) := by kernel_rfl

def mailOf (i : Nat) : List Value := [.int .i64 ((i : Int) % 3), .int .i64 ((i : Int) % 5), .int .i64 i]
def mailsOf (L : List Nat) : List Value := L.flatMap mailOf
def intsOf (L : List Nat) : List Value := L.map fun i => Value.int .i64 (i : Nat)
theorem mailOf_len (i : Nat) : (mailOf i).length = 3 := rfl
theorem mailsOf_one (L : List Nat) : ∀ u ∈ mailsOf L, u.oneCell' = true := by
  intro u hu
  simp only [mailsOf, mailOf, List.mem_flatMap, List.mem_cons, List.not_mem_nil, or_false] at hu
  obtain ⟨i, _, rfl | rfl | rfl⟩ := hu <;> rfl
theorem intsOf_one (L : List Nat) : ∀ u ∈ intsOf L, u.oneCell' = true := by
  intro u hu
  simp only [intsOf, List.mem_map] at hu
  obtain ⟨i, _, rfl⟩ := hu
  rfl
theorem mailsOf_snoc (k : Nat) : mailsOf (List.range (k + 1)) = mailsOf (List.range k) ++ [.int .i64 ((k : Int) % 3), .int .i64 ((k : Int) % 5), .int .i64 k] := by
  simp [mailsOf, mailOf, List.range_succ]
theorem intsOf_snoc (k : Nat) : intsOf (List.range (k + 1)) = intsOf (List.range k) ++ [.int .i64 (k : Nat)] := by
  simp [intsOf, List.range_succ]
theorem mailsOf_cut (L : List Nat) (k : Nat) : cutAt 3 k (mailsOf L) = mailsOf (L.eraseIdx k) := flat_cut mailOf_len L k

theorem own_own_ne {w : World} {base base' : Nat} {e e' : TypeId} {size size' n n' : Nat} {v v' : Value} {xs xs' : List Value} (h : w.ownsRow base e size v n xs) (h' : w.ownsRow base' e' size' v' n' xs') (hne : e ≠ e') : v.ownBlock = none ∨ v.ownBlock ≠ v'.ownBlock := by
  rcases h.2 with ⟨rfl, _⟩ | ⟨g, cap, cur, rfl, _, hh, _⟩
  · exact .inl rfl
  · exact .inr (fun e => own_ne h' (t := _) (g := g) hh hne.symm (by rw [← e]; rfl))

theorem own_chg {S : Nat → Prop} {w w' : World} {base : Nat} {e : TypeId} {size n : Nat} {v : Value} {xs : List Value} (h : w.ownsRow base e size v n xs) (hc : Chg S w w') (hs : ∀ k, v.ownBlock = some k → ¬ S k) : w'.ownsRow base e size v n xs := by
  refine ⟨h.1, ?_⟩
  rcases h.2 with hn | ⟨g, cap, cur, rfl, hb, hgg, rest⟩
  · exact .inl hn
  · exact .inr ⟨g, cap, cur, rfl, hb, (hc.block g (Array.getElem?_eq_some_iff.1 hgg).1 (hs g rfl)).trans hgg, rest⟩

theorem NetIs.pure {w w' : World} {b base n : Nat} {v : Value} {xs : List Value} (h : NetIs w b base v n xs) (hp : Pure w w') : NetIs w' b base v n xs :=
  ⟨h.blk.pure hp, own_chg h.own (hp.chg (fun _ => False)) (fun _ _ h => h), h.lt, Nat.le_trans h.le hp.size⟩

/-- What holds at the head of the first loop. -/
def Rel1 (w : World) (k : Nat) (want : Value) (wr : World) : Prop :=
  ∃ v, NetIs wr w.heap.size (w.heap.size + 1) v k (mailsOf (List.range k)) ∧ wr.ownsRow (w.heap.size + 1) 3 1 want k (intsOf (List.range k)) ∧ Pure w wr

/-- Behind a round of the first loop. -/
theorem rel1_next {w wr w1 w2 : World} {k : Nat} {want want' v v' : Value}
    (h1 : NetIs wr w.heap.size (w.heap.size + 1) v k (mailsOf (List.range k))) (h2 : wr.ownsRow (w.heap.size + 1) 3 1 want k (intsOf (List.range k))) (hp : Pure w wr)
    (n1 : NetIs w1 w.heap.size (w.heap.size + 1) v' (k + 1) (mailsOf (List.range k) ++ [.int .i64 ((k : Int) % 3), .int .i64 ((k : Int) % 5), .int .i64 k]))
    (g1 : Chg (fun i => i = w.heap.size ∨ some i = v.ownBlock) wr w1)
    (o2 : w2.ownsRow (w.heap.size + 1) 3 1 want' (k + 1) (intsOf (List.range k) ++ [.int .i64 (k : Nat)]))
    (g2 : (w1.alloc (.cells #[.int .i64 (k : Nat)] 3)).grownBy w2 want.ownBlock) (hw : w1.ownsRow (w.heap.size + 1) 3 1 want k (intsOf (List.range k))) :
    Rel1 w (k + 1) want' w2 := by
  have hsz := g2.size
  simp at hsz
  refine ⟨v', ⟨?_, ?_, by omega, by have := n1.le; omega⟩, by rw [intsOf_snoc]; exact o2, ?_⟩
  · exact (n1.blk.alloc _).grown g2 (own_ne hw n1.blk (by decide))
  · rw [mailsOf_snoc]
    exact (n1.own.alloc _).kept g2 (own_own_ne n1.own hw (by decide))
  · have hc : Chg (fun i => w.heap.size ≤ i) w w1 := (hp.chg _).trans' g1 (fun i hi hS => by
      rcases hS with rfl | hS
      · exact Nat.le_refl _
      · have := (h1.own.lt i hS.symm).1; omega)
    have hc2 := (hc.alloc (.cells #[.int .i64 (k : Nat)] 3)).grown g2 (fun i hi => by have := (hw.lt i hi).1; right; omega)
    exact hc2.below (Nat.le_refl _)

/-- What holds at the head of the second loop. -/
def Rel2 (w : World) (L : List Nat) (v want : Value) (wr : World) : Prop :=
  NetIs wr w.heap.size (w.heap.size + 1) v L.length (mailsOf L) ∧ Rd wr (fun k => k ≠ w.heap.size ∧ some k ≠ v.ownBlock) 1 want L.length (intsOf L) ∧ Pure w wr ∧ L.length ≤ 40

theorem rel2_of_rel1 {w wr : World} {want : Value} (h : Rel1 w 40 want wr) : ∃ v, Rel2 w (List.range 40) v want wr := by
  obtain ⟨v, h1, h2, h3⟩ := h
  refine ⟨v, by simpa using h1, ?_, h3, by simp⟩
  have hD : ∀ k, want.ownBlock = some k → w.heap.size + 1 ≤ k → k ≠ w.heap.size ∧ some k ≠ v.ownBlock := fun k hk hb => ⟨by omega, fun e => by
    rcases own_own_ne h2 h1.own (by decide) with h | h
    · rw [h] at hk; cases hk
    · exact h (by rw [hk, e])⟩
  have := Rd.of_own h2 hD
  simpa using this

/-- What holds at the head of the third loop. -/
def Rel3 (w : World) (L : List Nat) (want : Value) (k : Nat) (wr : World) : Prop :=
  ∃ v, NetIs wr w.heap.size (w.heap.size + 1) v (L.length - k) (mailsOf (L.drop k)) ∧ Rd wr (fun k => k ≠ w.heap.size ∧ some k ≠ v.ownBlock) 1 want L.length (intsOf L) ∧ Pure w wr

theorem rel3_next {w wr w1 w2 : World} {L : List Nat} {k : Nat} {want v v' : Value} (hk : k < L.length)
    (hnet : NetIs wr w.heap.size (w.heap.size + 1) v (L.length - k) (mailsOf (L.drop k))) (hP : Pure w wr)
    (n1 : NetIs w1 w.heap.size (w.heap.size + 1) v' (L.length - k - 1) (cutAt 3 0 (mailsOf (L.drop k)))) (g1 : Chg (fun k => k = w.heap.size ∨ some k = v.ownBlock) wr w1) (e1 : v'.ownBlock = v.ownBlock)
    (r1 : Rd w1 (fun k => k ≠ w.heap.size ∧ some k ≠ v.ownBlock) 1 want L.length (intsOf L)) (p2 : Pure w1 w2) : Rel3 w L want (k + 1) w2 := by
  refine ⟨v', ?_, ?_, ?_⟩
  · have h := n1.pure p2
    rw [mailsOf_cut, List.eraseIdx_zero, List.tail_drop] at h
    exact h
  · rw [e1]; exact r1.pure p2
  · have hc : Chg (fun i => w.heap.size ≤ i) w w1 := (hP.chg _).trans' g1 (fun i hi hS => by
      rcases hS with rfl | hS
      · exact Nat.le_refl _
      · have := (hnet.own.lt i hS.symm).1; omega)
    exact (hc.pure p2).below (Nat.le_refl _)

theorem intsOf_cut (L : List Nat) (p : Nat) : (intsOf L).take p ++ (intsOf L).drop (p + 1) = intsOf (L.eraseIdx p) := by
  simp [intsOf, List.eraseIdx_eq_take_drop_succ, List.map_take, List.map_drop]

/-- Behind a round of the second loop. -/
theorem rel2_next {w wr w1 w2 : World} {L : List Nat} {p m : Nat} {v v' want' : Value} (hp : p < L.length)
    (hnet : NetIs wr w.heap.size (w.heap.size + 1) v L.length (mailsOf L)) (hP : Pure w wr) (hL : L.length ≤ 40)
    (n1 : NetIs w1 w.heap.size (w.heap.size + 1) v' (L.length - 1) (cutAt 3 p (mailsOf L))) (g1 : Chg (fun k => k = w.heap.size ∨ some k = v.ownBlock) wr w1) (e1 : v'.ownBlock = v.ownBlock)
    (r2 : Rd w2 (fun k => (k ≠ w.heap.size ∧ some k ≠ v.ownBlock) ∨ w1.heap.size ≤ k) 1 want' m ((intsOf L).take p ++ (intsOf L).drop (p + 1))) (hm : m = L.length - 1) (p2 : Pure w1 w2) :
    Rel2 w (L.eraseIdx p) v' want' w2 := by
  have hl : (L.eraseIdx p).length = L.length - 1 := List.length_eraseIdx_of_lt hp
  subst hm
  unfold Rel2
  rw [hl, ← mailsOf_cut, ← intsOf_cut]
  refine ⟨⟨n1.blk.pure p2, own_chg n1.own (p2.chg (fun _ => False)) (fun _ _ h => h), n1.lt, Nat.le_trans n1.le p2.size⟩, ?_, ?_, by omega⟩
  · refine r2.mono fun k hk => ?_
    rw [e1]
    rcases hk with hk | hk
    · exact hk
    · refine ⟨by have := n1.le; omega, fun e => ?_⟩
      rw [← e1] at e
      have := (n1.own.lt k e.symm).2
      omega
  · have hc : Chg (fun i => w.heap.size ≤ i) w w1 := (hP.chg _).trans' g1 (fun i hi hS => by
      rcases hS with rfl | hS
      · exact Nat.le_refl _
      · have := (hnet.own.lt i hS.symm).1; omega)
    exact (hc.pure p2).below (Nat.le_refl _)

set_option maxHeartbeats 1000000 in
set_option maxRecDepth 100000 in
theorem netkeeps_any (vg : Value) (gone : List Int) (w : World) (hg : Ints w (fun k => k < w.heap.size) vg gone) (hr : ∀ x ∈ gone, -9223372036854775808 ≤ x ∧ x ≤ 9223372036854775807) :
    Calls Try.prog 3 #[vg] w fun e w' => e = .returned (.bool true) ∧ Pure w w' := by
  obtain ⟨i0, hi0, hz0, hz1, hz2⟩ := info_parts infoInt
  obtain ⟨A, c, rfl, hnc, hcm⟩ := Rd.form hg
  have HG := Lib.hid hg
  clear hg
  by_cases hlen : 60 < gone.length
  · have h1 : (60 : Int) < gone.length := by omega
    go_enter Try.func3, Try.ntmps3
    go_wp2
    go_ret
    exact ⟨rfl, Pure.refl w⟩
  have h1 : ¬ (60 : Int) < gone.length := by omega
  go_enter Try.func3, Try.ntmps3
  go_wp2
  go_loopw [4, 5] (fun want i wr => ∃ k : Nat, k ≤ 40 ∧ i = .int .i64 k ∧ Rel1 w k want wr) (fun _ i _ => 40 - (intOf i).toNat)
  case atStart =>
    refine ⟨0, by omega, rfl, .slice none 0 0, ⟨?_, World.ownsRow_nil _ _ _ _, by omega, by simp⟩, World.ownsRow_nil _ _ _ _, (Pure.refl w).alloc _⟩
    exact Blk.new w _ _
  case round =>
    obtain ⟨k, hk, rfl, v, hnet, hown, hP⟩ := hrel
    have hsz := hP.size
    by_cases hlt : k < 40
    · have hlt' : (k : Int) < 40 := by omega
      have HN := Lib.hid hnet
      have HO := Lib.hid hown
      have HP := Lib.hid hP
      clear hnet hown hP
      go_wp2_with fail
      refine (send_any _ _ k v _ _ _ _ _ HN.out (by omega)).mono ?_
      rintro e w1 ⟨rfl, v', n1, g1⟩
      have HN1 := Lib.hid n1
      have HG1 := Lib.hid g1
      clear n1 g1
      have HW1 := Lib.hid (own_chg HO.out HG1.out (fun j hj hS => by
        rcases hS with rfl | hS
        · have := (HO.out.lt _ hj).1; omega
        · rcases own_own_ne HO.out HN.out.own (by decide) with h | h
          · rw [h] at hj; cases hj
          · exact h (by rw [hj, hS])))
      have hle1 := HN1.out.le
      obtain ⟨A2, c2, rfl, _, _⟩ := own_form HO.out
      go_wp2_with (at_builtin; refine wpList_append_lies _ rfl (.tmp 28) (.tmp 30) 22 rfl (w.heap.size + 1) 3 i0 _ 1 8 Try.underlying22 hi0 hz0 hz1 hz2 rfl (by omega) _ k (intsOf (List.range k)) rfl (by exact HW1.out.alloc _) ⟨w1.heap.size, 0, none⟩ 1 1 [.int .i64 k] rfl rfl (by exact (Blk.new w1 3 #[.int .i64 k]).news) (by simp [Value.oneCell']) (by omega) (by simp only [maxLen]; omega) (by omega) (by simp; omega) (w1.heap.size + 1) (by simp) ?_; intro g cap w2 o2 g2 at2 lt2)
      have HR := Lib.hid (rel1_next HN.out HO.out HP.out HN1.out HG1.out o2 g2 HW1.out)
      clear o2 g2
      go_roundw
      case rel => exact ⟨k + 1, by omega, by go_num, HR.out⟩
      case measure => simp [intOf]; omega
    · obtain rfl : k = 40 := by omega
      have HR := Lib.hid (rel2_of_rel1 ⟨v, hnet, hown, hP⟩)
      clear hnet hown hP
      go_wp2
      go_loopw [4, 6] (fun want i wr => ∃ (j : Nat) (L : List Nat) (v : Value), j ≤ gone.length ∧ i = .int .i64 j ∧ Rel2 w L v want wr) (fun _ i _ => gone.length - (intOf i).toNat)
      case atStart =>
        obtain ⟨v, hv⟩ := HR.out
        exact ⟨0, _, v, by omega, rfl, hv⟩
      case round =>
        obtain ⟨j, L, v, hj, rfl, hnet, hrd, hP, hL⟩ := hrel
        obtain ⟨A3, c3, rfl, _, _⟩ := hrd.form
        have HN := Lib.hid hnet
        have HD := Lib.hid hrd
        have HP := Lib.hid hP
        clear hnet hrd hP
        by_cases hboth : j < gone.length ∧ 0 < L.length
        · obtain ⟨hjl, hL0⟩ := hboth
          · have hjl' : (j : Int) < (gone.length : Int) := by omega
            have hL0' : (0 : Int) < (L.length : Int) := by omega
            obtain ⟨gb, go, rfl, hgD, _, hgc⟩ := (Ints.pure HG.out HP.out).get hjl
            have hxr := hr _ (List.getElem_mem hjl)
            generalize gone[j] = x at *
            go_wp2_with fail
            refine (pick_any x L.length _ hL0 (by omega)).mono ?_
            rintro e _ ⟨rfl, rfl⟩
            have hpl := pickN_lt x hL0
            generalize pickN x L.length = p at *
            obtain ⟨wb, wo, rfl, hwD, _, _⟩ := HD.out.get (k := p) (u := .int .i64 (L[p]'hpl : Nat)) (by simp [intsOf, List.getElem?_eq_getElem hpl]) hL0
            obtain ⟨X, hX, HXR⟩ : ∃ X, (if c3 = p + 1 then some (⟨wb, wo, none⟩ : Addr) else some ⟨wb, wo + (p + 1), none⟩) = X ∧ Hid (Rd wr (fun k => k ≠ w.heap.size ∧ some k ≠ v.ownBlock) 1 (.slice X (L.length - (p + 1)) (c3 - (p + 1))) (L.length - (p + 1)) ((intsOf L).drop (p + 1))) := by
              refine ⟨_, rfl, ?_⟩
              have := HD.out.drop (k := p + 1) (by omega)
              simp only [Option.map_some, Addr.add_lit, Nat.mul_one] at this
              exact this
            have HXL : Hid (Rd wr (fun k => k ≠ w.heap.size ∧ some k ≠ v.ownBlock) 1 (.slice (some ⟨wb, wo, none⟩) p p) p ((intsOf L).take p)) := by
              have := HD.out.take (k := p) (c' := p) (by omega) (Nat.le_refl _) (by omega)
              rw [Nat.mul_one] at this
              exact this
            have hp0 : (0 : Int) ≤ (p : Int) + 1 := by omega
            have hp1 : (p : Int) + 1 ≤ (L.length : Int) := by omega
            have hp2 : ((p : Int) + 1).toNat = p + 1 := by omega
            have hp3 : (p : Int) ≤ (c3 : Int) := by omega
            have hp4 : p ≤ c3 := by omega
            have hp5 : IntKind.i64.wrap ((p : Int) + 1) = (p : Int) + 1 := by rw [IntKind.wrap_i64]; omega
            by_cases hx2 : (x.tmod 2 == 0) = true
            · go_wp2_with fail
              refine (drop_any _ _ L.length p v _ _ HN.out (mailsOf_one L) hpl (by omega)).mono ?_
              rintro e w1 ⟨rfl, v', n1, g1, e1⟩
              have HN1 := Lib.hid n1
              have HG1 := Lib.hid g1
              have HE1 := Lib.hid e1
              have HXR1 := Lib.hid (HXR.out.chg g1 (fun k hk hs => by rcases hs with h | h; exact hk.1 h; exact hk.2 h))
              have HXL1 := Lib.hid (HXL.out.chg g1 (fun k hk hs => by rcases hs with h | h; exact hk.1 h; exact hk.2 h))
              clear n1 g1 e1
              go_wp2_with fail
              go_region_law (refine step_append_full _ rfl (.tmp 78) (.tmp 82) 22 rfl 3 i0 _ 1 8 Try.underlying22 hi0 hz0 hz1 hz2 rfl (by omega) (some ⟨wb, wo, none⟩) p _ (by simp [Act.eval, Act.put]) HXL1.out (by intro h; cases h) X _ (c3 - (p + 1)) _ (by simp [Act.eval, Act.put]) HXR1.out (fun u hu => intsOf_one L u (List.mem_of_mem_drop hu)) (by simp only [maxLen]; omega) (by omega) ?_; intro want' w2 r2 p2)
              have HR2 := Lib.hid (rel2_next (w2 := w2) hpl HN.out HP.out hL HN1.out HG1.out HE1.out r2 (by omega) p2.undrew)
              clear r2 p2
              go_wp2
              go_roundw
              case rel => first | exact ⟨j + 1, _, v', by omega, by go_num, HR2.out⟩ | ((repeat apply Exists.intro); exact ⟨⟨j + 1, _, v', by omega, by go_num, HR2.out⟩, rfl⟩)
              case measure => simp [intOf]; omega
            · have hx3 : (x.tmod 2 == 0) = false := by simpa using hx2
              clear hx2
              go_wp2_with fail
              have hLp : L[p]? = some L[p] := List.getElem?_eq_getElem hpl
              refine (take_any _ _ L.length p v _ _ _ _ _ HN.out (mailsOf_one L) hpl (by omega) (flat_get mailOf_len L p 0 _ hLp (by omega)) (flat_get mailOf_len L p 1 _ hLp (by omega)) (flat_get mailOf_len L p 2 _ hLp (by omega))).mono ?_
              clear hLp
              rintro e w1 ⟨rfl, v', n1, g1, e1⟩
              have HN1 := Lib.hid n1
              have HG1 := Lib.hid g1
              have HE1 := Lib.hid e1
              have HXR1 := Lib.hid (HXR.out.chg g1 (fun k hk hs => by rcases hs with h | h; exact hk.1 h; exact hk.2 h))
              have HXL1 := Lib.hid (HXL.out.chg g1 (fun k hk hs => by rcases hs with h | h; exact hk.1 h; exact hk.2 h))
              have HD1 := Lib.hid (HD.out.chg g1 (fun k hk hs => by rcases hs with h | h; exact hk.1 h; exact hk.2 h))
              clear n1 g1 e1
              obtain ⟨_, _, ee, _, hwl, hwc⟩ := HD1.out.get (k := p) (u := .int .i64 (L[p]'hpl : Nat)) (by simp [intsOf, List.getElem?_eq_getElem hpl]) hL0
              injection ee with ee
              injection ee with eb eo
              subst eb eo
              generalize L[p] = y at *
              go_wp2_with fail
              go_quiet (fail)
              have HPW := Lib.hid (((Pure.refl w1).alloc (.cells #[.int .i64 ((y : Int) % 3), .int .i64 ((y : Int) % 5), .int .i64 y] 32)).drewN nq)
              generalize (w1.alloc (.cells #[.int .i64 ((y : Int) % 3), .int .i64 ((y : Int) % 5), .int .i64 y] 32)).drewN nq = W at *
              have HXR2 := Lib.hid (HXR1.out.pure HPW.out)
              have HXL2 := Lib.hid (HXL1.out.pure HPW.out)
              clear hwc
              go_wp2_with fail
              go_region_law (refine step_append_full _ rfl (.tmp 78) (.tmp 82) 22 rfl 3 i0 _ 1 8 Try.underlying22 hi0 hz0 hz1 hz2 rfl (by omega) (some ⟨wb, wo, none⟩) p _ (by simp [Act.eval, Act.put]) HXL2.out (by intro h; cases h) X _ (c3 - (p + 1)) _ (by simp [Act.eval, Act.put]) HXR2.out (fun u hu => intsOf_one L u (List.mem_of_mem_drop hu)) (by simp only [maxLen]; omega) (by omega) ?_; intro want' w2 r2 p2)
              have HR2 := Lib.hid (rel2_next (w2 := w2) hpl HN.out HP.out hL (HN1.out.pure HPW.out) (HG1.out.pure HPW.out) HE1.out r2 (by omega) p2.undrew)
              clear r2 p2
              go_wp2
              go_roundw
              case rel => first | exact ⟨j + 1, _, v', by omega, by go_num, HR2.out⟩ | ((repeat apply Exists.intro); exact ⟨⟨j + 1, _, v', by omega, by go_num, HR2.out⟩, rfl⟩)
              case measure => simp [intOf]; omega
        · have hcase : (¬ (j : Int) < (gone.length : Int)) ∨ ((j : Int) < (gone.length : Int) ∧ ¬ (0 : Int) < (L.length : Int)) := by omega
          have HR3 : Hid (Rel3 w L (.slice A3 L.length c3) 0 wr) := ⟨v, by simpa using HN.out, HD.out, HP.out⟩
          clear HN HD HP hboth
          rcases hcase with hc1 | ⟨hc1, hc2⟩
          all_goals
            go_wp2
            go_loopw [10] (fun i wr => ∃ k : Nat, k ≤ L.length ∧ i = .int .i64 k ∧ Rel3 w L (.slice A3 L.length c3) k wr) (fun i _ => L.length - (intOf i).toNat)
            case atStart => exact ⟨0, by omega, rfl, HR3.out⟩
            case round =>
              obtain ⟨k, hk, rfl, v, hnet, hrd, hP⟩ := hrel
              by_cases hlt : k < L.length
              · first
                | (exfalso; omega)
                | (
                  have HN := Lib.hid hnet
                  have HD := Lib.hid hrd
                  have HP := Lib.hid hP
                  clear hnet hrd hP
                  have hLp : (L.drop k)[0]? = some L[k] := by simp [List.getElem?_drop, List.getElem?_eq_getElem hlt]
                  go_wp2_with fail
                  refine (take_any _ _ (L.length - k) 0 v _ _ _ _ _ HN.out (mailsOf_one _) (by omega) (by omega) (flat_get mailOf_len _ 0 0 _ hLp (by omega)) (flat_get mailOf_len _ 0 1 _ hLp (by omega)) (flat_get mailOf_len _ 0 2 _ hLp (by omega))).mono ?_
                  clear hLp
                  rintro e w1 ⟨rfl, v', n1, g1, e1⟩
                  have HD1 := Lib.hid (HD.out.chg g1 (fun k hk hs => by rcases hs with h | h; exact hk.1 h; exact hk.2 h))
                  obtain ⟨wb, wo, rfl, _, hwl, hwc⟩ := HD1.out.get (k := k) (u := .int .i64 (L[k]'hlt : Nat)) (by simp [intsOf, List.getElem?_eq_getElem hlt]) (by omega)
                  generalize L[k] = y at *
                  have HN1 := Lib.hid n1
                  have HG1 := Lib.hid g1
                  have HE1 := Lib.hid e1
                  clear n1 g1 e1
                  go_wp2_with fail
                  go_quiet (fail)
                  have HR := Lib.hid (rel3_next hlt HN.out HP.out HN1.out HG1.out HE1.out HD1.out (((Pure.refl w1).alloc (.cells #[.int .i64 ((y : Int) % 3), .int .i64 ((y : Int) % 5), .int .i64 y] 32)).drewN nq))
                  go_wp2
                  go_roundw
                  case rel => first | exact ⟨k + 1, by omega, by go_num, HR.out⟩ | ((repeat apply Exists.intro); exact ⟨⟨k + 1, by omega, by go_num, HR.out⟩, rfl⟩)
                  case measure => simp [intOf]; omega)
              · obtain rfl : k = L.length := by omega
                rw [Nat.sub_self] at hnet
                obtain ⟨A5, c5, rfl, _, _⟩ := own_form hnet.own
                have c0 : wr.cell? ⟨w.heap.size, 0, none⟩ = some (.slice A5 0 c5) := by rw [hnet.blk.cell]; rfl
                have HP := Lib.hid hP
                clear hnet hrd hP
                go_wp2_with (go_at_call 13; refine (waiting_any _ A5 0 c5 _ c0).mono ?_; rintro e w' ⟨rfl, rfl⟩)
                go_ret
                exact ⟨rfl, HP.out⟩
end Go.Proofs.Ytcpcneggclgbcaa
