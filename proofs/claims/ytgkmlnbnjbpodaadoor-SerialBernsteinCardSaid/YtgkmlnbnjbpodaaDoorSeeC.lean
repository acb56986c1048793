/- serial.Sees: == of what is seen; the closure that tries all orders. -/
import Derived.Test.YtgkmlnbnjbpodaaDoorSeeB
import Derived.Test.YtgkmlnbnjbpodaaDoorSlI
namespace Go.Proofs.YtgkmlnbnjbpodaaDoor
open Go.RowKit
set_option linter.unusedVariables false
set_option linter.unusedSimpArgs false
section
variable {P : Program} {ρ : Env} {o : Oper} {w : World} {x y z : Operand} {v : Value} {t t' : TypeId}
def eqTwoC (P : Program) (t n m : Nat) : Bool := match P.underlying t with
  | some (.struct fs) => match fs.toList with
    | [f, g] => f.name != "_" && g.name != "_" && f.offset == 0 && g.offset == n && arrB P f.type n && arrB P g.type m && szB P f.type n && szB P g.type m && aggB P f.type && aggB P g.type && !P.stoodInHeld t && !P.eqGuardType P.depth t
    | _ => false
  | _ => false
theorem run_equal_twoC {n m : Nat} {la lb : List Int} (hB : eqTwoC P t n m = true) (ha : la.length = n + m) (hb : lb.length = n + m) : (Op.equalIn 10000 t (.agg (i64s la).toArray) (.agg (i64s lb).toArray)).run P w = .ok (decide (la = lb)) w := by
  unfold eqTwoC at hB
  split at hB
  · rename_i fs hfs
    split at hB
    · rename_i f g hfg
      simp only [Bool.and_eq_true, Bool.not_eq_true', beq_iff_eq, bne_iff_ne] at hB
      obtain ⟨⟨⟨⟨⟨⟨⟨⟨⟨⟨⟨h1, h2⟩, h3⟩, h4⟩, h5⟩, h6⟩, h7⟩, h8⟩, h9⟩, h10⟩, h11⟩, h12⟩ := hB
      have hf : P.fieldsOf t = fs := by unfold Program.fieldsOf; rw [hfs]
      rw [run_equalIn_struct w 9999 t _ _ (by rw [hf]; exact hfs) h11, hf, hfg]
      have e1 := run_equalIn_arr (P := P) (w := w) 9997 (la := (la.drop 0).take n) (lb := (lb.drop 0).take n) h5 (by simp; omega) (by simp; omega)
      have e2 := run_equalIn_arr (P := P) (w := w) 9997 (la := (la.drop n).take m) (lb := (lb.drop n).take m) h6 (by simp; omega) (by simp; omega)
      simp only [Op.eqFields, h1, h2, h3, h4, ne_eq, not_false_eq_true, if_true, Sem.run_bind, run_part_arr h9 h7, run_part_arr h10 h8, Result.andThen_ok, e1]
      have hiff : la = lb ↔ (la.drop 0).take n = (lb.drop 0).take n ∧ (la.drop n).take m = (lb.drop n).take m := by
        constructor
        · rintro rfl; exact ⟨rfl, rfl⟩
        · rintro ⟨p, q⟩
          rw [List.take_of_length_le (by simp; omega), List.take_of_length_le (by simp; omega)] at q
          rw [List.drop_zero, List.drop_zero] at p
          rw [← List.take_append_drop n la, ← List.take_append_drop n lb, p, q]
      by_cases hc : (la.drop 0).take n = (lb.drop 0).take n
      · rw [decide_eq_true hc]
        simp only [Bool.not_true, Bool.false_eq_true, if_false, Sem.run_bind, run_part_arr h10 h8, Result.andThen_ok, e2]
        by_cases hc2 : (la.drop n).take m = (lb.drop n).take m
        · rw [decide_eq_true hc2, decide_eq_true (hiff.2 ⟨hc, hc2⟩)]
          simp
        · rw [decide_eq_false hc2, decide_eq_false (fun h => hc2 (hiff.1 h).2)]
          simp
      · rw [decide_eq_false hc, decide_eq_false (fun h => hc (hiff.1 h).1)]
        simp
    · cases hB
  · cases hB
theorem rEqlTwoC {n m : Nat} {la lb : List Int} (ho : o.op = .binOp .eql t x y t') (hB : eqTwoC P t n m = true) (hx : ev ρ x = .agg (i64s la).toArray) (hy : ev ρ y = .agg (i64s lb).toArray) (ha : la.length = n + m) (hb : lb.length = n + m) : Runs P ρ o w (.bool (decide (la = lb))) := by
  have hg : P.eqGuardType P.depth t = false := by
    unfold eqTwoC at hB
    split at hB
    · split at hB
      · simp only [Bool.and_eq_true, Bool.not_eq_true'] at hB; exact hB.2
      · cases hB
    · cases hB
  have h1 := run_eqGuard_agg (P := P) w .eql t x y (i64s la).toArray (i64s lb).toArray hg
  have h2 := run_eql_struct (P := P) w t (i64s la).toArray (i64s lb).toArray
  rw [run_equal_twoC hB ha hb] at h2
  simp [Runs, execOp, ho, hx, hy, h1, h2]
end
theorem intC_i64s (n : Nat) (f : Nat → Int) : intC n f = (i64s ((List.range n).map f)).toArray := by
  simp [intC, i64s]
def sameS (f g : Nat → Int) : Prop := (List.range 68).map f = (List.range 68).map g
instance (f g : Nat → Int) : Decidable (sameS f g) := inferInstanceAs (Decidable (_ = _))
theorem sameS_iff {f g : Nat → Int} : sameS f g ↔ ∀ v, v < 68 → f v = g v := by
  unfold sameS
  rw [List.map_inj_left]
  exact ⟨fun h v hv => h v (List.mem_range.2 hv), fun h v hv => h v (List.mem_range.1 hv)⟩
theorem rEqlSight {P : Program} {ρ : Env} {o : Oper} {w : World} {x y : Operand} {t t' : TypeId} {f g : Nat → Int} (ho : o.op = .binOp .eql t x y t') (hB : eqTwoC P t 60 8 = true) (hx : ev ρ x = .agg (intC 68 f)) (hy : ev ρ y = .agg (intC 68 g)) : Runs P ρ o w (.bool (decide (sameS f g))) := by
  rw [intC_i64s] at hx hy
  exact rEqlTwoC (w := w) ho hB hx hy (by simp) (by simp)
theorem rEqlSightB {P : Program} {ρ : Env} {o : Oper} {w : World} {x y : Operand} {t t' : TypeId} {f g : Nat → Int} (bb : Bool) (hb : bb = decide (sameS f g)) (ho : o.op = .binOp .eql t x y t') (hB : eqTwoC P t 60 8 = true) (hx : ev ρ x = .agg (intC 68 f)) (hy : ev ρ y = .agg (intC 68 g)) : Runs P ρ o w (.bool bb) := by
  rw [hb]
  exact rEqlSight ho hB hx hy
theorem sight_eq : eqTwoC Tryd.prog 63 60 8 = true := by kernel_rfl
def tryF (d : List St) (all : List Nat) (stp : Nat → List Nat) (want : Nat → Int) : Nat → List Nat → List Nat → Option (List Nat)
  | 0, order, places => if sameS (seeF d places) want then some order else none
  | n + 1, order, places => all.findSome? fun tx => if tx ∈ order then none else tryF d all stp want n (order ++ [tx]) (places ++ stp tx)
structure TryAt (w : World) (a dn wn tr st : Nat) (d : List St) (all : List Nat) (stp : Nat → List Nat) (want : Nat → Int) : Prop where
  hall : ∃ A c, w.cell? ⟨a, 0, none⟩ = some (.slice A all.length c) ∧ Ints w (fun _ => True) (.slice A all.length c) (all.map Int.ofNat)
  hdn : ∃ A c, w.cell? ⟨dn, 0, none⟩ = some (.slice A d.length c) ∧ Sts w (fun _ => True) (.slice A d.length c) d
  hwn : Blk w wn 63 (intC 68 want)
  htr : w.cell? ⟨tr, 0, none⟩ = some (.func (.func 24) #[] #[.pointer (some ⟨a, 0, none⟩), .pointer (some ⟨dn, 0, none⟩), .pointer (some ⟨wn, 0, none⟩), .pointer (some ⟨tr, 0, none⟩), .pointer (some ⟨st, 0, none⟩)])
  hst : ∃ sm g, w.cell? ⟨st, 0, none⟩ = some (.map (some sm)) ∧ MapIs w sm g ∧ ∀ tx, tx ∈ all → ∃ A c, (g (tx : Int)).getD (.slice none 0 0) = .slice A (stp tx).length c ∧ Ints w (fun _ => True) (.slice A (stp tx).length c) ((stp tx).map Int.ofNat)
theorem TryAt.pure {w w' : World} {a dn wn tr st : Nat} {d : List St} {all : List Nat} {stp : Nat → List Nat} {want : Nat → Int} (h : TryAt w a dn wn tr st d all stp want) (hp : Pure w w') : TryAt w' a dn wn tr st d all stp want := by
  have hI := (Inv.start (fun _ => False) w).pure hp
  obtain ⟨⟨A, c, h1, h2⟩, ⟨A2, c2, h3, h4⟩, h5, h6, ⟨sm, g, h7, h8, h9⟩⟩ := h
  refine ⟨⟨A, c, hI.oldp h1, Rd.chg h2 (hp.chg (fun _ => False)) (fun _ _ h => h)⟩, ⟨A2, c2, hI.oldp h3, Rd.chg h4 (hp.chg (fun _ => False)) (fun _ _ h => h)⟩, ?_, hI.oldp h6, ⟨sm, g, hI.oldp h7, ((MapE.ok h8).chg (hp.chg (fun _ => False)) (fun _ _ h => h)).1, fun tx ht => ?_⟩⟩
  · exact h5.pure hp
  · obtain ⟨A3, c3, e1, e2⟩ := h9 tx ht
    exact ⟨A3, c3, e1, Rd.chg e2 (hp.chg (fun _ => False)) (fun _ _ h => h)⟩
theorem ints_row {w : World} {base e n c : Nat} {A : Option Addr} {xs : List Value} {l : List Int} (h : w.ownsRow base e 1 (.slice A n c) n xs) (hn : n = l.length) (hx : xs = l.map (Value.int .i64)) : Ints w (fun _ => True) (.slice A n c) l := by
  subst hn hx
  exact Rd.of_own h (fun _ _ _ => trivial)
theorem rLookSl {P : Program} {ρ : Env} {o : Oper} {w : World} {x y : Operand} {t kt et b : Nat} {q : IntKind} {a : Int} {v zv : Value} {g : Int → Option Value} (hM : MapIs w b g) (hv : (g a).getD zv = v) (ho : o.op = .lookup t x y false) (ht : P.underlying t = some (.map kt et)) (hk : P.underlying kt = some (.int q)) (hz : (P.info? et).bind (·.zero) = some zv) (hx : ev ρ x = .map (some b)) (hy : ev ρ y = .int .i64 a) : Runs P ρ o w v := by
  have := rLook1 ho ht hk hz hx hy hM
  rwa [hv] at this
section
variable {P : Program} {ρ : Env} {o : Oper} {w : World} {x : Operand} {t t' e : TypeId}
theorem rSlNeqF {n c : Nat} (ho : o.op = .binOp .neq t x (.const (.slice none 0 0)) t') (ht : P.underlying t = some (.slice e)) (hx : ev ρ x = .slice none n c) : Runs P ρ o w (.bool false) := by
  have h := run_equal (P := P) (w := w) (t := t) (x := .slice none n c) (y := .slice none 0 0) (r := true) (fun d => by simp [Op.equalIn, run_underlying ht])
  simp [Runs, execOp, ho, hx, show ev ρ (.const (.slice none 0 0)) = .slice none 0 0 from rfl, eqGuard, binOp, h]
theorem rSlNeqT {n c : Nat} {p : Addr} (ho : o.op = .binOp .neq t x (.const (.slice none 0 0)) t') (ht : P.underlying t = some (.slice e)) (hx : ev ρ x = .slice (some p) n c) : Runs P ρ o w (.bool true) := by
  have h := run_equal (P := P) (w := w) (t := t) (x := .slice (some p) n c) (y := .slice none 0 0) (r := false) (fun d => by simp [Op.equalIn, run_underlying ht])
  simp [Runs, execOp, ho, hx, show ev ρ (.const (.slice none 0 0)) = .slice none 0 0 from rfl, eqGuard, binOp, h]
end
theorem Sts.pure' {w w' : World} {D : Nat → Prop} {v : Value} {l : List St} (h : Sts w D v l) (hp : Pure w w') : Sts w' D v l := Rd.chg h (hp.chg (fun _ => False)) (fun _ _ h => h)
theorem Ints.pure' {w w' : World} {D : Nat → Prop} {v : Value} {l : List Int} (h : Ints w D v l) (hp : Pure w w') : Ints w' D v l := Rd.chg h (hp.chg (fun _ => False)) (fun _ _ h => h)
theorem natV_map (l : List Nat) : natV l = (l.map Int.ofNat).map (Value.int .i64) := by unfold natV; rw [List.map_map]; rfl
set_option maxHeartbeats 4000000 in
theorem try_any (a dn wn tr st : Nat) (d : List St) (all : List Nat) (stp : Nat → List Nat) (want : Nat → Int) (h60 : d.length ≤ 60) (hal : all.length ≤ 8) (ha0 : 0 < all.length) (hstp : ∀ tx ∈ all, (stp tx).length ≤ 60 ∧ ∀ x ∈ stp tx, x < d.length) :
    ∀ (n : Nat) (order places : List Nat) (OA PA : Option Addr) (oc pc : Nat) (w0 : World), TryAt w0 a dn wn tr st d all stp want → order.length + n = all.length → Ints w0 (fun _ => True) (.slice OA order.length oc) (order.map Int.ofNat) → Ints w0 (fun _ => True) (.slice PA places.length pc) (places.map Int.ofNat) →
      (∀ x ∈ places, x < d.length) → places.length ≤ 60 * order.length →
      Calls Tryd.prog 24 #[.slice OA order.length oc, .slice PA places.length pc, .pointer (some ⟨a, 0, none⟩), .pointer (some ⟨dn, 0, none⟩), .pointer (some ⟨wn, 0, none⟩), .pointer (some ⟨tr, 0, none⟩), .pointer (some ⟨st, 0, none⟩)] w0 fun en w' =>
        (∃ A m c, en = .returned (.slice A m c) ∧ (A = none ↔ tryF d all stp want n order places = none)) ∧ Pure w0 w'
  | 0, order, places, OA, PA, oc, pc, w0, hT, hn, hO, hP, hpl, hpn => by
    have hI := Inv.start (fun _ => False) w0
    obtain ⟨A, c, q1, -⟩ := hT.hall
    obtain ⟨A2, c2, q2, hS⟩ := hT.hdn
    have hq3 := hT.hwn
    refine calls_of_W (N := Tryd.f24.ntmps) Tryd.func24 rfl rfl rfl ?_
    refine W_seq ?_
    refine W_region ?_
    refine WL_val rfl rfl rfl (by first | exact rAsgnS rfl rfl | exact rAsgn rfl) ?_
    refine WL_nil ?_
    refine W_seq ?_
    refine W_seq ?_
    refine W_region ?_
    refine WL_val rfl rfl rfl (by first | exact rMoveS rfl rfl | exact rMove rfl) ?_
    refine WL_val rfl rfl rfl (rLen rfl Tryd.underlying23 rfl) ?_
    refine WL_val rfl rfl rfl (by first | exact rLd (v := .slice _ _ _) rfl (by kernel_rfl) rfl (by first | exact hI.oldp q1 | exact q1) | exact rLd rfl (by kernel_rfl) rfl (by first | exact hI.oldp q1 | exact q1)) ?_
    refine WL_val rfl rfl rfl (rLen rfl Tryd.underlying23 rfl) ?_
    refine WL_val rfl rfl rfl (by first | exact rEqlT rfl rfl rfl (by omega) | exact rEqlF rfl rfl rfl (by omega) | exact rEql rfl rfl rfl) ?_
    refine WL_nil ?_
    refine W_cond true rfl ?_
    by_cases hs : sameS (seeF d places) want
    · refine W_seq ?_
      refine W_seq ?_
      refine W_draw (by kernel_rfl) ?_
      refine WA_inv (T := [4]) hI.drew ?_
      intro Sx hSx hXS
      replace hI := hI.drew
      refine WT_take 0 rfl rfl (by kernel_rfl) (hXS _ hI) rfl (fun W hW => have hI := hSx W hW; (by first | exact rLd (v := .slice _ _ _) rfl (by kernel_rfl) rfl (by first | exact hI.oldp q2 | exact q2) | exact rLd rfl (by kernel_rfl) rfl (by first | exact hI.oldp q2 | exact q2))) ?_
      refine WT_take 1 rfl rfl (by kernel_rfl) (hXS _ hI) rfl (fun W hW => have hI := hSx W hW; (by first | exact rMoveS rfl rfl | exact rMove rfl)) ?_
      refine WT_take 3 rfl rfl (by kernel_rfl) (hXS _ hI) rfl (fun W hW => have hI := hSx W hW; (rLdB (n := 68) rfl (by kernel_rfl) (by kernel_rfl) rfl (intC_size _ _) (hq3.pure hI.pu))) ?_
      refine WT_one 2 rfl (by kernel_rfl) rfl ?_
      refine WL_call rfl rfl rfl (rCall (vs := [.slice _ _ _, .slice _ _ _]) rfl Tryd.func23 rfl rfl rfl) ?_
      refine (see_any _ _ _ d _ _ _ places _ _ _ (hS.pure' hI.pu) (hP.pure' hI.pu) h60 hpl).mono ?_
      rintro e w1 ⟨rfl, hp⟩
      refine ⟨_, rfl, ?_⟩
      replace hI := hI.pure hp
      refine WL_nil ⟨hXS _ hI, ?_⟩
      refine WT_A (by kernel_rfl) ?_
      clear hXS hSx
      refine WA_T (fun _ => True) [] ?_
      refine WT_take 4 rfl rfl (by kernel_rfl) trivial rfl (fun W _ => (rEqlSightB true (decide_eq_true hs).symm rfl sight_eq rfl rfl)) ?_
      refine WT_end (by kernel_rfl) ?_
      refine W_cond true rfl ?_
      refine W_seq ?_
      refine W_region ?_
      refine WL_val rfl rfl rfl (by first | exact rMoveS rfl rfl | exact rMove rfl) ?_
      refine WL_val rfl rfl rfl (by first | exact rAsgnS rfl rfl | exact rAsgn rfl) ?_
      refine WL_nil ?_
      refine W_ret ?_
      refine ret1 9 (.inr rfl) rfl ⟨⟨_, _, _, rfl, ?_⟩, hI.pu⟩
      rw [tryF, if_pos hs]
      obtain ⟨x, hx⟩ : ∃ x, order[0]? = some x := ⟨_, List.getElem?_eq_getElem (by omega)⟩
      obtain ⟨b, o, rfl, _⟩ := nats_get hO hx
      simp
    · refine W_seq ?_
      refine W_seq ?_
      refine W_draw (by kernel_rfl) ?_
      refine WA_inv (T := [4]) hI.drew ?_
      intro Sx hSx hXS
      replace hI := hI.drew
      refine WT_take 0 rfl rfl (by kernel_rfl) (hXS _ hI) rfl (fun W hW => have hI := hSx W hW; (by first | exact rLd (v := .slice _ _ _) rfl (by kernel_rfl) rfl (by first | exact hI.oldp q2 | exact q2) | exact rLd rfl (by kernel_rfl) rfl (by first | exact hI.oldp q2 | exact q2))) ?_
      refine WT_take 1 rfl rfl (by kernel_rfl) (hXS _ hI) rfl (fun W hW => have hI := hSx W hW; (by first | exact rMoveS rfl rfl | exact rMove rfl)) ?_
      refine WT_take 3 rfl rfl (by kernel_rfl) (hXS _ hI) rfl (fun W hW => have hI := hSx W hW; (rLdB (n := 68) rfl (by kernel_rfl) (by kernel_rfl) rfl (intC_size _ _) (hq3.pure hI.pu))) ?_
      refine WT_one 2 rfl (by kernel_rfl) rfl ?_
      refine WL_call rfl rfl rfl (rCall (vs := [.slice _ _ _, .slice _ _ _]) rfl Tryd.func23 rfl rfl rfl) ?_
      refine (see_any _ _ _ d _ _ _ places _ _ _ (hS.pure' hI.pu) (hP.pure' hI.pu) h60 hpl).mono ?_
      rintro e w1 ⟨rfl, hp⟩
      refine ⟨_, rfl, ?_⟩
      replace hI := hI.pure hp
      refine WL_nil ⟨hXS _ hI, ?_⟩
      refine WT_A (by kernel_rfl) ?_
      clear hXS hSx
      refine WA_T (fun _ => True) [] ?_
      refine WT_take 4 rfl rfl (by kernel_rfl) trivial rfl (fun W _ => (rEqlSightB false (decide_eq_false hs).symm rfl sight_eq rfl rfl)) ?_
      refine WT_end (by kernel_rfl) ?_
      refine W_cond false rfl ?_
      refine W_skip ?_
      refine W_seq ?_
      refine W_region ?_
      refine WL_val rfl rfl rfl (by first | exact rAsgnS rfl rfl | exact rAsgn rfl) ?_
      refine WL_nil ?_
      refine W_ret ?_
      refine ret1 9 (.inr rfl) rfl ⟨⟨_, _, _, rfl, ?_⟩, hI.pu⟩
      rw [tryF, if_neg hs]
      exact ⟨fun _ => rfl, fun _ => rfl⟩
  | n + 1, order, places, OA, PA, oc, pc, w0, hT, hn, hO, hP, hpl, hpn => by
    have hI := Inv.start (fun _ => False) w0
    obtain ⟨AA, ac, q1, hA⟩ := hT.hall
    have q5 := hT.htr
    obtain ⟨sm, sg, q6, hM, hg⟩ := hT.hst
    have hnl : order.length < all.length := by omega
    obtain ⟨F, hF⟩ : ∃ F : Nat → Option (List Nat), (fun tx => if tx ∈ order then none else tryF d all stp want n (order ++ [tx]) (places ++ stp tx)) = F := ⟨_, rfl⟩
    have htry : tryF d all stp want (n + 1) order places = all.findSome? F := by rw [tryF, hF]
    refine calls_of_W (N := Tryd.f24.ntmps) Tryd.func24 rfl rfl rfl ?_
    refine W_seq ?_
    refine W_region ?_
    refine WL_val rfl rfl rfl (by first | exact rAsgnS rfl rfl | exact rAsgn rfl) ?_
    refine WL_nil ?_
    refine W_seq ?_
    refine W_seq ?_
    refine W_region ?_
    refine WL_val rfl rfl rfl (by first | exact rMoveS rfl rfl | exact rMove rfl) ?_
    refine WL_val rfl rfl rfl (rLen rfl Tryd.underlying23 rfl) ?_
    refine WL_val rfl rfl rfl (by first | exact rLd (v := .slice _ _ _) rfl (by kernel_rfl) rfl (by first | exact hI.oldp q1 | exact q1) | exact rLd rfl (by kernel_rfl) rfl (by first | exact hI.oldp q1 | exact q1)) ?_
    refine WL_val rfl rfl rfl (rLen rfl Tryd.underlying23 rfl) ?_
    refine WL_val rfl rfl rfl (by first | exact rEqlT rfl rfl rfl (by omega) | exact rEqlF rfl rfl rfl (by omega) | exact rEql rfl rfl rfl) ?_
    refine WL_nil ?_
    refine W_cond false rfl ?_
    refine W_skip ?_
    refine W_seq ?_
    refine W_seq ?_
    refine W_region ?_
    refine WL_val rfl rfl rfl (by first | exact rLd (v := .slice _ _ _) rfl (by kernel_rfl) rfl (by first | exact hI.oldp q1 | exact q1) | exact rLd rfl (by kernel_rfl) rfl (by first | exact hI.oldp q1 | exact q1)) ?_
    refine WL_val rfl rfl rfl (rLen rfl Tryd.underlying23 rfl) ?_
    refine WL_val rfl rfl rfl (by first | exact rMoveI rfl rfl | exact rMove rfl) ?_
    refine WL_nil ?_
    refine W_block ?_
    refine W_loop (fun ρ w => ∃ k : Nat, k ≤ all.length ∧ (∀ x ∈ all.take k, F x = none) ∧ Has ρ [(26, .int .i64 (k : Int)), (25, .int .i64 (all.length : Int)), (24, .slice AA all.length ac), (0, .slice OA order.length oc), (1, .slice PA places.length pc), (2, .pointer (some ⟨a, 0, none⟩)), (3, .pointer (some ⟨dn, 0, none⟩)), (4, .pointer (some ⟨wn, 0, none⟩)), (5, .pointer (some ⟨tr, 0, none⟩)), (6, .pointer (some ⟨st, 0, none⟩))] ∧ Inv (fun _ => False) w0 w []) (fun ρ _ => all.length - cnt (ρ 26))
      ⟨0, by omega, by simp, ⟨rfl, rfl, rfl, rfl, rfl, rfl, rfl, rfl, rfl, rfl, trivial⟩, hI⟩ ?_
    clear hI
    rintro ρ w ⟨k, hk, hno, hH, hI⟩
    obtain ⟨σ, rfl⟩ := hH.open
    by_cases hkl : k < all.length
    · obtain ⟨tx, htx⟩ : ∃ tx, all[k]? = some tx := ⟨_, List.getElem?_eq_getElem hkl⟩
      have hmem := List.mem_of_getElem? htx
      obtain ⟨ab, ao, rfl, q7⟩ := nats_get hA htx
      have htk : all.take (k + 1) = all.take k ++ [tx] := take_nat htx
      refine W_seq ?_
      refine W_region ?_
      refine WL_val rfl rfl rfl (by first | exact rLssT rfl rfl rfl (by omega) | exact rLssF rfl rfl rfl (by omega) | exact rLss rfl rfl rfl) ?_
      refine WL_nil ?_
      refine W_seq ?_
      refine W_cond true rfl ?_
      refine W_skip ?_
      refine W_seq ?_
      refine W_block ?_
      refine W_seq ?_
      refine W_region ?_
      refine WL_val rfl rfl rfl (by first | exact rIdx0 rfl Tryd.underlying23 (by kernel_rfl) rfl rfl rfl (by omega) | exact rIdx1 rfl Tryd.underlying23 (by kernel_rfl) rfl rfl (by omega)) ?_
      refine WL_val rfl rfl rfl (by first | exact rLd (v := .int .i64 _) rfl (by kernel_rfl) rfl (by first | exact hI.oldp q7 | exact q7) | exact rLd rfl (by kernel_rfl) rfl (by first | exact hI.oldp q7 | exact q7)) ?_
      refine WL_val rfl rfl rfl (by first | exact rAsgnI rfl rfl | exact rAsgn rfl) ?_
      refine WL_nil ?_
      refine W_seq ?_
      refine W_seq ?_
      refine W_region ?_
      refine WL_val rfl rfl rfl (by first | exact rMoveS rfl rfl | exact rMove rfl) ?_
      refine WL_val rfl rfl rfl (by first | exact rMoveI rfl rfl | exact rMove rfl) ?_
      refine WL_call rfl rfl rfl (rCall (vs := [.slice _ _ _, .int .i64 _]) rfl Tryd.func18 rfl rfl rfl) ?_
      refine (conI_any OA order.length oc (order.map Int.ofNat) (tx : Int) _ _ (hO.pure' hI.pu)).mono ?_
      rintro e w1 ⟨rfl, hp⟩
      refine ⟨_, rfl, ?_⟩
      replace hI := hI.pure hp
      have hmo : decide ((tx : Int) ∈ order.map Int.ofNat) = decide (tx ∈ order) := by
        refine decide_eq_decide.2 ?_
        rw [List.mem_map]
        constructor
        · rintro ⟨z, hz, he⟩
          have : z = tx := by have : (z : Int) = (tx : Int) := he; omega
          exact this ▸ hz
        · exact fun h => ⟨tx, h, rfl⟩
      rw [hmo]
      by_cases hin : tx ∈ order
      · rw [decide_eq_true hin]
        refine WL_nil ?_
        refine W_cond true rfl ?_
        refine W_exit ?_
        refine W_region ?_
        refine WL_val rfl rfl rfl (by first | exact rInc rfl rfl rfl (by omega) | exact rAdd rfl rfl rfl (by omega) | exact rAddW rfl rfl rfl) ?_
        refine WL_val rfl rfl rfl (by first | exact rMoveI rfl rfl | exact rMove rfl) ?_
        refine WL_nil ?_
        refine ⟨⟨k + 1, by omega, ?_, ⟨rfl, rfl, rfl, rfl, rfl, rfl, rfl, rfl, rfl, rfl, trivial⟩, hI⟩, by show all.length - ((k + 1 : Nat) : Int).toNat < all.length - (k : Int).toNat; omega⟩
        rw [htk]
        intro x hx
        rcases List.mem_append.1 hx with hx | hx
        · exact hno x hx
        · rw [List.mem_singleton.1 hx, ← hF]
          exact if_pos hin
      · rw [decide_eq_false hin]
        have hFtx : F tx = tryF d all stp want n (order ++ [tx]) (places ++ stp tx) := by rw [← hF]; exact if_neg hin
        obtain ⟨As, cs, hgv, hS2⟩ := hg tx hmem
        have hMp : ∀ w, Pure w0 w → MapIs w sm sg := fun w hp => ((MapE.ok hM).chg (hp.chg (fun _ => False)) (fun _ _ h => h)).1
        have hfl : [places, stp tx].flatten = places ++ stp tx := by simp
        have hs1 := (hstp tx hmem).1
        have e1 : (order ++ [tx]).length = order.length + 1 := by simp
        have e2 : (places ++ stp tx).length = places.length + (stp tx).length := by simp
        refine WL_nil ?_
        refine W_cond false rfl ?_
        refine W_skip ?_
        refine W_seq_cut (fun ρ w => ∃ (A : Option Addr) (m c : Nat), (A = none ↔ F tx = none) ∧ Has ρ [(12, .slice A m c), (26, .int .i64 (k : Int)), (25, .int .i64 (all.length : Int)), (24, .slice (some ⟨ab, ao, none⟩) all.length ac), (0, .slice OA order.length oc), (1, .slice PA places.length pc), (2, .pointer (some ⟨a, 0, none⟩)), (3, .pointer (some ⟨dn, 0, none⟩)), (4, .pointer (some ⟨wn, 0, none⟩)), (5, .pointer (some ⟨tr, 0, none⟩)), (6, .pointer (some ⟨st, 0, none⟩))] ∧ Inv (fun _ => False) w0 w []) ?_ ?_
        · refine W_draw (by kernel_rfl) ?_
          refine WA_inv (T := []) hI.drew ?_
          intro Sx hSx hXS
          replace hI := hI.drew
          refine WT_take 0 rfl rfl (by kernel_rfl) (hXS _ hI) rfl (fun W hW => have hI := hSx W hW; (by first | exact rLd (v := .func _ _ _) rfl (by kernel_rfl) rfl (by first | exact hI.c0 rfl | exact hI.c1 rfl | exact hI.c2 rfl | exact hI.c3 rfl | exact hI.oldp q5 | exact q5 | exact hI.oldp q6 | exact q6) | exact rLd rfl (by kernel_rfl) rfl (by first | exact hI.c0 rfl | exact hI.c1 rfl | exact hI.c2 rfl | exact hI.c3 rfl | exact hI.oldp q5 | exact q5 | exact hI.oldp q6 | exact q6))) ?_
          refine WT_take 1 rfl rfl (by kernel_rfl) (hXS _ hI) rfl (fun W hW => have hI := hSx W hW; (by first | exact rMoveS rfl rfl | exact rMove rfl)) ?_
          refine WT_take 3 rfl rfl (by kernel_rfl) (hXS _ hI) rfl (fun W hW => have hI := hSx W hW; (by first | exact rMoveI rfl rfl | exact rMove rfl)) ?_
          refine WT_take 6 rfl rfl (by kernel_rfl) (hXS _ hI) rfl (fun W hW => have hI := hSx W hW; (by first | exact rMoveS rfl rfl | exact rMove rfl)) ?_
          refine WT_take 7 rfl rfl (by kernel_rfl) (hXS _ hI) rfl (fun W hW => have hI := hSx W hW; (by first | exact rLd (v := .map _) rfl (by kernel_rfl) rfl (by first | exact hI.c0 rfl | exact hI.c1 rfl | exact hI.c2 rfl | exact hI.c3 rfl | exact hI.oldp q5 | exact q5 | exact hI.oldp q6 | exact q6) | exact rLd rfl (by kernel_rfl) rfl (by first | exact hI.c0 rfl | exact hI.c1 rfl | exact hI.c2 rfl | exact hI.c3 rfl | exact hI.oldp q5 | exact q5 | exact hI.oldp q6 | exact q6))) ?_
          refine WT_take 8 rfl rfl (by kernel_rfl) (hXS _ hI) rfl (fun W hW => have hI := hSx W hW; (by first | exact rMoveI rfl rfl | exact rMove rfl)) ?_
          refine WT_take 9 rfl rfl (by kernel_rfl) (hXS _ hI) rfl (fun W hW => have hI := hSx W hW; (rLookSl (hMp _ hI.pu) hgv rfl Tryd.underlying59 Tryd.underlying3 (by kernel_rfl) rfl rfl)) ?_
          refine WT_three 2 4 10 rfl rfl rfl (by kernel_rfl) rfl rfl rfl ?_ ?_ ?_
          · refine WL_call rfl rfl rfl (rCall (vs := [.slice _ _ _]) rfl Tryd.func25 rfl rfl rfl) ?_
            refine (cloneI_any OA order.length oc (order.map Int.ofNat) _ _ (hO.pure' hI.pu) (by simp; omega)).mono ?_
            rintro e w1 ⟨A', c', rfl, hi⟩
            refine ⟨_, rfl, ?_⟩
            replace hI := hI.app1 hi
            refine WL_nil ⟨hXS _ hI.d0, ?_⟩
            refine WT_two 4 10 rfl rfl (by kernel_rfl) rfl rfl ?_ ?_
            · refine WL_lit (vs := [_]) (qs := [(0, .int .i64 _)]) [.int .i64 0] [0] hI rfl rfl rfl rfl rfl rfl Tryd.underlying23 (fun _ => by kernel_rfl) ?_
              clear hI; rintro b37 w - - hI
              refine WL_nil ⟨hXS _ hI.d0.d0, ?_⟩
              refine WT_two 5 10 rfl rfl (by kernel_rfl) rfl rfl ?_ ?_
              · first | refine WL_app0 (z := .int .i64 0) (by_ := 8) (news := [.int .i64 (tx : Int)]) hI rfl rfl rfl rfl rfl rfl Tryd.underlying23 (by kernel_rfl) rfl (by omega) (by rfl) (by first | exact hI.lit0 | exact hI.d0.lit0 | exact hI.d0.d0.lit0) rfl (by omega) (by omega) (Nat.zero_le _) ?_ | refine WL_app1 (z := .int .i64 0) (by_ := 8) (news := [.int .i64 (tx : Int)]) hI rfl rfl rfl rfl rfl rfl Tryd.underlying23 (by kernel_rfl) rfl (by omega) (by rfl) (by first | exact hI.lit0 | exact hI.d0.lit0 | exact hI.d0.d0.lit0) rfl (by omega) (by omega) (Nat.zero_le _) ?_ | refine WL_app2 (z := .int .i64 0) (by_ := 8) (news := [.int .i64 (tx : Int)]) hI rfl rfl rfl rfl rfl rfl Tryd.underlying23 (by kernel_rfl) rfl (by omega) (by rfl) (by first | exact hI.lit0 | exact hI.d0.lit0 | exact hI.d0.d0.lit0) rfl (by omega) (by omega) (Nat.zero_le _) ?_
                clear hI; rintro A' c' w _ hcl hI
                refine WL_nil ⟨hXS _ hI.d0.d0, ?_⟩
                refine WT_one 10 rfl (by kernel_rfl) rfl ?_
                refine WL_lit (vs := [_, _]) (qs := [(0, .slice _ _ _), (1, .slice _ _ _)]) [.slice none 0 0, .slice none 0 0] [0, 1] hI rfl rfl rfl rfl rfl rfl Tryd.underlying96 (fun _ => by kernel_rfl) ?_
                clear hI; rintro b43 w - - hI
                refine WL_nil ⟨hXS _ hI.d0.d0.d0, ?_⟩
                refine WT_one 11 rfl (by kernel_rfl) rfl ?_
                refine WL_call rfl rfl rfl (rCall (vs := [.slice _ _ _]) rfl Tryd.func26 rfl rfl rfl) ?_
                have hc := concat_any b43 2 [places, stp tx] (fun _ => True) _ (by
                  intro i l hi
                  match i, hi with
                  | 0, hi => injection hi with hi; subst hi; exact ⟨PA, pc, by first | exact hI.c0 rfl | exact hI.c1 rfl | exact hI.c2 rfl, hP.pure' hI.pu⟩
                  | 1, hi => injection hi with hi; subst hi; exact ⟨As, cs, by first | exact hI.c0 rfl | exact hI.c1 rfl | exact hI.c2 rfl, hS2.pure' hI.pu⟩) rfl (by rw [hfl, e2]; omega) (by omega)
                rw [hfl] at hc
                refine hc.mono ?_
                rintro e w1 ⟨v, rfl, hp, A44, c44, rfl, hown⟩
                refine ⟨_, rfl, ?_⟩
                replace hI := hI.fresh hp (Row.ok hown) (fun k hk => Row.lo hown hk)
                refine WL_nil ⟨hXS _ hI.d0.d0.d0.d0, ?_⟩
                refine WT_one 12 rfl (by kernel_rfl) rfl ?_
                refine WL_call rfl rfl rfl (rCallF (first := []) (cap := [_, _, _, _, _]) (vs := [_, _, _, _, _, _, _]) rfl rfl Tryd.func24 rfl rfl rfl) ?_
                have ih := try_any a dn wn tr st d all stp want h60 hal ha0 hstp n (order ++ [tx]) (places ++ stp tx) A' A44 c' c44 _ (hT.pure hI.pu) (by omega) (by rw [e1]; first | exact ints_row hI.g1 (by simp) (by simp) | exact ints_row hI.g2 (by simp) (by simp) | exact ints_row hI.g3 (by simp) (by simp)) (ints_row hI.g0 (by simp) (natV_map _)) (by
                  intro x hx
                  rcases List.mem_append.1 hx with hx | hx
                  · exact hpl x hx
                  · exact (hstp tx hmem).2 x hx) (by omega)
                rw [e1] at ih
                refine ih.mono ?_
                rintro e w1 ⟨⟨A5, m5, c5, rfl, hA5⟩, hp⟩
                refine ⟨_, rfl, ?_⟩
                replace hI := hI.pure hp
                refine WL_nil ⟨hXS _ hI.d0.d0.d0.d0, ?_⟩
                refine WT_take 13 rfl rfl (by kernel_rfl) (hXS _ hI.d0.d0.d0.d0) rfl (fun W hW => have hI := hSx W hW; (by first | exact rAsgnS rfl rfl | exact rAsgn rfl)) ?_
                refine WT_end (by kernel_rfl) ?_
                exact ⟨A5, m5, c5, by rw [hFtx]; exact hA5, ⟨rfl, rfl, rfl, rfl, rfl, rfl, rfl, rfl, rfl, rfl, rfl, trivial⟩, hI.d0.d0.d0.d0⟩
              · refine WL_lit (vs := [_, _]) (qs := [(0, .slice _ _ _), (1, .slice _ _ _)]) [.slice none 0 0, .slice none 0 0] [0, 1] hI rfl rfl rfl rfl rfl rfl Tryd.underlying96 (fun _ => by kernel_rfl) ?_
                clear hI; rintro b43 w - - hI
                refine WL_nil ⟨hXS _ hI.d0.d0.d0, ?_⟩
                refine WT_one 5 rfl (by kernel_rfl) rfl ?_
                first | refine WL_app0 (z := .int .i64 0) (by_ := 8) (news := [.int .i64 (tx : Int)]) hI rfl rfl rfl rfl rfl rfl Tryd.underlying23 (by kernel_rfl) rfl (by omega) (by rfl) (by first | exact hI.lit0 | exact hI.d0.lit0 | exact hI.d0.d0.lit0) rfl (by omega) (by omega) (Nat.zero_le _) ?_ | refine WL_app1 (z := .int .i64 0) (by_ := 8) (news := [.int .i64 (tx : Int)]) hI rfl rfl rfl rfl rfl rfl Tryd.underlying23 (by kernel_rfl) rfl (by omega) (by rfl) (by first | exact hI.lit0 | exact hI.d0.lit0 | exact hI.d0.d0.lit0) rfl (by omega) (by omega) (Nat.zero_le _) ?_ | refine WL_app2 (z := .int .i64 0) (by_ := 8) (news := [.int .i64 (tx : Int)]) hI rfl rfl rfl rfl rfl rfl Tryd.underlying23 (by kernel_rfl) rfl (by omega) (by rfl) (by first | exact hI.lit0 | exact hI.d0.lit0 | exact hI.d0.d0.lit0) rfl (by omega) (by omega) (Nat.zero_le _) ?_
                clear hI; rintro A' c' w _ hcl hI
                refine WL_nil ⟨hXS _ hI.d0.d0.d0, ?_⟩
                refine WT_one 11 rfl (by kernel_rfl) rfl ?_
                refine WL_call rfl rfl rfl (rCall (vs := [.slice _ _ _]) rfl Tryd.func26 rfl rfl rfl) ?_
                have hc := concat_any b43 2 [places, stp tx] (fun _ => True) _ (by
                  intro i l hi
                  match i, hi with
                  | 0, hi => injection hi with hi; subst hi; exact ⟨PA, pc, by first | exact hI.c0 rfl | exact hI.c1 rfl | exact hI.c2 rfl, hP.pure' hI.pu⟩
                  | 1, hi => injection hi with hi; subst hi; exact ⟨As, cs, by first | exact hI.c0 rfl | exact hI.c1 rfl | exact hI.c2 rfl, hS2.pure' hI.pu⟩) rfl (by rw [hfl, e2]; omega) (by omega)
                rw [hfl] at hc
                refine hc.mono ?_
                rintro e w1 ⟨v, rfl, hp, A44, c44, rfl, hown⟩
                refine ⟨_, rfl, ?_⟩
                replace hI := hI.fresh hp (Row.ok hown) (fun k hk => Row.lo hown hk)
                refine WL_nil ⟨hXS _ hI.d0.d0.d0.d0, ?_⟩
                refine WT_one 12 rfl (by kernel_rfl) rfl ?_
                refine WL_call rfl rfl rfl (rCallF (first := []) (cap := [_, _, _, _, _]) (vs := [_, _, _, _, _, _, _]) rfl rfl Tryd.func24 rfl rfl rfl) ?_
                have ih := try_any a dn wn tr st d all stp want h60 hal ha0 hstp n (order ++ [tx]) (places ++ stp tx) A' A44 c' c44 _ (hT.pure hI.pu) (by omega) (by rw [e1]; first | exact ints_row hI.g1 (by simp) (by simp) | exact ints_row hI.g2 (by simp) (by simp) | exact ints_row hI.g3 (by simp) (by simp)) (ints_row hI.g0 (by simp) (natV_map _)) (by
                  intro x hx
                  rcases List.mem_append.1 hx with hx | hx
                  · exact hpl x hx
                  · exact (hstp tx hmem).2 x hx) (by omega)
                rw [e1] at ih
                refine ih.mono ?_
                rintro e w1 ⟨⟨A5, m5, c5, rfl, hA5⟩, hp⟩
                refine ⟨_, rfl, ?_⟩
                replace hI := hI.pure hp
                refine WL_nil ⟨hXS _ hI.d0.d0.d0.d0, ?_⟩
                refine WT_take 13 rfl rfl (by kernel_rfl) (hXS _ hI.d0.d0.d0.d0) rfl (fun W hW => have hI := hSx W hW; (by first | exact rAsgnS rfl rfl | exact rAsgn rfl)) ?_
                refine WT_end (by kernel_rfl) ?_
                exact ⟨A5, m5, c5, by rw [hFtx]; exact hA5, ⟨rfl, rfl, rfl, rfl, rfl, rfl, rfl, rfl, rfl, rfl, rfl, trivial⟩, hI.d0.d0.d0.d0⟩
            · refine WL_lit (vs := [_, _]) (qs := [(0, .slice _ _ _), (1, .slice _ _ _)]) [.slice none 0 0, .slice none 0 0] [0, 1] hI rfl rfl rfl rfl rfl rfl Tryd.underlying96 (fun _ => by kernel_rfl) ?_
              clear hI; rintro b43 w - - hI
              refine WL_nil ⟨hXS _ hI.d0.d0, ?_⟩
              refine WT_one 4 rfl (by kernel_rfl) rfl ?_
              refine WL_lit (vs := [_]) (qs := [(0, .int .i64 _)]) [.int .i64 0] [0] hI rfl rfl rfl rfl rfl rfl Tryd.underlying23 (fun _ => by kernel_rfl) ?_
              clear hI; rintro b37 w - - hI
              refine WL_nil ⟨hXS _ hI.d0.d0.d0, ?_⟩
              refine WT_one 5 rfl (by kernel_rfl) rfl ?_
              first | refine WL_app0 (z := .int .i64 0) (by_ := 8) (news := [.int .i64 (tx : Int)]) hI rfl rfl rfl rfl rfl rfl Tryd.underlying23 (by kernel_rfl) rfl (by omega) (by rfl) (by first | exact hI.lit0 | exact hI.d0.lit0 | exact hI.d0.d0.lit0) rfl (by omega) (by omega) (Nat.zero_le _) ?_ | refine WL_app1 (z := .int .i64 0) (by_ := 8) (news := [.int .i64 (tx : Int)]) hI rfl rfl rfl rfl rfl rfl Tryd.underlying23 (by kernel_rfl) rfl (by omega) (by rfl) (by first | exact hI.lit0 | exact hI.d0.lit0 | exact hI.d0.d0.lit0) rfl (by omega) (by omega) (Nat.zero_le _) ?_ | refine WL_app2 (z := .int .i64 0) (by_ := 8) (news := [.int .i64 (tx : Int)]) hI rfl rfl rfl rfl rfl rfl Tryd.underlying23 (by kernel_rfl) rfl (by omega) (by rfl) (by first | exact hI.lit0 | exact hI.d0.lit0 | exact hI.d0.d0.lit0) rfl (by omega) (by omega) (Nat.zero_le _) ?_
              clear hI; rintro A' c' w _ hcl hI
              refine WL_nil ⟨hXS _ hI.d0.d0.d0, ?_⟩
              refine WT_one 11 rfl (by kernel_rfl) rfl ?_
              refine WL_call rfl rfl rfl (rCall (vs := [.slice _ _ _]) rfl Tryd.func26 rfl rfl rfl) ?_
              have hc := concat_any b43 2 [places, stp tx] (fun _ => True) _ (by
                intro i l hi
                match i, hi with
                | 0, hi => injection hi with hi; subst hi; exact ⟨PA, pc, by first | exact hI.c0 rfl | exact hI.c1 rfl | exact hI.c2 rfl, hP.pure' hI.pu⟩
                | 1, hi => injection hi with hi; subst hi; exact ⟨As, cs, by first | exact hI.c0 rfl | exact hI.c1 rfl | exact hI.c2 rfl, hS2.pure' hI.pu⟩) rfl (by rw [hfl, e2]; omega) (by omega)
              rw [hfl] at hc
              refine hc.mono ?_
              rintro e w1 ⟨v, rfl, hp, A44, c44, rfl, hown⟩
              refine ⟨_, rfl, ?_⟩
              replace hI := hI.fresh hp (Row.ok hown) (fun k hk => Row.lo hown hk)
              refine WL_nil ⟨hXS _ hI.d0.d0.d0.d0, ?_⟩
              refine WT_one 12 rfl (by kernel_rfl) rfl ?_
              refine WL_call rfl rfl rfl (rCallF (first := []) (cap := [_, _, _, _, _]) (vs := [_, _, _, _, _, _, _]) rfl rfl Tryd.func24 rfl rfl rfl) ?_
              have ih := try_any a dn wn tr st d all stp want h60 hal ha0 hstp n (order ++ [tx]) (places ++ stp tx) A' A44 c' c44 _ (hT.pure hI.pu) (by omega) (by rw [e1]; first | exact ints_row hI.g1 (by simp) (by simp) | exact ints_row hI.g2 (by simp) (by simp) | exact ints_row hI.g3 (by simp) (by simp)) (ints_row hI.g0 (by simp) (natV_map _)) (by
                intro x hx
                rcases List.mem_append.1 hx with hx | hx
                · exact hpl x hx
                · exact (hstp tx hmem).2 x hx) (by omega)
              rw [e1] at ih
              refine ih.mono ?_
              rintro e w1 ⟨⟨A5, m5, c5, rfl, hA5⟩, hp⟩
              refine ⟨_, rfl, ?_⟩
              replace hI := hI.pure hp
              refine WL_nil ⟨hXS _ hI.d0.d0.d0.d0, ?_⟩
              refine WT_take 13 rfl rfl (by kernel_rfl) (hXS _ hI.d0.d0.d0.d0) rfl (fun W hW => have hI := hSx W hW; (by first | exact rAsgnS rfl rfl | exact rAsgn rfl)) ?_
              refine WT_end (by kernel_rfl) ?_
              exact ⟨A5, m5, c5, by rw [hFtx]; exact hA5, ⟨rfl, rfl, rfl, rfl, rfl, rfl, rfl, rfl, rfl, rfl, rfl, trivial⟩, hI.d0.d0.d0.d0⟩
          · refine WL_lit (vs := [_]) (qs := [(0, .int .i64 _)]) [.int .i64 0] [0] hI rfl rfl rfl rfl rfl rfl Tryd.underlying23 (fun _ => by kernel_rfl) ?_
            clear hI; rintro b37 w - - hI
            refine WL_nil ⟨hXS _ hI.d0, ?_⟩
            refine WT_two 2 10 rfl rfl (by kernel_rfl) rfl rfl ?_ ?_
            · refine WL_call rfl rfl rfl (rCall (vs := [.slice _ _ _]) rfl Tryd.func25 rfl rfl rfl) ?_
              refine (cloneI_any OA order.length oc (order.map Int.ofNat) _ _ (hO.pure' hI.pu) (by simp; omega)).mono ?_
              rintro e w1 ⟨A', c', rfl, hi⟩
              refine ⟨_, rfl, ?_⟩
              replace hI := hI.app1 hi
              refine WL_nil ⟨hXS _ hI.d0.d0, ?_⟩
              refine WT_two 5 10 rfl rfl (by kernel_rfl) rfl rfl ?_ ?_
              · first | refine WL_app0 (z := .int .i64 0) (by_ := 8) (news := [.int .i64 (tx : Int)]) hI rfl rfl rfl rfl rfl rfl Tryd.underlying23 (by kernel_rfl) rfl (by omega) (by rfl) (by first | exact hI.lit0 | exact hI.d0.lit0 | exact hI.d0.d0.lit0) rfl (by omega) (by omega) (Nat.zero_le _) ?_ | refine WL_app1 (z := .int .i64 0) (by_ := 8) (news := [.int .i64 (tx : Int)]) hI rfl rfl rfl rfl rfl rfl Tryd.underlying23 (by kernel_rfl) rfl (by omega) (by rfl) (by first | exact hI.lit0 | exact hI.d0.lit0 | exact hI.d0.d0.lit0) rfl (by omega) (by omega) (Nat.zero_le _) ?_ | refine WL_app2 (z := .int .i64 0) (by_ := 8) (news := [.int .i64 (tx : Int)]) hI rfl rfl rfl rfl rfl rfl Tryd.underlying23 (by kernel_rfl) rfl (by omega) (by rfl) (by first | exact hI.lit0 | exact hI.d0.lit0 | exact hI.d0.d0.lit0) rfl (by omega) (by omega) (Nat.zero_le _) ?_
                clear hI; rintro A' c' w _ hcl hI
                refine WL_nil ⟨hXS _ hI.d0.d0, ?_⟩
                refine WT_one 10 rfl (by kernel_rfl) rfl ?_
                refine WL_lit (vs := [_, _]) (qs := [(0, .slice _ _ _), (1, .slice _ _ _)]) [.slice none 0 0, .slice none 0 0] [0, 1] hI rfl rfl rfl rfl rfl rfl Tryd.underlying96 (fun _ => by kernel_rfl) ?_
                clear hI; rintro b43 w - - hI
                refine WL_nil ⟨hXS _ hI.d0.d0.d0, ?_⟩
                refine WT_one 11 rfl (by kernel_rfl) rfl ?_
                refine WL_call rfl rfl rfl (rCall (vs := [.slice _ _ _]) rfl Tryd.func26 rfl rfl rfl) ?_
                have hc := concat_any b43 2 [places, stp tx] (fun _ => True) _ (by
                  intro i l hi
                  match i, hi with
                  | 0, hi => injection hi with hi; subst hi; exact ⟨PA, pc, by first | exact hI.c0 rfl | exact hI.c1 rfl | exact hI.c2 rfl, hP.pure' hI.pu⟩
                  | 1, hi => injection hi with hi; subst hi; exact ⟨As, cs, by first | exact hI.c0 rfl | exact hI.c1 rfl | exact hI.c2 rfl, hS2.pure' hI.pu⟩) rfl (by rw [hfl, e2]; omega) (by omega)
                rw [hfl] at hc
                refine hc.mono ?_
                rintro e w1 ⟨v, rfl, hp, A44, c44, rfl, hown⟩
                refine ⟨_, rfl, ?_⟩
                replace hI := hI.fresh hp (Row.ok hown) (fun k hk => Row.lo hown hk)
                refine WL_nil ⟨hXS _ hI.d0.d0.d0.d0, ?_⟩
                refine WT_one 12 rfl (by kernel_rfl) rfl ?_
                refine WL_call rfl rfl rfl (rCallF (first := []) (cap := [_, _, _, _, _]) (vs := [_, _, _, _, _, _, _]) rfl rfl Tryd.func24 rfl rfl rfl) ?_
                have ih := try_any a dn wn tr st d all stp want h60 hal ha0 hstp n (order ++ [tx]) (places ++ stp tx) A' A44 c' c44 _ (hT.pure hI.pu) (by omega) (by rw [e1]; first | exact ints_row hI.g1 (by simp) (by simp) | exact ints_row hI.g2 (by simp) (by simp) | exact ints_row hI.g3 (by simp) (by simp)) (ints_row hI.g0 (by simp) (natV_map _)) (by
                  intro x hx
                  rcases List.mem_append.1 hx with hx | hx
                  · exact hpl x hx
                  · exact (hstp tx hmem).2 x hx) (by omega)
                rw [e1] at ih
                refine ih.mono ?_
                rintro e w1 ⟨⟨A5, m5, c5, rfl, hA5⟩, hp⟩
                refine ⟨_, rfl, ?_⟩
                replace hI := hI.pure hp
                refine WL_nil ⟨hXS _ hI.d0.d0.d0.d0, ?_⟩
                refine WT_take 13 rfl rfl (by kernel_rfl) (hXS _ hI.d0.d0.d0.d0) rfl (fun W hW => have hI := hSx W hW; (by first | exact rAsgnS rfl rfl | exact rAsgn rfl)) ?_
                refine WT_end (by kernel_rfl) ?_
                exact ⟨A5, m5, c5, by rw [hFtx]; exact hA5, ⟨rfl, rfl, rfl, rfl, rfl, rfl, rfl, rfl, rfl, rfl, rfl, trivial⟩, hI.d0.d0.d0.d0⟩
              · refine WL_lit (vs := [_, _]) (qs := [(0, .slice _ _ _), (1, .slice _ _ _)]) [.slice none 0 0, .slice none 0 0] [0, 1] hI rfl rfl rfl rfl rfl rfl Tryd.underlying96 (fun _ => by kernel_rfl) ?_
                clear hI; rintro b43 w - - hI
                refine WL_nil ⟨hXS _ hI.d0.d0.d0, ?_⟩
                refine WT_one 5 rfl (by kernel_rfl) rfl ?_
                first | refine WL_app0 (z := .int .i64 0) (by_ := 8) (news := [.int .i64 (tx : Int)]) hI rfl rfl rfl rfl rfl rfl Tryd.underlying23 (by kernel_rfl) rfl (by omega) (by rfl) (by first | exact hI.lit0 | exact hI.d0.lit0 | exact hI.d0.d0.lit0) rfl (by omega) (by omega) (Nat.zero_le _) ?_ | refine WL_app1 (z := .int .i64 0) (by_ := 8) (news := [.int .i64 (tx : Int)]) hI rfl rfl rfl rfl rfl rfl Tryd.underlying23 (by kernel_rfl) rfl (by omega) (by rfl) (by first | exact hI.lit0 | exact hI.d0.lit0 | exact hI.d0.d0.lit0) rfl (by omega) (by omega) (Nat.zero_le _) ?_ | refine WL_app2 (z := .int .i64 0) (by_ := 8) (news := [.int .i64 (tx : Int)]) hI rfl rfl rfl rfl rfl rfl Tryd.underlying23 (by kernel_rfl) rfl (by omega) (by rfl) (by first | exact hI.lit0 | exact hI.d0.lit0 | exact hI.d0.d0.lit0) rfl (by omega) (by omega) (Nat.zero_le _) ?_
                clear hI; rintro A' c' w _ hcl hI
                refine WL_nil ⟨hXS _ hI.d0.d0.d0, ?_⟩
                refine WT_one 11 rfl (by kernel_rfl) rfl ?_
                refine WL_call rfl rfl rfl (rCall (vs := [.slice _ _ _]) rfl Tryd.func26 rfl rfl rfl) ?_
                have hc := concat_any b43 2 [places, stp tx] (fun _ => True) _ (by
                  intro i l hi
                  match i, hi with
                  | 0, hi => injection hi with hi; subst hi; exact ⟨PA, pc, by first | exact hI.c0 rfl | exact hI.c1 rfl | exact hI.c2 rfl, hP.pure' hI.pu⟩
                  | 1, hi => injection hi with hi; subst hi; exact ⟨As, cs, by first | exact hI.c0 rfl | exact hI.c1 rfl | exact hI.c2 rfl, hS2.pure' hI.pu⟩) rfl (by rw [hfl, e2]; omega) (by omega)
                rw [hfl] at hc
                refine hc.mono ?_
                rintro e w1 ⟨v, rfl, hp, A44, c44, rfl, hown⟩
                refine ⟨_, rfl, ?_⟩
                replace hI := hI.fresh hp (Row.ok hown) (fun k hk => Row.lo hown hk)
                refine WL_nil ⟨hXS _ hI.d0.d0.d0.d0, ?_⟩
                refine WT_one 12 rfl (by kernel_rfl) rfl ?_
                refine WL_call rfl rfl rfl (rCallF (first := []) (cap := [_, _, _, _, _]) (vs := [_, _, _, _, _, _, _]) rfl rfl Tryd.func24 rfl rfl rfl) ?_
                have ih := try_any a dn wn tr st d all stp want h60 hal ha0 hstp n (order ++ [tx]) (places ++ stp tx) A' A44 c' c44 _ (hT.pure hI.pu) (by omega) (by rw [e1]; first | exact ints_row hI.g1 (by simp) (by simp) | exact ints_row hI.g2 (by simp) (by simp) | exact ints_row hI.g3 (by simp) (by simp)) (ints_row hI.g0 (by simp) (natV_map _)) (by
                  intro x hx
                  rcases List.mem_append.1 hx with hx | hx
                  · exact hpl x hx
                  · exact (hstp tx hmem).2 x hx) (by omega)
                rw [e1] at ih
                refine ih.mono ?_
                rintro e w1 ⟨⟨A5, m5, c5, rfl, hA5⟩, hp⟩
                refine ⟨_, rfl, ?_⟩
                replace hI := hI.pure hp
                refine WL_nil ⟨hXS _ hI.d0.d0.d0.d0, ?_⟩
                refine WT_take 13 rfl rfl (by kernel_rfl) (hXS _ hI.d0.d0.d0.d0) rfl (fun W hW => have hI := hSx W hW; (by first | exact rAsgnS rfl rfl | exact rAsgn rfl)) ?_
                refine WT_end (by kernel_rfl) ?_
                exact ⟨A5, m5, c5, by rw [hFtx]; exact hA5, ⟨rfl, rfl, rfl, rfl, rfl, rfl, rfl, rfl, rfl, rfl, rfl, trivial⟩, hI.d0.d0.d0.d0⟩
            · refine WL_lit (vs := [_, _]) (qs := [(0, .slice _ _ _), (1, .slice _ _ _)]) [.slice none 0 0, .slice none 0 0] [0, 1] hI rfl rfl rfl rfl rfl rfl Tryd.underlying96 (fun _ => by kernel_rfl) ?_
              clear hI; rintro b43 w - - hI
              refine WL_nil ⟨hXS _ hI.d0.d0, ?_⟩
              refine WT_one 2 rfl (by kernel_rfl) rfl ?_
              refine WL_call rfl rfl rfl (rCall (vs := [.slice _ _ _]) rfl Tryd.func25 rfl rfl rfl) ?_
              refine (cloneI_any OA order.length oc (order.map Int.ofNat) _ _ (hO.pure' hI.pu) (by simp; omega)).mono ?_
              rintro e w1 ⟨A', c', rfl, hi⟩
              refine ⟨_, rfl, ?_⟩
              replace hI := hI.app1 hi
              refine WL_nil ⟨hXS _ hI.d0.d0.d0, ?_⟩
              refine WT_one 5 rfl (by kernel_rfl) rfl ?_
              first | refine WL_app0 (z := .int .i64 0) (by_ := 8) (news := [.int .i64 (tx : Int)]) hI rfl rfl rfl rfl rfl rfl Tryd.underlying23 (by kernel_rfl) rfl (by omega) (by rfl) (by first | exact hI.lit0 | exact hI.d0.lit0 | exact hI.d0.d0.lit0) rfl (by omega) (by omega) (Nat.zero_le _) ?_ | refine WL_app1 (z := .int .i64 0) (by_ := 8) (news := [.int .i64 (tx : Int)]) hI rfl rfl rfl rfl rfl rfl Tryd.underlying23 (by kernel_rfl) rfl (by omega) (by rfl) (by first | exact hI.lit0 | exact hI.d0.lit0 | exact hI.d0.d0.lit0) rfl (by omega) (by omega) (Nat.zero_le _) ?_ | refine WL_app2 (z := .int .i64 0) (by_ := 8) (news := [.int .i64 (tx : Int)]) hI rfl rfl rfl rfl rfl rfl Tryd.underlying23 (by kernel_rfl) rfl (by omega) (by rfl) (by first | exact hI.lit0 | exact hI.d0.lit0 | exact hI.d0.d0.lit0) rfl (by omega) (by omega) (Nat.zero_le _) ?_
              clear hI; rintro A' c' w _ hcl hI
              refine WL_nil ⟨hXS _ hI.d0.d0.d0, ?_⟩
              refine WT_one 11 rfl (by kernel_rfl) rfl ?_
              refine WL_call rfl rfl rfl (rCall (vs := [.slice _ _ _]) rfl Tryd.func26 rfl rfl rfl) ?_
              have hc := concat_any b43 2 [places, stp tx] (fun _ => True) _ (by
                intro i l hi
                match i, hi with
                | 0, hi => injection hi with hi; subst hi; exact ⟨PA, pc, by first | exact hI.c0 rfl | exact hI.c1 rfl | exact hI.c2 rfl, hP.pure' hI.pu⟩
                | 1, hi => injection hi with hi; subst hi; exact ⟨As, cs, by first | exact hI.c0 rfl | exact hI.c1 rfl | exact hI.c2 rfl, hS2.pure' hI.pu⟩) rfl (by rw [hfl, e2]; omega) (by omega)
              rw [hfl] at hc
              refine hc.mono ?_
              rintro e w1 ⟨v, rfl, hp, A44, c44, rfl, hown⟩
              refine ⟨_, rfl, ?_⟩
              replace hI := hI.fresh hp (Row.ok hown) (fun k hk => Row.lo hown hk)
              refine WL_nil ⟨hXS _ hI.d0.d0.d0.d0, ?_⟩
              refine WT_one 12 rfl (by kernel_rfl) rfl ?_
              refine WL_call rfl rfl rfl (rCallF (first := []) (cap := [_, _, _, _, _]) (vs := [_, _, _, _, _, _, _]) rfl rfl Tryd.func24 rfl rfl rfl) ?_
              have ih := try_any a dn wn tr st d all stp want h60 hal ha0 hstp n (order ++ [tx]) (places ++ stp tx) A' A44 c' c44 _ (hT.pure hI.pu) (by omega) (by rw [e1]; first | exact ints_row hI.g1 (by simp) (by simp) | exact ints_row hI.g2 (by simp) (by simp) | exact ints_row hI.g3 (by simp) (by simp)) (ints_row hI.g0 (by simp) (natV_map _)) (by
                intro x hx
                rcases List.mem_append.1 hx with hx | hx
                · exact hpl x hx
                · exact (hstp tx hmem).2 x hx) (by omega)
              rw [e1] at ih
              refine ih.mono ?_
              rintro e w1 ⟨⟨A5, m5, c5, rfl, hA5⟩, hp⟩
              refine ⟨_, rfl, ?_⟩
              replace hI := hI.pure hp
              refine WL_nil ⟨hXS _ hI.d0.d0.d0.d0, ?_⟩
              refine WT_take 13 rfl rfl (by kernel_rfl) (hXS _ hI.d0.d0.d0.d0) rfl (fun W hW => have hI := hSx W hW; (by first | exact rAsgnS rfl rfl | exact rAsgn rfl)) ?_
              refine WT_end (by kernel_rfl) ?_
              exact ⟨A5, m5, c5, by rw [hFtx]; exact hA5, ⟨rfl, rfl, rfl, rfl, rfl, rfl, rfl, rfl, rfl, rfl, rfl, trivial⟩, hI.d0.d0.d0.d0⟩
          · refine WL_lit (vs := [_, _]) (qs := [(0, .slice _ _ _), (1, .slice _ _ _)]) [.slice none 0 0, .slice none 0 0] [0, 1] hI rfl rfl rfl rfl rfl rfl Tryd.underlying96 (fun _ => by kernel_rfl) ?_
            clear hI; rintro b43 w - - hI
            refine WL_nil ⟨hXS _ hI.d0, ?_⟩
            refine WT_two 2 4 rfl rfl (by kernel_rfl) rfl rfl ?_ ?_
            · refine WL_call rfl rfl rfl (rCall (vs := [.slice _ _ _]) rfl Tryd.func25 rfl rfl rfl) ?_
              refine (cloneI_any OA order.length oc (order.map Int.ofNat) _ _ (hO.pure' hI.pu) (by simp; omega)).mono ?_
              rintro e w1 ⟨A', c', rfl, hi⟩
              refine ⟨_, rfl, ?_⟩
              replace hI := hI.app1 hi
              refine WL_nil ⟨hXS _ hI.d0.d0, ?_⟩
              refine WT_one 4 rfl (by kernel_rfl) rfl ?_
              refine WL_lit (vs := [_]) (qs := [(0, .int .i64 _)]) [.int .i64 0] [0] hI rfl rfl rfl rfl rfl rfl Tryd.underlying23 (fun _ => by kernel_rfl) ?_
              clear hI; rintro b37 w - - hI
              refine WL_nil ⟨hXS _ hI.d0.d0.d0, ?_⟩
              refine WT_one 5 rfl (by kernel_rfl) rfl ?_
              first | refine WL_app0 (z := .int .i64 0) (by_ := 8) (news := [.int .i64 (tx : Int)]) hI rfl rfl rfl rfl rfl rfl Tryd.underlying23 (by kernel_rfl) rfl (by omega) (by rfl) (by first | exact hI.lit0 | exact hI.d0.lit0 | exact hI.d0.d0.lit0) rfl (by omega) (by omega) (Nat.zero_le _) ?_ | refine WL_app1 (z := .int .i64 0) (by_ := 8) (news := [.int .i64 (tx : Int)]) hI rfl rfl rfl rfl rfl rfl Tryd.underlying23 (by kernel_rfl) rfl (by omega) (by rfl) (by first | exact hI.lit0 | exact hI.d0.lit0 | exact hI.d0.d0.lit0) rfl (by omega) (by omega) (Nat.zero_le _) ?_ | refine WL_app2 (z := .int .i64 0) (by_ := 8) (news := [.int .i64 (tx : Int)]) hI rfl rfl rfl rfl rfl rfl Tryd.underlying23 (by kernel_rfl) rfl (by omega) (by rfl) (by first | exact hI.lit0 | exact hI.d0.lit0 | exact hI.d0.d0.lit0) rfl (by omega) (by omega) (Nat.zero_le _) ?_
              clear hI; rintro A' c' w _ hcl hI
              refine WL_nil ⟨hXS _ hI.d0.d0.d0, ?_⟩
              refine WT_one 11 rfl (by kernel_rfl) rfl ?_
              refine WL_call rfl rfl rfl (rCall (vs := [.slice _ _ _]) rfl Tryd.func26 rfl rfl rfl) ?_
              have hc := concat_any b43 2 [places, stp tx] (fun _ => True) _ (by
                intro i l hi
                match i, hi with
                | 0, hi => injection hi with hi; subst hi; exact ⟨PA, pc, by first | exact hI.c0 rfl | exact hI.c1 rfl | exact hI.c2 rfl, hP.pure' hI.pu⟩
                | 1, hi => injection hi with hi; subst hi; exact ⟨As, cs, by first | exact hI.c0 rfl | exact hI.c1 rfl | exact hI.c2 rfl, hS2.pure' hI.pu⟩) rfl (by rw [hfl, e2]; omega) (by omega)
              rw [hfl] at hc
              refine hc.mono ?_
              rintro e w1 ⟨v, rfl, hp, A44, c44, rfl, hown⟩
              refine ⟨_, rfl, ?_⟩
              replace hI := hI.fresh hp (Row.ok hown) (fun k hk => Row.lo hown hk)
              refine WL_nil ⟨hXS _ hI.d0.d0.d0.d0, ?_⟩
              refine WT_one 12 rfl (by kernel_rfl) rfl ?_
              refine WL_call rfl rfl rfl (rCallF (first := []) (cap := [_, _, _, _, _]) (vs := [_, _, _, _, _, _, _]) rfl rfl Tryd.func24 rfl rfl rfl) ?_
              have ih := try_any a dn wn tr st d all stp want h60 hal ha0 hstp n (order ++ [tx]) (places ++ stp tx) A' A44 c' c44 _ (hT.pure hI.pu) (by omega) (by rw [e1]; first | exact ints_row hI.g1 (by simp) (by simp) | exact ints_row hI.g2 (by simp) (by simp) | exact ints_row hI.g3 (by simp) (by simp)) (ints_row hI.g0 (by simp) (natV_map _)) (by
                intro x hx
                rcases List.mem_append.1 hx with hx | hx
                · exact hpl x hx
                · exact (hstp tx hmem).2 x hx) (by omega)
              rw [e1] at ih
              refine ih.mono ?_
              rintro e w1 ⟨⟨A5, m5, c5, rfl, hA5⟩, hp⟩
              refine ⟨_, rfl, ?_⟩
              replace hI := hI.pure hp
              refine WL_nil ⟨hXS _ hI.d0.d0.d0.d0, ?_⟩
              refine WT_take 13 rfl rfl (by kernel_rfl) (hXS _ hI.d0.d0.d0.d0) rfl (fun W hW => have hI := hSx W hW; (by first | exact rAsgnS rfl rfl | exact rAsgn rfl)) ?_
              refine WT_end (by kernel_rfl) ?_
              exact ⟨A5, m5, c5, by rw [hFtx]; exact hA5, ⟨rfl, rfl, rfl, rfl, rfl, rfl, rfl, rfl, rfl, rfl, rfl, trivial⟩, hI.d0.d0.d0.d0⟩
            · refine WL_lit (vs := [_]) (qs := [(0, .int .i64 _)]) [.int .i64 0] [0] hI rfl rfl rfl rfl rfl rfl Tryd.underlying23 (fun _ => by kernel_rfl) ?_
              clear hI; rintro b37 w - - hI
              refine WL_nil ⟨hXS _ hI.d0.d0, ?_⟩
              refine WT_one 2 rfl (by kernel_rfl) rfl ?_
              refine WL_call rfl rfl rfl (rCall (vs := [.slice _ _ _]) rfl Tryd.func25 rfl rfl rfl) ?_
              refine (cloneI_any OA order.length oc (order.map Int.ofNat) _ _ (hO.pure' hI.pu) (by simp; omega)).mono ?_
              rintro e w1 ⟨A', c', rfl, hi⟩
              refine ⟨_, rfl, ?_⟩
              replace hI := hI.app1 hi
              refine WL_nil ⟨hXS _ hI.d0.d0.d0, ?_⟩
              refine WT_one 5 rfl (by kernel_rfl) rfl ?_
              first | refine WL_app0 (z := .int .i64 0) (by_ := 8) (news := [.int .i64 (tx : Int)]) hI rfl rfl rfl rfl rfl rfl Tryd.underlying23 (by kernel_rfl) rfl (by omega) (by rfl) (by first | exact hI.lit0 | exact hI.d0.lit0 | exact hI.d0.d0.lit0) rfl (by omega) (by omega) (Nat.zero_le _) ?_ | refine WL_app1 (z := .int .i64 0) (by_ := 8) (news := [.int .i64 (tx : Int)]) hI rfl rfl rfl rfl rfl rfl Tryd.underlying23 (by kernel_rfl) rfl (by omega) (by rfl) (by first | exact hI.lit0 | exact hI.d0.lit0 | exact hI.d0.d0.lit0) rfl (by omega) (by omega) (Nat.zero_le _) ?_ | refine WL_app2 (z := .int .i64 0) (by_ := 8) (news := [.int .i64 (tx : Int)]) hI rfl rfl rfl rfl rfl rfl Tryd.underlying23 (by kernel_rfl) rfl (by omega) (by rfl) (by first | exact hI.lit0 | exact hI.d0.lit0 | exact hI.d0.d0.lit0) rfl (by omega) (by omega) (Nat.zero_le _) ?_
              clear hI; rintro A' c' w _ hcl hI
              refine WL_nil ⟨hXS _ hI.d0.d0.d0, ?_⟩
              refine WT_one 11 rfl (by kernel_rfl) rfl ?_
              refine WL_call rfl rfl rfl (rCall (vs := [.slice _ _ _]) rfl Tryd.func26 rfl rfl rfl) ?_
              have hc := concat_any b43 2 [places, stp tx] (fun _ => True) _ (by
                intro i l hi
                match i, hi with
                | 0, hi => injection hi with hi; subst hi; exact ⟨PA, pc, by first | exact hI.c0 rfl | exact hI.c1 rfl | exact hI.c2 rfl, hP.pure' hI.pu⟩
                | 1, hi => injection hi with hi; subst hi; exact ⟨As, cs, by first | exact hI.c0 rfl | exact hI.c1 rfl | exact hI.c2 rfl, hS2.pure' hI.pu⟩) rfl (by rw [hfl, e2]; omega) (by omega)
              rw [hfl] at hc
              refine hc.mono ?_
              rintro e w1 ⟨v, rfl, hp, A44, c44, rfl, hown⟩
              refine ⟨_, rfl, ?_⟩
              replace hI := hI.fresh hp (Row.ok hown) (fun k hk => Row.lo hown hk)
              refine WL_nil ⟨hXS _ hI.d0.d0.d0.d0, ?_⟩
              refine WT_one 12 rfl (by kernel_rfl) rfl ?_
              refine WL_call rfl rfl rfl (rCallF (first := []) (cap := [_, _, _, _, _]) (vs := [_, _, _, _, _, _, _]) rfl rfl Tryd.func24 rfl rfl rfl) ?_
              have ih := try_any a dn wn tr st d all stp want h60 hal ha0 hstp n (order ++ [tx]) (places ++ stp tx) A' A44 c' c44 _ (hT.pure hI.pu) (by omega) (by rw [e1]; first | exact ints_row hI.g1 (by simp) (by simp) | exact ints_row hI.g2 (by simp) (by simp) | exact ints_row hI.g3 (by simp) (by simp)) (ints_row hI.g0 (by simp) (natV_map _)) (by
                intro x hx
                rcases List.mem_append.1 hx with hx | hx
                · exact hpl x hx
                · exact (hstp tx hmem).2 x hx) (by omega)
              rw [e1] at ih
              refine ih.mono ?_
              rintro e w1 ⟨⟨A5, m5, c5, rfl, hA5⟩, hp⟩
              refine ⟨_, rfl, ?_⟩
              replace hI := hI.pure hp
              refine WL_nil ⟨hXS _ hI.d0.d0.d0.d0, ?_⟩
              refine WT_take 13 rfl rfl (by kernel_rfl) (hXS _ hI.d0.d0.d0.d0) rfl (fun W hW => have hI := hSx W hW; (by first | exact rAsgnS rfl rfl | exact rAsgn rfl)) ?_
              refine WT_end (by kernel_rfl) ?_
              exact ⟨A5, m5, c5, by rw [hFtx]; exact hA5, ⟨rfl, rfl, rfl, rfl, rfl, rfl, rfl, rfl, rfl, rfl, rfl, trivial⟩, hI.d0.d0.d0.d0⟩
        clear hI
        rintro ρ w ⟨A5, m5, c5, hA5, hH, hI⟩
        obtain ⟨σ, rfl⟩ := hH.open
        cases A5 with
        | none =>
          refine W_seq ?_
          refine W_region ?_
          refine WL_val rfl rfl rfl (by first | exact rMoveS rfl rfl | exact rMove rfl) ?_
          refine WL_val rfl rfl rfl (rSlNeqF rfl Tryd.underlying23 rfl) ?_
          refine WL_nil ?_
          refine W_cond false rfl ?_
          refine W_skip ?_
          refine W_region ?_
          refine WL_val rfl rfl rfl (by first | exact rInc rfl rfl rfl (by omega) | exact rAdd rfl rfl rfl (by omega) | exact rAddW rfl rfl rfl) ?_
          refine WL_val rfl rfl rfl (by first | exact rMoveI rfl rfl | exact rMove rfl) ?_
          refine WL_nil ?_
          refine ⟨⟨k + 1, by omega, ?_, ⟨rfl, rfl, rfl, rfl, rfl, rfl, rfl, rfl, rfl, rfl, trivial⟩, hI⟩, by show all.length - ((k + 1 : Nat) : Int).toNat < all.length - (k : Int).toNat; omega⟩
          rw [htk]
          intro x hx
          rcases List.mem_append.1 hx with hx | hx
          · exact hno x hx
          · rw [List.mem_singleton.1 hx]
            exact hA5.1 rfl
        | some p5 =>
          refine W_seq ?_
          refine W_region ?_
          refine WL_val rfl rfl rfl (by first | exact rMoveS rfl rfl | exact rMove rfl) ?_
          refine WL_val rfl rfl rfl (rSlNeqT rfl Tryd.underlying23 rfl) ?_
          refine WL_nil ?_
          refine W_cond true rfl ?_
          refine W_seq ?_
          refine W_region ?_
          refine WL_val rfl rfl rfl (by first | exact rMoveS rfl rfl | exact rMove rfl) ?_
          refine WL_val rfl rfl rfl (by first | exact rAsgnS rfl rfl | exact rAsgn rfl) ?_
          refine WL_nil ?_
          refine W_ret ?_
          refine ret1 9 (.inr rfl) rfl ⟨⟨_, _, _, rfl, ?_⟩, hI.pu⟩
          refine ⟨fun h => (by cases h), fun h => ?_⟩
          rw [htry] at h
          have := hA5.2 (List.findSome?_eq_none_iff.1 h tx hmem)
          cases this
    · obtain rfl : k = all.length := by omega
      refine W_seq ?_
      refine W_region ?_
      refine WL_val rfl rfl rfl (by first | exact rLssT rfl rfl rfl (by omega) | exact rLssF rfl rfl rfl (by omega) | exact rLss rfl rfl rfl) ?_
      refine WL_nil ?_
      refine W_seq ?_
      refine W_cond false rfl ?_
      refine W_exit ?_
      refine W_seq ?_
      refine W_region ?_
      refine WL_val rfl rfl rfl (by first | exact rAsgnS rfl rfl | exact rAsgn rfl) ?_
      refine WL_nil ?_
      refine W_ret ?_
      refine ret1 9 (.inr rfl) rfl ⟨⟨_, _, _, rfl, ?_⟩, hI.pu⟩
      rw [List.take_length] at hno
      have : all.findSome? F = none := List.findSome?_eq_none_iff.2 hno
      rw [htry, this]
      exact ⟨fun _ => rfl, fun _ => rfl⟩
end Go.Proofs.YtgkmlnbnjbpodaaDoor
