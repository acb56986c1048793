/- Part of the proof that a desk answers in pieces. -/
import Derived.Test.YtnckdmogdehnoaaGreatDoorPA
import Derived.Test.YtnckdmogdehnoaaGreatDoorPSeeB
import Derived.Test.YtnckdmogdehnoaaGreatDoorPMod6
import Derived.Test.YtnckdmogdehnoaaGreatDoorPSxI
set_option maxHeartbeats 4000000
set_option linter.unusedVariables false
set_option linter.unusedSimpArgs false
namespace Go.Proofs.YtnckdmogdehnoaaGreatDoor
open Tryz
open Go.RowKit
variable {c n : Nat} {w : World}
section
variable {P : Program} {ρ : Env} {o : Oper} {w : World} {x y z : Operand} {v : Value} {t t' : TypeId}
def eqTwoC (P : Program) (t n m : Nat) : Bool := match P.underlying t with
 | some (.struct fs) => match fs.toList with
  | [f, g] => f.name != "_" && g.name != "_" && f.offset == 0 && g.offset == n && arrB P f.type n && arrB P g.type m && szB P f.type n && szB P g.type m && aggB P f.type && aggB P g.type && !P.stoodInHeld t && !P.eqGuardType P.depth t
  | _ => false
 | _ => false
theorem run_equal_twoC {m : Nat} {la lb : List Int} (hB : eqTwoC P t n m = true) (ha : la.length = n + m) (hb : lb.length = n + m) : (Op.equalIn 10000 t (.agg (i64s la).toArray) (.agg (i64s lb).toArray)).run P w = .ok (decide (la = lb)) w := by
 unfold eqTwoC at hB
 split at hB
 ·rename_i fs hfs
  split at hB
  ·rename_i f g hfg
   simp only [Bool.and_eq_true, Bool.not_eq_true', beq_iff_eq, bne_iff_ne] at hB
   obtain ⟨⟨⟨⟨⟨⟨⟨⟨⟨⟨⟨h1, h2⟩, h3⟩, h4⟩, h5⟩, h6⟩, h7⟩, h8⟩, h9⟩, h10⟩, h11⟩, h12⟩ := hB
   have hf : P.fieldsOf t = fs := by unfold Program.fieldsOf; rw [hfs]
   rw [run_equalIn_struct w 9999 t _ _ (by rw [hf]; exact hfs) h11, hf, hfg]
   have e1 := run_equalIn_arr (P := P) (w := w) 9997 (la := (la.drop 0).take n) (lb := (lb.drop 0).take n) h5 (by simp; omega) (by simp; omega)
   have e2 := run_equalIn_arr (P := P) (w := w) 9997 (la := (la.drop n).take m) (lb := (lb.drop n).take m) h6 (by simp; omega) (by simp; omega)
   simp only [Op.eqFields, h1, h2, h3, h4, ne_eq, not_false_eq_true, if_true, Sem.run_bind, run_part_arr h9 h7, run_part_arr h10 h8, Result.andThen_ok, e1]
   have hiff : la = lb ↔ (la.drop 0).take n = (lb.drop 0).take n ∧ (la.drop n).take m = (lb.drop n).take m := by
    constructor
    ·rintro rfl; exact ⟨rfl, rfl⟩
    rintro ⟨p, q⟩
    rw [List.take_of_length_le (by simp; omega), List.take_of_length_le (by simp; omega)] at q
    rw [List.drop_zero, List.drop_zero] at p
    rw [← List.take_append_drop n la, ← List.take_append_drop n lb, p, q]
   by_cases hc : (la.drop 0).take n = (lb.drop 0).take n
   ·rw [decide_eq_true hc]
    simp only [Bool.not_true, Bool.false_eq_true, if_false, Sem.run_bind, run_part_arr h10 h8, Result.andThen_ok, e2]
    by_cases hc2 : (la.drop n).take m = (lb.drop n).take m
    ·rw [decide_eq_true hc2, decide_eq_true (hiff.2 ⟨hc, hc2⟩)]
     simp
    rw [decide_eq_false hc2, decide_eq_false (fun h => hc2 (hiff.1 h).2)]
    simp
   rw [decide_eq_false hc, decide_eq_false (fun h => hc (hiff.1 h).1)]
   simp
  cases hB
 cases hB
theorem rEqlTwoC {m : Nat} {la lb : List Int} (ho : o.op = .binOp .eql t x y t') (hB : eqTwoC P t n m = true) (hx : ev ρ x = .agg (i64s la).toArray) (hy : ev ρ y = .agg (i64s lb).toArray) (ha : la.length = n + m) (hb : lb.length = n + m) : Runs P ρ o w (.bool (decide (la = lb))) := by
 have hg : P.eqGuardType P.depth t = false := by
  unfold eqTwoC at hB
  split at hB
  ·split at hB
   ·simp only [Bool.and_eq_true, Bool.not_eq_true'] at hB; exact hB.2
   cases hB
  cases hB
 have h1 := run_eqGuard_agg (P := P) w .eql t x y (i64s la).toArray (i64s lb).toArray hg
 have h2 := run_eql_struct (P := P) w t (i64s la).toArray (i64s lb).toArray
 rw [run_equal_twoC hB ha hb] at h2
 simp [Runs, execOp, ho, hx, hy, h1, h2]
end
theorem intC_i64s (n : Nat) (f : Nat → Int) : intC n f = (i64s ((List.range n).map f)).toArray := by
 simp [intC, i64s]
def sameS (f g : Nat → Int) : Prop := (List.range 68).map f = (List.range 68).map g
instance (f g : Nat → Int) : Decidable (sameS f g) := inferInstanceAs (Decidable (_ = _))
theorem rEqlSight {P : Program} {ρ : Env} {o : Oper} {w : World} {x y : Operand} {t t' : TypeId} {f g : Nat → Int} (ho : o.op = .binOp .eql t x y t') (hB : eqTwoC P t 60 8 = true) (hx : ev ρ x = .agg (intC 68 f)) (hy : ev ρ y = .agg (intC 68 g)) : Runs P ρ o w (.bool (decide (sameS f g))) := by
 rw [intC_i64s] at hx hy
 exact rEqlTwoC (w := w) ho hB hx hy (by simp) (by simp)
theorem rEqlSightB {P : Program} {ρ : Env} {o : Oper} {w : World} {x y : Operand} {t t' : TypeId} {f g : Nat → Int} (bb : Bool) (hb : bb = decide (sameS f g)) (ho : o.op = .binOp .eql t x y t') (hB : eqTwoC P t 60 8 = true) (hx : ev ρ x = .agg (intC 68 f)) (hy : ev ρ y = .agg (intC 68 g)) : Runs P ρ o w (.bool bb) := by
 rw [hb]
 exact rEqlSight ho hB hx hy
theorem sight_eq : eqTwoC prog 190 60 8 = true := by kernel_rfl
def tryF (d : List St) (all : List Nat) (stp : Nat → List Nat) (want : Nat → Int) : Nat → List Nat → List Nat → Option (List Nat)
 | 0, order, places => if sameS (seeF d places) want then some order else none
 | n + 1, order, places => all.findSome? fun tx => if tx ∈ order then none else tryF d all stp want n (order ++ [tx]) (places ++ stp tx)
structure TryAt (w : World) (a dn wn tr st : Nat) (d : List St) (all : List Nat) (stp : Nat → List Nat) (want : Nat → Int) : Prop where
 hall : ∃ A c, w.cell? ⟨a, 0, none⟩ = some (.slice A all.length c) ∧ Ints w (fun _ => True) (.slice A all.length c) (all.map Int.ofNat)
 hdn : ∃ A c, w.cell? ⟨dn, 0, none⟩ = some (.slice A d.length c) ∧ Sts w (fun _ => True) (.slice A d.length c) d
 hwn : Blk w wn 190 (intC 68 want)
 htr : w.cell? ⟨tr, 0, none⟩ = some (.func (.func 118) #[] #[.pointer (some ⟨a, 0, none⟩), .pointer (some ⟨dn, 0, none⟩), .pointer (some ⟨wn, 0, none⟩), .pointer (some ⟨tr, 0, none⟩), .pointer (some ⟨st, 0, none⟩)])
 hst : ∃ sm g, w.cell? ⟨st, 0, none⟩ = some (.map (some sm)) ∧ MapIs w sm g ∧ ∀ tx, tx ∈ all → ∃ A c, (g (tx : Int)).getD (.slice none 0 0) = .slice A (stp tx).length c ∧ Ints w (fun _ => True) (.slice A (stp tx).length c) ((stp tx).map Int.ofNat)
theorem TryAt.pure {w w' : World} {a dn wn tr st : Nat} {d : List St} {all : List Nat} {stp : Nat → List Nat} {want : Nat → Int} (h : TryAt w a dn wn tr st d all stp want) (hp : Pure w w') : TryAt w' a dn wn tr st d all stp want := by
 have hI := (Inv.start (fun _ => False) w).pure hp
 obtain ⟨⟨A, c, h1, h2⟩, ⟨A2, c2, h3, h4⟩, h5, h6, ⟨sm, g, h7, h8, h9⟩⟩ := h
 refine ⟨⟨A, c, hI.oldp h1, Rd.chg h2 (hp.chg NF) (fun _ _ h => h)⟩, ⟨A2, c2, hI.oldp h3, Rd.chg h4 (hp.chg NF) (fun _ _ h => h)⟩, ?_, hI.oldp h6, ⟨sm, g, hI.oldp h7, ((MapE.ok h8).chg (hp.chg NF) (fun _ _ h => h)).1, fun tx ht => ?_⟩⟩
 ·exact h5.pure hp
 obtain ⟨A3, c3, e1, e2⟩ := h9 tx ht
 exact ⟨A3, c3, e1, Rd.chg e2 (hp.chg NF) (fun _ _ h => h)⟩
theorem ints_row {w : World} {base e n c : Nat} {A : Option Addr} {xs : List Value} {l : List Int} (h : w.ownsRow base e 1 (.slice A n c) n xs) (hn : n = l.length) (hx : xs = l.map (Value.int .i64)) : Ints w (fun _ => True) (.slice A n c) l := by
 subst hn hx
 exact Rd.of_own h (fun _ _ _ => trivial)
theorem rLookSl {P : Program} {ρ : Env} {o : Oper} {w : World} {x y : Operand} {t kt et b : Nat} {q : IntKind} {a : Int} {v zv : Value} {g : Int → Option Value} (hM : MapIs w b g) (hv : (g a).getD zv = v) (ho : o.op = .lookup t x y false) (ht : P.underlying t = some (.map kt et)) (hk : P.underlying kt = some (.int q)) (hz : (P.info? et).bind (·.zero) = some zv) (hx : ev ρ x = .map (some b)) (hy : ev ρ y = .int .i64 a) : Runs P ρ o w v := by
 have := rLook1 ho ht hk hz hx hy hM
 rwa [hv] at this
section
variable {P : Program} {ρ : Env} {o : Oper} {w : World} {x : Operand} {t t' e : TypeId}
theorem rSlNeqF {n c : Nat} (ho : o.op = .binOp .neq t x (.const (.slice none 0 0)) t') (ht : P.underlying t = some (.slice e)) (hx : ev ρ x = .slice none n c) : Runs P ρ o w (.bool false) := by
 have h := run_equal (P := P) (w := w) (t := t) (x := .slice none n c) (y := .slice none 0 0) (r := true) (fun d => by simp [Op.equalIn, run_underlying ht])
 simp [Runs, execOp, ho, hx, show ev ρ (.const (.slice none 0 0)) = .slice none 0 0 from rfl, eqGuard, binOp, h]
theorem rSlNeqT {n c : Nat} {p : Addr} (ho : o.op = .binOp .neq t x (.const (.slice none 0 0)) t') (ht : P.underlying t = some (.slice e)) (hx : ev ρ x = .slice (some p) n c) : Runs P ρ o w (.bool true) := by
 have h := run_equal (P := P) (w := w) (t := t) (x := .slice (some p) n c) (y := .slice none 0 0) (r := false) (fun d => by simp [Op.equalIn, run_underlying ht])
 simp [Runs, execOp, ho, hx, show ev ρ (.const (.slice none 0 0)) = .slice none 0 0 from rfl, eqGuard, binOp, h]
end
theorem Sts.pure' {w w' : World} {D : Nat → Prop} {v : Value} {l : List St} (h : Sts w D v l) (hp : Pure w w') : Sts w' D v l := Rd.chg h (hp.chg NF) (fun _ _ h => h)
theorem Ints.pure' {w w' : World} {D : Nat → Prop} {v : Value} {l : List Int} (h : Ints w D v l) (hp : Pure w w') : Ints w' D v l := Rd.chg h (hp.chg NF) (fun _ _ h => h)
def TryQ (r : Option (List Nat)) (A : Option Addr) (m c : Nat) (w : World) : Prop := match r with
 | none => A = none
 | some q => (∃ p, A = some p) ∧ m = q.length ∧ Ints w (fun _ => True) (.slice A m c) (q.map Int.ofNat)
theorem TryQ.iff {r : Option (List Nat)} {A : Option Addr} {m c : Nat} {w : World} (h : TryQ r A m c w) : A = none ↔ r = none := by
 cases r with
 | none => exact ⟨fun _ => rfl, fun _ => h⟩
 | some q =>
  obtain ⟨⟨p, rfl⟩, -⟩ := h
  exact ⟨fun h => (nomatch h), fun h => (nomatch h)⟩
theorem find_first {α β : Type} (F : α → Option β) : ∀ (l : List α) (k : Nat) (x : α), l[k]? = some x → (∀ y ∈ l.take k, F y = none) → F x ≠ none → l.findSome? F = F x
 | [], k, x, h, _, _ => by simp at h
 | y :: l, 0, x, h, _, hx => by
  simp at h; subst h
  cases hF : F y with
  | none => exact absurd hF hx
  | some b => simp [List.findSome?_cons, hF]
 | y :: l, k + 1, x, h, hno, hx => by
  have hy : F y = none := hno y (by simp)
  rw [List.findSome?_cons, hy]
  exact find_first F l k x (by simpa using h) (fun z hz => hno z (by simp [hz])) hx
theorem natV_map (l : List Nat) : natV l = (l.map Int.ofNat).map (Value.int .i64) := by unfold natV; rw [List.map_map]; rfl
theorem try_any (a dn wn tr st : Nat) (d : List St) (all : List Nat) (stp : Nat → List Nat) (want : Nat → Int) (h60 : d.length ≤ 60) (hal : all.length ≤ 8) (ha0 : 0 < all.length) (hstp : ∀ tx ∈ all, (stp tx).length ≤ 60 ∧ ∀ x ∈ stp tx, x < d.length) :
  ∀ (n : Nat) (order places : List Nat) (OA PA : Option Addr) (oc pc : Nat) (w0 : World), TryAt w0 a dn wn tr st d all stp want → order.length + n = all.length → Ints w0 (fun _ => True) (.slice OA order.length oc) (order.map Int.ofNat) → Ints w0 (fun _ => True) (.slice PA places.length pc) (places.map Int.ofNat) →
   (∀ x ∈ places, x < d.length) → places.length ≤ 60 * order.length →
   Cq 118 #[.slice OA order.length oc, .slice PA places.length pc, .pointer (some ⟨a, 0, none⟩), .pointer (some ⟨dn, 0, none⟩), .pointer (some ⟨wn, 0, none⟩), .pointer (some ⟨tr, 0, none⟩), .pointer (some ⟨st, 0, none⟩)] w0 fun en w' =>
    (∃ A m c, en = .returned (.slice A m c) ∧ TryQ (tryF d all stp want n order places) A m c w') ∧ Pure w0 w'
 | 0, order, places, OA, PA, oc, pc, w0, hT, hn, hO, hP, hpl, hpn => by
  have hI := Inv.start (fun _ => False) w0
  obtain ⟨A, c, q1, -⟩ := hT.hall
  obtain ⟨A2, c2, q2, hS⟩ := hT.hdn
  have hq3 := hT.hwn
  refine Vm func118 Z (Wq (Vg Z (Wn (Ws (Wq (Va Z (Vo Z yy41 Z (V6 (.slice _ _ _) Z (hI.oldp q1) (Vo Z yy41 Z (Vx Z (Yt Z ?_)))))))))))
  by_cases hs : sameS (seeF d places) want
  ·refine Ws (Ws (Yj [4] hI fun Sx hY hXS hI => V9 0 (.slice _ _ _) Z (Yo hY q2) (Vp 1 Z (Wt 3 Z (fun W hW => have hI := hY W hW; (rLdB (n := 68) Z (by kernel_rfl) (by kernel_rfl) Z (intC_size _ _) (hq3.pure hI.pu))) (Vq 2 Z (Vd [.slice _ _ _, .slice _ _ _] Z func117 Z ((see_any _ _ _ d _ _ _ places _ _ _ (hS.pure' hI.pu) (hP.pure' hI.pu) h60 hpl).mono (okP hI fun w1 hp hI => Wn ⟨hXS _ hI, (WT_A (by kernel_rfl) ?_)⟩))))))))
   clear hXS hY
   refine WA_T (fun _ => True) [] (Wt 4 Z (hS := trivial) (fun W _ => (rEqlSightB true (decide_eq_true hs).symm Z sight_eq Z Z)) (Yz (Wc true Z (Wq (Va Z (Vg Z (Wn (WR (r1_ 9 Z ⟨⟨_, _, _, Z, ?_⟩, hI.pu⟩)))))))))
   rw [tryF, if_pos hs]
   obtain ⟨x, hx⟩ : ∃ x, order[0]? = some x := ⟨_, gE_ (by omega)⟩
   obtain ⟨b, o, rfl, _⟩ := nats_get hO hx
   exact ⟨⟨_, Z⟩, Z, hO.pure' hI.pu⟩
  refine Ws (Ws (Yj [4] hI fun Sx hY hXS hI => V9 0 (.slice _ _ _) Z (Yo hY q2) (Vp 1 Z (Wt 3 Z (fun W hW => have hI := hY W hW; (rLdB (n := 68) Z (by kernel_rfl) (by kernel_rfl) Z (intC_size _ _) (hq3.pure hI.pu))) (Vq 2 Z (Vd [.slice _ _ _, .slice _ _ _] Z func117 Z ((see_any _ _ _ d _ _ _ places _ _ _ (hS.pure' hI.pu) (hP.pure' hI.pu) h60 hpl).mono (okP hI fun w1 hp hI => Wn ⟨hXS _ hI, (WT_A (by kernel_rfl) ?_)⟩))))))))
  clear hXS hY
  refine WA_T (fun _ => True) [] (Wt 4 Z (hS := trivial) (fun W _ => (rEqlSightB false (decide_eq_false hs).symm Z sight_eq Z Z)) (Yz (Wc false Z (Wk (Wq (Vg Z (Wn (WR (r1_ 9 Z ⟨⟨_, _, _, Z, ?_⟩, hI.pu⟩)))))))))
  rw [tryF, if_neg hs]
  exact Z
 | n + 1, order, places, OA, PA, oc, pc, w0, hT, hn, hO, hP, hpl, hpn => by
  have hI := Inv.start (fun _ => False) w0
  obtain ⟨AA, ac, q1, hA⟩ := hT.hall
  have q5 := hT.htr
  obtain ⟨sm, sg, q6, hM, hg⟩ := hT.hst
  have hnl : order.length < all.length := by omega
  obtain ⟨F, hF⟩ : ∃ F : Nat → Option (List Nat), (fun tx => if tx ∈ order then none else tryF d all stp want n (order ++ [tx]) (places ++ stp tx)) = F := ⟨_, rfl⟩
  have htry : tryF d all stp want (n + 1) order places = all.findSome? F := by rw [tryF, hF]
  refine Vm func118 Z (Wq (Vg Z (Wn (Ws (Wq (Va Z (Vo Z yy41 Z (V6 (.slice _ _ _) Z (hI.oldp q1) (Vo Z yy41 Z (Vs Z (Yf Z (Wk (Ws (Wq (V6 (.slice _ _ _) Z (hI.oldp q1) (Vo Z yy41 Z (V0 Z (Wn (Wb ?_)))))))))))))))))))
  refine W_loop (fun ρ w => ∃ k : Nat, k ≤ all.length ∧ (∀ x ∈ all.take k, F x = none) ∧ Has ρ [(26, Y (k : Int)), (25, Y (all.length : Int)), (24, .slice AA all.length ac), (0, .slice OA order.length oc), (1, .slice PA places.length pc), (2, .pointer (some ⟨a, 0, none⟩)), (3, .pointer (some ⟨dn, 0, none⟩)), (4, .pointer (some ⟨wn, 0, none⟩)), (5, .pointer (some ⟨tr, 0, none⟩)), (6, .pointer (some ⟨st, 0, none⟩))] ∧ Inv NF w0 w []) (fun ρ _ => all.length - cnt (ρ 26))
   ⟨0, by omega, by simp, ⟨rfl, rfl, rfl, rfl, rfl, rfl, rfl, rfl, rfl, rfl, trivial⟩, hI⟩ ?_
  clear hI
  rintro ρ w ⟨k, hk, hno, hH, hI⟩
  obtain ⟨σ, rfl⟩ := hH.open
  by_cases hkl : k < all.length
  ·obtain ⟨tx, htx⟩ : ∃ tx, all[k]? = some tx := ⟨_, gE_ hkl⟩
   have hmem := gM_ htx
   obtain ⟨ab, ao, rfl, q7⟩ := nats_get hA htx
   have htk : all.take (k + 1) = all.take k ++ [tx] := take_nat htx
   refine Wq (Vu Z (Yu Z (Wk (Ws (Wb (Wq (Tz Z yy41 Z (V6 (Y _) Z (hI.oldp q7) (Vb Z (Wn (Ws (Wq (Va Z (V0 Z (Vd [.slice _ _ _, Y _] Z func99 Z ((conI_any OA order.length oc (order.map Int.ofNat) (tx : Int) _ _ (hO.pure' hI.pu)).mono (okP hI fun w1 hp hI => ?_)))))))))))))))))
   have hmo : decide ((tx : Int) ∈ order.map Int.ofNat) = decide (tx ∈ order) := by
    refine decide_eq_decide.2 ?_
    rw [List.mem_map]
    constructor
    ·rintro ⟨z, hz, he⟩
     have : z = tx := by have : (z : Int) = (tx : Int) := he; omega
     exact this ▸ hz
    exact fun h => ⟨tx, h, Z⟩
   rw [hmo]
   by_cases hin : tx ∈ order
   ·rw [decide_eq_true hin]
    refine Yt Z (WE (Wr (Vl Z (V0 Z (Wn ⟨⟨k + 1, by omega, ?_, g10_, hI⟩, by show all.length - ((k + 1 : Nat) : Int).toNat < all.length - (k : Int).toNat; omega⟩)))))
    rw [htk]
    intro x hx
    rcases List.mem_append.1 hx with hx | hx
    ·exact hno x hx
    rw [List.mem_singleton.1 hx, ← hF]
    exact if_pos hin
   rw [decide_eq_false hin]
   have hFtx : F tx = tryF d all stp want n (order ++ [tx]) (places ++ stp tx) := by rw [← hF]; exact if_neg hin
   obtain ⟨As, cs, hgv, hS2⟩ := hg tx hmem
   have hMp : ∀ w, Pure w0 w → MapIs w sm sg := fun w hp => ((MapE.ok hM).chg (hp.chg NF) (fun _ _ h => h)).1
   have hfl : [places, stp tx].flatten = places ++ stp tx := by simp
   have hs1 := (hstp tx hmem).1
   have e1 : (order ++ [tx]).length = order.length + 1 := by simp
   have e2 : (places ++ stp tx).length = places.length + (stp tx).length := by simp
   refine Yf Z (Wk (Wx (fun ρ w => ∃ (A : Option Addr) (m c : Nat), TryQ (F tx) A m c w ∧ Has ρ [(12, .slice A m c), (26, Y (k : Int)), (25, Y (all.length : Int)), (24, .slice (some ⟨ab, ao, none⟩) all.length ac), (0, .slice OA order.length oc), (1, .slice PA places.length pc), (2, .pointer (some ⟨a, 0, none⟩)), (3, .pointer (some ⟨dn, 0, none⟩)), (4, .pointer (some ⟨wn, 0, none⟩)), (5, .pointer (some ⟨tr, 0, none⟩)), (6, .pointer (some ⟨st, 0, none⟩))] ∧ Inv NF w0 w []) ?_ ?_))
   ·refine Yi hI fun Sx hY hXS hI => V9 0 (.func _ _ _) Z (Yo hY q5) (Vp 1 Z (Vh 3 Z (Vp 6 Z (V9 7 (.map _) Z (Yo hY q6) (Vh 8 Z (Wt 9 Z (fun W hW => have hI := hY W hW; (rLookSl (hMp _ hI.pu) hgv Z underlying186 yy3 (by kernel_rfl) Z Z)) (WT_three 2 4 10 Z Z Z (by kernel_rfl) Z Z Z ?_ ?_ ?_)))))))
    ·refine Vd [.slice _ _ _] Z func119 Z ((cloneI_any OA order.length oc (order.map Int.ofNat) _ _ (hO.pure' hI.pu) (by simp; omega)).mono ?_)
     rintro e w1 ⟨A', c', rfl, hi⟩
     refine rV ?_
     have hI := hI.app1 hi
     refine Wn ⟨hXS _ hI.d0, (WT_two 4 10 Z Z (by kernel_rfl) Z Z ?_ ?_)⟩
     ·refine T3 [(0, Y _)] [_] [Y 0] [0] hI Z yy41 (fun _ => by kernel_rfl) ?_
      rintro b37 w - - hI
      refine Wn ⟨hXS _ hI.d0.d0, (WT_two 5 10 Z Z (by kernel_rfl) Z Z ?_ ?_)⟩
      ·refine WL_app1 (z := Y 0) (by_ := 8) (news := [Y (tx : Int)]) hI Z Z Z Z Z Z yy41 (by kernel_rfl) Z (by omega) (by rfl) (by exact hI.lit0) Z (by omega) (by omega) (Nat.zero_le _) ?_
       rintro A' c' w _ hcl hI
       refine Wn ⟨hXS _ hI.d0.d0, (Vq 10 Z (T3 [(0, .slice _ _ _), (1, .slice _ _ _)] [_, _] [.slice none 0 0, .slice none 0 0] [0, 1] hI Z yy245 (fun _ => by kernel_rfl) ?_))⟩
       rintro b43 w - - hI
       refine Wn ⟨hXS _ hI.d0.d0.d0, (Vq 11 Z (Vd [.slice _ _ _] Z func120 Z ?_))⟩
       have hc := concat_any b43 2 [places, stp tx] (fun _ => True) _ (by
        intro i l hi
        match i, hi with
        | 0, hi => injection hi with hi; subst hi; exact ⟨PA, pc, by first | exact hI.c0 rfl | exact hI.c1 rfl | exact hI.c2 rfl, hP.pure' hI.pu⟩
        | 1, hi => injection hi with hi; subst hi; exact ⟨As, cs, by first | exact hI.c0 rfl | exact hI.c1 rfl | exact hI.c2 rfl, hS2.pure' hI.pu⟩) rfl (by rw [hfl, e2]; omega) (by omega)
       rw [hfl] at hc
       refine hc.mono ?_
       rintro e w1 ⟨v, rfl, hp, A44, c44, rfl, hown⟩
       refine rV ?_
       have hI := hI.fresh hp (Row.ok hown) (fun k hk => Row.lo hown hk)
       refine Wn ⟨hXS _ hI.d0.d0.d0.d0, (Vq 12 Z (Ue [_, _, _, _, _, _, _] [] [_, _, _, _, _] Z func118 Z ?_))⟩
       have ih := try_any a dn wn tr st d all stp want h60 hal ha0 hstp n (order ++ [tx]) (places ++ stp tx) A' A44 c' c44 _ (hT.pure hI.pu) (by omega) (by rw [e1]; first | exact ints_row hI.g1 (by simp) (by simp) | exact ints_row hI.g2 (by simp) (by simp) | exact ints_row hI.g3 (by simp) (by simp)) (ints_row hI.g0 (by simp) (natV_map _)) (by
        intro x hx
        rcases List.mem_append.1 hx with hx | hx
        ·exact hpl x hx
        exact (hstp tx hmem).2 x hx) (by omega)
       rw [e1] at ih
       refine ih.mono ?_
       rintro e w1 ⟨⟨A5, m5, c5, rfl, hA5⟩, hp⟩
       refine rV ?_
       have hI := hI.pure hp
       exact Wn ⟨hXS _ hI.d0.d0.d0.d0, (U9 13 (hS_ := hXS _ hI.d0.d0.d0.d0) Z (Yz ⟨A5, m5, c5, by rw [hFtx]; exact hA5, g11_, hI.d0.d0.d0.d0⟩))⟩
      refine T3 [(0, .slice _ _ _), (1, .slice _ _ _)] [_, _] [.slice none 0 0, .slice none 0 0] [0, 1] hI Z yy245 (fun _ => by kernel_rfl) ?_
      rintro b43 w - - hI
      refine Wn ⟨hXS _ hI.d0.d0.d0, (Vq 5 Z (WL_app2 (z := Y 0) (by_ := 8) (news := [Y (tx : Int)]) hI Z Z Z Z Z Z yy41 (by kernel_rfl) Z (by omega) (by rfl) (by exact hI.d0.lit0) Z (by omega) (by omega) (Nat.zero_le _) ?_))⟩
      rintro A' c' w _ hcl hI
      refine Wn ⟨hXS _ hI.d0.d0.d0, (Vq 11 Z (Vd [.slice _ _ _] Z func120 Z ?_))⟩
      have hc := concat_any b43 2 [places, stp tx] (fun _ => True) _ (by
       intro i l hi
       match i, hi with
       | 0, hi => injection hi with hi; subst hi; exact ⟨PA, pc, by first | exact hI.c0 rfl | exact hI.c1 rfl | exact hI.c2 rfl, hP.pure' hI.pu⟩
       | 1, hi => injection hi with hi; subst hi; exact ⟨As, cs, by first | exact hI.c0 rfl | exact hI.c1 rfl | exact hI.c2 rfl, hS2.pure' hI.pu⟩) rfl (by rw [hfl, e2]; omega) (by omega)
      rw [hfl] at hc
      refine hc.mono ?_
      rintro e w1 ⟨v, rfl, hp, A44, c44, rfl, hown⟩
      refine rV ?_
      have hI := hI.fresh hp (Row.ok hown) (fun k hk => Row.lo hown hk)
      refine Wn ⟨hXS _ hI.d0.d0.d0.d0, (Vq 12 Z (Ue [_, _, _, _, _, _, _] [] [_, _, _, _, _] Z func118 Z ?_))⟩
      have ih := try_any a dn wn tr st d all stp want h60 hal ha0 hstp n (order ++ [tx]) (places ++ stp tx) A' A44 c' c44 _ (hT.pure hI.pu) (by omega) (by rw [e1]; first | exact ints_row hI.g1 (by simp) (by simp) | exact ints_row hI.g2 (by simp) (by simp) | exact ints_row hI.g3 (by simp) (by simp)) (ints_row hI.g0 (by simp) (natV_map _)) (by
       intro x hx
       rcases List.mem_append.1 hx with hx | hx
       ·exact hpl x hx
       exact (hstp tx hmem).2 x hx) (by omega)
      rw [e1] at ih
      refine ih.mono ?_
      rintro e w1 ⟨⟨A5, m5, c5, rfl, hA5⟩, hp⟩
      refine rV ?_
      have hI := hI.pure hp
      exact Wn ⟨hXS _ hI.d0.d0.d0.d0, (U9 13 (hS_ := hXS _ hI.d0.d0.d0.d0) Z (Yz ⟨A5, m5, c5, by rw [hFtx]; exact hA5, g11_, hI.d0.d0.d0.d0⟩))⟩
     refine T3 [(0, .slice _ _ _), (1, .slice _ _ _)] [_, _] [.slice none 0 0, .slice none 0 0] [0, 1] hI Z yy245 (fun _ => by kernel_rfl) ?_
     rintro b43 w - - hI
     refine Wn ⟨hXS _ hI.d0.d0, (Vq 4 Z (T3 [(0, Y _)] [_] [Y 0] [0] hI Z yy41 (fun _ => by kernel_rfl) ?_))⟩
     rintro b37 w - - hI
     refine Wn ⟨hXS _ hI.d0.d0.d0, (Vq 5 Z (WL_app2 (z := Y 0) (by_ := 8) (news := [Y (tx : Int)]) hI Z Z Z Z Z Z yy41 (by kernel_rfl) Z (by omega) (by rfl) (by exact hI.lit0) Z (by omega) (by omega) (Nat.zero_le _) ?_))⟩
     rintro A' c' w _ hcl hI
     refine Wn ⟨hXS _ hI.d0.d0.d0, (Vq 11 Z (Vd [.slice _ _ _] Z func120 Z ?_))⟩
     have hc := concat_any b43 2 [places, stp tx] (fun _ => True) _ (by
      intro i l hi
      match i, hi with
      | 0, hi => injection hi with hi; subst hi; exact ⟨PA, pc, by first | exact hI.c0 rfl | exact hI.c1 rfl | exact hI.c2 rfl, hP.pure' hI.pu⟩
      | 1, hi => injection hi with hi; subst hi; exact ⟨As, cs, by first | exact hI.c0 rfl | exact hI.c1 rfl | exact hI.c2 rfl, hS2.pure' hI.pu⟩) rfl (by rw [hfl, e2]; omega) (by omega)
     rw [hfl] at hc
     refine hc.mono ?_
     rintro e w1 ⟨v, rfl, hp, A44, c44, rfl, hown⟩
     refine rV ?_
     have hI := hI.fresh hp (Row.ok hown) (fun k hk => Row.lo hown hk)
     refine Wn ⟨hXS _ hI.d0.d0.d0.d0, (Vq 12 Z (Ue [_, _, _, _, _, _, _] [] [_, _, _, _, _] Z func118 Z ?_))⟩
     have ih := try_any a dn wn tr st d all stp want h60 hal ha0 hstp n (order ++ [tx]) (places ++ stp tx) A' A44 c' c44 _ (hT.pure hI.pu) (by omega) (by rw [e1]; first | exact ints_row hI.g1 (by simp) (by simp) | exact ints_row hI.g2 (by simp) (by simp) | exact ints_row hI.g3 (by simp) (by simp)) (ints_row hI.g0 (by simp) (natV_map _)) (by
      intro x hx
      rcases List.mem_append.1 hx with hx | hx
      ·exact hpl x hx
      exact (hstp tx hmem).2 x hx) (by omega)
     rw [e1] at ih
     refine ih.mono ?_
     rintro e w1 ⟨⟨A5, m5, c5, rfl, hA5⟩, hp⟩
     refine rV ?_
     have hI := hI.pure hp
     exact Wn ⟨hXS _ hI.d0.d0.d0.d0, (U9 13 (hS_ := hXS _ hI.d0.d0.d0.d0) Z (Yz ⟨A5, m5, c5, by rw [hFtx]; exact hA5, g11_, hI.d0.d0.d0.d0⟩))⟩
    ·refine T3 [(0, Y _)] [_] [Y 0] [0] hI Z yy41 (fun _ => by kernel_rfl) ?_
     rintro b37 w - - hI
     refine Wn ⟨hXS _ hI.d0, (WT_two 2 10 Z Z (by kernel_rfl) Z Z ?_ ?_)⟩
     ·refine Vd [.slice _ _ _] Z func119 Z ((cloneI_any OA order.length oc (order.map Int.ofNat) _ _ (hO.pure' hI.pu) (by simp; omega)).mono ?_)
      rintro e w1 ⟨A', c', rfl, hi⟩
      refine rV ?_
      have hI := hI.app1 hi
      refine Wn ⟨hXS _ hI.d0.d0, (WT_two 5 10 Z Z (by kernel_rfl) Z Z ?_ ?_)⟩
      ·refine WL_app0 (z := Y 0) (by_ := 8) (news := [Y (tx : Int)]) hI Z Z Z Z Z Z yy41 (by kernel_rfl) Z (by omega) (by rfl) (by exact hI.d0.lit0) Z (by omega) (by omega) (Nat.zero_le _) ?_
       rintro A' c' w _ hcl hI
       refine Wn ⟨hXS _ hI.d0.d0, (Vq 10 Z (T3 [(0, .slice _ _ _), (1, .slice _ _ _)] [_, _] [.slice none 0 0, .slice none 0 0] [0, 1] hI Z yy245 (fun _ => by kernel_rfl) ?_))⟩
       rintro b43 w - - hI
       refine Wn ⟨hXS _ hI.d0.d0.d0, (Vq 11 Z (Vd [.slice _ _ _] Z func120 Z ?_))⟩
       have hc := concat_any b43 2 [places, stp tx] (fun _ => True) _ (by
        intro i l hi
        match i, hi with
        | 0, hi => injection hi with hi; subst hi; exact ⟨PA, pc, by first | exact hI.c0 rfl | exact hI.c1 rfl | exact hI.c2 rfl, hP.pure' hI.pu⟩
        | 1, hi => injection hi with hi; subst hi; exact ⟨As, cs, by first | exact hI.c0 rfl | exact hI.c1 rfl | exact hI.c2 rfl, hS2.pure' hI.pu⟩) rfl (by rw [hfl, e2]; omega) (by omega)
       rw [hfl] at hc
       refine hc.mono ?_
       rintro e w1 ⟨v, rfl, hp, A44, c44, rfl, hown⟩
       refine rV ?_
       have hI := hI.fresh hp (Row.ok hown) (fun k hk => Row.lo hown hk)
       refine Wn ⟨hXS _ hI.d0.d0.d0.d0, (Vq 12 Z (Ue [_, _, _, _, _, _, _] [] [_, _, _, _, _] Z func118 Z ?_))⟩
       have ih := try_any a dn wn tr st d all stp want h60 hal ha0 hstp n (order ++ [tx]) (places ++ stp tx) A' A44 c' c44 _ (hT.pure hI.pu) (by omega) (by rw [e1]; first | exact ints_row hI.g1 (by simp) (by simp) | exact ints_row hI.g2 (by simp) (by simp) | exact ints_row hI.g3 (by simp) (by simp)) (ints_row hI.g0 (by simp) (natV_map _)) (by
        intro x hx
        rcases List.mem_append.1 hx with hx | hx
        ·exact hpl x hx
        exact (hstp tx hmem).2 x hx) (by omega)
       rw [e1] at ih
       refine ih.mono ?_
       rintro e w1 ⟨⟨A5, m5, c5, rfl, hA5⟩, hp⟩
       refine rV ?_
       have hI := hI.pure hp
       exact Wn ⟨hXS _ hI.d0.d0.d0.d0, (U9 13 (hS_ := hXS _ hI.d0.d0.d0.d0) Z (Yz ⟨A5, m5, c5, by rw [hFtx]; exact hA5, g11_, hI.d0.d0.d0.d0⟩))⟩
      refine T3 [(0, .slice _ _ _), (1, .slice _ _ _)] [_, _] [.slice none 0 0, .slice none 0 0] [0, 1] hI Z yy245 (fun _ => by kernel_rfl) ?_
      rintro b43 w - - hI
      refine Wn ⟨hXS _ hI.d0.d0.d0, (Vq 5 Z (WL_app1 (z := Y 0) (by_ := 8) (news := [Y (tx : Int)]) hI Z Z Z Z Z Z yy41 (by kernel_rfl) Z (by omega) (by rfl) (by exact hI.d0.d0.lit0) Z (by omega) (by omega) (Nat.zero_le _) ?_))⟩
      rintro A' c' w _ hcl hI
      refine Wn ⟨hXS _ hI.d0.d0.d0, (Vq 11 Z (Vd [.slice _ _ _] Z func120 Z ?_))⟩
      have hc := concat_any b43 2 [places, stp tx] (fun _ => True) _ (by
       intro i l hi
       match i, hi with
       | 0, hi => injection hi with hi; subst hi; exact ⟨PA, pc, by first | exact hI.c0 rfl | exact hI.c1 rfl | exact hI.c2 rfl, hP.pure' hI.pu⟩
       | 1, hi => injection hi with hi; subst hi; exact ⟨As, cs, by first | exact hI.c0 rfl | exact hI.c1 rfl | exact hI.c2 rfl, hS2.pure' hI.pu⟩) rfl (by rw [hfl, e2]; omega) (by omega)
      rw [hfl] at hc
      refine hc.mono ?_
      rintro e w1 ⟨v, rfl, hp, A44, c44, rfl, hown⟩
      refine rV ?_
      have hI := hI.fresh hp (Row.ok hown) (fun k hk => Row.lo hown hk)
      refine Wn ⟨hXS _ hI.d0.d0.d0.d0, (Vq 12 Z (Ue [_, _, _, _, _, _, _] [] [_, _, _, _, _] Z func118 Z ?_))⟩
      have ih := try_any a dn wn tr st d all stp want h60 hal ha0 hstp n (order ++ [tx]) (places ++ stp tx) A' A44 c' c44 _ (hT.pure hI.pu) (by omega) (by rw [e1]; first | exact ints_row hI.g1 (by simp) (by simp) | exact ints_row hI.g2 (by simp) (by simp) | exact ints_row hI.g3 (by simp) (by simp)) (ints_row hI.g0 (by simp) (natV_map _)) (by
       intro x hx
       rcases List.mem_append.1 hx with hx | hx
       ·exact hpl x hx
       exact (hstp tx hmem).2 x hx) (by omega)
      rw [e1] at ih
      refine ih.mono ?_
      rintro e w1 ⟨⟨A5, m5, c5, rfl, hA5⟩, hp⟩
      refine rV ?_
      have hI := hI.pure hp
      exact Wn ⟨hXS _ hI.d0.d0.d0.d0, (U9 13 (hS_ := hXS _ hI.d0.d0.d0.d0) Z (Yz ⟨A5, m5, c5, by rw [hFtx]; exact hA5, g11_, hI.d0.d0.d0.d0⟩))⟩
     refine T3 [(0, .slice _ _ _), (1, .slice _ _ _)] [_, _] [.slice none 0 0, .slice none 0 0] [0, 1] hI Z yy245 (fun _ => by kernel_rfl) ?_
     rintro b43 w - - hI
     refine Wn ⟨hXS _ hI.d0.d0, (Vq 2 Z (Vd [.slice _ _ _] Z func119 Z ((cloneI_any OA order.length oc (order.map Int.ofNat) _ _ (hO.pure' hI.pu) (by simp; omega)).mono ?_)))⟩
     rintro e w1 ⟨A', c', rfl, hi⟩
     refine rV ?_
     have hI := hI.app1 hi
     refine Wn ⟨hXS _ hI.d0.d0.d0, (Vq 5 Z (WL_app0 (z := Y 0) (by_ := 8) (news := [Y (tx : Int)]) hI Z Z Z Z Z Z yy41 (by kernel_rfl) Z (by omega) (by rfl) (by exact hI.d0.d0.lit0) Z (by omega) (by omega) (Nat.zero_le _) ?_))⟩
     rintro A' c' w _ hcl hI
     refine Wn ⟨hXS _ hI.d0.d0.d0, (Vq 11 Z (Vd [.slice _ _ _] Z func120 Z ?_))⟩
     have hc := concat_any b43 2 [places, stp tx] (fun _ => True) _ (by
      intro i l hi
      match i, hi with
      | 0, hi => injection hi with hi; subst hi; exact ⟨PA, pc, by first | exact hI.c0 rfl | exact hI.c1 rfl | exact hI.c2 rfl, hP.pure' hI.pu⟩
      | 1, hi => injection hi with hi; subst hi; exact ⟨As, cs, by first | exact hI.c0 rfl | exact hI.c1 rfl | exact hI.c2 rfl, hS2.pure' hI.pu⟩) rfl (by rw [hfl, e2]; omega) (by omega)
     rw [hfl] at hc
     refine hc.mono ?_
     rintro e w1 ⟨v, rfl, hp, A44, c44, rfl, hown⟩
     refine rV ?_
     have hI := hI.fresh hp (Row.ok hown) (fun k hk => Row.lo hown hk)
     refine Wn ⟨hXS _ hI.d0.d0.d0.d0, (Vq 12 Z (Ue [_, _, _, _, _, _, _] [] [_, _, _, _, _] Z func118 Z ?_))⟩
     have ih := try_any a dn wn tr st d all stp want h60 hal ha0 hstp n (order ++ [tx]) (places ++ stp tx) A' A44 c' c44 _ (hT.pure hI.pu) (by omega) (by rw [e1]; first | exact ints_row hI.g1 (by simp) (by simp) | exact ints_row hI.g2 (by simp) (by simp) | exact ints_row hI.g3 (by simp) (by simp)) (ints_row hI.g0 (by simp) (natV_map _)) (by
      intro x hx
      rcases List.mem_append.1 hx with hx | hx
      ·exact hpl x hx
      exact (hstp tx hmem).2 x hx) (by omega)
     rw [e1] at ih
     refine ih.mono ?_
     rintro e w1 ⟨⟨A5, m5, c5, rfl, hA5⟩, hp⟩
     refine rV ?_
     have hI := hI.pure hp
     exact Wn ⟨hXS _ hI.d0.d0.d0.d0, (U9 13 (hS_ := hXS _ hI.d0.d0.d0.d0) Z (Yz ⟨A5, m5, c5, by rw [hFtx]; exact hA5, g11_, hI.d0.d0.d0.d0⟩))⟩
    refine T3 [(0, .slice _ _ _), (1, .slice _ _ _)] [_, _] [.slice none 0 0, .slice none 0 0] [0, 1] hI Z yy245 (fun _ => by kernel_rfl) ?_
    rintro b43 w - - hI
    refine Wn ⟨hXS _ hI.d0, (WT_two 2 4 Z Z (by kernel_rfl) Z Z ?_ ?_)⟩
    ·refine Vd [.slice _ _ _] Z func119 Z ((cloneI_any OA order.length oc (order.map Int.ofNat) _ _ (hO.pure' hI.pu) (by simp; omega)).mono ?_)
     rintro e w1 ⟨A', c', rfl, hi⟩
     refine rV ?_
     have hI := hI.app1 hi
     refine Wn ⟨hXS _ hI.d0.d0, (Vq 4 Z (T3 [(0, Y _)] [_] [Y 0] [0] hI Z yy41 (fun _ => by kernel_rfl) ?_))⟩
     rintro b37 w - - hI
     refine Wn ⟨hXS _ hI.d0.d0.d0, (Vq 5 Z (WL_app1 (z := Y 0) (by_ := 8) (news := [Y (tx : Int)]) hI Z Z Z Z Z Z yy41 (by kernel_rfl) Z (by omega) (by rfl) (by exact hI.lit0) Z (by omega) (by omega) (Nat.zero_le _) ?_))⟩
     rintro A' c' w _ hcl hI
     refine Wn ⟨hXS _ hI.d0.d0.d0, (Vq 11 Z (Vd [.slice _ _ _] Z func120 Z ?_))⟩
     have hc := concat_any b43 2 [places, stp tx] (fun _ => True) _ (by
      intro i l hi
      match i, hi with
      | 0, hi => injection hi with hi; subst hi; exact ⟨PA, pc, by first | exact hI.c0 rfl | exact hI.c1 rfl | exact hI.c2 rfl, hP.pure' hI.pu⟩
      | 1, hi => injection hi with hi; subst hi; exact ⟨As, cs, by first | exact hI.c0 rfl | exact hI.c1 rfl | exact hI.c2 rfl, hS2.pure' hI.pu⟩) rfl (by rw [hfl, e2]; omega) (by omega)
     rw [hfl] at hc
     refine hc.mono ?_
     rintro e w1 ⟨v, rfl, hp, A44, c44, rfl, hown⟩
     refine rV ?_
     have hI := hI.fresh hp (Row.ok hown) (fun k hk => Row.lo hown hk)
     refine Wn ⟨hXS _ hI.d0.d0.d0.d0, (Vq 12 Z (Ue [_, _, _, _, _, _, _] [] [_, _, _, _, _] Z func118 Z ?_))⟩
     have ih := try_any a dn wn tr st d all stp want h60 hal ha0 hstp n (order ++ [tx]) (places ++ stp tx) A' A44 c' c44 _ (hT.pure hI.pu) (by omega) (by rw [e1]; first | exact ints_row hI.g1 (by simp) (by simp) | exact ints_row hI.g2 (by simp) (by simp) | exact ints_row hI.g3 (by simp) (by simp)) (ints_row hI.g0 (by simp) (natV_map _)) (by
      intro x hx
      rcases List.mem_append.1 hx with hx | hx
      ·exact hpl x hx
      exact (hstp tx hmem).2 x hx) (by omega)
     rw [e1] at ih
     refine ih.mono ?_
     rintro e w1 ⟨⟨A5, m5, c5, rfl, hA5⟩, hp⟩
     refine rV ?_
     have hI := hI.pure hp
     exact Wn ⟨hXS _ hI.d0.d0.d0.d0, (U9 13 (hS_ := hXS _ hI.d0.d0.d0.d0) Z (Yz ⟨A5, m5, c5, by rw [hFtx]; exact hA5, g11_, hI.d0.d0.d0.d0⟩))⟩
    refine T3 [(0, Y _)] [_] [Y 0] [0] hI Z yy41 (fun _ => by kernel_rfl) ?_
    rintro b37 w - - hI
    refine Wn ⟨hXS _ hI.d0.d0, (Vq 2 Z (Vd [.slice _ _ _] Z func119 Z ((cloneI_any OA order.length oc (order.map Int.ofNat) _ _ (hO.pure' hI.pu) (by simp; omega)).mono ?_)))⟩
    rintro e w1 ⟨A', c', rfl, hi⟩
    refine rV ?_
    have hI := hI.app1 hi
    refine Wn ⟨hXS _ hI.d0.d0.d0, (Vq 5 Z (WL_app0 (z := Y 0) (by_ := 8) (news := [Y (tx : Int)]) hI Z Z Z Z Z Z yy41 (by kernel_rfl) Z (by omega) (by rfl) (by exact hI.d0.lit0) Z (by omega) (by omega) (Nat.zero_le _) ?_))⟩
    rintro A' c' w _ hcl hI
    refine Wn ⟨hXS _ hI.d0.d0.d0, (Vq 11 Z (Vd [.slice _ _ _] Z func120 Z ?_))⟩
    have hc := concat_any b43 2 [places, stp tx] (fun _ => True) _ (by
     intro i l hi
     match i, hi with
     | 0, hi => injection hi with hi; subst hi; exact ⟨PA, pc, by first | exact hI.c0 rfl | exact hI.c1 rfl | exact hI.c2 rfl, hP.pure' hI.pu⟩
     | 1, hi => injection hi with hi; subst hi; exact ⟨As, cs, by first | exact hI.c0 rfl | exact hI.c1 rfl | exact hI.c2 rfl, hS2.pure' hI.pu⟩) rfl (by rw [hfl, e2]; omega) (by omega)
    rw [hfl] at hc
    refine hc.mono ?_
    rintro e w1 ⟨v, rfl, hp, A44, c44, rfl, hown⟩
    refine rV ?_
    have hI := hI.fresh hp (Row.ok hown) (fun k hk => Row.lo hown hk)
    refine Wn ⟨hXS _ hI.d0.d0.d0.d0, (Vq 12 Z (Ue [_, _, _, _, _, _, _] [] [_, _, _, _, _] Z func118 Z ?_))⟩
    have ih := try_any a dn wn tr st d all stp want h60 hal ha0 hstp n (order ++ [tx]) (places ++ stp tx) A' A44 c' c44 _ (hT.pure hI.pu) (by omega) (by rw [e1]; first | exact ints_row hI.g1 (by simp) (by simp) | exact ints_row hI.g2 (by simp) (by simp) | exact ints_row hI.g3 (by simp) (by simp)) (ints_row hI.g0 (by simp) (natV_map _)) (by
     intro x hx
     rcases List.mem_append.1 hx with hx | hx
     ·exact hpl x hx
     exact (hstp tx hmem).2 x hx) (by omega)
    rw [e1] at ih
    refine ih.mono ?_
    rintro e w1 ⟨⟨A5, m5, c5, rfl, hA5⟩, hp⟩
    refine rV ?_
    have hI := hI.pure hp
    exact Wn ⟨hXS _ hI.d0.d0.d0.d0, (U9 13 (hS_ := hXS _ hI.d0.d0.d0.d0) Z (Yz ⟨A5, m5, c5, by rw [hFtx]; exact hA5, g11_, hI.d0.d0.d0.d0⟩))⟩
   clear hI
   rintro ρ w ⟨A5, m5, c5, hA5, hH, hI⟩
   obtain ⟨σ, rfl⟩ := hH.open
   cases A5 with
   | none =>
    refine Wq (Va Z (Wv Z (rSlNeqF Z yy41 Z) (Yf Z (Wk (Wr (Vl Z (V0 Z (Wn ⟨⟨k + 1, by omega, ?_, g10_, hI⟩, by show all.length - ((k + 1 : Nat) : Int).toNat < all.length - (k : Int).toNat; omega⟩))))))))
    rw [htk]
    intro x hx
    rcases List.mem_append.1 hx with hx | hx
    ·exact hno x hx
    rw [List.mem_singleton.1 hx]
    exact hA5.iff.1 Z
   | some p5 =>
    refine Wq (Va Z (Wv Z (rSlNeqT Z yy41 Z) (Yt Z (Wq (Va Z (Vg Z (Wn (WR (r1_ 9 Z ⟨⟨_, _, _, Z, ?_⟩, hI.pu⟩)))))))))
    rw [htry, find_first F all k tx htx hno (fun h => by have := hA5.iff.2 h; cases this)]
    exact hA5
  obtain rfl : k = all.length := by omega
  refine Wq (Vr Z (Yg Z (WE (Wq (Vg Z (Wn (WR (r1_ 9 Z ⟨⟨_, _, _, Z, ?_⟩, hI.pu⟩))))))))
  rw [List.take_length] at hno
  have : all.findSome? F = none := List.findSome?_eq_none_iff.2 hno
  rw [htry, this]
  exact Z
def stpF (d : List St) (k : Nat) (tx : Nat) : List Nat := (List.range k).filter fun i => decide ((sAt d i).tx = (tx : Int))
theorem stpF_succ (d : List St) (k tx : Nat) : stpF d (k + 1) tx = if (sAt d k).tx = (tx : Int) then stpF d k tx ++ [k] else stpF d k tx := by
 unfold stpF
 rw [List.range_succ, List.filter_append]
 by_cases h : (sAt d k).tx = (tx : Int)
 ·rw [if_pos h, List.filter_cons_of_pos (by exact decide_eq_true h)]; rfl
 rw [if_neg h, List.filter_cons_of_neg (by rw [decide_eq_false h]; exact Bool.false_ne_true)]; simp
theorem stpF_len (d : List St) (k tx : Nat) : (stpF d k tx).length ≤ k := Nat.le_trans (List.length_filter_le _ _) (by simp)
theorem stpF_lt {d : List St} {k tx x : Nat} (h : x ∈ stpF d k tx) : x < k := List.mem_range.1 (List.mem_filter.1 h).1
def mgS (f : Nat → List Nat) (A : Nat → Option Addr) (C : Nat → Nat) : Int → Option Value := fun a => if 0 ≤ a ∧ f a.toNat ≠ [] then some (.slice (A a.toNat) (f a.toNat).length (C a.toNat)) else none
theorem mgS_set (f : Nat → List Nat) (A : Nat → Option Addr) (C : Nat → Nat) (tx n : Nat) (l : List Nat) (B : Option Addr) (c : Nat) (hl : l ≠ []) (hn : n = l.length) :
  (fun j => if j = (tx : Int) then some (Value.slice B n c) else mgS f A C j) = mgS (fun x => if x = tx then l else f x) (fun x => if x = tx then B else A x) (fun x => if x = tx then c else C x) := by
 subst hn
 funext a
 unfold mgS
 by_cases ha : a = (tx : Int)
 ·subst ha; simp [hl]
 rw [if_neg ha]
 by_cases h0 : 0 ≤ a
 ·have : ¬ a.toNat = tx := by omega
  simp [this]
 simp [h0]
theorem mgS_get {f : Nat → List Nat} {A : Nat → Option Addr} {C : Nat → Nat} (h : ∀ x, f x = [] → A x = none ∧ C x = 0) (tx : Nat) : (mgS f A C (tx : Int)).getD (.slice none 0 0) = .slice (A tx) (f tx).length (C tx) := by
 unfold mgS
 by_cases hl : f tx = []
 ·obtain ⟨h1, h2⟩ := h tx hl
  simp [hl, h1, h2]
 simp [hl]
def stE (f : Nat → List Nat) (A : Nat → Option Addr) (C : Nat → Nat) (x : Nat) : Ent := Row 0 3 1 (A x) (f x).length (C x) (natV (f x))
theorem Inv.stset {S : Nat → Prop} {w0 w : World} {H : List Ent} {f : Nat → List Nat} {A : Nat → Option Addr} {C : Nat → Nat} {tx n c : Nat} {l : List Nat} {B : Option Addr}
  (h : Inv S w0 w (Row 0 3 1 B n c (natV l) :: Many 8 (fun j => if j = tx then Ent.nil else stE f A C j) :: H)) (ht : tx < 8) (hn : n = l.length) :
  Inv S w0 w (Many 8 (stE (fun x => if x = tx then l else f x) (fun x => if x = tx then B else A x) (fun x => if x = tx then c else C x)) :: H) := by
 subst hn
 refine (h.many_in ht (if_pos Z)).many_congr fun i hi => ?_
 by_cases hit : i = tx
 ·rw [if_pos hit]; unfold stE; dsimp only; rw [if_pos hit, if_pos hit, if_pos hit]
 rw [if_neg hit, if_neg hit]; unfold stE; dsimp only; rw [if_neg hit, if_neg hit, if_neg hit]
theorem natV_snoc (l : List Nat) (x : Nat) : natV (l ++ [x]) = natV l ++ [.int .i64 (x : Int)] := by simp [natV]
def seesF (l : List St) : Except Int (List Nat) :=
 if 6 < (commitsF l).length then .error 4 else if commitsF l = [] then .ok [] else
  match tryF (doneF l) (commitsF l) (stpF (doneF l) (doneF l).length) (seeF (doneF l) (List.range (doneF l).length)) (commitsF l).length [] [] with
  | some q => .ok q
  | none => .error 8
def SeesQ (r : Except Int (List Nat)) (en : Ending) (w' : World) : Prop := match r with
 | .ok q => ∃ A m c, m = q.length ∧ en = .returned (.tuple #[.slice A m c, .nilIface]) ∧ Ints w' (fun _ => True) (.slice A m c) (q.map Int.ofNat)
 | .error z => en = .returned (.tuple #[.slice none 0 0, .iface 49 (.int .i64 z)])
theorem seesN_any (A : Option Addr) (n c : Nat) (l : List St) (D : Nat → Prop) (w0 : World) (h : Sts w0 D (.slice A n c) l) (hg : GlobOk w0) (hok : OkSteps l) (htx : ∀ s ∈ doneF l, 0 ≤ s.tx ∧ s.tx < 8) :
  Cq 68 #[.slice A n c] w0 fun en w' => SeesQ (seesF l) en w' ∧ Pure w0 w' := by
 have hI := Inv.start (fun _ => False) w0
 obtain ⟨hn, hc1, hc2⟩ := h.len
 have hl60 := hok.1
 have hdl : (doneF l).length ≤ 60 := Nat.le_trans (List.length_filter_le _ _) hl60
 obtain ⟨r, hr⟩ : ∃ r, seesF l = r := ⟨_, rfl⟩
 rw [hr]
 unfold seesF at hr
 obtain ⟨d, hd⟩ : ∃ d, doneF l = d := ⟨_, rfl⟩
 obtain ⟨al, hal⟩ : ∃ al, commitsF l = al := ⟨_, rfl⟩
 rw [hd] at hdl htx
 rw [hd, hal] at hr
 refine Vm func68 Z (Wq (Vg Z (Vw Z (Wn (Ws (Wq (Va Z (Vd [.slice _ _ _] Z func70 Z ((scheck_any A n c l D _ (h.pure hI.pu) (hI.oldp hg)).mono ?_)))))))))
 rintro e w1 ⟨⟨_, rfl⟩ | ⟨hbad, _⟩, hp⟩
 rotate_left
 ·exact absurd hok hbad
 refine rV ?_
 have hI := hI.pure hp
 refine Vw Z (Wn (Wq (Td Z (Tv Z yy37 Z (Yf Z (Wk (Wq (Va Z (Vd [.slice _ _ _] Z func96 Z ((commits_any A n c l D _ (h.pure hI.pu)).mono ?_))))))))))
 rintro e w1 ⟨⟨v, rfl, CA, cc, rfl, hown⟩, hp⟩
 rw [hal] at hown ⊢
 refine rV ?_
 have hI := hI.freshR hp hown
 refine Vz (.slice none 0 0) (#[.slice none 0 0]) hI Z ?_
 rintro b5 w - - hI
 refine T2 1 #[_] (.slice _ _ _) hI Z ?_
 intro w hI
 refine Wn ?_
 by_cases h6 : 6 < al.length
 ·rw [if_pos h6] at hr
  subst hr
  exact Ws (Wq (V6 (.slice _ _ _) Z (hI.c0 Z) (Vo Z yy41 Z (U6 Z (Yt Z (Wq (T0 Z yy49 Z (Vg Z (Vt Z (Wn (WR (r2_ 2 3 Z ⟨Z, hI.pu⟩))))))))))))
 rw [if_neg h6] at hr
 refine Ws (Wq (V6 (.slice _ _ _) Z (hI.c0 Z) (Vo Z yy41 Z (U3 Z (Yf Z (Wk (Wq (Va Z (Vd [.slice _ _ _] Z func116 Z ((done_any A n c l D _ (h.pure hI.pu) (by omega)).mono ?_))))))))))
 rintro e w1 ⟨⟨v, rfl, DA, dc, rfl, hown⟩, hp⟩
 rw [hd] at hown ⊢
 refine rV ?_
 have hI := hI.freshR hp hown
 refine Vz (.slice none 0 0) (#[.slice none 0 0]) hI Z ?_
 rintro b6 w - - hI
 refine T2 1 #[_] (.slice _ _ _) hI Z ?_
 intro w hI
 refine Wn (Wq (Vg Z (Wn (Ws (Wr (WL_mkMap hI Z Z Z Z ?_))))))
 rintro wm w hI
 refine Vz (.map none) (#[.map none]) hI Z ?_
 rintro b8 w - - hI
 refine T2 1 #[_] (.map _) hI Z ?_
 intro w hI
 refine Wn ?_
 have hI := hI.manyNil 8 0 3 1
 have hI := hI.fresh (Pure.refl _) (Row.nil _ 0 3 1) (fun k hk => by simp [Row] at hk)
 refine Wx (fun ρ w => ∃ GA gc Ax Cx, Has ρ [(7, .slice GA d.length gc), (5, .pointer (some ⟨b5, 0, none⟩)), (6, .pointer (some ⟨b6, 0, none⟩)), (8, .pointer (some ⟨b8, 0, none⟩))] ∧ (∀ x, stpF d d.length x = [] → Ax x = none ∧ Cx x = 0) ∧
   Inv NF w0 w [Row 0 3 1 GA d.length gc (natV (List.range d.length)), Many 8 (stE (stpF d d.length) Ax Cx), B b8 186 #[.map (some wm)], MapE wm (mgS (stpF d d.length) Ax Cx), B b6 27 #[.slice DA d.length dc], Row 0 114 3 DA d.length dc (d.flatMap stV), B b5 41 #[.slice CA al.length cc], Row 0 3 1 CA al.length cc (natV al)]) ?_ ?_
 ·refine Wq (V6 (.slice _ _ _) Z (hI.c4 Z) (Vo Z yy27 Z (V0 Z (Wn (Wb ?_)))))
  refine W_loop (fun ρ w => ∃ (k : Nat) (GA : Option Addr) (gc : Nat) (Ax : Nat → Option Addr) (Cx : Nat → Nat), k ≤ d.length ∧ Has ρ [(30, Y (k : Int)), (29, Y (d.length : Int)), (28, .slice DA d.length dc), (7, .slice GA k gc), (5, .pointer (some ⟨b5, 0, none⟩)), (6, .pointer (some ⟨b6, 0, none⟩)), (8, .pointer (some ⟨b8, 0, none⟩))] ∧ (∀ x, stpF d k x = [] → Ax x = none ∧ Cx x = 0) ∧
   Inv NF w0 w [Row 0 3 1 GA k gc (natV (List.range k)), Many 8 (stE (stpF d k) Ax Cx), B b8 186 #[.map (some wm)], MapE wm (mgS (stpF d k) Ax Cx), B b6 27 #[.slice DA d.length dc], Row 0 114 3 DA d.length dc (d.flatMap stV), B b5 41 #[.slice CA al.length cc], Row 0 3 1 CA al.length cc (natV al)]) (fun ρ _ => d.length - cnt (ρ 30))
   ⟨0, none, 0, fun _ => none, fun _ => 0, by omega, ⟨rfl, rfl, rfl, rfl, rfl, rfl, rfl, trivial⟩, fun _ _ => ⟨rfl, rfl⟩, by
    have e1 : mgS (stpF d 0) (fun _ => none) (fun _ => 0) = fun _ => none := by funext a; unfold mgS; rw [if_neg]; rintro ⟨_, h⟩; exact h rfl
    rw [e1]; exact hI⟩ ?_
  clear hI
  rintro ρ w ⟨k, GA, gc, Ax, Cx, hk, hH, hnil, hI⟩
  obtain ⟨σ, rfl⟩ := hH.open
  by_cases hkl : k < d.length
  ·have hS : Sts w (fun _ => True) (.slice DA d.length dc) d := Rd.of_own (hI.ok _ (gM_ (i := 5) rfl)).1 (fun _ _ _ => trivial)
   obtain ⟨b, o, hDA, y0, y1, y2⟩ := hS.at hkl
   subst hDA
   have hmem : sAt d k ∈ d := by unfold sAt; rw [List.getD_eq_getElem?_getD, gE_ hkl]; exact List.getElem_mem _
   obtain ⟨ht0, ht8⟩ := htx _ hmem
   obtain ⟨st, hst⟩ : ∃ st, d.getD k ⟨0, 0, 0⟩ = st := ⟨_, rfl⟩
   have hst' : sAt d k = st := hst
   rw [hst'] at ht0 ht8
   rw [hst] at y0 y1 y2
   obtain ⟨tx, htx'⟩ : ∃ tx : Nat, st.tx = (tx : Int) := ⟨st.tx.toNat, by omega⟩
   have hstp : stpF d (k + 1) = fun x => if x = tx then stpF d k tx ++ [k] else stpF d k x := by
    funext x
    rw [stpF_succ, hst', htx']
    by_cases hx : x = tx
    ·subst hx; rw [if_pos rfl, if_pos rfl]
    rw [if_neg hx, if_neg (by omega)]
   have hsl := stpF_len d k tx
   obtain ⟨sx, sk, sy⟩ := st
   dsimp only at htx' ht0 ht8 y0 y1 y2
   subst htx'
   refine Wq (Vu Z (Yu Z (Wk (Ws (Wb (Wq (V0 Z (Th 3 Z yy27 Z (Up Z y0 y1 y2 (Vz (.agg #[Y 0, Y 0, Y 0]) (#[Y 0, Y 0, Y 0]) hI Z ?_))))))))))
   rintro b10 w - - hI
   refine Vb Z (T2 3 (#[_, _, _]) (.agg _) hI Z ?_)
   intro w hI
   refine Wn (Wq (Va Z (V0 Z (T3 [(0, Y _)] [_] [Y 0] [0] hI Z yy41 (fun _ => by kernel_rfl) ?_))))
   rintro b37 w - - hI
   refine WL_app2 (z := Y 0) (by_ := 8) hI Z Z Z Z Z Z yy41 (by kernel_rfl) Z (by omega) (by rfl) hI.lit0 (by rfl) (by omega) (by omega) (by exact Nat.zero_le _) ?_
   rintro A38 c38 w hA38 hc38 hI
   have hI := hI.d0
   refine Vg Z (Wn ?_)
   replace hI := (hI.pull 2 rfl).many_out (i := tx) (by omega)
   replace hI : Inv NF w0 w [Row 0 3 1 (Ax tx) (stpF d k tx).length (Cx tx) (natV (stpF d k tx)), Many 8 (fun j => if j = tx then Ent.nil else stE (stpF d k) Ax Cx j), B b10 114 (stV ⟨(tx : Int), sk, sy⟩).toArray, Row 0 3 1 A38 (k + 1) c38 (natV (List.range k) ++ [.int .i64 (k : Int)]), B b8 186 #[.map (some wm)], MapE wm (mgS (stpF d k) Ax Cx), B b6 27 #[.slice (some ⟨b, o, none⟩) d.length dc], Row 0 114 3 (some ⟨b, o, none⟩) d.length dc (d.flatMap stV), B b5 41 #[.slice CA al.length cc], Row 0 3 1 CA al.length cc (natV al)] := hI
   refine Wd (by kernel_rfl) (Wi (T := [10]) hI.d0.drew ?_)
   intro Sx hY hXS
   have hI := hI.drew
   refine V9 0 (.map _) Z (fun W hW => (hY W hW).c3 Z) (Vf 1 0 Z (V9 2 (Y _) Z (fun W hW => (hY W hW).c1 Z) (V9 3 (.map _) Z (fun W hW => (hY W hW).c3 Z) (Vf 4 0 Z (V9 5 (Y _) Z (fun W hW => (hY W hW).c1 Z) (Wt 6 Z (fun W hW => have hI := hY W hW; (rLookSl (hI.ok _ (gM_ (i := 4) Z)).1 (mgS_get hnil tx) Z underlying186 yy3 (by kernel_rfl) Z Z)) (Vh 7 Z (Vq 8 Z (T3 [(0, Y _)] [_] [Y 0] [0] hI Z yy41 (fun _ => by kernel_rfl) ?_)))))))))
   rintro b47 w - - hI
   refine Wn ⟨hXS _ hI.d0.d0, (Vq 9 Z (WL_app1 (z := Y 0) (by_ := 8) hI Z Z Z Z Z Z yy41 (by kernel_rfl) Z (by omega) (by rfl) hI.lit0 (by rfl) (by omega) (by omega) (by exact Nat.zero_le _) ?_))⟩
   rintro A48 c48 w hA48 hc48 hI
   have hI := hI.d0
   refine Wn ⟨hXS _ hI.d0, (WT_A (by kernel_rfl) ?_)⟩
   clear hXS hY
   refine Tr 10 Z (WL_mapSet 5 (v := .slice A48 ((stpF d k tx).length + 1) c48) Z hI Z Z Z underlying186 yy3 Z Z Z ?_)
   intro w hI
   simp only [List.set_cons_succ, List.set_cons_zero, ← natV_snoc] at hI
   rw [mgS_set _ _ _ tx _ (stpF d k tx ++ [k]) A48 c48 (by simp) (by simp)] at hI
   replace hI := (hI.stset (tx := tx) (by omega) (by simp)).d1.sw0
   refine Wn (WA_end (by kernel_rfl) (Wr (Vl Z (V0 Z (Wn ?_)))))
   rw [← hstp, ← List.range_succ] at hI
   refine ⟨⟨k + 1, _, _, _, _, by omega, g7_, ?_, hI⟩, by show d.length - ((k + 1 : Nat) : Int).toNat < d.length - (k : Int).toNat; omega⟩
   intro x hx
   rw [hstp] at hx
   dsimp only at hx
   by_cases hxt : x = tx
   ·rw [if_pos hxt] at hx; simp at hx
   rw [if_neg hxt] at hx
   rw [if_neg hxt, if_neg hxt]
   exact hnil x hx
  obtain rfl : k = d.length := by omega
  exact Wq (Vr Z (Yg Z (WE ⟨GA, gc, Ax, Cx, g4_, hnil, hI⟩)))
 clear hI
 rintro ρ w ⟨GA, gc, Ax, Cx, hH, hnil, hI⟩
 obtain ⟨σ, rfl⟩ := hH.open
 obtain ⟨want, hwant⟩ : ∃ want, seeF d (List.range d.length) = want := ⟨_, rfl⟩
 rw [hwant] at hr
 refine Wq (V6 (.slice _ _ _) Z (hI.c4 Z) (Va Z (Vd [.slice _ _ _, .slice _ _ _] Z func117 Z ((see_any DA d.length dc d GA d.length gc (List.range d.length) (fun _ => True) (fun _ => True) _ (Rd.of_own (hI.ok _ (gM_ (i := 5) Z)).1 (fun _ _ _ => trivial)) (ints_row hI.g0 (by simp) (natV_map _)) hdl (fun x hx => List.mem_range.1 hx)).mono ?_))))
 rintro e w1 ⟨rfl, hp⟩
 rw [hwant]
 refine rV ?_
 have hI := hI.pure hp
 refine Vz (.agg (intC 68 fun _ => 0)) (intC 68 fun _ => 0) hI Z ?_
 rintro b11 w - - hI
 refine WL_stw0 (u := .agg (intC 68 want)) (vs := intC 68 want) (n := 68) hI Z Z Z Z Z Z (by kernel_rfl) (intC_size _ _) (intC_size _ _) (by simp [intC, Value.oneCell']) ?_
 intro w hI
 refine Wn (Wq (Vz .nilFunc #[.nilFunc] hI Z ?_))
 rintro b12 w - - hI
 refine Wn (Wq (Tw [] [_, _, _, _, _] Z (T2 1 #[_] (.func _ _ _) hI Z ?_)))
 intro w hI
 refine Wn ?_
 have hT : TryAt w b5 b6 b11 b12 b8 d al (stpF d d.length) want := by
  refine ⟨⟨CA, cc, hI.cell 8 Z Z, ints_row (hI.ok _ (gM_ (i := 9) Z)).1 (by simp) (natV_map _)⟩, ⟨DA, dc, hI.cell 6 Z Z, Rd.of_own (hI.ok _ (gM_ (i := 7) Z)).1 (fun _ _ _ => trivial)⟩, hI.g1, hI.c0 Z, ⟨wm, _, hI.cell 4 Z Z, (hI.ok _ (gM_ (i := 5) Z)).1, fun tx ht => ?_⟩⟩
  have ht8 : tx < 8 := by
   rw [← hal] at ht
   exact List.mem_range.1 (List.mem_filter.1 ht).1
  have hr := (hI.ok _ (gM_ (i := 3) rfl)).1.1 tx ht8
  exact ⟨_, _, mgS_get hnil tx, ints_row hr.1 (by simp) (natV_map _)⟩
 by_cases hl0 : al.length = 0
 ·rw [if_pos (List.eq_nil_of_length_eq_zero hl0)] at hr
  subst hr
  exact Ws (Wq (V6 (.slice _ _ _) Z (hI.c8 Z) (Vo Z yy41 Z (Vx Z (Yt Z (Wq (Vg Z (Vw Z (Wn (WR (r2_ 2 3 Z ⟨⟨none, 0, 0, Z, Z, ⟨none, 0, Z, by simp, by simp, by simp, by simp⟩⟩, hI.pu⟩)))))))))))
 have hne : al ≠ [] := fun e => hl0 (by rw [e]; rfl)
 rw [if_neg hne] at hr
 refine Ws (Wq (V6 (.slice _ _ _) Z (hI.c8 Z) (Vo Z yy41 Z (Vs Z (Yf Z (Wk (Ws (Wq (V6 (.func _ _ _) Z (hI.c0 Z) (Ue [_, _, _, _, _, _, _] [] [_, _, _, _, _] Z func118 Z ((try_any b5 b6 b11 b12 b8 d al (stpF d d.length) want hdl (by omega) (by omega) (fun tx _ => ⟨Nat.le_trans (stpF_len d _ tx) hdl, fun x hx => stpF_lt hx⟩) al.length [] [] none none 0 0 _ hT (by simp) ⟨none, 0, Z, by simp, by simp, by simp, by simp⟩ ⟨none, 0, rfl, by simp, by simp, by simp, by simp⟩ (by simp) (by simp)).mono ?_)))))))))))
 rintro e w1 ⟨⟨A5, m5, c5, rfl, hA5⟩, hp⟩
 refine rV ?_
 have hI := hI.pure hp
 refine Vg Z (Wn ?_)
 cases hq : tryF d al (stpF d d.length) want al.length [] [] with
 | none =>
  rw [hq] at hr hA5
  dsimp only at hr
  subst hr
  replace hA5 : A5 = none := hA5
  subst hA5
  exact Wq (Va Z (Wv Z (rSlNeqF Z yy41 Z) (Yf Z (Wk (Wq (T0 Z yy49 Z (Vg Z (Vt Z (Wn (WR (r2_ 2 3 Z ⟨Z, hI.pu⟩)))))))))))
 | some q =>
  rw [hq] at hr hA5
  dsimp only at hr
  subst hr
  obtain ⟨⟨p5, rfl⟩, hm5, hQ⟩ := hA5
  exact Wq (Va Z (Wv Z (rSlNeqT Z yy41 Z) (Yt Z (Wq (Va Z (Vg Z (Vw Z (Wn (WR (r2_ 2 3 Z ⟨⟨_, _, _, hm5, Z, hQ⟩, hI.pu⟩))))))))))
end Go.Proofs.YtnckdmogdehnoaaGreatDoor
