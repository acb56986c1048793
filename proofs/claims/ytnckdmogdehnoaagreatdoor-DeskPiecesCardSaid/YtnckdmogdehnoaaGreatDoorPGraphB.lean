/- Part of the proof that a desk answers in pieces. -/
import Derived.Test.YtnckdmogdehnoaaGreatDoorPA
import Derived.Test.YtnckdmogdehnoaaGreatDoorPSrch2
import Derived.Test.YtnckdmogdehnoaaGreatDoorPTxtLaw
import Derived.Test.YtnckdmogdehnoaaGreatDoorSxA
import Derived.Test.YtnckdmogdehnoaaGreatDoorPSxI
import Derived.Test.YtnckdmogdehnoaaGreatDoorProg
import Derived.Test.YtnckdmogdehnoaaGreatDoorPSq
import Derived.Test.YtnckdmogdehnoaaGreatDoorPReg
import Derived.Test.YtnckdmogdehnoaaGreatDoorPCycLaw
import Derived.Test.YtnckdmogdehnoaaGreatDoorPGlob
import Derived.Test.YtnckdmogdehnoaaGreatDoorPIntC
set_option maxHeartbeats 2000000
set_option linter.unusedVariables false
set_option linter.unusedSimpArgs false
namespace Go.Proofs.YtnckdmogdehnoaaGreatDoor
open Tryz
variable {out : List Nat} {l : List St} {xs : List Value} {b base best i k n v : Nat} {f : Nat → Nat → Bool} {w : World}
structure SeeS where
 ops : List Op8
 busy : Int → Option Nat
 lost : Int → Option Nat
 gone : List Bool
def updI (g : Int → Option Nat) (k : Int) (v : Option Nat) : Int → Option Nat := fun j => if j = k then v else g j
def newOp (e : Ev) (i : Nat) : Op8 := ⟨e.proc, e.key, e.kind, e.a, e.b, 0, i, -1⟩
def beginF (e : Ev) (i : Nat) (s : SeeS) : Option SeeS :=
 if s.busy e.proc ≠ none ∨ s.lost e.proc ≠ none then none else some ⟨s.ops ++ [newOp e i], updI s.busy e.proc (some s.ops.length), s.lost, s.gone ++ [false]⟩
def fitsOp (o : Op8) (e : Ev) : Prop := o.key = e.key ∧ o.kind = e.kind ∧ o.a = e.a ∧ o.b = e.b
instance (o : Op8) (e : Ev) : Decidable (fitsOp o e) := by unfold fitsOp; infer_instance
def endOp (o : Op8) (e : Ev) (i : Nat) : Op8 := { o with res := e.res, ret := i }
def endF (e : Ev) (i : Nat) (s : SeeS) : Option SeeS := match s.busy e.proc with
 | none => none
 | some n => if fitsOp (oAt s.ops n) e then some ⟨if e.ty = 2 then s.ops.set n (endOp (oAt s.ops n) e i) else s.ops, updI s.busy e.proc none, if e.ty = 4 then updI s.lost e.proc (some i) else s.lost, if e.ty = 3 then s.gone.set n true else s.gone⟩ else none
def stepE (e : Ev) (i : Nat) (s : SeeS) : Option SeeS := if evOkB e = true then (if e.ty = 1 then beginF e i s else endF e i s) else none
def runE : List Ev → Nat → SeeS → Option SeeS
 | [], _, s => some s
 | e :: r, i, s => (stepE e i s).bind (runE r (i + 1))
def initE : SeeS := ⟨[], fun _ => none, fun _ => none, []⟩
def keptF (s : SeeS) (k : Nat) : List Nat := (List.range k).filter fun n => !(s.gone.getD n false)
def outF (s : SeeS) : List Op8 := (keptF s s.ops.length).map (oAt s.ops)
def evF (l : List Ev) : Option (List Op8) := if l.length ≤ 120 then (runE l 0 initE).map outF else none
theorem keptF_succ (s : SeeS) (k : Nat) : keptF s (k + 1) = keptF s k ++ (if s.gone.getD k false = true then [] else [k]) := by
 unfold keptF
 rw [List.range_succ, List.filter_append]
 congr 1
 rw [List.filter_cons, List.filter_nil]
 cases s.gone.getD k false <;> rfl
theorem oAt_app_l {l r : List Op8} (h : k < l.length) : oAt (l ++ r) k = oAt l k := by
 unfold oAt
 rw [List.getD_eq_getElem?_getD, List.getD_eq_getElem?_getD, List.getElem?_append_left h]
theorem oAt_app_r {l : List Op8} {x : Op8} : oAt (l ++ [x]) l.length = x := by
 unfold oAt
 rw [List.getD_eq_getElem?_getD, List.getElem?_append_right (Nat.le_refl _), Nat.sub_self]; rfl
theorem oAt_setE {l : List Op8} {x : Op8} (hk : k < l.length) : oAt (l.set k x) i = if k = i then x else oAt l i := by
 unfold oAt
 rw [List.getD_eq_getElem?_getD, List.getD_eq_getElem?_getD, List.getElem?_set]
 by_cases h : k = i
 ·subst h; simp [hk]
 rw [if_neg h, if_neg h]
open Go.RowKit
def IsErr (v : Value) : Prop := ∃ u, v = .iface 49 (.int .i64 u)
theorem ein_any (n lo hi : Int) (w : World) : Cq 150 #[.int .i64 n, .int .i64 lo, .int .i64 hi] w fun e w' => e = .returned (.bool (inB n lo hi)) ∧ w = w' := by
 have hI := Inv.start (fun _ => False) w
 refine Vm func150 Z (Wq (Vc Z (Wn ?_)))
 by_cases h : lo ≤ n
 ·refine Wq (V0 Z (V0 Z (U1 Z (V7 Z (V0 Z (V0 Z (Wv Z (by exact rLeq rfl rfl rfl) (Vk Z (Vc Z (Wn (WR (r1_ 6 Z ⟨?_, Z⟩))))))))))))
  show Ending.returned (.bool (decide (n ≤ hi))) = _
  simp [inB, h]
 refine Wq (V0 Z (V0 Z (Uf Z (V7 Z (V5 Z (V5 Z (V5 Z (Vi Z (Vc Z (Wn (WR (r1_ 6 Z ⟨?_, Z⟩))))))))))))
 show Ending.returned (.bool false) = _
 simp [inB, h]
theorem told_any (proc key : Int) (A : Option Addr) (n c : Nat) (l : List Int) (D : Nat → Prop) (w0 : World) (h : Ints w0 D (.slice A n c) l) (hl : l.length = n) (hn : n ≤ 1000) :
  Cq 149 #[.int .i64 proc, .int .i64 key, .slice A n c] w0 fun e w' => e = .returned (.bool (toldB proc key l)) ∧ w0 = w' := by
 have hI := Inv.start (fun _ => False) w0
 refine Vm func149 Z (Wq (Vc Z (Wn (Ws (Wq (Va Z (Vo Z yy41 Z (V0 Z (Wn (Wb ?_))))))))))
 refine W_loop (fun ρ w => ∃ k : Nat, k ≤ n ∧ Has ρ [(11, Y k), (10, Y n), (9, .slice A n c), (0, Y proc), (1, Y key)] ∧ (∀ y ∈ l.take k, inB y (-1000000) 1000000 = true) ∧ w = w0) (fun ρ _ => n - cnt (ρ 11))
  ⟨0, by omega, ⟨rfl, rfl, rfl, rfl, rfl, trivial⟩, by simp, rfl⟩ ?_
 rintro ρ w ⟨k, hk, hH, hno, rfl⟩
 obtain ⟨σ, rfl⟩ := hH.open
 by_cases hkn : k < n
 ·obtain ⟨b, o, rfl, _, _, hc⟩ := h.get (k := k) (by omega)
  have hx : l[k]? = some l[k] := gE_ (by omega)
  refine Wq (Vu Z (Yu Z (Wk (Ws (Wb (Wq (Tz Z yy41 Z (V6 (Y _) Z (hI.oldp hc) (Vb Z (Wn (Wq (V0 Z (Vd [Y _, Y _, Y _] Z func150 Z ((ein_any _ _ _ _).mono ?_))))))))))))))
  rintro e w1 ⟨rfl, rfl⟩
  refine rV ?_
  cases hb : inB l[k] (-1000000) 1000000 with
  | true =>
   refine Tf Z (Yf Z (Wk (Wr (Vl Z (V0 Z (Wn ⟨⟨k + 1, by omega, g5_, fun y hy => ?_, rfl⟩, by show n - ((k + 1 : Nat) : Int).toNat < n - (k : Int).toNat; omega⟩))))))
   rw [List.take_succ_eq_append_getElem (by omega)] at hy
   rcases List.mem_append.1 hy with hy | hy
   ·exact hno y hy
   rw [List.mem_singleton.1 hy]; exact hb
  | false =>
   refine To Z (Yt Z (Wq (Vc Z (Wn (WR (r1_ 6 Z ⟨?_, Z⟩))))))
   have hf : (l.all fun n => inB n (-1000000) 1000000) = false := by
    rw [List.all_eq_false]
    exact ⟨l[k], List.getElem_mem _, by simp [hb]⟩
   show Ending.returned (.bool false) = _
   simp [toldB, hf]
 refine Wq (Vr Z (Yg Z (WE ?_)))
 have hall : (l.all fun n => inB n (-1000000) 1000000) = true := by
  rw [List.take_of_length_le (by omega)] at hno
  exact List.all_eq_true.2 hno
 have ht : toldB proc key l = (inB proc 0 7 && inB key 0 7) := by simp [toldB, hall]
 rw [ht]
 refine Wq (V0 Z (Vd [Y _, Y _, Y _] Z func150 Z ((ein_any _ _ _ _).mono ?_)))
 rintro e w1 ⟨rfl, rfl⟩
 refine rV ?_
 cases hb : inB proc 0 7 with
 | true =>
  refine V7 Z (V0 Z (Vd [Y _, Y _, Y _] Z func150 Z ((ein_any _ _ _ _).mono ?_)))
  rintro e w1 ⟨rfl, rfl⟩
  exact rV (Vk Z (Vc Z (Wn (WR (r1_ 6 Z ⟨Z, Z⟩)))))
 | false =>
  exact V7 Z (V5 Z (V5 Z (Vi Z (Vc Z (Wn (WR (r1_ 6 Z ⟨Z, Z⟩)))))))
theorem ints_lit {g T : Nat} {l : List Int} {cs : Array Value} (hb : Blk w g T cs) (h : cs.toList = l.map (Value.int .i64)) (hn : l.length = n) (hle : n ≤ 1000) : Ints w (fun k => k < w.heap.size) (.slice (some ⟨g, 0, none⟩) n n) l := by
 subst hn
 exact ⟨_, _, Z, Nat.le_refl _, by omega, by simp, fun _ => ⟨g, 0, rfl, hb.lt, fun j u hj => by rw [Nat.zero_add, hb.cell]; rw [← h] at hj; simpa using hj⟩⟩
def CheckPost (w : World) (e : Ev) (en : Ending) (w' : World) : Prop := Pure w w' ∧ ((evOkB e = true ∧ en = .returned .nilIface) ∨ (evOkB e = false ∧ ∃ x, IsErr x ∧ en = .returned x))
def errC (e : Ev) : Int := if toldB e.proc e.key [e.a, e.b, e.res] = true then 1 else 2
def CheckPostN (w : World) (e : Ev) (en : Ending) (w' : World) : Prop := Pure w w' ∧ ((evOkB e = true ∧ en = .returned .nilIface) ∨ (evOkB e = false ∧ en = .returned (.iface 49 (.int .i64 (errC e)))))
theorem checkN_any (e : Ev) (w0 : World) : Cq 101 #[.agg (evL e).toArray] w0 (CheckPostN w0 e) := by
 obtain ⟨p, ty, ky, kd, a, b, r⟩ := e
 have hI := Inv.start (fun _ => False) w0
 refine Vm func101 Z (Wq (Tq (.agg _) (#[_, _, _, _, _, _, _]) hI Z ?_))
 rintro b1 w - - hI
 refine Vw Z (Wn (Ws (Wb (Wq (V8 0 Z (Yc hI Z Z (V8 2 Z (Yc hI Z Z (V8 4 Z (Yc hI Z Z (V8 5 Z (Yc hI Z Z (V8 6 Z (Yc hI Z Z (T3 [(0, Y _), (1, Y _), (2, Y _)] [_, _, _] [Y 0, Y 0, Y 0] [0, 1, 2] hI Z yy41 (fun _ => by kernel_rfl) ?_)))))))))))))))
 rintro b14 w - - hI
 refine Vd [Y _, Y _, .slice _ _ _] Z func149 Z ((told_any p ky _ 3 3 [a, b, r] (fun k => k < w.heap.size) _ (ints_lit hI.g0 Z Z (by omega)) Z (by omega)).mono ?_)
 rintro en w1 ⟨rfl, rfl⟩
 refine rV ?_
 cases h1 : toldB p ky [a, b, r] with
 | false =>
  exact To Z (Vc Z (Yt Z (Wq (T0 Z yy49 Z (Vt Z (Wn (WR (r1_ 2 Z ⟨hI.pu, .inr ⟨by simp [evOkB, h1], by have he : errC ⟨p, ty, ky, kd, a, b, r⟩ = 2 := (by simp [errC, h1]); rw [he]; rfl⟩⟩))))))))
 | true =>
  refine Tf Z (Vc Z (Yf Z (Wx (fun ρ w => Has ρ [(18, .bool (!(inB ty 1 4 && inB kd 1 12 && !(!decide (r = 0) && !decide (ty = 2)))))] ∧ Inv NF w0 w []) ?_ ?_)))
  ·refine Wq (V8 1 Z (Yd hI Z Z (Vd [Y _, Y _, Y _] Z func150 Z ((ein_any _ _ _ _).mono ?_))))
   rintro en w1 ⟨rfl, rfl⟩
   refine rV ?_
   cases h2 : inB ty 1 4 with
   | false =>
    exact To Z (V7 Z (V5 Z (V5 Z (V5 Z (V5 Z (Vk Z (Vc Z (Yt Z (Wk ⟨g1_, hI.d0.d0⟩)))))))))
   | true =>
    refine Tf Z (V7 Z (V8 3 Z (Yd hI Z Z (Vd [Y _, Y _, Y _] Z func150 Z ((ein_any _ _ _ _).mono ?_)))))
    rintro en w1 ⟨rfl, rfl⟩
    refine rV ?_
    cases h3 : inB kd 1 12 with
    | false =>
     exact To Z (Vi Z (Vc Z (Yt Z (Wk ⟨g1_, hI.d0.d0⟩))))
    | true =>
     refine Tf Z (Vi Z (Vc Z (Yf Z ?_)))
     by_cases hr : r = 0
     ·refine Wr (V8 6 Z (Yd hI Z Z (Ty Z (V7 Z (V5 Z (V5 Z (V5 Z (Vi Z (Vc Z (Wn ⟨⟨?_, trivial⟩, hI.d0.d0⟩))))))))))
      show Value.bool false = _
      simp [hr]
     refine Wr (V8 6 Z (Yd hI Z Z (Tn Z (V7 Z (V8 1 Z (Yd hI Z Z (Wv Z (by exact rNeq rfl rfl rfl) (Vk Z (Vc Z (Wn ⟨⟨?_, trivial⟩, hI.d0.d0⟩))))))))))
     show Value.bool (!decide (ty = 2)) = _
     simp [hr]
  clear hI
  rintro ρ w ⟨hH, hI⟩
  obtain ⟨σ, rfl⟩ := hH.open
  have hall : evOkB ⟨p, ty, ky, kd, a, b, r⟩ = (inB ty 1 4 && inB kd 1 12 && !(!decide (r = 0) && !decide (ty = 2))) := by unfold evOkB; simp only [h1, Bool.true_and]
  cases hz : (inB ty 1 4 && inB kd 1 12 && !(!decide (r = 0) && !decide (ty = 2))) with
  | false =>
   exact Wc true Z (Wq (T0 Z yy49 Z (Vt Z (Wn (WR (r1_ 2 Z ⟨hI.pu, .inr ⟨by rw [hall, hz], by have he : errC ⟨p, ty, ky, kd, a, b, r⟩ = 1 := (by simp [errC, h1]); rw [he]; rfl⟩⟩))))))
  | true =>
   exact Wc false Z (Wk (Wq (Vw Z (Wn (WR (r1_ 2 Z ⟨hI.pu, .inl ⟨by rw [hall, hz], Z⟩⟩))))))
theorem check_any (e : Ev) (w0 : World) : Cq 101 #[.agg (evL e).toArray] w0 (CheckPost w0 e) :=
 (checkN_any e w0).mono fun en w' h => ⟨h.1, h.2.imp id fun q => ⟨q.1, _, ⟨_, rfl⟩, q.2⟩⟩
end Go.Proofs.YtnckdmogdehnoaaGreatDoor
namespace Go.Proofs.YtnckdmogdehnoaaGreatDoor
open Tryz
variable {out : List Nat} {l : List St} {xs : List Value} {b base best i k n v : Nat} {f : Nat → Nat → Bool} {w : World}
def goneAt (s : SeeS) (n : Nat) : Bool := s.gone.getD n false
structure SeeOk (l : List Ev) (i : Nat) (s : SeeS) : Prop where
 glen : s.gone.length = s.ops.length
 called : ∀ n, n < s.ops.length → ∃ c : Nat, c < i ∧ (oAt s.ops n).call = c ∧ ∃ e, l[c]? = some e ∧ e.ty = 1 ∧ evOkB e = true ∧ e.proc = (oAt s.ops n).proc ∧ e.key = (oAt s.ops n).key ∧ e.kind = (oAt s.ops n).kind ∧ e.a = (oAt s.ops n).a ∧ e.b = (oAt s.ops n).b
 rise : ∀ m n, m < n → n < s.ops.length → (oAt s.ops m).call < (oAt s.ops n).call
 ret : ∀ n, n < s.ops.length → ((oAt s.ops n).ret = -1 ∧ (oAt s.ops n).res = 0) ∨ ∃ r : Nat, r < i ∧ (oAt s.ops n).ret = r ∧ (oAt s.ops n).call < r ∧ goneAt s n = false ∧ ∃ e, l[r]? = some e ∧ e.ty = 2 ∧ evOkB e = true ∧ e.res = (oAt s.ops n).res
 once : ∀ m n, m < n → n < s.ops.length → (oAt s.ops n).ret ≠ -1 → (oAt s.ops m).ret ≠ (oAt s.ops n).ret
 busy : ∀ p n, s.busy p = some n → n < s.ops.length ∧ (oAt s.ops n).proc = p ∧ (oAt s.ops n).ret = -1 ∧ goneAt s n = false ∧ s.lost p = none
 free : ∀ n, n < s.ops.length → (oAt s.ops n).ret = -1 → goneAt s n = false → s.busy (oAt s.ops n).proc = some n ∨ s.lost (oAt s.ops n).proc ≠ none
 order : ∀ m n, m < n → n < s.ops.length → (oAt s.ops m).proc = (oAt s.ops n).proc → goneAt s m = false → 0 ≤ (oAt s.ops m).ret ∧ (oAt s.ops m).ret < (oAt s.ops n).call
theorem seeOk_init (l : List Ev) : SeeOk l 0 initE := by
 refine ⟨Z, ?_, ?_, ?_, ?_, ?_, ?_, ?_⟩
 ·intro n hn; exact absurd hn (Nat.not_lt_zero n)
 ·intro m n _ hn; exact absurd hn (Nat.not_lt_zero n)
 ·intro n hn; exact absurd hn (Nat.not_lt_zero n)
 ·intro m n _ hn; exact absurd hn (Nat.not_lt_zero n)
 ·intro p n hb; cases hb
 ·intro n hn; exact absurd hn (Nat.not_lt_zero n)
 intro m n _ hn; exact absurd hn (Nat.not_lt_zero n)
theorem goneAt_app {s : SeeS} (h : s.gone.length = s.ops.length) : (s.gone ++ [false]).getD n false = goneAt s n := by
 unfold goneAt
 rw [List.getD_eq_getElem?_getD, List.getD_eq_getElem?_getD]
 rcases Nat.lt_trichotomy n s.gone.length with h1 | h1 | h1
 ·rw [List.getElem?_append_left h1]
 ·subst h1
  rw [List.getElem?_append_right (Nat.le_refl _), List.getElem?_eq_none (Nat.le_refl _), Nat.sub_self]; rfl
 rw [List.getElem?_eq_none (by simp; omega), List.getElem?_eq_none (by omega)]
theorem goneAt_set {s : SeeS} {m : Nat} (h : n < s.gone.length) : (s.gone.set n true).getD m false = if n = m then true else goneAt s m := by
 unfold goneAt
 rw [List.getD_eq_getElem?_getD, List.getD_eq_getElem?_getD, List.getElem?_set]
 by_cases h1 : n = m
 ·subst h1; simp [h]
 rw [if_neg h1, if_neg h1]
theorem seeOk_begin {l : List Ev} {s s' : SeeS} {e : Ev} (h : SeeOk l i s) (he : l[i]? = some e) (hok : evOkB e = true) (hty : e.ty = 1) (hs : beginF e i s = some s') : SeeOk l (i + 1) s' := by
 unfold beginF at hs
 split at hs
 ·cases hs
 rename_i hno
 have hb : s.busy e.proc = none := by
  cases hx : s.busy e.proc with
  | none => rfl
  | some n => exact absurd (.inl (by rw [hx]; simp)) hno
 have hl : s.lost e.proc = none := by
  cases hx : s.lost e.proc with
  | none => rfl
  | some n => exact absurd (.inr (by rw [hx]; simp)) hno
 injection hs with hs
 subst hs
 have hlen : (s.ops ++ [newOp e i]).length = s.ops.length + 1 := by simp
 have old : ∀ {n}, n < s.ops.length → oAt (s.ops ++ [newOp e i]) n = oAt s.ops n := fun hn => oAt_app_l hn
 have new : oAt (s.ops ++ [newOp e i]) s.ops.length = newOp e i := oAt_app_r
 have hgs : ∀ n, goneAt ⟨s.ops ++ [newOp e i], updI s.busy e.proc (some s.ops.length), s.lost, s.gone ++ [false]⟩ n = goneAt s n := fun n => goneAt_app h.glen
 have gnew : goneAt s s.ops.length = false := by
  unfold goneAt
  rw [List.getD_eq_getElem?_getD, List.getElem?_eq_none (by rw [h.glen]; exact Nat.le_refl _)]; rfl
 have two : ∀ {n}, n < s.ops.length + 1 → n < s.ops.length ∨ n = s.ops.length := fun hn => by omega
 refine ⟨by simp [h.glen], ?_, ?_, ?_, ?_, ?_, ?_, ?_⟩
 ·intro n hn
  rcases two (by simpa using hn) with h1 | h1
  ·obtain ⟨c, h2, h3⟩ := h.called n h1
   simp only [old h1]
   exact ⟨c, by omega, h3⟩
  subst h1
  simp only [new]
  exact ⟨i, by omega, rfl, e, he, hty, hok, rfl, rfl, rfl, rfl, rfl⟩
 ·intro m n hmn hn
  rcases two (by simpa using hn) with h1 | h1
  ·simp only [old h1, old (show m < s.ops.length by omega)]; exact h.rise m n hmn h1
  subst h1
  simp only [new, old hmn]
  obtain ⟨c, h2, h3, _⟩ := h.called m hmn
  rw [h3]; show (c : Int) < (i : Int); omega
 ·intro n hn
  rw [hgs]
  rcases two (by simpa using hn) with h1 | h1
  ·simp only [old h1]
   rcases h.ret n h1 with h2 | ⟨r, h2, h3⟩
   ·exact .inl h2
   exact .inr ⟨r, by omega, h3⟩
  subst h1
  simp only [new]
  exact .inl ⟨Z, Z⟩
 ·intro m n hmn hn hr
  rcases two (by simpa using hn) with h1 | h1
  ·simp only [old h1, old (show m < s.ops.length by omega)] at hr ⊢; exact h.once m n hmn h1 hr
  subst h1
  simp only [new] at hr
  exact absurd Z hr
 ·intro p n hp
  rw [hgs]
  simp only [updI] at hp
  by_cases hpe : p = e.proc
  ·rw [if_pos hpe] at hp
   injection hp with hp
   subst hp hpe
   simp only [new]
   exact ⟨by simp, Z, Z, gnew, hl⟩
  rw [if_neg hpe] at hp
  obtain ⟨h1, h2⟩ := h.busy p n hp
  simp only [old h1]
  exact ⟨by simp; omega, h2⟩
 ·intro n hn hr hg
  rw [hgs] at hg
  simp only [updI]
  rcases two (by simpa using hn) with h1 | h1
  ·simp only [old h1] at hr ⊢
   rcases h.free n h1 hr hg with h2 | h2
   ·by_cases hpe : (oAt s.ops n).proc = e.proc
    ·rw [hpe, hb] at h2; cases h2
    rw [if_neg hpe]; exact .inl h2
   exact .inr h2
  subst h1
  simp only [new]
  exact .inl (if_pos Z)
 intro m n hmn hn hp hg
 rw [hgs] at hg
 rcases two (by simpa using hn) with h1 | h1
 ·simp only [old h1, old (show m < s.ops.length by omega)] at hp ⊢; exact h.order m n hmn h1 hp hg
 subst h1
 simp only [new, old hmn] at hp ⊢
 have hp : (oAt s.ops m).proc = e.proc := hp
 rcases h.ret m hmn with ⟨h2, _⟩ | ⟨r, h2, h3, _⟩
 ·rcases h.free m hmn h2 hg with h4 | h4
  ·rw [hp, hb] at h4; cases h4
  rw [hp, hl] at h4; exact absurd rfl h4
 rw [h3]
 refine ⟨by omega, ?_⟩
 show (r : Int) < (i : Int)
 omega
theorem seeOk_end {l : List Ev} {s s' : SeeS} {e : Ev} (h : SeeOk l i s) (he : l[i]? = some e) (hok : evOkB e = true) (hty : e.ty ≠ 1) (hs : endF e i s = some s') : SeeOk l (i + 1) s' := by
 unfold endF at hs
 split at hs
 ·cases hs
 rename_i n hb
 split at hs
 rotate_left
 ·cases hs
 rename_i hfit
 injection hs with hs
 subst hs
 obtain ⟨hn, hnp, hnr, hng, hnl⟩ := h.busy e.proc n hb
 have hng' : n < s.gone.length := by rw [h.glen]; exact hn
 obtain ⟨O, hO⟩ : ∃ O, O = (if e.ty = 2 then s.ops.set n (endOp (oAt s.ops n) e i) else s.ops) := ⟨_, rfl⟩
 obtain ⟨G, hG⟩ : ∃ G, G = (if e.ty = 3 then s.gone.set n true else s.gone) := ⟨_, rfl⟩
 obtain ⟨Lo, hLo⟩ : ∃ Lo, Lo = (if e.ty = 4 then updI s.lost e.proc (some i) else s.lost) := ⟨_, rfl⟩
 rw [← hO, ← hG, ← hLo]
 have olen : O.length = s.ops.length := by rw [hO]; split <;> simp
 have glen : G.length = s.ops.length := by rw [hG]; split <;> simp [h.glen]
 have oat : ∀ m, oAt O m = if e.ty = 2 ∧ n = m then endOp (oAt s.ops n) e i else oAt s.ops m := by
  intro m
  rw [hO]
  by_cases h2 : e.ty = 2
  ·rw [if_pos h2, oAt_setE hn]
   by_cases hnm : n = m
   ·rw [if_pos hnm, if_pos ⟨h2, hnm⟩]
   rw [if_neg hnm, if_neg (fun hh => hnm hh.2)]
  rw [if_neg h2, if_neg (fun hh => h2 hh.1)]
 have gat : ∀ m, G.getD m false = if e.ty = 3 ∧ n = m then true else goneAt s m := by
  intro m
  rw [hG]
  by_cases h2 : e.ty = 3
  ·rw [if_pos h2, goneAt_set hng']
   by_cases hnm : n = m
   ·rw [if_pos hnm, if_pos ⟨h2, hnm⟩]
   rw [if_neg hnm, if_neg (fun hh => hnm hh.2)]
  rw [if_neg h2, if_neg (fun hh => h2 hh.1)]; rfl
 have gone_of : ∀ m, G.getD m false = false → goneAt s m = false := by
  intro m hm
  rw [gat] at hm
  split at hm
  ·cases hm
  exact hm
 have stay : ∀ m, (oAt O m).proc = (oAt s.ops m).proc ∧ (oAt O m).key = (oAt s.ops m).key ∧ (oAt O m).kind = (oAt s.ops m).kind ∧ (oAt O m).a = (oAt s.ops m).a ∧ (oAt O m).b = (oAt s.ops m).b ∧ (oAt O m).call = (oAt s.ops m).call := by
  intro m
  rw [oat]
  split
  ·rename_i hh; obtain ⟨_, rfl⟩ := hh; exact ⟨rfl, rfl, rfl, rfl, rfl, rfl⟩
  exact ⟨Z, Z, Z, Z, Z, Z⟩
 have retO : ∀ m, (oAt O m).ret = if e.ty = 2 ∧ n = m then (i : Int) else (oAt s.ops m).ret := by
  intro m
  rw [oat]
  split <;> rfl
 have resO : ∀ m, (oAt O m).res = if e.ty = 2 ∧ n = m then e.res else (oAt s.ops m).res := by
  intro m
  rw [oat]
  split <;> rfl
 have retlt : ∀ m, m < s.ops.length → (oAt s.ops m).ret < i := by
  intro m hm
  rcases h.ret m hm with ⟨h2, _⟩ | ⟨r, h2, h3, _⟩
  ·rw [h2]; omega
  rw [h3]; omega
 have busyN : ∀ p m, s.busy p = some m → p ≠ e.proc → m ≠ n := fun p m hp hpe hmn => by
  subst hmn
  exact hpe ((h.busy p m hp).2.1.symm.trans hnp)
 refine ⟨by rw [glen, olen], ?_, ?_, ?_, ?_, ?_, ?_, ?_⟩
 ·intro m hm
  simp only at hm ⊢
  rw [olen] at hm
  obtain ⟨s1, s2, s3, s4, s5, s6⟩ := stay m
  obtain ⟨c, h2, h3⟩ := h.called m hm
  rw [s1, s2, s3, s4, s5, s6]
  exact ⟨c, by omega, h3⟩
 ·intro m k hmk hk
  simp only at hk ⊢
  rw [olen] at hk
  rw [(stay m).2.2.2.2.2, (stay k).2.2.2.2.2]
  exact h.rise m k hmk hk
 ·intro m hm
  simp only at hm
  rw [olen] at hm
  have hgm : goneAt ⟨O, updI s.busy e.proc none, Lo, G⟩ m = G.getD m false := rfl
  simp only [retO, resO, (stay m).2.2.2.2.2, hgm, gat]
  by_cases h2 : e.ty = 2 ∧ n = m
  ·simp only [if_pos h2]
   obtain ⟨h2, rfl⟩ := h2
   obtain ⟨c, h5, h6, _⟩ := h.called n hn
   refine .inr ⟨i, by omega, rfl, by rw [h6]; omega, ?_, e, he, h2, hok, rfl⟩
   rw [if_neg (fun hh => by rw [h2] at hh; exact absurd hh.1 (by decide))]
   exact hng
  simp only [if_neg h2]
  rcases h.ret m hm with h3 | ⟨r, h3, h4, h5, h6, h7⟩
  ·exact .inl h3
  refine .inr ⟨r, by omega, h4, h5, ?_, h7⟩
  rw [if_neg (fun hh => by obtain ⟨_, rfl⟩ := hh; rw [hnr] at h4; omega)]
  exact h6
 ·intro m k hmk hk
  simp only at hk
  rw [olen] at hk
  simp only [retO]
  intro hr
  have hm : m < s.ops.length := by omega
  have r1 := retlt m hm
  have r2 := retlt k hk
  by_cases hk2 : e.ty = 2 ∧ n = k
  ·rw [if_pos hk2, if_neg (fun hh => by have := hh.2; have := hk2.2; omega)]
   omega
  rw [if_neg hk2] at hr ⊢
  by_cases hm2 : e.ty = 2 ∧ n = m
  ·rw [if_pos hm2]; omega
  rw [if_neg hm2]; exact h.once m k hmk hk hr
 ·intro p m hp
  simp only [updI] at hp
  by_cases hpe : p = e.proc
  ·rw [if_pos hpe] at hp; cases hp
  rw [if_neg hpe] at hp
  obtain ⟨h1, h2, h3, h4, h5⟩ := h.busy p m hp
  have hmn := busyN p m hp hpe
  have hgm : goneAt ⟨O, updI s.busy e.proc none, Lo, G⟩ m = G.getD m false := rfl
  simp only [hgm, gat, retO, (stay m).1]
  rw [if_neg (fun hh => hmn hh.2.symm), if_neg (fun hh => hmn hh.2.symm)]
  refine ⟨by show m < O.length; rw [olen]; exact h1, h2, h3, h4, ?_⟩
  show Lo p = none
  rw [hLo]
  split
  ·unfold updI; rw [if_neg hpe]; exact h5
  exact h5
 ·intro m hm hr hg
  simp only at hm hr ⊢
  rw [olen] at hm
  have hgm : goneAt ⟨O, updI s.busy e.proc none, Lo, G⟩ m = G.getD m false := rfl
  rw [hgm] at hg
  rw [(stay m).1]
  have hgm2 := gone_of m hg
  by_cases hmn : n = m
  ·subst hmn
   have h2 : e.ty ≠ 2 := fun hh => by rw [retO, if_pos ⟨hh, rfl⟩] at hr; omega
   have h3 : e.ty ≠ 3 := fun hh => by rw [gat, if_pos ⟨hh, rfl⟩] at hg; cases hg
   have h4 : e.ty = 4 := by
    unfold evOkB inB at hok
    simp at hok
    omega
   refine .inr ?_
   show Lo (oAt s.ops n).proc ≠ none
   rw [hLo, if_pos h4, hnp]
   unfold updI
   rw [if_pos rfl]
   simp
  rw [retO, if_neg (fun hh => hmn hh.2)] at hr
  rcases h.free m hm hr hgm2 with h5 | h5
  ·by_cases hpe : (oAt s.ops m).proc = e.proc
   ·rw [hpe, hb] at h5
    injection h5 with h5
    exact absurd h5 hmn
   left
   unfold updI
   rw [if_neg hpe]
   exact h5
  right
  show Lo _ ≠ none
  rw [hLo]
  split
  ·unfold updI
   split
   ·simp
   exact h5
  exact h5
 intro m k hmk hk hp hg
 simp only at hk hp ⊢
 rw [olen] at hk
 have hgm : goneAt ⟨O, updI s.busy e.proc none, Lo, G⟩ m = G.getD m false := rfl
 rw [hgm] at hg
 rw [(stay m).1, (stay k).1] at hp
 have h1 := h.order m k hmk hk hp (gone_of m hg)
 rw [retO, (stay k).2.2.2.2.2]
 rw [if_neg (fun hh => by obtain ⟨_, rfl⟩ := hh; rw [hnr] at h1; omega)]
 exact h1
theorem seeOk_step {l : List Ev} {s s' : SeeS} {e : Ev} (h : SeeOk l i s) (hi : l[i]? = some e) (hs : stepE e i s = some s') : SeeOk l (i + 1) s' := by
 unfold stepE at hs
 split at hs
 ·rename_i hok
  split at hs
  ·rename_i hty; exact seeOk_begin h hi hok hty hs
  rename_i hty; exact seeOk_end h hi hok hty hs
 cases hs
theorem runE_ok {l : List Ev} : ∀ (r r' : List Ev) (i : Nat) (s s' : SeeS), l.drop i = r ++ r' → SeeOk l i s → runE r i s = some s' → SeeOk l (i + r.length) s'
 | [], r', i, s, s', _, h, hr => by
  simp only [runE, Option.some.injEq] at hr
  subst hr
  exact h
 | e :: r, r', i, s, s', hd, h, hr => by
  have hi : l[i]? = some e := by
   have := congrArg (fun x => x[0]?) hd
   simpa using this
  have hd' : l.drop (i + 1) = r ++ r' := by
   have := congrArg List.tail hd
   simpa using this
  rw [runE] at hr
  cases hs : stepE e i s with
  | none => rw [hs] at hr; cases hr
  | some s1 =>
   rw [hs] at hr
   have hr : runE r (i + 1) s1 = some s' := hr
   have h1 : SeeOk l (i + 1) s1 := seeOk_step h hi hs
   have := runE_ok r r' (i + 1) s1 s' hd' h1 hr
   rw [List.length_cons, show i + (r.length + 1) = i + 1 + r.length by omega]
   exact this
theorem evF_some {l : List Ev} {out : List Op8} (h : evF l = some out) : ∃ s, l.length ≤ 120 ∧ runE l 0 initE = some s ∧ SeeOk l l.length s ∧ out = outF s := by
 unfold evF at h
 split at h
 rotate_left
 ·cases h
 rename_i h120
 cases hr : runE l 0 initE with
 | none => rw [hr] at h; cases h
 | some s =>
  rw [hr] at h
  injection h with h
  have := runE_ok (l := l) l [] 0 initE s (by simp) (seeOk_init l) hr
  rw [Nat.zero_add] at this
  exact ⟨s, h120, Z, this, h.symm⟩
open Go.RowKit
theorem ginfoBool : (prog.info? 4).map (fun i => (i.zero, i.size, i.bytes)) = some (some (.bool false), 1, 1) := by kernel_rfl
theorem ginfoInt : (prog.info? 3).map (fun i => (i.zero, i.size, i.bytes)) = some (some (.int .i64 0), 1, 8) := by kernel_rfl
theorem gcheck_any (A : Option Addr) (c n : Nat) (f : Nat → Nat → Bool) (D : Nat → Prop) (w : World) (h : SqG w D (.slice A n c) n f) (hn : n ≤ 40) :
  Cq 142 #[.slice A n c] w fun e w' => e = .returned .nilIface ∧ w = w' := by
 have HS := Lib.hid h
 clear h
 have h1 : ¬ (40 : Int) < (n : Int) := by omega
 go_enter func142, Tryz.ntmps142
 go_wp2
 go_loop [4, 11] (fun _ i => ∃ k : Nat, k ≤ n ∧ i = .int .i64 k) (fun _ i => n - (intOf i).toNat)
 case atStart => exact ⟨0, by omega, rfl⟩
 case round =>
  obtain ⟨k, hk, rfl⟩ := hrel
  by_cases hlt : k < n
  ·have hlt' : (k : Int) < (n : Int) := by omega
   obtain ⟨b, o, rfl, hb, hr⟩ := HS.out.get (by omega)
   obtain ⟨rb, ro, c', q1, _, _, _, _⟩ := hr k hlt
   clear hr
   go_wp2
   go_round
   case rel => first | exact ⟨k + 1, by omega, by go_num⟩ | ((repeat apply Exists.intro); exact ⟨⟨k + 1, by omega, by go_num⟩, rfl⟩)
   case measure => simp [intOf]; omega
  have : ¬ (k : Int) < (n : Int) := by omega
  go_wp2
  go_ret
  exact ⟨Z, Z⟩
def qualB (n : Nat) (f : Nat → Nat → Bool) (out : List Nat) (v : Nat) : Bool := !out.contains v && (List.range n).all fun u => out.contains u || !f u v
theorem nextO_some (hv : v < n) (hq : qualB n f out v = true) (hl : ∀ x, x < v → qualB n f out x = false) : nextO n f out = some v := by
 unfold nextO
 rw [List.find?_eq_some_iff_getElem]
 refine ⟨hq, v, by simpa using hv, by simp, fun j hj => ?_⟩
 have := hl j hj
 simp only [List.getElem_range]
 show (!qualB n f out j) = true
 rw [this]
 rfl
theorem nextO_nothing (hl : ∀ x, x < n → qualB n f out x = false) : nextO n f out = none := by
 unfold nextO
 rw [List.find?_eq_none]
 intro x hx
 have := hl x (List.mem_range.1 hx)
 show ¬ qualB n f out x = true
 rw [this]
 exact Bool.false_ne_true
def doneC (n : Nat) (out : List Nat) : Array Value := ((List.range n).map fun v => Value.bool (out.contains v)).toArray
theorem doneC_get (out : List Nat) (hv : v < n) : (doneC n out)[v]? = some (.bool (out.contains v)) := by simp [doneC, hv]
theorem doneC_set (out : List Nat) (hv : v < n) : (doneC n out).setIfInBounds v (.bool true) = doneC n (out ++ [v]) := by
 apply Array.ext
 ·simp [doneC]
 intro k h1 h2
 simp only [doneC, Array.getElem_setIfInBounds, List.getElem_toArray, List.getElem_map, List.getElem_range]
 by_cases hk : v = k
 ·subst hk; simp
 have : ¬ k = v := fun e => hk e.symm
 simp [hk, this]
theorem doneC_nil (n : Nat) : rep (.bool false) n = doneC n [] := by
 apply Array.ext
 ·simp [rep, doneC]
 intro k h1 h2
 simp [rep, doneC]
theorem own_slice {e : TypeId} {size : Nat} {v : Value} (h : w.ownsRow base e size v n xs) : ∃ A c, v = .slice A n c := by
 rcases h.2 with ⟨rfl, rfl⟩ | ⟨g, cap, cur, rfl, _⟩
 ·exact ⟨_, _, Z⟩
 exact ⟨_, _, Z⟩
theorem own_base {base' : Nat} {e : TypeId} {size : Nat} {v : Value} (h : w.ownsRow base e size v n xs) (hb : base' ≤ base) : w.ownsRow base' e size v n xs := by
 refine ⟨h.1, ?_⟩
 rcases h.2 with h | ⟨g, cap, cur, h1, h2, h3⟩
 ·exact .inl h
 exact .inr ⟨g, cap, cur, h1, by omega, h3⟩
def RelO (w : World) (n : Nat) (f : Nat → Nat → Bool) (k : Nat) (out : List Nat) (ov : Value) (wr : World) : Prop :=
 orderTo n f k = some out ∧ Blk wr w.heap.size 4 (doneC n out) ∧ wr.ownsRow (w.heap.size + 1) 3 1 ov k (natV out) ∧ Pure w wr
def NoneTo (n : Nat) (f : Nat → Nat → Bool) (out : List Nat) (v : Nat) : Prop := ∀ x, x < v → qualB n f out x = false
def AllTo (f : Nat → Nat → Bool) (out : List Nat) (v u : Nat) : Prop := ∀ x, x < u → (out.contains x || !f x v) = true
theorem NoneTo.done (h : NoneTo n f out v) (hc : out.contains v = true) : NoneTo n f out (v + 1) := fun x hx => by
 by_cases hxv : x = v
 ·subst hxv; unfold qualB; rw [hc]; rfl
 exact h x (by omega)
theorem NoneTo.led {u : Nat} (h : NoneTo n f out v) (hu : u < n) (hc : out.contains u = false) (hf : f u v = true) : NoneTo n f out (v + 1) := fun x hx => by
 by_cases hxv : x = v
 ·subst hxv
  have : ((List.range n).all fun u => out.contains u || !f u x) = false := by
   rw [List.all_eq_false]
   exact ⟨u, List.mem_range.2 hu, by rw [hc, hf]; simp⟩
  unfold qualB
  rw [this, Bool.and_false]
 exact h x (by omega)
theorem AllTo.next {u : Nat} (h : AllTo f out v u) (hu : (out.contains u || !f u v) = true) : AllTo f out v (u + 1) := fun x hx => by
 by_cases hxu : x = u
 ·subst hxu; exact hu
 exact h x (by omega)
theorem AllTo.qual (h : AllTo f out v n) (hc : out.contains v = false) : qualB n f out v = true := by
 unfold qualB
 rw [hc]
 simp only [Bool.not_false, Bool.true_and, List.all_eq_true, List.mem_range]
 exact h
theorem orderTo_none (h : orderTo n f k = none) : ∀ m, k ≤ m → orderTo n f m = none := by
 intro m
 induction m with
 | zero => intro hk; have : k = 0 := by omega
           subst this; exact h
 | succ m ih =>
  intro hk
  by_cases hkm : k = m + 1
  ·subst hkm; exact h
  simp only [orderTo, ih (by omega)]
theorem relO_next {wr w1 : World} {g cap : Nat} {ov : Value} (hv : v < n) (ho : orderTo n f k = some out) (hB : Blk wr w.heap.size 4 (doneC n out))
  (hW : wr.ownsRow (w.heap.size + 1) 3 1 ov k (natV out)) (hP : Pure w wr) (hnx : nextO n f out = some v)
  (o1 : w1.ownsRow (w.heap.size + 1) 3 1 (.slice (some ⟨g, 0, none⟩) (k + 1) cap) (k + 1) (natV out ++ [.int .i64 (v : Nat)]))
  (g1 : ((wr.setCell ⟨w.heap.size, v, none⟩ (.bool true)).alloc (.cells #[.int .i64 (v : Nat)] 3)).grownBy w1 ov.ownBlock) :
  RelO w n f (k + 1) (out ++ [v]) (.slice (some ⟨g, 0, none⟩) (k + 1) cap) w1 := by
 have hk0 : some w.heap.size ≠ ov.ownBlock := fun e => by have := (hW.lt _ e.symm).1; omega
 refine ⟨by simp only [orderTo, ho, hnx], ?_, by simpa [natV] using o1, ?_⟩
 ·rw [← doneC_set out hv]
  exact ((hB.set_ v _).alloc _).grown g1 hk0
 have := (((hP.chg (fun i => w.heap.size ≤ i)).setCell (p := ⟨w.heap.size, v, none⟩) (.inl (Nat.le_refl _)) (.bool true)).alloc (.cells #[.int .i64 (v : Nat)] 3)).grown g1 (fun i hi => by have := (hW.lt i hi).1; right; omega)
 exact this.below (Nat.le_refl _)
def numC (n : Nat) (out : Nat → Nat) : Array Value := ((List.range n).map fun v => Value.int .i64 ((out v : Nat) : Int)).toArray
theorem numC_get (out : Nat → Nat) (hv : v < n) : (numC n out)[v]? = some (.int .i64 ((out v : Nat) : Int)) := by simp [numC, hv]
theorem numC_set (out : Nat → Nat) (u k : Nat) : (numC n out).setIfInBounds u (.int .i64 (k : Int)) = numC n (fun x => if x = u then k else out x) := by
 apply Array.ext'
 simp only [numC, Array.toList_setIfInBounds]
 refine List.ext_getElem (by simp) (fun i h1 h2 => ?_)
 simp only [List.getElem_set, List.getElem_map, List.getElem_range]
 by_cases h : u = i
 ·subst h; simp
 rw [if_neg h, if_neg (Ne.symm h)]
theorem numC_zero (n : Nat) : rep (.int .i64 0) n = numC n (fun _ => 0) := by
 apply Array.ext'
 simp [rep, numC, List.map_const']
abbrev RParts (n first bF bG bO ob bL : Nat) (A : Option Addr) (c base : Nat) (AL : Option Addr) (cL : Nat) (s : RdS) (H : List Ent) : List Ent :=
 B bL 41 #[.slice AL s.2.length cL] :: Row base 3 1 AL s.2.length cL (natV s.2) :: B ob 3 (numC n s.1) :: B bF 3 #[.int .i64 (first : Int)] :: B bG 157 #[.slice A n c] :: B bO 41 #[.slice (some ⟨ob, 0, none⟩) n n] :: H
theorem reach_any (A : Option Addr) (n c first v k bF bG bO ob bL base : Nat) (AL : Option Addr) (cL : Nat) (f : Nat → Nat → Bool) (s : RdS) (D : Nat → Prop) (H : List Ent) (wb w0 : World)
  (hG : SqG wb D (.slice A n c) n f) (hn : n ≤ 40) (hf : first ≤ n) (hv : v < n) (hk : k ≤ 100) (hR : RdI n f first s) (hok : RdOk f first s v k) (hb : base ≤ wb.heap.size)
  (hI : Inv NF wb w0 (RParts n first bF bG bO ob bL A c base AL cL s H)) :
  Cq 173 #[.int .i64 (v : Int), .int .i64 (k : Int), .pointer (some ⟨bF, 0, none⟩), .pointer (some ⟨bG, 0, none⟩), .pointer (some ⟨bO, 0, none⟩), .pointer (some ⟨bL, 0, none⟩)] w0
   fun en w' => en = .returned (.tuple #[]) ∧ ∃ AL' cL', Inv NF wb w' (RParts n first bF bG bO ob bL A c base AL' cL' (rdF n f first v k s) H) := by
 refine Vm func173 Z (Wq (V6 (Y _) Z (hI.c3 Z) (Vb Z (Wn (Wb ?_)))))
 refine W_loop (fun ρ w => ∃ (j : Nat) (AL : Option Addr) (cL : Nat), j ≤ n - first ∧ Has ρ [(8, Y ((first + j : Nat) : Int)), (0, Y (v : Int)), (1, Y (k : Int)), (2, .pointer (some ⟨bF, 0, none⟩)), (3, .pointer (some ⟨bG, 0, none⟩)), (4, .pointer (some ⟨bO, 0, none⟩)), (5, .pointer (some ⟨bL, 0, none⟩))] ∧ Inv NF wb w (RParts n first bF bG bO ob bL A c base AL cL (rdTo f first v k s j) H)) (fun ρ _ => n - cnt (ρ 8))
  ⟨0, AL, cL, by omega, ⟨rfl, rfl, rfl, rfl, rfl, rfl, rfl, trivial⟩, hI⟩ ?_
 clear hI
 rintro ρ w ⟨j, AL, cL, hj, hH, hI⟩
 obtain ⟨σ, rfl⟩ := hH.open
 have hsz : wb.heap.size ≤ w.heap.size := hI.chg.size
 by_cases hlt : first + j < n
 ·obtain ⟨gb, go, rfl, _, hrow⟩ := hG.get (by omega)
  obtain ⟨rb, ro, c', q1, q2, q3, _, q4⟩ := hrow (first + j) hlt
  have q5 := q4 v hv
  have q6 := numC_get (rdTo f first v k s j).1 hlt
  obtain ⟨i1, i2, _, _, _⟩ := rdTo_inv hR hok j hj
  have hl := i1.len
  refine Ws (Wq (V0 Z (V6 (.slice _ _ _) Z (hI.c4 Z) (Vo Z yy157 Z (Vu Z (Yt Z (Wk (Ws (Wb ?_)))))))))
  by_cases hd : f (first + j) v = true ∧ (rdTo f first v k s j).1 (first + j) = 0
  ·have hs : rdTo f first v k s (j + 1) = (fun x => if x = first + j then k else (rdTo f first v k s j).1 x, (rdTo f first v k s j).2 ++ [first + j]) := by
    show rdStep f v k _ _ = _
    unfold rdStep
    rw [if_pos hd]
   have h0 := hd.2
   rw [hd.1] at q5
   refine Wq (V6 (.slice _ _ _) Z (hI.c4 Z) (V0 Z (Tz Z yy157 Z (V6 (.slice _ _ _) Z (hI.oldp q1) (V0 Z (Tz Z yy91 Z (V6 (.bool _) Z (hI.oldp q5) (V7 Z (V6 (.slice _ _ _) Z (hI.c5 Z) (V0 Z (T6 Z yy41 Z (V6 (Y _) Z (hI.c2 q6) (Vx Z (Vk Z (Yt Z (Wq (V6 (.slice _ _ _) Z (hI.c5 Z) (V0 Z (V0 Z (T6 Z yy41 Z (WL_st2 (u := Y _) (j := first + j) hI Z Z Z Z Z Z (by kernel_rfl) Z (by simp [Nat.blt, numC]; omega) Z ?_)))))))))))))))))))))
   rw [numC_set]
   intro w hI
   refine Wn ?_
   have hsz : wb.heap.size ≤ w.heap.size := hI.chg.size
   refine Wr (V6 (.slice _ _ _) Z (hI.c0 Z) (V0 Z (T3 [(0, Y _)] [_] [Y 0] [0] hI Z yy41 (fun _ => by kernel_rfl) ?_)))
   rintro b36 w - - hI
   have hsz : wb.heap.size ≤ w.heap.size := hI.chg.size
   refine WL_app2 (z := Y 0) (by_ := 8) (news := [Y ((first + j : Nat) : Int)]) hI Z Z Z Z Z Z yy41 (by kernel_rfl) Z (by omega) Z (fun i u hi => by match i, hi with | 0, hi => cases hi; exact hI.c0 rfl) rfl (by omega) (by omega) (by omega) ?_
   rintro A' c' w hc1 hc2 hI
   refine Ui 1 #[_] (.slice _ _ _) hI Z ?_
   intro w hI
   refine Wn ?_
   have hI := hI.d0
   refine Wr (V0 Z (Vl Z (Vb Z (Wn ⟨⟨j + 1, A', c', by omega, g7_, ?_⟩, by show n - ((first + j + 1 : Nat) : Int).toNat < n - ((first + j : Nat) : Int).toNat; omega⟩))))
   rw [hs]
   have e1 : ((rdTo f first v k s j).2 ++ [first + j]).length = (rdTo f first v k s j).2.length + 1 := by simp
   have e2 : natV ((rdTo f first v k s j).2 ++ [first + j]) = natV (rdTo f first v k s j).2 ++ [.int .i64 ((first + j : Nat) : Int)] := by simp [natV]
   show Inv _ _ _ (B bL 41 #[.slice A' ((rdTo f first v k s j).2 ++ [first + j]).length c'] :: Row base 3 1 A' ((rdTo f first v k s j).2 ++ [first + j]).length c' (natV ((rdTo f first v k s j).2 ++ [first + j])) :: _)
   rw [e1, e2]
   exact hI
  have hs : rdTo f first v k s (j + 1) = rdTo f first v k s j := by
   show rdStep f v k _ _ = _
   unfold rdStep
   rw [if_neg hd]
  cases hfv : f (first + j) v with
  | false =>
   rw [hfv] at q5
   exact Wq (V6 (.slice _ _ _) Z (hI.c4 Z) (V0 Z (Tz Z yy157 Z (V6 (.slice _ _ _) Z (hI.oldp q1) (V0 Z (Tz Z yy91 Z (V6 (.bool _) Z (hI.oldp q5) (V7 Z (V5 Z (V5 Z (V5 Z (V5 Z (V5 Z (Vi Z (Yf Z (Wk (Wr (V0 Z (Vl Z (Vb Z (Wn ⟨⟨j + 1, AL, cL, by omega, g7_, by rw [hs]; exact hI⟩, by show n - ((first + j + 1 : Nat) : Int).toNat < n - ((first + j : Nat) : Int).toNat; omega⟩)))))))))))))))))))))
  | true =>
   have h0 : ¬ (rdTo f first v k s j).1 (first + j) = 0 := fun h => hd ⟨hfv, h⟩
   rw [hfv] at q5
   exact Wq (V6 (.slice _ _ _) Z (hI.c4 Z) (V0 Z (Tz Z yy157 Z (V6 (.slice _ _ _) Z (hI.oldp q1) (V0 Z (Tz Z yy91 Z (V6 (.bool _) Z (hI.oldp q5) (V7 Z (V6 (.slice _ _ _) Z (hI.c5 Z) (V0 Z (T6 Z yy41 Z (V6 (Y _) Z (hI.c2 q6) (Vs Z (Vk Z (Yf Z (Wk (Wr (V0 Z (Vl Z (Vb Z (Wn ⟨⟨j + 1, AL, cL, by omega, g7_, by rw [hs]; exact hI⟩, by show n - ((first + j + 1 : Nat) : Int).toNat < n - ((first + j : Nat) : Int).toNat; omega⟩)))))))))))))))))))))
 have hje : j = n - first := by omega
 subst hje
 exact Ws (Wq (V0 Z (V6 (.slice _ _ _) Z (hI.c4 Z) (Vo Z yy157 Z (Vr Z (Yf Z (WE (ret0 (.inl Z) Z ⟨Z, AL, cL, hI⟩))))))))
theorem Inv.sw4 {S : Nat → Prop} {w0 : World} {H : List Ent} {a b c d e f : Ent} (h : Inv S w0 w (a :: b :: c :: d :: e :: f :: H)) : Inv S w0 w (a :: b :: c :: d :: f :: e :: H) := h.perm (.cons _ (.cons _ (.cons _ (.cons _ (.swap ..)))))
theorem row_cell {e c o : Nat} {u : Value} (h : w.ownsRow base e 1 (.slice (some ⟨b, o, none⟩) n c) n xs) (hi : xs[i]? = some u) : w.cell? ⟨b, o + i, none⟩ = some u := by
 have hlt := (gS_ hi).1
 have hx : xs.length = n * 1 := h.1
 obtain ⟨b', o', h1, _, _, h2⟩ := (Rd.of_own (D := fun _ => True) h (fun _ _ _ => trivial)).get hi (by omega)
 injection h1 with h1
 injection h1 with h1 h3
 subst h1 h3
 exact h2
theorem row_addr {e c : Nat} {A : Option Addr} (h : w.ownsRow base e 1 (.slice A n c) n xs) (hn : 0 < n) : ∃ b o, A = some ⟨b, o, none⟩ := by
 have hx : xs.length = n * 1 := h.1
 obtain ⟨b', o', h1, _⟩ := (Rd.of_own (D := fun _ => True) h (fun _ _ _ => trivial)).get (gE_ (show 0 < xs.length by omega)) (by omega)
 exact ⟨b', o', h1⟩
theorem roads_any (A : Option Addr) (n c first : Nat) (f : Nat → Nat → Bool) (D : Nat → Prop) (w0 : World) (hG : SqG w0 D (.slice A n c) n f) (hn : n ≤ 40) (hf : first < n) :
  Cq 143 #[.slice A n c, .int .i64 (first : Int)] w0 fun en w' => ∃ ob, en = .returned (.slice (some ⟨ob, 0, none⟩) n n) ∧ Pure w0 w' ∧ (B ob 3 (numC n (roadsF n f first))).ok w' ∧ w0.heap.size ≤ ob := by
 have hI := Inv.start (fun _ => False) w0
 refine Vm func143 Z (Wq (Tq (.slice _ _ _) #[_] hI Z ?_))
 rintro b2 w - - hI
 refine Tq (Y _) #[_] hI Z ?_
 rintro b3 w - - hI
 refine Vg Z (Wn (Wq (V6 (.slice _ _ _) Z (hI.c1 Z) (Vo Z yy157 Z (WL_mk (by_ := 8) (z := Y 0) hI Z Z Z Z Z Z yy41 (by kernel_rfl) Z (by omega) (by omega) ?_)))))
 rintro b11 w - - hI
 refine Vz (.slice none 0 0) (#[.slice none 0 0]) hI Z ?_
 rintro b5 w - - hI
 refine T2 1 #[_] (.slice _ _ _) hI Z ?_
 intro w hI
 refine Wn (Wq (T3 [] [] [] [] hI Z yy41 (fun _ => by kernel_rfl) ?_))
 rintro b12 w - - hI
 refine Vz (.slice none 0 0) (#[.slice none 0 0]) hI Z ?_
 rintro b6 w - - hI
 refine T2 1 #[_] (.slice _ _ _) hI Z ?_
 intro w hI
 refine Wn ?_
 replace hI : Inv NF w0 w [B b6 41 #[.slice (some ⟨b12, 0, none⟩) 0 0], B b12 3 #[], B b5 41 #[.slice (some ⟨b11, 0, none⟩) n n], B b11 3 (rep (.int .i64 0) n), B b3 3 #[.int .i64 (first : Int)], B b2 157 #[.slice A n c]] := hI
 have hb12 : w0.heap.size ≤ b12 := (hI.own _ (gM_ (i := 1) rfl) b12 rfl).resolve_left (fun h => h)
 have hob : w0.heap.size ≤ b11 := (hI.own _ (gM_ (i := 3) rfl) b11 rfl).resolve_left (fun h => h)
 have hI := hI.u1 (e' := Row w0.heap.size 3 1 (some ⟨b12, 0, none⟩) 0 0 []) (Chg.refl _ _) (Row.of_blk (n := 0) hI.g1 hb12 rfl (by omega)) (fun k hk => .inl (by have : some b12 = some k := hk; injection this with this; exact this.symm))
 have hI := hI.sw2.sw3.sw4
 rw [numC_zero] at hI
 refine Wq (Tw [] [_, _, _, _] Z (Wv Z (by exact rAsgnF rfl rfl) (Wn ?_)))
 have hp0 : RdI n f first ((fun _ => 0, []) : RdS) := RdI.init n f first
 refine Wq (Ua Z (V6 (Y _) Z (hI.c3 Z) (Ue [Y (first : Int), Y ((1 : Nat) : Int), .pointer _, .pointer _, .pointer _, .pointer _] [] [_, _, _, _] Z func173 Z ((reach_any A n c first first 1 b3 b2 b5 b11 b6 w0.heap.size (some ⟨b12, 0, none⟩) 0 f (fun _ => 0, []) D [] w0 _ hG hn (by omega) hf (by omega) hp0 (.inl ⟨Z, Z⟩) (Nat.le_refl _) hI).mono ?_))))
 clear hI
 rintro e w ⟨rfl, AL, cL, hI⟩
 refine rV (Wn (Ws (Wq (Vb Z (Wn (Wb ?_))))))
 refine W_loop (fun ρ w => ∃ (i : Nat) (AL : Option Addr) (cL : Nat), i ≤ (roadsTo n f first i).2.length ∧ Has ρ [(8, Y (i : Int)), (7, .func (.func 173) #[] #[.pointer (some ⟨b3, 0, none⟩), .pointer (some ⟨b2, 0, none⟩), .pointer (some ⟨b5, 0, none⟩), .pointer (some ⟨b6, 0, none⟩)]), (5, .pointer (some ⟨b5, 0, none⟩)), (6, .pointer (some ⟨b6, 0, none⟩))] ∧ Inv NF w0 w (RParts n first b3 b2 b5 b11 b6 A c w0.heap.size AL cL (roadsTo n f first i) [])) (fun ρ _ => n - cnt (ρ 8))
  ⟨0, AL, cL, by omega, ⟨rfl, rfl, rfl, rfl, trivial⟩, hI⟩ ?_
 clear hI
 rintro ρ w ⟨i, AL, cL, hi, hH, hI⟩
 obtain ⟨σ, rfl⟩ := hH.open
 have hR := (roadsTo_inv (n := n) (f := f) (first := first) (by omega) i).1
 have hl := hR.len
 by_cases hlt : i < (roadsTo n f first i).2.length
 ·obtain ⟨v, hv⟩ : ∃ v, (roadsTo n f first i).2[i]? = some v := ⟨_, gE_ hlt⟩
  have hvr := hR.rng v (gM_ hv)
  have hs : roadsTo n f first (i + 1) = rdF n f first v ((roadsTo n f first i).1 v + 1) (roadsTo n f first i) := by rw [roadsTo, hv]
  obtain ⟨lb, lo, rfl⟩ := row_addr hI.g1 (by omega)
  have e1 : (natV (roadsTo n f first i).2)[i]? = some (.int .i64 ((v : Nat) : Int)) := by simp [natV, hv]
  have e2 := numC_get (roadsTo n f first i).1 hvr.2
  have hle := hR.le v
  refine Ws (Wq (V0 Z (V6 (.slice _ _ _) Z (hI.c0 Z) (Vo Z yy41 Z (Vu Z (Yt Z (Wk (Ws (Wb (Yj [13] hI fun Sx hY hXS hI => Wt 0 Z (fun W hW => have hI := hY W hW; (by exact rMoveF rfl rfl)) (V9 1 (.slice _ _ _) Z (fun W hW => (hY W hW).c0 Z) (Vh 2 Z (Uo 3 Z yy41 Z (V9 4 (Y _) Z (fun W hW => have hI := hY W hW; row_cell hI.g1 e1) (V9 5 (.slice _ _ _) Z (fun W hW => (hY W hW).c5 Z) (V9 6 (.slice _ _ _) Z (fun W hW => (hY W hW).c0 Z) (Vh 7 Z (Uo 8 Z yy41 Z (V9 9 (Y _) Z (fun W hW => have hI := hY W hW; row_cell hI.g1 e1) (Te 10 Z yy41 Z (V9 11 (Y _) Z (fun W hW => (hY W hW).c2 e2) (Wt 12 Z (fun W hW => have hI := hY W hW; (by exact rInc rfl rfl rfl (by omega))) (WT_A (by kernel_rfl) ?_)))))))))))))))))))))))
  clear hXS hY
  refine Tr 13 Z (Ue [Y (v : Int), Y (((roadsTo n f first i).1 v + 1 : Nat) : Int), .pointer _, .pointer _, .pointer _, .pointer _] [] [_, _, _, _] Z func173 Z ((reach_any A n c first v ((roadsTo n f first i).1 v + 1) b3 b2 b5 b11 b6 w0.heap.size _ cL f (roadsTo n f first i) D [] w0 _ hG hn (by omega) hvr.2 (by omega) hR (.inr ⟨gM_ hv, Z⟩) (Nat.le_refl _) hI).mono ?_))
  clear hI
  rintro e w ⟨rfl, AL', cL', hI⟩
  refine rV (Wn (WA_end (by kernel_rfl) ?_))
  rw [← hs] at hI
  refine Wr (V0 Z (Vl Z (Vb Z (Wn ⟨⟨i + 1, AL', cL', ?_, g4_, hI⟩, by show n - ((i + 1 : Nat) : Int).toNat < n - (i : Int).toNat; omega⟩))))
  rw [hs]
  have := (rdF_inv (n := n) (f := f) (first := first) (by omega) hR (.inr ⟨gM_ hv, rfl⟩)).2.2.1.length_le
  omega
 have hie : (roadsTo n f first i).2.length = i := by omega
 have hend := roads_end (n := n) (f := f) (first := first) (by omega) hie
 refine Ws (Wq (V0 Z (V6 (.slice _ _ _) Z (hI.c0 Z) (Vo Z yy41 Z (Vr Z (Yf Z (WE (Wq (V6 (.slice _ _ _) Z (hI.c5 Z) (Vg Z (Wn (WR (r1_ 4 Z ⟨b11, Z, hI.pu, ?_, hob⟩)))))))))))))
 have := hI.ok _ (gM_ (i := 2) rfl)
 rw [hend] at this
 exact this
def bestTo (n : Nat) (f : Nat → Nat → Bool) : Nat → Option (Nat × Nat)
 | 0 => none
 | v + 1 => match bestTo n f v with
  | none => if 0 < roadsF n f v v then some (v, roadsF n f v v) else none
  | some (b, l) => if 0 < roadsF n f v v ∧ roadsF n f v v < l then some (v, roadsF n f v v) else some (b, l)
def nextC (n : Nat) (f : Nat → Nat → Bool) (best least : Nat) (out : List Nat) : Option Nat :=
 (List.range n).find? fun v => decide (best ≤ v) && (f (out.getLastD 0) v && decide (roadsF n f best v + out.length = least))
def cycTo (n : Nat) (f : Nat → Nat → Bool) (best least : Nat) : Nat → List Nat
 | 0 => [best]
 | k + 1 => match nextC n f best least (cycTo n f best least k) with
  | some v => cycTo n f best least k ++ [v]
  | none => cycTo n f best least k
def cycF (n : Nat) (f : Nat → Nat → Bool) : Option (List Nat) := (bestTo n f n).map fun p => cycTo n f p.1 p.2 (p.2 - 1)
theorem bestTo_some {n : Nat} {f : Nat → Nat → Bool} : ∀ {k b l : Nat}, bestTo n f k = some (b, l) → b < k ∧ l = roadsF n f b b ∧ 0 < l
 | 0, b, l, h => by simp [bestTo] at h
 | k + 1, b, l, h => by
  rw [bestTo] at h
  cases hb : bestTo n f k with
  | none =>
   simp only [hb] at h
   split at h
   ·injection h with h; injection h with h1 h2; subst h1 h2; exact ⟨by omega, rfl, by assumption⟩
   cases h
  | some p =>
   obtain ⟨b', l'⟩ := p
   simp only [hb] at h
   have ih := bestTo_some hb
   split at h
   ·rename_i hc; injection h with h; injection h with h1 h2; subst h1 h2; exact ⟨by omega, rfl, hc.1⟩
   injection h with h; injection h with h1 h2; subst h1 h2; exact ⟨by omega, ih.2.1, ih.2.2⟩
theorem bestTo_none {n : Nat} {f : Nat → Nat → Bool} : ∀ {k : Nat}, bestTo n f k = none → ∀ v, v < k → roadsF n f v v = 0
 | 0, _, v, hv => by omega
 | k + 1, h, v, hv => by
  rw [bestTo] at h
  cases hb : bestTo n f k with
  | none =>
   simp only [hb] at h
   split at h
   ·cases h
   rename_i hc
   rcases Nat.lt_or_ge v k with hlt | hge
   ·exact bestTo_none hb v hlt
   have : v = k := by omega
   subst this; omega
  | some p =>
   obtain ⟨b', l'⟩ := p
   simp only [hb] at h
   split at h <;> cases h
structure CycI (n : Nat) (f : Nat → Nat → Bool) (best least : Nat) (out : List Nat) : Prop where
 ne : out ≠ []
 rng : ∀ v ∈ out, best ≤ v ∧ v < n
 head : out[0]? = some best
 edge : ∀ (i a b : Nat), out[i]? = some a → out[i + 1]? = some b → f a b = true
 left : ∀ (i a : Nat), out[i]? = some a → roadsF n f best a + i = least
theorem CycI.last {least : Nat} (h : CycI n f best least out) : out[out.length - 1]? = some (out.getLastD 0) := by
 have : 0 < out.length := List.length_pos_iff.2 h.ne
 rw [List.getLastD_eq_getLast?, List.getLast?_eq_getElem?, gE_ (by omega)]
 rfl
theorem CycI.next {least : Nat} (h : CycI n f best least out) (hb : best < n) (hl : out.length < least) : ∃ v, best ≤ v ∧ v < n ∧ f (out.getLastD 0) v = true ∧ roadsF n f best v + out.length = least := by
 have hp : 0 < out.length := List.length_pos_iff.2 h.ne
 have h1 := h.left _ _ h.last
 obtain ⟨_, _, h2 | ⟨v, q1, q2, q3, q4, q5⟩⟩ := roads_src (n := n) (f := f) (Nat.le_of_lt hb) (u := out.getLastD 0) (by omega)
 ·omega
 exact ⟨v, q1, q2, q3, by omega⟩
theorem CycI.step {least : Nat} (h : CycI n f best least out) (h1 : best ≤ v) (h2 : v < n) (h3 : f (out.getLastD 0) v = true) (h4 : roadsF n f best v + out.length = least) : CycI n f best least (out ++ [v]) := by
 have hp : 0 < out.length := List.length_pos_iff.2 h.ne
 refine ⟨by simp, fun x hx => ?_, ?_, fun i a b ha hb => ?_, fun i a ha => ?_⟩
 ·rcases List.mem_append.1 hx with hx | hx
  ·exact h.rng x hx
  rw [List.mem_singleton.1 hx]; exact ⟨h1, h2⟩
 ·rw [List.getElem?_append_left hp]; exact h.head
 ·have hlt := (gS_ hb).1
  simp at hlt
  rcases Nat.lt_or_ge (i + 1) out.length with hi | hi
  ·rw [List.getElem?_append_left hi] at hb
   rw [List.getElem?_append_left (by omega)] at ha
   exact h.edge i a b ha hb
  have hie : i = out.length - 1 := by omega
  subst hie
  rw [List.getElem?_append_left (by omega), h.last] at ha
  rw [show out.length - 1 + 1 = out.length by omega, List.getElem?_append_right (Nat.le_refl _), Nat.sub_self] at hb
  simp at ha hb
  subst hb
  rw [← ha]
  simpa using h3
 have hlt := (gS_ ha).1
 simp at hlt
 rcases Nat.lt_or_ge i out.length with hi | hi
 ·rw [List.getElem?_append_left hi] at ha
  exact h.left i a ha
 have hie : i = out.length := by omega
 subst hie
 rw [List.getElem?_append_right (Nat.le_refl _), Nat.sub_self] at ha
 simp at ha
 subst ha
 exact h4
def CycL (n : Nat) (f : Nat → Nat → Bool) (l : List Nat) : Prop := 0 < l.length ∧ (∀ v ∈ l, v < n) ∧ ∀ (i a b : Nat), l[i]? = some a → l[(i + 1) % l.length]? = some b → f a b = true
theorem CycI.end {least : Nat} (h : CycI n f best least out) (hb : best < n) (hl : out.length = least) : CycL n f out := by
 have hp : 0 < out.length := List.length_pos_iff.2 h.ne
 refine ⟨hp, fun v hv => (h.rng v hv).2, fun i a b ha hb' => ?_⟩
 have hlt := (gS_ ha).1
 rcases Nat.lt_or_ge (i + 1) out.length with hi | hi
 ·rw [Nat.mod_eq_of_lt hi] at hb'
  exact h.edge i a b ha hb'
 have hie : i + 1 = out.length := by omega
 rw [hie, Nat.mod_self, h.head] at hb'
 injection hb' with hb'
 subst hb'
 have h1 := h.left i a ha
 obtain ⟨_, _, h2 | ⟨v, q1, q2, q3, q4, q5⟩⟩ := roads_src (n := n) (f := f) (Nat.le_of_lt hb) (u := a) (by omega)
 ·exact h2.2
 omega
theorem cycTo_next {least : Nat} (h1 : best ≤ v) (h2 : v < n) (h3 : f (out.getLastD 0) v = true) (h4 : roadsF n f best v + out.length = least) (hl : ∀ x, best ≤ x → x < v → ¬ (f (out.getLastD 0) x = true ∧ roadsF n f best x + out.length = least)) : nextC n f best least out = some v := by
 unfold nextC
 rw [List.find?_range_eq_some]
 refine ⟨by simp only [h1, h3, h4, decide_true, Bool.and_self], List.mem_range.2 h2, fun x hx => ?_⟩
 by_cases hb : best ≤ x
 ·have := hl x hb hx
  simp only [Bool.not_eq_true', Bool.and_eq_false_iff, decide_eq_false_iff_not]
  by_cases hf : f (out.getLastD 0) x = true
  ·exact .inr (.inr (fun h => this ⟨hf, h⟩))
  exact .inr (.inl (by simpa using hf))
 simp [hb]
theorem rSubM {P : Program} {ρ : Env} {o : Oper} {x y : Operand} {t t' : TypeId} {a : Nat} {q : Int} (ho : o.op = .binOp .sub t x y t') (hx : ev ρ x = .int .i64 (a : Int)) (hy : ev ρ y = .int .i64 q) (hq : q = (b : Int)) (h : b ≤ a) (ha : a ≤ 9223372036854775807) : Runs P ρ o w (.int .i64 ((a - b : Nat) : Int)) := by
 subst hq
 have := rSub (P := P) (w := w) ho hx hy (by omega)
 rwa [← Int.ofNat_sub h] at this
def slen : Value → Nat
 | .slice _ n _ => n
 | _ => 0
def CyclePost (w : World) (n : Nat) (f : Nat → Nat → Bool) (e : Ending) (w' : World) : Prop :=
 (∃ l A c, cycF n f = some l ∧ CycL n f l ∧ Cyc n f ∧ e = .returned (.tuple #[.slice A l.length c, .nilIface]) ∧ w'.ownsRow w.heap.size 3 1 (.slice A l.length c) l.length (natV l) ∧ Pure w w') ∨
 (cycF n f = none ∧ ¬ Cyc n f ∧ e = .returned (.tuple #[.slice none 0 0, .iface 49 (.int .i64 8)]) ∧ Pure w w')
theorem no_cyc (h : bestTo n f n = none) : ¬ Cyc n f := fun hc => by
 obtain ⟨v, hv, hp⟩ := cyc_roads hc
 have := bestTo_none h v hv
 omega
def bI : Option (Nat × Nat) → Int
 | none => -1
 | some p => (p.1 : Nat)
def lI : Option (Nat × Nat) → Int
 | none => 0
 | some p => (p.2 : Nat)
theorem cycle_any (A : Option Addr) (n c : Nat) (f : Nat → Nat → Bool) (D : Nat → Prop) (w0 : World) (hG : SqG w0 D (.slice A n c) n f) (hn : n ≤ 40) :
  Cq 95 #[.slice A n c] w0 (CyclePost w0 n f) := by
 have hI := Inv.start (fun _ => False) w0
 refine Vm func95 Z ?_
 refine Wq (Vg Z (Vw Z (Wn (Ws (Wq (Va Z (Vd [.slice _ _ _] Z func142 Z ?_)))))))
 refine (gcheck_any A c n f D _ hG hn).mono ?_
 rintro e w1 ⟨rfl, rfl⟩
 refine rV ?_
 refine Vw Z (Wn (Wq (Td Z (Tv Z yy37 Z (Wn (Wc false Z (Wk (Wq (Vb Z (Vb Z (Wn ?_)))))))))))
 refine Wx (fun ρ w => Has ρ [(0, .slice A n c), (5, Y (bI (bestTo n f n))), (6, Y (lI (bestTo n f n)))] ∧ Inv NF w0 w []) ?_ ?_
 ·refine Wq (Va Z (Vo Z yy157 Z (V0 Z (Wn (Wb ?_)))))
  refine W_loop (fun ρ w => ∃ k : Nat, k ≤ n ∧ Has ρ [(20, Y (k : Int)), (19, Y (n : Int)), (0, .slice A n c), (5, Y (bI (bestTo n f k))), (6, Y (lI (bestTo n f k)))] ∧ Inv NF w0 w []) (fun ρ _ => n - cnt (ρ 20))
   ⟨0, by omega, ⟨rfl, rfl, rfl, rfl, rfl, trivial⟩, hI⟩ ?_
  clear hI
  rintro ρ w ⟨k, hk, hH, hI⟩
  obtain ⟨σ, rfl⟩ := hH.open
  by_cases hkn : k < n
  ·refine Wq (Vu Z (Wn (Ws (Wc true Z (Wk (Ws (Wb (Wq (V0 Z (Vb Z (Wn ?_)))))))))))
   refine Wq (Va Z (V0 Z (Vd [.slice _ _ _, Y _] Z func143 Z ?_)))
   refine (roads_any A n c k f D _ (hG.pure hI.pu) hn hkn).mono ?_
   rintro e w1 ⟨ob, rfl, hp, hok, hge⟩
   refine rV ?_
   have hI := hI.fresh hp hok (fun k hk => by have : k = ob := hk; omega)
   refine V0 Z (T6 Z yy41 Z (V6 (Y _) Z (hI.c0 (numC_get (roadsF n f k) hkn)) (Vb Z (Wn ?_))))
   have hI := hI.d0
   have hle := roads_le (n := n) (f := f) (first := k) (by omega) k
   have hb1 : bestTo n f (k + 1) = (match bestTo n f k with
    | none => if 0 < roadsF n f k k then some (k, roadsF n f k k) else none
    | some (b, l) => if 0 < roadsF n f k k ∧ roadsF n f k k < l then some (k, roadsF n f k k) else some (b, l)) := rfl
   cases hbt : bestTo n f k with
   | none =>
    rw [hbt] at hb1
    simp only at hb1
    by_cases hr : 0 < roadsF n f k k
    ·rw [if_pos hr] at hb1
     refine Wq (V0 Z (U6 Z (V7 Z (V0 Z ?_))))
     refine Wv Z (by exact rLss rfl rfl rfl) ?_
     refine V7 Z (V5 Z (V5 Z (V5 Z (Vk Z (Vk Z (Wn (Wc true Z (Wr (V0 Z (V0 Z (Vb Z (Vb Z (Wn ?_)))))))))))))
     refine Wr (Vl Z (V0 Z (Wn ?_)))
     exact ⟨⟨k + 1, by omega, ⟨rfl, rfl, rfl, by rw [hb1]; rfl, by rw [hb1]; rfl, trivial⟩, hI⟩, by show n - ((k + 1 : Nat) : Int).toNat < n - (k : Int).toNat; omega⟩
    rw [if_neg hr] at hb1
    refine Wq (V0 Z (U3 Z (V7 Z (V5 Z (V5 Z (V5 Z (V5 Z (V5 Z (V5 Z (V5 Z (Vi Z (Wn ?_))))))))))))
    refine Wc false Z (Wk (Wr (Vl Z (V0 Z (Wn ?_)))))
    exact ⟨⟨k + 1, by omega, ⟨rfl, rfl, rfl, by rw [hb1]; rfl, by rw [hb1]; rfl, trivial⟩, hI⟩, by show n - ((k + 1 : Nat) : Int).toNat < n - (k : Int).toNat; omega⟩
   | some p =>
    obtain ⟨b, l⟩ := p
    rw [hbt] at hb1
    simp only at hb1
    have hbk := bestTo_some hbt
    by_cases hr : 0 < roadsF n f k k
    ·by_cases hl : roadsF n f k k < l
     ·rw [if_pos ⟨hr, hl⟩] at hb1
      refine Wq (V0 Z (U6 Z (V7 Z (V0 Z ?_))))
      refine Wv Z (rLssF (a := ((b : Nat) : Int)) Z Z Z (by omega)) ?_
      refine V7 Z (V0 Z (V0 Z ?_))
      refine Wv Z (rLssT (b := ((l : Nat) : Int)) Z Z Z (by omega)) ?_
      refine Vi Z (Vk Z (Wn (Wc true Z (Wr (V0 Z (V0 Z (Vb Z (Vb Z (Wn (Wr (Vl Z (V0 Z (Wn ?_)))))))))))))
      exact ⟨⟨k + 1, by omega, ⟨rfl, rfl, rfl, by rw [hb1]; rfl, by rw [hb1]; rfl, trivial⟩, hI⟩, by show n - ((k + 1 : Nat) : Int).toNat < n - (k : Int).toNat; omega⟩
     rw [if_neg (fun h => hl h.2)] at hb1
     refine Wq (V0 Z (U6 Z (V7 Z (V0 Z ?_))))
     refine Wv Z (rLssF (a := ((b : Nat) : Int)) Z Z Z (by omega)) ?_
     refine V7 Z (V0 Z (V0 Z ?_))
     refine Wv Z (rLssF (b := ((l : Nat) : Int)) Z Z Z (by omega)) ?_
     refine Vi Z (Vk Z (Wn (Wc false Z (Wk (Wr (Vl Z (V0 Z (Wn ?_))))))))
     exact ⟨⟨k + 1, by omega, ⟨rfl, rfl, rfl, by rw [hb1]; rfl, by rw [hb1]; rfl, trivial⟩, hI⟩, by show n - ((k + 1 : Nat) : Int).toNat < n - (k : Int).toNat; omega⟩
    rw [if_neg (fun h => hr h.1)] at hb1
    refine Wq (V0 Z (U3 Z (V7 Z (V5 Z (V5 Z (V5 Z (V5 Z (V5 Z (V5 Z (V5 Z (Vi Z (Wn ?_))))))))))))
    refine Wc false Z (Wk (Wr (Vl Z (V0 Z (Wn ?_)))))
    exact ⟨⟨k + 1, by omega, ⟨rfl, rfl, rfl, by rw [hb1]; rfl, by rw [hb1]; rfl, trivial⟩, hI⟩, by show n - ((k + 1 : Nat) : Int).toNat < n - (k : Int).toNat; omega⟩
  obtain rfl : k = n := by omega
  refine Wq (Vr Z (Wn (Ws (Wc false Z ?_))))
  refine WE ?_
  exact ⟨g3_, hI⟩
 clear hI
 rintro ρ w ⟨hH, hI⟩
 obtain ⟨σ, rfl⟩ := hH.open
 cases hbt : bestTo n f n with
 | none =>
  refine Ws (Wq (V0 Z ?_))
  refine Wv Z (by exact rLss rfl rfl rfl) ?_
  refine Wn (Wc true Z (Wq (T0 Z yy49 Z (Vg Z (Vt Z (Wn ?_))))))
  exact WR (r2_ 2 3 Z (.inr ⟨by simp [cycF, hbt], no_cyc hbt, Z, hI.pu⟩))
 | some p =>
  obtain ⟨best, least⟩ := p
  obtain ⟨hb, hl, hl0⟩ := bestTo_some hbt
  have hle := roads_le (n := n) (f := f) (first := best) (by omega) best
  have hcyc := roads_cyc (n := n) (f := f) hb (by omega)
  replace hI : Inv NF w0 w [] := hI
  refine Ws (Wq (V0 Z ?_))
  refine Wv Z (rLssF (a := ((best : Nat) : Int)) Z Z Z (by omega)) ?_
  refine Wn (Wc false Z (Wk (Wq (Va Z (V0 Z (Vd [.slice _ _ _, Y _] Z func143 Z ?_))))))
  refine (roads_any A n c best f D _ (hG.pure hI.pu) hn hb).mono ?_
  rintro e w1 ⟨ob, rfl, hp, hok, hge⟩
  refine rV ?_
  have hI := hI.fresh hp hok (fun k hk => by have : k = ob := hk; omega)
  refine Vg Z (Wn (Wq (V0 Z (T3 [(0, Y _)] [_] [Y 0] [0] hI Z yy41 (fun _ => by kernel_rfl) ?_))))
  rintro b50 w - - hI
  refine Vg Z (Wn ?_)
  replace hI : Inv NF w0 w [B b50 3 #[.int .i64 ((best : Nat) : Int)], B ob 3 (numC n (roadsF n f best))] := hI
  have hb50 : w0.heap.size ≤ b50 := (hI.own _ (gM_ (i := 0) rfl) b50 rfl).resolve_left (fun h => h)
  have hI := hI.u0 (e' := Row w0.heap.size 3 1 (some ⟨b50, 0, none⟩) 1 1 (natV [best])) (Chg.refl _ _) (Row.of_blk (n := 1) hI.g0 hb50 rfl (by omega)) (fun k hk => .inl (by have : some b50 = some k := hk; injection this with this; exact this.symm))
  have hC0 : CycI n f best least [best] := ⟨by simp, fun v hv => by rw [List.mem_singleton.1 hv]; exact ⟨Nat.le_refl _, hb⟩, rfl, fun i a b _ h2 => by simp at h2, fun i a h => by
   match i, h with
   | 0, h => simp at h; subst h; omega⟩
  refine Ws (Wb ?_)
  refine W_loop (fun ρ w => ∃ (k : Nat) (A' : Option Addr) (c' : Nat), (cycTo n f best least k).length = k + 1 ∧ k + 1 ≤ least ∧ CycI n f best least (cycTo n f best least k) ∧ Has ρ [(10, .slice A' (k + 1) c'), (5, Y ((best : Nat) : Int)), (6, Y ((least : Nat) : Int)), (0, .slice A n c), (9, .slice (some ⟨ob, 0, none⟩) n n)] ∧ Inv NF w0 w [Row w0.heap.size 3 1 A' (k + 1) c' (natV (cycTo n f best least k)), B ob 3 (numC n (roadsF n f best))]) (fun ρ _ => least - slen (ρ 10))
   ⟨0, _, _, rfl, by omega, hC0, ⟨rfl, rfl, rfl, rfl, rfl, trivial⟩, hI⟩ ?_
  clear hI
  rintro ρ w ⟨k, A', c', hlen, hkl, hC, hH, hI⟩
  obtain ⟨σ, rfl⟩ := hH.open
  by_cases hlt : k + 1 < least
  ·have hlast := hC.last
   rw [hlen] at hlast
   have hlr := hC.rng _ (gM_ hlast)
   have hnx := hC.next hb (by omega)
   generalize hL : (cycTo n f best least k).getLastD 0 = last at *
   obtain ⟨lb, lo, rfl⟩ := row_addr hI.g0 (by omega)
   have e1 : (natV (cycTo n f best least k))[k + 1 - 1]? = some (.int .i64 ((last : Nat) : Int)) := by simp only [natV, List.getElem?_map, hlast]; rfl
   refine Ws (Wq (Va Z (Vo Z yy41 Z (V0 Z (Vu Z (Wn (Wc true Z (Wk (Wb (Wq (Va Z ?_)))))))))))
   refine Va Z (Vo Z yy41 Z ?_)
   refine Wv Z (rSubM (a := k + 1) (b := 1) Z Z Z Z (by omega) (by omega)) ?_
   refine Tz Z yy41 Z (V6 (Y _) Z (row_cell hI.g0 e1) (Vb Z (Wn (Wq (V0 Z (Vb Z (Wn (Wb ?_))))))))
   refine W_loop (fun ρ w => ∃ (j : Nat), best + j ≤ n ∧ (∀ x, best ≤ x → x < best + j → ¬ (f last x = true ∧ roadsF n f best x + (k + 1) = least)) ∧ Has ρ [(12, Y ((best + j : Nat) : Int)), (11, Y ((last : Nat) : Int)), (10, .slice (some ⟨lb, lo, none⟩) (k + 1) c'), (5, Y ((best : Nat) : Int)), (6, Y ((least : Nat) : Int)), (0, .slice A n c), (9, .slice (some ⟨ob, 0, none⟩) n n)] ∧ Inv NF w0 w [Row w0.heap.size 3 1 (some ⟨lb, lo, none⟩) (k + 1) c' (natV (cycTo n f best least k)), B ob 3 (numC n (roadsF n f best))]) (fun ρ _ => n - cnt (ρ 12))
    ⟨0, by omega, fun x h1 h2 => by omega, ⟨rfl, rfl, rfl, rfl, rfl, rfl, rfl, trivial⟩, hI⟩ ?_
   clear hI
   rintro ρ w ⟨j, hj, hno, hH, hI⟩
   obtain ⟨σ, rfl⟩ := hH.open
   have hjn : best + j < n := by
    obtain ⟨v, v1, v2, v3, v4⟩ := hnx
    rcases Nat.lt_or_ge (best + j) n with h | h
    ·exact h
    exact absurd ⟨v3, by omega⟩ (hno v v1 (by omega))
   obtain ⟨gb, go, rfl, _, hrow⟩ := hG.get (by omega)
   obtain ⟨rb, ro, c'', q1, q2, q3, _, q4⟩ := hrow last hlr.2
   have q5 := q4 (best + j) hjn
   have q6 := numC_get (roadsF n f best) hjn
   refine Ws (Wq (V0 Z (Va Z (Vo Z yy157 Z (Vu Z (Wn (Wc true Z (Wk (Ws (Wb ?_))))))))))
   by_cases hm : f last (best + j) = true ∧ roadsF n f best (best + j) + (k + 1) = least
   ·obtain ⟨hm1, hm2⟩ := hm
    rw [hm1] at q5
    refine Wq (Va Z (V0 Z (Tz Z yy157 Z (V6 (.slice _ _ _) Z (hI.oldp q1) (V0 Z (Tz Z yy91 Z (V6 (.bool _) Z (hI.oldp q5) (V7 Z (Va Z (V0 Z (T6 Z yy41 Z (V6 (Y _) Z (hI.c1 q6) ?_))))))))))))
    refine V0 Z (Va Z (Vo Z yy41 Z (Uj Z (Vx Z (Vk Z (Wn (Wc true Z (Wq (Va Z (V0 Z (T3 [(0, Y _)] [_] [Y 0] [0] hI Z yy41 (fun _ => by kernel_rfl) ?_)))))))))))
    rintro b88 w - - hI
    refine WL_app1 (z := Y 0) (by_ := 8) hI Z Z Z Z Z Z yy41 (by kernel_rfl) Z (by omega) (by rfl) hI.lit0 (by rfl) (by omega) (by omega) (by (have := hI.chg.size; omega)) ?_
    rintro A89 c89 w hA89 hc89 hI
    have hI := hI.d0
    refine Vg Z (Wn ?_)
    refine WE ?_
    have hnext : nextC n f best least (cycTo n f best least k) = some (best + j) := cycTo_next (by omega) hjn (by rw [hL]; exact hm1) (by rw [hlen]; omega) (fun x h1 h2 => by rw [hL, hlen]; exact hno x h1 h2)
    have hct : cycTo n f best least (k + 1) = cycTo n f best least k ++ [best + j] := by rw [cycTo, hnext]
    have e2 : natV (cycTo n f best least k ++ [best + j]) = natV (cycTo n f best least k) ++ [.int .i64 ((best + j : Nat) : Int)] := by simp [natV]
    refine ⟨⟨k + 1, A89, c89, by rw [hct]; simp [hlen], by omega, ?_, g5_, ?_⟩, by show least - (k + 1 + 1) < least - (k + 1); omega⟩
    ·rw [hct]
     exact hC.step (by omega) hjn (by rw [hL]; exact hm1) (by rw [hlen]; omega)
    rw [hct, e2]
    exact hI
   have hno' : ∀ x, best ≤ x → x < best + (j + 1) → ¬ (f last x = true ∧ roadsF n f best x + (k + 1) = least) := fun x h1 h2 => by
    rcases Nat.lt_or_ge x (best + j) with h | h
    ·exact hno x h1 h
    have : x = best + j := by omega
    subst this; exact hm
   cases hfv : f last (best + j) with
   | false =>
    rw [hfv] at q5
    refine Wq (Va Z (V0 Z (Tz Z yy157 Z (V6 (.slice _ _ _) Z (hI.oldp q1) (V0 Z (Tz Z yy91 Z (V6 (.bool _) Z (hI.oldp q5) (V7 Z (V5 Z (V5 Z (V5 Z (V5 Z ?_))))))))))))
    refine V5 Z (V5 Z (V5 Z (V5 Z (V5 Z (Vi Z (Wn (Wc false Z (Wk (Wr (V0 Z (Vl Z (Vb Z (Wn ?_)))))))))))))
    exact ⟨⟨j + 1, by omega, hno', g7_, hI⟩, by show n - ((best + j + 1 : Nat) : Int).toNat < n - ((best + j : Nat) : Int).toNat; omega⟩
   | true =>
    have hm2 : ¬ roadsF n f best (best + j) + (k + 1) = least := fun h => hm ⟨hfv, h⟩
    rw [hfv] at q5
    refine Wq (Va Z (V0 Z (Tz Z yy157 Z (V6 (.slice _ _ _) Z (hI.oldp q1) (V0 Z (Tz Z yy91 Z (V6 (.bool _) Z (hI.oldp q5) (V7 Z (Va Z (V0 Z (T6 Z yy41 Z (V6 (Y _) Z (hI.c1 q6) ?_))))))))))))
    refine V0 Z (Va Z (Vo Z yy41 Z (Uj Z (Vs Z (Vk Z (Wn (Wc false Z (Wk (Wr (V0 Z (Vl Z (Vb Z (Wn ?_)))))))))))))
    exact ⟨⟨j + 1, by omega, hno', g7_, hI⟩, by show n - ((best + j + 1 : Nat) : Int).toNat < n - ((best + j : Nat) : Int).toNat; omega⟩
  have hk : k = least - 1 := by omega
  refine Ws (Wq (Va Z (Vo Z yy41 Z (V0 Z (Vr Z (Wn (Wc false Z ?_)))))))
  refine WE ?_
  refine Wq (Va Z (Vg Z (Vw Z (Wn ?_))))
  refine WR ?_
  refine r2_ 2 3 Z (.inl ⟨cycTo n f best least k, A', c', by simp [cycF, hbt, hk], hC.end hb (by omega), hcyc, by rw [hlen]; rfl, ?_, hI.pu⟩)
  rw [hlen]
  exact hI.g0
def stpE (s : St) : Option Int := if s.tx < 0 ∨ 8 ≤ s.tx ∨ s.key < 0 ∨ 8 ≤ s.key then some 2 else if s.kind < 1 ∨ 4 < s.kind ∨ (3 ≤ s.kind ∧ s.key ≠ 0) then some 1 else none
def errV : Option Int → Value
 | none => .nilIface
 | some n => .iface 49 (.int .i64 n)
theorem checkStep_any (s : St) (w0 : World) : Cq 123 #[.agg (stV s).toArray] w0 fun en w' => en = .returned (errV (stpE s)) ∧ Pure w0 w' := by
 have hI := Inv.start (fun _ => False) w0
 obtain ⟨tx, kind, key⟩ := s
 refine Vm func123 Z (Wx (fun ρ w => (∃ b1, Has ρ [(1, .pointer (some ⟨b1, 0, none⟩))] ∧ Inv NF w0 w [B b1 114 #[Y tx, Y kind, Y key]])) ?_ ?_)
 ·refine Wr (Tq (.agg _) (#[_, _, _]) hI Z ?_)
  rintro b1 w - - hI
  exact Vw Z (Wn ⟨b1, g1_, hI⟩)
 clear hI
 rintro ρ w ⟨b1, hH, hI⟩
 obtain ⟨σ, rfl⟩ := hH.open
 refine Ws (Wb ?_)
 by_cases h1 : tx < 0
 ·exact Wq (V8 0 Z (Yc hI Z Z (Vu Z (V7 Z (V5 Z (V5 Z (V5 Z (Vk Z (V7 Z (V5 Z (V5 Z (V5 Z (Vk Z (V7 Z (V5 Z (V5 Z (V5 Z (Vk Z (Vc Z (Yt Z (Wq (T0 Z yy49 Z (Vt Z (Wn (WR (r1_ 2 Z ⟨by rw [show stpE ⟨tx, kind, key⟩ = some 2 from by unfold stpE; simp only; rw [if_pos (by omega)]]; rfl, hI.pu⟩))))))))))))))))))))))))))
 by_cases h2 : 8 ≤ tx
 ·exact Wq (V8 0 Z (Yc hI Z Z (Vr Z (V7 Z (V8 0 Z (Yc hI Z Z (U1 Z (Vi Z (V7 Z (V5 Z (V5 Z (V5 Z (Vk Z (V7 Z (V5 Z (V5 Z (V5 Z (Vk Z (Vc Z (Yt Z (Wq (T0 Z yy49 Z (Vt Z (Wn (WR (r1_ 2 Z ⟨by rw [show stpE ⟨tx, kind, key⟩ = some 2 from by unfold stpE; simp only; rw [if_pos (by omega)]]; rfl, hI.pu⟩))))))))))))))))))))))))))
 by_cases h3 : key < 0
 ·exact Wq (V8 0 Z (Yc hI Z Z (Vr Z (V7 Z (V8 0 Z (Yc hI Z Z (Uf Z (Vi Z (V7 Z (V8 2 Z (Yc hI Z Z (Vu Z (Vi Z (V7 Z (V5 Z (V5 Z (V5 Z (Vk Z (Vc Z (Yt Z (Wq (T0 Z yy49 Z (Vt Z (Wn (WR (r1_ 2 Z ⟨by rw [show stpE ⟨tx, kind, key⟩ = some 2 from by unfold stpE; simp only; rw [if_pos (by omega)]]; rfl, hI.pu⟩))))))))))))))))))))))))))
 by_cases h4 : 8 ≤ key
 ·exact Wq (V8 0 Z (Yc hI Z Z (Vr Z (V7 Z (V8 0 Z (Yc hI Z Z (Uf Z (Vi Z (V7 Z (V8 2 Z (Yc hI Z Z (Vr Z (Vi Z (V7 Z (V8 2 Z (Yc hI Z Z (U1 Z (Vi Z (Vc Z (Yt Z (Wq (T0 Z yy49 Z (Vt Z (Wn (WR (r1_ 2 Z ⟨by rw [show stpE ⟨tx, kind, key⟩ = some 2 from by unfold stpE; simp only; rw [if_pos (by omega)]]; rfl, hI.pu⟩))))))))))))))))))))))))))
 refine Wq (V8 0 Z (Yc hI Z Z (Vr Z (V7 Z (V8 0 Z (Yc hI Z Z (Uf Z (Vi Z (V7 Z (V8 2 Z (Yc hI Z Z (Vr Z (Vi Z (V7 Z (V8 2 Z (Yc hI Z Z (Uf Z (Vi Z (Vc Z (Yf Z ?_))))))))))))))))))))
 by_cases k1 : kind < 1
 ·exact Wq (V8 1 Z (Yc hI Z Z (Vu Z (V7 Z (V5 Z (V5 Z (V5 Z (Vk Z (V7 Z (V5 Z (V5 Z (V5 Z (V5 Z (V5 Z (V5 Z (V5 Z (V5 Z (Vk Z (Vc Z (Yt Z (Wq (T0 Z yy49 Z (Vt Z (Wn (WR (r1_ 2 Z ⟨by rw [show stpE ⟨tx, kind, key⟩ = some 1 from by unfold stpE; simp only; rw [if_neg (by omega), if_pos (by omega)]]; rfl, hI.pu⟩))))))))))))))))))))))))))
 by_cases k2 : 4 < kind
 ·exact Wq (V8 1 Z (Yc hI Z Z (Vr Z (V7 Z (V8 1 Z (Yc hI Z Z (U6 Z (Vi Z (V7 Z (V5 Z (V5 Z (V5 Z (V5 Z (V5 Z (V5 Z (V5 Z (V5 Z (Vk Z (Vc Z (Yt Z (Wq (T0 Z yy49 Z (Vt Z (Wn (WR (r1_ 2 Z ⟨by rw [show stpE ⟨tx, kind, key⟩ = some 1 from by unfold stpE; simp only; rw [if_neg (by omega), if_pos (by omega)]]; rfl, hI.pu⟩))))))))))))))))))))))))))
 by_cases k3 : 3 ≤ kind
 ·by_cases k4 : key = 0
  ·exact Wq (V8 1 Z (Yc hI Z Z (Vr Z (V7 Z (V8 1 Z (Yc hI Z Z (U3 Z (Vi Z (V7 Z (V8 1 Z (Yc hI Z Z (U1 Z (V7 Z (V8 2 Z (Yc hI Z Z (Ty Z (Vk Z (Vi Z (Vc Z (Yf Z (Wk (Wq (Vw Z (Wn (WR (r1_ 2 Z ⟨by rw [show stpE ⟨tx, kind, key⟩ = none from by unfold stpE; simp only; rw [if_neg (by omega), if_neg (by omega)]]; rfl, hI.pu⟩))))))))))))))))))))))))))
  exact Wq (V8 1 Z (Yc hI Z Z (Vr Z (V7 Z (V8 1 Z (Yc hI Z Z (U3 Z (Vi Z (V7 Z (V8 1 Z (Yc hI Z Z (U1 Z (V7 Z (V8 2 Z (Yc hI Z Z (Tn Z (Vk Z (Vi Z (Vc Z (Yt Z (Wq (T0 Z yy49 Z (Vt Z (Wn (WR (r1_ 2 Z ⟨by rw [show stpE ⟨tx, kind, key⟩ = some 1 from by unfold stpE; simp only; rw [if_neg (by omega), if_pos (by omega)]]; rfl, hI.pu⟩))))))))))))))))))))))))))
 exact Wq (V8 1 Z (Yc hI Z Z (Vr Z (V7 Z (V8 1 Z (Yc hI Z Z (U3 Z (Vi Z (V7 Z (V8 1 Z (Yc hI Z Z (Uf Z (V7 Z (V5 Z (V5 Z (V5 Z (Vi Z (Vi Z (Vc Z (Yf Z (Wk (Wq (Vw Z (Wn (WR (r1_ 2 Z ⟨by rw [show stpE ⟨tx, kind, key⟩ = none from by unfold stpE; simp only; rw [if_neg (by omega), if_neg (by omega)]]; rfl, hI.pu⟩))))))))))))))))))))))))))
abbrev sAt (l : List St) (k : Nat) : St := l.getD k ⟨0, 0, 0⟩
def overTo (l : List St) : Nat → Nat → Bool
 | 0 => fun _ => false
 | k + 1 => fun t => if t = (sAt l k).tx.toNat then decide (3 ≤ (sAt l k).kind) else overTo l k t
def okAt (l : List St) (k : Nat) : Prop := stpE (sAt l k) = none ∧ overTo l k (sAt l k).tx.toNat = false
instance (l : List St) (k : Nat) : Decidable (okAt l k) := inferInstanceAs (Decidable (_ ∧ _))
def OkSteps (l : List St) : Prop := l.length ≤ 60 ∧ ∀ k, k < l.length → okAt l k
theorem stpE_none {s : St} (h : stpE s = none) : 0 ≤ s.tx ∧ s.tx < 8 ∧ 0 ≤ s.key ∧ s.key < 8 ∧ 1 ≤ s.kind ∧ s.kind ≤ 4 ∧ (3 ≤ s.kind → s.key = 0) := by
 unfold stpE at h
 split at h
 ·cases h
 split at h
 ·cases h
 omega
theorem stpE_some {s : St} {n : Int} (h : stpE s = some n) : n = 1 ∨ n = 2 := by
 unfold stpE at h
 split at h
 ·injection h with h; omega
 split at h
 ·injection h with h; omega
 cases h
def FreshE (w0 : World) (e : Value) : Prop := ∀ b o : Nat, e = .iface 199 (.pointer (some ⟨b, o, none⟩)) → w0.heap.size ≤ b
theorem FreshE.num (w0 : World) (n : Int) : FreshE w0 (.iface 49 (.int .i64 n)) := fun b o h => by injection h with h; exact absurd h (by decide)
theorem FreshE.mk {w0 : World} (h : w0.heap.size ≤ b) : FreshE w0 (.iface 199 (.pointer (some ⟨b, 0, none⟩))) := fun b' o he => by
 injection he with _ he
 injection he with he
 injection he with he
 injection he with he _
 omega
def atE (l : List St) (k : Nat) : Option Int := match stpE (sAt l k) with
 | some m => some m
 | none => if overTo l k (sAt l k).tx.toNat = true then some 6 else none
def badE (l : List St) : Option Int := if 60 < l.length then some 4 else (List.range l.length).findSome? (atE l)
theorem atE_none (h : okAt l k) : atE l k = none := by
 unfold atE
 rw [h.1]
 exact if_neg (by rw [h.2]; exact Bool.false_ne_true)
theorem atE_mem {n : Int} (h : atE l k = some n) : n = 1 ∨ n = 2 ∨ n = 6 := by
 unfold atE at h
 split at h
 ·next m hm => injection h with h; subst h; have := stpE_some hm; omega
 split at h
 ·injection h with h; omega
 cases h
theorem badE_at {n : Int} (h60 : l.length ≤ 60) (hk : k < l.length) (hall : ∀ j, j < k → okAt l j) (h : atE l k = some n) : badE l = some n := by
 unfold badE
 rw [if_neg (by omega), show l.length = k + 1 + (l.length - (k + 1)) from by omega, List.range_add, List.findSome?_append, List.range_succ, List.findSome?_append]
 rw [List.findSome?_eq_none_iff.2 (fun j hj => atE_none (hall j (List.mem_range.1 hj)))]
 simp [h]
theorem badE_mem {n : Int} (h : badE l = some n) : n = 1 ∨ n = 2 ∨ n = 4 ∨ n = 6 := by
 unfold badE at h
 split at h
 ·injection h with h; omega
 obtain ⟨k, _, hk⟩ := List.exists_of_findSome?_eq_some h
 have := atE_mem hk; omega
def SCheckPost (l : List St) (w0 : World) (en : Ending) (w' : World) : Prop :=
 ((OkSteps l ∧ en = .returned .nilIface) ∨ (¬ OkSteps l ∧ ∃ e n, en = .returned e ∧ IsE w' e n ∧ FreshE w0 e ∧ (n = 1 ∨ n = 2 ∨ n = 4 ∨ n = 6))) ∧ Pure w0 w'
def CheckPostS (l : List St) (w0 : World) (en : Ending) (w' : World) : Prop :=
 ((OkSteps l ∧ en = .returned .nilIface) ∨ (¬ OkSteps l ∧ ∃ e n, en = .returned e ∧ IsE w' e n ∧ FreshE w0 e ∧ badE l = some n)) ∧ Pure w0 w'
theorem c_at1 {v : Value} (h : w.cell? ⟨b, k, none⟩ = some v) : w.cell? ⟨b, 0 + k * 1, none⟩ = some v := by simpa using h
theorem checkS_any (A : Option Addr) (n c : Nat) (l : List St) (D : Nat → Prop) (w0 : World) (h : Sts w0 D (.slice A n c) l) (hg : GlobOk w0) :
  Cq 70 #[.slice A n c] w0 (CheckPostS l w0) := by
 have hI := Inv.start (fun _ => False) w0
 obtain ⟨hn, hc1, hc2⟩ := h.len
 refine Vm func70 Z ?_
 refine Wq (Vw Z (Wn ?_))
 by_cases h60 : n ≤ 60
 rotate_left
 ·refine Ws (Wq (Va Z (Vo Z yy27 Z (U6 Z (Wn (Wc true Z (Wq (T0 Z yy49 Z (Vt Z (Wn ?_))))))))))
  exact WR (r1_ 2 Z ⟨.inr ⟨fun h => by have := h.1; omega, _, 4, rfl, .inl rfl, FreshE.num _ _, by unfold badE; rw [if_pos (by omega)]⟩, hI.pu⟩)
 refine Ws (Wq (Va Z (Vo Z yy27 Z (U3 Z (Wn (Wc false Z (Wk (Wq (Vz (.agg #[.bool false, .bool false, .bool false, .bool false, .bool false, .bool false, .bool false, .bool false]) (#[.bool false, .bool false, .bool false, .bool false, .bool false, .bool false, .bool false, .bool false]) hI Z ?_)))))))))
 rintro b3 w - - hI
 refine Wn (Ws (Wq (Va Z (Vo Z yy27 Z (V0 Z (Wn (Wb ?_)))))))
 refine W_loop (fun ρ w => ∃ k : Nat, k ≤ n ∧ (∀ j, j < k → okAt l j) ∧ Has ρ [(13, Y (k : Int)), (12, Y (n : Int)), (11, .slice A n c), (3, .pointer (some ⟨b3, 0, none⟩))] ∧ Inv NF w0 w [B b3 197 (boolC 8 (overTo l k))]) (fun ρ _ => n - cnt (ρ 13))
  ⟨0, by omega, fun j hj => by omega, ⟨rfl, rfl, rfl, rfl, trivial⟩, hI⟩ ?_
 clear hI
 rintro ρ w ⟨k, hk, hall, hH, hI⟩
 obtain ⟨σ, rfl⟩ := hH.open
 by_cases hkn : k < n
 ·obtain ⟨bA, oA, rfl, q0, q1, q2⟩ := h.at (show k < l.length by omega)
  refine Wq (Vu Z (Wn (Ws (Wc true Z (Wk (Ws (Wb (Wq (V0 Z (Th 3 Z yy27 Z (Up Z (hI.oldp q0) (hI.oldp q1) (hI.oldp q2) ?_)))))))))))
  refine Vz (.agg #[Y 0, Y 0, Y 0]) (#[Y 0, Y 0, Y 0]) hI Z ?_
  rintro b5 w - - hI
  refine Vb Z (T2 3 (#[_, _, _]) (.agg #[_, _, _]) hI Z ?_)
  intro w hI
  refine Wn (Wq (Tt 3 Z hI.g0 (Vd [.agg _] Z func123 Z ?_)))
  refine (checkStep_any (sAt l k) _).mono (okP hI fun w1 hp hI => ?_)
  refine U7 Z (Wn ?_)
  have bad : ∀ m : Int, (m = 1 ∨ m = 2 ∨ m = 4 ∨ m = 6) → ¬ okAt l k → ¬ OkSteps l := fun m _ hb ho => hb (ho.2 k (by omega))
  cases hE : stpE (sAt l k) with
  | some m =>
   have hm := stpE_some hE
   refine Ws (Wq (Vy Z ?_))
   refine Wv Z (by exact rIfaceEq rfl yy37 rfl rfl) ?_
   refine V7 Z (V5 Z (V5 Z (V5 Z (V5 Z (Vi Z (Wn (Wc false Z (Wk (Ws (Wq (Vy Z (U0 Z yy37 Z ?_))))))))))))
   refine Wn (Wc true Z (Wq (Vy Z (Vd [_] Z func17 Z ?_))))
   refine (tell_any (.iface 49 (Y m)) m _ (.inl Z) (hI.oldp hg)).mono (okP hI fun w1 hp hI => ?_)
   refine V0 Z (Tc [(0, Y _), (1, Y _)] [_, _] Z [Y 0, Y 0] [0, 1] Z (fun _ => by kernel_rfl) (Tq (.agg _) (#[_, _]) hI rfl ?_))
   rintro b35 w - - hI
   refine T0 Z underlying199 Z (Vt Z (Wn ?_))
   refine WR ?_
   refine r1_ 2 Z ⟨.inr ⟨bad m (by omega) (fun ho => by have := ho.1; rw [hE] at this; cases this), _, m, rfl, .inr ⟨b35, 0, rfl, hI.c0 rfl⟩, FreshE.mk ((hI.own _ (gM_ (i := 0) rfl) b35 rfl).resolve_left (fun h => h)), badE_at (by omega) (by omega) hall (by unfold atE; rw [hE])⟩, hI.pu⟩
  | none =>
   obtain ⟨s1, s2, s3, s4, s5, s6, s7⟩ := stpE_none hE
   obtain ⟨tn, htn⟩ : ∃ tn : Nat, (sAt l k).tx = (tn : Int) := ⟨(sAt l k).tx.toNat, by omega⟩
   have htn8 : tn < 8 := by omega
   have g1 := boolC_get (n := 8) (overTo l k) htn8
   have hto : (sAt l k).tx.toNat = tn := by omega
   cases hov : overTo l k tn with
   | true =>
    rw [hov] at g1
    refine Ws (Wq (Td Z ?_))
    refine Wv Z (by exact rNilEq rfl yy37 rfl) ?_
    refine V7 Z (V8 0 Z (Yc hI Z Z ?_))
    refine Wv Z (rIdxArr (sz := 1) (i := tn) Z underlying197 (by kernel_rfl) Z Z htn htn8) ?_
    refine V6 (.bool _) Z (c_at1 (hI.c1 g1)) (Vk Z (Wn (Wc true Z (Wr (T0 Z yy49 Z (Vt Z (Wn (Ws (Wq (Vy Z (U0 Z yy37 Z (Wn ?_))))))))))))
    refine Wc true Z (Wq (Vy Z (Vd [_] Z func17 Z ?_)))
    refine (tell_any (.iface 49 (Y 6)) 6 _ (.inl Z) (hI.oldp hg)).mono (okP hI fun w1 hp hI => ?_)
    refine V0 Z (Tc [(0, Y _), (1, Y _)] [_, _] Z [Y 0, Y 0] [0, 1] Z (fun _ => by kernel_rfl) (Tq (.agg _) (#[_, _]) hI rfl ?_))
    rintro b35 w - - hI
    refine T0 Z underlying199 Z (Vt Z (Wn ?_))
    refine WR ?_
    refine r1_ 2 Z ⟨.inr ⟨bad 6 (by omega) (fun ho => by have := ho.2; rw [hto, hov] at this; cases this), _, 6, rfl, .inr ⟨b35, 0, rfl, hI.c0 rfl⟩, FreshE.mk ((hI.own _ (gM_ (i := 0) rfl) b35 rfl).resolve_left (fun h => h)), badE_at (by omega) (by omega) hall (by unfold atE; rw [hE]; exact if_pos (by rw [hto]; exact hov))⟩, hI.pu⟩
   | false =>
    rw [hov] at g1
    have hok : okAt l k := ⟨hE, by rw [hto]; exact hov⟩
    refine Ws (Wq (Td Z ?_))
    refine Wv Z (by exact rNilEq rfl yy37 rfl) ?_
    refine V7 Z (V8 0 Z (Yc hI Z Z ?_))
    refine Wv Z (rIdxArr (sz := 1) (i := tn) Z underlying197 (by kernel_rfl) Z Z htn htn8) ?_
    refine V6 (.bool _) Z (c_at1 (hI.c1 g1)) (Vk Z (Wn (Wc false Z (Wk (Ws (Wq (Td Z (Tv Z yy37 Z (Wn (Wc false Z (Wk (Wr ?_))))))))))))
    refine V8 0 Z (Yc hI Z Z (V8 1 Z (Yc hI Z Z ?_)))
    refine Wv Z (rGeq Z Z Z) ?_
    refine Wv Z (rIdxArr (sz := 1) (i := tn) Z underlying197 (by kernel_rfl) Z Z htn htn8) ?_
    refine WL_st1 (u := .bool _) (j := 0 + tn * 1) hI Z Z Z Z Z Z (by kernel_rfl) Z (by simp [Nat.blt, boolC]; omega) Z ?_
    rw [Nat.zero_add, Nat.mul_one, boolC_set]
    intro w hI
    refine Wn ?_
    have hI := hI.d0
    refine Wr (Vl Z (V0 Z (Wn ?_)))
    refine ⟨⟨k + 1, by omega, fun j hj => ?_, g4_, ?_⟩, by show n - ((k + 1 : Nat) : Int).toNat < n - (k : Int).toNat; omega⟩
    ·rcases Nat.lt_or_ge j k with h1 | h1
     ·exact hall j h1
     have : j = k := by omega
     subst this; exact hok
    have : overTo l (k + 1) = fun x => if x = tn then decide (3 ≤ (sAt l k).kind) else overTo l k x := by
     funext x; show (if x = (sAt l k).tx.toNat then _ else _) = _; rw [hto]
    rw [this]
    exact hI
 obtain rfl : k = n := by omega
 refine Wq (Vr Z (Wn (Ws (Wc false Z ?_))))
 refine WE ?_
 refine Wq (Vw Z (Wn ?_))
 exact WR (r1_ 2 Z ⟨.inl ⟨⟨by omega, fun j hj => hall j (by omega)⟩, Z⟩, hI.pu⟩)
theorem scheck_any (A : Option Addr) (n c : Nat) (l : List St) (D : Nat → Prop) (w0 : World) (h : Sts w0 D (.slice A n c) l) (hg : GlobOk w0) :
  Cq 70 #[.slice A n c] w0 (SCheckPost l w0) :=
 (checkS_any A n c l D w0 h hg).mono (fun en w' h => ⟨h.1.imp id (fun ⟨h1, e, n, h2, h3, h4, h5⟩ => ⟨h1, e, n, h2, h3, h4, badE_mem h5⟩), h.2⟩)
def placeTo (l : List St) (tx kind : Int) (a : Nat) : Nat → Option Nat
 | 0 => none
 | j + 1 => match placeTo l tx kind a j with
  | some k => some k
  | none => if (sAt l (a + j)).tx = tx ∧ (sAt l (a + j)).kind = kind then some (a + j) else none
def placeF (l : List St) (tx kind : Int) (a b : Nat) : Option Nat := placeTo l tx kind a (b - a)
theorem placeTo_stop {l : List St} {tx kind : Int} {a j k : Nat} (h : placeTo l tx kind a j = some k) : ∀ d, placeTo l tx kind a (j + d) = some k
 | 0 => h
 | d + 1 => by rw [← Nat.add_assoc, placeTo, placeTo_stop h d]
theorem placeF_of {tx kind : Int} {a j : Nat} (h : placeTo l tx kind a j = some k) (hj : a + j ≤ b) : placeF l tx kind a b = some k := by
 have := placeTo_stop h (b - a - j)
 rw [show j + (b - a - j) = b - a by omega] at this
 exact this
theorem place_any (A : Option Addr) (n c : Nat) (l : List St) (tx kind : Int) (a b : Nat) (D : Nat → Prop) (w0 : World) (h : Sts w0 D (.slice A n c) l) (hb : b ≤ n) :
  Cq 86 #[.slice A n c, .int .i64 tx, .int .i64 kind, .int .i64 (a : Int), .int .i64 (b : Int)] w0 fun en w' => en = .returned (.int .i64 (optI (placeF l tx kind a b))) ∧ Pure w0 w' := by
 have hI := Inv.start (fun _ => False) w0
 obtain ⟨hn, hc1, hc2⟩ := h.len
 refine Vm func86 Z (Wq (Vb Z (Wn (Ws (Wq (V0 Z (Vb Z (Wn (Wb ?_)))))))))
 refine W_loop (fun ρ w => ∃ j : Nat, (j = 0 ∨ a + j ≤ b) ∧ placeTo l tx kind a j = none ∧ Has ρ [(11, Y ((a + j : Nat) : Int)), (0, .slice A n c), (1, Y tx), (2, Y kind), (4, Y (b : Int))] ∧ Inv NF w0 w []) (fun ρ _ => b - cnt (ρ 11))
  ⟨0, .inl rfl, rfl, ⟨rfl, rfl, rfl, rfl, rfl, trivial⟩, hI⟩ ?_
 clear hI
 rintro ρ w ⟨j, hj, hno, hH, hI⟩
 obtain ⟨σ, rfl⟩ := hH.open
 by_cases hlt : a + j < b
 ·obtain ⟨bA, oA, rfl, q0, q1, q2⟩ := h.at (show a + j < l.length by omega)
  have hnx : placeTo l tx kind a (j + 1) = if (sAt l (a + j)).tx = tx ∧ (sAt l (a + j)).kind = kind then some (a + j) else none := by rw [placeTo, hno]
  refine Ws (Wq (V0 Z (V0 Z (Vu Z (Yt Z (Wk (Ws (Wb ?_))))))))
  by_cases h1 : (sAt l (a + j)).tx = tx
  ·by_cases h2 : (sAt l (a + j)).kind = kind
   ·rw [if_pos ⟨h1, h2⟩] at hnx
    exact Wq (Va Z (V0 Z (Th 3 Z yy27 Z (Wv Z (by exact rFld0 rfl (by kernel_rfl) rfl) (V6 (Y _) Z (hI.oldp q0) (V0 Z (Vx Z (V7 Z (Va Z (V0 Z (Th 3 Z yy27 Z (Wv Z (by exact rFld (off := 1) rfl (by kernel_rfl) rfl) (V6 (Y _) Z (hI.oldp q1) (V0 Z (Vx Z (Vk Z (Yt Z (Wq (V0 Z (Vb Z (Wn (WR (r1_ 10 Z ⟨by rw [placeF_of hnx (by omega)]; rfl, hI.pu⟩)))))))))))))))))))))))
   rw [if_neg (fun h => h2 h.2)] at hnx
   exact Wq (Va Z (V0 Z (Th 3 Z yy27 Z (Wv Z (by exact rFld0 rfl (by kernel_rfl) rfl) (V6 (Y _) Z (hI.oldp q0) (V0 Z (Vx Z (V7 Z (Va Z (V0 Z (Th 3 Z yy27 Z (Wv Z (by exact rFld (off := 1) rfl (by kernel_rfl) rfl) (V6 (Y _) Z (hI.oldp q1) (V0 Z (Vs Z (Vk Z (Yf Z (Wk (Wr (V0 Z (Vl Z (Vb Z (Wn ⟨⟨j + 1, .inr (by omega), hnx, g5_, hI⟩, by show b - ((a + j + 1 : Nat) : Int).toNat < b - ((a + j : Nat) : Int).toNat; omega⟩)))))))))))))))))))))))
  rw [if_neg (fun h => h1 h.1)] at hnx
  exact Wq (Va Z (V0 Z (Th 3 Z yy27 Z (Wv Z (by exact rFld0 rfl (by kernel_rfl) rfl) (V6 (Y _) Z (hI.oldp q0) (V0 Z (Vs Z (V7 Z (V5 Z (V5 Z (V5 Z (V5 Z (V5 Z (V5 Z (V5 Z (Vi Z (Yf Z (Wk (Wr (V0 Z (Vl Z (Vb Z (Wn ⟨⟨j + 1, .inr (by omega), hnx, g5_, hI⟩, by show b - ((a + j + 1 : Nat) : Int).toNat < b - ((a + j : Nat) : Int).toNat; omega⟩)))))))))))))))))))))))
 have hpf : placeF l tx kind a b = none := by
  unfold placeF
  rcases hj with rfl | hj
  ·rw [show b - a = 0 by omega]; rfl
  rw [show b - a = j by omega]; exact hno
 exact Ws (Wq (V0 Z (V0 Z (Vr Z (Yf Z (WE (Wq (Vb Z (Wn (WR (r1_ 10 Z ⟨by rw [hpf]; rfl, hI.pu⟩)))))))))))
def writerTo (l : List St) (i : Nat) : Nat → Option Nat
 | 0 => none
 | k + 1 => if (sAt l k).kind = 2 ∧ (sAt l k).key = (sAt l i).key ∧ placeF l (sAt l k).tx 4 k i = none then some k else writerTo l i k
def writerF (l : List St) (i : Nat) : Option Nat := writerTo l i i
theorem writerTo_lt {l : List St} {i : Nat} : ∀ {k m : Nat}, writerTo l i k = some m → m < k
 | 0, m, h => by simp [writerTo] at h
 | k + 1, m, h => by
  rw [writerTo] at h
  split at h
  ·injection h with h; omega
  have := writerTo_lt h; omega
theorem writer_any (A : Option Addr) (n c : Nat) (l : List St) (i : Nat) (D : Nat → Prop) (w0 : World) (h : Sts w0 D (.slice A n c) l) (hi : i < n) :
  Cq 85 #[.slice A n c, .int .i64 (i : Int)] w0 fun en w' => en = .returned (.int .i64 (optI (writerF l i))) ∧ Pure w0 w' := by
 have hI := Inv.start (fun _ => False) w0
 obtain ⟨hn, hc1, hc2⟩ := h.len
 refine Vm func85 Z (Wq (Vb Z (Wn (Ws (Wq (V0 Z (Uj Z (Vb Z (Wn (Wb ?_))))))))))
 refine W_loop (fun ρ w => ∃ k : Nat, k ≤ i ∧ writerF l i = writerTo l i k ∧ Has ρ [(5, Y ((k : Int) - 1)), (0, .slice A n c), (1, Y (i : Int))] ∧ Inv NF w0 w []) (fun ρ _ => cnt (match ρ 5 with | .int t z => .int t (z + 1) | v => v))
  ⟨i, by omega, rfl, ⟨rfl, rfl, rfl, trivial⟩, hI⟩ ?_
 clear hI
 rintro ρ w ⟨k, hk, hw, hH, hI⟩
 cases k with
 | zero =>
  obtain ⟨σ, rfl⟩ := hH.open
  exact Ws (Wq (V0 Z (Uf Z (Yf Z (WE (Wq (Vb Z (Wn (WR (r1_ 4 Z ⟨by rw [hw]; rfl, hI.pu⟩))))))))))
 | succ k =>
  have e : (((k + 1 : Nat) : Int) - 1) = ((k : Nat) : Int) := by omega
  rw [e] at hH
  obtain ⟨σ, rfl⟩ := hH.open
  obtain ⟨bA, oA, rfl, q0, q1, q2⟩ := h.at (show k < l.length by omega)
  obtain ⟨bB, oB, hAB, r0, r1, r2⟩ := h.at (show i < l.length by omega)
  injection hAB with hAB
  injection hAB with e1 e2
  subst e1 e2
  have hnx : writerTo l i (k + 1) = if (sAt l k).kind = 2 ∧ (sAt l k).key = (sAt l i).key ∧ placeF l (sAt l k).tx 4 k i = none then some k else writerTo l i k := rfl
  refine Ws (Wq (V0 Z (U1 Z (Yt Z (Wk (Ws (Wb ?_)))))))
  by_cases h1 : (sAt l k).kind = 2
  ·by_cases h2 : (sAt l k).key = (sAt l i).key
   ·by_cases h3 : placeF l (sAt l k).tx 4 k i = none
    ·rw [if_pos ⟨h1, h2, h3⟩] at hnx
     refine Ws (Yi hI fun Sx hY hXS hI => Vp 0 Z (Vh 1 Z (Tb 2 3 Z yy27 Z (T9 3 1 Z (V9 4 (Y _) Z (Yo hY q1) (U8 5 Z (Ve 6 Z (Vp 7 Z (Vh 8 Z (Tb 9 3 Z yy27 Z (T9 10 2 Z (V9 11 (Y _) Z (Yo hY q2) (Vp 12 Z (Vh 13 Z (Tb 14 3 Z yy27 Z (T9 15 2 Z (V9 16 (Y _) Z (Yo hY r2) (U8 17 Z (Vv 18 Z (Ve 19 Z (Vp 20 Z (Vp 21 Z (Vh 22 Z (Tb 23 3 Z yy27 Z (Uk 24 Z (V9 25 (Y _) Z (Yo hY q0) (Vh 26 Z (Vh 27 Z (Vq 28 Z (Vd [.slice _ _ _, Y _, Y _, Y _, Y _] Z func86 Z ((place_any _ n c l _ 4 k i D _ (h.pure hI.pu) (by omega)).mono ?_)))))))))))))))))))))))))))))))
     rw [h3]
     rintro e w1 ⟨rfl, hp⟩
     refine rV ?_
     have hI := hI.pure hp
     have hz : optI none = -1 := rfl
     exact Wn ⟨hXS _ hI, (Un 29 Z (Vv 30 Z (Yz (Wc true Z (Wq (V0 Z (Vb Z (Wn (WR (r1_ 4 Z ⟨by rw [hw, hnx]; rfl, hI.pu⟩))))))))))⟩
    rw [if_neg (fun h => h3 h.2.2)] at hnx
    obtain ⟨m, hm⟩ := Option.ne_none_iff_exists'.1 h3
    refine Ws (Yi hI fun Sx hY hXS hI => Vp 0 Z (Vh 1 Z (Tb 2 3 Z yy27 Z (T9 3 1 Z (V9 4 (Y _) Z (Yo hY q1) (U8 5 Z (Ve 6 Z (Vp 7 Z (Vh 8 Z (Tb 9 3 Z yy27 Z (T9 10 2 Z (V9 11 (Y _) Z (Yo hY q2) (Vp 12 Z (Vh 13 Z (Tb 14 3 Z yy27 Z (T9 15 2 Z (V9 16 (Y _) Z (Yo hY r2) (U8 17 Z (Vv 18 Z (Ve 19 Z (Vp 20 Z (Vp 21 Z (Vh 22 Z (Tb 23 3 Z yy27 Z (Uk 24 Z (V9 25 (Y _) Z (Yo hY q0) (Vh 26 Z (Vh 27 Z (Vq 28 Z (Vd [.slice _ _ _, Y _, Y _, Y _, Y _] Z func86 Z ((place_any _ n c l _ 4 k i D _ (h.pure hI.pu) (by omega)).mono ?_)))))))))))))))))))))))))))))))
    rw [hm]
    rintro e w1 ⟨rfl, hp⟩
    refine rV ?_
    have hI := hI.pure hp
    have hz : optI (some m) = (m : Int) := rfl
    exact Wn ⟨hXS _ hI, (Ud 29 Z (Vv 30 Z (Yz (Wc false Z (Wk (Wr (V0 Z (Uj Z (Vb Z (Wn ⟨⟨k, by omega, hw.trans hnx, g3_, hI⟩, by show ((k : Int) - 1 + 1).toNat < ((k : Int) + 1).toNat; omega⟩))))))))))⟩
   rw [if_neg (fun h => h2 h.2.1)] at hnx
   exact Ws (Yi hI fun Sx hY hXS hI => Vp 0 Z (Vh 1 Z (Tb 2 3 Z yy27 Z (T9 3 1 Z (V9 4 (Y _) Z (Yo hY q1) (U8 5 Z (Ve 6 Z (Vp 7 Z (Vh 8 Z (Tb 9 3 Z yy27 Z (T9 10 2 Z (V9 11 (Y _) Z (Yo hY q2) (Vp 12 Z (Vh 13 Z (Tb 14 3 Z yy27 Z (T9 15 2 Z (V9 16 (Y _) Z (Yo hY r2) (U5 17 Z (Vv 18 Z (Ve 19 Z (V4 20 Z Z (V4 21 Z Z (V4 22 Z Z (V4 23 Z Z (V4 24 Z Z (V4 25 Z Z (V4 26 Z Z (V4 27 Z Z (V4 28 Z Z (V4 29 Z Z (Vn 30 Z (Yz (Wc false Z (Wk (Wr (V0 Z (Uj Z (Vb Z (Wn ⟨⟨k, by omega, hw.trans hnx, g3_, hI⟩, by show ((k : Int) - 1 + 1).toNat < ((k : Int) + 1).toNat; omega⟩)))))))))))))))))))))))))))))))))))))))
  rw [if_neg (fun h => h1 h.1)] at hnx
  exact Ws (Yi hI fun Sx hY hXS hI => Vp 0 Z (Vh 1 Z (Tb 2 3 Z yy27 Z (T9 3 1 Z (V9 4 (Y _) Z (Yo hY q1) (U5 5 Z (Ve 6 Z (V4 7 Z Z (V4 8 Z Z (V4 9 Z Z (V4 10 Z Z (V4 11 Z Z (V4 12 Z Z (V4 13 Z Z (V4 14 Z Z (V4 15 Z Z (V4 16 Z Z (V4 17 Z Z (Vn 18 Z (Ve 19 Z (V4 20 Z Z (V4 21 Z Z (V4 22 Z Z (V4 23 Z Z (V4 24 Z Z (V4 25 Z Z (V4 26 Z Z (V4 27 Z Z (V4 28 Z Z (V4 29 Z Z (Vn 30 Z (Yz (Wc false Z (Wk (Wr (V0 Z (Uj Z (Vb Z (Wn ⟨⟨k, by omega, hw.trans hnx, g3_, hI⟩, by show ((k : Int) - 1 + 1).toNat < ((k : Int) + 1).toNat; omega⟩)))))))))))))))))))))))))))))))))))))))
def OrderPost2 (w : World) (n : Nat) (f : Nat → Nat → Bool) (e : Ending) (w' : World) : Prop :=
 (∃ l v, orderF n f = some l ∧ e = .returned (.tuple #[v, .nilIface]) ∧ w'.ownsRow w.heap.size 3 1 v l.length (natV l) ∧ Pure w w') ∨
 (orderF n f = none ∧ (∃ x, x = .iface 49 (.int .i64 11) ∧ e = .returned (.tuple #[.slice none 0 0, x])) ∧ Pure w w')
set_option maxRecDepth 100000 in
theorem gorder2_any (A : Option Addr) (c n : Nat) (f : Nat → Nat → Bool) (D : Nat → Prop) (w : World) (h : SqG w D (.slice A n c) n f) (hn : n ≤ 40) :
  Cq 94 #[.slice A n c] w (OrderPost2 w n f) := by
 obtain ⟨i0, hi0, hz0, hz1, hz2⟩ := info_parts ginfoInt
 obtain ⟨i1, hi1, hy0, hy1, hy2⟩ := info_parts ginfoBool
 have hmk := fun W => run_make_rep (P := prog) 91 4 i1 (.bool false) yy91 hi1 hy0 rfl hy1 n (by rw [hy2]; omega) (by omega) W
 have HS := Lib.hid h
 clear h
 go_enter func94, Tryz.ntmps94
 go_wp2_with (go_at_call 142; refine (gcheck_any _ _ _ _ _ _ HS.out hn).mono ?_; rintro e _ ⟨rfl, rfl⟩)
 clear hmk
 go_loopw [6, 7, 20] (fun ov _ i wr => ∃ (k : Nat) (out : List Nat), k ≤ n ∧ i = .int .i64 k ∧ RelO w n f k out ov wr) (fun _ _ i _ => n - (intOf i).toNat)
 case atStart => exact ⟨0, [], by omega, rfl, rfl, by rw [← doneC_nil]; exact Blk.new w _ _, World.ownsRow_nil _ _ _ _, (Pure.refl w).alloc _⟩
 case round =>
  obtain ⟨k, out, hk, rfl, ho, hB, hown, hP⟩ := hrel
  have HO := Lib.hid ho
  have HB := Lib.hid hB
  have HW := Lib.hid hown
  have HP := Lib.hid hP
  clear ho hB hown hP
  by_cases hkn : k < n
  ·have hkn' : (k : Int) < (n : Int) := by omega
   obtain ⟨b, o, rfl, _, hr⟩ := (HS.out.pure HP.out).get (show 0 < n by omega)
   have HR := Lib.hid hr
   clear hr
   go_wp2
   go_step3
   go_wp2
   go_step3
   go_wp2
   go_loop [7, 24] (fun nx i => ∃ v : Nat, v ≤ n ∧ i = .int .i64 v ∧ nx = .int .i64 (-1) ∧ NoneTo n f out v) (fun _ i => n - (intOf i).toNat)
   case atStart => exact ⟨0, by omega, rfl, rfl, fun x hx => absurd hx (by omega)⟩
   case round =>
    obtain ⟨v, hv, rfl, rfl, hno⟩ := hrel
    have HNO := Lib.hid hno
    clear hno
    by_cases hvn : v < n
    ·have hvn' : (v : Int) < (n : Int) := by omega
     have d1 : wr.cell? ⟨w.heap.size, v, none⟩ = some (.bool (out.contains v)) := by rw [HB.out.cell]; exact doneC_get out hvn
     have f1 : wr.frozen? ⟨w.heap.size, v, none⟩ = false := HB.out.frozen v
     have HC : Hid (out.contains v = out.contains v) := rfl
     rcases hcv : out.contains v with _ | _
     ·rw [hcv] at d1
      have HCV := Lib.hid hcv
      clear hcv HC
      go_wp2
      go_loop [9, 33] (fun _ i => ∃ u : Nat, u ≤ n ∧ i = .int .i64 u ∧ AllTo f out v u) (fun _ i => n - (intOf i).toNat)
      case atStart => exact ⟨0, by omega, rfl, fun x hx => absurd hx (by omega)⟩
      case round =>
       obtain ⟨u, hu, rfl, hall⟩ := hrel
       have HALL := Lib.hid hall
       clear hall
       by_cases hun : u < n
       ·have hun' : (u : Int) < (n : Int) := by omega
        obtain ⟨rb, ro, cr, q1, _, _, _, q5⟩ := HR.out u hun
        have q6 := q5 v hvn
        clear q5
        have d2 : wr.cell? ⟨w.heap.size, u, none⟩ = some (.bool (out.contains u)) := by rw [HB.out.cell]; exact doneC_get out hun
        rcases hcu : out.contains u with _ | _ <;> rcases hfu : f u v with _ | _ <;> rw [hcu] at d2 <;> rw [hfu] at q6 <;> have HCU := Lib.hid hcu <;> have HFU := Lib.hid hfu <;> clear hcu hfu
        ·go_wp2
         go_round
         case rel => first | exact ⟨u + 1, by omega, by go_num, HALL.out.next (by rw [HCU.out, HFU.out]; rfl)⟩ | ((repeat apply Exists.intro); exact ⟨⟨u + 1, by omega, by go_num, HALL.out.next (by rw [HCU.out, HFU.out]; rfl)⟩, rfl⟩)
         case measure => simp [intOf]; omega
        ·go_wp2
         go_round
         case rel => first | exact ⟨v + 1, by omega, by go_num, rfl, HNO.out.led hun HCU.out HFU.out⟩ | ((repeat apply Exists.intro); exact ⟨⟨v + 1, by omega, by go_num, rfl, HNO.out.led hun HCU.out HFU.out⟩, rfl⟩)
         case measure => simp [intOf]; omega
        ·go_wp2
         go_round
         case rel => first | exact ⟨u + 1, by omega, by go_num, HALL.out.next (by rw [HCU.out, HFU.out]; rfl)⟩ | ((repeat apply Exists.intro); exact ⟨⟨u + 1, by omega, by go_num, HALL.out.next (by rw [HCU.out, HFU.out]; rfl)⟩, rfl⟩)
         case measure => simp [intOf]; omega
        go_wp2
        go_round
        case rel => first | exact ⟨u + 1, by omega, by go_num, HALL.out.next (by rw [HCU.out, HFU.out]; rfl)⟩ | ((repeat apply Exists.intro); exact ⟨⟨u + 1, by omega, by go_num, HALL.out.next (by rw [HCU.out, HFU.out]; rfl)⟩, rfl⟩)
        case measure => simp [intOf]; omega
       obtain rfl : u = n := by omega
       have HNX := Lib.hid (nextO_some hvn (HALL.out.qual HCV.out) HNO.out)
       obtain ⟨A2, c2, rfl⟩ := own_slice HW.out
       have hsz := HB.out.lt
       have hsz2 := HP.out.size
       go_wp2_with (at_builtin; refine wpList_append_lies _ rfl (.tmp 59) (.tmp 61) 41 rfl (w.heap.size + 1) 3 i0 _ 1 8 yy41 hi0 hz0 hz1 hz2 rfl (by omega) _ k (natV out) rfl (by exact (ownsRow_setCell_below HW.out (by simp) _).alloc _) ⟨wr.heap.size, 0, none⟩ 1 1 [.int .i64 v] rfl rfl (by exact (Blk.new' (g := wr.heap.size) _ 3 #[.int .i64 v] (by simp [World.setCell])).news) (by simp [Value.oneCell']) (by omega) (by simp only [maxLen]; omega) (by omega) (by simp [World.setCell]; omega) (wr.heap.size + 1) (by simp [World.setCell]) ?_; intro g cap w1 o1 g1 at1 lt1)
       have HR2 := Lib.hid (relO_next hvn HO.out HB.out HW.out HP.out HNX.out o1 g1)
       clear o1 g1
       go_roundw
       case rel => first | exact ⟨k + 1, _, by omega, by go_num, HR2.out⟩ | ((repeat apply Exists.intro); exact ⟨⟨k + 1, _, by omega, by go_num, HR2.out⟩, rfl⟩)
       case measure => simp [intOf]; omega
     rw [hcv] at d1
     have HCV := Lib.hid hcv
     clear hcv HC
     go_wp2
     go_round
     case rel => first | exact ⟨v + 1, by omega, by go_num, rfl, HNO.out.done HCV.out⟩ | ((repeat apply Exists.intro); exact ⟨⟨v + 1, by omega, by go_num, rfl, HNO.out.done HCV.out⟩, rfl⟩)
     case measure => simp [intOf]; omega
    obtain rfl : v = n := by omega
    have HNX := Lib.hid (nextO_nothing HNO.out)
    go_wp2
    go_ret2
    exact .inr ⟨orderTo_none (k := k + 1) (by simp only [orderTo, HO.out, HNX.out]) v (by omega), ⟨_, Z, Z⟩, HP.out⟩
  obtain rfl : k = n := by omega
  go_wp2
  go_ret2
  refine .inl ⟨out, _, HO.out, Z, ?_, HP.out⟩
  have hl := (orderTo_spec k out HO.out).1
  rw [hl]
  exact own_base HW.out (by omega)
end Go.Proofs.YtnckdmogdehnoaaGreatDoor
