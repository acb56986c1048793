/- Texts of the proof, merged: Str2, BoolC, IsEr, RecLaw, Evt1, Evt2, Evt3, Evt4, Lin1, Lin2, Lin3, Lin4, Lin5, Lin6, Srch, Srch2. -/
import Derived.Test.YtkkmokodaejheaaDoorPStr1
import Derived.Test.YtkkmokodaejheaaDoorPSxA
import Derived.Test.YtkkmokodaejheaaDoorPReg
import Derived.Test.YtkkmokodaejheaaDoorProg
set_option linter.unusedVariables false
set_option linter.unusedSimpArgs false
set_option linter.unusedSectionVars false
namespace Go.Proofs.YtkkmokodaejheaaDoor
open Go.RowKit
theorem Qj (base : Nat) (A : Option Addr) (c : Nat) (l : List Nat) (u : Nat) (w0 : World) (hR : (Ct base A c l).ok w0) (hu : u < 18446744073709551616) (hn : l.length ≤ 1000000) (hb : base ≤ w0.heap.size) :
  Calls Tryd.prog 69 #[.slice A l.length c, .int .u64 (u : Int), .int .i64 36] w0 fun en w' => ∃ A' c', en = .returned (.slice A' (l ++ dig u).length c') ∧ Inv (Ct base A c l).D w0 w' [Ct base A' c' (l ++ dig u)] := by
 have hI := Inv.ownE hR
 refine Vv Tryd.f69.ntmps Tryd.func69 rfl ?_
 refine Ac (Ab (Vf rfl (Aa (Ac (Ac (Ab (V0 rfl (Vh rfl (Aa (Ad false rfl (Ah (Ac (Ab ?_)))))))))))))
 refine V9 rfl (V0 rfl (V0 rfl (Va [.slice _ _ _, .int .u64 _, .int .i64 _, .bool _, .bool _] rfl Tryd.func75 rfl ?_)))
 refine (YE base A c l u _ (hI.ok _ (by simp)) hu hn hb).mono ?_
 rintro e w1 ⟨A', c', rfl, hT⟩
 refine ⟨_, rfl, ?_⟩
 replace hI := hI.turn1 hT
 refine Ta rfl (Vl rfl (Vl rfl (Vf rfl (Aa (Ac (Ab (V9 rfl (Vf rfl (Aa ?_)))))))))
 refine Aj ?_
 exact BD 6 (.inr rfl) rfl ⟨A', c', rfl, hI⟩
section
variable {P : Program} {ρ : Env} {o : Oper} {w : World} {x y : Operand} {t t' : TypeId}
theorem Aa7 {n : Int} (ho : o.op = .unOp .neg t x) (hx : ev ρ x = .int .u64 (IntKind.u64.wrap n)) (h0 : n < 0) (h1 : -9223372036854775808 ≤ n) : Ar P ρ o w (.int .u64 (n.natAbs : Int)) := by
 have h := Aa6 (P := P) (w := w) ho hx
 have e : IntKind.u64.wrap (0 - IntKind.u64.wrap n) = (n.natAbs : Int) := by
  simp [IntKind.wrap, IntKind.signed, IntKind.bits]
  omega
 rwa [e] at h
end
theorem Xh (base : Nat) (A : Option Addr) (c : Nat) (l : List Nat) (n : Int) (w0 : World) (hR : (Ct base A c l).ok w0) (hn : Es n) (hl : l.length ≤ 999999) (hb : base ≤ w0.heap.size) :
  Calls Tryd.prog 64 #[.slice A l.length c, .int .i64 n, .int .i64 36] w0 fun en w' => ∃ A' c', en = .returned (.slice A' (l ++ Cj n).length c') ∧ Inv (Ct base A c l).D w0 w' [Ct base A' c' (l ++ Cj n)] := by
 have hI := Inv.ownE hR
 unfold Es at hn
 refine Vv Tryd.f64.ntmps Tryd.func64 rfl ?_
 refine Ac (Ab (Vf rfl (Aa ?_)))
 by_cases hneg : n < 0
 ·refine Ac (Ab (V0 rfl ?_))
  refine Af rfl rfl rfl (Q5 rfl Tryd.underlying2 Tryd.underlying55 rfl) ?_
  refine V8 rfl (Aa (Ac (Ac (Ab (V0 rfl (Vs rfl (Aa (Ad true rfl (Ac (Ab (V9 rfl (Vk [(0, .int .u8 _)] [_] [.int .u8 0] [0] hI rfl Tryd.underlying113 (fun _ => by kernel_rfl) ?_))))))))))))
  clear hI; rintro b13 w - - hI
  refine EL (z := .int .u8 0) (by_ := 1) hI rfl rfl rfl rfl rfl rfl Tryd.underlying113 (by kernel_rfl) rfl (by omega) (by rfl) hI.lit0 (by rfl) (by omega) (by omega) (by (have := hI.chg.size; omega)) ?_
  clear hI; rintro A14 c14 w hA14 hc14 hI
  replace hI := hI.d0
  refine Vf rfl (Aa ?_)
  replace hI : Inv (Ct base A c l).D w0 w [Ct base A14 c14 (l ++ [45])] := by
   have e : Ct base A14 c14 (l ++ [45]) = Row base 5 1 A14 (l.length + 1) c14 (Jj l ++ [.int .u8 45]) := by
    unfold Ct
    rw [Me, List.length_append]
    rfl
   rw [e]; exact hI
  refine Ab (V0 rfl ?_)
  refine Af rfl rfl rfl (Aa7 (n := n) rfl rfl hneg (by omega)) ?_
  refine V8 rfl (Aa ?_)
  have e : l ++ Cj n = (l ++ [45]) ++ dig n.natAbs := by unfold Cj; rw [if_pos hneg]; simp
  rw [e]
  refine Ac (Ab (V9 rfl (V0 rfl (V0 rfl (Va [.slice _ _ _, .int .u64 _, .int .i64 _] rfl Tryd.func69 rfl ?_)))))
  refine Calls.mono (by have h := Qj base A14 c14 (l ++ [45]) n.natAbs _ (hI.ok _ (by simp)) (by omega) (by simp; omega) (by have := hI.chg.size; omega); rw [List.length_append] at h; exact h) ?_
  rintro e w1 ⟨A', c', rfl, hT⟩
  refine ⟨_, rfl, ?_⟩
  replace hI := hI.turn1 hT
  refine Vf rfl (Aa ?_)
  refine Aj ?_
  exact BD 6 (.inr rfl) rfl ⟨A', c', rfl, hI⟩
 ·obtain ⟨m, rfl⟩ : ∃ m : Nat, n = (m : Int) := ⟨n.toNat, by omega⟩
  refine Ac (Ab (V0 rfl ?_))
  refine Af rfl rfl rfl (by exact Q4 rfl Tryd.underlying2 Tryd.underlying55 rfl (by omega)) ?_
  refine V8 rfl (Aa (Ac (Ac (Ab (V0 rfl (Vp rfl (Aa (Ad false rfl (Ah ?_)))))))))
  have e : l ++ Cj (m : Int) = l ++ dig m := by unfold Cj; rw [if_neg hneg]; simp
  rw [e]
  refine Ac (Ab (V9 rfl (V0 rfl (V0 rfl (Va [.slice _ _ _, .int .u64 _, .int .i64 _] rfl Tryd.func69 rfl ?_)))))
  refine (Qj base A c l m _ (hI.ok _ (by simp)) (by omega) (by omega) (by have := hI.chg.size; omega)).mono ?_
  rintro e w1 ⟨A', c', rfl, hT⟩
  refine ⟨_, rfl, ?_⟩
  replace hI := hI.turn1 hT
  refine Vf rfl (Aa ?_)
  refine Aj ?_
  exact BD 6 (.inr rfl) rfl ⟨A', c', rfl, hI⟩
theorem Xg (base : Nat) (A : Option Addr) (c : Nat) (l : List Nat) (n : Int) (w0 : World) (hR : (Ct base A c l).ok w0) (hn : Es n) (hl : l.length ≤ 999999) (hb : base ≤ w0.heap.size) :
  Calls Tryd.prog 58 #[.slice A l.length c, .int .i64 n, .int .i64 36] w0 fun en w' => ∃ A' c', en = .returned (.slice A' (l ++ Cj n).length c') ∧ Inv (Ct base A c l).D w0 w' [Ct base A' c' (l ++ Cj n)] := by
 have hI := Inv.ownE hR
 refine Vv Tryd.f58.ntmps Tryd.func58 rfl ?_
 refine Ac (Ab (Vf rfl (Aa (Ac (Ab (V9 rfl (V0 rfl (V0 rfl (Va [.slice _ _ _, .int .i64 _, .int .i64 _] rfl Tryd.func64 rfl ?_)))))))))
 refine (Xh base A c l n _ (hI.ok _ (by simp)) hn hl hb).mono ?_
 rintro e w1 ⟨A', c', rfl, hT⟩
 refine ⟨_, rfl, ?_⟩
 replace hI := hI.turn1 hT
 refine Vf rfl (Aa ?_)
 refine Aj ?_
 exact BD 6 (.inr rfl) rfl ⟨A', c', rfl, hI⟩
theorem P9 : ∀ (f u : Nat) (acc : List Nat), (De f u acc).length ≤ acc.length + f + 1
 | 0, u, acc => by simp [De]
 | f + 1, u, acc => by
  rw [De]
  split
  ·simp
  ·have := P9 f (u / 36) (DX (u % 36) :: acc)
   simp at this ⊢
   omega
theorem WE (n : Int) : (Cj n).length ≤ 15 := by
 have h : ∀ u, (dig u).length ≤ 14 := fun u => P9 13 u []
 have := h n.natAbs
 unfold Cj
 split
 ·simp; omega
 ·omega
def BJ (n : Nat) (f : Nat → Bool) : Array Value := ((List.range n).map fun i => Value.bool (f i)).toArray
theorem ER {n : Nat} (f : Nat → Bool) {i : Nat} (hi : i < n) : (BJ n f)[i]? = some (.bool (f i)) := by simp [BJ, hi]
theorem NN {n : Nat} (f : Nat → Bool) (u : Nat) (b : Bool) : (BJ n f).setIfInBounds u (.bool b) = BJ n (fun x => if x = u then b else f x) := by
 apply Array.ext'
 simp only [BJ, Array.toList_setIfInBounds]
 refine List.ext_getElem (by simp) (fun i h1 h2 => ?_)
 simp only [List.getElem_set, List.getElem_map, List.getElem_range]
 by_cases h : u = i
 ·subst h; simp
 ·rw [if_neg h, if_neg (Ne.symm h)]
def Cw (v : Value) : Prop := ∃ u, v = .iface 48 (.int .i64 u)
end Go.Proofs.YtkkmokodaejheaaDoor
namespace Go.Proofs.YtkkmokodaejheaaDoor
open Go
structure Ev where
 proc : Int
 ty : Int
 key : Int
 kind : Int
 a : Int
 b : Int
 res : Int
 deriving DecidableEq
def inB (n lo hi : Int) : Bool := decide (lo ≤ n) && decide (n ≤ hi)
def Hu (proc key : Int) (l : List Int) : Bool := (l.all fun n => inB n (-1000000) 1000000) && inB proc 0 7 && inB key 0 7
def zz (n : Int) : Nat := if 0 ≤ n then (2 * n).toNat else (-2 * n - 1).toNat
def AaU : Nat → Nat → List Nat
 | 0, _ => []
 | f + 1, u => if u < 128 then [u] else (u % 128 + 128) :: AaU f (u / 128)
def Aan (n : Int) : List Nat := AaU 10 (zz n)
def enc (e : Ev) : List Nat := [e.proc.toNat, e.ty.toNat, e.key.toNat, e.kind.toNat] ++ Aan e.a ++ Aan e.b ++ Aan e.res
end Go.Proofs.YtkkmokodaejheaaDoor
namespace Go.Proofs.YtkkmokodaejheaaDoor
open Go.RowKit
theorem Jf (n lo hi : Int) (w : World) : Calls Tryd.prog 60 #[.int .i64 n, .int .i64 lo, .int .i64 hi] w fun e w' => e = .returned (.bool (inB n lo hi)) ∧ w = w' := by
 have hI := Inv.start (fun _ => False) w
 refine Vv Tryd.f60.ntmps Tryd.func60 rfl ?_
 refine Ac (Ab (V6 rfl (Aa ?_)))
 by_cases h : lo ≤ n
 ·refine Ac (Ab (V0 rfl (V0 rfl (Tb rfl (V5 rfl (V0 rfl (V0 rfl ?_)))))))
  refine Af rfl rfl rfl (by exact Z4 rfl rfl rfl) ?_
  refine Vg rfl (V6 rfl (Aa ?_))
  refine Aj ?_
  refine BD 6 (.inr rfl) rfl ⟨?_, rfl⟩
  show Ending.returned (.bool (decide (n ≤ hi))) = _
  simp [inB, h]
 ·refine Ac (Ab (V0 rfl (V0 rfl (Tj rfl (V5 rfl (V4 rfl (V4 rfl (V4 rfl (Vb rfl (V6 rfl (Aa ?_)))))))))))
  refine Aj ?_
  refine BD 6 (.inr rfl) rfl ⟨?_, rfl⟩
  show Ending.returned (.bool false) = _
  simp [inB, h]
set_option maxHeartbeats 1000000 in
theorem O7 (proc key : Int) (A : Option Addr) (n c : Nat) (l : List Int) (D : Nat → Prop) (w0 : World) (h : Ints w0 D (.slice A n c) l) (hl : l.length = n) (hn : n ≤ 1000) :
  Calls Tryd.prog 59 #[.int .i64 proc, .int .i64 key, .slice A n c] w0 fun e w' => e = .returned (.bool (Hu proc key l)) ∧ w0 = w' := by
 have hI := Inv.start (fun _ => False) w0
 refine Vv Tryd.f59.ntmps Tryd.func59 rfl ?_
 refine Ac (Ab (V6 rfl (Aa (Ac (Ac (Ab (V9 rfl (Vj rfl Tryd.underlying24 rfl (V0 rfl (Aa (Am ?_)))))))))))
 refine Iw (fun ρ w => ∃ k : Nat, k ≤ n ∧ Has ρ [(11, .int .i64 k), (10, .int .i64 n), (9, .slice A n c), (0, .int .i64 proc), (1, .int .i64 key)] ∧ (∀ y ∈ l.take k, inB y (-1000000) 1000000 = true) ∧ w = w0) (fun ρ _ => n - cnt (ρ 11))
  ⟨0, by omega, ⟨rfl, rfl, rfl, rfl, rfl, trivial⟩, by simp, rfl⟩ ?_
 rintro ρ w ⟨k, hk, hH, hno, rfl⟩
 obtain ⟨σ, rfl⟩ := hH.open
 by_cases hkn : k < n
 ·obtain ⟨b, o, rfl, _, _, hc⟩ := h.get (k := k) (by omega)
  have hx : l[k]? = some l[k] := List.getElem?_eq_getElem (by omega)
  refine Ac (Ab (Vs rfl (Aa (Ac (Ad true rfl (Ah (Ac (Am (Ac (Ab ?_))))))))))
  refine Af rfl rfl rfl (by exact Ep rfl Tryd.underlying24 (by kernel_rfl) rfl rfl (by omega)) ?_
  refine V2 (.int .i64 _) rfl (hI.oldp hc) (V8 rfl (Aa (Ac (Ab (V0 rfl (Va [.int .i64 _, .int .i64 _, .int .i64 _] rfl Tryd.func60 rfl ?_))))))
  refine (Jf _ _ _ _).mono ?_
  rintro e w1 ⟨rfl, rfl⟩
  refine ⟨_, rfl, ?_⟩
  cases hb : inB l[k] (-1000000) 1000000 with
  | true =>
   refine T5 rfl (Aa (Ad false rfl (Ah (Ab (Vd rfl (V0 rfl (Aa ?_)))))))
   refine ⟨⟨k + 1, by omega, ⟨rfl, rfl, rfl, rfl, rfl, trivial⟩, fun y hy => ?_, rfl⟩, by show n - ((k + 1 : Nat) : Int).toNat < n - (k : Int).toNat; omega⟩
   rw [List.take_succ_eq_append_getElem (by omega)] at hy
   rcases List.mem_append.1 hy with hy | hy
   ·exact hno y hy
   ·rw [List.mem_singleton.1 hy]; exact hb
  | false =>
   refine Tf rfl (Aa (Ad true rfl (Ac (Ab (V6 rfl (Aa ?_))))))
   refine Aj ?_
   refine BD 6 (.inr rfl) rfl ⟨?_, rfl⟩
   have hf : (l.all fun n => inB n (-1000000) 1000000) = false := by
    rw [List.all_eq_false]
    exact ⟨l[k], List.getElem_mem _, by simp [hb]⟩
   show Ending.returned (.bool false) = _
   simp [Hu, hf]
 ·refine Ac (Ab (Vp rfl (Aa (Ac (Ad false rfl ?_)))))
  refine BL ?_
  have hall : (l.all fun n => inB n (-1000000) 1000000) = true := by
   rw [List.take_of_length_le (by omega)] at hno
   exact List.all_eq_true.2 hno
  have ht : Hu proc key l = (inB proc 0 7 && inB key 0 7) := by simp [Hu, hall]
  rw [ht]
  refine Ac (Ab (V0 rfl (Va [.int .i64 _, .int .i64 _, .int .i64 _] rfl Tryd.func60 rfl ?_)))
  refine (Jf _ _ _ _).mono ?_
  rintro e w1 ⟨rfl, rfl⟩
  refine ⟨_, rfl, ?_⟩
  cases hb : inB proc 0 7 with
  | true =>
   refine V5 rfl (V0 rfl (Va [.int .i64 _, .int .i64 _, .int .i64 _] rfl Tryd.func60 rfl ?_))
   refine (Jf _ _ _ _).mono ?_
   rintro e w1 ⟨rfl, rfl⟩
   refine ⟨_, rfl, ?_⟩
   refine Vg rfl (V6 rfl (Aa ?_))
   refine Aj ?_
   exact BD 6 (.inr rfl) rfl ⟨rfl, rfl⟩
  | false =>
   refine V5 rfl (V4 rfl (V4 rfl (Vb rfl (V6 rfl (Aa ?_)))))
   refine Aj ?_
   exact BD 6 (.inr rfl) rfl ⟨rfl, rfl⟩
theorem PT {w : World} {g T n : Nat} {l : List Int} {cs : Array Value} (hb : Blk w g T cs) (h : cs.toList = l.map (Value.int .i64)) (hn : l.length = n) (hle : n ≤ 1000) : Ints w (fun k => k < w.heap.size) (.slice (some ⟨g, 0, none⟩) n n) l := by
 subst hn
 exact ⟨_, _, rfl, Nat.le_refl _, by omega, by simp, fun _ => ⟨g, 0, rfl, hb.lt, fun j u hj => by rw [Nat.zero_add, hb.cell]; rw [← h] at hj; simpa using hj⟩⟩
def Br (p q : Op8) : Bool := decide (0 ≤ p.ret) && decide (p.ret < q.call)
set_option maxHeartbeats 1000000 in
theorem Iq (p0 p1 p2 p3 p4 p5 p6 p7 q0 q1 q2 q3 q4 q5 q6 q7 : Int) (w0 : World) : Calls Tryd.prog 13 #[.agg #[.int .i64 p0, .int .i64 p1, .int .i64 p2, .int .i64 p3, .int .i64 p4, .int .i64 p5, .int .i64 p6, .int .i64 p7], .agg #[.int .i64 q0, .int .i64 q1, .int .i64 q2, .int .i64 q3, .int .i64 q4, .int .i64 q5, .int .i64 q6, .int .i64 q7]] w0 fun en w' => en = .returned (.bool (Br ⟨p0, p1, p2, p3, p4, p5, p6, p7⟩ ⟨q0, q1, q2, q3, q4, q5, q6, q7⟩)) ∧ Pure w0 w' := by
 have hI := Inv.start (fun _ => False) w0
 refine Vv Tryd.f13.ntmps Tryd.func13 rfl ?_
 refine Ac (Ab ?_)
 refine J7 (u := .agg _) (vs := #[_, _, _, _, _, _, _, _]) hI rfl rfl rfl rfl rfl rfl ?_
 clear hI; rintro b2 w - - hI
 refine J7 (u := .agg _) (vs := #[_, _, _, _, _, _, _, _]) hI rfl rfl rfl rfl rfl rfl ?_
 clear hI; rintro b3 w - - hI
 refine V6 rfl (Aa ?_)
 obtain ⟨r, hr⟩ : ∃ r, Br ⟨p0, p1, p2, p3, p4, p5, p6, p7⟩ ⟨q0, q1, q2, q3, q4, q5, q6, q7⟩ = r := ⟨_, rfl⟩
 rw [hr]
 have hr' : (decide (0 ≤ p7) && decide (p7 < q6)) = r := hr
 by_cases h : 0 ≤ p7
 ·rw [decide_eq_true h, Bool.true_and] at hr'
  by_cases h2 : p7 < q6
  ·rw [decide_eq_true h2] at hr'; subst hr'
   refine Ac (Ab (V7 7 rfl (V2 (.int .i64 _) rfl (hI.c1 rfl) (Tb rfl (V5 rfl (V7 7 rfl (V2 (.int .i64 _) rfl (hI.c1 rfl) (V7 6 rfl (V2 (.int .i64 _) rfl (hI.c0 rfl) (Vs rfl (Vg rfl (V6 rfl (Aa ?_)))))))))))))
   refine Aj ?_
   exact BD 4 (.inr rfl) rfl ⟨rfl, hI.pu⟩
  ·rw [decide_eq_false h2] at hr'; subst hr'
   refine Ac (Ab (V7 7 rfl (V2 (.int .i64 _) rfl (hI.c1 rfl) (Tb rfl (V5 rfl (V7 7 rfl (V2 (.int .i64 _) rfl (hI.c1 rfl) (V7 6 rfl (V2 (.int .i64 _) rfl (hI.c0 rfl) (Vp rfl (Vg rfl (V6 rfl (Aa ?_)))))))))))))
   refine Aj ?_
   exact BD 4 (.inr rfl) rfl ⟨rfl, hI.pu⟩
 ·rw [decide_eq_false h, Bool.false_and] at hr'; subst hr'
  refine Ac (Ab (V7 7 rfl (V2 (.int .i64 _) rfl (hI.c1 rfl) (Tj rfl (V5 rfl (V4 rfl (V4 rfl (V4 rfl (V4 rfl (V4 rfl (Vb rfl (V6 rfl (Aa ?_)))))))))))))
  refine Aj ?_
  exact BD 4 (.inr rfl) rfl ⟨rfl, hI.pu⟩
theorem Ir (p q : Op8) (w0 : World) : Calls Tryd.prog 13 #[.agg (opV p).toArray, .agg (opV q).toArray] w0 fun en w' => en = .returned (.bool (Br p q)) ∧ Pure w0 w' := by
 obtain ⟨p0, p1, p2, p3, p4, p5, p6, p7⟩ := p
 obtain ⟨q0, q1, q2, q3, q4, q5, q6, q7⟩ := q
 exact Iq p0 p1 p2 p3 p4 p5 p6 p7 q0 q1 q2 q3 q4 q5 q6 q7 w0
def Nq (o : Op8) (ah : List Op8) : Prop := ¬ (o.call < 0) ∧ ¬ (0 < ah.length ∧ o.call ≤ (oAt ah (ah.length - 1)).call) ∧ ¬ (o.ret ≠ -1 ∧ o.ret ≤ o.call) ∧ ¬ (o.ret = -1 ∧ o.res ≠ 0)
def Ce (o : Op8) (n : Int) : Prop := n ≠ -1 ∧ (n = o.call ∨ n = o.ret)
def OkOp (o : Op8) (ah : List Op8) : Prop :=
 Hu o.proc o.key [o.a, o.b, o.res, o.call, o.ret] = true ∧ inB o.kind 1 12 = true ∧ Nq o ah ∧
  (∀ k, k < ah.length → ¬ Ce o (oAt ah k).call ∧ ¬ Ce o (oAt ah k).ret) ∧ (∀ k, k < ah.length → (oAt ah k).proc = o.proc → Br (oAt ah k) o = true)
def OX (v : Value) : Prop := ∃ u : Int, v = .iface 48 (.int .i64 u) ∧ u ≠ 8
theorem OX.any {v : Value} (h : OX v) : Cw v := by obtain ⟨u, h1, _⟩ := h; exact ⟨u, h1⟩
def Gf (o : Op8) (ah : List Op8) (w0 : World) (en : Ending) (w' : World) : Prop := Pure w0 w' ∧ ((OkOp o ah ∧ en = .returned .nilIface) ∨ (¬ OkOp o ah ∧ ∃ x, OX x ∧ en = .returned x))
theorem Gf.bad {o : Op8} {ah : List Op8} {w0 w' : World} {z : Int} (h : ¬ OkOp o ah) (hp : Pure w0 w') (hz : z ≠ 8 := by decide) : Gf o ah w0 (.returned (.iface 48 (.int .i64 z))) w' := ⟨hp, .inr ⟨h, _, ⟨z, rfl, hz⟩, rfl⟩⟩
set_option maxHeartbeats 4000000 in
theorem Kw (o0 o1 o2 o3 o4 o5 o6 o7 : Int) (A : Option Addr) (n c : Nat) (ah : List Op8) (D : Nat → Prop) (w0 : World) (h : BX w0 D (.slice A n c) ah) (hn40 : n ≤ 1000) :
  Calls Tryd.prog 52 #[.agg #[.int .i64 o0, .int .i64 o1, .int .i64 o2, .int .i64 o3, .int .i64 o4, .int .i64 o5, .int .i64 o6, .int .i64 o7], .slice A n c] w0 (Gf ⟨o0, o1, o2, o3, o4, o5, o6, o7⟩ ah w0) := by
 obtain ⟨hn, hc1, hc2⟩ := h.len
 subst hn
 have hI := Inv.start (fun _ => False) w0
 refine Vv Tryd.f52.ntmps Tryd.func52 rfl ?_
 refine Ac (Ab ?_)
 refine J7 (u := .agg _) (vs := #[_, _, _, _, _, _, _, _]) hI rfl rfl rfl rfl rfl rfl ?_
 clear hI; rintro b2 w - - hI
 refine Vz rfl (Aa (Ac (Ab (V7 7 rfl (V2 (.int .i64 _) rfl (hI.c0 rfl) ?_)))))
 refine Af rfl rfl rfl (Oq rfl rfl rfl) ?_
 refine V6 rfl (Aa (Ac (Am ?_)))
 cases ht : Hu o0 o1 [o3, o4, o5, o6, o7] with
 | false =>
  refine Ac (Ab (V7 0 rfl (V2 (.int .i64 _) rfl (hI.c0 rfl) (V7 1 rfl (V2 (.int .i64 _) rfl (hI.c0 rfl) (V7 3 rfl (V2 (.int .i64 _) rfl (hI.c0 rfl) (V7 4 rfl (V2 (.int .i64 _) rfl (hI.c0 rfl) (V7 5 rfl (V2 (.int .i64 _) rfl (hI.c0 rfl) (V7 6 rfl (V2 (.int .i64 _) rfl (hI.c0 rfl) ?_)))))))))))))
  refine V7 7 rfl (V2 (.int .i64 _) rfl (hI.c0 rfl) (Vk [(0, .int .i64 _), (1, .int .i64 _), (2, .int .i64 _), (3, .int .i64 _), (4, .int .i64 _)] [_, _, _, _, _] [.int .i64 0, .int .i64 0, .int .i64 0, .int .i64 0, .int .i64 0] [0, 1, 2, 3, 4] hI rfl Tryd.underlying24 (fun _ => by kernel_rfl) ?_))
  clear hI; rintro b30 w - - hI
  refine Va [.int .i64 _, .int .i64 _, .slice _ _ _] rfl Tryd.func59 rfl ?_
  refine (O7 o0 o1 _ 5 5 [o3, o4, o5, o6, o7] _ _ (PT hI.g0 rfl rfl (by omega)) rfl (by omega)).mono ?_
  rw [ht]
  rintro e w1 ⟨rfl, rfl⟩
  refine ⟨_, rfl, ?_⟩
  refine Tf rfl (V6 rfl (Aa (Ad true rfl (Ac (Ab ?_)))))
  refine Af rfl rfl rfl (Ex rfl Tryd.underlying48 rfl rfl) ?_
  refine T6 rfl (Aa ?_)
  refine Aj ?_
  exact BD 4 (.inr rfl) rfl (Gf.bad (fun hh => by have := hh.1; rw [show Hu _ _ _ = false from ht] at this; cases this) hI.pu)
 | true =>
 refine Ac (Ab (V7 0 rfl (V2 (.int .i64 _) rfl (hI.c0 rfl) (V7 1 rfl (V2 (.int .i64 _) rfl (hI.c0 rfl) (V7 3 rfl (V2 (.int .i64 _) rfl (hI.c0 rfl) (V7 4 rfl (V2 (.int .i64 _) rfl (hI.c0 rfl) (V7 5 rfl (V2 (.int .i64 _) rfl (hI.c0 rfl) (V7 6 rfl (V2 (.int .i64 _) rfl (hI.c0 rfl) ?_)))))))))))))
 refine V7 7 rfl (V2 (.int .i64 _) rfl (hI.c0 rfl) (Vk [(0, .int .i64 _), (1, .int .i64 _), (2, .int .i64 _), (3, .int .i64 _), (4, .int .i64 _)] [_, _, _, _, _] [.int .i64 0, .int .i64 0, .int .i64 0, .int .i64 0, .int .i64 0] [0, 1, 2, 3, 4] hI rfl Tryd.underlying24 (fun _ => by kernel_rfl) ?_))
 clear hI; rintro b30 w - - hI
 refine Va [.int .i64 _, .int .i64 _, .slice _ _ _] rfl Tryd.func59 rfl ?_
 refine (O7 o0 o1 _ 5 5 [o3, o4, o5, o6, o7] _ _ (PT hI.g0 rfl rfl (by omega)) rfl (by omega)).mono ?_
 rw [ht]
 rintro e w1 ⟨rfl, rfl⟩
 refine ⟨_, rfl, ?_⟩
 refine T5 rfl (V6 rfl (Aa (Ad false rfl ?_)))
 replace hI := hI.d0
 cases hkd : inB o2 1 12 with
 | false =>
  refine Ac (Ab (V7 2 rfl (V2 (.int .i64 _) rfl (hI.c0 rfl) (Va [.int .i64 _, .int .i64 _, .int .i64 _] rfl Tryd.func60 rfl ?_))))
  refine (Jf o2 1 12 _).mono ?_
  rw [hkd]
  rintro e w1 ⟨rfl, rfl⟩
  refine ⟨_, rfl, ?_⟩
  refine Tf rfl (V6 rfl (Aa (Ad true rfl (Ac (Ab ?_)))))
  refine Af rfl rfl rfl (Ex rfl Tryd.underlying48 rfl rfl) ?_
  refine T6 rfl (Aa ?_)
  refine Aj ?_
  exact BD 4 (.inr rfl) rfl (Gf.bad (fun hh => by have := hh.2.1; rw [show inB _ _ _ = false from hkd] at this; cases this) hI.pu)
 | true =>
 refine Ac (Ab (V7 2 rfl (V2 (.int .i64 _) rfl (hI.c0 rfl) (Va [.int .i64 _, .int .i64 _, .int .i64 _] rfl Tryd.func60 rfl ?_))))
 refine (Jf o2 1 12 _).mono ?_
 rw [hkd]
 rintro e w1 ⟨rfl, rfl⟩
 refine ⟨_, rfl, ?_⟩
 refine T5 rfl (V6 rfl (Aa (Ad false rfl ?_)))
 refine Bw (fun ρ w => ∃ bb : Bool, (bb = true ↔ ¬ Nq ⟨o0, o1, o2, o3, o4, o5, o6, o7⟩ ah) ∧ Has ρ [(40, .bool bb), (1, .slice A ah.length c), (2, .pointer (some ⟨b2, 0, none⟩))] ∧ Inv (fun _ => False) w0 w [B b2 63 #[.int .i64 o0, .int .i64 o1, .int .i64 o2, .int .i64 o3, .int .i64 o4, .int .i64 o5, .int .i64 o6, .int .i64 o7]]) ?_ ?_
 ·by_cases c1 : o6 < 0
  ·refine Ac (Ab (V7 6 rfl (V2 (.int .i64 _) rfl (hI.c0 rfl) (Vs rfl (V6 rfl (Aa (Ad true rfl (Ah ?_))))))))
   exact ⟨true, by simp; exact fun hh => hh.1 c1, ⟨rfl, rfl, rfl, trivial⟩, hI⟩
  refine Ac (Ab (V7 6 rfl (V2 (.int .i64 _) rfl (hI.c0 rfl) (Vp rfl (V6 rfl (Aa (Ad false rfl ?_)))))))
  obtain ⟨lb, hlb⟩ : ∃ lb : Bool, (lb = true ↔ (0 < ah.length ∧ o6 ≤ (oAt ah (ah.length - 1)).call)) := ⟨decide (0 < ah.length ∧ o6 ≤ (oAt ah (ah.length - 1)).call), by simp⟩
  refine Bw (fun ρ w => Has ρ [(40, .bool lb), (1, .slice A ah.length c), (2, .pointer (some ⟨b2, 0, none⟩)), (5, .bool (decide (o7 = -1)))] ∧ Inv (fun _ => False) w0 w [B b2 63 #[.int .i64 o0, .int .i64 o1, .int .i64 o2, .int .i64 o3, .int .i64 o4, .int .i64 o5, .int .i64 o6, .int .i64 o7]]) ?_ ?_
  ·rcases Nat.eq_zero_or_pos ah.length with h0 | h0
   ·have : lb = false := by
     cases lb
     ·rfl
     ·have := hlb.1 rfl; omega
    subst this
    refine BH (by kernel_rfl) ?_
    refine BI (T := []) hI.drew ?_
    intro Sx hSx hXS
    replace hI := hI.drew
    refine Vw 0 (hXS _ hI) rfl ?_
    refine Ae 1 rfl rfl (by kernel_rfl) (hXS _ hI) rfl (fun W hW => have hI := hSx W hW; (Pt rfl Tryd.underlying22 rfl)) ?_
    refine Ae 2 rfl rfl (by kernel_rfl) (hXS _ hI) rfl (fun W hW => have hI := hSx W hW; (by exact Kl rfl rfl rfl (by omega))) ?_
    refine Tl 3 (hXS _ hI) rfl (Vn 4 rfl (hXS _ hI) rfl (Vn 5 rfl (hXS _ hI) rfl (Vn 6 rfl (hXS _ hI) rfl (Vn 7 rfl (hXS _ hI) rfl (Vn 8 rfl (hXS _ hI) rfl (Vn 9 rfl (hXS _ hI) rfl (Vn 10 rfl (hXS _ hI) rfl (Vn 11 rfl (hXS _ hI) rfl (Vn 12 rfl (hXS _ hI) rfl (Vn 13 rfl (hXS _ hI) rfl ?_))))))))))
    refine Ae 14 rfl rfl (by kernel_rfl) (hXS _ hI) rfl (fun W hW => have hI := hSx W hW; (by exact IZ rfl rfl rfl)) ?_
    refine Ae 15 rfl rfl (by kernel_rfl) (hXS _ hI) rfl (fun W hW => have hI := hSx W hW; (by exact JL rfl rfl)) ?_
    refine Av (by kernel_rfl) ?_
    exact ⟨⟨rfl, rfl, rfl, rfl, trivial⟩, hI⟩
   ·obtain ⟨ab, ao, rfl, hoc⟩ := h.at (show ah.length - 1 < ah.length by omega)
    have hcl := hoc 6 _ rfl
    by_cases hle : o6 ≤ (oAt ah (ah.length - 1)).call
    ·have : lb = true := hlb.2 ⟨h0, hle⟩
     subst this
     refine BH (by kernel_rfl) ?_
     refine BI (T := []) hI.drew ?_
     intro Sx hSx hXS
     replace hI := hI.drew
     refine Vw 0 (hXS _ hI) rfl ?_
     refine Ae 1 rfl rfl (by kernel_rfl) (hXS _ hI) rfl (fun W hW => have hI := hSx W hW; (Pt rfl Tryd.underlying22 rfl)) ?_
     refine Ae 2 rfl rfl (by kernel_rfl) (hXS _ hI) rfl (fun W hW => have hI := hSx W hW; (by exact Ni rfl rfl rfl (by omega))) ?_
     refine Tl 3 (hXS _ hI) rfl (Vq 4 6 (hXS _ hI) rfl (Vi 5 (.int .i64 _) (hXS _ hI) rfl (fun W hW => (hSx W hW).c0 rfl) (Vw 6 (hXS _ hI) rfl (Vw 7 (hXS _ hI) rfl ?_))))
     refine Ae 8 rfl rfl (by kernel_rfl) (hXS _ hI) rfl (fun W hW => have hI := hSx W hW; (Pt rfl Tryd.underlying22 rfl)) ?_
     refine Ae 9 rfl rfl (by kernel_rfl) (hXS _ hI) rfl (fun W hW => have hI := hSx W hW; (Nj (a := ah.length) (b := 1) rfl rfl rfl (by omega) (by omega))) ?_
     refine Ae 10 rfl rfl (by kernel_rfl) (hXS _ hI) rfl (fun W hW => have hI := hSx W hW; (MF (sz := 8) (i := ah.length - 1) rfl Tryd.underlying22 (by kernel_rfl) rfl rfl (by omega))) ?_
     refine Ae 11 rfl rfl (by kernel_rfl) (hXS _ hI) rfl (fun W hW => have hI := hSx W hW; (by exact Z6 (off := 6) rfl (by kernel_rfl) rfl)) ?_
     refine Vi 12 (.int .i64 _) (hXS _ hI) rfl (fun W hW => (hSx W hW).oldp hcl) ?_
     refine Ae 13 rfl rfl (by kernel_rfl) (hXS _ hI) rfl (fun W hW => have hI := hSx W hW; (by exact Nh rfl rfl rfl (by omega))) ?_
     refine Ae 14 rfl rfl (by kernel_rfl) (hXS _ hI) rfl (fun W hW => have hI := hSx W hW; (by exact Fp rfl rfl rfl)) ?_
     refine Ae 15 rfl rfl (by kernel_rfl) (hXS _ hI) rfl (fun W hW => have hI := hSx W hW; (by exact JL rfl rfl)) ?_
     refine Av (by kernel_rfl) ?_
     exact ⟨⟨rfl, rfl, rfl, rfl, trivial⟩, hI⟩
    ·have : lb = false := by
      cases lb
      ·rfl
      ·exact absurd (hlb.1 rfl).2 hle
     subst this
     refine BH (by kernel_rfl) ?_
     refine BI (T := []) hI.drew ?_
     intro Sx hSx hXS
     replace hI := hI.drew
     refine Vw 0 (hXS _ hI) rfl ?_
     refine Ae 1 rfl rfl (by kernel_rfl) (hXS _ hI) rfl (fun W hW => have hI := hSx W hW; (Pt rfl Tryd.underlying22 rfl)) ?_
     refine Ae 2 rfl rfl (by kernel_rfl) (hXS _ hI) rfl (fun W hW => have hI := hSx W hW; (by exact Ni rfl rfl rfl (by omega))) ?_
     refine Tl 3 (hXS _ hI) rfl (Vq 4 6 (hXS _ hI) rfl (Vi 5 (.int .i64 _) (hXS _ hI) rfl (fun W hW => (hSx W hW).c0 rfl) (Vw 6 (hXS _ hI) rfl (Vw 7 (hXS _ hI) rfl ?_))))
     refine Ae 8 rfl rfl (by kernel_rfl) (hXS _ hI) rfl (fun W hW => have hI := hSx W hW; (Pt rfl Tryd.underlying22 rfl)) ?_
     refine Ae 9 rfl rfl (by kernel_rfl) (hXS _ hI) rfl (fun W hW => have hI := hSx W hW; (Nj (a := ah.length) (b := 1) rfl rfl rfl (by omega) (by omega))) ?_
     refine Ae 10 rfl rfl (by kernel_rfl) (hXS _ hI) rfl (fun W hW => have hI := hSx W hW; (MF (sz := 8) (i := ah.length - 1) rfl Tryd.underlying22 (by kernel_rfl) rfl rfl (by omega))) ?_
     refine Ae 11 rfl rfl (by kernel_rfl) (hXS _ hI) rfl (fun W hW => have hI := hSx W hW; (by exact Z6 (off := 6) rfl (by kernel_rfl) rfl)) ?_
     refine Vi 12 (.int .i64 _) (hXS _ hI) rfl (fun W hW => (hSx W hW).oldp hcl) ?_
     refine Ae 13 rfl rfl (by kernel_rfl) (hXS _ hI) rfl (fun W hW => have hI := hSx W hW; (by exact RU rfl rfl rfl (by omega))) ?_
     refine Ae 14 rfl rfl (by kernel_rfl) (hXS _ hI) rfl (fun W hW => have hI := hSx W hW; (by exact Fp rfl rfl rfl)) ?_
     refine Ae 15 rfl rfl (by kernel_rfl) (hXS _ hI) rfl (fun W hW => have hI := hSx W hW; (by exact JL rfl rfl)) ?_
     refine Av (by kernel_rfl) ?_
     exact ⟨⟨rfl, rfl, rfl, rfl, trivial⟩, hI⟩
  clear hI
  rintro ρ w ⟨hH, hI⟩
  obtain ⟨σ, rfl⟩ := hH.open
  cases lb with
  | true =>
   refine Ad true rfl (Ah ?_)
   exact ⟨true, by simp; exact fun hh => hh.2.1 (hlb.1 rfl), ⟨rfl, rfl, rfl, trivial⟩, hI⟩
  | false =>
  have hnl : ¬ (0 < ah.length ∧ o6 ≤ (oAt ah (ah.length - 1)).call) := fun hh => by have := hlb.2 hh; cases this
  refine Ad false rfl ?_
  by_cases hu : o7 = -1
  ·rw [decide_eq_true hu]
   refine Ac (Ab (V5 rfl (T5 rfl (V5 rfl (V4 rfl (V4 rfl (V4 rfl (V4 rfl (V4 rfl (Vb rfl (V6 rfl (Aa (Ad false rfl ?_)))))))))))))
   by_cases hres : o5 = 0
   ·refine Ab (V5 rfl (V5 rfl (V7 5 rfl (V2 (.int .i64 _) rfl (hI.c0 rfl) (Tc rfl (Vg rfl (V6 rfl (Aa ?_))))))))
    exact ⟨false, by simp; exact ⟨by exact c1, hnl, fun hh => hh.1 hu, fun hh => hh.2 hres⟩, ⟨rfl, rfl, rfl, trivial⟩, hI⟩
   ·refine Ab (V5 rfl (V5 rfl (V7 5 rfl (V2 (.int .i64 _) rfl (hI.c0 rfl) (Tp rfl (Vg rfl (V6 rfl (Aa ?_))))))))
    exact ⟨true, by simp; exact fun hh => hh.2.2.2 ⟨hu, hres⟩, ⟨rfl, rfl, rfl, trivial⟩, hI⟩
  ·rw [decide_eq_false hu]
   by_cases hrc : o7 ≤ o6
   ·refine Ac (Ab (V5 rfl (Tf rfl (V5 rfl (V7 7 rfl (V2 (.int .i64 _) rfl (hI.c0 rfl) (V7 6 rfl (V2 (.int .i64 _) rfl (hI.c0 rfl) ?_))))))))
    refine Af rfl rfl rfl (by exact Nh rfl rfl rfl (by omega)) ?_
    refine Vg rfl (V6 rfl (Aa (Ad true rfl (Ah ?_))))
    exact ⟨true, by simp; exact fun hh => hh.2.2.1 ⟨hu, hrc⟩, ⟨rfl, rfl, rfl, trivial⟩, hI⟩
   ·refine Ac (Ab (V5 rfl (Tf rfl (V5 rfl (V7 7 rfl (V2 (.int .i64 _) rfl (hI.c0 rfl) (V7 6 rfl (V2 (.int .i64 _) rfl (hI.c0 rfl) ?_))))))))
    refine Af rfl rfl rfl (by exact RU rfl rfl rfl (by omega)) ?_
    refine Vg rfl (V6 rfl (Aa (Ad false rfl (Ab (V5 rfl (V5 rfl (V4 rfl (V4 rfl (V4 rfl (Vb rfl (V6 rfl (Aa ?_))))))))))))
    exact ⟨false, by simp; exact ⟨by exact c1, hnl, fun hh => hrc hh.2, fun hh => hu hh.1⟩, ⟨rfl, rfl, rfl, trivial⟩, hI⟩
 clear hI
 rintro ρ w ⟨bb, hbb, hH, hI⟩
 obtain ⟨σ, rfl⟩ := hH.open
 cases bb with
 | true =>
  refine Ad true rfl (Ac (Ab ?_))
  refine Af rfl rfl rfl (Ex rfl Tryd.underlying48 rfl rfl) ?_
  refine T6 rfl (Aa ?_)
  refine Aj ?_
  exact BD 4 (.inr rfl) rfl (Gf.bad (fun hh => hbb.1 rfl hh.2.2.1) hI.pu)
 | false =>
 have hord : Nq ⟨o0, o1, o2, o3, o4, o5, o6, o7⟩ ah := by
  rcases Classical.em (Nq ⟨o0, o1, o2, o3, o4, o5, o6, o7⟩ ah) with h1 | h1
  ·exact h1
  ·have := hbb.2 h1; cases this
 refine Ad false rfl (Ah ?_)
 refine Bw (fun ρ w => (∀ k, k < ah.length → ¬ Ce ⟨o0, o1, o2, o3, o4, o5, o6, o7⟩ (oAt ah k).call ∧ ¬ Ce ⟨o0, o1, o2, o3, o4, o5, o6, o7⟩ (oAt ah k).ret) ∧ Has ρ [(1, .slice A ah.length c), (2, .pointer (some ⟨b2, 0, none⟩))] ∧ Inv (fun _ => False) w0 w [B b2 63 #[.int .i64 o0, .int .i64 o1, .int .i64 o2, .int .i64 o3, .int .i64 o4, .int .i64 o5, .int .i64 o6, .int .i64 o7]]) ?_ ?_
 ·refine Ac (Ab (V9 rfl (Vj rfl Tryd.underlying22 rfl (V0 rfl (Aa (Am ?_))))))
  refine BS (fun mu ρ w => ∃ k : Nat, mu = ah.length - k ∧ k ≤ ah.length ∧ (∀ j, j < k → ¬ Ce ⟨o0, o1, o2, o3, o4, o5, o6, o7⟩ (oAt ah j).call ∧ ¬ Ce ⟨o0, o1, o2, o3, o4, o5, o6, o7⟩ (oAt ah j).ret) ∧ Has ρ [(77, .int .i64 (k : Int)), (76, .int .i64 (ah.length : Int)), (75, .slice A ah.length c), (1, .slice A ah.length c), (2, .pointer (some ⟨b2, 0, none⟩))] ∧ Inv (fun _ => False) w0 w [B b2 63 #[.int .i64 o0, .int .i64 o1, .int .i64 o2, .int .i64 o3, .int .i64 o4, .int .i64 o5, .int .i64 o6, .int .i64 o7]]) ah.length
   ⟨0, rfl, by omega, fun j hj => by omega, ⟨rfl, rfl, rfl, rfl, rfl, trivial⟩, hI⟩ ?_
  clear hI
  rintro mu ρ w ⟨k, rfl, hk, hall, hH, hI⟩
  obtain ⟨σ, rfl⟩ := hH.open
  by_cases hkl : k < ah.length
  rotate_left
  ·obtain rfl : k = ah.length := by omega
   refine Ac (Ab (Vp rfl (Aa (Ac (Ad false rfl ?_)))))
   refine BL ?_
   exact ⟨hall, ⟨rfl, rfl, trivial⟩, hI⟩
  obtain ⟨ab, ao, rfl, hoc⟩ := h.at hkl
  generalize hpk : oAt ah k = pk at hoc
  obtain ⟨p0, p1, p2, p3, p4, p5, p6, p7⟩ := pk
  refine Ac (Ab (Vs rfl (Aa (Ac (Ad true rfl (Ah ?_))))))
  refine Bw (fun ρ w => (¬ Ce ⟨o0, o1, o2, o3, o4, o5, o6, o7⟩ p6 ∧ ¬ Ce ⟨o0, o1, o2, o3, o4, o5, o6, o7⟩ p7) ∧ Has ρ [(77, .int .i64 (k : Int)), (76, .int .i64 (ah.length : Int)), (75, .slice (some ⟨ab, ao, none⟩) ah.length c), (1, .slice (some ⟨ab, ao, none⟩) ah.length c), (2, .pointer (some ⟨b2, 0, none⟩))] ∧ Inv (fun _ => False) w0 w [B b2 63 #[.int .i64 o0, .int .i64 o1, .int .i64 o2, .int .i64 o3, .int .i64 o4, .int .i64 o5, .int .i64 o6, .int .i64 o7]]) ?_ ?_
  rotate_left
  ·clear hI
   rintro ρ w ⟨hno, hH, hI⟩
   obtain ⟨σ, rfl⟩ := hH.open
   refine Ab (Vd rfl (V0 rfl (Aa ?_)))
   refine ⟨ah.length - (k + 1), by omega, k + 1, rfl, by omega, fun j hj => ?_, ⟨rfl, rfl, rfl, rfl, rfl, trivial⟩, hI⟩
   rcases Nat.lt_or_ge j k with h1 | h1
   ·exact hall j h1
   ·obtain rfl : j = k := by omega
    rw [hpk]; exact hno
  refine Am (Ac (Ab (Tk 8 rfl Tryd.underlying22 rfl (Tm 8 rfl (by rfl) (fun k u hk => hI.oldp (hoc k u hk)) (Vt (.agg #[.int .i64 0, .int .i64 0, .int .i64 0, .int .i64 0, .int .i64 0, .int .i64 0, .int .i64 0, .int .i64 0]) (#[.int .i64 0, .int .i64 0, .int .i64 0, .int .i64 0, .int .i64 0, .int .i64 0, .int .i64 0, .int .i64 0]) hI rfl ?_)))))
  clear hI; rintro b7 w - - hI
  refine Vx 8 (#[_, _, _, _, _, _, _, _]) (.agg _) hI rfl ?_
  clear hI; intro w hI
  refine Aa ?_
  simp only [opV] at hI
  refine Ac (Ab (V7 6 rfl (V2 (.int .i64 _) rfl (hI.c0 rfl) (V7 7 rfl (V2 (.int .i64 _) rfl (hI.c0 rfl) (Vk [(0, .int .i64 _), (1, .int .i64 _)] [_, _] [.int .i64 0, .int .i64 0] [0, 1] hI rfl Tryd.underlying24 (fun _ => by kernel_rfl) ?_))))))
  clear hI; rintro b85 w - - hI
  refine Vj rfl Tryd.underlying24 rfl (V0 rfl (Aa (Am ?_)))
  refine BS (fun mu ρ w => ∃ m : Nat, mu = 2 - m ∧ m ≤ 2 ∧ (0 < m → ¬ Ce ⟨o0, o1, o2, o3, o4, o5, o6, o7⟩ p6) ∧ (1 < m → ¬ Ce ⟨o0, o1, o2, o3, o4, o5, o6, o7⟩ p7) ∧ Has ρ [(87, .int .i64 (m : Int)), (86, .int .i64 2), (85, .slice (some ⟨b85, 0, none⟩) 2 2), (77, .int .i64 (k : Int)), (76, .int .i64 (ah.length : Int)), (75, .slice (some ⟨ab, ao, none⟩) ah.length c), (1, .slice (some ⟨ab, ao, none⟩) ah.length c), (2, .pointer (some ⟨b2, 0, none⟩))] ∧ Inv (fun _ => False) w0 w [B b85 3 #[.int .i64 p6, .int .i64 p7], B b2 63 #[.int .i64 o0, .int .i64 o1, .int .i64 o2, .int .i64 o3, .int .i64 o4, .int .i64 o5, .int .i64 o6, .int .i64 o7]]) 2
   ⟨0, rfl, by omega, fun h => by omega, fun h => by omega, ⟨rfl, rfl, rfl, rfl, rfl, rfl, rfl, rfl, trivial⟩, hI.d1⟩ ?_
  clear hI
  rintro mu ρ w ⟨m, rfl, hm, hm0, hm1, hH, hI⟩
  obtain ⟨σ, rfl⟩ := hH.open
  by_cases hm2 : m < 2
  rotate_left
  ·obtain rfl : m = 2 := by omega
   refine Ac (Ab (Vp rfl (Aa (Ac (Ad false rfl ?_)))))
   refine BL ?_
   exact ⟨⟨hm0 (by omega), hm1 (by omega)⟩, ⟨rfl, rfl, rfl, rfl, rfl, trivial⟩, hI.d0⟩
  obtain ⟨z, hz, hzt⟩ : ∃ z : Int, (#[.int .i64 p6, .int .i64 p7] : Array Value)[m]? = some (.int .i64 z) ∧ (z = p6 ∧ m = 0 ∨ z = p7 ∧ m = 1) := by
   match m, hm2 with
   | 0, _ => exact ⟨p6, rfl, .inl ⟨rfl, rfl⟩⟩
   | 1, _ => exact ⟨p7, rfl, .inr ⟨rfl, rfl⟩⟩
  refine Ac (Ab (Vs rfl (Aa (Ac (Ad true rfl (Ah (Ac (Am (Ac (Ab (Tg rfl Tryd.underlying24 rfl (V2 (.int .i64 _) rfl (hI.c0 hz) (V8 rfl ?_)))))))))))))
  refine Aa ?_
  have hbadz : Ce ⟨o0, o1, o2, o3, o4, o5, o6, o7⟩ z → ¬ OkOp ⟨o0, o1, o2, o3, o4, o5, o6, o7⟩ ah := fun ht hh => by
   have := hh.2.2.2.1 k hkl
   rw [hpk] at this
   rcases hzt with ⟨rfl, _⟩ | ⟨rfl, _⟩
   ·exact this.1 ht
   ·exact this.2 ht
  have hgo : ¬ Ce ⟨o0, o1, o2, o3, o4, o5, o6, o7⟩ z → (0 < m + 1 → ¬ Ce ⟨o0, o1, o2, o3, o4, o5, o6, o7⟩ p6) ∧ (1 < m + 1 → ¬ Ce ⟨o0, o1, o2, o3, o4, o5, o6, o7⟩ p7) := fun hnt => by
   rcases hzt with ⟨rfl, rfl⟩ | ⟨rfl, rfl⟩
   ·exact ⟨fun _ => hnt, fun h => by omega⟩
   ·exact ⟨fun _ => hm0 (by omega), fun _ => hnt⟩
  by_cases z1 : z = -1
  ·have hnt : ¬ Ce ⟨o0, o1, o2, o3, o4, o5, o6, o7⟩ z := fun ht => ht.1 z1
   refine Ac (Ab (V0 rfl (Tc rfl (V5 rfl (V4 rfl (V4 rfl (V4 rfl (V4 rfl (V4 rfl (V4 rfl (V4 rfl (V4 rfl (V4 rfl ?_)))))))))))))
   refine V4 rfl (Vb rfl (Aa (Ad false rfl (Ah (Ab (Vd rfl (V0 rfl (Aa ?_))))))))
   exact ⟨2 - (m + 1), by omega, m + 1, rfl, by omega, (hgo hnt).1, (hgo hnt).2, ⟨rfl, rfl, rfl, rfl, rfl, rfl, rfl, rfl, trivial⟩, hI⟩
  by_cases z2 : z = o6
  ·refine Ac (Ab (V0 rfl (Tp rfl (V5 rfl (V0 rfl (V7 6 rfl (V2 (.int .i64 _) rfl (hI.c1 rfl) (Vy rfl (V5 rfl (V4 rfl (V4 rfl (V4 rfl (V4 rfl ?_)))))))))))))
   refine Vg rfl (Vg rfl (Aa (Ad true rfl (Ac (Ab ?_)))))
   refine Af rfl rfl rfl (Ex rfl Tryd.underlying48 rfl rfl) ?_
   refine T6 rfl (Aa ?_)
   refine Aj ?_
   exact BD 4 (.inr rfl) rfl (Gf.bad (hbadz ⟨z1, .inl z2⟩) hI.pu)
  by_cases z3 : z = o7
  ·refine Ac (Ab (V0 rfl (Tp rfl (V5 rfl (V0 rfl (V7 6 rfl (V2 (.int .i64 _) rfl (hI.c1 rfl) (Vh rfl (V5 rfl (V0 rfl (V7 7 rfl (V2 (.int .i64 _) rfl (hI.c1 rfl) (Vy rfl ?_)))))))))))))
   refine Vb rfl (Vg rfl (Aa (Ad true rfl (Ac (Ab ?_)))))
   refine Af rfl rfl rfl (Ex rfl Tryd.underlying48 rfl rfl) ?_
   refine T6 rfl (Aa ?_)
   refine Aj ?_
   exact BD 4 (.inr rfl) rfl (Gf.bad (hbadz ⟨z1, .inr z3⟩) hI.pu)
  have hnt : ¬ Ce ⟨o0, o1, o2, o3, o4, o5, o6, o7⟩ z := fun ht => by rcases ht.2 with h1 | h1; exact z2 h1; exact z3 h1
  refine Ac (Ab (V0 rfl (Tp rfl (V5 rfl (V0 rfl (V7 6 rfl (V2 (.int .i64 _) rfl (hI.c1 rfl) (Vh rfl (V5 rfl (V0 rfl (V7 7 rfl (V2 (.int .i64 _) rfl (hI.c1 rfl) (Vh rfl ?_)))))))))))))
  refine Vb rfl (Vg rfl (Aa (Ad false rfl (Ah (Ab (Vd rfl (V0 rfl (Aa ?_))))))))
  exact ⟨2 - (m + 1), by omega, m + 1, rfl, by omega, (hgo hnt).1, (hgo hnt).2, ⟨rfl, rfl, rfl, rfl, rfl, rfl, rfl, rfl, trivial⟩, hI⟩
 clear hI
 rintro ρ w ⟨hall1, hH, hI⟩
 obtain ⟨σ, rfl⟩ := hH.open
 refine Ac (Ac (Ab (V9 rfl (Vj rfl Tryd.underlying22 rfl (V0 rfl (Aa (Am ?_)))))))
 refine BS (fun mu ρ w => ∃ k : Nat, mu = ah.length - k ∧ k ≤ ah.length ∧ (∀ j, j < k → (oAt ah j).proc = o0 → Br (oAt ah j) ⟨o0, o1, o2, o3, o4, o5, o6, o7⟩ = true) ∧ Has ρ [(110, .int .i64 (k : Int)), (109, .int .i64 (ah.length : Int)), (108, .slice A ah.length c), (2, .pointer (some ⟨b2, 0, none⟩))] ∧ Inv (fun _ => False) w0 w [B b2 63 #[.int .i64 o0, .int .i64 o1, .int .i64 o2, .int .i64 o3, .int .i64 o4, .int .i64 o5, .int .i64 o6, .int .i64 o7]]) ah.length
  ⟨0, rfl, by omega, fun j hj => by omega, ⟨rfl, rfl, rfl, rfl, trivial⟩, hI⟩ ?_
 clear hI
 rintro mu ρ w ⟨k, rfl, hk, hall, hH, hI⟩
 obtain ⟨σ, rfl⟩ := hH.open
 by_cases hkl : k < ah.length
 rotate_left
 ·obtain rfl : k = ah.length := by omega
  refine Ac (Ab (Vp rfl (Aa (Ac (Ad false rfl ?_)))))
  refine BL ?_
  refine Ac (Ab (Vz rfl (Aa ?_)))
  refine Aj ?_
  exact BD 4 (.inr rfl) rfl ⟨hI.pu, .inl ⟨⟨ht, hkd, hord, hall1, hall⟩, rfl⟩⟩
 obtain ⟨ab, ao, rfl, hoc⟩ := h.at hkl
 generalize hpk : oAt ah k = pk at hoc
 obtain ⟨p0, p1, p2, p3, p4, p5, p6, p7⟩ := pk
 refine Ac (Ab (Vs rfl (Aa (Ac (Ad true rfl (Ah (Ac (Am (Ac (Ab (Tk 8 rfl Tryd.underlying22 rfl (Tm 8 rfl (by rfl) (fun k u hk => hI.oldp (hoc k u hk)) (Vt (.agg #[.int .i64 0, .int .i64 0, .int .i64 0, .int .i64 0, .int .i64 0, .int .i64 0, .int .i64 0, .int .i64 0]) (#[.int .i64 0, .int .i64 0, .int .i64 0, .int .i64 0, .int .i64 0, .int .i64 0, .int .i64 0, .int .i64 0]) hI rfl ?_)))))))))))))
 clear hI; rintro b11 w - - hI
 refine Vx 8 (#[_, _, _, _, _, _, _, _]) (.agg _) hI rfl ?_
 clear hI; intro w hI
 refine Aa ?_
 simp only [opV] at hI
 have hnext : (p0 = o0 → Br ⟨p0, p1, p2, p3, p4, p5, p6, p7⟩ ⟨o0, o1, o2, o3, o4, o5, o6, o7⟩ = true) → ∀ j, j < k + 1 → (oAt ah j).proc = o0 → Br (oAt ah j) ⟨o0, o1, o2, o3, o4, o5, o6, o7⟩ = true := fun hb j hj => by
  rcases Nat.lt_or_ge j k with h1 | h1
  ·exact hall j h1
  ·obtain rfl : j = k := by omega
   rw [hpk]; exact hb
 by_cases hpp : p0 = o0
 ·cases hbf : Br ⟨p0, p1, p2, p3, p4, p5, p6, p7⟩ ⟨o0, o1, o2, o3, o4, o5, o6, o7⟩ with
  | true =>
   refine Ac (Ab (V7 0 rfl (V2 (.int .i64 _) rfl (hI.c0 rfl) (V7 0 rfl (V2 (.int .i64 _) rfl (hI.c1 rfl) (Vy rfl (V5 rfl (Tn 8 rfl hI.g0 (Tn 8 rfl hI.g1 (Va [.agg _, .agg _] rfl Tryd.func13 rfl ?_))))))))))
   refine (Iq p0 p1 p2 p3 p4 p5 p6 p7 o0 o1 o2 o3 o4 o5 o6 o7 _).mono ?_
   rw [hbf]
   rintro e w1 ⟨rfl, hp⟩
   refine ⟨_, rfl, ?_⟩
   replace hI := hI.pure hp
   refine T5 rfl (Vg rfl (Aa (Ad false rfl (Ah ?_))))
   replace hI := hI.d0
   refine Ab (Vd rfl (V0 rfl (Aa ?_)))
   exact ⟨ah.length - (k + 1), by omega, k + 1, rfl, by omega, hnext (fun _ => hbf), ⟨rfl, rfl, rfl, rfl, trivial⟩, hI⟩
  | false =>
   refine Ac (Ab (V7 0 rfl (V2 (.int .i64 _) rfl (hI.c0 rfl) (V7 0 rfl (V2 (.int .i64 _) rfl (hI.c1 rfl) (Vy rfl (V5 rfl (Tn 8 rfl hI.g0 (Tn 8 rfl hI.g1 (Va [.agg _, .agg _] rfl Tryd.func13 rfl ?_))))))))))
   refine (Iq p0 p1 p2 p3 p4 p5 p6 p7 o0 o1 o2 o3 o4 o5 o6 o7 _).mono ?_
   rw [hbf]
   rintro e w1 ⟨rfl, hp⟩
   refine ⟨_, rfl, ?_⟩
   replace hI := hI.pure hp
   refine Tf rfl (Vg rfl (Aa (Ad true rfl (Ac (Ab ?_)))))
   refine Af rfl rfl rfl (Ex rfl Tryd.underlying48 rfl rfl) ?_
   refine T6 rfl (Aa ?_)
   refine Aj ?_
   exact BD 4 (.inr rfl) rfl (Gf.bad (fun hh => by have := hh.2.2.2.2 k hkl (by rw [hpk]; exact hpp); rw [hpk, hbf] at this; cases this) hI.pu)
 ·refine Ac (Ab (V7 0 rfl (V2 (.int .i64 _) rfl (hI.c0 rfl) (V7 0 rfl (V2 (.int .i64 _) rfl (hI.c1 rfl) (Vh rfl (V5 rfl (V4 rfl (V4 rfl (V4 rfl (V4 rfl (Vb rfl (Aa ?_)))))))))))))
  refine Ad false rfl (Ah ?_)
  replace hI := hI.d0
  refine Ab (Vd rfl (V0 rfl (Aa ?_)))
  exact ⟨ah.length - (k + 1), by omega, k + 1, rfl, by omega, hnext (fun e => absurd e hpp), ⟨rfl, rfl, rfl, rfl, trivial⟩, hI⟩
theorem BX.take {w : World} {D : Nat → Prop} {A : Option Addr} {n c : Nat} {l : List Op8} (h : BX w D (.slice A n c) l) (k : Nat) (hk : k ≤ l.length) : BX w D (.slice A k c) (l.take k) := by
 obtain ⟨hn, hc1, hc2⟩ := h.len
 have hlk : (l.take k).length = k := by simp; omega
 unfold BX
 rw [hlk]
 refine ⟨A, c, rfl, by omega, hc2, ?_, fun h0 => ?_⟩
 ·have : ∀ l : List Op8, (l.flatMap opV).length = l.length * 8 := by
   intro l
   induction l with
   | nil => rfl
   | cons s l ih => rw [List.flatMap_cons, List.length_append, ih]; simp [opV]; omega
  rw [this, hlk]
 ·obtain ⟨A1, c1, hv, _, _, _, hcell⟩ := h
  injection hv with e1 e2 e3
  subst e1 e3
  obtain ⟨b, o, hbo, hD, hcl⟩ := hcell (by omega)
  refine ⟨b, o, hbo, hD, fun j u hj => hcl j u ?_⟩
  have e : l.flatMap opV = (l.take k).flatMap opV ++ (l.drop k).flatMap opV := by rw [← List.flatMap_append, List.take_append_drop]
  rw [e, List.getElem?_append_left (List.getElem?_eq_some_iff.1 hj).1]
  exact hj
def Gh (l : List Op8) : Prop := l.length ≤ 40 ∧ ∀ k, k < l.length → OkOp (oAt l k) (l.take k)
def Xv (l : List Op8) (w0 : World) (en : Ending) (w' : World) : Prop := Pure w0 w' ∧ ((Gh l ∧ en = .returned .nilIface) ∨ (¬ Gh l ∧ ∃ x, (∃ u : Int, x = .iface 48 (.int .i64 u) ∧ u ≠ 8 ∧ (40 < l.length → u = 4)) ∧ en = .returned x))
def Xu (l : List Op8) (w0 : World) (en : Ending) (w' : World) : Prop := Pure w0 w' ∧ ((Gh l ∧ en = .returned .nilIface) ∨ (¬ Gh l ∧ ∃ x, OX x ∧ en = .returned x))
def Y4 (l : List Op8) (w0 : World) (en : Ending) (w' : World) : Prop := Pure w0 w' ∧ ((Gh l ∧ en = .returned .nilIface) ∨ (¬ Gh l ∧ ∃ x, Cw x ∧ en = .returned x))
set_option maxHeartbeats 2000000 in
theorem HZ (A : Option Addr) (n c : Nat) (l : List Op8) (D : Nat → Prop) (w0 : World) (h : BX w0 D (.slice A n c) l) : Calls Tryd.prog 40 #[.slice A n c] w0 (Xv l w0) := by
 obtain ⟨hn, hc1, hc2⟩ := h.len
 subst hn
 have hI := Inv.start (fun _ => False) w0
 refine Vv Tryd.f40.ntmps Tryd.func40 rfl ?_
 refine Ac (Ab (Vz rfl (Aa ?_)))
 by_cases h40 : l.length ≤ 40
 rotate_left
 ·refine Ac (Ac (Ab (V9 rfl (Vj rfl Tryd.underlying22 rfl ?_))))
  refine Af rfl rfl rfl (by exact Ni rfl rfl rfl (by omega)) ?_
  refine Aa (Ad true rfl (Ac (Ab ?_)))
  refine Af rfl rfl rfl (Ex rfl Tryd.underlying48 rfl rfl) ?_
  refine T6 rfl (Aa ?_)
  refine Aj ?_
  exact BD 2 (.inr rfl) rfl ⟨hI.pu, .inr ⟨fun hh => h40 hh.1, _, ⟨_, rfl, by decide, fun _ => rfl⟩, rfl⟩⟩
 refine Ac (Ac (Ab (V9 rfl (Vj rfl Tryd.underlying22 rfl ?_))))
 refine Af rfl rfl rfl (by exact Kl rfl rfl rfl (by omega)) ?_
 refine Aa (Ad false rfl (Ah (Ac (Ac (Ab (V9 rfl (Vj rfl Tryd.underlying22 rfl (V0 rfl (Aa (Am ?_))))))))))
 refine BS (fun mu ρ w => ∃ k : Nat, mu = l.length - k ∧ k ≤ l.length ∧ (∀ j, j < k → OkOp (oAt l j) (l.take j)) ∧ Has ρ [(12, .int .i64 (k : Int)), (11, .int .i64 (l.length : Int)), (10, .slice A l.length c), (0, .slice A l.length c)] ∧ Inv (fun _ => False) w0 w []) l.length
  ⟨0, rfl, by omega, fun j hj => by omega, ⟨rfl, rfl, rfl, rfl, trivial⟩, hI⟩ ?_
 clear hI
 rintro mu ρ w ⟨k, rfl, hk, hall, hH, hI⟩
 obtain ⟨σ, rfl⟩ := hH.open
 by_cases hkl : k < l.length
 rotate_left
 ·obtain rfl : k = l.length := by omega
  refine Ac (Ab (Vp rfl (Aa (Ac (Ad false rfl ?_)))))
  refine BL ?_
  refine Ac (Ab (Vz rfl (Aa ?_)))
  refine Aj ?_
  exact BD 2 (.inr rfl) rfl ⟨hI.pu, .inl ⟨⟨h40, hall⟩, rfl⟩⟩
 obtain ⟨ab, ao, rfl, hoc⟩ := h.at hkl
 have htk := h.take k hk
 generalize hpk : oAt l k = pk at hoc
 obtain ⟨p0, p1, p2, p3, p4, p5, p6, p7⟩ := pk
 refine Ac (Ab (Vs rfl (Aa (Ac (Ad true rfl (Ah (Ac (Am (Ac (Ab (V0 rfl (Tk 8 rfl Tryd.underlying22 rfl (Tm 8 rfl (by rfl) (fun k u hk => hI.oldp (hoc k u hk)) ?_)))))))))))))
 refine Vt (.agg #[.int .i64 0, .int .i64 0, .int .i64 0, .int .i64 0, .int .i64 0, .int .i64 0, .int .i64 0, .int .i64 0]) (#[.int .i64 0, .int .i64 0, .int .i64 0, .int .i64 0, .int .i64 0, .int .i64 0, .int .i64 0, .int .i64 0]) hI rfl ?_
 clear hI; rintro b4 w - - hI
 refine V8 rfl (Vx 8 (#[_, _, _, _, _, _, _, _]) (.agg _) hI rfl ?_)
 clear hI; intro w hI
 refine Aa ?_
 simp only [opV] at hI
 by_cases hop : OkOp ⟨p0, p1, p2, p3, p4, p5, p6, p7⟩ (l.take k)
 ·refine Ac (BH (by kernel_rfl) ?_)
  refine BI (T := []) hI.drew ?_
  intro Sx hSx hXS
  replace hI := hI.drew
  refine Ae 0 rfl rfl (by kernel_rfl) (hXS _ hI) rfl (fun W hW => have hI := hSx W hW; (by exact VE (n := 8) rfl (by kernel_rfl) (by kernel_rfl) rfl rfl hI.g0)) ?_
  refine Vw 1 (hXS _ hI) rfl (Vu 2 (hXS _ hI) rfl ?_)
  refine Ae 3 rfl rfl (by kernel_rfl) (hXS _ hI) rfl (fun W hW => have hI := hSx W hW; (Gt (sz := 8) (i := k) rfl Tryd.underlying22 (by kernel_rfl) rfl rfl (by omega))) ?_
  refine V3 4 rfl ?_
  refine Va [.agg _, .slice _ _ _] rfl Tryd.func52 rfl ?_
  refine (Kw p0 p1 p2 p3 p4 p5 p6 p7 _ k c (l.take k) D _ (htk.pure hI.pu) (by omega)).mono ?_
  rintro e w1 ⟨hp, ⟨_, rfl⟩ | ⟨hbad, _⟩⟩
  rotate_left
  ·exact absurd hop hbad
  refine ⟨_, rfl, ?_⟩
  replace hI := hI.pure hp
  refine Aa ⟨hXS _ hI, ?_⟩
  refine Ae 5 rfl rfl (by kernel_rfl) (hXS _ hI) rfl (fun W hW => have hI := hSx W hW; (by exact VH rfl rfl)) ?_
  refine Av (by kernel_rfl) (Ac (Ab (Th rfl ?_)))
  refine Af rfl rfl rfl (by exact EW rfl Tryd.underlying28 rfl) ?_
  refine Aa (Ad false rfl (Ah ?_))
  replace hI := hI.d0
  refine Ab (Vd rfl (V0 rfl (Aa ?_)))
  refine ⟨l.length - (k + 1), by omega, k + 1, rfl, by omega, fun j hj => ?_, ⟨rfl, rfl, rfl, rfl, trivial⟩, hI⟩
  rcases Nat.lt_or_ge j k with h1 | h1
  ·exact hall j h1
  ·obtain rfl : j = k := by omega
   rw [hpk]; exact hop
 ·refine Ac (BH (by kernel_rfl) ?_)
  refine BI (T := []) hI.drew ?_
  intro Sx hSx hXS
  replace hI := hI.drew
  refine Ae 0 rfl rfl (by kernel_rfl) (hXS _ hI) rfl (fun W hW => have hI := hSx W hW; (by exact VE (n := 8) rfl (by kernel_rfl) (by kernel_rfl) rfl rfl hI.g0)) ?_
  refine Vw 1 (hXS _ hI) rfl (Vu 2 (hXS _ hI) rfl ?_)
  refine Ae 3 rfl rfl (by kernel_rfl) (hXS _ hI) rfl (fun W hW => have hI := hSx W hW; (Gt (sz := 8) (i := k) rfl Tryd.underlying22 (by kernel_rfl) rfl rfl (by omega))) ?_
  refine V3 4 rfl ?_
  refine Va [.agg _, .slice _ _ _] rfl Tryd.func52 rfl ?_
  refine (Kw p0 p1 p2 p3 p4 p5 p6 p7 _ k c (l.take k) D _ (htk.pure hI.pu) (by omega)).mono ?_
  rintro e w1 ⟨hp, ⟨hgood, _⟩ | ⟨_, x, ⟨u, rfl, hu8⟩, rfl⟩⟩
  ·exact absurd hgood hop
  refine ⟨_, rfl, ?_⟩
  replace hI := hI.pure hp
  refine Aa ⟨hXS _ hI, ?_⟩
  refine Ae 5 rfl rfl (by kernel_rfl) (hXS _ hI) rfl (fun W hW => have hI := hSx W hW; (by exact VI rfl rfl)) ?_
  refine Av (by kernel_rfl) (Ac (Ab (Ti rfl ?_)))
  refine Af rfl rfl rfl (by exact Eo rfl Tryd.underlying28 rfl rfl) ?_
  refine Aa (Ad true rfl (Ac (Ab (Ti rfl (T6 rfl (Aa ?_))))))
  refine Aj ?_
  exact BD 2 (.inr rfl) rfl ⟨hI.pu, .inr ⟨fun hh => by have := hh.2 k hkl; rw [hpk] at this; exact hop this, _, ⟨_, rfl, hu8, fun hh => absurd hh (by omega)⟩, rfl⟩⟩
theorem ML (A : Option Addr) (n c : Nat) (l : List Op8) (D : Nat → Prop) (w0 : World) (h : BX w0 D (.slice A n c) l) : Calls Tryd.prog 40 #[.slice A n c] w0 (Xu l w0) :=
 (HZ A n c l D w0 h).mono fun e w' hh => ⟨hh.1, hh.2.imp id fun ⟨h1, x, ⟨u, h2, h4, _⟩, h3⟩ => ⟨h1, x, ⟨u, h2, h4⟩, h3⟩⟩
theorem OP (A : Option Addr) (n c : Nat) (l : List Op8) (D : Nat → Prop) (w0 : World) (h : BX w0 D (.slice A n c) l) : Calls Tryd.prog 40 #[.slice A n c] w0 (Y4 l w0) :=
 (ML A n c l D w0 h).mono fun e w' hh => ⟨hh.1, hh.2.imp id fun ⟨h1, x, h2, h3⟩ => ⟨h1, x, h2.any, h3⟩⟩
def Bh (o : Int) (l : List Op8) (bud : Int) : Prop := 1 ≤ o ∧ o ≤ 6 ∧ 0 ≤ bud ∧ bud ≤ 1000000 ∧ Gh l ∧ ∀ k, k < l.length → DT o (oAt l k).kind = true
def Fy (o : Int) (l : List Op8) (bud : Int) (w0 : World) (en : Ending) (w' : World) : Prop := Pure w0 w' ∧ ((Bh o l bud ∧ en = .returned .nilIface) ∨ (¬ Bh o l bud ∧ ∃ x, Cw x ∧ en = .returned x))
def RB (o : Int) (l : List Op8) (bud : Int) (u : Int) : Prop := 1 ≤ o → o ≤ 6 → 0 ≤ bud → bud ≤ 1000000 → (40 < l.length → u = 4) ∧ (Gh l → u = 1)
def Qs (o : Int) (l : List Op8) (bud : Int) (w0 : World) (en : Ending) (w' : World) : Prop := Pure w0 w' ∧ ((Bh o l bud ∧ en = .returned .nilIface) ∨ (¬ Bh o l bud ∧ ∃ u, RB o l bud u ∧ en = .returned (.iface 48 (.int .i64 u))))
theorem Fy.bad {o : Int} {l : List Op8} {bud : Int} {w0 w' : World} {z : Int} (h : ¬ Bh o l bud) (hz : RB o l bud z) (hp : Pure w0 w') : Qs o l bud w0 (.returned (.iface 48 (.int .i64 z))) w' := ⟨hp, .inr ⟨h, z, hz, rfl⟩⟩
set_option maxHeartbeats 2000000 in
theorem Gz (o : Int) (A : Option Addr) (n c : Nat) (l : List Op8) (bud : Int) (D : Nat → Prop) (w0 : World) (h : BX w0 D (.slice A n c) l) (hk : Dm w0) : Calls Tryd.prog 18 #[.int .i64 o, .slice A n c, .int .i64 bud] w0 (Qs o l bud w0) := by
 obtain ⟨hn, hc1, hc2⟩ := h.len
 subst hn
 have hI := Inv.start (fun _ => False) w0
 refine Vv Tryd.f18.ntmps Tryd.func18 rfl ?_
 refine Ac (Ab (Vz rfl (Aa (Ac (Am ?_)))))
 by_cases g1 : o < 1
 ·refine Ac (Ab (V0 rfl (Vs rfl (V5 rfl (V4 rfl (V4 rfl (Vg rfl (V6 rfl (Aa (Ad true rfl (Ac (Ab ?_))))))))))))
  refine Af rfl rfl rfl (Ex rfl Tryd.underlying48 rfl rfl) ?_
  refine T6 rfl (Aa ?_)
  refine Aj ?_
  exact BD 6 (.inr rfl) rfl (Fy.bad (fun hh => by have := hh.1; omega) (fun _ _ _ _ => by omega) hI.pu)
 by_cases g2 : 6 < o
 ·refine Ac (Ab (V0 rfl (Vp rfl (V5 rfl (V0 rfl ?_)))))
  refine Af rfl rfl rfl (by exact Ni rfl rfl rfl (by omega)) ?_
  refine Vb rfl (V6 rfl (Aa (Ad true rfl (Ac (Ab ?_)))))
  refine Af rfl rfl rfl (Ex rfl Tryd.underlying48 rfl rfl) ?_
  refine T6 rfl (Aa ?_)
  refine Aj ?_
  exact BD 6 (.inr rfl) rfl (Fy.bad (fun hh => by have := hh.2.1; omega) (fun _ _ _ _ => by omega) hI.pu)
 refine Ac (Ab (V0 rfl (Vp rfl (V5 rfl (V0 rfl ?_)))))
 refine Af rfl rfl rfl (by exact Kl rfl rfl rfl (by omega)) ?_
 refine Vb rfl (V6 rfl (Aa (Ad false rfl ?_)))
 by_cases g3 : bud < 0
 ·refine Ac (Ab (V0 rfl (Vs rfl (V5 rfl (V4 rfl (V4 rfl (Vg rfl (V6 rfl (Aa (Ad true rfl (Ac (Ab ?_))))))))))))
  refine Af rfl rfl rfl (Ex rfl Tryd.underlying48 rfl rfl) ?_
  refine T6 rfl (Aa ?_)
  refine Aj ?_
  exact BD 6 (.inr rfl) rfl (Fy.bad (fun hh => by have := hh.2.2.1; omega) (fun _ _ _ _ => by omega) hI.pu)
 by_cases g4 : 1000000 < bud
 ·refine Ac (Ab (V0 rfl (Vp rfl (V5 rfl (V0 rfl ?_)))))
  refine Af rfl rfl rfl (by exact Ni rfl rfl rfl (by omega)) ?_
  refine Vb rfl (V6 rfl (Aa (Ad true rfl (Ac (Ab ?_)))))
  refine Af rfl rfl rfl (Ex rfl Tryd.underlying48 rfl rfl) ?_
  refine T6 rfl (Aa ?_)
  refine Aj ?_
  exact BD 6 (.inr rfl) rfl (Fy.bad (fun hh => by have := hh.2.2.2.1; omega) (fun _ _ _ _ => by omega) hI.pu)
 refine Ac (Ab (V0 rfl (Vp rfl (V5 rfl (V0 rfl ?_)))))
 refine Af rfl rfl rfl (by exact Kl rfl rfl rfl (by omega)) ?_
 refine Vb rfl (V6 rfl (Aa (Ad false rfl (Ah ?_))))
 by_cases hok : Gh l
 rotate_left
 ·refine Ac (Ac (Ab (V9 rfl (Va [.slice _ _ _] rfl Tryd.func40 rfl ?_))))
  refine (HZ A _ c l D _ (h.pure hI.pu)).mono ?_
  rintro e w1 ⟨hp, ⟨hg, _⟩ | ⟨_, x, ⟨u, rfl, -, hu4⟩, rfl⟩⟩
  ·exact absurd hg hok
  refine ⟨_, rfl, ?_⟩
  replace hI := hI.pure hp
  refine T6 rfl (Aa (Ac (Ab (Ti rfl ?_))))
  refine Af rfl rfl rfl (by exact Eo rfl Tryd.underlying28 rfl rfl) ?_
  refine Aa (Ad true rfl (Ac (Ab (Ti rfl (T6 rfl (Aa ?_))))))
  refine Aj ?_
  exact BD 6 (.inr rfl) rfl (Fy.bad (fun hh => hok hh.2.2.2.2.1) (fun _ _ _ _ => ⟨hu4, fun hh => absurd hh hok⟩) hI.pu)
 have hl40 := hok.1
 refine Ac (Ac (Ab (V9 rfl (Va [.slice _ _ _] rfl Tryd.func40 rfl ?_))))
 refine (OP A _ c l D _ (h.pure hI.pu)).mono ?_
 rintro e w1 ⟨hp, ⟨_, rfl⟩ | ⟨hbad, _⟩⟩
 rotate_left
 ·exact absurd hok hbad
 refine ⟨_, rfl, ?_⟩
 replace hI := hI.pure hp
 refine Vz rfl (Aa (Ac (Ab (Th rfl ?_))))
 refine Af rfl rfl rfl (by exact EW rfl Tryd.underlying28 rfl) ?_
 refine Aa (Ad false rfl (Ah (Ac (Ac (Ab (V9 rfl (Vj rfl Tryd.underlying22 rfl (V0 rfl (Aa (Am ?_))))))))))
 refine BS (fun mu ρ w => ∃ k : Nat, mu = l.length - k ∧ k ≤ l.length ∧ (∀ j, j < k → DT o (oAt l j).kind = true) ∧ Has ρ [(33, .int .i64 (k : Int)), (32, .int .i64 (l.length : Int)), (31, .slice A l.length c), (0, .int .i64 o)] ∧ Inv (fun _ => False) w0 w []) l.length
  ⟨0, rfl, by omega, fun j hj => by omega, ⟨rfl, rfl, rfl, rfl, trivial⟩, hI⟩ ?_
 clear hI
 rintro mu ρ w ⟨k, rfl, hkk, hall, hH, hI⟩
 obtain ⟨σ, rfl⟩ := hH.open
 by_cases hkl : k < l.length
 rotate_left
 ·obtain rfl : k = l.length := by omega
  refine Ac (Ab (Vp rfl (Aa (Ac (Ad false rfl ?_)))))
  refine BL ?_
  refine Ac (Ab (Vz rfl (Aa ?_)))
  refine Aj ?_
  exact BD 6 (.inr rfl) rfl ⟨hI.pu, .inl ⟨⟨by omega, by omega, by omega, by omega, hok, hall⟩, rfl⟩⟩
 obtain ⟨ab, ao, rfl, hoc⟩ := h.at hkl
 generalize hpk : oAt l k = pk at hoc
 obtain ⟨p0, p1, p2, p3, p4, p5, p6, p7⟩ := pk
 refine Ac (Ab (Vs rfl (Aa (Ac (Ad true rfl (Ah (Ac (Am (Ac (Ab (Tk 8 rfl Tryd.underlying22 rfl (Tm 8 rfl (by rfl) (fun k u hk => hI.oldp (hoc k u hk)) (Vt (.agg #[.int .i64 0, .int .i64 0, .int .i64 0, .int .i64 0, .int .i64 0, .int .i64 0, .int .i64 0, .int .i64 0]) (#[.int .i64 0, .int .i64 0, .int .i64 0, .int .i64 0, .int .i64 0, .int .i64 0, .int .i64 0, .int .i64 0]) hI rfl ?_)))))))))))))
 clear hI; rintro b9 w - - hI
 refine Vx 8 (#[_, _, _, _, _, _, _, _]) (.agg _) hI rfl ?_
 clear hI; intro w hI
 refine Aa ?_
 simp only [opV] at hI
 cases hkn : DT o p2 with
 | true =>
  refine Ac (Ab (V0 rfl (V7 2 rfl (V2 (.int .i64 _) rfl (hI.c0 rfl) (Va [.int .i64 _, .int .i64 _] rfl Tryd.func41 rfl ?_)))))
  refine (EQ o p2 _ (hk.pure hI.pu)).mono ?_
  rw [hkn]
  rintro e w1 ⟨rfl, hp⟩
  refine ⟨_, rfl, ?_⟩
  replace hI := hI.pure hp
  refine T5 rfl (Aa (Ad false rfl (Ah ?_)))
  replace hI := hI.d0
  refine Ab (Vd rfl (V0 rfl (Aa ?_)))
  refine ⟨l.length - (k + 1), by omega, k + 1, rfl, by omega, fun j hj => ?_, ⟨rfl, rfl, rfl, rfl, trivial⟩, hI⟩
  rcases Nat.lt_or_ge j k with h1 | h1
  ·exact hall j h1
  ·obtain rfl : j = k := by omega
   rw [hpk]; exact hkn
 | false =>
  refine Ac (Ab (V0 rfl (V7 2 rfl (V2 (.int .i64 _) rfl (hI.c0 rfl) (Va [.int .i64 _, .int .i64 _] rfl Tryd.func41 rfl ?_)))))
  refine (EQ o p2 _ (hk.pure hI.pu)).mono ?_
  rw [hkn]
  rintro e w1 ⟨rfl, hp⟩
  refine ⟨_, rfl, ?_⟩
  replace hI := hI.pure hp
  refine Tf rfl (Aa (Ad true rfl (Ac (Ab ?_))))
  refine Af rfl rfl rfl (Ex rfl Tryd.underlying48 rfl rfl) ?_
  refine T6 rfl (Aa ?_)
  refine Aj ?_
  exact BD 6 (.inr rfl) rfl (Fy.bad (fun hh => by have := hh.2.2.2.2.2 k hkl; rw [hpk] at this; rw [show DT o _ = false from hkn] at this; cases this) (fun _ _ _ _ => ⟨fun hh => absurd hh (by omega), fun _ => rfl⟩) hI.pu)
theorem LQ (o : Int) (A : Option Addr) (n c : Nat) (l : List Op8) (bud : Int) (D : Nat → Prop) (w0 : World) (h : BX w0 D (.slice A n c) l) (hk : Dm w0) : Calls Tryd.prog 18 #[.int .i64 o, .slice A n c, .int .i64 bud] w0 (Fy o l bud w0) :=
 (Gz o A n c l bud D w0 h hk).mono fun e w' hh => ⟨hh.1, hh.2.imp id fun ⟨h1, u, _, h3⟩ => ⟨h1, _, ⟨u, rfl⟩, h3⟩⟩
theorem Mf (n : Nat) : rep (.bool false) n = BJ n (fun _ => false) := by
 apply Array.ext'
 simp [rep, BJ, List.map_const']
theorem Kz {n : Nat} {f g : Nat → Bool} (h : ∀ i, i < n → f i = g i) : BJ n f = BJ n g := by
 unfold BJ
 congr 1
 exact List.map_congr_left fun i hi => by rw [h i (List.mem_range.1 hi)]
def dnF (order : List Int) (p i : Nat) : Bool := (order.take p).contains ((i : Nat) : Int)
theorem P8 {order : List Int} {p : Nat} (hp : p < order.length) {m : Nat} (hm : order[p] = (m : Int)) (i : Nat) : dnF order (p + 1) i = if i = m then true else dnF order p i := by
 unfold dnF
 rw [List.take_succ_eq_append_getElem hp, hm]
 by_cases h : i = m
 ·subst h; simp
 ·rw [if_neg h]
  rw [Bool.eq_iff_iff]
  simp
  omega
def Y3 (l : List Op8) (order : List Int) (p : Nat) : Prop := ∀ j (hj : j < order.length), j < p → 0 ≤ order[j] ∧ order[j] < l.length ∧ dnF order j order[j].toNat = false ∧ ∀ i (hi : i < order.length), i < j → Br (oAt l order[j].toNat) (oAt l order[i].toNat) = false
def GR (o : Int) (l : List Op8) (order : List Int) : Prop := Y3 l order order.length ∧ (∀ i, i < l.length → 0 ≤ (oAt l i).ret → dnF order order.length i = true) ∧ UZ o l order = -1
def DD (o : Int) (l : List Op8) (order : List Int) (w0 : World) (en : Ending) (w' : World) : Prop :=
 Pure w0 w' ∧ ((Bh o l 0 ∧ ∃ b : Bool, en = .returned (.tuple #[.bool b, .nilIface]) ∧ (b = true ↔ GR o l order)) ∨ (¬ Bh o l 0 ∧ ∃ x, Cw x ∧ en = .returned (.tuple #[.bool false, x])))
theorem DD.no {o : Int} {l : List Op8} {order : List Int} {w0 w' : World} (hl : Bh o l 0) (h : ¬ GR o l order) (hp : Pure w0 w') : DD o l order w0 (.returned (.tuple #[.bool false, .nilIface])) w' := ⟨hp, .inl ⟨hl, false, rfl, by simp; exact h⟩⟩
theorem Bh.key {o : Int} {l : List Op8} {bud : Int} (h : Bh o l bud) : ∀ i, i < l.length → 0 ≤ (oAt l i).key ∧ (oAt l i).key < 8 := fun i hi => by
 have h1 := (h.2.2.2.2.1.2 i hi).1
 unfold Hu inB at h1
 simp at h1
 omega
set_option maxHeartbeats 4000000 in
theorem Ng (o : Int) (A : Option Addr) (n c : Nat) (l : List Op8) (A' : Option Addr) (c' : Nat) (order : List Int) (D D' : Nat → Prop) (w0 : World) (h : BX w0 D (.slice A n c) l) (hr : Rd w0 D' 1 (.slice A' order.length c') order.length (Ba order)) (hb : order.length ≤ 10000) (hk : Dm w0) :
  Calls Tryd.prog 11 #[.int .i64 o, .slice A n c, .slice A' order.length c'] w0 (DD o l order w0) := by
 obtain ⟨hn, hc1, hc2⟩ := h.len
 subst hn
 have hI := Inv.start (fun _ => False) w0
 refine Vv Tryd.f11.ntmps Tryd.func11 rfl ?_
 refine Ac (Ab (V6 rfl (Vz rfl (Aa ?_))))
 by_cases hok : Bh o l 0
 rotate_left
 ·refine Ac (Ac (Ab (V0 rfl (V9 rfl (Va [.int .i64 _, .slice _ _ _, .int .i64 _] rfl Tryd.func18 rfl ?_)))))
  refine (LQ o A _ c l 0 D _ (h.pure hI.pu) (hk.pure hI.pu)).mono ?_
  rintro e w1 ⟨hp, ⟨hg, _⟩ | ⟨_, x, ⟨u, rfl⟩, rfl⟩⟩
  ·exact absurd hg hok
  refine ⟨_, rfl, ?_⟩
  replace hI := hI.pure hp
  refine T6 rfl (Aa (Ac (Ab (Ti rfl ?_))))
  refine Af rfl rfl rfl (by exact Eo rfl Tryd.underlying28 rfl rfl) ?_
  refine Aa (Ad true rfl (Ac (Ab (Ti rfl (V6 rfl (T6 rfl (Aa ?_)))))))
  refine Aj ?_
  exact D6 6 7 (.inr rfl) rfl ⟨hI.pu, .inr ⟨hok, _, ⟨_, rfl⟩, rfl⟩⟩
 have hl40 := hok.2.2.2.2.1.1
 refine Ac (Ac (Ab (V0 rfl (V9 rfl (Va [.int .i64 _, .slice _ _ _, .int .i64 _] rfl Tryd.func18 rfl ?_)))))
 refine (LQ o A _ c l 0 D _ (h.pure hI.pu) (hk.pure hI.pu)).mono ?_
 rintro e w1 ⟨hp, ⟨_, rfl⟩ | ⟨hbad, _⟩⟩
 rotate_left
 ·exact absurd hok hbad
 refine ⟨_, rfl, ?_⟩
 replace hI := hI.pure hp
 refine Vz rfl (Aa (Ac (Ab (Th rfl ?_))))
 refine Af rfl rfl rfl (by exact EW rfl Tryd.underlying28 rfl) ?_
 refine Aa (Ad false rfl (Ah (Ac (Ab (V9 rfl (Vj rfl Tryd.underlying22 rfl ?_))))))
 refine NQ (by_ := 1) (z := .bool false) hI rfl rfl rfl rfl rfl rfl Tryd.underlying65 (by kernel_rfl) rfl (by omega) (by omega) ?_
 clear hI; rintro b24 w - - hI
 refine Vf rfl (Aa ?_)
 replace hI : Inv (fun _ => False) w0 w [B b24 4 (BJ l.length (dnF order 0))] := by
  have e : BJ l.length (dnF order 0) = rep (.bool false) l.length := by rw [Mf]; exact Kz fun i _ => by simp [dnF]
  rw [e]; exact hI
 refine Bw (fun ρ w => Y3 l order order.length ∧ Has ρ [(0, .int .i64 o), (1, .slice A l.length c), (2, .slice A' order.length c'), (9, .slice (some ⟨b24, 0, none⟩) l.length l.length)] ∧ Inv (fun _ => False) w0 w [B b24 4 (BJ l.length (dnF order order.length))]) ?_ ?_
 ·refine Ac (Ab (V9 rfl (Vj rfl Tryd.underlying24 rfl (V0 rfl (Aa (Am ?_))))))
  refine BS (fun mu ρ w => ∃ p : Nat, mu = order.length - p ∧ p ≤ order.length ∧ Y3 l order p ∧ Has ρ [(27, .int .i64 (p : Int)), (26, .int .i64 (order.length : Int)), (25, .slice A' order.length c'), (0, .int .i64 o), (1, .slice A l.length c), (2, .slice A' order.length c'), (9, .slice (some ⟨b24, 0, none⟩) l.length l.length)] ∧ Inv (fun _ => False) w0 w [B b24 4 (BJ l.length (dnF order p))]) order.length
   ⟨0, rfl, by omega, fun j _ hj => by omega, ⟨rfl, rfl, rfl, rfl, rfl, rfl, rfl, trivial⟩, hI⟩ ?_
  clear hI
  rintro mu ρ w ⟨p, rfl, hp, hord, hH, hI⟩
  obtain ⟨σ, rfl⟩ := hH.open
  by_cases hpl : p < order.length
  rotate_left
  ·obtain rfl : p = order.length := by omega
   refine Ac (Ab (Vp rfl (Aa (Ac (Ad false rfl ?_)))))
   refine BL ?_
   exact ⟨hord, ⟨rfl, rfl, rfl, rfl, trivial⟩, hI⟩
  have hi0 : (Ba order)[p]? = some (.int .i64 (order[p]'hpl)) := by simp [Ba, hpl]
  obtain ⟨ob, oo, rfl, _, _, hcell⟩ := hr.get hi0 (by omega)
  have hbadp : ¬ (0 ≤ order[p] ∧ order[p] < l.length ∧ dnF order p order[p].toNat = false ∧ ∀ i (hi : i < order.length), i < p → Br (oAt l order[p].toNat) (oAt l order[i].toNat) = false) → ¬ GR o l order := fun hb hs => hb (hs.1 p hpl hpl)
  generalize hio : order[p]'hpl = i at hcell hbadp
  refine Ac (Ab (Vs rfl (Aa (Ac (Ad true rfl (Ah (Ac (Am (Ac (Ab (V0 rfl ?_)))))))))))
  refine Af rfl rfl rfl (by exact Ep rfl Tryd.underlying24 (by kernel_rfl) rfl rfl (by omega)) ?_
  refine V2 (.int .i64 _) rfl (hI.oldp hcell) (V8 rfl (V8 rfl (Aa ?_)))
  by_cases hneg : i < 0
  ·refine Ac (Ac (Ab (V0 rfl (Vs rfl (V5 rfl (V4 rfl (V4 rfl (V4 rfl (V4 rfl (Vg rfl (V5 rfl (V4 rfl (V4 rfl ?_)))))))))))))
   refine V4 rfl (V4 rfl (Vg rfl (Aa (Ad true rfl (Ac (Ab (V6 rfl (Vz rfl (Aa ?_)))))))))
   refine Aj ?_
   exact D6 6 7 (.inr rfl) rfl (DD.no hok (hbadp fun hh => by have := hh.1; omega) hI.pu)
  by_cases hbig : (l.length : Int) ≤ i
  ·refine Ac (Ac (Ab (V0 rfl (Vp rfl (V5 rfl (V0 rfl (V9 rfl (Vj rfl Tryd.underlying22 rfl (Tb rfl (Vb rfl (V5 rfl (V4 rfl (V4 rfl ?_)))))))))))))
   refine V4 rfl (V4 rfl (Vg rfl (Aa (Ad true rfl (Ac (Ab (V6 rfl (Vz rfl (Aa ?_)))))))))
   refine Aj ?_
   exact D6 6 7 (.inr rfl) rfl (DD.no hok (hbadp fun hh => by have := hh.2.1; omega) hI.pu)
  obtain ⟨m, rfl⟩ : ∃ m : Nat, i = (m : Int) := ⟨i.toNat, by omega⟩
  have hm : m < l.length := by omega
  rw [Int.toNat_natCast] at hbadp
  have hdg := ER (n := l.length) (dnF order p) hm
  cases hdn : dnF order p m with
  | true =>
   rw [hdn] at hdg
   refine Ac (Ac (Ab (V0 rfl (Vp rfl (V5 rfl (V0 rfl (V9 rfl (Vj rfl Tryd.underlying22 rfl (Tj rfl (Vb rfl (V5 rfl (V9 rfl (V0 rfl ?_)))))))))))))
   refine Tg rfl Tryd.underlying65 rfl (V2 (.bool _) rfl (hI.c0 hdg) (Vb rfl (Aa (Ad true rfl (Ac (Ab (V6 rfl (Vz rfl (Aa ?_)))))))))
   refine Aj ?_
   exact D6 6 7 (.inr rfl) rfl (DD.no hok (hbadp fun hh => by have := hh.2.2.1; rw [hdn] at this; cases this) hI.pu)
  | false =>
  rw [hdn] at hdg
  refine Ac (Ac (Ab (V0 rfl (Vp rfl (V5 rfl (V0 rfl (V9 rfl (Vj rfl Tryd.underlying22 rfl (Tj rfl (Vb rfl (V5 rfl (V9 rfl (V0 rfl ?_)))))))))))))
  refine Tg rfl Tryd.underlying65 rfl (V2 (.bool _) rfl (hI.c0 hdg) (Vb rfl (Aa (Ad false rfl (Ah (Ac (Ab (V9 rfl (V0 rfl (Tg rfl Tryd.underlying65 rfl (Vo m (.bool true) hI rfl (by simp [Nat.blt, BJ]; omega) rfl ?_)))))))))))
  rw [NN, ← Kz (fun i _ => P8 hpl hio i)]
  clear hI; intro w hI
  refine Aa ?_
  obtain ⟨ab, ao, rfl, hoc⟩ := h.at hm
  refine Ac (Ab (V9 rfl (V0 rfl ?_)))
  refine Af rfl rfl rfl (Gt (sz := 1) (i := p) rfl Tryd.underlying24 (by kernel_rfl) rfl rfl (by have := hr.form; obtain ⟨_, _, e1, e2, _⟩ := this; injection e1 with _ _ e3; omega)) ?_
  refine Vj rfl Tryd.underlying24 rfl (V0 rfl (Aa (Am ?_)))
  refine BS (fun mu ρ w => ∃ q : Nat, mu = p - q ∧ q ≤ p ∧ (∀ j (hj : j < order.length), j < q → Br (oAt l m) (oAt l order[j].toNat) = false) ∧ Has ρ [(53, .int .i64 (q : Int)), (52, .int .i64 (p : Int)), (51, .slice (some ⟨ob, oo, none⟩) p c'), (11, .int .i64 (m : Int)), (27, .int .i64 (p : Int)), (26, .int .i64 (order.length : Int)), (25, .slice (some ⟨ob, oo, none⟩) order.length c'), (0, .int .i64 o), (1, .slice (some ⟨ab, ao, none⟩) l.length c), (2, .slice (some ⟨ob, oo, none⟩) order.length c'), (9, .slice (some ⟨b24, 0, none⟩) l.length l.length)] ∧ Inv (fun _ => False) w0 w [B b24 4 (BJ l.length (dnF order (p + 1)))]) p
   ⟨0, rfl, by omega, fun j _ hj => by omega, ⟨rfl, rfl, rfl, rfl, rfl, rfl, rfl, rfl, rfl, rfl, rfl, trivial⟩, hI⟩ ?_
  clear hI
  rintro mu ρ w ⟨q, rfl, hq, hbef, hH, hI⟩
  obtain ⟨σ, rfl⟩ := hH.open
  by_cases hqp : q < p
  rotate_left
  ·obtain rfl : q = p := by omega
   refine Ac (Ab (Vp rfl (Aa (Ac (Ad false rfl ?_)))))
   refine BL ?_
   refine Ab (Vd rfl (V0 rfl (Aa ?_)))
   refine ⟨order.length - (q + 1), by omega, q + 1, rfl, by omega, fun j hj hjp => ?_, ⟨rfl, rfl, rfl, rfl, rfl, rfl, rfl, trivial⟩, hI⟩
   rcases Nat.lt_or_ge j q with h1 | h1
   ·exact hord j hj h1
   ·obtain rfl : j = q := by omega
    rw [hio]
    exact ⟨by omega, by omega, hdn, hbef⟩
  have hql : q < order.length := by omega
  obtain ⟨g1, g2, _, _⟩ := hord q hql hqp
  have hq0 : (Ba order)[q]? = some (.int .i64 (order[q]'hql)) := by simp [Ba, hql]
  obtain ⟨ob', oo', hoe, _, _, hcellq⟩ := hr.get hq0 (by omega)
  injection hoe with hoe
  injection hoe with e1 e2
  subst e1 e2
  have hbq := fun (hb : Br (oAt l m) (oAt l order[q].toNat) = true) (hh : 0 ≤ (m : Int) ∧ (m : Int) < l.length ∧ dnF order p m = false ∧ ∀ i (hi : i < order.length), i < p → Br (oAt l m) (oAt l order[i].toNat) = false) => (show False from by
   have := hh.2.2.2 q hql hqp
   rw [hb] at this; cases this)
  have hbn : Br (oAt l m) (oAt l order[q].toNat) = false → ∀ j (hj : j < order.length), j < q + 1 → Br (oAt l m) (oAt l order[j].toNat) = false := fun hb j hj hj2 => by
   rcases Nat.lt_or_ge j q with h1 | h1
   ·exact hbef j hj h1
   ·obtain rfl : j = q := by omega
    exact hb
  generalize order[q]'hql = z at hcellq hbq hbn g1 g2
  obtain ⟨zn, rfl⟩ : ∃ zn : Nat, z = (zn : Int) := ⟨z.toNat, by omega⟩
  rw [Int.toNat_natCast] at hbq hbn
  obtain ⟨ab', ao', hae, hoc2⟩ := h.at (show zn < l.length by omega)
  injection hae with hae
  injection hae with e1 e2
  subst e1 e2
  refine Ac (Ab (Vs rfl (Aa (Ac (Ad true rfl (Ah (Ac (Am (Ac (Ab ?_))))))))))
  refine Af rfl rfl rfl (by exact Ep rfl Tryd.underlying24 (by kernel_rfl) rfl rfl (by omega)) ?_
  refine V2 (.int .i64 _) rfl (hI.oldp hcellq) (V8 rfl (Aa ?_))
  cases hbf : Br (oAt l m) (oAt l zn) with
  | true =>
   refine Ac (BH (by kernel_rfl) ?_)
   refine BI (T := []) hI.drew ?_
   intro Sx hSx hXS
   replace hI := hI.drew
   refine Vw 0 (hXS _ hI) rfl (Vu 1 (hXS _ hI) rfl ?_)
   refine Ae 2 rfl rfl (by kernel_rfl) (hXS _ hI) rfl (fun W hW => have hI := hSx W hW; (MF (sz := 8) rfl Tryd.underlying22 (by kernel_rfl) rfl rfl (by omega))) ?_
   refine Ae 3 rfl rfl (by kernel_rfl) (hXS _ hI) rfl (fun W hW => have hI := hSx W hW; (by exact ME (n := 8) rfl (by kernel_rfl) (by kernel_rfl) rfl (by rfl) (fun k u hk => hI.oldp (hoc k u hk)))) ?_
   refine Vw 4 (hXS _ hI) rfl (Vu 5 (hXS _ hI) rfl ?_)
   refine Ae 6 rfl rfl (by kernel_rfl) (hXS _ hI) rfl (fun W hW => have hI := hSx W hW; (MF (sz := 8) rfl Tryd.underlying22 (by kernel_rfl) rfl rfl (by omega))) ?_
   refine Ae 7 rfl rfl (by kernel_rfl) (hXS _ hI) rfl (fun W hW => have hI := hSx W hW; (by exact ME (n := 8) rfl (by kernel_rfl) (by kernel_rfl) rfl (by rfl) (fun k u hk => hI.oldp (hoc2 k u hk)))) ?_
   refine V3 8 rfl ?_
   refine Va [.agg _, .agg _] rfl Tryd.func13 rfl ?_
   refine (Ir (oAt l m) (oAt l zn) _).mono ?_
   rw [hbf]
   rintro e w1 ⟨rfl, hp1⟩
   refine ⟨_, rfl, ?_⟩
   replace hI := hI.pure hp1
   refine Aa ⟨hXS _ hI, ?_⟩
   refine Av (by kernel_rfl) (Ad true rfl (Ac (Ab (V6 rfl (Vz rfl (Aa ?_))))))
   refine Aj ?_
   exact D6 6 7 (.inr rfl) rfl (DD.no hok (hbadp (hbq hbf)) hI.pu)
  | false =>
   refine Ac (BH (by kernel_rfl) ?_)
   refine BI (T := []) hI.drew ?_
   intro Sx hSx hXS
   replace hI := hI.drew
   refine Vw 0 (hXS _ hI) rfl (Vu 1 (hXS _ hI) rfl ?_)
   refine Ae 2 rfl rfl (by kernel_rfl) (hXS _ hI) rfl (fun W hW => have hI := hSx W hW; (MF (sz := 8) rfl Tryd.underlying22 (by kernel_rfl) rfl rfl (by omega))) ?_
   refine Ae 3 rfl rfl (by kernel_rfl) (hXS _ hI) rfl (fun W hW => have hI := hSx W hW; (by exact ME (n := 8) rfl (by kernel_rfl) (by kernel_rfl) rfl (by rfl) (fun k u hk => hI.oldp (hoc k u hk)))) ?_
   refine Vw 4 (hXS _ hI) rfl (Vu 5 (hXS _ hI) rfl ?_)
   refine Ae 6 rfl rfl (by kernel_rfl) (hXS _ hI) rfl (fun W hW => have hI := hSx W hW; (MF (sz := 8) rfl Tryd.underlying22 (by kernel_rfl) rfl rfl (by omega))) ?_
   refine Ae 7 rfl rfl (by kernel_rfl) (hXS _ hI) rfl (fun W hW => have hI := hSx W hW; (by exact ME (n := 8) rfl (by kernel_rfl) (by kernel_rfl) rfl (by rfl) (fun k u hk => hI.oldp (hoc2 k u hk)))) ?_
   refine V3 8 rfl ?_
   refine Va [.agg _, .agg _] rfl Tryd.func13 rfl ?_
   refine (Ir (oAt l m) (oAt l zn) _).mono ?_
   rw [hbf]
   rintro e w1 ⟨rfl, hp1⟩
   refine ⟨_, rfl, ?_⟩
   replace hI := hI.pure hp1
   refine Aa ⟨hXS _ hI, ?_⟩
   refine Av (by kernel_rfl) (Ad false rfl (Ah (Ab (Vd rfl (V0 rfl (Aa ?_))))))
   exact ⟨p - (q + 1), by omega, q + 1, rfl, by omega, hbn hbf, ⟨rfl, rfl, rfl, rfl, rfl, rfl, rfl, rfl, rfl, rfl, rfl, trivial⟩, hI⟩
 clear hI
 rintro ρ w ⟨hord, hH, hI⟩
 obtain ⟨σ, rfl⟩ := hH.open
 refine Bw (fun ρ w => (∀ i, i < l.length → 0 ≤ (oAt l i).ret → dnF order order.length i = true) ∧ Has ρ [(0, .int .i64 o), (1, .slice A l.length c), (2, .slice A' order.length c')] ∧ Inv (fun _ => False) w0 w []) ?_ ?_
 ·refine Ac (Ab (V9 rfl (Vj rfl Tryd.underlying22 rfl (V0 rfl (Aa (Am ?_))))))
  refine BS (fun mu ρ w => ∃ k : Nat, mu = l.length - k ∧ k ≤ l.length ∧ (∀ i, i < k → 0 ≤ (oAt l i).ret → dnF order order.length i = true) ∧ Has ρ [(70, .int .i64 (k : Int)), (69, .int .i64 (l.length : Int)), (68, .slice A l.length c), (0, .int .i64 o), (1, .slice A l.length c), (2, .slice A' order.length c'), (9, .slice (some ⟨b24, 0, none⟩) l.length l.length)] ∧ Inv (fun _ => False) w0 w [B b24 4 (BJ l.length (dnF order order.length))]) l.length
   ⟨0, rfl, by omega, fun j hj => by omega, ⟨rfl, rfl, rfl, rfl, rfl, rfl, rfl, trivial⟩, hI⟩ ?_
  clear hI
  rintro mu ρ w ⟨k, rfl, hkk, hall, hH, hI⟩
  obtain ⟨σ, rfl⟩ := hH.open
  by_cases hkl : k < l.length
  rotate_left
  ·obtain rfl : k = l.length := by omega
   refine Ac (Ab (Vp rfl (Aa (Ac (Ad false rfl ?_)))))
   refine BL ?_
   exact ⟨hall, ⟨rfl, rfl, rfl, trivial⟩, hI.d0⟩
  obtain ⟨ab, ao, rfl, hoc⟩ := h.at hkl
  have hdg := ER (n := l.length) (dnF order order.length) hkl
  generalize hpk : oAt l k = pk at hoc
  obtain ⟨p0, p1, p2, p3, p4, p5, p6, p7⟩ := pk
  have hnext : (0 ≤ p7 → dnF order order.length k = true) → ∀ i, i < k + 1 → 0 ≤ (oAt l i).ret → dnF order order.length i = true := fun hb j hj => by
   rcases Nat.lt_or_ge j k with h1 | h1
   ·exact hall j h1
   ·obtain rfl : j = k := by omega
    rw [hpk]; exact hb
  refine Ac (Ab (Vs rfl (Aa (Ac (Ad true rfl (Ah (Ac (Am (Ac (Ab (V0 rfl (Tk 8 rfl Tryd.underlying22 rfl (Tm 8 rfl (by rfl) (fun k u hk => hI.oldp (hoc k u hk)) ?_)))))))))))))
  refine Vt (.agg #[.int .i64 0, .int .i64 0, .int .i64 0, .int .i64 0, .int .i64 0, .int .i64 0, .int .i64 0, .int .i64 0]) (#[.int .i64 0, .int .i64 0, .int .i64 0, .int .i64 0, .int .i64 0, .int .i64 0, .int .i64 0, .int .i64 0]) hI rfl ?_
  clear hI; rintro b15 w - - hI
  refine V8 rfl (Vx 8 (#[_, _, _, _, _, _, _, _]) (.agg _) hI rfl ?_)
  clear hI; intro w hI
  refine Aa ?_
  simp only [opV] at hI
  by_cases hr0 : 0 ≤ p7
  ·cases hdn : dnF order order.length k with
   | true =>
    rw [hdn] at hdg
    refine Ac (Ab (V7 7 rfl (V2 (.int .i64 _) rfl (hI.c0 rfl) (Tb rfl (V5 rfl (V9 rfl (V0 rfl (Tg rfl Tryd.underlying65 rfl (V2 (.bool _) rfl (hI.c1 hdg) (T5 rfl (Vg rfl (Aa (Ad false rfl ?_)))))))))))))
    refine Ah ?_
    replace hI := hI.d0
    refine Ab (Vd rfl (V0 rfl (Aa ?_)))
    exact ⟨l.length - (k + 1), by omega, k + 1, rfl, by omega, hnext (fun _ => hdn), ⟨rfl, rfl, rfl, rfl, rfl, rfl, rfl, trivial⟩, hI⟩
   | false =>
    rw [hdn] at hdg
    refine Ac (Ab (V7 7 rfl (V2 (.int .i64 _) rfl (hI.c0 rfl) (Tb rfl (V5 rfl (V9 rfl (V0 rfl (Tg rfl Tryd.underlying65 rfl (V2 (.bool _) rfl (hI.c1 hdg) (Tf rfl (Vg rfl (Aa (Ad true rfl ?_)))))))))))))
    refine Ac (Ab (V6 rfl (Vz rfl (Aa ?_))))
    refine Aj ?_
    exact D6 6 7 (.inr rfl) rfl (DD.no hok (fun hs => by have := hs.2.1 k hkl (by rw [hpk]; exact hr0); rw [hdn] at this; cases this) hI.pu)
  ·refine Ac (Ab (V7 7 rfl (V2 (.int .i64 _) rfl (hI.c0 rfl) (Tj rfl (V5 rfl (V4 rfl (V4 rfl (V4 rfl (V4 rfl (V4 rfl (Vb rfl (Aa (Ad false rfl ?_)))))))))))))
   refine Ah ?_
   replace hI := hI.d0
   refine Ab (Vd rfl (V0 rfl (Aa ?_)))
   exact ⟨l.length - (k + 1), by omega, k + 1, rfl, by omega, hnext (fun e => absurd e hr0), ⟨rfl, rfl, rfl, rfl, rfl, rfl, rfl, trivial⟩, hI⟩
 clear hI
 rintro ρ w ⟨hall, hH, hI⟩
 obtain ⟨σ, rfl⟩ := hH.open
 refine Ac (Ab (V0 rfl (V9 rfl (V9 rfl (Va [.int .i64 _, .slice _ _ _, .slice _ _ _] rfl Tryd.func19 rfl ?_)))))
 refine (XX o A _ c l A' c' order D D' _ (h.pure hI.pu) (hr.pure hI.pu) hok.key hb (hk.pure hI.pu)).mono ?_
 rintro e w1 ⟨rfl, hp1⟩
 refine ⟨_, rfl, ?_⟩
 replace hI := hI.pure hp1
 refine Af rfl rfl rfl (Oq rfl rfl rfl) ?_
 refine V6 rfl (Vz rfl (Aa ?_))
 refine Aj ?_
 refine D6 6 7 (.inr rfl) rfl ⟨hI.pu, .inl ⟨hok, decide (UZ o l order = -1), rfl, ?_⟩⟩
 simp only [decide_eq_true_eq]
 exact ⟨fun e => ⟨hord, hall, e⟩, fun hs => hs.2.2⟩
def AaB (l : List Op8) (dn : Nat → Bool) : Prop := ∀ i, i < l.length → 0 ≤ (oAt l i).ret → dn i = true
set_option maxHeartbeats 2000000 in
theorem Po (sb : Nat) (A : Option Addr) (c : Nat) (l : List Op8) (db : Nat) (dn : Nat → Bool) (D : Nat → Prop) (w0 : World) (h : BX w0 D (.slice A l.length c) l) (h1 : w0.cell? ⟨sb, 1, none⟩ = some (.slice A l.length c)) (h4 : w0.cell? ⟨sb, 4, none⟩ = some (.slice (some ⟨db, 0, none⟩) l.length l.length)) (hd : Blk w0 db 4 (BJ l.length dn)) (hl : l.length ≤ 1000) :
  Calls Tryd.prog 44 #[.pointer (some ⟨sb, 0, none⟩)] w0 fun en w' => (∃ b : Bool, en = .returned (.bool b) ∧ (b = true ↔ AaB l dn)) ∧ Pure w0 w' := by
 have hI := Inv.start (fun _ => False) w0
 refine Vv Tryd.f44.ntmps Tryd.func44 rfl ?_
 refine Ac (Ab (V6 rfl (Aa (Ac (Ac (Ab (T8 rfl (Td rfl (V7 1 rfl (V2 (.slice _ _ _) rfl (hI.oldp h1) (Vj rfl Tryd.underlying22 rfl (V0 rfl (Aa ?_)))))))))))))
 refine Am ?_
 refine BS (fun mu ρ w => ∃ k : Nat, mu = l.length - k ∧ k ≤ l.length ∧ (∀ i, i < k → 0 ≤ (oAt l i).ret → dn i = true) ∧ Has ρ [(10, .int .i64 (k : Int)), (9, .int .i64 (l.length : Int)), (8, .slice A l.length c), (0, .pointer (some ⟨sb, 0, none⟩))] ∧ Inv (fun _ => False) w0 w []) l.length
  ⟨0, rfl, by omega, fun j hj => by omega, ⟨rfl, rfl, rfl, rfl, trivial⟩, hI⟩ ?_
 clear hI
 rintro mu ρ w ⟨k, rfl, hkk, hall, hH, hI⟩
 obtain ⟨σ, rfl⟩ := hH.open
 by_cases hkl : k < l.length
 rotate_left
 ·obtain rfl : k = l.length := by omega
  refine Ac (Ab (Vp rfl (Aa (Ac (Ad false rfl ?_)))))
  refine BL ?_
  refine Ac (Ab (V6 rfl (Aa ?_)))
  refine Aj ?_
  exact BD 2 (.inr rfl) rfl ⟨⟨true, rfl, by simp; exact hall⟩, hI.pu⟩
 obtain ⟨ab, ao, rfl, hoc⟩ := h.at hkl
 have hdg := (hd.cell k).trans (ER (n := l.length) dn hkl)
 generalize hpk : oAt l k = pk at hoc
 obtain ⟨p0, p1, p2, p3, p4, p5, p6, p7⟩ := pk
 have hnext : (0 ≤ p7 → dn k = true) → ∀ i, i < k + 1 → 0 ≤ (oAt l i).ret → dn i = true := fun hb j hj => by
  rcases Nat.lt_or_ge j k with h1 | h1
  ·exact hall j h1
  ·obtain rfl : j = k := by omega
   rw [hpk]; exact hb
 refine Ac (Ab (Vs rfl (Aa (Ac (Ad true rfl (Ah (Ac (Am (Ac (Ab (V0 rfl (Tk 8 rfl Tryd.underlying22 rfl (Tm 8 rfl (by rfl) (fun k u hk => hI.oldp (hoc k u hk)) ?_)))))))))))))
 refine Vt (.agg #[.int .i64 0, .int .i64 0, .int .i64 0, .int .i64 0, .int .i64 0, .int .i64 0, .int .i64 0, .int .i64 0]) (#[.int .i64 0, .int .i64 0, .int .i64 0, .int .i64 0, .int .i64 0, .int .i64 0, .int .i64 0, .int .i64 0]) hI rfl ?_
 clear hI; rintro b4 w - - hI
 refine V8 rfl (Vx 8 (#[_, _, _, _, _, _, _, _]) (.agg _) hI rfl ?_)
 clear hI; intro w hI
 refine Aa ?_
 simp only [opV] at hI
 by_cases hr0 : 0 ≤ p7
 ·cases hdn : dn k with
  | true =>
   rw [hdn] at hdg
   refine Ac (Ab (V7 7 rfl (V2 (.int .i64 _) rfl (hI.c0 rfl) (Tb rfl (V5 rfl (T8 rfl (Td rfl (V7 4 rfl (V2 (.slice _ _ _) rfl (hI.oldp h4) (V0 rfl (Tg rfl Tryd.underlying65 rfl (V2 (.bool _) rfl (hI.oldp hdg) (T5 rfl ?_)))))))))))))
   refine Vg rfl (Aa (Ad false rfl (Ah ?_)))
   replace hI := hI.d0
   refine Ab (Vd rfl (V0 rfl (Aa ?_)))
   exact ⟨l.length - (k + 1), by omega, k + 1, rfl, by omega, hnext (fun _ => hdn), ⟨rfl, rfl, rfl, rfl, trivial⟩, hI⟩
  | false =>
   rw [hdn] at hdg
   refine Ac (Ab (V7 7 rfl (V2 (.int .i64 _) rfl (hI.c0 rfl) (Tb rfl (V5 rfl (T8 rfl (Td rfl (V7 4 rfl (V2 (.slice _ _ _) rfl (hI.oldp h4) (V0 rfl (Tg rfl Tryd.underlying65 rfl (V2 (.bool _) rfl (hI.oldp hdg) (Tf rfl ?_)))))))))))))
   refine Vg rfl (Aa (Ad true rfl (Ac (Ab (V6 rfl (Aa ?_))))))
   refine Aj ?_
   exact BD 2 (.inr rfl) rfl ⟨⟨false, rfl, by simp; exact fun hs => by have := hs k hkl (by rw [hpk]; exact hr0); rw [hdn] at this; cases this⟩, hI.pu⟩
 ·refine Ac (Ab (V7 7 rfl (V2 (.int .i64 _) rfl (hI.c0 rfl) (Tj rfl (V5 rfl (V4 rfl (V4 rfl (V4 rfl (V4 rfl (V4 rfl (V4 rfl (V4 rfl (V4 rfl ?_)))))))))))))
  refine Vb rfl (Aa (Ad false rfl (Ah ?_)))
  replace hI := hI.d0
  refine Ab (Vd rfl (V0 rfl (Aa ?_)))
  exact ⟨l.length - (k + 1), by omega, k + 1, rfl, by omega, hnext (fun e => absurd e hr0), ⟨rfl, rfl, rfl, rfl, trivial⟩, hI⟩
structure O3 (f : FuncId) (ab : Op8 → Op8 → Bool) : Prop where
 fn : ∃ fn : Func, Tryd.prog.funcs[f]? = some fn ∧ (fn.name == "runtime.NumGoroutine") = false ∧ fn.body.isNone = false
 calls : ∀ p q W, Calls Tryd.prog f #[.agg (opV p).toArray, .agg (opV q).toArray] W fun en w' => en = .returned (.bool (ab p q)) ∧ Pure W w'
def Wl (l : List Op8) (ab : Op8 → Op8 → Bool) (dn : Nat → Bool) (i : Nat) : Prop := dn i = false ∧ ∀ k, k < l.length → k ≠ i → dn k = false → ab (oAt l k) (oAt l i) = false
set_option maxHeartbeats 4000000 in
theorem Nf (sb : Nat) (A : Option Addr) (c : Nat) (l : List Op8) (db f : Nat) (ab : Op8 → Op8 → Bool) (dn : Nat → Bool) (i : Nat) (D : Nat → Prop) (w0 : World) (h : BX w0 D (.slice A l.length c) l) (h1 : w0.cell? ⟨sb, 1, none⟩ = some (.slice A l.length c)) (h3 : w0.cell? ⟨sb, 3, none⟩ = some (.func (.func f) #[] #[])) (h4 : w0.cell? ⟨sb, 4, none⟩ = some (.slice (some ⟨db, 0, none⟩) l.length l.length)) (hd : Blk w0 db 4 (BJ l.length dn)) (hl : l.length ≤ 1000) (hi : i < l.length) (hf : O3 f ab) :
  Calls Tryd.prog 46 #[.pointer (some ⟨sb, 0, none⟩), .int .i64 (i : Int)] w0 fun en w' => (∃ b : Bool, en = .returned (.bool b) ∧ (b = true ↔ Wl l ab dn i)) ∧ Pure w0 w' := by
 obtain ⟨⟨fn, f1, f2, f3⟩, hcall⟩ := hf
 have hI := Inv.start (fun _ => False) w0
 have hdi := (hd.cell i).trans (ER (n := l.length) dn hi)
 refine Vv Tryd.f46.ntmps Tryd.func46 rfl ?_
 refine Ac (Ab (V6 rfl (Aa ?_)))
 cases hdn0 : dn i with
 | true =>
  rw [hdn0] at hdi
  refine Ac (Ac (Ab (T8 rfl (Td rfl (V7 4 rfl (V2 (.slice _ _ _) rfl (hI.oldp h4) (V0 rfl (Tg rfl Tryd.underlying65 rfl (V2 (.bool _) rfl (hI.oldp hdi) (Aa (Ad true rfl (Ac (Ab ?_)))))))))))))
  refine V6 rfl (Aa ?_)
  refine Aj ?_
  exact BD 4 (.inr rfl) rfl ⟨⟨false, rfl, by simp; exact fun hs => by have := hs.1; rw [hdn0] at this; cases this⟩, hI.pu⟩
 | false =>
 rw [hdn0] at hdi
 refine Ac (Ac (Ab (T8 rfl (Td rfl (V7 4 rfl (V2 (.slice _ _ _) rfl (hI.oldp h4) (V0 rfl (Tg rfl Tryd.underlying65 rfl (V2 (.bool _) rfl (hI.oldp hdi) (Aa (Ad false rfl (Ah (Ac ?_)))))))))))))
 refine Ac (Ab (T8 rfl (Td rfl (V7 1 rfl (V2 (.slice _ _ _) rfl (hI.oldp h1) (Vj rfl Tryd.underlying22 rfl (V0 rfl (Aa (Am ?_)))))))))
 refine BS (fun mu ρ w => ∃ k : Nat, mu = l.length - k ∧ k ≤ l.length ∧ (∀ j, j < k → j ≠ i → dn j = false → ab (oAt l j) (oAt l i) = false) ∧ Has ρ [(19, .int .i64 (k : Int)), (18, .int .i64 (l.length : Int)), (17, .slice A l.length c), (0, .pointer (some ⟨sb, 0, none⟩)), (1, .int .i64 (i : Int))] ∧ Inv (fun _ => False) w0 w []) l.length
  ⟨0, rfl, by omega, fun j hj => by omega, ⟨rfl, rfl, rfl, rfl, rfl, trivial⟩, hI⟩ ?_
 clear hI
 rintro mu ρ w ⟨k, rfl, hkk, hall, hH, hI⟩
 obtain ⟨σ, rfl⟩ := hH.open
 by_cases hkl : k < l.length
 rotate_left
 ·obtain rfl : k = l.length := by omega
  refine Ac (Ab (Vp rfl (Aa (Ac (Ad false rfl ?_)))))
  refine BL ?_
  refine Ac (Ab (V6 rfl (Aa ?_)))
  refine Aj ?_
  exact BD 4 (.inr rfl) rfl ⟨⟨true, rfl, by simp; exact ⟨hdn0, hall⟩⟩, hI.pu⟩
 obtain ⟨bA, oA, rfl, hoc⟩ := h.at hkl
 obtain ⟨bA', oA', hae, hoci⟩ := h.at hi
 injection hae with hae
 injection hae with e1 e2
 subst e1 e2
 have hdg := (hd.cell k).trans (ER (n := l.length) dn hkl)
 have hnext : (k ≠ i → dn k = false → ab (oAt l k) (oAt l i) = false) → ∀ j, j < k + 1 → j ≠ i → dn j = false → ab (oAt l j) (oAt l i) = false := fun hb j hj => by
  rcases Nat.lt_or_ge j k with h1 | h1
  ·exact hall j h1
  ·obtain rfl : j = k := by omega
   exact hb
 refine Ac (Ab (Vs rfl (Aa (Ac (Ad true rfl (Ah (Ac (Am (Ac (Ab (V0 rfl (Tk 8 rfl Tryd.underlying22 rfl (Tm 8 rfl (by rfl) (fun k u hk => hI.oldp (hoc k u hk)) ?_)))))))))))))
 refine Vt (.agg #[.int .i64 0, .int .i64 0, .int .i64 0, .int .i64 0, .int .i64 0, .int .i64 0, .int .i64 0, .int .i64 0]) (#[.int .i64 0, .int .i64 0, .int .i64 0, .int .i64 0, .int .i64 0, .int .i64 0, .int .i64 0, .int .i64 0]) hI rfl ?_
 clear hI; rintro b6 w - - hI
 refine V8 rfl (Vx 8 (#[_, _, _, _, _, _, _, _]) (.agg _) hI rfl ?_)
 clear hI; intro w hI
 refine Aa ?_
 by_cases hki : k = i
 ·refine Ac (BH (by kernel_rfl) ?_)
  refine BI (T := []) hI.drew ?_
  intro Sx hSx hXS
  replace hI := hI.drew
  refine Vu 0 (hXS _ hI) rfl (Vu 1 (hXS _ hI) rfl ?_)
  refine Ae 2 rfl rfl (by kernel_rfl) (hXS _ hI) rfl (fun W hW => have hI := hSx W hW; (by exact RS rfl rfl rfl (by omega))) ?_
  refine Tl 3 (hXS _ hI) rfl (Vn 4 rfl (hXS _ hI) rfl (Vn 5 rfl (hXS _ hI) rfl (Vn 6 rfl (hXS _ hI) rfl (Vn 7 rfl (hXS _ hI) rfl (Vn 8 rfl (hXS _ hI) rfl (Vn 9 rfl (hXS _ hI) rfl (Vn 10 rfl (hXS _ hI) rfl (Vn 11 rfl (hXS _ hI) rfl ?_))))))))
  refine Ae 12 rfl rfl (by kernel_rfl) (hXS _ hI) rfl (fun W hW => have hI := hSx W hW; (by exact IZ rfl rfl rfl)) ?_
  refine Tl 13 (hXS _ hI) rfl (Vn 14 rfl (hXS _ hI) rfl (Vn 15 rfl (hXS _ hI) rfl (Vn 16 rfl (hXS _ hI) rfl (Vn 17 rfl (hXS _ hI) rfl (Vn 18 rfl (hXS _ hI) rfl (Vn 19 rfl (hXS _ hI) rfl (Vn 20 rfl (hXS _ hI) rfl (Vn 21 rfl (hXS _ hI) rfl (Vn 22 rfl (hXS _ hI) rfl (Vn 23 rfl (hXS _ hI) rfl (Vn 24 rfl (hXS _ hI) rfl (Vn 25 rfl (hXS _ hI) rfl (Vn 26 rfl (hXS _ hI) rfl ?_)))))))))))))
  refine Ae 27 rfl rfl (by kernel_rfl) (hXS _ hI) rfl (fun W hW => have hI := hSx W hW; (by exact IZ rfl rfl rfl)) ?_
  refine Av (by kernel_rfl) (Ad false rfl (Ah ?_))
  replace hI := hI.d0
  refine Ab (Vd rfl (V0 rfl (Aa ?_)))
  exact ⟨l.length - (k + 1), by omega, k + 1, rfl, by omega, hnext (fun e => absurd hki e), ⟨rfl, rfl, rfl, rfl, rfl, trivial⟩, hI⟩
 cases hdnk : dn k with
 | true =>
  rw [hdnk] at hdg
  refine Ac (BH (by kernel_rfl) ?_)
  refine BI (T := []) hI.drew ?_
  intro Sx hSx hXS
  replace hI := hI.drew
  refine Vu 0 (hXS _ hI) rfl (Vu 1 (hXS _ hI) rfl ?_)
  refine Ae 2 rfl rfl (by kernel_rfl) (hXS _ hI) rfl (fun W hW => have hI := hSx W hW; (by exact Ps rfl rfl rfl (by omega))) ?_
  refine Tl 3 (hXS _ hI) rfl (T3 4 (hXS _ hI) rfl (T9 5 (hXS _ hI) rfl (Vq 6 4 (hXS _ hI) rfl (Vi 7 (.slice _ _ _) (hXS _ hI) rfl (fun W hW => (hSx W hW).oldp h4) (Vu 8 (hXS _ hI) rfl (Vm 9 (hXS _ hI) rfl Tryd.underlying65 rfl (Vi 10 (.bool _) (hXS _ hI) rfl (fun W hW => (hSx W hW).oldp hdg) ?_)))))))
  refine Ae 11 rfl rfl (by kernel_rfl) (hXS _ hI) rfl (fun W hW => have hI := hSx W hW; (by exact U6 rfl rfl)) ?_
  refine Ae 12 rfl rfl (by kernel_rfl) (hXS _ hI) rfl (fun W hW => have hI := hSx W hW; (by exact Fp rfl rfl rfl)) ?_
  refine Tl 13 (hXS _ hI) rfl (Vn 14 rfl (hXS _ hI) rfl (Vn 15 rfl (hXS _ hI) rfl (Vn 16 rfl (hXS _ hI) rfl (Vn 17 rfl (hXS _ hI) rfl (Vn 18 rfl (hXS _ hI) rfl (Vn 19 rfl (hXS _ hI) rfl (Vn 20 rfl (hXS _ hI) rfl (Vn 21 rfl (hXS _ hI) rfl (Vn 22 rfl (hXS _ hI) rfl (Vn 23 rfl (hXS _ hI) rfl (Vn 24 rfl (hXS _ hI) rfl (Vn 25 rfl (hXS _ hI) rfl (Vn 26 rfl (hXS _ hI) rfl ?_)))))))))))))
  refine Ae 27 rfl rfl (by kernel_rfl) (hXS _ hI) rfl (fun W hW => have hI := hSx W hW; (by exact IZ rfl rfl rfl)) ?_
  refine Av (by kernel_rfl) (Ad false rfl (Ah ?_))
  replace hI := hI.d0
  refine Ab (Vd rfl (V0 rfl (Aa ?_)))
  exact ⟨l.length - (k + 1), by omega, k + 1, rfl, by omega, hnext (fun _ e => by rw [hdnk] at e; cases e), ⟨rfl, rfl, rfl, rfl, rfl, trivial⟩, hI⟩
 | false =>
  rw [hdnk] at hdg
  cases hab : ab (oAt l k) (oAt l i) with
  | true =>
   refine Ac (BH (by kernel_rfl) ?_)
   refine BI (T := []) hI.drew ?_
   intro Sx hSx hXS
   replace hI := hI.drew
   refine Vu 0 (hXS _ hI) rfl (Vu 1 (hXS _ hI) rfl ?_)
   refine Ae 2 rfl rfl (by kernel_rfl) (hXS _ hI) rfl (fun W hW => have hI := hSx W hW; (by exact Ps rfl rfl rfl (by omega))) ?_
   refine Tl 3 (hXS _ hI) rfl (T3 4 (hXS _ hI) rfl (T9 5 (hXS _ hI) rfl (Vq 6 4 (hXS _ hI) rfl (Vi 7 (.slice _ _ _) (hXS _ hI) rfl (fun W hW => (hSx W hW).oldp h4) (Vu 8 (hXS _ hI) rfl (Vm 9 (hXS _ hI) rfl Tryd.underlying65 rfl (Vi 10 (.bool _) (hXS _ hI) rfl (fun W hW => (hSx W hW).oldp hdg) ?_)))))))
   refine Ae 11 rfl rfl (by kernel_rfl) (hXS _ hI) rfl (fun W hW => have hI := hSx W hW; (by exact U7 rfl rfl)) ?_
   refine Ae 12 rfl rfl (by kernel_rfl) (hXS _ hI) rfl (fun W hW => have hI := hSx W hW; (by exact Fp rfl rfl rfl)) ?_
   refine Tl 13 (hXS _ hI) rfl (T3 14 (hXS _ hI) rfl (T9 15 (hXS _ hI) rfl (Vq 16 3 (hXS _ hI) rfl (Vi 17 (.func _ _ _) (hXS _ hI) rfl (fun W hW => (hSx W hW).oldp h3) ?_))))
   refine Ae 18 rfl rfl (by kernel_rfl) (hXS _ hI) rfl (fun W hW => have hI := hSx W hW; (by exact VE (n := 8) rfl (by kernel_rfl) (by kernel_rfl) rfl rfl hI.g0)) ?_
   refine T3 19 (hXS _ hI) rfl (T9 20 (hXS _ hI) rfl (Vq 21 1 (hXS _ hI) rfl (Vi 22 (.slice _ _ _) (hXS _ hI) rfl (fun W hW => (hSx W hW).oldp h1) (Vu 23 (hXS _ hI) rfl ?_))))
   refine Ae 24 rfl rfl (by kernel_rfl) (hXS _ hI) rfl (fun W hW => have hI := hSx W hW; (MF (sz := 8) rfl Tryd.underlying22 (by kernel_rfl) rfl rfl (by omega))) ?_
   refine Ae 25 rfl rfl (by kernel_rfl) (hXS _ hI) rfl (fun W hW => have hI := hSx W hW; (by exact ME (n := 8) rfl (by kernel_rfl) (by kernel_rfl) rfl (by rfl) (fun k u hk => hI.oldp (hoci k u hk)))) ?_
   refine V3 26 rfl ?_
   refine OV rfl rfl rfl (VF (f := f) (first := []) (cap := []) (vs := [.agg _, .agg _]) rfl rfl f1 f2 f3 rfl) ?_
   refine (hcall (oAt l k) (oAt l i) _).mono ?_
   rw [hab]
   rintro e w1 ⟨rfl, hp⟩
   refine ⟨_, rfl, ?_⟩
   replace hI := hI.pure hp
   refine Aa ⟨hXS _ hI, ?_⟩
   refine Ae 27 rfl rfl (by kernel_rfl) (hXS _ hI) rfl (fun W hW => have hI := hSx W hW; (by exact Fp rfl rfl rfl)) ?_
   refine Av (by kernel_rfl) (Ad true rfl (Ac (Ab (V6 rfl (Aa ?_)))))
   refine Aj ?_
   exact BD 4 (.inr rfl) rfl ⟨⟨false, rfl, by simp; exact fun hs => by have := hs.2 k hkl hki hdnk; rw [hab] at this; cases this⟩, hI.pu⟩
  | false =>
   refine Ac (BH (by kernel_rfl) ?_)
   refine BI (T := []) hI.drew ?_
   intro Sx hSx hXS
   replace hI := hI.drew
   refine Vu 0 (hXS _ hI) rfl (Vu 1 (hXS _ hI) rfl ?_)
   refine Ae 2 rfl rfl (by kernel_rfl) (hXS _ hI) rfl (fun W hW => have hI := hSx W hW; (by exact Ps rfl rfl rfl (by omega))) ?_
   refine Tl 3 (hXS _ hI) rfl (T3 4 (hXS _ hI) rfl (T9 5 (hXS _ hI) rfl (Vq 6 4 (hXS _ hI) rfl (Vi 7 (.slice _ _ _) (hXS _ hI) rfl (fun W hW => (hSx W hW).oldp h4) (Vu 8 (hXS _ hI) rfl (Vm 9 (hXS _ hI) rfl Tryd.underlying65 rfl (Vi 10 (.bool _) (hXS _ hI) rfl (fun W hW => (hSx W hW).oldp hdg) ?_)))))))
   refine Ae 11 rfl rfl (by kernel_rfl) (hXS _ hI) rfl (fun W hW => have hI := hSx W hW; (by exact U7 rfl rfl)) ?_
   refine Ae 12 rfl rfl (by kernel_rfl) (hXS _ hI) rfl (fun W hW => have hI := hSx W hW; (by exact Fp rfl rfl rfl)) ?_
   refine Tl 13 (hXS _ hI) rfl (T3 14 (hXS _ hI) rfl (T9 15 (hXS _ hI) rfl (Vq 16 3 (hXS _ hI) rfl (Vi 17 (.func _ _ _) (hXS _ hI) rfl (fun W hW => (hSx W hW).oldp h3) ?_))))
   refine Ae 18 rfl rfl (by kernel_rfl) (hXS _ hI) rfl (fun W hW => have hI := hSx W hW; (by exact VE (n := 8) rfl (by kernel_rfl) (by kernel_rfl) rfl rfl hI.g0)) ?_
   refine T3 19 (hXS _ hI) rfl (T9 20 (hXS _ hI) rfl (Vq 21 1 (hXS _ hI) rfl (Vi 22 (.slice _ _ _) (hXS _ hI) rfl (fun W hW => (hSx W hW).oldp h1) (Vu 23 (hXS _ hI) rfl ?_))))
   refine Ae 24 rfl rfl (by kernel_rfl) (hXS _ hI) rfl (fun W hW => have hI := hSx W hW; (MF (sz := 8) rfl Tryd.underlying22 (by kernel_rfl) rfl rfl (by omega))) ?_
   refine Ae 25 rfl rfl (by kernel_rfl) (hXS _ hI) rfl (fun W hW => have hI := hSx W hW; (by exact ME (n := 8) rfl (by kernel_rfl) (by kernel_rfl) rfl (by rfl) (fun k u hk => hI.oldp (hoci k u hk)))) ?_
   refine V3 26 rfl ?_
   refine OV rfl rfl rfl (VF (f := f) (first := []) (cap := []) (vs := [.agg _, .agg _]) rfl rfl f1 f2 f3 rfl) ?_
   refine (hcall (oAt l k) (oAt l i) _).mono ?_
   rw [hab]
   rintro e w1 ⟨rfl, hp⟩
   refine ⟨_, rfl, ?_⟩
   replace hI := hI.pure hp
   refine Aa ⟨hXS _ hI, ?_⟩
   refine Ae 27 rfl rfl (by kernel_rfl) (hXS _ hI) rfl (fun W hW => have hI := hSx W hW; (by exact Fp rfl rfl rfl)) ?_
   refine Av (by kernel_rfl) (Ad false rfl (Ah ?_))
   replace hI := hI.d0
   refine Ab (Vd rfl (V0 rfl (Aa ?_)))
   exact ⟨l.length - (k + 1), by omega, k + 1, rfl, by omega, hnext (fun _ _ => hab), ⟨rfl, rfl, rfl, rfl, rfl, trivial⟩, hI⟩
def stL (L : Loc) (sts : Nat → List Int) : List Value := (List.range 8).map fun k => Value.slice (L k).1 (sts k).length (L k).2
theorem RJ {L : Loc} {sts : Nat → List Int} {k : Nat} (hk : k < 8) : (stL L sts).toArray[k]? = some (.slice (L k).1 (sts k).length (L k).2) := by
 unfold stL
 rw [List.getElem?_toArray, List.getElem?_map, List.getElem?_range hk]
 rfl
def Ck (dn : Nat → Bool) (j : Nat) : List Nat := (List.range j).map fun i => Xe (dn i)
theorem Gc (dn : Nat → Bool) (j : Nat) : Ck dn (j + 1) = Ck dn j ++ [Xe (dn j)] := by simp [Ck, List.range_succ]
def Ff (l : List Int) (q : Nat) : List Nat := (l.take q).flatMap fun n => 32 :: Cj n
theorem NI {l : List Int} {q : Nat} (hq : q < l.length) : Ff l (q + 1) = Ff l q ++ [32] ++ Cj l[q] := by
 unfold Ff
 rw [List.take_succ_eq_append_getElem hq, List.flatMap_append, List.append_assoc]
 simp only [List.flatMap_cons, List.flatMap_nil, List.append_nil]
 rfl
theorem L9 (l : List Int) : Ff l l.length ++ [124] = Gj l := by unfold Ff Gj; rw [List.take_length]
theorem JY (sts : Nat → List Int) (k : Nat) : encS sts (List.range (k + 1)) = encS sts (List.range k) ++ Gj (sts k) := by simp [encS, List.range_succ]
theorem L6 (l : List Int) : ∀ q, (Ff l q).length ≤ 16 * q := by
 intro q
 induction q with
 | zero => simp [Ff]
 | succ q ih =>
  rcases Nat.lt_or_ge q l.length with h | h
  ·rw [NI h]
   have := WE l[q]
   simp
   omega
  ·have : Ff l (q + 1) = Ff l q := by unfold Ff; rw [List.take_of_length_le h, List.take_of_length_le (by omega)]
   rw [this]; omega
theorem WU (l : List Int) : (Gj l).length ≤ 16 * l.length + 1 := by
 rw [← L9]
 have := L6 l l.length
 simp
 omega
theorem WP {sts : Nat → List Int} {m : Nat} (h : ∀ k, (sts k).length ≤ m) : ∀ k, (encS sts (List.range k)).length ≤ k * (16 * m + 1) := by
 intro k
 induction k with
 | zero => simp [encS]
 | succ k ih =>
  rw [JY, List.length_append, Nat.add_mul, Nat.one_mul]
  have h1 := WU (sts k)
  have h2 := h k
  omega
theorem Ct.snoc {base c : Nat} {A : Option Addr} {l : List Nat} {b : Nat} : Ct base A c (l ++ [b]) = Row base 5 1 A (l.length + 1) c (Jj l ++ [.int .u8 (b : Int)]) := by
 unfold Ct
 rw [Me, List.length_append]
 rfl
theorem Aa9 {P : Program} {ρ : Env} {oo : Oper} {w : World} {x y : Operand} {t t' : TypeId} {a b : Nat} (ho : oo.op = .binOp .mul t x y t') (hx : ev ρ x = .int .i64 (a : Int)) (hy : ev ρ y = .int .i64 (b : Int)) (h : a * b ≤ 9223372036854775807) : Ar P ρ oo w (.int .i64 ((a * b : Nat) : Int)) := by
 have hn : (0 : Int) ≤ (a : Int) * (b : Int) := by rw [← Int.natCast_mul]; omega
 have hm : (a : Int) * (b : Int) ≤ 9223372036854775807 := by rw [← Int.natCast_mul]; omega
 have := AbF (P := P) (w := w) ho hx hy ⟨by omega, hm⟩
 rwa [← Int.natCast_mul] at this
set_option maxHeartbeats 4000000 in
theorem UV (sb : Nat) (A : Option Addr) (c n db : Nat) (dn : Nat → Bool) (L : Loc) (sts : Nat → List Int) (w0 : World) (h1 : w0.cell? ⟨sb, 1, none⟩ = some (.slice A n c)) (h4 : w0.cell? ⟨sb, 4, none⟩ = some (.slice (some ⟨db, 0, none⟩) n n)) (hd : Blk w0 db 4 (BJ n dn))
  (h6 : ∀ (j : Nat) (u : Value), (stL L sts)[j]? = some u → w0.cell? ⟨sb, 6 + j, none⟩ = some u) (hst : ∀ k, k < 8 → Rd w0 (fun _ => True) 1 (.slice (L k).1 (sts k).length (L k).2) (sts k).length (Ba (sts k))) (hn : n ≤ 100) (hi : ∀ k, ∀ x ∈ sts k, Es x) (hlen : ∀ k, (sts k).length ≤ 100) :
  Calls Tryd.prog 45 #[.pointer (some ⟨sb, 0, none⟩)] w0 fun en w' => en = .returned (.string (ES (Fe n dn sts))) ∧ Pure w0 w' := by
 have hI := Inv.start (fun _ => False) w0
 refine Vv Tryd.f45.ntmps Tryd.func45 rfl ?_
 refine Ac (Ab ?_)
 refine Af rfl rfl rfl (by exact I5 rfl rfl) ?_
 refine Aa (Ac (Ab (T8 rfl (Td rfl (V7 1 rfl (V2 (.slice _ _ _) rfl (hI.oldp h1) (Vj rfl Tryd.underlying22 rfl ?_)))))))
 refine Af rfl rfl rfl (Aa9 (a := 2) (b := n) rfl rfl rfl (by omega)) ?_
 refine Xl (zv := .int .u8 0) (by_ := 1) (base := 0) hI rfl rfl rfl rfl rfl rfl Tryd.underlying113 (by kernel_rfl) (by omega) (by omega) (Nat.zero_le _) ?_
 clear hI; rintro b16 w _ _ hI
 refine Vf rfl (Aa ?_)
 replace hI : Inv (fun _ => False) w0 w [Ct 0 (some ⟨b16, 0, none⟩) (2 * n) (Ck dn 0)] := hI
 refine Bw (fun ρ w => ∃ (A3 : Option Addr) (c3 : Nat), Has ρ [(3, .slice A3 (Ck dn n).length c3), (0, .pointer (some ⟨sb, 0, none⟩))] ∧ Inv (fun _ => False) w0 w [Ct 0 A3 c3 (Ck dn n)]) ?_ ?_
 ·refine Ac (Ab (T8 rfl (Td rfl (V7 4 rfl (V2 (.slice _ _ _) rfl (hI.oldp h4) (Vj rfl Tryd.underlying65 rfl (V0 rfl (Aa (Am ?_)))))))))
  refine BS (fun mu ρ w => ∃ (k : Nat) (A3 : Option Addr) (c3 : Nat), mu = n - k ∧ k ≤ n ∧ Has ρ [(22, .int .i64 (k : Int)), (21, .int .i64 (n : Int)), (20, .slice (some ⟨db, 0, none⟩) n n), (3, .slice A3 (Ck dn k).length c3), (0, .pointer (some ⟨sb, 0, none⟩))] ∧ Inv (fun _ => False) w0 w [Ct 0 A3 c3 (Ck dn k)]) n
   ⟨0, _, _, rfl, by omega, ⟨rfl, rfl, rfl, rfl, rfl, trivial⟩, hI⟩ ?_
  clear hI
  rintro mu ρ w ⟨k, A3, c3, rfl, hk, hH, hI⟩
  obtain ⟨σ, rfl⟩ := hH.open
  have hbl : (Ck dn k).length = k := by simp [Ck]
  by_cases hkn : k < n
  rotate_left
  ·obtain rfl : k = n := by omega
   refine Ac (Ab (Vp rfl (Aa (Ac (Ad false rfl ?_)))))
   refine BL ?_
   exact ⟨A3, c3, ⟨rfl, rfl, trivial⟩, hI⟩
  have hdg := (hd.cell k).trans (ER (n := n) dn hkn)
  cases hdn : dn k with
  | true =>
   rw [hdn] at hdg
   refine Ac (Ab (Vs rfl (Aa (Ac (Ad true rfl (Ah (Ac (Am (Ac (Ab (Tg rfl Tryd.underlying65 rfl (V2 (.bool _) rfl (hI.oldp hdg) (V6 rfl ?_)))))))))))))
   refine Aa (Ac (Ab (V5 rfl (Aa (Ad true rfl (Ab (V9 rfl (Vk [(0, .int .u8 _)] [_] [.int .u8 0] [0] hI rfl Tryd.underlying113 (fun _ => by kernel_rfl) ?_))))))))
   clear hI; rintro b28 w - - hI
   refine EL (z := .int .u8 0) (by_ := 1) hI rfl rfl rfl rfl rfl rfl Tryd.underlying113 (by kernel_rfl) rfl (by omega) (by rfl) hI.lit0 (by rfl) (by omega) (by omega) (by exact Nat.zero_le _) ?_
   clear hI; rintro A29 c29 w hA29 hc29 hI
   replace hI := hI.d0
   refine Vf rfl (Aa ?_)
   replace hI : Inv (fun _ => False) w0 w [Ct 0 A29 c29 (Ck dn (k + 1))] := by
    rw [Gc, hdn, Ct.snoc]; exact hI
   refine Ab (Vd rfl (V0 rfl (Aa ?_)))
   exact ⟨n - (k + 1), by omega, k + 1, A29, c29, rfl, by omega, ⟨rfl, rfl, rfl, by rw [Gc, List.length_append]; rfl, rfl, trivial⟩, hI⟩
  | false =>
   rw [hdn] at hdg
   refine Ac (Ab (Vs rfl (Aa (Ac (Ad true rfl (Ah (Ac (Am (Ac (Ab (Tg rfl Tryd.underlying65 rfl (V2 (.bool _) rfl (hI.oldp hdg) (V6 rfl ?_)))))))))))))
   refine Aa (Ac (Ab (V5 rfl (Aa (Ad false rfl (Ab (V9 rfl (Vk [(0, .int .u8 _)] [_] [.int .u8 0] [0] hI rfl Tryd.underlying113 (fun _ => by kernel_rfl) ?_))))))))
   clear hI; rintro b31 w - - hI
   refine EL (z := .int .u8 0) (by_ := 1) hI rfl rfl rfl rfl rfl rfl Tryd.underlying113 (by kernel_rfl) rfl (by omega) (by rfl) hI.lit0 (by rfl) (by omega) (by omega) (by exact Nat.zero_le _) ?_
   clear hI; rintro A32 c32 w hA32 hc32 hI
   replace hI := hI.d0
   refine Vf rfl (Aa ?_)
   replace hI : Inv (fun _ => False) w0 w [Ct 0 A32 c32 (Ck dn (k + 1))] := by
    rw [Gc, hdn, Ct.snoc]; exact hI
   refine Ab (Vd rfl (V0 rfl (Aa ?_)))
   exact ⟨n - (k + 1), by omega, k + 1, A32, c32, rfl, by omega, ⟨rfl, rfl, rfl, by rw [Gc, List.length_append]; rfl, rfl, trivial⟩, hI⟩
 clear hI
 rintro ρ w ⟨A3, c3, hH, hI⟩
 obtain ⟨σ, rfl⟩ := hH.open
 have hbl : (Ck dn n).length = n := by simp [Ck]
 refine Bw (fun ρ w => ∃ (A3 : Option Addr) (c3 : Nat), Has ρ [(3, .slice A3 (Fe n dn sts).length c3)] ∧ Inv (fun _ => False) w0 w [Ct 0 A3 c3 (Fe n dn sts)]) ?_ ?_
 ·refine Ac (Ab (T8 rfl (Td rfl (V7 6 rfl (Tm 8 rfl (by rfl) (fun k u hk => hI.oldp (h6 k u hk)) (V0 rfl (Aa (Am ?_))))))))
  refine BS (fun mu ρ w => ∃ (k : Nat) (A3 : Option Addr) (c3 : Nat), mu = 8 - k ∧ k ≤ 8 ∧ Has ρ [(38, .int .i64 (k : Int)), (37, .agg (stL L sts).toArray), (3, .slice A3 (Ck dn n ++ encS sts (List.range k)).length c3)] ∧ Inv (fun _ => False) w0 w [Ct 0 A3 c3 (Ck dn n ++ encS sts (List.range k))]) 8
   ⟨0, A3, c3, rfl, by omega, ⟨rfl, rfl, by simp [encS]; rfl, trivial⟩, by simp only [encS, List.range_zero, List.flatMap_nil, List.append_nil]; exact hI⟩ ?_
  clear hI
  rintro mu ρ w ⟨k, A3, c3, rfl, hk, hH, hI⟩
  obtain ⟨σ, rfl⟩ := hH.open
  by_cases hk8 : k < 8
  rotate_left
  ·obtain rfl : k = 8 := by omega
   refine Ac (Ab (Vp rfl (Aa (Ac (Ad false rfl ?_)))))
   refine BL ?_
   exact ⟨A3, c3, ⟨rfl, trivial⟩, hI⟩
  refine Ac (Ab (Vs rfl (Aa (Ac (Ad true rfl (Ah (Ac (Am (Ac (Ab ?_))))))))))
  refine Af rfl rfl rfl (Z5 rfl Tryd.underlying69 (by kernel_rfl) (by kernel_rfl) rfl rfl (by omega) (RJ hk8)) ?_
  refine Vf rfl (Aa ?_)
  have hrd := hst k hk8
  have hel := WP hlen k
  have hlk := hlen k
  have hk16 : k * (16 * 100 + 1) ≤ 8 * (16 * 100 + 1) := Nat.mul_le_mul_right _ hk
  generalize (L k).1 = Ak at hrd ⊢
  generalize (L k).2 = ck at hrd ⊢
  refine Bw (fun ρ w => ∃ (A3 : Option Addr) (c3 : Nat), Has ρ [(38, .int .i64 (k : Int)), (37, .agg (stL L sts).toArray), (3, .slice A3 (Ck dn n ++ encS sts (List.range k) ++ Ff (sts k) (sts k).length).length c3)] ∧ Inv (fun _ => False) w0 w [Ct 0 A3 c3 (Ck dn n ++ encS sts (List.range k) ++ Ff (sts k) (sts k).length)]) ?_ ?_
  ·refine Ac (Ab (V9 rfl (Vj rfl Tryd.underlying24 rfl (V0 rfl (Aa (Am ?_))))))
   refine BS (fun mu ρ w => ∃ (q : Nat) (A3 : Option Addr) (c3 : Nat), mu = (sts k).length - q ∧ q ≤ (sts k).length ∧ Has ρ [(43, .int .i64 (q : Int)), (42, .int .i64 ((sts k).length : Int)), (41, .slice Ak (sts k).length ck), (38, .int .i64 (k : Int)), (37, .agg (stL L sts).toArray), (3, .slice A3 (Ck dn n ++ encS sts (List.range k) ++ Ff (sts k) q).length c3)] ∧ Inv (fun _ => False) w0 w [Ct 0 A3 c3 (Ck dn n ++ encS sts (List.range k) ++ Ff (sts k) q)]) (sts k).length
    ⟨0, A3, c3, rfl, by omega, ⟨rfl, rfl, rfl, rfl, rfl, by simp [Ff]; rfl, trivial⟩, by simp only [Ff, List.take_zero, List.flatMap_nil, List.append_nil]; exact hI⟩ ?_
   clear hI
   rintro mu ρ w ⟨q, A3, c3, rfl, hq, hH, hI⟩
   obtain ⟨σ, rfl⟩ := hH.open
   by_cases hql : q < (sts k).length
   rotate_left
   ·obtain rfl : q = (sts k).length := by omega
    refine Ac (Ab (Vp rfl (Aa (Ac (Ad false rfl ?_)))))
    refine BL ?_
    exact ⟨A3, c3, ⟨rfl, rfl, rfl, trivial⟩, hI⟩
   have hi0 : (Ba (sts k))[q]? = some (.int .i64 ((sts k)[q]'hql)) := by simp [Ba, hql]
   obtain ⟨ob, oo, rfl, _, _, hcell⟩ := hrd.get hi0 (by omega)
   have hi64 := hi k _ (List.getElem_mem hql)
   have hql16 := L6 (sts k) q
   have hsucc := NI hql
   generalize (sts k)[q]'hql = z at hcell hi64 hsucc
   have htot : (Ck dn n ++ encS sts (List.range k) ++ Ff (sts k) q).length ≤ 20000 := by
    rw [List.length_append, List.length_append]; omega
   generalize hX : Ck dn n ++ encS sts (List.range k) ++ Ff (sts k) q = X at hI htot
   refine Ac (Ab (Vs rfl (Aa (Ac (Ad true rfl (Ah (Ac (Am (Ac (Ab ?_))))))))))
   refine Af rfl rfl rfl (by exact Ep rfl Tryd.underlying24 (by kernel_rfl) rfl rfl (by omega)) ?_
   refine V2 (.int .i64 _) rfl (hI.oldp hcell) (V8 rfl (Aa (Ab (V9 rfl (Vk [(0, .int .u8 _)] [_] [.int .u8 0] [0] hI rfl Tryd.underlying113 (fun _ => by kernel_rfl) ?_)))))
   clear hI; rintro b48 w - - hI
   refine EL (z := .int .u8 0) (by_ := 1) hI rfl rfl rfl rfl rfl rfl Tryd.underlying113 (by kernel_rfl) rfl (by omega) (by rfl) hI.lit0 (by rfl) (by omega) (by omega) (by exact Nat.zero_le _) ?_
   clear hI; rintro A49 c49 w hA49 hc49 hI
   replace hI := hI.d0
   refine V0 rfl (Va [.slice _ _ _, .int .i64 _, .int .i64 _] rfl Tryd.func58 rfl ?_)
   replace hI : Inv (fun _ => False) w0 w [Ct 0 A49 c49 (X ++ [32])] := by
    rw [Ct.snoc]; exact hI
   refine Calls.mono (by have h := Xg 0 A49 c49 (X ++ [32]) z _ (hI.ok _ (by simp)) hi64 (by simp; omega) (Nat.zero_le _); rw [List.length_append] at h; exact h) ?_
   rintro e w1 ⟨A', c', rfl, hT⟩
   refine ⟨_, rfl, ?_⟩
   replace hI := hI.turn1 hT
   refine Vf rfl (Aa (Ab (Vd rfl (V0 rfl (Aa ?_)))))
   have eX : Ck dn n ++ encS sts (List.range k) ++ Ff (sts k) (q + 1) = X ++ [32] ++ Cj z := by rw [hsucc, ← hX]; simp
   exact ⟨(sts k).length - (q + 1), by omega, q + 1, A', c', rfl, by omega, ⟨rfl, rfl, rfl, rfl, rfl, by rw [eX]; rfl, trivial⟩, by rw [eX]; exact hI⟩
  clear hI
  rintro ρ w ⟨A3, c3, hH, hI⟩
  obtain ⟨σ, rfl⟩ := hH.open
  have hq16 := L6 (sts k) (sts k).length
  have htot : (Ck dn n ++ encS sts (List.range k) ++ Ff (sts k) (sts k).length).length ≤ 20000 := by
   rw [List.length_append, List.length_append]; omega
  have eX : Ck dn n ++ encS sts (List.range k) ++ Ff (sts k) (sts k).length ++ [124] = Ck dn n ++ encS sts (List.range (k + 1)) := by rw [JY, ← L9]; simp
  generalize hX : Ck dn n ++ encS sts (List.range k) ++ Ff (sts k) (sts k).length = X at hI htot eX
  refine Ab (V9 rfl (Vk [(0, .int .u8 _)] [_] [.int .u8 0] [0] hI rfl Tryd.underlying113 (fun _ => by kernel_rfl) ?_))
  clear hI; rintro b54 w - - hI
  refine EL (z := .int .u8 0) (by_ := 1) hI rfl rfl rfl rfl rfl rfl Tryd.underlying113 (by kernel_rfl) rfl (by omega) (by rfl) hI.lit0 (by rfl) (by omega) (by omega) (by exact Nat.zero_le _) ?_
  clear hI; rintro A55 c55 w hA55 hc55 hI
  replace hI := hI.d0
  refine Vf rfl (Aa ?_)
  replace hI : Inv (fun _ => False) w0 w [Ct 0 A55 c55 (Ck dn n ++ encS sts (List.range (k + 1)))] := by
   rw [← eX, Ct.snoc]; exact hI
  refine Ab (Vd rfl (V0 rfl (Aa ?_)))
  exact ⟨8 - (k + 1), by omega, k + 1, A55, c55, rfl, by omega, ⟨rfl, rfl, by rw [← eX, List.length_append]; rfl, trivial⟩, hI⟩
 clear hI
 rintro ρ w ⟨A3, c3, hH, hI⟩
 obtain ⟨σ, rfl⟩ := hH.open
 have hpos : 0 < (Fe n dn sts).length := by
  unfold Fe
  rw [List.length_append, JY sts 7, List.length_append, ← L9]
  simp
  omega
 refine Ac (Ab (V9 rfl ?_))
 refine Af rfl rfl rfl (Tx rfl Tryd.underlying113 Tryd.underlying5 Tryd.underlying9 rfl hI.g0 (LU n dn sts) hpos) ?_
 refine Af rfl rfl rfl (by exact I5 rfl rfl) ?_
 refine Aa ?_
 refine Aj ?_
 exact BD 2 (.inr rfl) rfl ⟨rfl, hI.pu⟩
end Go.Proofs.YtkkmokodaejheaaDoor
namespace Go.Proofs.YtkkmokodaejheaaDoor
structure SSt where
 dn : Nat → Bool
 sts : Nat → List Int
 ord : List Int
 ent : List (List Nat)
def BB (dn : Nat → Bool) (i : Nat) (b : Bool) : Nat → Bool := fun x => if x = i then b else dn x
def BC (sts : Nat → List Int) (k : Nat) (st : List Int) : Nat → List Int := fun j => if j = k then st else sts j
def DI (l : List Op8) (dn : Nat → Bool) : Bool := (List.range l.length).all fun i => !decide (0 ≤ (oAt l i).ret) || dn i
def DC (l : List Op8) (ab : Op8 → Op8 → Bool) (dn : Nat → Bool) (i : Nat) : Bool := !dn i && (List.range l.length).all fun k => k == i || dn k || !ab (oAt l k) (oAt l i)
def CY (l : List Op8) (i : Nat) : Nat := (oAt l i).key.toNat
def goF (o : Int) (l : List Op8) (sts : Nat → List Int) (i : Nat) : Option (List Int) := match BR o (sts (CY l i)) (oAt l i).kind (oAt l i).a (oAt l i).b with
 | none => none
 | some (st', r) => if (oAt l i).ret ≠ -1 ∧ r ≠ (oAt l i).res then none else some st'
def Cv (l : List Op8) (s : SSt) (i : Nat) (st' : List Int) : SSt := ⟨BB s.dn i true, BC s.sts (CY l i) st', s.ord ++ [(i : Int)], s.ent⟩
def BA (o : Int) (l : List Op8) (ab : Op8 → Op8 → Bool) (rec : SSt → Int × SSt) : List Nat → SSt → Int × SSt
 | [], s => (2, s)
 | i :: r, s => match DC l ab s.dn i with
  | false => BA o l ab rec r s
  | true => match goF o l s.sts i with
   | none => BA o l ab rec r s
   | some st' => if (rec (Cv l s i st')).1 = 2 then BA o l ab rec r ⟨s.dn, s.sts, s.ord, (rec (Cv l s i st')).2.ent⟩ else rec (Cv l s i st')
section
variable {o : Int} {l : List Op8} {ab : Op8 → Op8 → Bool} {rec : SSt → Int × SSt} {i : Nat} {r : List Nat} {s : SSt} {st' : List Int}
theorem Ik (h : DC l ab s.dn i = false) : BA o l ab rec (i :: r) s = BA o l ab rec r s := by rw [BA, h]
theorem Jc (h : DC l ab s.dn i = true) (hg : goF o l s.sts i = none) : BA o l ab rec (i :: r) s = BA o l ab rec r s := by rw [BA, h, hg]
theorem LP (h : DC l ab s.dn i = true) (hg : goF o l s.sts i = some st') (h2 : (rec (Cv l s i st')).1 = 2) : BA o l ab rec (i :: r) s = BA o l ab rec r ⟨s.dn, s.sts, s.ord, (rec (Cv l s i st')).2.ent⟩ := by rw [BA, h, hg]; exact if_pos h2
theorem JS (h : DC l ab s.dn i = true) (hg : goF o l s.sts i = some st') (h2 : (rec (Cv l s i st')).1 ≠ 2) : BA o l ab rec (i :: r) s = rec (Cv l s i st') := by rw [BA, h, hg]; exact if_neg h2
end
def FE (l : List Op8) (s : SSt) : SSt := ⟨s.dn, s.sts, s.ord, s.ent ++ [Fe l.length s.dn s.sts]⟩
def AP (o : Int) (l : List Op8) (ab : Op8 → Op8 → Bool) (bud : Nat) : Nat → SSt → Int × SSt
 | 0, s => (2, s)
 | f + 1, s => match DI l s.dn with
  | true => (1, s)
  | false => if Fe l.length s.dn s.sts ∈ s.ent then (2, s) else if s.ent.length = bud then (3, s) else BA o l ab (AP o l ab bud f) (List.range l.length) (FE l s)
section
variable {o : Int} {l : List Op8} {ab : Op8 → Op8 → Bool} {bud f : Nat} {s : SSt}
theorem Ga (h : DI l s.dn = true) : AP o l ab bud (f + 1) s = (1, s) := by rw [AP, h]
theorem F9 (h : DI l s.dn = false) (hk : Fe l.length s.dn s.sts ∈ s.ent) : AP o l ab bud (f + 1) s = (2, s) := by rw [AP, h]; exact if_pos hk
theorem Fw (h : DI l s.dn = false) (hk : Fe l.length s.dn s.sts ∉ s.ent) (hb : s.ent.length = bud) : AP o l ab bud (f + 1) s = (3, s) := by rw [AP, h]; exact (if_neg hk).trans (if_pos hb)
theorem Hm (h : DI l s.dn = false) (hk : Fe l.length s.dn s.sts ∉ s.ent) (hb : s.ent.length ≠ bud) : AP o l ab bud (f + 1) s = BA o l ab (AP o l ab bud f) (List.range l.length) (FE l s) := by rw [AP, h]; exact (if_neg hk).trans (if_neg hb)
end
def Bn (o : Int) : SSt := ⟨fun _ => false, fun k => if k < 8 then Bl o else [], [], []⟩
def Be (o : Int) (l : List Op8) (ab : Op8 → Op8 → Bool) (bud : Nat) : Int × SSt := AP o l ab bud (l.length + 1) (Bn o)
def Gl (n : Nat) (dn : Nat → Bool) : Nat := (List.range n).countP dn
def DZ (n : Nat) (dn : Nat → Bool) : Nat := (List.range n).countP fun i => !dn i
theorem GM (n : Nat) (dn : Nat → Bool) : Gl n dn + DZ n dn = n := by
 unfold Gl DZ
 induction n with
 | zero => rfl
 | succ n ih =>
  rw [List.range_succ, List.countP_append, List.countP_append]
  cases h : dn n <;> simp [h] at ih ⊢ <;> omega
theorem WY {n i : Nat} {dn : Nat → Bool} {b : Bool} (h : n ≤ i) : Gl n (BB dn i b) = Gl n dn := by
 unfold Gl
 refine List.countP_congr fun x hx => ?_
 have := List.mem_range.1 hx
 unfold BB
 rw [if_neg (by omega)]
theorem Jh : ∀ {n i : Nat} {dn : Nat → Bool}, i < n → dn i = false → Gl n (BB dn i true) = Gl n dn + 1
 | 0, _, _, h, _ => by omega
 | n + 1, i, dn, h, hd => by
  unfold Gl
  rw [List.range_succ, List.countP_append, List.countP_append]
  by_cases hi : i = n
  ·subst hi
   have := WY (n := i) (i := i) (dn := dn) (b := true) (Nat.le_refl _)
   unfold Gl at this
   rw [this]
   simp [BB, hd]
  ·have := Jh (n := n) (i := i) (dn := dn) (by omega) hd
   unfold Gl at this
   rw [this]
   have e : BB dn i true n = dn n := by unfold BB; rw [if_neg (Ne.symm hi)]
   simp [e]
   omega
theorem K9 {n i : Nat} {dn : Nat → Bool} (h : i < n) (hd : dn i = false) : DZ n (BB dn i true) + 1 = DZ n dn := by
 have h1 := GM n dn
 have h2 := GM n (BB dn i true)
 have h3 := Jh h hd
 omega
theorem He {l : List Op8} {ab : Op8 → Op8 → Bool} {dn : Nat → Bool} {i : Nat} (h : DC l ab dn i = true) : dn i = false := by
 unfold DC at h
 simp at h
 exact h.1
section
variable {o : Int} {l : List Op8} {ab : Op8 → Op8 → Bool}
theorem Jb {rec : SSt → Int × SSt} {B : Nat} (hrec : ∀ s, s.ent.length ≤ B → (rec s).2.ent.length ≤ B) : ∀ (r : List Nat) (s : SSt), s.ent.length ≤ B → (BA o l ab rec r s).2.ent.length ≤ B
 | [], s, h => h
 | i :: r, s, h => by
  unfold BA
  split
  ·exact Jb hrec r s h
  ·split
   ·exact Jb hrec r s h
   ·split
    ·exact Jb hrec r _ (hrec _ h)
    ·exact hrec _ h
theorem NH {bud : Nat} : ∀ (f : Nat) (s : SSt), s.ent.length ≤ bud → (AP o l ab bud f s).2.ent.length ≤ bud
 | 0, s, h => h
 | f + 1, s, h => by
  unfold AP
  split
  ·exact h
  ·split
   ·exact h
   ·split
    ·exact h
    ·refine Jb (NH f) _ _ ?_
     simp [FE]
     omega
def tT : Nat → Nat
 | 0 => 1
 | m + 1 => 1 + (m + 1) * tT m
theorem ZE : ∀ m, 1 ≤ tT m
 | 0 => Nat.le_refl _
 | m + 1 => by unfold tT; omega
theorem JQ {rec : SSt → Int × SSt} {m : Nat} (hrec : ∀ s, DZ l.length s.dn = m → (rec s).2.ent.length ≤ s.ent.length + tT m) : ∀ (r : List Nat) (s : SSt), (∀ i ∈ r, i < l.length) → DZ l.length s.dn = m + 1 → (BA o l ab rec r s).2.ent.length ≤ s.ent.length + r.countP (fun i => !s.dn i) * tT m
 | [], s, _, h => by simp [BA]
 | i :: r, s, hr, h => by
  have ih := JQ (rec := rec) (m := m) hrec r s (fun j hj => hr j (by simp [hj])) h
  have hle : r.countP (fun i => !s.dn i) * tT m ≤ (i :: r).countP (fun i => !s.dn i) * tT m := Nat.mul_le_mul_right _ (by rw [List.countP_cons]; omega)
  unfold BA
  split
  ·omega
  ·rename_i hx
   split
   ·omega
   ·rename_i st' hg
    have hd := He hx
    have hu := K9 (n := l.length) (hr i (by simp)) hd
    have h1 := hrec (Cv l s i st') (by show DZ l.length (BB s.dn i true) = m; omega)
    have h1 : (rec (Cv l s i st')).2.ent.length ≤ s.ent.length + tT m := h1
    have e : (i :: r).countP (fun i => !s.dn i) * tT m = r.countP (fun i => !s.dn i) * tT m + tT m := by
     rw [List.countP_cons]
     simp [hd, Nat.add_mul]
    split
    ·have h2 := JQ (rec := rec) (m := m) hrec r ⟨s.dn, s.sts, s.ord, (rec (Cv l s i st')).2.ent⟩ (fun j hj => hr j (by simp [hj])) h
     simp only at h2
     omega
    ·omega
theorem JR {rec : SSt → Int × SSt} : ∀ (r : List Nat) (s : SSt), (∀ i ∈ r, s.dn i = true) → BA o l ab rec r s = (2, s)
 | [], s, _ => rfl
 | i :: r, s, h => by
  unfold BA
  split
  ·exact JR r s fun j hj => h j (by simp [hj])
  ·rename_i hx
   have := He hx
   rw [h i (by simp)] at this
   cases this
theorem MR {n : Nat} {dn : Nat → Bool} (h : DZ n dn = 0) : ∀ i ∈ List.range n, dn i = true := by
 unfold DZ at h
 rw [List.countP_eq_zero] at h
 intro i hi
 simpa using h i hi
theorem LZ {bud : Nat} : ∀ (f : Nat) (s : SSt), (AP o l ab bud f s).2.ent.length ≤ s.ent.length + tT (DZ l.length s.dn)
 | 0, s => Nat.le_add_right _ _
 | f + 1, s => by
  unfold AP
  split
  ·exact Nat.le_add_right _ _
  ·split
   ·exact Nat.le_add_right _ _
   ·split
    ·exact Nat.le_add_right _ _
    ·cases hm : DZ l.length s.dn with
     | zero =>
      rw [JR _ (FE l s) (MR hm)]
      simp [FE, tT]
     | succ m =>
      have h := JQ (o := o) (ab := ab) (rec := AP o l ab bud f) (m := m) (fun s hs => by rw [← hs]; exact LZ f s) (List.range l.length) (FE l s) (fun i hi => List.mem_range.1 hi) hm
      have e : (List.range l.length).countP (fun i => !(FE l s).dn i) = m + 1 := hm
      rw [e] at h
      have e2 : (FE l s).ent.length = s.ent.length + 1 := by simp [FE]
      rw [e2] at h
      show _ ≤ s.ent.length + (1 + (m + 1) * tT m)
      omega
theorem Ij {rec : SSt → Int × SSt} {m B : Nat} (hsz : ∀ s, DZ l.length s.dn = m → (rec s).2.ent.length ≤ s.ent.length + tT m) (hrec : ∀ s, DZ l.length s.dn = m → s.ent.length + tT m ≤ B → (rec s).1 ≠ 3) : ∀ (r : List Nat) (s : SSt), (∀ i ∈ r, i < l.length) → DZ l.length s.dn = m + 1 → s.ent.length + r.countP (fun i => !s.dn i) * tT m ≤ B → (BA o l ab rec r s).1 ≠ 3
 | [], s, _, h, _ => by simp [BA]
 | i :: r, s, hr, h, hB => by
  have hle : r.countP (fun i => !s.dn i) * tT m ≤ (i :: r).countP (fun i => !s.dn i) * tT m := Nat.mul_le_mul_right _ (by rw [List.countP_cons]; omega)
  have ih := Ij hsz hrec r s (fun j hj => hr j (by simp [hj])) h (by omega)
  unfold BA
  split
  ·exact ih
  ·rename_i hx
   split
   ·exact ih
   ·rename_i st' hg
    have hd := He hx
    have hu := K9 (n := l.length) (hr i (by simp)) hd
    have h1 : (rec (Cv l s i st')).2.ent.length ≤ s.ent.length + tT m := hsz (Cv l s i st') (by show DZ l.length (BB s.dn i true) = m; omega)
    have e : (i :: r).countP (fun i => !s.dn i) * tT m = r.countP (fun i => !s.dn i) * tT m + tT m := by
     rw [List.countP_cons]
     simp [hd, Nat.add_mul]
    split
    ·exact Ij hsz hrec r ⟨s.dn, s.sts, s.ord, (rec (Cv l s i st')).2.ent⟩ (fun j hj => hr j (by simp [hj])) h (by simp only; omega)
    ·exact hrec _ (by show DZ l.length (BB s.dn i true) = m; omega) (by show s.ent.length + tT m ≤ B; omega)
theorem Kt {bud : Nat} : ∀ (f : Nat) (s : SSt), s.ent.length + tT (DZ l.length s.dn) ≤ bud → (AP o l ab bud f s).1 ≠ 3
 | 0, s, _ => by simp [AP]
 | f + 1, s, h => by
  have hp := ZE (DZ l.length s.dn)
  unfold AP
  split
  ·simp
  ·split
   ·simp
   ·rw [if_neg (by omega)]
    cases hm : DZ l.length s.dn with
    | zero => rw [JR _ (FE l s) (MR hm)]; simp
    | succ m =>
     refine Ij (m := m) (B := bud) (fun s hs => by rw [← hs]; exact LZ f s) (fun s hs hB => Kt f s (by rw [hs]; exact hB)) (List.range l.length) (FE l s) (fun i hi => List.mem_range.1 hi) hm ?_
     have e : (List.range l.length).countP (fun i => !(FE l s).dn i) = m + 1 := hm
     rw [e]
     have e2 : (FE l s).ent.length = s.ent.length + 1 := by simp [FE]
     rw [e2]
     rw [hm] at h
     have : s.ent.length + (1 + (m + 1) * tT m) ≤ bud := h
     omega
theorem H9 (n : Nat) : DZ n (fun _ => false) = n := by simp [DZ]
theorem XI (b : Nat) : tT b ≤ tT (b + 1) := by
 have h2 : tT b ≤ (b + 1) * tT b := Nat.le_mul_of_pos_left _ (by omega)
 have h3 : tT (b + 1) = 1 + (b + 1) * tT b := rfl
 omega
theorem XJ {a b : Nat} (h : a ≤ b) : tT a ≤ tT b := by
 induction b with
 | zero =>
  obtain rfl : a = 0 := by omega
  exact Nat.le_refl _
 | succ b ih =>
  rcases Nat.lt_or_ge a (b + 1) with h1 | h1
  ·exact Nat.le_trans (ih (by omega)) (XI b)
  ·obtain rfl : a = b + 1 := by omega
   exact Nat.le_refl _
theorem K8 {bud : Nat} (hl : l.length ≤ 8) (hb : 109601 ≤ bud) : (Be o l ab bud).1 ≠ 3 := by
 refine Kt _ _ ?_
 have h1 : DZ l.length (Bn o).dn = l.length := H9 l.length
 rw [h1]
 have h2 := XJ hl
 have h3 : tT 8 = 109601 := by decide
 have : (Bn o).ent.length = 0 := rfl
 omega
theorem Hg {rec : SSt → Int × SSt} (hrec : ∀ s, (rec s).1 = 1 ∨ (rec s).1 = 2 ∨ (rec s).1 = 3) : ∀ (r : List Nat) (s : SSt), (BA o l ab rec r s).1 = 1 ∨ (BA o l ab rec r s).1 = 2 ∨ (BA o l ab rec r s).1 = 3
 | [], s => .inr (.inl rfl)
 | i :: r, s => by
  unfold BA
  split
  ·exact Hg hrec r s
  ·split
   ·exact Hg hrec r s
   ·split
    ·exact Hg hrec r _
    ·exact hrec _
theorem Io {bud : Nat} : ∀ (f : Nat) (s : SSt), (AP o l ab bud f s).1 = 1 ∨ (AP o l ab bud f s).1 = 2 ∨ (AP o l ab bud f s).1 = 3
 | 0, s => .inr (.inl rfl)
 | f + 1, s => by
  unfold AP
  split
  ·exact .inl rfl
  ·split
   ·exact .inr (.inl rfl)
   ·split
    ·exact .inr (.inr rfl)
    ·exact Hg (Io f) _ _
end
structure Dw (l : List Op8) : Prop where
 key : ∀ i, i < l.length → 0 ≤ (oAt l i).key ∧ (oAt l i).key < 8
 a : ∀ i, i < l.length → Es (oAt l i).a
 b : ∀ i, i < l.length → Es (oAt l i).b
 ret : ∀ i, i < l.length → (oAt l i).ret = -1 ∨ 0 ≤ (oAt l i).ret
theorem Dw.CY {l : List Op8} (h : Dw l) {i : Nat} (hi : i < l.length) : CY l i < 8 := by
 have := h.key i hi
 unfold Go.Proofs.YtkkmokodaejheaaDoor.CY
 omega
structure GoodS (o : Int) (n : Nat) (dn : Nat → Bool) (sts : Nat → List Int) : Prop where
 dnOut : ∀ i, n ≤ i → dn i = false
 stOut : ∀ k, 8 ≤ k → sts k = []
 i64 : ∀ k, ∀ x ∈ sts k, Es x
 ok : ∀ k, PI o (sts k)
 len : ∀ k, (sts k).length ≤ Gl n dn + 1
theorem Su (z : Int) : Es (IntKind.i64.wrap z) := by
 unfold Es
 simp [IntKind.wrap, IntKind.signed, IntKind.bits]
 split <;> omega
theorem SE {o : Int} {st st' : List Int} {k a b r : Int} (h : BR o st k a b = some (st', r)) (hs : ∀ x ∈ st, Es x) (ha : Es a) (hb : Es b) : ∀ x ∈ st', Es x := by
 have h0 : Es (st.getD 0 0) := by
  cases st with
  | nil => exact ⟨by decide, by decide⟩
  | cons x st => exact hs x (by simp)
 have hone : ∀ b : Bool, Es (PH b) := fun b => by cases b <;> exact ⟨by decide, by decide⟩
 unfold BR at h
 split at h
 ·cases h
 split at h
 ·injection h with h; injection h with h1 _; subst h1
  intro x hx
  rw [List.mem_singleton.1 hx]
  unfold Lv
  split
  ·exact h0
  ·split
   ·exact ha
   ·split
    ·exact hb
    ·exact h0
 split at h
 ·injection h with h; injection h with h1 _; subst h1
  intro x hx
  rw [List.mem_singleton.1 hx]
  split
  ·exact Su _
  ·exact h0
 split at h
 ·injection h with h
  have h1 : (EG st k a).1 = st' := by rw [h]
  subst h1
  unfold EG
  intro x hx
  split at hx
  ·simp only [PV, List.mem_append, List.mem_cons] at hx
   rcases hx with hx | rfl | hx
   ·exact hs x (List.mem_of_mem_take hx)
   ·exact ha
   ·exact hs x (List.mem_of_mem_drop hx)
  ·split at hx
   ·simp only [Qb, List.mem_append] at hx
    rcases hx with hx | hx
    ·exact hs x (List.mem_of_mem_take hx)
    ·exact hs x (List.mem_of_mem_drop hx)
   ·exact hs x hx
 split at h
 ·split at h
  ·injection h with h; injection h with h1 _; subst h1
   intro x hx
   rw [List.mem_singleton.1 hx]
   exact hone _
  ·cases h
 ·injection h with h
  have h1 : (CQ o st k a).1 = st' := by rw [h]
  subst h1
  unfold CQ
  intro x hx
  split at hx
  ·rcases List.mem_append.1 hx with hx | hx
   ·exact hs x hx
   ·rw [List.mem_singleton.1 hx]; exact ha
  ·split at hx
   ·exact hs x hx
   ·split at hx
    ·exact hs x (List.mem_of_mem_drop hx)
    ·exact hs x (List.mem_of_mem_take hx)
theorem PY {o : Int} {l : List Op8} {sts : Nat → List Int} {i : Nat} {st' : List Int} (h : goF o l sts i = some st') : ∃ r, BR o (sts (CY l i)) (oAt l i).kind (oAt l i).a (oAt l i).b = some (st', r) ∧ ¬ ((oAt l i).ret ≠ -1 ∧ r ≠ (oAt l i).res) := by
 unfold goF at h
 split at h
 ·cases h
 ·rename_i s' r hs
  split at h
  ·cases h
  ·rename_i hn
   injection h with h
   subst h
   exact ⟨r, hs, hn⟩
theorem GoodS.step {o : Int} {l : List Op8} {dn : Nat → Bool} {sts : Nat → List Int} {i : Nat} {st' : List Int} (h : GoodS o l.length dn sts) (hA : Dw l) (hi : i < l.length) (hd : dn i = false) (hg : goF o l sts i = some st') : GoodS o l.length (BB dn i true) (BC sts (CY l i) st') := by
 obtain ⟨r, hs, _⟩ := PY hg
 have hc := Jh hi hd
 have hk := hA.CY hi
 refine ⟨fun j hj => ?_, fun k hk' => ?_, fun k => ?_, fun k => ?_, fun k => ?_⟩
 ·unfold BB; rw [if_neg (by omega)]; exact h.dnOut j hj
 ·unfold BC; rw [if_neg (by omega)]; exact h.stOut k hk'
 ·unfold BC; split
  ·exact SE hs (h.i64 _) (hA.a i hi) (hA.b i hi)
  ·exact h.i64 k
 ·unfold BC; split
  ·exact O8 hs (h.ok _)
  ·exact h.ok k
 ·rw [hc]; unfold BC; split
  ·have := M6 hs
   have := h.len (CY l i)
   omega
  ·have := h.len k
   omega
theorem Ko (o : Int) (n : Nat) : GoodS o n (Bn o).dn (Bn o).sts := by
 refine ⟨fun _ _ => rfl, fun k hk => if_neg (by omega), fun k x hx => ?_, fun k => ?_, fun k => ?_⟩
 ·simp only [Bn] at hx
  split at hx
  ·unfold Bl at hx
   split at hx
   ·rw [List.mem_singleton.1 hx]; exact ⟨by decide, by decide⟩
   ·cases hx
  ·cases hx
 ·simp only [Bn]
  split
  ·exact LH o
  ·intro _; exact .nil
 ·simp only [Bn]
  split
  ·have := Lf o; omega
  ·simp
theorem GoodS.key_inj {o : Int} {n : Nat} {dn dn' : Nat → Bool} {sts sts' : Nat → List Int} (h : GoodS o n dn sts) (h' : GoodS o n dn' sts') (he : Fe n dn sts = Fe n dn' sts') : dn = dn' ∧ sts = sts' := by
 obtain ⟨e1, e2⟩ := WB h.i64 h'.i64 he
 constructor
 ·funext i
  rcases Nat.lt_or_ge i n with hi | hi
  ·exact e1 i hi
  ·rw [h.dnOut i hi, h'.dnOut i hi]
 ·funext k
  rcases Nat.lt_or_ge k 8 with hk | hk
  ·exact e2 k hk
  ·rw [h.stOut k hk, h'.stOut k hk]
section
variable (o : Int) (l : List Op8) (ab : Op8 → Op8 → Bool)
def Wit : List Nat → (Nat → Bool) → (Nat → List Int) → Prop
 | [], dn, _ => DI l dn = true
 | i :: r, dn, sts => i < l.length ∧ DC l ab dn i = true ∧ ∃ st', goF o l sts i = some st' ∧ Wit r (BB dn i true) (BC sts (CY l i) st')
def Dead (dn : Nat → Bool) (sts : Nat → List Int) : Prop := ∀ r, ¬ Wit o l ab r dn sts
def XA (k : List Nat) : Prop := ∀ dn sts, GoodS o l.length dn sts → Fe l.length dn sts = k → Dead o l ab dn sts
def Xz (m : Nat) (ent : List (List Nat)) : Prop := ∀ k ∈ ent, ∀ dn sts, GoodS o l.length dn sts → Fe l.length dn sts = k → Dead o l ab dn sts ∨ Gl l.length dn < m
end
section
variable {o : Int} {l : List Op8} {ab : Op8 → Op8 → Bool}
theorem Eh (hA : Dw l) {rec : SSt → Int × SSt} {m : Nat} (hrec : ∀ s, GoodS o l.length s.dn s.sts → Gl l.length s.dn = m + 1 → Xz o l ab (m + 1) s.ent → (rec s).1 = 2 → Dead o l ab s.dn s.sts ∧ ∀ k ∈ (rec s).2.ent, k ∈ s.ent ∨ XA o l ab k) :
  ∀ (r : List Nat) (s : SSt), (∀ i ∈ r, i < l.length) → GoodS o l.length s.dn s.sts → Gl l.length s.dn = m → Xz o l ab (m + 1) s.ent → (BA o l ab rec r s).1 = 2 →
  (∀ i ∈ r, DC l ab s.dn i = true → ∀ st', goF o l s.sts i = some st' → Dead o l ab (BB s.dn i true) (BC s.sts (CY l i) st')) ∧ ∀ k ∈ (BA o l ab rec r s).2.ent, k ∈ s.ent ∨ XA o l ab k
 | [], s, _, _, _, _, _ => ⟨by simp, fun k hk => .inl hk⟩
 | i :: r, s, hr, hG, hm, hE, h2 => by
  have hr' : ∀ j ∈ r, j < l.length := fun j hj => hr j (by simp [hj])
  cases hx : DC l ab s.dn i with
  | false =>
   rw [Ik hx] at h2 ⊢
   obtain ⟨h3, h4⟩ := Eh hA hrec r s hr' hG hm hE h2
   refine ⟨fun j hj hn st' hg => ?_, h4⟩
   rcases List.mem_cons.1 hj with rfl | hj
   ·rw [hx] at hn; cases hn
   ·exact h3 j hj hn st' hg
  | true =>
   cases hg0 : goF o l s.sts i with
   | none =>
    rw [Jc hx hg0] at h2 ⊢
    obtain ⟨h3, h4⟩ := Eh hA hrec r s hr' hG hm hE h2
    refine ⟨fun j hj hn st' hg => ?_, h4⟩
    rcases List.mem_cons.1 hj with rfl | hj
    ·rw [hg0] at hg; cases hg
    ·exact h3 j hj hn st' hg
   | some st1 =>
    have hd := He hx
    have hi : i < l.length := hr i (by simp)
    have hGc := hG.step hA hi hd hg0
    have hcc := Jh hi hd
    by_cases hc2 : (rec (Cv l s i st1)).1 = 2
    ·rw [LP hx hg0 hc2] at h2 ⊢
     obtain ⟨h5, h6⟩ := hrec (Cv l s i st1) hGc (by show Gl l.length (BB s.dn i true) = m + 1; omega) hE hc2
     have hE' : Xz o l ab (m + 1) (rec (Cv l s i st1)).2.ent := by
      intro k hk dn sts g1 g2
      rcases h6 k hk with h7 | h7
      ·exact hE k h7 dn sts g1 g2
      ·exact .inl (h7 dn sts g1 g2)
     obtain ⟨h3, h4⟩ := Eh hA hrec r ⟨s.dn, s.sts, s.ord, (rec (Cv l s i st1)).2.ent⟩ hr' hG hm hE' h2
     refine ⟨fun j hj hn st' hg => ?_, fun k hk => ?_⟩
     ·rcases List.mem_cons.1 hj with rfl | hj
      ·rw [hg0] at hg; injection hg with hg; subst hg; exact h5
      ·exact h3 j hj hn st' hg
     ·rcases h4 k hk with h7 | h7
      ·exact h6 k h7
      ·exact .inr h7
    ·rw [JS hx hg0 hc2] at h2
     exact absurd h2 hc2
theorem GL (hA : Dw l) {bud : Nat} : ∀ (f : Nat) (s : SSt), GoodS o l.length s.dn s.sts → DZ l.length s.dn < f → Xz o l ab (Gl l.length s.dn) s.ent → (AP o l ab bud f s).1 = 2 →
  Dead o l ab s.dn s.sts ∧ ∀ k ∈ (AP o l ab bud f s).2.ent, k ∈ s.ent ∨ XA o l ab k
 | 0, s, _, h, _, _ => absurd h (by omega)
 | f + 1, s, hG, hf, hE, h2 => by
  cases ha : DI l s.dn with
  | true => rw [Ga ha] at h2; exact absurd h2 (by simp)
  | false =>
   by_cases hk : Fe l.length s.dn s.sts ∈ s.ent
   ·rw [F9 ha hk] at h2 ⊢
    refine ⟨?_, fun k hk => .inl hk⟩
    rcases hE _ hk s.dn s.sts hG rfl with h3 | h3
    ·exact h3
    ·omega
   ·by_cases hb : s.ent.length = bud
    ·rw [Fw ha hk hb] at h2; exact absurd h2 (by simp)
    ·rw [Hm ha hk hb] at h2 ⊢
     have hE' : Xz o l ab (Gl l.length s.dn + 1) (FE l s).ent := by
      intro k hk dn sts g1 g2
      simp only [FE, List.mem_append, List.mem_singleton] at hk
      rcases hk with hk | hk
      ·rcases hE k hk dn sts g1 g2 with h3 | h3
       ·exact .inl h3
       ·exact .inr (by omega)
      ·obtain ⟨e1, e2⟩ := g1.key_inj hG (g2.trans hk)
       subst e1
       exact .inr (by omega)
     have hcu := GM l.length s.dn
     obtain ⟨h3, h4⟩ := Eh hA (rec := AP o l ab bud f) (m := Gl l.length s.dn) (fun s' g1 g2 g3 g4 => by
      have hcu' := GM l.length s'.dn
      exact GL hA f s' g1 (by omega) (by rw [g2]; exact g3) g4) (List.range l.length) (FE l s) (fun i hi => List.mem_range.1 hi) hG rfl hE' h2
     have hdead : Dead o l ab s.dn s.sts := by
      intro r hw
      cases r with
      | nil =>
       have : DI l s.dn = true := hw
       rw [ha] at this; cases this
      | cons i r =>
       obtain ⟨w1, w2, st', w3, w4⟩ := hw
       exact h3 i (List.mem_range.2 w1) w2 st' w3 r w4
     refine ⟨hdead, fun k hk => ?_⟩
     rcases h4 k hk with h5 | h5
     ·simp only [FE, List.mem_append, List.mem_singleton] at h5
      rcases h5 with h5 | h5
      ·exact .inl h5
      ·refine .inr fun dn sts g1 g2 => ?_
       obtain ⟨e1, e2⟩ := g1.key_inj hG (g2.trans h5)
       subst e1 e2
       exact hdead
     ·exact .inr h5
theorem Ht (hA : Dw l) {bud : Nat} (h2 : (Be o l ab bud).1 = 2) : Dead o l ab (fun _ => false) (Bn o).sts := by
 refine (GL hA _ _ (Ko o l.length) ?_ (fun k hk => by cases hk) h2).1
 have : DZ l.length (Bn o).dn = l.length := H9 l.length
 omega
def Xr (o : Int) (l : List Op8) : List Int → (Nat → List Int) → (Nat → List Int) → Prop
 | [], a, b => a = b
 | i :: r, a, b => ∃ st', goF o l a i.toNat = some st' ∧ Xr o l r (BC a (CY l i.toNat) st') b
theorem NR {i : Int} {st' : List Int} : ∀ (r : List Int) (a b : Nat → List Int), Xr o l r a b → goF o l b i.toNat = some st' → Xr o l (r ++ [i]) a (BC b (CY l i.toNat) st')
 | [], a, b, h, hg => by
  have h : a = b := h
  subst h
  exact ⟨st', hg, rfl⟩
 | j :: r, a, b, h, hg => by
  obtain ⟨s1, h1, h2⟩ := h
  exact ⟨s1, h1, NR r _ b h2 hg⟩
structure Reach (o : Int) (l : List Op8) (ab : Op8 → Op8 → Bool) (dn : Nat → Bool) (sts : Nat → List Int) (ord : List Int) : Prop where
 dnE : ∀ i, dn i = ord.contains ((i : Nat) : Int)
 rng : ∀ i ∈ ord, 0 ≤ i ∧ i < l.length
 nodup : ord.Nodup
 run : Xr o l ord (Bn o).sts sts
 ahead : ord.Pairwise fun a b => ab (oAt l b.toNat) (oAt l a.toNat) = false
 left : ∀ a ∈ ord, ∀ k, k < l.length → dn k = false → ab (oAt l k) (oAt l a.toNat) = false
theorem Reach.start : Reach o l ab (fun _ => false) (Bn o).sts [] := ⟨fun i => by simp, by simp, by simp, rfl, .nil, by simp⟩
theorem Reach.step {dn : Nat → Bool} {sts : Nat → List Int} {ord : List Int} {i : Nat} {st' : List Int} (h : Reach o l ab dn sts ord) (hi : i < l.length) (hn : DC l ab dn i = true) (hg : goF o l sts i = some st') : Reach o l ab (BB dn i true) (BC sts (CY l i) st') (ord ++ [(i : Int)]) := by
 have hd := He hn
 have hnx : ∀ k, k < l.length → k ≠ i → dn k = false → ab (oAt l k) (oAt l i) = false := by
  intro k hk hki hdk
  unfold DC at hn
  simp only [Bool.and_eq_true, List.all_eq_true, List.mem_range] at hn
  have := hn.2 k hk
  simp [hki, hdk] at this
  exact this
 have hni : ((i : Nat) : Int) ∉ ord := fun hm => by
  have := h.dnE i
  rw [hd] at this
  simp [hm] at this
 refine ⟨fun j => ?_, fun j hj => ?_, ?_, ?_, ?_, fun a ha k hk hdk => ?_⟩
 ·unfold BB
  by_cases hj : j = i
  ·subst hj; simp
  ·rw [if_neg hj, h.dnE j]
   rw [Bool.eq_iff_iff]
   simp
   omega
 ·rcases List.mem_append.1 hj with hj | hj
  ·exact h.rng j hj
  ·rw [List.mem_singleton.1 hj]; omega
 ·rw [List.nodup_append]
  refine ⟨h.nodup, by simp, fun a ha b hb => ?_⟩
  rw [List.mem_singleton.1 hb]
  intro e
  exact hni (e ▸ ha)
 ·exact NR (i := (i : Int)) ord _ _ h.run (by simpa using hg)
 ·rw [List.pairwise_append]
  refine ⟨h.ahead, by simp, fun a ha b hb => ?_⟩
  rw [List.mem_singleton.1 hb, Int.toNat_natCast]
  exact h.left a ha i hi hd
 ·have hki : k ≠ i := fun e => by subst e; simp [BB] at hdk
  have hdk' : dn k = false := by unfold BB at hdk; rwa [if_neg hki] at hdk
  rcases List.mem_append.1 ha with ha | ha
  ·exact h.left a ha k hk hdk'
  ·rw [List.mem_singleton.1 ha, Int.toNat_natCast]
   exact hnx k hk hki hdk'
theorem F6 {rec : SSt → Int × SSt} (hrec : ∀ s, Reach o l ab s.dn s.sts s.ord → (rec s).1 = 1 → DI l (rec s).2.dn = true ∧ Reach o l ab (rec s).2.dn (rec s).2.sts (rec s).2.ord) :
  ∀ (r : List Nat) (s : SSt), (∀ i ∈ r, i < l.length) → Reach o l ab s.dn s.sts s.ord → (BA o l ab rec r s).1 = 1 → DI l (BA o l ab rec r s).2.dn = true ∧ Reach o l ab (BA o l ab rec r s).2.dn (BA o l ab rec r s).2.sts (BA o l ab rec r s).2.ord
 | [], s, _, _, h => absurd h (by simp [BA])
 | i :: r, s, hr, hR, h => by
  have hr' : ∀ j ∈ r, j < l.length := fun j hj => hr j (by simp [hj])
  cases hx : DC l ab s.dn i with
  | false =>
   rw [Ik hx] at h ⊢
   exact F6 hrec r s hr' hR h
  | true =>
   cases hg0 : goF o l s.sts i with
   | none =>
    rw [Jc hx hg0] at h ⊢
    exact F6 hrec r s hr' hR h
   | some st1 =>
    by_cases hc2 : (rec (Cv l s i st1)).1 = 2
    ·rw [LP hx hg0 hc2] at h ⊢
     exact F6 hrec r ⟨s.dn, s.sts, s.ord, (rec (Cv l s i st1)).2.ent⟩ hr' hR h
    ·rw [JS hx hg0 hc2] at h ⊢
     exact hrec (Cv l s i st1) (hR.step (hr i (by simp)) hx hg0) h
theorem Kr {bud : Nat} : ∀ (f : Nat) (s : SSt), Reach o l ab s.dn s.sts s.ord → (AP o l ab bud f s).1 = 1 → DI l (AP o l ab bud f s).2.dn = true ∧ Reach o l ab (AP o l ab bud f s).2.dn (AP o l ab bud f s).2.sts (AP o l ab bud f s).2.ord
 | 0, s, _, h => absurd h (by simp [AP])
 | f + 1, s, hR, h => by
  cases ha : DI l s.dn with
  | true => rw [Ga ha]; exact ⟨ha, hR⟩
  | false =>
   by_cases hk : Fe l.length s.dn s.sts ∈ s.ent
   ·rw [F9 ha hk] at h; exact absurd h (by simp)
   ·by_cases hb : s.ent.length = bud
    ·rw [Fw ha hk hb] at h; exact absurd h (by simp)
    ·rw [Hm ha hk hb] at h ⊢
     exact F6 (Kr f) _ (FE l s) (fun i hi => List.mem_range.1 hi) hR h
theorem KZ {bud : Nat} (h : (Be o l ab bud).1 = 1) : DI l (Be o l ab bud).2.dn = true ∧ Reach o l ab (Be o l ab bud).2.dn (Be o l ab bud).2.sts (Be o l ab bud).2.ord := Kr _ _ Reach.start h
theorem Kj (hA : Dw l) : ∀ (r : List Int) (p : Nat) (g : MM) (a b : Nat → List Int), (∀ i ∈ r, 0 ≤ i ∧ i < l.length) → (∀ k, k < 8 → (g k).getD (Bl o) = a k) → Xr o l r a b → Hz o l r p g = -1
 | [], p, g, a, b, _, _, _ => rfl
 | i :: r, p, g, a, b, hr, hg, h => by
  obtain ⟨st', h1, h2⟩ := h
  obtain ⟨hi0, hi1⟩ := hr i (by simp)
  have hil : i.toNat < l.length := by omega
  obtain ⟨res, h3, h4⟩ := PY h1
  have hk := hA.CY hil
  have hret := hA.ret i.toNat hil
  rw [Hz, if_neg (by omega)]
  have e : (g (oAt l i.toNat).key.toNat).getD (Bl o) = a (CY l i.toNat) := hg _ hk
  rw [e, h3]
  simp only
  rw [if_neg (fun hh => h4 ⟨by omega, hh.2⟩)]
  refine Kj hA r (p + 1) _ _ b (fun j hj => hr j (by simp [hj])) (fun k hk8 => ?_) h2
  unfold Jv BC CY
  split
  ·rfl
  ·exact hg k hk8
end
end Go.Proofs.YtkkmokodaejheaaDoor
