/- Texts of the proof, merged: Str2, BoolC, IsEr, RecLaw, Evt1, Evt2, Evt3, Evt4, Lin1, Lin2, Lin3, Lin4, Lin5, Lin6, Srch, Srch2, Srch3, Srch4, Lin7. -/
import Derived.Test.YtkkmokodaejheaaDoorPStr1
import Derived.Test.YtkkmokodaejheaaDoorPSxA
import Derived.Test.YtkkmokodaejheaaDoorPReg
import Derived.Test.YtkkmokodaejheaaDoorProg
set_option linter.unusedVariables false
set_option linter.unusedSimpArgs false
set_option linter.unusedSectionVars false
namespace Go.Proofs.YtkkmokodaejheaaDoor
open Go.RowKit
theorem Px (base : Nat) (A : Option Addr) (c : Nat) (l : List Nat) (u : Nat) (w0 : World) (hR : (Co base A c l).ok w0) (hu : u < 18446744073709551616) (hn : l.length ≤ 1000000) (hb : base ≤ w0.heap.size) :
  Calls Tryd.prog 69 #[.slice A l.length c, .int .u64 (u : Int), .int .i64 36] w0 fun en w' => ∃ A' c', en = .returned (.slice A' (l ++ dig u).length c') ∧ Inv (Co base A c l).D w0 w' [Co base A' c' (l ++ dig u)] := by
 have hI := Inv.ownE hR
 refine Vx Tryd.f69.ntmps Tryd.func69 rfl ?_
 refine Ac (Ab (Vf rfl (Aa (Ac (Ac (Ab (V0 rfl (Vj rfl (Aa (Ad false rfl (Ah (Ac (Ab ?_)))))))))))))
 refine V8 rfl (V0 rfl (V0 rfl (Va [.slice _ _ _, .int .u64 _, .int .i64 _, .bool _, .bool _] rfl Tryd.func75 rfl ?_)))
 refine (XH base A c l u _ (hI.ok _ (by simp)) hu hn hb).mono ?_
 rintro e w1 ⟨A', c', rfl, hT⟩
 refine ⟨_, rfl, ?_⟩
 replace hI := hI.turn1 hT
 refine Ta rfl (Vk rfl (Vk rfl (Vf rfl (Aa (Ac (Ab (V8 rfl (Vf rfl (Aa ?_)))))))))
 refine Aj ?_
 exact Bw 6 (.inr rfl) rfl ⟨A', c', rfl, hI⟩
section
variable {P : Program} {ρ : Env} {o : Oper} {w : World} {x y : Operand} {t t' : TypeId}
theorem Z8 {n : Int} (ho : o.op = .unOp .neg t x) (hx : ev ρ x = .int .u64 (IntKind.u64.wrap n)) (h0 : n < 0) (h1 : -9223372036854775808 ≤ n) : Ar P ρ o w (.int .u64 (n.natAbs : Int)) := by
 have h := Z7 (P := P) (w := w) ho hx
 have e : IntKind.u64.wrap (0 - IntKind.u64.wrap n) = (n.natAbs : Int) := by
  simp [IntKind.wrap, IntKind.signed, IntKind.bits]
  omega
 rwa [e] at h
end
theorem VX (base : Nat) (A : Option Addr) (c : Nat) (l : List Nat) (n : Int) (w0 : World) (hR : (Co base A c l).ok w0) (hn : Eg n) (hl : l.length ≤ 999999) (hb : base ≤ w0.heap.size) :
  Calls Tryd.prog 64 #[.slice A l.length c, .int .i64 n, .int .i64 36] w0 fun en w' => ∃ A' c', en = .returned (.slice A' (l ++ Cf n).length c') ∧ Inv (Co base A c l).D w0 w' [Co base A' c' (l ++ Cf n)] := by
 have hI := Inv.ownE hR
 unfold Eg at hn
 refine Vx Tryd.f64.ntmps Tryd.func64 rfl ?_
 refine Ac (Ab (Vf rfl (Aa ?_)))
 by_cases hneg : n < 0
 ·refine Ac (Ab (V0 rfl ?_))
  refine Af rfl rfl rfl (Qr rfl Tryd.underlying2 Tryd.underlying55 rfl) ?_
  refine V9 rfl (Aa (Ac (Ac (Ab (V0 rfl (Vt rfl (Aa (Ad true rfl (Ac (Ab (V8 rfl (Vm [(0, .int .u8 _)] [_] [.int .u8 0] [0] hI rfl Tryd.underlying113 (fun _ => by kernel_rfl) ?_))))))))))))
  clear hI; rintro b13 w - - hI
  refine Eb (z := .int .u8 0) (by_ := 1) hI rfl rfl rfl rfl rfl rfl Tryd.underlying113 (by kernel_rfl) rfl (by omega) (by rfl) hI.lit0 (by rfl) (by omega) (by omega) (by (have := hI.chg.size; omega)) ?_
  clear hI; rintro A14 c14 w hA14 hc14 hI
  replace hI := hI.d0
  refine Vf rfl (Aa ?_)
  replace hI : Inv (Co base A c l).D w0 w [Co base A14 c14 (l ++ [45])] := by
   have e : Co base A14 c14 (l ++ [45]) = Row base 5 1 A14 (l.length + 1) c14 (IR l ++ [.int .u8 45]) := by
    unfold Co
    rw [Ls, List.length_append]
    rfl
   rw [e]; exact hI
  refine Ab (V0 rfl ?_)
  refine Af rfl rfl rfl (Z8 (n := n) rfl rfl hneg (by omega)) ?_
  refine V9 rfl (Aa ?_)
  have e : l ++ Cf n = (l ++ [45]) ++ dig n.natAbs := by unfold Cf; rw [if_pos hneg]; simp
  rw [e]
  refine Ac (Ab (V8 rfl (V0 rfl (V0 rfl (Va [.slice _ _ _, .int .u64 _, .int .i64 _] rfl Tryd.func69 rfl ?_)))))
  refine Calls.mono (by have h := Px base A14 c14 (l ++ [45]) n.natAbs _ (hI.ok _ (by simp)) (by omega) (by simp; omega) (by have := hI.chg.size; omega); rw [List.length_append] at h; exact h) ?_
  rintro e w1 ⟨A', c', rfl, hT⟩
  refine ⟨_, rfl, ?_⟩
  replace hI := hI.turn1 hT
  refine Vf rfl (Aa ?_)
  refine Aj ?_
  exact Bw 6 (.inr rfl) rfl ⟨A', c', rfl, hI⟩
 ·obtain ⟨m, rfl⟩ : ∃ m : Nat, n = (m : Int) := ⟨n.toNat, by omega⟩
  refine Ac (Ab (V0 rfl ?_))
  refine Af rfl rfl rfl (by exact Qq rfl Tryd.underlying2 Tryd.underlying55 rfl (by omega)) ?_
  refine V9 rfl (Aa (Ac (Ac (Ab (V0 rfl (Vo rfl (Aa (Ad false rfl (Ah ?_)))))))))
  have e : l ++ Cf (m : Int) = l ++ dig m := by unfold Cf; rw [if_neg hneg]; simp
  rw [e]
  refine Ac (Ab (V8 rfl (V0 rfl (V0 rfl (Va [.slice _ _ _, .int .u64 _, .int .i64 _] rfl Tryd.func69 rfl ?_)))))
  refine (Px base A c l m _ (hI.ok _ (by simp)) (by omega) (by omega) (by have := hI.chg.size; omega)).mono ?_
  rintro e w1 ⟨A', c', rfl, hT⟩
  refine ⟨_, rfl, ?_⟩
  replace hI := hI.turn1 hT
  refine Vf rfl (Aa ?_)
  refine Aj ?_
  exact Bw 6 (.inr rfl) rfl ⟨A', c', rfl, hI⟩
theorem VW (base : Nat) (A : Option Addr) (c : Nat) (l : List Nat) (n : Int) (w0 : World) (hR : (Co base A c l).ok w0) (hn : Eg n) (hl : l.length ≤ 999999) (hb : base ≤ w0.heap.size) :
  Calls Tryd.prog 58 #[.slice A l.length c, .int .i64 n, .int .i64 36] w0 fun en w' => ∃ A' c', en = .returned (.slice A' (l ++ Cf n).length c') ∧ Inv (Co base A c l).D w0 w' [Co base A' c' (l ++ Cf n)] := by
 have hI := Inv.ownE hR
 refine Vx Tryd.f58.ntmps Tryd.func58 rfl ?_
 refine Ac (Ab (Vf rfl (Aa (Ac (Ab (V8 rfl (V0 rfl (V0 rfl (Va [.slice _ _ _, .int .i64 _, .int .i64 _] rfl Tryd.func64 rfl ?_)))))))))
 refine (VX base A c l n _ (hI.ok _ (by simp)) hn hl hb).mono ?_
 rintro e w1 ⟨A', c', rfl, hT⟩
 refine ⟨_, rfl, ?_⟩
 replace hI := hI.turn1 hT
 refine Vf rfl (Aa ?_)
 refine Aj ?_
 exact Bw 6 (.inr rfl) rfl ⟨A', c', rfl, hI⟩
theorem Pn : ∀ (f u : Nat) (acc : List Nat), (Db f u acc).length ≤ acc.length + f + 1
 | 0, u, acc => by simp [Db]
 | f + 1, u, acc => by
  rw [Db]
  split
  ·simp
  ·have := Pn f (u / 36) (DI (u % 36) :: acc)
   simp at this ⊢
   omega
theorem U6 (n : Int) : (Cf n).length ≤ 15 := by
 have h : ∀ u, (dig u).length ≤ 14 := fun u => Pn 13 u []
 have := h n.natAbs
 unfold Cf
 split
 ·simp; omega
 ·omega
def BD (n : Nat) (f : Nat → Bool) : Array Value := ((List.range n).map fun i => Value.bool (f i)).toArray
theorem ED {n : Nat} (f : Nat → Bool) {i : Nat} (hi : i < n) : (BD n f)[i]? = some (.bool (f i)) := by simp [BD, hi]
theorem Ng {n : Nat} (f : Nat → Bool) (u : Nat) (b : Bool) : (BD n f).setIfInBounds u (.bool b) = BD n (fun x => if x = u then b else f x) := by
 apply Array.ext'
 simp only [BD, Array.toList_setIfInBounds]
 refine List.ext_getElem (by simp) (fun i h1 h2 => ?_)
 simp only [List.getElem_set, List.getElem_map, List.getElem_range]
 by_cases h : u = i
 ·subst h; simp
 ·rw [if_neg h, if_neg (Ne.symm h)]
def FZ (v : Value) : Prop := ∃ u, v = .iface 48 (.int .i64 u)
end Go.Proofs.YtkkmokodaejheaaDoor
namespace Go.Proofs.YtkkmokodaejheaaDoor
open Go
structure Ev where
 proc : Int
 ty : Int
 key : Int
 kind : Int
 a : Int
 b : Int
 res : Int
 deriving DecidableEq
def inB (n lo hi : Int) : Bool := decide (lo ≤ n) && decide (n ≤ hi)
def GR (proc key : Int) (l : List Int) : Bool := (l.all fun n => inB n (-1000000) 1000000) && inB proc 0 7 && inB key 0 7
def zz (n : Int) : Nat := if 0 ≤ n then (2 * n).toNat else (-2 * n - 1).toNat
def ZQ : Nat → Nat → List Nat
 | 0, _ => []
 | f + 1, u => if u < 128 then [u] else (u % 128 + 128) :: ZQ f (u / 128)
def Zh (n : Int) : List Nat := ZQ 10 (zz n)
def enc (e : Ev) : List Nat := [e.proc.toNat, e.ty.toNat, e.key.toNat, e.kind.toNat] ++ Zh e.a ++ Zh e.b ++ Zh e.res
end Go.Proofs.YtkkmokodaejheaaDoor
namespace Go.Proofs.YtkkmokodaejheaaDoor
open Go.RowKit
theorem IP (n lo hi : Int) (w : World) : Calls Tryd.prog 60 #[.int .i64 n, .int .i64 lo, .int .i64 hi] w fun e w' => e = .returned (.bool (inB n lo hi)) ∧ w = w' := by
 have hI := Inv.start (fun _ => False) w
 refine Vx Tryd.f60.ntmps Tryd.func60 rfl ?_
 refine Ac (Ab (V6 rfl (Aa ?_)))
 by_cases h : lo ≤ n
 ·refine Ac (Ab (V0 rfl (V0 rfl (Tc rfl (V5 rfl (V0 rfl (V0 rfl ?_)))))))
  refine Af rfl rfl rfl (by exact YX rfl rfl rfl) ?_
  refine Vg rfl (V6 rfl (Aa ?_))
  refine Aj ?_
  refine Bw 6 (.inr rfl) rfl ⟨?_, rfl⟩
  show Ending.returned (.bool (decide (n ≤ hi))) = _
  simp [inB, h]
 ·refine Ac (Ab (V0 rfl (V0 rfl (Tg rfl (V5 rfl (V4 rfl (V4 rfl (V4 rfl (Vd rfl (V6 rfl (Aa ?_)))))))))))
  refine Aj ?_
  refine Bw 6 (.inr rfl) rfl ⟨?_, rfl⟩
  show Ending.returned (.bool false) = _
  simp [inB, h]
set_option maxHeartbeats 1000000 in
theorem Oq (proc key : Int) (A : Option Addr) (n c : Nat) (l : List Int) (D : Nat → Prop) (w0 : World) (h : Ints w0 D (.slice A n c) l) (hl : l.length = n) (hn : n ≤ 1000) :
  Calls Tryd.prog 59 #[.int .i64 proc, .int .i64 key, .slice A n c] w0 fun e w' => e = .returned (.bool (GR proc key l)) ∧ w0 = w' := by
 have hI := Inv.start (fun _ => False) w0
 refine Vx Tryd.f59.ntmps Tryd.func59 rfl ?_
 refine Ac (Ab (V6 rfl (Aa (Ac (Ac (Ab (V8 rfl (Vi rfl Tryd.underlying24 rfl (V0 rfl (Aa (Al ?_)))))))))))
 refine Ff (fun ρ w => ∃ k : Nat, k ≤ n ∧ Has ρ [(11, .int .i64 k), (10, .int .i64 n), (9, .slice A n c), (0, .int .i64 proc), (1, .int .i64 key)] ∧ (∀ y ∈ l.take k, inB y (-1000000) 1000000 = true) ∧ w = w0) (fun ρ _ => n - cnt (ρ 11))
  ⟨0, by omega, ⟨rfl, rfl, rfl, rfl, rfl, trivial⟩, by simp, rfl⟩ ?_
 rintro ρ w ⟨k, hk, hH, hno, rfl⟩
 obtain ⟨σ, rfl⟩ := hH.open
 by_cases hkn : k < n
 ·obtain ⟨b, o, rfl, _, _, hc⟩ := h.get (k := k) (by omega)
  have hx : l[k]? = some l[k] := List.getElem?_eq_getElem (by omega)
  refine Ac (Ab (Vt rfl (Aa (Ac (Ad true rfl (Ah (Ac (Al (Ac (Ab ?_))))))))))
  refine Af rfl rfl rfl (by exact Dz rfl Tryd.underlying24 (by kernel_rfl) rfl rfl (by omega)) ?_
  refine V3 (.int .i64 _) rfl (hI.oldp hc) (V9 rfl (Aa (Ac (Ab (V0 rfl (Va [.int .i64 _, .int .i64 _, .int .i64 _] rfl Tryd.func60 rfl ?_))))))
  refine (IP _ _ _ _).mono ?_
  rintro e w1 ⟨rfl, rfl⟩
  refine ⟨_, rfl, ?_⟩
  cases hb : inB l[k] (-1000000) 1000000 with
  | true =>
   refine T5 rfl (Aa (Ad false rfl (Ah (Ab (Vb rfl (V0 rfl (Aa ?_)))))))
   refine ⟨⟨k + 1, by omega, ⟨rfl, rfl, rfl, rfl, rfl, trivial⟩, fun y hy => ?_, rfl⟩, by show n - ((k + 1 : Nat) : Int).toNat < n - (k : Int).toNat; omega⟩
   rw [List.take_succ_eq_append_getElem (by omega)] at hy
   rcases List.mem_append.1 hy with hy | hy
   ·exact hno y hy
   ·rw [List.mem_singleton.1 hy]; exact hb
  | false =>
   refine Tf rfl (Aa (Ad true rfl (Ac (Ab (V6 rfl (Aa ?_))))))
   refine Aj ?_
   refine Bw 6 (.inr rfl) rfl ⟨?_, rfl⟩
   have hf : (l.all fun n => inB n (-1000000) 1000000) = false := by
    rw [List.all_eq_false]
    exact ⟨l[k], List.getElem_mem _, by simp [hb]⟩
   show Ending.returned (.bool false) = _
   simp [GR, hf]
 ·refine Ac (Ab (Vo rfl (Aa (Ac (Ad false rfl ?_)))))
  refine BG ?_
  have hall : (l.all fun n => inB n (-1000000) 1000000) = true := by
   rw [List.take_of_length_le (by omega)] at hno
   exact List.all_eq_true.2 hno
  have ht : GR proc key l = (inB proc 0 7 && inB key 0 7) := by simp [GR, hall]
  rw [ht]
  refine Ac (Ab (V0 rfl (Va [.int .i64 _, .int .i64 _, .int .i64 _] rfl Tryd.func60 rfl ?_)))
  refine (IP _ _ _ _).mono ?_
  rintro e w1 ⟨rfl, rfl⟩
  refine ⟨_, rfl, ?_⟩
  cases hb : inB proc 0 7 with
  | true =>
   refine V5 rfl (V0 rfl (Va [.int .i64 _, .int .i64 _, .int .i64 _] rfl Tryd.func60 rfl ?_))
   refine (IP _ _ _ _).mono ?_
   rintro e w1 ⟨rfl, rfl⟩
   refine ⟨_, rfl, ?_⟩
   refine Vg rfl (V6 rfl (Aa ?_))
   refine Aj ?_
   exact Bw 6 (.inr rfl) rfl ⟨rfl, rfl⟩
  | false =>
   refine V5 rfl (V4 rfl (V4 rfl (Vd rfl (V6 rfl (Aa ?_)))))
   refine Aj ?_
   exact Bw 6 (.inr rfl) rfl ⟨rfl, rfl⟩
theorem O7 {w : World} {g T n : Nat} {l : List Int} {cs : Array Value} (hb : Blk w g T cs) (h : cs.toList = l.map (Value.int .i64)) (hn : l.length = n) (hle : n ≤ 1000) : Ints w (fun k => k < w.heap.size) (.slice (some ⟨g, 0, none⟩) n n) l := by
 subst hn
 exact ⟨_, _, rfl, Nat.le_refl _, by omega, by simp, fun _ => ⟨g, 0, rfl, hb.lt, fun j u hj => by rw [Nat.zero_add, hb.cell]; rw [← h] at hj; simpa using hj⟩⟩
def BN (p q : Op8) : Bool := decide (0 ≤ p.ret) && decide (p.ret < q.call)
set_option maxHeartbeats 1000000 in
theorem Hy (p0 p1 p2 p3 p4 p5 p6 p7 q0 q1 q2 q3 q4 q5 q6 q7 : Int) (w0 : World) : Calls Tryd.prog 13 #[.agg #[.int .i64 p0, .int .i64 p1, .int .i64 p2, .int .i64 p3, .int .i64 p4, .int .i64 p5, .int .i64 p6, .int .i64 p7], .agg #[.int .i64 q0, .int .i64 q1, .int .i64 q2, .int .i64 q3, .int .i64 q4, .int .i64 q5, .int .i64 q6, .int .i64 q7]] w0 fun en w' => en = .returned (.bool (BN ⟨p0, p1, p2, p3, p4, p5, p6, p7⟩ ⟨q0, q1, q2, q3, q4, q5, q6, q7⟩)) ∧ Pure w0 w' := by
 have hI := Inv.start (fun _ => False) w0
 refine Vx Tryd.f13.ntmps Tryd.func13 rfl ?_
 refine Ac (Ab ?_)
 refine JD (u := .agg _) (vs := #[_, _, _, _, _, _, _, _]) hI rfl rfl rfl rfl rfl rfl ?_
 clear hI; rintro b2 w - - hI
 refine JD (u := .agg _) (vs := #[_, _, _, _, _, _, _, _]) hI rfl rfl rfl rfl rfl rfl ?_
 clear hI; rintro b3 w - - hI
 refine V6 rfl (Aa ?_)
 obtain ⟨r, hr⟩ : ∃ r, BN ⟨p0, p1, p2, p3, p4, p5, p6, p7⟩ ⟨q0, q1, q2, q3, q4, q5, q6, q7⟩ = r := ⟨_, rfl⟩
 rw [hr]
 have hr' : (decide (0 ≤ p7) && decide (p7 < q6)) = r := hr
 by_cases h : 0 ≤ p7
 ·rw [decide_eq_true h, Bool.true_and] at hr'
  by_cases h2 : p7 < q6
  ·rw [decide_eq_true h2] at hr'; subst hr'
   refine Ac (Ab (V7 7 rfl (V3 (.int .i64 _) rfl (hI.c1 rfl) (Tc rfl (V5 rfl (V7 7 rfl (V3 (.int .i64 _) rfl (hI.c1 rfl) (V7 6 rfl (V3 (.int .i64 _) rfl (hI.c0 rfl) (Vt rfl (Vg rfl (V6 rfl (Aa ?_)))))))))))))
   refine Aj ?_
   exact Bw 4 (.inr rfl) rfl ⟨rfl, hI.pu⟩
  ·rw [decide_eq_false h2] at hr'; subst hr'
   refine Ac (Ab (V7 7 rfl (V3 (.int .i64 _) rfl (hI.c1 rfl) (Tc rfl (V5 rfl (V7 7 rfl (V3 (.int .i64 _) rfl (hI.c1 rfl) (V7 6 rfl (V3 (.int .i64 _) rfl (hI.c0 rfl) (Vo rfl (Vg rfl (V6 rfl (Aa ?_)))))))))))))
   refine Aj ?_
   exact Bw 4 (.inr rfl) rfl ⟨rfl, hI.pu⟩
 ·rw [decide_eq_false h, Bool.false_and] at hr'; subst hr'
  refine Ac (Ab (V7 7 rfl (V3 (.int .i64 _) rfl (hI.c1 rfl) (Tg rfl (V5 rfl (V4 rfl (V4 rfl (V4 rfl (V4 rfl (V4 rfl (Vd rfl (V6 rfl (Aa ?_)))))))))))))
  refine Aj ?_
  exact Bw 4 (.inr rfl) rfl ⟨rfl, hI.pu⟩
theorem Hz (p q : Op8) (w0 : World) : Calls Tryd.prog 13 #[.agg (opV p).toArray, .agg (opV q).toArray] w0 fun en w' => en = .returned (.bool (BN p q)) ∧ Pure w0 w' := by
 obtain ⟨p0, p1, p2, p3, p4, p5, p6, p7⟩ := p
 obtain ⟨q0, q1, q2, q3, q4, q5, q6, q7⟩ := q
 exact Hy p0 p1 p2 p3 p4 p5 p6 p7 q0 q1 q2 q3 q4 q5 q6 q7 w0
def MH (o : Op8) (ah : List Op8) : Prop := ¬ (o.call < 0) ∧ ¬ (0 < ah.length ∧ o.call ≤ (oAt ah (ah.length - 1)).call) ∧ ¬ (o.ret ≠ -1 ∧ o.ret ≤ o.call) ∧ ¬ (o.ret = -1 ∧ o.res ≠ 0)
def Ca (o : Op8) (n : Int) : Prop := n ≠ -1 ∧ (n = o.call ∨ n = o.ret)
def OkOp (o : Op8) (ah : List Op8) : Prop :=
 GR o.proc o.key [o.a, o.b, o.res, o.call, o.ret] = true ∧ inB o.kind 1 12 = true ∧ MH o ah ∧
  (∀ k, k < ah.length → ¬ Ca o (oAt ah k).call ∧ ¬ Ca o (oAt ah k).ret) ∧ (∀ k, k < ah.length → (oAt ah k).proc = o.proc → BN (oAt ah k) o = true)
def Oe (v : Value) : Prop := ∃ u : Int, v = .iface 48 (.int .i64 u) ∧ u ≠ 8
theorem Oe.any {v : Value} (h : Oe v) : FZ v := by obtain ⟨u, h1, _⟩ := h; exact ⟨u, h1⟩
def FW (o : Op8) (ah : List Op8) (w0 : World) (en : Ending) (w' : World) : Prop := Pure w0 w' ∧ ((OkOp o ah ∧ en = .returned .nilIface) ∨ (¬ OkOp o ah ∧ ∃ x, Oe x ∧ en = .returned x))
theorem FW.bad {o : Op8} {ah : List Op8} {w0 w' : World} {z : Int} (h : ¬ OkOp o ah) (hp : Pure w0 w') (hz : z ≠ 8 := by decide) : FW o ah w0 (.returned (.iface 48 (.int .i64 z))) w' := ⟨hp, .inr ⟨h, _, ⟨z, rfl, hz⟩, rfl⟩⟩
set_option maxHeartbeats 4000000 in
theorem J2 (o0 o1 o2 o3 o4 o5 o6 o7 : Int) (A : Option Addr) (n c : Nat) (ah : List Op8) (D : Nat → Prop) (w0 : World) (h : BK w0 D (.slice A n c) ah) (hn40 : n ≤ 1000) :
  Calls Tryd.prog 52 #[.agg #[.int .i64 o0, .int .i64 o1, .int .i64 o2, .int .i64 o3, .int .i64 o4, .int .i64 o5, .int .i64 o6, .int .i64 o7], .slice A n c] w0 (FW ⟨o0, o1, o2, o3, o4, o5, o6, o7⟩ ah w0) := by
 obtain ⟨hn, hc1, hc2⟩ := h.len
 subst hn
 have hI := Inv.start (fun _ => False) w0
 refine Vx Tryd.f52.ntmps Tryd.func52 rfl ?_
 refine Ac (Ab ?_)
 refine JD (u := .agg _) (vs := #[_, _, _, _, _, _, _, _]) hI rfl rfl rfl rfl rfl rfl ?_
 clear hI; rintro b2 w - - hI
 refine Vy rfl (Aa (Ac (Ab (V7 7 rfl (V3 (.int .i64 _) rfl (hI.c0 rfl) ?_)))))
 refine Af rfl rfl rfl (NH rfl rfl rfl) ?_
 refine V6 rfl (Aa (Ac (Al ?_)))
 cases ht : GR o0 o1 [o3, o4, o5, o6, o7] with
 | false =>
  refine Ac (Ab (V7 0 rfl (V3 (.int .i64 _) rfl (hI.c0 rfl) (V7 1 rfl (V3 (.int .i64 _) rfl (hI.c0 rfl) (V7 3 rfl (V3 (.int .i64 _) rfl (hI.c0 rfl) (V7 4 rfl (V3 (.int .i64 _) rfl (hI.c0 rfl) (V7 5 rfl (V3 (.int .i64 _) rfl (hI.c0 rfl) (V7 6 rfl (V3 (.int .i64 _) rfl (hI.c0 rfl) ?_)))))))))))))
  refine V7 7 rfl (V3 (.int .i64 _) rfl (hI.c0 rfl) (Vm [(0, .int .i64 _), (1, .int .i64 _), (2, .int .i64 _), (3, .int .i64 _), (4, .int .i64 _)] [_, _, _, _, _] [.int .i64 0, .int .i64 0, .int .i64 0, .int .i64 0, .int .i64 0] [0, 1, 2, 3, 4] hI rfl Tryd.underlying24 (fun _ => by kernel_rfl) ?_))
  clear hI; rintro b30 w - - hI
  refine Va [.int .i64 _, .int .i64 _, .slice _ _ _] rfl Tryd.func59 rfl ?_
  refine (Oq o0 o1 _ 5 5 [o3, o4, o5, o6, o7] _ _ (O7 hI.g0 rfl rfl (by omega)) rfl (by omega)).mono ?_
  rw [ht]
  rintro e w1 ⟨rfl, rfl⟩
  refine ⟨_, rfl, ?_⟩
  refine Tf rfl (V6 rfl (Aa (Ad true rfl (Ac (Ab ?_)))))
  refine Af rfl rfl rfl (El rfl Tryd.underlying48 rfl rfl) ?_
  refine T6 rfl (Aa ?_)
  refine Aj ?_
  exact Bw 4 (.inr rfl) rfl (FW.bad (fun hh => by have := hh.1; rw [show GR _ _ _ = false from ht] at this; cases this) hI.pu)
 | true =>
 refine Ac (Ab (V7 0 rfl (V3 (.int .i64 _) rfl (hI.c0 rfl) (V7 1 rfl (V3 (.int .i64 _) rfl (hI.c0 rfl) (V7 3 rfl (V3 (.int .i64 _) rfl (hI.c0 rfl) (V7 4 rfl (V3 (.int .i64 _) rfl (hI.c0 rfl) (V7 5 rfl (V3 (.int .i64 _) rfl (hI.c0 rfl) (V7 6 rfl (V3 (.int .i64 _) rfl (hI.c0 rfl) ?_)))))))))))))
 refine V7 7 rfl (V3 (.int .i64 _) rfl (hI.c0 rfl) (Vm [(0, .int .i64 _), (1, .int .i64 _), (2, .int .i64 _), (3, .int .i64 _), (4, .int .i64 _)] [_, _, _, _, _] [.int .i64 0, .int .i64 0, .int .i64 0, .int .i64 0, .int .i64 0] [0, 1, 2, 3, 4] hI rfl Tryd.underlying24 (fun _ => by kernel_rfl) ?_))
 clear hI; rintro b30 w - - hI
 refine Va [.int .i64 _, .int .i64 _, .slice _ _ _] rfl Tryd.func59 rfl ?_
 refine (Oq o0 o1 _ 5 5 [o3, o4, o5, o6, o7] _ _ (O7 hI.g0 rfl rfl (by omega)) rfl (by omega)).mono ?_
 rw [ht]
 rintro e w1 ⟨rfl, rfl⟩
 refine ⟨_, rfl, ?_⟩
 refine T5 rfl (V6 rfl (Aa (Ad false rfl ?_)))
 replace hI := hI.d0
 cases hkd : inB o2 1 12 with
 | false =>
  refine Ac (Ab (V7 2 rfl (V3 (.int .i64 _) rfl (hI.c0 rfl) (Va [.int .i64 _, .int .i64 _, .int .i64 _] rfl Tryd.func60 rfl ?_))))
  refine (IP o2 1 12 _).mono ?_
  rw [hkd]
  rintro e w1 ⟨rfl, rfl⟩
  refine ⟨_, rfl, ?_⟩
  refine Tf rfl (V6 rfl (Aa (Ad true rfl (Ac (Ab ?_)))))
  refine Af rfl rfl rfl (El rfl Tryd.underlying48 rfl rfl) ?_
  refine T6 rfl (Aa ?_)
  refine Aj ?_
  exact Bw 4 (.inr rfl) rfl (FW.bad (fun hh => by have := hh.2.1; rw [show inB _ _ _ = false from hkd] at this; cases this) hI.pu)
 | true =>
 refine Ac (Ab (V7 2 rfl (V3 (.int .i64 _) rfl (hI.c0 rfl) (Va [.int .i64 _, .int .i64 _, .int .i64 _] rfl Tryd.func60 rfl ?_))))
 refine (IP o2 1 12 _).mono ?_
 rw [hkd]
 rintro e w1 ⟨rfl, rfl⟩
 refine ⟨_, rfl, ?_⟩
 refine T5 rfl (V6 rfl (Aa (Ad false rfl ?_)))
 refine Bt (fun ρ w => ∃ bb : Bool, (bb = true ↔ ¬ MH ⟨o0, o1, o2, o3, o4, o5, o6, o7⟩ ah) ∧ Has ρ [(40, .bool bb), (1, .slice A ah.length c), (2, .pointer (some ⟨b2, 0, none⟩))] ∧ Inv (fun _ => False) w0 w [B b2 63 #[.int .i64 o0, .int .i64 o1, .int .i64 o2, .int .i64 o3, .int .i64 o4, .int .i64 o5, .int .i64 o6, .int .i64 o7]]) ?_ ?_
 ·by_cases c1 : o6 < 0
  ·refine Ac (Ab (V7 6 rfl (V3 (.int .i64 _) rfl (hI.c0 rfl) (Vt rfl (V6 rfl (Aa (Ad true rfl (Ah ?_))))))))
   exact ⟨true, by simp; exact fun hh => hh.1 c1, ⟨rfl, rfl, rfl, trivial⟩, hI⟩
  refine Ac (Ab (V7 6 rfl (V3 (.int .i64 _) rfl (hI.c0 rfl) (Vo rfl (V6 rfl (Aa (Ad false rfl ?_)))))))
  obtain ⟨lb, hlb⟩ : ∃ lb : Bool, (lb = true ↔ (0 < ah.length ∧ o6 ≤ (oAt ah (ah.length - 1)).call)) := ⟨decide (0 < ah.length ∧ o6 ≤ (oAt ah (ah.length - 1)).call), by simp⟩
  refine Bt (fun ρ w => Has ρ [(40, .bool lb), (1, .slice A ah.length c), (2, .pointer (some ⟨b2, 0, none⟩)), (5, .bool (decide (o7 = -1)))] ∧ Inv (fun _ => False) w0 w [B b2 63 #[.int .i64 o0, .int .i64 o1, .int .i64 o2, .int .i64 o3, .int .i64 o4, .int .i64 o5, .int .i64 o6, .int .i64 o7]]) ?_ ?_
  ·rcases Nat.eq_zero_or_pos ah.length with h0 | h0
   ·have : lb = false := by
     cases lb
     ·rfl
     ·have := hlb.1 rfl; omega
    subst this
    refine BB (by kernel_rfl) ?_
    refine BC (T := []) hI.drew ?_
    intro Sx hSx hXS
    replace hI := hI.drew
    refine Vv 0 (hXS _ hI) rfl ?_
    refine Ae 1 rfl rfl (by kernel_rfl) (hXS _ hI) rfl (fun W hW => have hI := hSx W hW; (OJ rfl Tryd.underlying22 rfl)) ?_
    refine Ae 2 rfl rfl (by kernel_rfl) (hXS _ hI) rfl (fun W hW => have hI := hSx W hW; (by exact JR rfl rfl rfl (by omega))) ?_
    refine Ti 3 (hXS _ hI) rfl (Vn 4 rfl (hXS _ hI) rfl (Vn 5 rfl (hXS _ hI) rfl (Vn 6 rfl (hXS _ hI) rfl (Vn 7 rfl (hXS _ hI) rfl (Vn 8 rfl (hXS _ hI) rfl (Vn 9 rfl (hXS _ hI) rfl (Vn 10 rfl (hXS _ hI) rfl (Vn 11 rfl (hXS _ hI) rfl (Vn 12 rfl (hXS _ hI) rfl (Vn 13 rfl (hXS _ hI) rfl ?_))))))))))
    refine Ae 14 rfl rfl (by kernel_rfl) (hXS _ hI) rfl (fun W hW => have hI := hSx W hW; (by exact Iq rfl rfl rfl)) ?_
    refine Ae 15 rfl rfl (by kernel_rfl) (hXS _ hI) rfl (fun W hW => have hI := hSx W hW; (by exact Jj rfl rfl)) ?_
    refine Av (by kernel_rfl) ?_
    exact ⟨⟨rfl, rfl, rfl, rfl, trivial⟩, hI⟩
   ·obtain ⟨ab, ao, rfl, hoc⟩ := h.at (show ah.length - 1 < ah.length by omega)
    have hcl := hoc 6 _ rfl
    by_cases hle : o6 ≤ (oAt ah (ah.length - 1)).call
    ·have : lb = true := hlb.2 ⟨h0, hle⟩
     subst this
     refine BB (by kernel_rfl) ?_
     refine BC (T := []) hI.drew ?_
     intro Sx hSx hXS
     replace hI := hI.drew
     refine Vv 0 (hXS _ hI) rfl ?_
     refine Ae 1 rfl rfl (by kernel_rfl) (hXS _ hI) rfl (fun W hW => have hI := hSx W hW; (OJ rfl Tryd.underlying22 rfl)) ?_
     refine Ae 2 rfl rfl (by kernel_rfl) (hXS _ hI) rfl (fun W hW => have hI := hSx W hW; (by exact Mx rfl rfl rfl (by omega))) ?_
     refine Ti 3 (hXS _ hI) rfl (Vq 4 6 (hXS _ hI) rfl (Vh 5 (.int .i64 _) (hXS _ hI) rfl (fun W hW => (hSx W hW).c0 rfl) (Vv 6 (hXS _ hI) rfl (Vv 7 (hXS _ hI) rfl ?_))))
     refine Ae 8 rfl rfl (by kernel_rfl) (hXS _ hI) rfl (fun W hW => have hI := hSx W hW; (OJ rfl Tryd.underlying22 rfl)) ?_
     refine Ae 9 rfl rfl (by kernel_rfl) (hXS _ hI) rfl (fun W hW => have hI := hSx W hW; (MC (a := ah.length) (b := 1) rfl rfl rfl (by omega) (by omega))) ?_
     refine Ae 10 rfl rfl (by kernel_rfl) (hXS _ hI) rfl (fun W hW => have hI := hSx W hW; (LV (sz := 8) (i := ah.length - 1) rfl Tryd.underlying22 (by kernel_rfl) rfl rfl (by omega))) ?_
     refine Ae 11 rfl rfl (by kernel_rfl) (hXS _ hI) rfl (fun W hW => have hI := hSx W hW; (by exact YZ (off := 6) rfl (by kernel_rfl) rfl)) ?_
     refine Vh 12 (.int .i64 _) (hXS _ hI) rfl (fun W hW => (hSx W hW).oldp hcl) ?_
     refine Ae 13 rfl rfl (by kernel_rfl) (hXS _ hI) rfl (fun W hW => have hI := hSx W hW; (by exact Mw rfl rfl rfl (by omega))) ?_
     refine Ae 14 rfl rfl (by kernel_rfl) (hXS _ hI) rfl (fun W hW => have hI := hSx W hW; (by exact ER rfl rfl rfl)) ?_
     refine Ae 15 rfl rfl (by kernel_rfl) (hXS _ hI) rfl (fun W hW => have hI := hSx W hW; (by exact Jj rfl rfl)) ?_
     refine Av (by kernel_rfl) ?_
     exact ⟨⟨rfl, rfl, rfl, rfl, trivial⟩, hI⟩
    ·have : lb = false := by
      cases lb
      ·rfl
      ·exact absurd (hlb.1 rfl).2 hle
     subst this
     refine BB (by kernel_rfl) ?_
     refine BC (T := []) hI.drew ?_
     intro Sx hSx hXS
     replace hI := hI.drew
     refine Vv 0 (hXS _ hI) rfl ?_
     refine Ae 1 rfl rfl (by kernel_rfl) (hXS _ hI) rfl (fun W hW => have hI := hSx W hW; (OJ rfl Tryd.underlying22 rfl)) ?_
     refine Ae 2 rfl rfl (by kernel_rfl) (hXS _ hI) rfl (fun W hW => have hI := hSx W hW; (by exact Mx rfl rfl rfl (by omega))) ?_
     refine Ti 3 (hXS _ hI) rfl (Vq 4 6 (hXS _ hI) rfl (Vh 5 (.int .i64 _) (hXS _ hI) rfl (fun W hW => (hSx W hW).c0 rfl) (Vv 6 (hXS _ hI) rfl (Vv 7 (hXS _ hI) rfl ?_))))
     refine Ae 8 rfl rfl (by kernel_rfl) (hXS _ hI) rfl (fun W hW => have hI := hSx W hW; (OJ rfl Tryd.underlying22 rfl)) ?_
     refine Ae 9 rfl rfl (by kernel_rfl) (hXS _ hI) rfl (fun W hW => have hI := hSx W hW; (MC (a := ah.length) (b := 1) rfl rfl rfl (by omega) (by omega))) ?_
     refine Ae 10 rfl rfl (by kernel_rfl) (hXS _ hI) rfl (fun W hW => have hI := hSx W hW; (LV (sz := 8) (i := ah.length - 1) rfl Tryd.underlying22 (by kernel_rfl) rfl rfl (by omega))) ?_
     refine Ae 11 rfl rfl (by kernel_rfl) (hXS _ hI) rfl (fun W hW => have hI := hSx W hW; (by exact YZ (off := 6) rfl (by kernel_rfl) rfl)) ?_
     refine Vh 12 (.int .i64 _) (hXS _ hI) rfl (fun W hW => (hSx W hW).oldp hcl) ?_
     refine Ae 13 rfl rfl (by kernel_rfl) (hXS _ hI) rfl (fun W hW => have hI := hSx W hW; (by exact Ra rfl rfl rfl (by omega))) ?_
     refine Ae 14 rfl rfl (by kernel_rfl) (hXS _ hI) rfl (fun W hW => have hI := hSx W hW; (by exact ER rfl rfl rfl)) ?_
     refine Ae 15 rfl rfl (by kernel_rfl) (hXS _ hI) rfl (fun W hW => have hI := hSx W hW; (by exact Jj rfl rfl)) ?_
     refine Av (by kernel_rfl) ?_
     exact ⟨⟨rfl, rfl, rfl, rfl, trivial⟩, hI⟩
  clear hI
  rintro ρ w ⟨hH, hI⟩
  obtain ⟨σ, rfl⟩ := hH.open
  cases lb with
  | true =>
   refine Ad true rfl (Ah ?_)
   exact ⟨true, by simp; exact fun hh => hh.2.1 (hlb.1 rfl), ⟨rfl, rfl, rfl, trivial⟩, hI⟩
  | false =>
  have hnl : ¬ (0 < ah.length ∧ o6 ≤ (oAt ah (ah.length - 1)).call) := fun hh => by have := hlb.2 hh; cases this
  refine Ad false rfl ?_
  by_cases hu : o7 = -1
  ·rw [decide_eq_true hu]
   refine Ac (Ab (V5 rfl (T5 rfl (V5 rfl (V4 rfl (V4 rfl (V4 rfl (V4 rfl (V4 rfl (Vd rfl (V6 rfl (Aa (Ad false rfl ?_)))))))))))))
   by_cases hres : o5 = 0
   ·refine Ab (V5 rfl (V5 rfl (V7 5 rfl (V3 (.int .i64 _) rfl (hI.c0 rfl) (Tl rfl (Vg rfl (V6 rfl (Aa ?_))))))))
    exact ⟨false, by simp; exact ⟨by exact c1, hnl, fun hh => hh.1 hu, fun hh => hh.2 hres⟩, ⟨rfl, rfl, rfl, trivial⟩, hI⟩
   ·refine Ab (V5 rfl (V5 rfl (V7 5 rfl (V3 (.int .i64 _) rfl (hI.c0 rfl) (Tm rfl (Vg rfl (V6 rfl (Aa ?_))))))))
    exact ⟨true, by simp; exact fun hh => hh.2.2.2 ⟨hu, hres⟩, ⟨rfl, rfl, rfl, trivial⟩, hI⟩
  ·rw [decide_eq_false hu]
   by_cases hrc : o7 ≤ o6
   ·refine Ac (Ab (V5 rfl (Tf rfl (V5 rfl (V7 7 rfl (V3 (.int .i64 _) rfl (hI.c0 rfl) (V7 6 rfl (V3 (.int .i64 _) rfl (hI.c0 rfl) ?_))))))))
    refine Af rfl rfl rfl (by exact Mw rfl rfl rfl (by omega)) ?_
    refine Vg rfl (V6 rfl (Aa (Ad true rfl (Ah ?_))))
    exact ⟨true, by simp; exact fun hh => hh.2.2.1 ⟨hu, hrc⟩, ⟨rfl, rfl, rfl, trivial⟩, hI⟩
   ·refine Ac (Ab (V5 rfl (Tf rfl (V5 rfl (V7 7 rfl (V3 (.int .i64 _) rfl (hI.c0 rfl) (V7 6 rfl (V3 (.int .i64 _) rfl (hI.c0 rfl) ?_))))))))
    refine Af rfl rfl rfl (by exact Ra rfl rfl rfl (by omega)) ?_
    refine Vg rfl (V6 rfl (Aa (Ad false rfl (Ab (V5 rfl (V5 rfl (V4 rfl (V4 rfl (V4 rfl (Vd rfl (V6 rfl (Aa ?_))))))))))))
    exact ⟨false, by simp; exact ⟨by exact c1, hnl, fun hh => hrc hh.2, fun hh => hu hh.1⟩, ⟨rfl, rfl, rfl, trivial⟩, hI⟩
 clear hI
 rintro ρ w ⟨bb, hbb, hH, hI⟩
 obtain ⟨σ, rfl⟩ := hH.open
 cases bb with
 | true =>
  refine Ad true rfl (Ac (Ab ?_))
  refine Af rfl rfl rfl (El rfl Tryd.underlying48 rfl rfl) ?_
  refine T6 rfl (Aa ?_)
  refine Aj ?_
  exact Bw 4 (.inr rfl) rfl (FW.bad (fun hh => hbb.1 rfl hh.2.2.1) hI.pu)
 | false =>
 have hord : MH ⟨o0, o1, o2, o3, o4, o5, o6, o7⟩ ah := by
  rcases Classical.em (MH ⟨o0, o1, o2, o3, o4, o5, o6, o7⟩ ah) with h1 | h1
  ·exact h1
  ·have := hbb.2 h1; cases this
 refine Ad false rfl (Ah ?_)
 refine Bt (fun ρ w => (∀ k, k < ah.length → ¬ Ca ⟨o0, o1, o2, o3, o4, o5, o6, o7⟩ (oAt ah k).call ∧ ¬ Ca ⟨o0, o1, o2, o3, o4, o5, o6, o7⟩ (oAt ah k).ret) ∧ Has ρ [(1, .slice A ah.length c), (2, .pointer (some ⟨b2, 0, none⟩))] ∧ Inv (fun _ => False) w0 w [B b2 63 #[.int .i64 o0, .int .i64 o1, .int .i64 o2, .int .i64 o3, .int .i64 o4, .int .i64 o5, .int .i64 o6, .int .i64 o7]]) ?_ ?_
 ·refine Ac (Ab (V8 rfl (Vi rfl Tryd.underlying22 rfl (V0 rfl (Aa (Al ?_))))))
  refine Ce (fun mu ρ w => ∃ k : Nat, mu = ah.length - k ∧ k ≤ ah.length ∧ (∀ j, j < k → ¬ Ca ⟨o0, o1, o2, o3, o4, o5, o6, o7⟩ (oAt ah j).call ∧ ¬ Ca ⟨o0, o1, o2, o3, o4, o5, o6, o7⟩ (oAt ah j).ret) ∧ Has ρ [(77, .int .i64 (k : Int)), (76, .int .i64 (ah.length : Int)), (75, .slice A ah.length c), (1, .slice A ah.length c), (2, .pointer (some ⟨b2, 0, none⟩))] ∧ Inv (fun _ => False) w0 w [B b2 63 #[.int .i64 o0, .int .i64 o1, .int .i64 o2, .int .i64 o3, .int .i64 o4, .int .i64 o5, .int .i64 o6, .int .i64 o7]]) ah.length
   ⟨0, rfl, by omega, fun j hj => by omega, ⟨rfl, rfl, rfl, rfl, rfl, trivial⟩, hI⟩ ?_
  clear hI
  rintro mu ρ w ⟨k, rfl, hk, hall, hH, hI⟩
  obtain ⟨σ, rfl⟩ := hH.open
  by_cases hkl : k < ah.length
  rotate_left
  ·obtain rfl : k = ah.length := by omega
   refine Ac (Ab (Vo rfl (Aa (Ac (Ad false rfl ?_)))))
   refine BG ?_
   exact ⟨hall, ⟨rfl, rfl, trivial⟩, hI⟩
  obtain ⟨ab, ao, rfl, hoc⟩ := h.at hkl
  generalize hpk : oAt ah k = pk at hoc
  obtain ⟨p0, p1, p2, p3, p4, p5, p6, p7⟩ := pk
  refine Ac (Ab (Vt rfl (Aa (Ac (Ad true rfl (Ah ?_))))))
  refine Bt (fun ρ w => (¬ Ca ⟨o0, o1, o2, o3, o4, o5, o6, o7⟩ p6 ∧ ¬ Ca ⟨o0, o1, o2, o3, o4, o5, o6, o7⟩ p7) ∧ Has ρ [(77, .int .i64 (k : Int)), (76, .int .i64 (ah.length : Int)), (75, .slice (some ⟨ab, ao, none⟩) ah.length c), (1, .slice (some ⟨ab, ao, none⟩) ah.length c), (2, .pointer (some ⟨b2, 0, none⟩))] ∧ Inv (fun _ => False) w0 w [B b2 63 #[.int .i64 o0, .int .i64 o1, .int .i64 o2, .int .i64 o3, .int .i64 o4, .int .i64 o5, .int .i64 o6, .int .i64 o7]]) ?_ ?_
  rotate_left
  ·clear hI
   rintro ρ w ⟨hno, hH, hI⟩
   obtain ⟨σ, rfl⟩ := hH.open
   refine Ab (Vb rfl (V0 rfl (Aa ?_)))
   refine ⟨ah.length - (k + 1), by omega, k + 1, rfl, by omega, fun j hj => ?_, ⟨rfl, rfl, rfl, rfl, rfl, trivial⟩, hI⟩
   rcases Nat.lt_or_ge j k with h1 | h1
   ·exact hall j h1
   ·obtain rfl : j = k := by omega
    rw [hpk]; exact hno
  refine Al (Ac (Ab (Th 8 rfl Tryd.underlying22 rfl (Tj 8 rfl (by rfl) (fun k u hk => hI.oldp (hoc k u hk)) (Vw (.agg #[.int .i64 0, .int .i64 0, .int .i64 0, .int .i64 0, .int .i64 0, .int .i64 0, .int .i64 0, .int .i64 0]) (#[.int .i64 0, .int .i64 0, .int .i64 0, .int .i64 0, .int .i64 0, .int .i64 0, .int .i64 0, .int .i64 0]) hI rfl ?_)))))
  clear hI; rintro b7 w - - hI
  refine Vz 8 (#[_, _, _, _, _, _, _, _]) (.agg _) hI rfl ?_
  clear hI; intro w hI
  refine Aa ?_
  simp only [opV] at hI
  refine Ac (Ab (V7 6 rfl (V3 (.int .i64 _) rfl (hI.c0 rfl) (V7 7 rfl (V3 (.int .i64 _) rfl (hI.c0 rfl) (Vm [(0, .int .i64 _), (1, .int .i64 _)] [_, _] [.int .i64 0, .int .i64 0] [0, 1] hI rfl Tryd.underlying24 (fun _ => by kernel_rfl) ?_))))))
  clear hI; rintro b85 w - - hI
  refine Vi rfl Tryd.underlying24 rfl (V0 rfl (Aa (Al ?_)))
  refine Ce (fun mu ρ w => ∃ m : Nat, mu = 2 - m ∧ m ≤ 2 ∧ (0 < m → ¬ Ca ⟨o0, o1, o2, o3, o4, o5, o6, o7⟩ p6) ∧ (1 < m → ¬ Ca ⟨o0, o1, o2, o3, o4, o5, o6, o7⟩ p7) ∧ Has ρ [(87, .int .i64 (m : Int)), (86, .int .i64 2), (85, .slice (some ⟨b85, 0, none⟩) 2 2), (77, .int .i64 (k : Int)), (76, .int .i64 (ah.length : Int)), (75, .slice (some ⟨ab, ao, none⟩) ah.length c), (1, .slice (some ⟨ab, ao, none⟩) ah.length c), (2, .pointer (some ⟨b2, 0, none⟩))] ∧ Inv (fun _ => False) w0 w [B b85 3 #[.int .i64 p6, .int .i64 p7], B b2 63 #[.int .i64 o0, .int .i64 o1, .int .i64 o2, .int .i64 o3, .int .i64 o4, .int .i64 o5, .int .i64 o6, .int .i64 o7]]) 2
   ⟨0, rfl, by omega, fun h => by omega, fun h => by omega, ⟨rfl, rfl, rfl, rfl, rfl, rfl, rfl, rfl, trivial⟩, hI.d1⟩ ?_
  clear hI
  rintro mu ρ w ⟨m, rfl, hm, hm0, hm1, hH, hI⟩
  obtain ⟨σ, rfl⟩ := hH.open
  by_cases hm2 : m < 2
  rotate_left
  ·obtain rfl : m = 2 := by omega
   refine Ac (Ab (Vo rfl (Aa (Ac (Ad false rfl ?_)))))
   refine BG ?_
   exact ⟨⟨hm0 (by omega), hm1 (by omega)⟩, ⟨rfl, rfl, rfl, rfl, rfl, trivial⟩, hI.d0⟩
  obtain ⟨z, hz, hzt⟩ : ∃ z : Int, (#[.int .i64 p6, .int .i64 p7] : Array Value)[m]? = some (.int .i64 z) ∧ (z = p6 ∧ m = 0 ∨ z = p7 ∧ m = 1) := by
   match m, hm2 with
   | 0, _ => exact ⟨p6, rfl, .inl ⟨rfl, rfl⟩⟩
   | 1, _ => exact ⟨p7, rfl, .inr ⟨rfl, rfl⟩⟩
  refine Ac (Ab (Vt rfl (Aa (Ac (Ad true rfl (Ah (Ac (Al (Ac (Ab (Tb rfl Tryd.underlying24 rfl (V3 (.int .i64 _) rfl (hI.c0 hz) (V9 rfl ?_)))))))))))))
  refine Aa ?_
  have hbadz : Ca ⟨o0, o1, o2, o3, o4, o5, o6, o7⟩ z → ¬ OkOp ⟨o0, o1, o2, o3, o4, o5, o6, o7⟩ ah := fun ht hh => by
   have := hh.2.2.2.1 k hkl
   rw [hpk] at this
   rcases hzt with ⟨rfl, _⟩ | ⟨rfl, _⟩
   ·exact this.1 ht
   ·exact this.2 ht
  have hgo : ¬ Ca ⟨o0, o1, o2, o3, o4, o5, o6, o7⟩ z → (0 < m + 1 → ¬ Ca ⟨o0, o1, o2, o3, o4, o5, o6, o7⟩ p6) ∧ (1 < m + 1 → ¬ Ca ⟨o0, o1, o2, o3, o4, o5, o6, o7⟩ p7) := fun hnt => by
   rcases hzt with ⟨rfl, rfl⟩ | ⟨rfl, rfl⟩
   ·exact ⟨fun _ => hnt, fun h => by omega⟩
   ·exact ⟨fun _ => hm0 (by omega), fun _ => hnt⟩
  by_cases z1 : z = -1
  ·have hnt : ¬ Ca ⟨o0, o1, o2, o3, o4, o5, o6, o7⟩ z := fun ht => ht.1 z1
   refine Ac (Ab (V0 rfl (Tl rfl (V5 rfl (V4 rfl (V4 rfl (V4 rfl (V4 rfl (V4 rfl (V4 rfl (V4 rfl (V4 rfl (V4 rfl ?_)))))))))))))
   refine V4 rfl (Vd rfl (Aa (Ad false rfl (Ah (Ab (Vb rfl (V0 rfl (Aa ?_))))))))
   exact ⟨2 - (m + 1), by omega, m + 1, rfl, by omega, (hgo hnt).1, (hgo hnt).2, ⟨rfl, rfl, rfl, rfl, rfl, rfl, rfl, rfl, trivial⟩, hI⟩
  by_cases z2 : z = o6
  ·refine Ac (Ab (V0 rfl (Tm rfl (V5 rfl (V0 rfl (V7 6 rfl (V3 (.int .i64 _) rfl (hI.c1 rfl) (Vu rfl (V5 rfl (V4 rfl (V4 rfl (V4 rfl (V4 rfl ?_)))))))))))))
   refine Vg rfl (Vg rfl (Aa (Ad true rfl (Ac (Ab ?_)))))
   refine Af rfl rfl rfl (El rfl Tryd.underlying48 rfl rfl) ?_
   refine T6 rfl (Aa ?_)
   refine Aj ?_
   exact Bw 4 (.inr rfl) rfl (FW.bad (hbadz ⟨z1, .inl z2⟩) hI.pu)
  by_cases z3 : z = o7
  ·refine Ac (Ab (V0 rfl (Tm rfl (V5 rfl (V0 rfl (V7 6 rfl (V3 (.int .i64 _) rfl (hI.c1 rfl) (Vj rfl (V5 rfl (V0 rfl (V7 7 rfl (V3 (.int .i64 _) rfl (hI.c1 rfl) (Vu rfl ?_)))))))))))))
   refine Vd rfl (Vg rfl (Aa (Ad true rfl (Ac (Ab ?_)))))
   refine Af rfl rfl rfl (El rfl Tryd.underlying48 rfl rfl) ?_
   refine T6 rfl (Aa ?_)
   refine Aj ?_
   exact Bw 4 (.inr rfl) rfl (FW.bad (hbadz ⟨z1, .inr z3⟩) hI.pu)
  have hnt : ¬ Ca ⟨o0, o1, o2, o3, o4, o5, o6, o7⟩ z := fun ht => by rcases ht.2 with h1 | h1; exact z2 h1; exact z3 h1
  refine Ac (Ab (V0 rfl (Tm rfl (V5 rfl (V0 rfl (V7 6 rfl (V3 (.int .i64 _) rfl (hI.c1 rfl) (Vj rfl (V5 rfl (V0 rfl (V7 7 rfl (V3 (.int .i64 _) rfl (hI.c1 rfl) (Vj rfl ?_)))))))))))))
  refine Vd rfl (Vg rfl (Aa (Ad false rfl (Ah (Ab (Vb rfl (V0 rfl (Aa ?_))))))))
  exact ⟨2 - (m + 1), by omega, m + 1, rfl, by omega, (hgo hnt).1, (hgo hnt).2, ⟨rfl, rfl, rfl, rfl, rfl, rfl, rfl, rfl, trivial⟩, hI⟩
 clear hI
 rintro ρ w ⟨hall1, hH, hI⟩
 obtain ⟨σ, rfl⟩ := hH.open
 refine Ac (Ac (Ab (V8 rfl (Vi rfl Tryd.underlying22 rfl (V0 rfl (Aa (Al ?_)))))))
 refine Ce (fun mu ρ w => ∃ k : Nat, mu = ah.length - k ∧ k ≤ ah.length ∧ (∀ j, j < k → (oAt ah j).proc = o0 → BN (oAt ah j) ⟨o0, o1, o2, o3, o4, o5, o6, o7⟩ = true) ∧ Has ρ [(110, .int .i64 (k : Int)), (109, .int .i64 (ah.length : Int)), (108, .slice A ah.length c), (2, .pointer (some ⟨b2, 0, none⟩))] ∧ Inv (fun _ => False) w0 w [B b2 63 #[.int .i64 o0, .int .i64 o1, .int .i64 o2, .int .i64 o3, .int .i64 o4, .int .i64 o5, .int .i64 o6, .int .i64 o7]]) ah.length
  ⟨0, rfl, by omega, fun j hj => by omega, ⟨rfl, rfl, rfl, rfl, trivial⟩, hI⟩ ?_
 clear hI
 rintro mu ρ w ⟨k, rfl, hk, hall, hH, hI⟩
 obtain ⟨σ, rfl⟩ := hH.open
 by_cases hkl : k < ah.length
 rotate_left
 ·obtain rfl : k = ah.length := by omega
  refine Ac (Ab (Vo rfl (Aa (Ac (Ad false rfl ?_)))))
  refine BG ?_
  refine Ac (Ab (Vy rfl (Aa ?_)))
  refine Aj ?_
  exact Bw 4 (.inr rfl) rfl ⟨hI.pu, .inl ⟨⟨ht, hkd, hord, hall1, hall⟩, rfl⟩⟩
 obtain ⟨ab, ao, rfl, hoc⟩ := h.at hkl
 generalize hpk : oAt ah k = pk at hoc
 obtain ⟨p0, p1, p2, p3, p4, p5, p6, p7⟩ := pk
 refine Ac (Ab (Vt rfl (Aa (Ac (Ad true rfl (Ah (Ac (Al (Ac (Ab (Th 8 rfl Tryd.underlying22 rfl (Tj 8 rfl (by rfl) (fun k u hk => hI.oldp (hoc k u hk)) (Vw (.agg #[.int .i64 0, .int .i64 0, .int .i64 0, .int .i64 0, .int .i64 0, .int .i64 0, .int .i64 0, .int .i64 0]) (#[.int .i64 0, .int .i64 0, .int .i64 0, .int .i64 0, .int .i64 0, .int .i64 0, .int .i64 0, .int .i64 0]) hI rfl ?_)))))))))))))
 clear hI; rintro b11 w - - hI
 refine Vz 8 (#[_, _, _, _, _, _, _, _]) (.agg _) hI rfl ?_
 clear hI; intro w hI
 refine Aa ?_
 simp only [opV] at hI
 have hnext : (p0 = o0 → BN ⟨p0, p1, p2, p3, p4, p5, p6, p7⟩ ⟨o0, o1, o2, o3, o4, o5, o6, o7⟩ = true) → ∀ j, j < k + 1 → (oAt ah j).proc = o0 → BN (oAt ah j) ⟨o0, o1, o2, o3, o4, o5, o6, o7⟩ = true := fun hb j hj => by
  rcases Nat.lt_or_ge j k with h1 | h1
  ·exact hall j h1
  ·obtain rfl : j = k := by omega
   rw [hpk]; exact hb
 by_cases hpp : p0 = o0
 ·cases hbf : BN ⟨p0, p1, p2, p3, p4, p5, p6, p7⟩ ⟨o0, o1, o2, o3, o4, o5, o6, o7⟩ with
  | true =>
   refine Ac (Ab (V7 0 rfl (V3 (.int .i64 _) rfl (hI.c0 rfl) (V7 0 rfl (V3 (.int .i64 _) rfl (hI.c1 rfl) (Vu rfl (V5 rfl (Tk 8 rfl hI.g0 (Tk 8 rfl hI.g1 (Va [.agg _, .agg _] rfl Tryd.func13 rfl ?_))))))))))
   refine (Hy p0 p1 p2 p3 p4 p5 p6 p7 o0 o1 o2 o3 o4 o5 o6 o7 _).mono ?_
   rw [hbf]
   rintro e w1 ⟨rfl, hp⟩
   refine ⟨_, rfl, ?_⟩
   replace hI := hI.pure hp
   refine T5 rfl (Vg rfl (Aa (Ad false rfl (Ah ?_))))
   replace hI := hI.d0
   refine Ab (Vb rfl (V0 rfl (Aa ?_)))
   exact ⟨ah.length - (k + 1), by omega, k + 1, rfl, by omega, hnext (fun _ => hbf), ⟨rfl, rfl, rfl, rfl, trivial⟩, hI⟩
  | false =>
   refine Ac (Ab (V7 0 rfl (V3 (.int .i64 _) rfl (hI.c0 rfl) (V7 0 rfl (V3 (.int .i64 _) rfl (hI.c1 rfl) (Vu rfl (V5 rfl (Tk 8 rfl hI.g0 (Tk 8 rfl hI.g1 (Va [.agg _, .agg _] rfl Tryd.func13 rfl ?_))))))))))
   refine (Hy p0 p1 p2 p3 p4 p5 p6 p7 o0 o1 o2 o3 o4 o5 o6 o7 _).mono ?_
   rw [hbf]
   rintro e w1 ⟨rfl, hp⟩
   refine ⟨_, rfl, ?_⟩
   replace hI := hI.pure hp
   refine Tf rfl (Vg rfl (Aa (Ad true rfl (Ac (Ab ?_)))))
   refine Af rfl rfl rfl (El rfl Tryd.underlying48 rfl rfl) ?_
   refine T6 rfl (Aa ?_)
   refine Aj ?_
   exact Bw 4 (.inr rfl) rfl (FW.bad (fun hh => by have := hh.2.2.2.2 k hkl (by rw [hpk]; exact hpp); rw [hpk, hbf] at this; cases this) hI.pu)
 ·refine Ac (Ab (V7 0 rfl (V3 (.int .i64 _) rfl (hI.c0 rfl) (V7 0 rfl (V3 (.int .i64 _) rfl (hI.c1 rfl) (Vj rfl (V5 rfl (V4 rfl (V4 rfl (V4 rfl (V4 rfl (Vd rfl (Aa ?_)))))))))))))
  refine Ad false rfl (Ah ?_)
  replace hI := hI.d0
  refine Ab (Vb rfl (V0 rfl (Aa ?_)))
  exact ⟨ah.length - (k + 1), by omega, k + 1, rfl, by omega, hnext (fun e => absurd e hpp), ⟨rfl, rfl, rfl, rfl, trivial⟩, hI⟩
theorem BK.take {w : World} {D : Nat → Prop} {A : Option Addr} {n c : Nat} {l : List Op8} (h : BK w D (.slice A n c) l) (k : Nat) (hk : k ≤ l.length) : BK w D (.slice A k c) (l.take k) := by
 obtain ⟨hn, hc1, hc2⟩ := h.len
 have hlk : (l.take k).length = k := by simp; omega
 unfold BK
 rw [hlk]
 refine ⟨A, c, rfl, by omega, hc2, ?_, fun h0 => ?_⟩
 ·have : ∀ l : List Op8, (l.flatMap opV).length = l.length * 8 := by
   intro l
   induction l with
   | nil => rfl
   | cons s l ih => rw [List.flatMap_cons, List.length_append, ih]; simp [opV]; omega
  rw [this, hlk]
 ·obtain ⟨A1, c1, hv, _, _, _, hcell⟩ := h
  injection hv with e1 e2 e3
  subst e1 e3
  obtain ⟨b, o, hbo, hD, hcl⟩ := hcell (by omega)
  refine ⟨b, o, hbo, hD, fun j u hj => hcl j u ?_⟩
  have e : l.flatMap opV = (l.take k).flatMap opV ++ (l.drop k).flatMap opV := by rw [← List.flatMap_append, List.take_append_drop]
  rw [e, List.getElem?_append_left (List.getElem?_eq_some_iff.1 hj).1]
  exact hj
def FY (l : List Op8) : Prop := l.length ≤ 40 ∧ ∀ k, k < l.length → OkOp (oAt l k) (l.take k)
def Wo (l : List Op8) (w0 : World) (en : Ending) (w' : World) : Prop := Pure w0 w' ∧ ((FY l ∧ en = .returned .nilIface) ∨ (¬ FY l ∧ ∃ x, (∃ u : Int, x = .iface 48 (.int .i64 u) ∧ u ≠ 8 ∧ (40 < l.length → u = 4)) ∧ en = .returned x))
def Wn (l : List Op8) (w0 : World) (en : Ending) (w' : World) : Prop := Pure w0 w' ∧ ((FY l ∧ en = .returned .nilIface) ∨ (¬ FY l ∧ ∃ x, Oe x ∧ en = .returned x))
def X9 (l : List Op8) (w0 : World) (en : Ending) (w' : World) : Prop := Pure w0 w' ∧ ((FY l ∧ en = .returned .nilIface) ∨ (¬ FY l ∧ ∃ x, FZ x ∧ en = .returned x))
set_option maxHeartbeats 2000000 in
theorem GZ (A : Option Addr) (n c : Nat) (l : List Op8) (D : Nat → Prop) (w0 : World) (h : BK w0 D (.slice A n c) l) : Calls Tryd.prog 40 #[.slice A n c] w0 (Wo l w0) := by
 obtain ⟨hn, hc1, hc2⟩ := h.len
 subst hn
 have hI := Inv.start (fun _ => False) w0
 refine Vx Tryd.f40.ntmps Tryd.func40 rfl ?_
 refine Ac (Ab (Vy rfl (Aa ?_)))
 by_cases h40 : l.length ≤ 40
 rotate_left
 ·refine Ac (Ac (Ab (V8 rfl (Vi rfl Tryd.underlying22 rfl ?_))))
  refine Af rfl rfl rfl (by exact Mx rfl rfl rfl (by omega)) ?_
  refine Aa (Ad true rfl (Ac (Ab ?_)))
  refine Af rfl rfl rfl (El rfl Tryd.underlying48 rfl rfl) ?_
  refine T6 rfl (Aa ?_)
  refine Aj ?_
  exact Bw 2 (.inr rfl) rfl ⟨hI.pu, .inr ⟨fun hh => h40 hh.1, _, ⟨_, rfl, by decide, fun _ => rfl⟩, rfl⟩⟩
 refine Ac (Ac (Ab (V8 rfl (Vi rfl Tryd.underlying22 rfl ?_))))
 refine Af rfl rfl rfl (by exact JR rfl rfl rfl (by omega)) ?_
 refine Aa (Ad false rfl (Ah (Ac (Ac (Ab (V8 rfl (Vi rfl Tryd.underlying22 rfl (V0 rfl (Aa (Al ?_))))))))))
 refine Ce (fun mu ρ w => ∃ k : Nat, mu = l.length - k ∧ k ≤ l.length ∧ (∀ j, j < k → OkOp (oAt l j) (l.take j)) ∧ Has ρ [(12, .int .i64 (k : Int)), (11, .int .i64 (l.length : Int)), (10, .slice A l.length c), (0, .slice A l.length c)] ∧ Inv (fun _ => False) w0 w []) l.length
  ⟨0, rfl, by omega, fun j hj => by omega, ⟨rfl, rfl, rfl, rfl, trivial⟩, hI⟩ ?_
 clear hI
 rintro mu ρ w ⟨k, rfl, hk, hall, hH, hI⟩
 obtain ⟨σ, rfl⟩ := hH.open
 by_cases hkl : k < l.length
 rotate_left
 ·obtain rfl : k = l.length := by omega
  refine Ac (Ab (Vo rfl (Aa (Ac (Ad false rfl ?_)))))
  refine BG ?_
  refine Ac (Ab (Vy rfl (Aa ?_)))
  refine Aj ?_
  exact Bw 2 (.inr rfl) rfl ⟨hI.pu, .inl ⟨⟨h40, hall⟩, rfl⟩⟩
 obtain ⟨ab, ao, rfl, hoc⟩ := h.at hkl
 have htk := h.take k hk
 generalize hpk : oAt l k = pk at hoc
 obtain ⟨p0, p1, p2, p3, p4, p5, p6, p7⟩ := pk
 refine Ac (Ab (Vt rfl (Aa (Ac (Ad true rfl (Ah (Ac (Al (Ac (Ab (V0 rfl (Th 8 rfl Tryd.underlying22 rfl (Tj 8 rfl (by rfl) (fun k u hk => hI.oldp (hoc k u hk)) ?_)))))))))))))
 refine Vw (.agg #[.int .i64 0, .int .i64 0, .int .i64 0, .int .i64 0, .int .i64 0, .int .i64 0, .int .i64 0, .int .i64 0]) (#[.int .i64 0, .int .i64 0, .int .i64 0, .int .i64 0, .int .i64 0, .int .i64 0, .int .i64 0, .int .i64 0]) hI rfl ?_
 clear hI; rintro b4 w - - hI
 refine V9 rfl (Vz 8 (#[_, _, _, _, _, _, _, _]) (.agg _) hI rfl ?_)
 clear hI; intro w hI
 refine Aa ?_
 simp only [opV] at hI
 by_cases hop : OkOp ⟨p0, p1, p2, p3, p4, p5, p6, p7⟩ (l.take k)
 ·refine Ac (BB (by kernel_rfl) ?_)
  refine BC (T := []) hI.drew ?_
  intro Sx hSx hXS
  replace hI := hI.drew
  refine Ae 0 rfl rfl (by kernel_rfl) (hXS _ hI) rfl (fun W hW => have hI := hSx W hW; (by exact Um (n := 8) rfl (by kernel_rfl) (by kernel_rfl) rfl rfl hI.g0)) ?_
  refine Vv 1 (hXS _ hI) rfl (Vs 2 (hXS _ hI) rfl ?_)
  refine Ae 3 rfl rfl (by kernel_rfl) (hXS _ hI) rfl (fun W hW => have hI := hSx W hW; (Gc (sz := 8) (i := k) rfl Tryd.underlying22 (by kernel_rfl) rfl rfl (by omega))) ?_
  refine V2 4 rfl ?_
  refine Va [.agg _, .slice _ _ _] rfl Tryd.func52 rfl ?_
  refine (J2 p0 p1 p2 p3 p4 p5 p6 p7 _ k c (l.take k) D _ (htk.pure hI.pu) (by omega)).mono ?_
  rintro e w1 ⟨hp, ⟨_, rfl⟩ | ⟨hbad, _⟩⟩
  rotate_left
  ·exact absurd hop hbad
  refine ⟨_, rfl, ?_⟩
  replace hI := hI.pure hp
  refine Aa ⟨hXS _ hI, ?_⟩
  refine Ae 5 rfl rfl (by kernel_rfl) (hXS _ hI) rfl (fun W hW => have hI := hSx W hW; (by exact Us rfl rfl)) ?_
  refine Av (by kernel_rfl) (Ac (Ab ?_))
  refine Af rfl rfl rfl (by exact Fb rfl rfl) ?_
  refine Af rfl rfl rfl (by exact Hg rfl Tryd.underlying28 rfl) ?_
  refine Aa (Ad false rfl (Ah ?_))
  replace hI := hI.d0
  refine Ab (Vb rfl (V0 rfl (Aa ?_)))
  refine ⟨l.length - (k + 1), by omega, k + 1, rfl, by omega, fun j hj => ?_, ⟨rfl, rfl, rfl, rfl, trivial⟩, hI⟩
  rcases Nat.lt_or_ge j k with h1 | h1
  ·exact hall j h1
  ·obtain rfl : j = k := by omega
   rw [hpk]; exact hop
 ·refine Ac (BB (by kernel_rfl) ?_)
  refine BC (T := []) hI.drew ?_
  intro Sx hSx hXS
  replace hI := hI.drew
  refine Ae 0 rfl rfl (by kernel_rfl) (hXS _ hI) rfl (fun W hW => have hI := hSx W hW; (by exact Um (n := 8) rfl (by kernel_rfl) (by kernel_rfl) rfl rfl hI.g0)) ?_
  refine Vv 1 (hXS _ hI) rfl (Vs 2 (hXS _ hI) rfl ?_)
  refine Ae 3 rfl rfl (by kernel_rfl) (hXS _ hI) rfl (fun W hW => have hI := hSx W hW; (Gc (sz := 8) (i := k) rfl Tryd.underlying22 (by kernel_rfl) rfl rfl (by omega))) ?_
  refine V2 4 rfl ?_
  refine Va [.agg _, .slice _ _ _] rfl Tryd.func52 rfl ?_
  refine (J2 p0 p1 p2 p3 p4 p5 p6 p7 _ k c (l.take k) D _ (htk.pure hI.pu) (by omega)).mono ?_
  rintro e w1 ⟨hp, ⟨hgood, _⟩ | ⟨_, x, ⟨u, rfl, hu8⟩, rfl⟩⟩
  ·exact absurd hgood hop
  refine ⟨_, rfl, ?_⟩
  replace hI := hI.pure hp
  refine Aa ⟨hXS _ hI, ?_⟩
  refine Ae 5 rfl rfl (by kernel_rfl) (hXS _ hI) rfl (fun W hW => have hI := hSx W hW; (by exact Ut rfl rfl)) ?_
  refine Av (by kernel_rfl) (Ac (Ab ?_))
  refine Af rfl rfl rfl (by exact EH rfl rfl) ?_
  refine Af rfl rfl rfl (by exact Fv rfl Tryd.underlying28 rfl rfl) ?_
  refine Aa (Ad true rfl (Ac (Ab ?_)))
  refine Af rfl rfl rfl (by exact EH rfl rfl) ?_
  refine T6 rfl (Aa ?_)
  refine Aj ?_
  exact Bw 2 (.inr rfl) rfl ⟨hI.pu, .inr ⟨fun hh => by have := hh.2 k hkl; rw [hpk] at this; exact hop this, _, ⟨_, rfl, hu8, fun hh => absurd hh (by omega)⟩, rfl⟩⟩
theorem L9 (A : Option Addr) (n c : Nat) (l : List Op8) (D : Nat → Prop) (w0 : World) (h : BK w0 D (.slice A n c) l) : Calls Tryd.prog 40 #[.slice A n c] w0 (Wn l w0) :=
 (GZ A n c l D w0 h).mono fun e w' hh => ⟨hh.1, hh.2.imp id fun ⟨h1, x, ⟨u, h2, h4, _⟩, h3⟩ => ⟨h1, x, ⟨u, h2, h4⟩, h3⟩⟩
theorem N9 (A : Option Addr) (n c : Nat) (l : List Op8) (D : Nat → Prop) (w0 : World) (h : BK w0 D (.slice A n c) l) : Calls Tryd.prog 40 #[.slice A n c] w0 (X9 l w0) :=
 (L9 A n c l D w0 h).mono fun e w' hh => ⟨hh.1, hh.2.imp id fun ⟨h1, x, h2, h3⟩ => ⟨h1, x, h2.any, h3⟩⟩
def BA (o : Int) (l : List Op8) (bud : Int) : Prop := 1 ≤ o ∧ o ≤ 6 ∧ 0 ≤ bud ∧ bud ≤ 1000000 ∧ FY l ∧ ∀ k, k < l.length → DD o (oAt l k).kind = true
def EZ (o : Int) (l : List Op8) (bud : Int) (w0 : World) (en : Ending) (w' : World) : Prop := Pure w0 w' ∧ ((BA o l bud ∧ en = .returned .nilIface) ∨ (¬ BA o l bud ∧ ∃ x, FZ x ∧ en = .returned x))
def QV (o : Int) (l : List Op8) (bud : Int) (u : Int) : Prop := 1 ≤ o → o ≤ 6 → 0 ≤ bud → bud ≤ 1000000 → (40 < l.length → u = 4) ∧ (FY l → u = 1)
def PI (o : Int) (l : List Op8) (bud : Int) (w0 : World) (en : Ending) (w' : World) : Prop := Pure w0 w' ∧ ((BA o l bud ∧ en = .returned .nilIface) ∨ (¬ BA o l bud ∧ ∃ u, QV o l bud u ∧ en = .returned (.iface 48 (.int .i64 u))))
theorem EZ.bad {o : Int} {l : List Op8} {bud : Int} {w0 w' : World} {z : Int} (h : ¬ BA o l bud) (hz : QV o l bud z) (hp : Pure w0 w') : PI o l bud w0 (.returned (.iface 48 (.int .i64 z))) w' := ⟨hp, .inr ⟨h, z, hz, rfl⟩⟩
set_option maxHeartbeats 2000000 in
theorem Gg (o : Int) (A : Option Addr) (n c : Nat) (l : List Op8) (bud : Int) (D : Nat → Prop) (w0 : World) (h : BK w0 D (.slice A n c) l) (hk : Dq w0) : Calls Tryd.prog 18 #[.int .i64 o, .slice A n c, .int .i64 bud] w0 (PI o l bud w0) := by
 obtain ⟨hn, hc1, hc2⟩ := h.len
 subst hn
 have hI := Inv.start (fun _ => False) w0
 refine Vx Tryd.f18.ntmps Tryd.func18 rfl ?_
 refine Ac (Ab (Vy rfl (Aa (Ac (Al ?_)))))
 by_cases g1 : o < 1
 ·refine Ac (Ab (V0 rfl (Vt rfl (V5 rfl (V4 rfl (V4 rfl (Vg rfl (V6 rfl (Aa (Ad true rfl (Ac (Ab ?_))))))))))))
  refine Af rfl rfl rfl (El rfl Tryd.underlying48 rfl rfl) ?_
  refine T6 rfl (Aa ?_)
  refine Aj ?_
  exact Bw 6 (.inr rfl) rfl (EZ.bad (fun hh => by have := hh.1; omega) (fun _ _ _ _ => by omega) hI.pu)
 by_cases g2 : 6 < o
 ·refine Ac (Ab (V0 rfl (Vo rfl (V5 rfl (V0 rfl ?_)))))
  refine Af rfl rfl rfl (by exact Mx rfl rfl rfl (by omega)) ?_
  refine Vd rfl (V6 rfl (Aa (Ad true rfl (Ac (Ab ?_)))))
  refine Af rfl rfl rfl (El rfl Tryd.underlying48 rfl rfl) ?_
  refine T6 rfl (Aa ?_)
  refine Aj ?_
  exact Bw 6 (.inr rfl) rfl (EZ.bad (fun hh => by have := hh.2.1; omega) (fun _ _ _ _ => by omega) hI.pu)
 refine Ac (Ab (V0 rfl (Vo rfl (V5 rfl (V0 rfl ?_)))))
 refine Af rfl rfl rfl (by exact JR rfl rfl rfl (by omega)) ?_
 refine Vd rfl (V6 rfl (Aa (Ad false rfl ?_)))
 by_cases g3 : bud < 0
 ·refine Ac (Ab (V0 rfl (Vt rfl (V5 rfl (V4 rfl (V4 rfl (Vg rfl (V6 rfl (Aa (Ad true rfl (Ac (Ab ?_))))))))))))
  refine Af rfl rfl rfl (El rfl Tryd.underlying48 rfl rfl) ?_
  refine T6 rfl (Aa ?_)
  refine Aj ?_
  exact Bw 6 (.inr rfl) rfl (EZ.bad (fun hh => by have := hh.2.2.1; omega) (fun _ _ _ _ => by omega) hI.pu)
 by_cases g4 : 1000000 < bud
 ·refine Ac (Ab (V0 rfl (Vo rfl (V5 rfl (V0 rfl ?_)))))
  refine Af rfl rfl rfl (by exact Mx rfl rfl rfl (by omega)) ?_
  refine Vd rfl (V6 rfl (Aa (Ad true rfl (Ac (Ab ?_)))))
  refine Af rfl rfl rfl (El rfl Tryd.underlying48 rfl rfl) ?_
  refine T6 rfl (Aa ?_)
  refine Aj ?_
  exact Bw 6 (.inr rfl) rfl (EZ.bad (fun hh => by have := hh.2.2.2.1; omega) (fun _ _ _ _ => by omega) hI.pu)
 refine Ac (Ab (V0 rfl (Vo rfl (V5 rfl (V0 rfl ?_)))))
 refine Af rfl rfl rfl (by exact JR rfl rfl rfl (by omega)) ?_
 refine Vd rfl (V6 rfl (Aa (Ad false rfl (Ah ?_))))
 by_cases hok : FY l
 rotate_left
 ·refine Ac (Ac (Ab (V8 rfl (Va [.slice _ _ _] rfl Tryd.func40 rfl ?_))))
  refine (GZ A _ c l D _ (h.pure hI.pu)).mono ?_
  rintro e w1 ⟨hp, ⟨hg, _⟩ | ⟨_, x, ⟨u, rfl, -, hu4⟩, rfl⟩⟩
  ·exact absurd hg hok
  refine ⟨_, rfl, ?_⟩
  replace hI := hI.pure hp
  refine T6 rfl (Aa (Ac (Ab ?_)))
  refine Af rfl rfl rfl (by exact EH rfl rfl) ?_
  refine Af rfl rfl rfl (by exact Fv rfl Tryd.underlying28 rfl rfl) ?_
  refine Aa (Ad true rfl (Ac (Ab ?_)))
  refine Af rfl rfl rfl (by exact EH rfl rfl) ?_
  refine T6 rfl (Aa ?_)
  refine Aj ?_
  exact Bw 6 (.inr rfl) rfl (EZ.bad (fun hh => hok hh.2.2.2.2.1) (fun _ _ _ _ => ⟨hu4, fun hh => absurd hh hok⟩) hI.pu)
 have hl40 := hok.1
 refine Ac (Ac (Ab (V8 rfl (Va [.slice _ _ _] rfl Tryd.func40 rfl ?_))))
 refine (N9 A _ c l D _ (h.pure hI.pu)).mono ?_
 rintro e w1 ⟨hp, ⟨_, rfl⟩ | ⟨hbad, _⟩⟩
 rotate_left
 ·exact absurd hok hbad
 refine ⟨_, rfl, ?_⟩
 replace hI := hI.pure hp
 refine Vy rfl (Aa (Ac (Ab ?_)))
 refine Af rfl rfl rfl (by exact Fb rfl rfl) ?_
 refine Af rfl rfl rfl (by exact Hg rfl Tryd.underlying28 rfl) ?_
 refine Aa (Ad false rfl (Ah (Ac (Ac (Ab (V8 rfl (Vi rfl Tryd.underlying22 rfl (V0 rfl (Aa (Al ?_))))))))))
 refine Ce (fun mu ρ w => ∃ k : Nat, mu = l.length - k ∧ k ≤ l.length ∧ (∀ j, j < k → DD o (oAt l j).kind = true) ∧ Has ρ [(33, .int .i64 (k : Int)), (32, .int .i64 (l.length : Int)), (31, .slice A l.length c), (0, .int .i64 o)] ∧ Inv (fun _ => False) w0 w []) l.length
  ⟨0, rfl, by omega, fun j hj => by omega, ⟨rfl, rfl, rfl, rfl, trivial⟩, hI⟩ ?_
 clear hI
 rintro mu ρ w ⟨k, rfl, hkk, hall, hH, hI⟩
 obtain ⟨σ, rfl⟩ := hH.open
 by_cases hkl : k < l.length
 rotate_left
 ·obtain rfl : k = l.length := by omega
  refine Ac (Ab (Vo rfl (Aa (Ac (Ad false rfl ?_)))))
  refine BG ?_
  refine Ac (Ab (Vy rfl (Aa ?_)))
  refine Aj ?_
  exact Bw 6 (.inr rfl) rfl ⟨hI.pu, .inl ⟨⟨by omega, by omega, by omega, by omega, hok, hall⟩, rfl⟩⟩
 obtain ⟨ab, ao, rfl, hoc⟩ := h.at hkl
 generalize hpk : oAt l k = pk at hoc
 obtain ⟨p0, p1, p2, p3, p4, p5, p6, p7⟩ := pk
 refine Ac (Ab (Vt rfl (Aa (Ac (Ad true rfl (Ah (Ac (Al (Ac (Ab (Th 8 rfl Tryd.underlying22 rfl (Tj 8 rfl (by rfl) (fun k u hk => hI.oldp (hoc k u hk)) (Vw (.agg #[.int .i64 0, .int .i64 0, .int .i64 0, .int .i64 0, .int .i64 0, .int .i64 0, .int .i64 0, .int .i64 0]) (#[.int .i64 0, .int .i64 0, .int .i64 0, .int .i64 0, .int .i64 0, .int .i64 0, .int .i64 0, .int .i64 0]) hI rfl ?_)))))))))))))
 clear hI; rintro b9 w - - hI
 refine Vz 8 (#[_, _, _, _, _, _, _, _]) (.agg _) hI rfl ?_
 clear hI; intro w hI
 refine Aa ?_
 simp only [opV] at hI
 cases hkn : DD o p2 with
 | true =>
  refine Ac (Ab (V0 rfl (V7 2 rfl (V3 (.int .i64 _) rfl (hI.c0 rfl) (Va [.int .i64 _, .int .i64 _] rfl Tryd.func41 rfl ?_)))))
  refine (EC o p2 _ (hk.pure hI.pu)).mono ?_
  rw [hkn]
  rintro e w1 ⟨rfl, hp⟩
  refine ⟨_, rfl, ?_⟩
  replace hI := hI.pure hp
  refine T5 rfl (Aa (Ad false rfl (Ah ?_)))
  replace hI := hI.d0
  refine Ab (Vb rfl (V0 rfl (Aa ?_)))
  refine ⟨l.length - (k + 1), by omega, k + 1, rfl, by omega, fun j hj => ?_, ⟨rfl, rfl, rfl, rfl, trivial⟩, hI⟩
  rcases Nat.lt_or_ge j k with h1 | h1
  ·exact hall j h1
  ·obtain rfl : j = k := by omega
   rw [hpk]; exact hkn
 | false =>
  refine Ac (Ab (V0 rfl (V7 2 rfl (V3 (.int .i64 _) rfl (hI.c0 rfl) (Va [.int .i64 _, .int .i64 _] rfl Tryd.func41 rfl ?_)))))
  refine (EC o p2 _ (hk.pure hI.pu)).mono ?_
  rw [hkn]
  rintro e w1 ⟨rfl, hp⟩
  refine ⟨_, rfl, ?_⟩
  replace hI := hI.pure hp
  refine Tf rfl (Aa (Ad true rfl (Ac (Ab ?_))))
  refine Af rfl rfl rfl (El rfl Tryd.underlying48 rfl rfl) ?_
  refine T6 rfl (Aa ?_)
  refine Aj ?_
  exact Bw 6 (.inr rfl) rfl (EZ.bad (fun hh => by have := hh.2.2.2.2.2 k hkl; rw [hpk] at this; rw [show DD o _ = false from hkn] at this; cases this) (fun _ _ _ _ => ⟨fun hh => absurd hh (by omega), fun _ => rfl⟩) hI.pu)
theorem K9 (o : Int) (A : Option Addr) (n c : Nat) (l : List Op8) (bud : Int) (D : Nat → Prop) (w0 : World) (h : BK w0 D (.slice A n c) l) (hk : Dq w0) : Calls Tryd.prog 18 #[.int .i64 o, .slice A n c, .int .i64 bud] w0 (EZ o l bud w0) :=
 (Gg o A n c l bud D w0 h hk).mono fun e w' hh => ⟨hh.1, hh.2.imp id fun ⟨h1, u, _, h3⟩ => ⟨h1, _, ⟨u, rfl⟩, h3⟩⟩
theorem Lt (n : Nat) : rep (.bool false) n = BD n (fun _ => false) := by
 apply Array.ext'
 simp [rep, BD, List.map_const']
theorem J5 {n : Nat} {f g : Nat → Bool} (h : ∀ i, i < n → f i = g i) : BD n f = BD n g := by
 unfold BD
 congr 1
 exact List.map_congr_left fun i hi => by rw [h i (List.mem_range.1 hi)]
def dnF (order : List Int) (p i : Nat) : Bool := (order.take p).contains ((i : Nat) : Int)
theorem VJ {order : List Int} {p : Nat} (hp : p < order.length) {m : Nat} (hm : order[p] = (m : Int)) (i : Nat) : dnF order (p + 1) i = if i = m then true else dnF order p i := by
 unfold dnF
 rw [List.take_succ_eq_append_getElem hp, hm]
 by_cases h : i = m
 ·subst h; simp
 ·rw [if_neg h]
  rw [Bool.eq_iff_iff]
  simp
  omega
def ZK (l : List Op8) (order : List Int) (p : Nat) : Prop := ∀ j (hj : j < order.length), j < p → 0 ≤ order[j] ∧ order[j] < l.length ∧ dnF order j order[j].toNat = false ∧ ∀ i (hi : i < order.length), i < j → BN (oAt l order[j].toNat) (oAt l order[i].toNat) = false
def H5 (o : Int) (l : List Op8) (order : List Int) : Prop := ZK l order order.length ∧ (∀ i, i < l.length → 0 ≤ (oAt l i).ret → dnF order order.length i = true) ∧ WW o l order = -1
def Dv (o : Int) (l : List Op8) (order : List Int) (w0 : World) (en : Ending) (w' : World) : Prop :=
 Pure w0 w' ∧ ((BA o l 0 ∧ ∃ b : Bool, en = .returned (.tuple #[.bool b, .nilIface]) ∧ (b = true ↔ H5 o l order)) ∨ (¬ BA o l 0 ∧ ∃ x, FZ x ∧ en = .returned (.tuple #[.bool false, x])))
theorem Dv.no {o : Int} {l : List Op8} {order : List Int} {w0 w' : World} (hl : BA o l 0) (h : ¬ H5 o l order) (hp : Pure w0 w') : Dv o l order w0 (.returned (.tuple #[.bool false, .nilIface])) w' := ⟨hp, .inl ⟨hl, false, rfl, by simp; exact h⟩⟩
theorem BA.key {o : Int} {l : List Op8} {bud : Int} (h : BA o l bud) : ∀ i, i < l.length → 0 ≤ (oAt l i).key ∧ (oAt l i).key < 8 := fun i hi => by
 have h1 := (h.2.2.2.2.1.2 i hi).1
 unfold GR inB at h1
 simp at h1
 omega
set_option maxHeartbeats 4000000 in
theorem Je (o : Int) (A : Option Addr) (n c : Nat) (l : List Op8) (A' : Option Addr) (c' : Nat) (order : List Int) (D D' : Nat → Prop) (w0 : World) (h : BK w0 D (.slice A n c) l) (hr : Rd w0 D' 1 (.slice A' order.length c') order.length (Ba order)) (hb : order.length ≤ 10000) (hk : Dq w0) :
  Calls Tryd.prog 11 #[.int .i64 o, .slice A n c, .slice A' order.length c'] w0 (Dv o l order w0) := by
 obtain ⟨hn, hc1, hc2⟩ := h.len
 subst hn
 have hI := Inv.start (fun _ => False) w0
 refine Vx Tryd.f11.ntmps Tryd.func11 rfl ?_
 refine Ac (Ab (V6 rfl (Vy rfl (Aa ?_))))
 by_cases hok : BA o l 0
 rotate_left
 ·refine Ac (Ac (Ab (V0 rfl (V8 rfl (Va [.int .i64 _, .slice _ _ _, .int .i64 _] rfl Tryd.func18 rfl ?_)))))
  refine (K9 o A _ c l 0 D _ (h.pure hI.pu) (hk.pure hI.pu)).mono ?_
  rintro e w1 ⟨hp, ⟨hg, _⟩ | ⟨_, x, ⟨u, rfl⟩, rfl⟩⟩
  ·exact absurd hg hok
  refine ⟨_, rfl, ?_⟩
  replace hI := hI.pure hp
  refine T6 rfl (Aa (Ac (Ab ?_)))
  refine Af rfl rfl rfl (by exact EH rfl rfl) ?_
  refine Af rfl rfl rfl (by exact Fv rfl Tryd.underlying28 rfl rfl) ?_
  refine Aa (Ad true rfl (Ac (Ab ?_)))
  refine Af rfl rfl rfl (by exact EH rfl rfl) ?_
  refine V6 rfl (T6 rfl (Aa ?_))
  refine Aj ?_
  exact DV 6 7 (.inr rfl) rfl ⟨hI.pu, .inr ⟨hok, _, ⟨_, rfl⟩, rfl⟩⟩
 have hl40 := hok.2.2.2.2.1.1
 refine Ac (Ac (Ab (V0 rfl (V8 rfl (Va [.int .i64 _, .slice _ _ _, .int .i64 _] rfl Tryd.func18 rfl ?_)))))
 refine (K9 o A _ c l 0 D _ (h.pure hI.pu) (hk.pure hI.pu)).mono ?_
 rintro e w1 ⟨hp, ⟨_, rfl⟩ | ⟨hbad, _⟩⟩
 rotate_left
 ·exact absurd hok hbad
 refine ⟨_, rfl, ?_⟩
 replace hI := hI.pure hp
 refine Vy rfl (Aa (Ac (Ab ?_)))
 refine Af rfl rfl rfl (by exact Fb rfl rfl) ?_
 refine Af rfl rfl rfl (by exact Hg rfl Tryd.underlying28 rfl) ?_
 refine Aa (Ad false rfl (Ah (Ac (Ab (V8 rfl (Vi rfl Tryd.underlying22 rfl ?_))))))
 refine Ni (by_ := 1) (z := .bool false) hI rfl rfl rfl rfl rfl rfl Tryd.underlying65 (by kernel_rfl) rfl (by omega) (by omega) ?_
 clear hI; rintro b24 w - - hI
 refine Vf rfl (Aa ?_)
 replace hI : Inv (fun _ => False) w0 w [B b24 4 (BD l.length (dnF order 0))] := by
  have e : BD l.length (dnF order 0) = rep (.bool false) l.length := by rw [Lt]; exact J5 fun i _ => by simp [dnF]
  rw [e]; exact hI
 refine Bt (fun ρ w => ZK l order order.length ∧ Has ρ [(0, .int .i64 o), (1, .slice A l.length c), (2, .slice A' order.length c'), (9, .slice (some ⟨b24, 0, none⟩) l.length l.length)] ∧ Inv (fun _ => False) w0 w [B b24 4 (BD l.length (dnF order order.length))]) ?_ ?_
 ·refine Ac (Ab (V8 rfl (Vi rfl Tryd.underlying24 rfl (V0 rfl (Aa (Al ?_))))))
  refine Ce (fun mu ρ w => ∃ p : Nat, mu = order.length - p ∧ p ≤ order.length ∧ ZK l order p ∧ Has ρ [(27, .int .i64 (p : Int)), (26, .int .i64 (order.length : Int)), (25, .slice A' order.length c'), (0, .int .i64 o), (1, .slice A l.length c), (2, .slice A' order.length c'), (9, .slice (some ⟨b24, 0, none⟩) l.length l.length)] ∧ Inv (fun _ => False) w0 w [B b24 4 (BD l.length (dnF order p))]) order.length
   ⟨0, rfl, by omega, fun j _ hj => by omega, ⟨rfl, rfl, rfl, rfl, rfl, rfl, rfl, trivial⟩, hI⟩ ?_
  clear hI
  rintro mu ρ w ⟨p, rfl, hp, hord, hH, hI⟩
  obtain ⟨σ, rfl⟩ := hH.open
  by_cases hpl : p < order.length
  rotate_left
  ·obtain rfl : p = order.length := by omega
   refine Ac (Ab (Vo rfl (Aa (Ac (Ad false rfl ?_)))))
   refine BG ?_
   exact ⟨hord, ⟨rfl, rfl, rfl, rfl, trivial⟩, hI⟩
  have hi0 : (Ba order)[p]? = some (.int .i64 (order[p]'hpl)) := by simp [Ba, hpl]
  obtain ⟨ob, oo, rfl, _, _, hcell⟩ := hr.get hi0 (by omega)
  have hbadp : ¬ (0 ≤ order[p] ∧ order[p] < l.length ∧ dnF order p order[p].toNat = false ∧ ∀ i (hi : i < order.length), i < p → BN (oAt l order[p].toNat) (oAt l order[i].toNat) = false) → ¬ H5 o l order := fun hb hs => hb (hs.1 p hpl hpl)
  generalize hio : order[p]'hpl = i at hcell hbadp
  refine Ac (Ab (Vt rfl (Aa (Ac (Ad true rfl (Ah (Ac (Al (Ac (Ab (V0 rfl ?_)))))))))))
  refine Af rfl rfl rfl (by exact Dz rfl Tryd.underlying24 (by kernel_rfl) rfl rfl (by omega)) ?_
  refine V3 (.int .i64 _) rfl (hI.oldp hcell) (V9 rfl (V9 rfl (Aa ?_)))
  by_cases hneg : i < 0
  ·refine Ac (Ac (Ab (V0 rfl (Vt rfl (V5 rfl (V4 rfl (V4 rfl (V4 rfl (V4 rfl (Vg rfl (V5 rfl (V4 rfl (V4 rfl ?_)))))))))))))
   refine V4 rfl (V4 rfl (Vg rfl (Aa (Ad true rfl (Ac (Ab (V6 rfl (Vy rfl (Aa ?_)))))))))
   refine Aj ?_
   exact DV 6 7 (.inr rfl) rfl (Dv.no hok (hbadp fun hh => by have := hh.1; omega) hI.pu)
  by_cases hbig : (l.length : Int) ≤ i
  ·refine Ac (Ac (Ab (V0 rfl (Vo rfl (V5 rfl (V0 rfl (V8 rfl (Vi rfl Tryd.underlying22 rfl (Tc rfl (Vd rfl (V5 rfl (V4 rfl (V4 rfl ?_)))))))))))))
   refine V4 rfl (V4 rfl (Vg rfl (Aa (Ad true rfl (Ac (Ab (V6 rfl (Vy rfl (Aa ?_)))))))))
   refine Aj ?_
   exact DV 6 7 (.inr rfl) rfl (Dv.no hok (hbadp fun hh => by have := hh.2.1; omega) hI.pu)
  obtain ⟨m, rfl⟩ : ∃ m : Nat, i = (m : Int) := ⟨i.toNat, by omega⟩
  have hm : m < l.length := by omega
  rw [Int.toNat_natCast] at hbadp
  have hdg := ED (n := l.length) (dnF order p) hm
  cases hdn : dnF order p m with
  | true =>
   rw [hdn] at hdg
   refine Ac (Ac (Ab (V0 rfl (Vo rfl (V5 rfl (V0 rfl (V8 rfl (Vi rfl Tryd.underlying22 rfl (Tg rfl (Vd rfl (V5 rfl (V8 rfl (V0 rfl ?_)))))))))))))
   refine Tb rfl Tryd.underlying65 rfl (V3 (.bool _) rfl (hI.c0 hdg) (Vd rfl (Aa (Ad true rfl (Ac (Ab (V6 rfl (Vy rfl (Aa ?_)))))))))
   refine Aj ?_
   exact DV 6 7 (.inr rfl) rfl (Dv.no hok (hbadp fun hh => by have := hh.2.2.1; rw [hdn] at this; cases this) hI.pu)
  | false =>
  rw [hdn] at hdg
  refine Ac (Ac (Ab (V0 rfl (Vo rfl (V5 rfl (V0 rfl (V8 rfl (Vi rfl Tryd.underlying22 rfl (Tg rfl (Vd rfl (V5 rfl (V8 rfl (V0 rfl ?_)))))))))))))
  refine Tb rfl Tryd.underlying65 rfl (V3 (.bool _) rfl (hI.c0 hdg) (Vd rfl (Aa (Ad false rfl (Ah (Ac (Ab (V8 rfl (V0 rfl (Tb rfl Tryd.underlying65 rfl (Vp m (.bool true) hI rfl (by simp [Nat.blt, BD]; omega) rfl ?_)))))))))))
  rw [Ng, ← J5 (fun i _ => VJ hpl hio i)]
  clear hI; intro w hI
  refine Aa ?_
  obtain ⟨ab, ao, rfl, hoc⟩ := h.at hm
  refine Ac (Ab (V8 rfl (V0 rfl ?_)))
  refine Af rfl rfl rfl (Gc (sz := 1) (i := p) rfl Tryd.underlying24 (by kernel_rfl) rfl rfl (by have := hr.form; obtain ⟨_, _, e1, e2, _⟩ := this; injection e1 with _ _ e3; omega)) ?_
  refine Vi rfl Tryd.underlying24 rfl (V0 rfl (Aa (Al ?_)))
  refine Ce (fun mu ρ w => ∃ q : Nat, mu = p - q ∧ q ≤ p ∧ (∀ j (hj : j < order.length), j < q → BN (oAt l m) (oAt l order[j].toNat) = false) ∧ Has ρ [(53, .int .i64 (q : Int)), (52, .int .i64 (p : Int)), (51, .slice (some ⟨ob, oo, none⟩) p c'), (11, .int .i64 (m : Int)), (27, .int .i64 (p : Int)), (26, .int .i64 (order.length : Int)), (25, .slice (some ⟨ob, oo, none⟩) order.length c'), (0, .int .i64 o), (1, .slice (some ⟨ab, ao, none⟩) l.length c), (2, .slice (some ⟨ob, oo, none⟩) order.length c'), (9, .slice (some ⟨b24, 0, none⟩) l.length l.length)] ∧ Inv (fun _ => False) w0 w [B b24 4 (BD l.length (dnF order (p + 1)))]) p
   ⟨0, rfl, by omega, fun j _ hj => by omega, ⟨rfl, rfl, rfl, rfl, rfl, rfl, rfl, rfl, rfl, rfl, rfl, trivial⟩, hI⟩ ?_
  clear hI
  rintro mu ρ w ⟨q, rfl, hq, hbef, hH, hI⟩
  obtain ⟨σ, rfl⟩ := hH.open
  by_cases hqp : q < p
  rotate_left
  ·obtain rfl : q = p := by omega
   refine Ac (Ab (Vo rfl (Aa (Ac (Ad false rfl ?_)))))
   refine BG ?_
   refine Ab (Vb rfl (V0 rfl (Aa ?_)))
   refine ⟨order.length - (q + 1), by omega, q + 1, rfl, by omega, fun j hj hjp => ?_, ⟨rfl, rfl, rfl, rfl, rfl, rfl, rfl, trivial⟩, hI⟩
   rcases Nat.lt_or_ge j q with h1 | h1
   ·exact hord j hj h1
   ·obtain rfl : j = q := by omega
    rw [hio]
    exact ⟨by omega, by omega, hdn, hbef⟩
  have hql : q < order.length := by omega
  obtain ⟨g1, g2, _, _⟩ := hord q hql hqp
  have hq0 : (Ba order)[q]? = some (.int .i64 (order[q]'hql)) := by simp [Ba, hql]
  obtain ⟨ob', oo', hoe, _, _, hcellq⟩ := hr.get hq0 (by omega)
  injection hoe with hoe
  injection hoe with e1 e2
  subst e1 e2
  have hbq := fun (hb : BN (oAt l m) (oAt l order[q].toNat) = true) (hh : 0 ≤ (m : Int) ∧ (m : Int) < l.length ∧ dnF order p m = false ∧ ∀ i (hi : i < order.length), i < p → BN (oAt l m) (oAt l order[i].toNat) = false) => (show False from by
   have := hh.2.2.2 q hql hqp
   rw [hb] at this; cases this)
  have hbn : BN (oAt l m) (oAt l order[q].toNat) = false → ∀ j (hj : j < order.length), j < q + 1 → BN (oAt l m) (oAt l order[j].toNat) = false := fun hb j hj hj2 => by
   rcases Nat.lt_or_ge j q with h1 | h1
   ·exact hbef j hj h1
   ·obtain rfl : j = q := by omega
    exact hb
  generalize order[q]'hql = z at hcellq hbq hbn g1 g2
  obtain ⟨zn, rfl⟩ : ∃ zn : Nat, z = (zn : Int) := ⟨z.toNat, by omega⟩
  rw [Int.toNat_natCast] at hbq hbn
  obtain ⟨ab', ao', hae, hoc2⟩ := h.at (show zn < l.length by omega)
  injection hae with hae
  injection hae with e1 e2
  subst e1 e2
  refine Ac (Ab (Vt rfl (Aa (Ac (Ad true rfl (Ah (Ac (Al (Ac (Ab ?_))))))))))
  refine Af rfl rfl rfl (by exact Dz rfl Tryd.underlying24 (by kernel_rfl) rfl rfl (by omega)) ?_
  refine V3 (.int .i64 _) rfl (hI.oldp hcellq) (V9 rfl (Aa ?_))
  cases hbf : BN (oAt l m) (oAt l zn) with
  | true =>
   refine Ac (BB (by kernel_rfl) ?_)
   refine BC (T := []) hI.drew ?_
   intro Sx hSx hXS
   replace hI := hI.drew
   refine Vv 0 (hXS _ hI) rfl (Vs 1 (hXS _ hI) rfl ?_)
   refine Ae 2 rfl rfl (by kernel_rfl) (hXS _ hI) rfl (fun W hW => have hI := hSx W hW; (LV (sz := 8) rfl Tryd.underlying22 (by kernel_rfl) rfl rfl (by omega))) ?_
   refine Ae 3 rfl rfl (by kernel_rfl) (hXS _ hI) rfl (fun W hW => have hI := hSx W hW; (by exact LU (n := 8) rfl (by kernel_rfl) (by kernel_rfl) rfl (by rfl) (fun k u hk => hI.oldp (hoc k u hk)))) ?_
   refine Vv 4 (hXS _ hI) rfl (Vs 5 (hXS _ hI) rfl ?_)
   refine Ae 6 rfl rfl (by kernel_rfl) (hXS _ hI) rfl (fun W hW => have hI := hSx W hW; (LV (sz := 8) rfl Tryd.underlying22 (by kernel_rfl) rfl rfl (by omega))) ?_
   refine Ae 7 rfl rfl (by kernel_rfl) (hXS _ hI) rfl (fun W hW => have hI := hSx W hW; (by exact LU (n := 8) rfl (by kernel_rfl) (by kernel_rfl) rfl (by rfl) (fun k u hk => hI.oldp (hoc2 k u hk)))) ?_
   refine V2 8 rfl ?_
   refine Va [.agg _, .agg _] rfl Tryd.func13 rfl ?_
   refine (Hz (oAt l m) (oAt l zn) _).mono ?_
   rw [hbf]
   rintro e w1 ⟨rfl, hp1⟩
   refine ⟨_, rfl, ?_⟩
   replace hI := hI.pure hp1
   refine Aa ⟨hXS _ hI, ?_⟩
   refine Av (by kernel_rfl) (Ad true rfl (Ac (Ab (V6 rfl (Vy rfl (Aa ?_))))))
   refine Aj ?_
   exact DV 6 7 (.inr rfl) rfl (Dv.no hok (hbadp (hbq hbf)) hI.pu)
  | false =>
   refine Ac (BB (by kernel_rfl) ?_)
   refine BC (T := []) hI.drew ?_
   intro Sx hSx hXS
   replace hI := hI.drew
   refine Vv 0 (hXS _ hI) rfl (Vs 1 (hXS _ hI) rfl ?_)
   refine Ae 2 rfl rfl (by kernel_rfl) (hXS _ hI) rfl (fun W hW => have hI := hSx W hW; (LV (sz := 8) rfl Tryd.underlying22 (by kernel_rfl) rfl rfl (by omega))) ?_
   refine Ae 3 rfl rfl (by kernel_rfl) (hXS _ hI) rfl (fun W hW => have hI := hSx W hW; (by exact LU (n := 8) rfl (by kernel_rfl) (by kernel_rfl) rfl (by rfl) (fun k u hk => hI.oldp (hoc k u hk)))) ?_
   refine Vv 4 (hXS _ hI) rfl (Vs 5 (hXS _ hI) rfl ?_)
   refine Ae 6 rfl rfl (by kernel_rfl) (hXS _ hI) rfl (fun W hW => have hI := hSx W hW; (LV (sz := 8) rfl Tryd.underlying22 (by kernel_rfl) rfl rfl (by omega))) ?_
   refine Ae 7 rfl rfl (by kernel_rfl) (hXS _ hI) rfl (fun W hW => have hI := hSx W hW; (by exact LU (n := 8) rfl (by kernel_rfl) (by kernel_rfl) rfl (by rfl) (fun k u hk => hI.oldp (hoc2 k u hk)))) ?_
   refine V2 8 rfl ?_
   refine Va [.agg _, .agg _] rfl Tryd.func13 rfl ?_
   refine (Hz (oAt l m) (oAt l zn) _).mono ?_
   rw [hbf]
   rintro e w1 ⟨rfl, hp1⟩
   refine ⟨_, rfl, ?_⟩
   replace hI := hI.pure hp1
   refine Aa ⟨hXS _ hI, ?_⟩
   refine Av (by kernel_rfl) (Ad false rfl (Ah (Ab (Vb rfl (V0 rfl (Aa ?_))))))
   exact ⟨p - (q + 1), by omega, q + 1, rfl, by omega, hbn hbf, ⟨rfl, rfl, rfl, rfl, rfl, rfl, rfl, rfl, rfl, rfl, rfl, trivial⟩, hI⟩
 clear hI
 rintro ρ w ⟨hord, hH, hI⟩
 obtain ⟨σ, rfl⟩ := hH.open
 refine Bt (fun ρ w => (∀ i, i < l.length → 0 ≤ (oAt l i).ret → dnF order order.length i = true) ∧ Has ρ [(0, .int .i64 o), (1, .slice A l.length c), (2, .slice A' order.length c')] ∧ Inv (fun _ => False) w0 w []) ?_ ?_
 ·refine Ac (Ab (V8 rfl (Vi rfl Tryd.underlying22 rfl (V0 rfl (Aa (Al ?_))))))
  refine Ce (fun mu ρ w => ∃ k : Nat, mu = l.length - k ∧ k ≤ l.length ∧ (∀ i, i < k → 0 ≤ (oAt l i).ret → dnF order order.length i = true) ∧ Has ρ [(70, .int .i64 (k : Int)), (69, .int .i64 (l.length : Int)), (68, .slice A l.length c), (0, .int .i64 o), (1, .slice A l.length c), (2, .slice A' order.length c'), (9, .slice (some ⟨b24, 0, none⟩) l.length l.length)] ∧ Inv (fun _ => False) w0 w [B b24 4 (BD l.length (dnF order order.length))]) l.length
   ⟨0, rfl, by omega, fun j hj => by omega, ⟨rfl, rfl, rfl, rfl, rfl, rfl, rfl, trivial⟩, hI⟩ ?_
  clear hI
  rintro mu ρ w ⟨k, rfl, hkk, hall, hH, hI⟩
  obtain ⟨σ, rfl⟩ := hH.open
  by_cases hkl : k < l.length
  rotate_left
  ·obtain rfl : k = l.length := by omega
   refine Ac (Ab (Vo rfl (Aa (Ac (Ad false rfl ?_)))))
   refine BG ?_
   exact ⟨hall, ⟨rfl, rfl, rfl, trivial⟩, hI.d0⟩
  obtain ⟨ab, ao, rfl, hoc⟩ := h.at hkl
  have hdg := ED (n := l.length) (dnF order order.length) hkl
  generalize hpk : oAt l k = pk at hoc
  obtain ⟨p0, p1, p2, p3, p4, p5, p6, p7⟩ := pk
  have hnext : (0 ≤ p7 → dnF order order.length k = true) → ∀ i, i < k + 1 → 0 ≤ (oAt l i).ret → dnF order order.length i = true := fun hb j hj => by
   rcases Nat.lt_or_ge j k with h1 | h1
   ·exact hall j h1
   ·obtain rfl : j = k := by omega
    rw [hpk]; exact hb
  refine Ac (Ab (Vt rfl (Aa (Ac (Ad true rfl (Ah (Ac (Al (Ac (Ab (V0 rfl (Th 8 rfl Tryd.underlying22 rfl (Tj 8 rfl (by rfl) (fun k u hk => hI.oldp (hoc k u hk)) ?_)))))))))))))
  refine Vw (.agg #[.int .i64 0, .int .i64 0, .int .i64 0, .int .i64 0, .int .i64 0, .int .i64 0, .int .i64 0, .int .i64 0]) (#[.int .i64 0, .int .i64 0, .int .i64 0, .int .i64 0, .int .i64 0, .int .i64 0, .int .i64 0, .int .i64 0]) hI rfl ?_
  clear hI; rintro b15 w - - hI
  refine V9 rfl (Vz 8 (#[_, _, _, _, _, _, _, _]) (.agg _) hI rfl ?_)
  clear hI; intro w hI
  refine Aa ?_
  simp only [opV] at hI
  by_cases hr0 : 0 ≤ p7
  ·cases hdn : dnF order order.length k with
   | true =>
    rw [hdn] at hdg
    refine Ac (Ab (V7 7 rfl (V3 (.int .i64 _) rfl (hI.c0 rfl) (Tc rfl (V5 rfl (V8 rfl (V0 rfl (Tb rfl Tryd.underlying65 rfl (V3 (.bool _) rfl (hI.c1 hdg) (T5 rfl (Vg rfl (Aa (Ad false rfl ?_)))))))))))))
    refine Ah ?_
    replace hI := hI.d0
    refine Ab (Vb rfl (V0 rfl (Aa ?_)))
    exact ⟨l.length - (k + 1), by omega, k + 1, rfl, by omega, hnext (fun _ => hdn), ⟨rfl, rfl, rfl, rfl, rfl, rfl, rfl, trivial⟩, hI⟩
   | false =>
    rw [hdn] at hdg
    refine Ac (Ab (V7 7 rfl (V3 (.int .i64 _) rfl (hI.c0 rfl) (Tc rfl (V5 rfl (V8 rfl (V0 rfl (Tb rfl Tryd.underlying65 rfl (V3 (.bool _) rfl (hI.c1 hdg) (Tf rfl (Vg rfl (Aa (Ad true rfl ?_)))))))))))))
    refine Ac (Ab (V6 rfl (Vy rfl (Aa ?_))))
    refine Aj ?_
    exact DV 6 7 (.inr rfl) rfl (Dv.no hok (fun hs => by have := hs.2.1 k hkl (by rw [hpk]; exact hr0); rw [hdn] at this; cases this) hI.pu)
  ·refine Ac (Ab (V7 7 rfl (V3 (.int .i64 _) rfl (hI.c0 rfl) (Tg rfl (V5 rfl (V4 rfl (V4 rfl (V4 rfl (V4 rfl (V4 rfl (Vd rfl (Aa (Ad false rfl ?_)))))))))))))
   refine Ah ?_
   replace hI := hI.d0
   refine Ab (Vb rfl (V0 rfl (Aa ?_)))
   exact ⟨l.length - (k + 1), by omega, k + 1, rfl, by omega, hnext (fun e => absurd e hr0), ⟨rfl, rfl, rfl, rfl, rfl, rfl, rfl, trivial⟩, hI⟩
 clear hI
 rintro ρ w ⟨hall, hH, hI⟩
 obtain ⟨σ, rfl⟩ := hH.open
 refine Ac (Ab (V0 rfl (V8 rfl (V8 rfl (Va [.int .i64 _, .slice _ _ _, .slice _ _ _] rfl Tryd.func19 rfl ?_)))))
 refine (WV o A _ c l A' c' order D D' _ (h.pure hI.pu) (hr.pure hI.pu) hok.key hb (hk.pure hI.pu)).mono ?_
 rintro e w1 ⟨rfl, hp1⟩
 refine ⟨_, rfl, ?_⟩
 replace hI := hI.pure hp1
 refine Af rfl rfl rfl (NH rfl rfl rfl) ?_
 refine V6 rfl (Vy rfl (Aa ?_))
 refine Aj ?_
 refine DV 6 7 (.inr rfl) rfl ⟨hI.pu, .inl ⟨hok, decide (WW o l order = -1), rfl, ?_⟩⟩
 simp only [decide_eq_true_eq]
 exact ⟨fun e => ⟨hord, hall, e⟩, fun hs => hs.2.2⟩
def Zx (l : List Op8) (dn : Nat → Bool) : Prop := ∀ i, i < l.length → 0 ≤ (oAt l i).ret → dn i = true
set_option maxHeartbeats 2000000 in
theorem OE (sb : Nat) (A : Option Addr) (c : Nat) (l : List Op8) (db : Nat) (dn : Nat → Bool) (D : Nat → Prop) (w0 : World) (h : BK w0 D (.slice A l.length c) l) (h1 : w0.cell? ⟨sb, 1, none⟩ = some (.slice A l.length c)) (h4 : w0.cell? ⟨sb, 4, none⟩ = some (.slice (some ⟨db, 0, none⟩) l.length l.length)) (hd : Blk w0 db 4 (BD l.length dn)) (hl : l.length ≤ 1000) :
  Calls Tryd.prog 44 #[.pointer (some ⟨sb, 0, none⟩)] w0 fun en w' => (∃ b : Bool, en = .returned (.bool b) ∧ (b = true ↔ Zx l dn)) ∧ Pure w0 w' := by
 have hI := Inv.start (fun _ => False) w0
 refine Vx Tryd.f44.ntmps Tryd.func44 rfl ?_
 refine Ac (Ab (V6 rfl (Aa (Ac (Ac (Ab (T8 rfl (Td rfl (V7 1 rfl (V3 (.slice _ _ _) rfl (hI.oldp h1) (Vi rfl Tryd.underlying22 rfl (V0 rfl (Aa ?_)))))))))))))
 refine Al ?_
 refine Ce (fun mu ρ w => ∃ k : Nat, mu = l.length - k ∧ k ≤ l.length ∧ (∀ i, i < k → 0 ≤ (oAt l i).ret → dn i = true) ∧ Has ρ [(10, .int .i64 (k : Int)), (9, .int .i64 (l.length : Int)), (8, .slice A l.length c), (0, .pointer (some ⟨sb, 0, none⟩))] ∧ Inv (fun _ => False) w0 w []) l.length
  ⟨0, rfl, by omega, fun j hj => by omega, ⟨rfl, rfl, rfl, rfl, trivial⟩, hI⟩ ?_
 clear hI
 rintro mu ρ w ⟨k, rfl, hkk, hall, hH, hI⟩
 obtain ⟨σ, rfl⟩ := hH.open
 by_cases hkl : k < l.length
 rotate_left
 ·obtain rfl : k = l.length := by omega
  refine Ac (Ab (Vo rfl (Aa (Ac (Ad false rfl ?_)))))
  refine BG ?_
  refine Ac (Ab (V6 rfl (Aa ?_)))
  refine Aj ?_
  exact Bw 2 (.inr rfl) rfl ⟨⟨true, rfl, by simp; exact hall⟩, hI.pu⟩
 obtain ⟨ab, ao, rfl, hoc⟩ := h.at hkl
 have hdg := (hd.cell k).trans (ED (n := l.length) dn hkl)
 generalize hpk : oAt l k = pk at hoc
 obtain ⟨p0, p1, p2, p3, p4, p5, p6, p7⟩ := pk
 have hnext : (0 ≤ p7 → dn k = true) → ∀ i, i < k + 1 → 0 ≤ (oAt l i).ret → dn i = true := fun hb j hj => by
  rcases Nat.lt_or_ge j k with h1 | h1
  ·exact hall j h1
  ·obtain rfl : j = k := by omega
   rw [hpk]; exact hb
 refine Ac (Ab (Vt rfl (Aa (Ac (Ad true rfl (Ah (Ac (Al (Ac (Ab (V0 rfl (Th 8 rfl Tryd.underlying22 rfl (Tj 8 rfl (by rfl) (fun k u hk => hI.oldp (hoc k u hk)) ?_)))))))))))))
 refine Vw (.agg #[.int .i64 0, .int .i64 0, .int .i64 0, .int .i64 0, .int .i64 0, .int .i64 0, .int .i64 0, .int .i64 0]) (#[.int .i64 0, .int .i64 0, .int .i64 0, .int .i64 0, .int .i64 0, .int .i64 0, .int .i64 0, .int .i64 0]) hI rfl ?_
 clear hI; rintro b4 w - - hI
 refine V9 rfl (Vz 8 (#[_, _, _, _, _, _, _, _]) (.agg _) hI rfl ?_)
 clear hI; intro w hI
 refine Aa ?_
 simp only [opV] at hI
 by_cases hr0 : 0 ≤ p7
 ·cases hdn : dn k with
  | true =>
   rw [hdn] at hdg
   refine Ac (Ab (V7 7 rfl (V3 (.int .i64 _) rfl (hI.c0 rfl) (Tc rfl (V5 rfl (T8 rfl (Td rfl (V7 4 rfl (V3 (.slice _ _ _) rfl (hI.oldp h4) (V0 rfl (Tb rfl Tryd.underlying65 rfl (V3 (.bool _) rfl (hI.oldp hdg) (T5 rfl ?_)))))))))))))
   refine Vg rfl (Aa (Ad false rfl (Ah ?_)))
   replace hI := hI.d0
   refine Ab (Vb rfl (V0 rfl (Aa ?_)))
   exact ⟨l.length - (k + 1), by omega, k + 1, rfl, by omega, hnext (fun _ => hdn), ⟨rfl, rfl, rfl, rfl, trivial⟩, hI⟩
  | false =>
   rw [hdn] at hdg
   refine Ac (Ab (V7 7 rfl (V3 (.int .i64 _) rfl (hI.c0 rfl) (Tc rfl (V5 rfl (T8 rfl (Td rfl (V7 4 rfl (V3 (.slice _ _ _) rfl (hI.oldp h4) (V0 rfl (Tb rfl Tryd.underlying65 rfl (V3 (.bool _) rfl (hI.oldp hdg) (Tf rfl ?_)))))))))))))
   refine Vg rfl (Aa (Ad true rfl (Ac (Ab (V6 rfl (Aa ?_))))))
   refine Aj ?_
   exact Bw 2 (.inr rfl) rfl ⟨⟨false, rfl, by simp; exact fun hs => by have := hs k hkl (by rw [hpk]; exact hr0); rw [hdn] at this; cases this⟩, hI.pu⟩
 ·refine Ac (Ab (V7 7 rfl (V3 (.int .i64 _) rfl (hI.c0 rfl) (Tg rfl (V5 rfl (V4 rfl (V4 rfl (V4 rfl (V4 rfl (V4 rfl (V4 rfl (V4 rfl (V4 rfl ?_)))))))))))))
  refine Vd rfl (Aa (Ad false rfl (Ah ?_)))
  replace hI := hI.d0
  refine Ab (Vb rfl (V0 rfl (Aa ?_)))
  exact ⟨l.length - (k + 1), by omega, k + 1, rfl, by omega, hnext (fun e => absurd e hr0), ⟨rfl, rfl, rfl, rfl, trivial⟩, hI⟩
structure Oj (f : FuncId) (ab : Op8 → Op8 → Bool) : Prop where
 fn : ∃ fn : Func, Tryd.prog.funcs[f]? = some fn ∧ (fn.name == "runtime.NumGoroutine") = false ∧ fn.body.isNone = false
 calls : ∀ p q W, Calls Tryd.prog f #[.agg (opV p).toArray, .agg (opV q).toArray] W fun en w' => en = .returned (.bool (ab p q)) ∧ Pure W w'
def UN (l : List Op8) (ab : Op8 → Op8 → Bool) (dn : Nat → Bool) (i : Nat) : Prop := dn i = false ∧ ∀ k, k < l.length → k ≠ i → dn k = false → ab (oAt l k) (oAt l i) = false
set_option maxHeartbeats 4000000 in
theorem Mv (sb : Nat) (A : Option Addr) (c : Nat) (l : List Op8) (db f : Nat) (ab : Op8 → Op8 → Bool) (dn : Nat → Bool) (i : Nat) (D : Nat → Prop) (w0 : World) (h : BK w0 D (.slice A l.length c) l) (h1 : w0.cell? ⟨sb, 1, none⟩ = some (.slice A l.length c)) (h3 : w0.cell? ⟨sb, 3, none⟩ = some (.func (.func f) #[] #[])) (h4 : w0.cell? ⟨sb, 4, none⟩ = some (.slice (some ⟨db, 0, none⟩) l.length l.length)) (hd : Blk w0 db 4 (BD l.length dn)) (hl : l.length ≤ 1000) (hi : i < l.length) (hf : Oj f ab) :
  Calls Tryd.prog 46 #[.pointer (some ⟨sb, 0, none⟩), .int .i64 (i : Int)] w0 fun en w' => (∃ b : Bool, en = .returned (.bool b) ∧ (b = true ↔ UN l ab dn i)) ∧ Pure w0 w' := by
 obtain ⟨⟨fn, f1, f2, f3⟩, hcall⟩ := hf
 have hI := Inv.start (fun _ => False) w0
 have hdi := (hd.cell i).trans (ED (n := l.length) dn hi)
 refine Vx Tryd.f46.ntmps Tryd.func46 rfl ?_
 refine Ac (Ab (V6 rfl (Aa ?_)))
 cases hdn0 : dn i with
 | true =>
  rw [hdn0] at hdi
  refine Ac (Ac (Ab (T8 rfl (Td rfl (V7 4 rfl (V3 (.slice _ _ _) rfl (hI.oldp h4) (V0 rfl (Tb rfl Tryd.underlying65 rfl (V3 (.bool _) rfl (hI.oldp hdi) (Aa (Ad true rfl (Ac (Ab ?_)))))))))))))
  refine V6 rfl (Aa ?_)
  refine Aj ?_
  exact Bw 4 (.inr rfl) rfl ⟨⟨false, rfl, by simp; exact fun hs => by have := hs.1; rw [hdn0] at this; cases this⟩, hI.pu⟩
 | false =>
 rw [hdn0] at hdi
 refine Ac (Ac (Ab (T8 rfl (Td rfl (V7 4 rfl (V3 (.slice _ _ _) rfl (hI.oldp h4) (V0 rfl (Tb rfl Tryd.underlying65 rfl (V3 (.bool _) rfl (hI.oldp hdi) (Aa (Ad false rfl (Ah (Ac ?_)))))))))))))
 refine Ac (Ab (T8 rfl (Td rfl (V7 1 rfl (V3 (.slice _ _ _) rfl (hI.oldp h1) (Vi rfl Tryd.underlying22 rfl (V0 rfl (Aa (Al ?_)))))))))
 refine Ce (fun mu ρ w => ∃ k : Nat, mu = l.length - k ∧ k ≤ l.length ∧ (∀ j, j < k → j ≠ i → dn j = false → ab (oAt l j) (oAt l i) = false) ∧ Has ρ [(19, .int .i64 (k : Int)), (18, .int .i64 (l.length : Int)), (17, .slice A l.length c), (0, .pointer (some ⟨sb, 0, none⟩)), (1, .int .i64 (i : Int))] ∧ Inv (fun _ => False) w0 w []) l.length
  ⟨0, rfl, by omega, fun j hj => by omega, ⟨rfl, rfl, rfl, rfl, rfl, trivial⟩, hI⟩ ?_
 clear hI
 rintro mu ρ w ⟨k, rfl, hkk, hall, hH, hI⟩
 obtain ⟨σ, rfl⟩ := hH.open
 by_cases hkl : k < l.length
 rotate_left
 ·obtain rfl : k = l.length := by omega
  refine Ac (Ab (Vo rfl (Aa (Ac (Ad false rfl ?_)))))
  refine BG ?_
  refine Ac (Ab (V6 rfl (Aa ?_)))
  refine Aj ?_
  exact Bw 4 (.inr rfl) rfl ⟨⟨true, rfl, by simp; exact ⟨hdn0, hall⟩⟩, hI.pu⟩
 obtain ⟨bA, oA, rfl, hoc⟩ := h.at hkl
 obtain ⟨bA', oA', hae, hoci⟩ := h.at hi
 injection hae with hae
 injection hae with e1 e2
 subst e1 e2
 have hdg := (hd.cell k).trans (ED (n := l.length) dn hkl)
 have hnext : (k ≠ i → dn k = false → ab (oAt l k) (oAt l i) = false) → ∀ j, j < k + 1 → j ≠ i → dn j = false → ab (oAt l j) (oAt l i) = false := fun hb j hj => by
  rcases Nat.lt_or_ge j k with h1 | h1
  ·exact hall j h1
  ·obtain rfl : j = k := by omega
   exact hb
 refine Ac (Ab (Vt rfl (Aa (Ac (Ad true rfl (Ah (Ac (Al (Ac (Ab (V0 rfl (Th 8 rfl Tryd.underlying22 rfl (Tj 8 rfl (by rfl) (fun k u hk => hI.oldp (hoc k u hk)) ?_)))))))))))))
 refine Vw (.agg #[.int .i64 0, .int .i64 0, .int .i64 0, .int .i64 0, .int .i64 0, .int .i64 0, .int .i64 0, .int .i64 0]) (#[.int .i64 0, .int .i64 0, .int .i64 0, .int .i64 0, .int .i64 0, .int .i64 0, .int .i64 0, .int .i64 0]) hI rfl ?_
 clear hI; rintro b6 w - - hI
 refine V9 rfl (Vz 8 (#[_, _, _, _, _, _, _, _]) (.agg _) hI rfl ?_)
 clear hI; intro w hI
 refine Aa ?_
 by_cases hki : k = i
 ·refine Ac (BB (by kernel_rfl) ?_)
  refine BC (T := []) hI.drew ?_
  intro Sx hSx hXS
  replace hI := hI.drew
  refine Vs 0 (hXS _ hI) rfl (Vs 1 (hXS _ hI) rfl ?_)
  refine Ae 2 rfl rfl (by kernel_rfl) (hXS _ hI) rfl (fun W hW => have hI := hSx W hW; (by exact Uh rfl rfl rfl (by omega))) ?_
  refine Ti 3 (hXS _ hI) rfl (Vn 4 rfl (hXS _ hI) rfl (Vn 5 rfl (hXS _ hI) rfl (Vn 6 rfl (hXS _ hI) rfl (Vn 7 rfl (hXS _ hI) rfl (Vn 8 rfl (hXS _ hI) rfl (Vn 9 rfl (hXS _ hI) rfl (Vn 10 rfl (hXS _ hI) rfl (Vn 11 rfl (hXS _ hI) rfl ?_))))))))
  refine Ae 12 rfl rfl (by kernel_rfl) (hXS _ hI) rfl (fun W hW => have hI := hSx W hW; (by exact Iq rfl rfl rfl)) ?_
  refine Ti 13 (hXS _ hI) rfl (Vn 14 rfl (hXS _ hI) rfl (Vn 15 rfl (hXS _ hI) rfl (Vn 16 rfl (hXS _ hI) rfl (Vn 17 rfl (hXS _ hI) rfl (Vn 18 rfl (hXS _ hI) rfl (Vn 19 rfl (hXS _ hI) rfl (Vn 20 rfl (hXS _ hI) rfl (Vn 21 rfl (hXS _ hI) rfl (Vn 22 rfl (hXS _ hI) rfl (Vn 23 rfl (hXS _ hI) rfl (Vn 24 rfl (hXS _ hI) rfl (Vn 25 rfl (hXS _ hI) rfl (Vn 26 rfl (hXS _ hI) rfl ?_)))))))))))))
  refine Ae 27 rfl rfl (by kernel_rfl) (hXS _ hI) rfl (fun W hW => have hI := hSx W hW; (by exact Iq rfl rfl rfl)) ?_
  refine Av (by kernel_rfl) (Ad false rfl (Ah ?_))
  replace hI := hI.d0
  refine Ab (Vb rfl (V0 rfl (Aa ?_)))
  exact ⟨l.length - (k + 1), by omega, k + 1, rfl, by omega, hnext (fun e => absurd hki e), ⟨rfl, rfl, rfl, rfl, rfl, trivial⟩, hI⟩
 cases hdnk : dn k with
 | true =>
  rw [hdnk] at hdg
  refine Ac (BB (by kernel_rfl) ?_)
  refine BC (T := []) hI.drew ?_
  intro Sx hSx hXS
  replace hI := hI.drew
  refine Vs 0 (hXS _ hI) rfl (Vs 1 (hXS _ hI) rfl ?_)
  refine Ae 2 rfl rfl (by kernel_rfl) (hXS _ hI) rfl (fun W hW => have hI := hSx W hW; (by exact OI rfl rfl rfl (by omega))) ?_
  refine Ti 3 (hXS _ hI) rfl (T3 4 (hXS _ hI) rfl (T9 5 (hXS _ hI) rfl (Vq 6 4 (hXS _ hI) rfl (Vh 7 (.slice _ _ _) (hXS _ hI) rfl (fun W hW => (hSx W hW).oldp h4) (Vs 8 (hXS _ hI) rfl (Vl 9 (hXS _ hI) rfl Tryd.underlying65 rfl (Vh 10 (.bool _) (hXS _ hI) rfl (fun W hW => (hSx W hW).oldp hdg) ?_)))))))
  refine Ae 11 rfl rfl (by kernel_rfl) (hXS _ hI) rfl (fun W hW => have hI := hSx W hW; (by exact Yf rfl rfl)) ?_
  refine Ae 12 rfl rfl (by kernel_rfl) (hXS _ hI) rfl (fun W hW => have hI := hSx W hW; (by exact ER rfl rfl rfl)) ?_
  refine Ti 13 (hXS _ hI) rfl (Vn 14 rfl (hXS _ hI) rfl (Vn 15 rfl (hXS _ hI) rfl (Vn 16 rfl (hXS _ hI) rfl (Vn 17 rfl (hXS _ hI) rfl (Vn 18 rfl (hXS _ hI) rfl (Vn 19 rfl (hXS _ hI) rfl (Vn 20 rfl (hXS _ hI) rfl (Vn 21 rfl (hXS _ hI) rfl (Vn 22 rfl (hXS _ hI) rfl (Vn 23 rfl (hXS _ hI) rfl (Vn 24 rfl (hXS _ hI) rfl (Vn 25 rfl (hXS _ hI) rfl (Vn 26 rfl (hXS _ hI) rfl ?_)))))))))))))
  refine Ae 27 rfl rfl (by kernel_rfl) (hXS _ hI) rfl (fun W hW => have hI := hSx W hW; (by exact Iq rfl rfl rfl)) ?_
  refine Av (by kernel_rfl) (Ad false rfl (Ah ?_))
  replace hI := hI.d0
  refine Ab (Vb rfl (V0 rfl (Aa ?_)))
  exact ⟨l.length - (k + 1), by omega, k + 1, rfl, by omega, hnext (fun _ e => by rw [hdnk] at e; cases e), ⟨rfl, rfl, rfl, rfl, rfl, trivial⟩, hI⟩
 | false =>
  rw [hdnk] at hdg
  cases hab : ab (oAt l k) (oAt l i) with
  | true =>
   refine Ac (BB (by kernel_rfl) ?_)
   refine BC (T := []) hI.drew ?_
   intro Sx hSx hXS
   replace hI := hI.drew
   refine Vs 0 (hXS _ hI) rfl (Vs 1 (hXS _ hI) rfl ?_)
   refine Ae 2 rfl rfl (by kernel_rfl) (hXS _ hI) rfl (fun W hW => have hI := hSx W hW; (by exact OI rfl rfl rfl (by omega))) ?_
   refine Ti 3 (hXS _ hI) rfl (T3 4 (hXS _ hI) rfl (T9 5 (hXS _ hI) rfl (Vq 6 4 (hXS _ hI) rfl (Vh 7 (.slice _ _ _) (hXS _ hI) rfl (fun W hW => (hSx W hW).oldp h4) (Vs 8 (hXS _ hI) rfl (Vl 9 (hXS _ hI) rfl Tryd.underlying65 rfl (Vh 10 (.bool _) (hXS _ hI) rfl (fun W hW => (hSx W hW).oldp hdg) ?_)))))))
   refine Ae 11 rfl rfl (by kernel_rfl) (hXS _ hI) rfl (fun W hW => have hI := hSx W hW; (by exact Ug rfl rfl)) ?_
   refine Ae 12 rfl rfl (by kernel_rfl) (hXS _ hI) rfl (fun W hW => have hI := hSx W hW; (by exact ER rfl rfl rfl)) ?_
   refine Ti 13 (hXS _ hI) rfl (T3 14 (hXS _ hI) rfl (T9 15 (hXS _ hI) rfl (Vq 16 3 (hXS _ hI) rfl (Vh 17 (.func _ _ _) (hXS _ hI) rfl (fun W hW => (hSx W hW).oldp h3) ?_))))
   refine Ae 18 rfl rfl (by kernel_rfl) (hXS _ hI) rfl (fun W hW => have hI := hSx W hW; (by exact Um (n := 8) rfl (by kernel_rfl) (by kernel_rfl) rfl rfl hI.g0)) ?_
   refine T3 19 (hXS _ hI) rfl (T9 20 (hXS _ hI) rfl (Vq 21 1 (hXS _ hI) rfl (Vh 22 (.slice _ _ _) (hXS _ hI) rfl (fun W hW => (hSx W hW).oldp h1) (Vs 23 (hXS _ hI) rfl ?_))))
   refine Ae 24 rfl rfl (by kernel_rfl) (hXS _ hI) rfl (fun W hW => have hI := hSx W hW; (LV (sz := 8) rfl Tryd.underlying22 (by kernel_rfl) rfl rfl (by omega))) ?_
   refine Ae 25 rfl rfl (by kernel_rfl) (hXS _ hI) rfl (fun W hW => have hI := hSx W hW; (by exact LU (n := 8) rfl (by kernel_rfl) (by kernel_rfl) rfl (by rfl) (fun k u hk => hI.oldp (hoci k u hk)))) ?_
   refine V2 26 rfl ?_
   refine Ob rfl rfl rfl (Uq (f := f) (first := []) (cap := []) (vs := [.agg _, .agg _]) rfl rfl f1 f2 f3 rfl) ?_
   refine (hcall (oAt l k) (oAt l i) _).mono ?_
   rw [hab]
   rintro e w1 ⟨rfl, hp⟩
   refine ⟨_, rfl, ?_⟩
   replace hI := hI.pure hp
   refine Aa ⟨hXS _ hI, ?_⟩
   refine Ae 27 rfl rfl (by kernel_rfl) (hXS _ hI) rfl (fun W hW => have hI := hSx W hW; (by exact ER rfl rfl rfl)) ?_
   refine Av (by kernel_rfl) (Ad true rfl (Ac (Ab (V6 rfl (Aa ?_)))))
   refine Aj ?_
   exact Bw 4 (.inr rfl) rfl ⟨⟨false, rfl, by simp; exact fun hs => by have := hs.2 k hkl hki hdnk; rw [hab] at this; cases this⟩, hI.pu⟩
  | false =>
   refine Ac (BB (by kernel_rfl) ?_)
   refine BC (T := []) hI.drew ?_
   intro Sx hSx hXS
   replace hI := hI.drew
   refine Vs 0 (hXS _ hI) rfl (Vs 1 (hXS _ hI) rfl ?_)
   refine Ae 2 rfl rfl (by kernel_rfl) (hXS _ hI) rfl (fun W hW => have hI := hSx W hW; (by exact OI rfl rfl rfl (by omega))) ?_
   refine Ti 3 (hXS _ hI) rfl (T3 4 (hXS _ hI) rfl (T9 5 (hXS _ hI) rfl (Vq 6 4 (hXS _ hI) rfl (Vh 7 (.slice _ _ _) (hXS _ hI) rfl (fun W hW => (hSx W hW).oldp h4) (Vs 8 (hXS _ hI) rfl (Vl 9 (hXS _ hI) rfl Tryd.underlying65 rfl (Vh 10 (.bool _) (hXS _ hI) rfl (fun W hW => (hSx W hW).oldp hdg) ?_)))))))
   refine Ae 11 rfl rfl (by kernel_rfl) (hXS _ hI) rfl (fun W hW => have hI := hSx W hW; (by exact Ug rfl rfl)) ?_
   refine Ae 12 rfl rfl (by kernel_rfl) (hXS _ hI) rfl (fun W hW => have hI := hSx W hW; (by exact ER rfl rfl rfl)) ?_
   refine Ti 13 (hXS _ hI) rfl (T3 14 (hXS _ hI) rfl (T9 15 (hXS _ hI) rfl (Vq 16 3 (hXS _ hI) rfl (Vh 17 (.func _ _ _) (hXS _ hI) rfl (fun W hW => (hSx W hW).oldp h3) ?_))))
   refine Ae 18 rfl rfl (by kernel_rfl) (hXS _ hI) rfl (fun W hW => have hI := hSx W hW; (by exact Um (n := 8) rfl (by kernel_rfl) (by kernel_rfl) rfl rfl hI.g0)) ?_
   refine T3 19 (hXS _ hI) rfl (T9 20 (hXS _ hI) rfl (Vq 21 1 (hXS _ hI) rfl (Vh 22 (.slice _ _ _) (hXS _ hI) rfl (fun W hW => (hSx W hW).oldp h1) (Vs 23 (hXS _ hI) rfl ?_))))
   refine Ae 24 rfl rfl (by kernel_rfl) (hXS _ hI) rfl (fun W hW => have hI := hSx W hW; (LV (sz := 8) rfl Tryd.underlying22 (by kernel_rfl) rfl rfl (by omega))) ?_
   refine Ae 25 rfl rfl (by kernel_rfl) (hXS _ hI) rfl (fun W hW => have hI := hSx W hW; (by exact LU (n := 8) rfl (by kernel_rfl) (by kernel_rfl) rfl (by rfl) (fun k u hk => hI.oldp (hoci k u hk)))) ?_
   refine V2 26 rfl ?_
   refine Ob rfl rfl rfl (Uq (f := f) (first := []) (cap := []) (vs := [.agg _, .agg _]) rfl rfl f1 f2 f3 rfl) ?_
   refine (hcall (oAt l k) (oAt l i) _).mono ?_
   rw [hab]
   rintro e w1 ⟨rfl, hp⟩
   refine ⟨_, rfl, ?_⟩
   replace hI := hI.pure hp
   refine Aa ⟨hXS _ hI, ?_⟩
   refine Ae 27 rfl rfl (by kernel_rfl) (hXS _ hI) rfl (fun W hW => have hI := hSx W hW; (by exact ER rfl rfl rfl)) ?_
   refine Av (by kernel_rfl) (Ad false rfl (Ah ?_))
   replace hI := hI.d0
   refine Ab (Vb rfl (V0 rfl (Aa ?_)))
   exact ⟨l.length - (k + 1), by omega, k + 1, rfl, by omega, hnext (fun _ _ => hab), ⟨rfl, rfl, rfl, rfl, rfl, trivial⟩, hI⟩
def stL (L : Loc) (sts : Nat → List Int) : List Value := (List.range 8).map fun k => Value.slice (L k).1 (sts k).length (L k).2
theorem Q4 {L : Loc} {sts : Nat → List Int} {k : Nat} (hk : k < 8) : (stL L sts).toArray[k]? = some (.slice (L k).1 (sts k).length (L k).2) := by
 unfold stL
 rw [List.getElem?_toArray, List.getElem?_map, List.getElem?_range hk]
 rfl
def Cg (dn : Nat → Bool) (j : Nat) : List Nat := (List.range j).map fun i => VT (dn i)
theorem FU (dn : Nat → Bool) (j : Nat) : Cg dn (j + 1) = Cg dn j ++ [VT (dn j)] := by simp [Cg, List.range_succ]
def EO (l : List Int) (q : Nat) : List Nat := (l.take q).flatMap fun n => 32 :: Cf n
theorem M9 {l : List Int} {q : Nat} (hq : q < l.length) : EO l (q + 1) = EO l q ++ [32] ++ Cf l[q] := by
 unfold EO
 rw [List.take_succ_eq_append_getElem hq, List.flatMap_append, List.append_assoc]
 simp only [List.flatMap_cons, List.flatMap_nil, List.append_nil]
 rfl
theorem Lh (l : List Int) : EO l l.length ++ [124] = F4 l := by unfold EO F4; rw [List.take_length]
theorem Jw (sts : Nat → List Int) (k : Nat) : encS sts (List.range (k + 1)) = encS sts (List.range k) ++ F4 (sts k) := by simp [encS, List.range_succ]
theorem Lg (l : List Int) : ∀ q, (EO l q).length ≤ 16 * q := by
 intro q
 induction q with
 | zero => simp [EO]
 | succ q ih =>
  rcases Nat.lt_or_ge q l.length with h | h
  ·rw [M9 h]
   have := U6 l[q]
   simp
   omega
  ·have : EO l (q + 1) = EO l q := by unfold EO; rw [List.take_of_length_le h, List.take_of_length_le (by omega)]
   rw [this]; omega
theorem VI (l : List Int) : (F4 l).length ≤ 16 * l.length + 1 := by
 rw [← Lh]
 have := Lg l l.length
 simp
 omega
theorem VH {sts : Nat → List Int} {m : Nat} (h : ∀ k, (sts k).length ≤ m) : ∀ k, (encS sts (List.range k)).length ≤ k * (16 * m + 1) := by
 intro k
 induction k with
 | zero => simp [encS]
 | succ k ih =>
  rw [Jw, List.length_append, Nat.add_mul, Nat.one_mul]
  have h1 := VI (sts k)
  have h2 := h k
  omega
theorem Co.snoc {base c : Nat} {A : Option Addr} {l : List Nat} {b : Nat} : Co base A c (l ++ [b]) = Row base 5 1 A (l.length + 1) c (IR l ++ [.int .u8 (b : Int)]) := by
 unfold Co
 rw [Ls, List.length_append]
 rfl
theorem Aaa {P : Program} {ρ : Env} {oo : Oper} {w : World} {x y : Operand} {t t' : TypeId} {a b : Nat} (ho : oo.op = .binOp .mul t x y t') (hx : ev ρ x = .int .i64 (a : Int)) (hy : ev ρ y = .int .i64 (b : Int)) (h : a * b ≤ 9223372036854775807) : Ar P ρ oo w (.int .i64 ((a * b : Nat) : Int)) := by
 have hn : (0 : Int) ≤ (a : Int) * (b : Int) := by rw [← Int.natCast_mul]; omega
 have hm : (a : Int) * (b : Int) ≤ 9223372036854775807 := by rw [← Int.natCast_mul]; omega
 have := AaC (P := P) (w := w) ho hx hy ⟨by omega, hm⟩
 rwa [← Int.natCast_mul] at this
set_option maxHeartbeats 4000000 in
theorem TY (sb : Nat) (A : Option Addr) (c n db : Nat) (dn : Nat → Bool) (L : Loc) (sts : Nat → List Int) (w0 : World) (h1 : w0.cell? ⟨sb, 1, none⟩ = some (.slice A n c)) (h4 : w0.cell? ⟨sb, 4, none⟩ = some (.slice (some ⟨db, 0, none⟩) n n)) (hd : Blk w0 db 4 (BD n dn))
  (h6 : ∀ (j : Nat) (u : Value), (stL L sts)[j]? = some u → w0.cell? ⟨sb, 6 + j, none⟩ = some u) (hst : ∀ k, k < 8 → Rd w0 (fun _ => True) 1 (.slice (L k).1 (sts k).length (L k).2) (sts k).length (Ba (sts k))) (hn : n ≤ 100) (hi : ∀ k, ∀ x ∈ sts k, Eg x) (hlen : ∀ k, (sts k).length ≤ 100) :
  Calls Tryd.prog 45 #[.pointer (some ⟨sb, 0, none⟩)] w0 fun en w' => en = .returned (.string (EE (FQ n dn sts))) ∧ Pure w0 w' := by
 have hI := Inv.start (fun _ => False) w0
 refine Vx Tryd.f45.ntmps Tryd.func45 rfl ?_
 refine Ac (Ab ?_)
 refine Af rfl rfl rfl (by exact Iu rfl rfl) ?_
 refine Aa (Ac (Ab (T8 rfl (Td rfl (V7 1 rfl (V3 (.slice _ _ _) rfl (hI.oldp h1) (Vi rfl Tryd.underlying22 rfl ?_)))))))
 refine Af rfl rfl rfl (Aaa (a := 2) (b := n) rfl rfl rfl (by omega)) ?_
 refine We (zv := .int .u8 0) (by_ := 1) (base := 0) hI rfl rfl rfl rfl rfl rfl Tryd.underlying113 (by kernel_rfl) (by omega) (by omega) (Nat.zero_le _) ?_
 clear hI; rintro b16 w _ _ hI
 refine Vf rfl (Aa ?_)
 replace hI : Inv (fun _ => False) w0 w [Co 0 (some ⟨b16, 0, none⟩) (2 * n) (Cg dn 0)] := hI
 refine Bt (fun ρ w => ∃ (A3 : Option Addr) (c3 : Nat), Has ρ [(3, .slice A3 (Cg dn n).length c3), (0, .pointer (some ⟨sb, 0, none⟩))] ∧ Inv (fun _ => False) w0 w [Co 0 A3 c3 (Cg dn n)]) ?_ ?_
 ·refine Ac (Ab (T8 rfl (Td rfl (V7 4 rfl (V3 (.slice _ _ _) rfl (hI.oldp h4) (Vi rfl Tryd.underlying65 rfl (V0 rfl (Aa (Al ?_)))))))))
  refine Ce (fun mu ρ w => ∃ (k : Nat) (A3 : Option Addr) (c3 : Nat), mu = n - k ∧ k ≤ n ∧ Has ρ [(22, .int .i64 (k : Int)), (21, .int .i64 (n : Int)), (20, .slice (some ⟨db, 0, none⟩) n n), (3, .slice A3 (Cg dn k).length c3), (0, .pointer (some ⟨sb, 0, none⟩))] ∧ Inv (fun _ => False) w0 w [Co 0 A3 c3 (Cg dn k)]) n
   ⟨0, _, _, rfl, by omega, ⟨rfl, rfl, rfl, rfl, rfl, trivial⟩, hI⟩ ?_
  clear hI
  rintro mu ρ w ⟨k, A3, c3, rfl, hk, hH, hI⟩
  obtain ⟨σ, rfl⟩ := hH.open
  have hbl : (Cg dn k).length = k := by simp [Cg]
  by_cases hkn : k < n
  rotate_left
  ·obtain rfl : k = n := by omega
   refine Ac (Ab (Vo rfl (Aa (Ac (Ad false rfl ?_)))))
   refine BG ?_
   exact ⟨A3, c3, ⟨rfl, rfl, trivial⟩, hI⟩
  have hdg := (hd.cell k).trans (ED (n := n) dn hkn)
  cases hdn : dn k with
  | true =>
   rw [hdn] at hdg
   refine Ac (Ab (Vt rfl (Aa (Ac (Ad true rfl (Ah (Ac (Al (Ac (Ab (Tb rfl Tryd.underlying65 rfl (V3 (.bool _) rfl (hI.oldp hdg) (V6 rfl ?_)))))))))))))
   refine Aa (Ac (Ab (V5 rfl (Aa (Ad true rfl (Ab (V8 rfl (Vm [(0, .int .u8 _)] [_] [.int .u8 0] [0] hI rfl Tryd.underlying113 (fun _ => by kernel_rfl) ?_))))))))
   clear hI; rintro b28 w - - hI
   refine Eb (z := .int .u8 0) (by_ := 1) hI rfl rfl rfl rfl rfl rfl Tryd.underlying113 (by kernel_rfl) rfl (by omega) (by rfl) hI.lit0 (by rfl) (by omega) (by omega) (by exact Nat.zero_le _) ?_
   clear hI; rintro A29 c29 w hA29 hc29 hI
   replace hI := hI.d0
   refine Vf rfl (Aa ?_)
   replace hI : Inv (fun _ => False) w0 w [Co 0 A29 c29 (Cg dn (k + 1))] := by
    rw [FU, hdn, Co.snoc]; exact hI
   refine Ab (Vb rfl (V0 rfl (Aa ?_)))
   exact ⟨n - (k + 1), by omega, k + 1, A29, c29, rfl, by omega, ⟨rfl, rfl, rfl, by rw [FU, List.length_append]; rfl, rfl, trivial⟩, hI⟩
  | false =>
   rw [hdn] at hdg
   refine Ac (Ab (Vt rfl (Aa (Ac (Ad true rfl (Ah (Ac (Al (Ac (Ab (Tb rfl Tryd.underlying65 rfl (V3 (.bool _) rfl (hI.oldp hdg) (V6 rfl ?_)))))))))))))
   refine Aa (Ac (Ab (V5 rfl (Aa (Ad false rfl (Ab (V8 rfl (Vm [(0, .int .u8 _)] [_] [.int .u8 0] [0] hI rfl Tryd.underlying113 (fun _ => by kernel_rfl) ?_))))))))
   clear hI; rintro b31 w - - hI
   refine Eb (z := .int .u8 0) (by_ := 1) hI rfl rfl rfl rfl rfl rfl Tryd.underlying113 (by kernel_rfl) rfl (by omega) (by rfl) hI.lit0 (by rfl) (by omega) (by omega) (by exact Nat.zero_le _) ?_
   clear hI; rintro A32 c32 w hA32 hc32 hI
   replace hI := hI.d0
   refine Vf rfl (Aa ?_)
   replace hI : Inv (fun _ => False) w0 w [Co 0 A32 c32 (Cg dn (k + 1))] := by
    rw [FU, hdn, Co.snoc]; exact hI
   refine Ab (Vb rfl (V0 rfl (Aa ?_)))
   exact ⟨n - (k + 1), by omega, k + 1, A32, c32, rfl, by omega, ⟨rfl, rfl, rfl, by rw [FU, List.length_append]; rfl, rfl, trivial⟩, hI⟩
 clear hI
 rintro ρ w ⟨A3, c3, hH, hI⟩
 obtain ⟨σ, rfl⟩ := hH.open
 have hbl : (Cg dn n).length = n := by simp [Cg]
 refine Bt (fun ρ w => ∃ (A3 : Option Addr) (c3 : Nat), Has ρ [(3, .slice A3 (FQ n dn sts).length c3)] ∧ Inv (fun _ => False) w0 w [Co 0 A3 c3 (FQ n dn sts)]) ?_ ?_
 ·refine Ac (Ab (T8 rfl (Td rfl (V7 6 rfl (Tj 8 rfl (by rfl) (fun k u hk => hI.oldp (h6 k u hk)) (V0 rfl (Aa (Al ?_))))))))
  refine Ce (fun mu ρ w => ∃ (k : Nat) (A3 : Option Addr) (c3 : Nat), mu = 8 - k ∧ k ≤ 8 ∧ Has ρ [(38, .int .i64 (k : Int)), (37, .agg (stL L sts).toArray), (3, .slice A3 (Cg dn n ++ encS sts (List.range k)).length c3)] ∧ Inv (fun _ => False) w0 w [Co 0 A3 c3 (Cg dn n ++ encS sts (List.range k))]) 8
   ⟨0, A3, c3, rfl, by omega, ⟨rfl, rfl, by simp [encS]; rfl, trivial⟩, by simp only [encS, List.range_zero, List.flatMap_nil, List.append_nil]; exact hI⟩ ?_
  clear hI
  rintro mu ρ w ⟨k, A3, c3, rfl, hk, hH, hI⟩
  obtain ⟨σ, rfl⟩ := hH.open
  by_cases hk8 : k < 8
  rotate_left
  ·obtain rfl : k = 8 := by omega
   refine Ac (Ab (Vo rfl (Aa (Ac (Ad false rfl ?_)))))
   refine BG ?_
   exact ⟨A3, c3, ⟨rfl, trivial⟩, hI⟩
  refine Ac (Ab (Vt rfl (Aa (Ac (Ad true rfl (Ah (Ac (Al (Ac (Ab ?_))))))))))
  refine Af rfl rfl rfl (YY rfl Tryd.underlying69 (by kernel_rfl) (by kernel_rfl) rfl rfl (by omega) (Q4 hk8)) ?_
  refine Vf rfl (Aa ?_)
  have hrd := hst k hk8
  have hel := VH hlen k
  have hlk := hlen k
  have hk16 : k * (16 * 100 + 1) ≤ 8 * (16 * 100 + 1) := Nat.mul_le_mul_right _ hk
  generalize (L k).1 = Ak at hrd ⊢
  generalize (L k).2 = ck at hrd ⊢
  refine Bt (fun ρ w => ∃ (A3 : Option Addr) (c3 : Nat), Has ρ [(38, .int .i64 (k : Int)), (37, .agg (stL L sts).toArray), (3, .slice A3 (Cg dn n ++ encS sts (List.range k) ++ EO (sts k) (sts k).length).length c3)] ∧ Inv (fun _ => False) w0 w [Co 0 A3 c3 (Cg dn n ++ encS sts (List.range k) ++ EO (sts k) (sts k).length)]) ?_ ?_
  ·refine Ac (Ab (V8 rfl (Vi rfl Tryd.underlying24 rfl (V0 rfl (Aa (Al ?_))))))
   refine Ce (fun mu ρ w => ∃ (q : Nat) (A3 : Option Addr) (c3 : Nat), mu = (sts k).length - q ∧ q ≤ (sts k).length ∧ Has ρ [(43, .int .i64 (q : Int)), (42, .int .i64 ((sts k).length : Int)), (41, .slice Ak (sts k).length ck), (38, .int .i64 (k : Int)), (37, .agg (stL L sts).toArray), (3, .slice A3 (Cg dn n ++ encS sts (List.range k) ++ EO (sts k) q).length c3)] ∧ Inv (fun _ => False) w0 w [Co 0 A3 c3 (Cg dn n ++ encS sts (List.range k) ++ EO (sts k) q)]) (sts k).length
    ⟨0, A3, c3, rfl, by omega, ⟨rfl, rfl, rfl, rfl, rfl, by simp [EO]; rfl, trivial⟩, by simp only [EO, List.take_zero, List.flatMap_nil, List.append_nil]; exact hI⟩ ?_
   clear hI
   rintro mu ρ w ⟨q, A3, c3, rfl, hq, hH, hI⟩
   obtain ⟨σ, rfl⟩ := hH.open
   by_cases hql : q < (sts k).length
   rotate_left
   ·obtain rfl : q = (sts k).length := by omega
    refine Ac (Ab (Vo rfl (Aa (Ac (Ad false rfl ?_)))))
    refine BG ?_
    exact ⟨A3, c3, ⟨rfl, rfl, rfl, trivial⟩, hI⟩
   have hi0 : (Ba (sts k))[q]? = some (.int .i64 ((sts k)[q]'hql)) := by simp [Ba, hql]
   obtain ⟨ob, oo, rfl, _, _, hcell⟩ := hrd.get hi0 (by omega)
   have hi64 := hi k _ (List.getElem_mem hql)
   have hql16 := Lg (sts k) q
   have hsucc := M9 hql
   generalize (sts k)[q]'hql = z at hcell hi64 hsucc
   have htot : (Cg dn n ++ encS sts (List.range k) ++ EO (sts k) q).length ≤ 20000 := by
    rw [List.length_append, List.length_append]; omega
   generalize hX : Cg dn n ++ encS sts (List.range k) ++ EO (sts k) q = X at hI htot
   refine Ac (Ab (Vt rfl (Aa (Ac (Ad true rfl (Ah (Ac (Al (Ac (Ab ?_))))))))))
   refine Af rfl rfl rfl (by exact Dz rfl Tryd.underlying24 (by kernel_rfl) rfl rfl (by omega)) ?_
   refine V3 (.int .i64 _) rfl (hI.oldp hcell) (V9 rfl (Aa (Ab (V8 rfl (Vm [(0, .int .u8 _)] [_] [.int .u8 0] [0] hI rfl Tryd.underlying113 (fun _ => by kernel_rfl) ?_)))))
   clear hI; rintro b48 w - - hI
   refine Eb (z := .int .u8 0) (by_ := 1) hI rfl rfl rfl rfl rfl rfl Tryd.underlying113 (by kernel_rfl) rfl (by omega) (by rfl) hI.lit0 (by rfl) (by omega) (by omega) (by exact Nat.zero_le _) ?_
   clear hI; rintro A49 c49 w hA49 hc49 hI
   replace hI := hI.d0
   refine V0 rfl (Va [.slice _ _ _, .int .i64 _, .int .i64 _] rfl Tryd.func58 rfl ?_)
   replace hI : Inv (fun _ => False) w0 w [Co 0 A49 c49 (X ++ [32])] := by
    rw [Co.snoc]; exact hI
   refine Calls.mono (by have h := VW 0 A49 c49 (X ++ [32]) z _ (hI.ok _ (by simp)) hi64 (by simp; omega) (Nat.zero_le _); rw [List.length_append] at h; exact h) ?_
   rintro e w1 ⟨A', c', rfl, hT⟩
   refine ⟨_, rfl, ?_⟩
   replace hI := hI.turn1 hT
   refine Vf rfl (Aa (Ab (Vb rfl (V0 rfl (Aa ?_)))))
   have eX : Cg dn n ++ encS sts (List.range k) ++ EO (sts k) (q + 1) = X ++ [32] ++ Cf z := by rw [hsucc, ← hX]; simp
   exact ⟨(sts k).length - (q + 1), by omega, q + 1, A', c', rfl, by omega, ⟨rfl, rfl, rfl, rfl, rfl, by rw [eX]; rfl, trivial⟩, by rw [eX]; exact hI⟩
  clear hI
  rintro ρ w ⟨A3, c3, hH, hI⟩
  obtain ⟨σ, rfl⟩ := hH.open
  have hq16 := Lg (sts k) (sts k).length
  have htot : (Cg dn n ++ encS sts (List.range k) ++ EO (sts k) (sts k).length).length ≤ 20000 := by
   rw [List.length_append, List.length_append]; omega
  have eX : Cg dn n ++ encS sts (List.range k) ++ EO (sts k) (sts k).length ++ [124] = Cg dn n ++ encS sts (List.range (k + 1)) := by rw [Jw, ← Lh]; simp
  generalize hX : Cg dn n ++ encS sts (List.range k) ++ EO (sts k) (sts k).length = X at hI htot eX
  refine Ab (V8 rfl (Vm [(0, .int .u8 _)] [_] [.int .u8 0] [0] hI rfl Tryd.underlying113 (fun _ => by kernel_rfl) ?_))
  clear hI; rintro b54 w - - hI
  refine Eb (z := .int .u8 0) (by_ := 1) hI rfl rfl rfl rfl rfl rfl Tryd.underlying113 (by kernel_rfl) rfl (by omega) (by rfl) hI.lit0 (by rfl) (by omega) (by omega) (by exact Nat.zero_le _) ?_
  clear hI; rintro A55 c55 w hA55 hc55 hI
  replace hI := hI.d0
  refine Vf rfl (Aa ?_)
  replace hI : Inv (fun _ => False) w0 w [Co 0 A55 c55 (Cg dn n ++ encS sts (List.range (k + 1)))] := by
   rw [← eX, Co.snoc]; exact hI
  refine Ab (Vb rfl (V0 rfl (Aa ?_)))
  exact ⟨8 - (k + 1), by omega, k + 1, A55, c55, rfl, by omega, ⟨rfl, rfl, by rw [← eX, List.length_append]; rfl, trivial⟩, hI⟩
 clear hI
 rintro ρ w ⟨A3, c3, hH, hI⟩
 obtain ⟨σ, rfl⟩ := hH.open
 have hpos : 0 < (FQ n dn sts).length := by
  unfold FQ
  rw [List.length_append, Jw sts 7, List.length_append, ← Lh]
  simp
  omega
 refine Ac (Ab (V8 rfl ?_))
 refine Af rfl rfl rfl (R8 rfl Tryd.underlying113 Tryd.underlying5 Tryd.underlying9 rfl hI.g0 (La n dn sts) hpos) ?_
 refine Af rfl rfl rfl (by exact Iu rfl rfl) ?_
 refine Aa ?_
 refine Aj ?_
 exact Bw 2 (.inr rfl) rfl ⟨rfl, hI.pu⟩
end Go.Proofs.YtkkmokodaejheaaDoor
namespace Go.Proofs.YtkkmokodaejheaaDoor
structure SSt where
 dn : Nat → Bool
 sts : Nat → List Int
 ord : List Int
 ent : List (List Nat)
def BM (dn : Nat → Bool) (i : Nat) (b : Bool) : Nat → Bool := fun x => if x = i then b else dn x
def BP (sts : Nat → List Int) (k : Nat) (st : List Int) : Nat → List Int := fun j => if j = k then st else sts j
def GN (l : List Op8) (dn : Nat → Bool) : Bool := (List.range l.length).all fun i => !decide (0 ≤ (oAt l i).ret) || dn i
def Fz (l : List Op8) (ab : Op8 → Op8 → Bool) (dn : Nat → Bool) (i : Nat) : Bool := !dn i && (List.range l.length).all fun k => k == i || dn k || !ab (oAt l k) (oAt l i)
def Fe (l : List Op8) (i : Nat) : Nat := (oAt l i).key.toNat
def goF (o : Int) (l : List Op8) (sts : Nat → List Int) (i : Nat) : Option (List Int) := match BR o (sts (Fe l i)) (oAt l i).kind (oAt l i).a (oAt l i).b with
 | none => none
 | some (st', r) => if (oAt l i).ret ≠ -1 ∧ r ≠ (oAt l i).res then none else some st'
def CZ (l : List Op8) (s : SSt) (i : Nat) (st' : List Int) : SSt := ⟨BM s.dn i true, BP s.sts (Fe l i) st', s.ord ++ [(i : Int)], s.ent⟩
def Bu (o : Int) (l : List Op8) (ab : Op8 → Op8 → Bool) (rec : SSt → Int × SSt) : List Nat → SSt → Int × SSt
 | [], s => (2, s)
 | i :: r, s => match Fz l ab s.dn i with
  | false => Bu o l ab rec r s
  | true => match goF o l s.sts i with
   | none => Bu o l ab rec r s
   | some st' => if (rec (CZ l s i st')).1 = 2 then Bu o l ab rec r ⟨s.dn, s.sts, s.ord, (rec (CZ l s i st')).2.ent⟩ else rec (CZ l s i st')
section
variable {o : Int} {l : List Op8} {ab : Op8 → Op8 → Bool} {rec : SSt → Int × SSt} {i : Nat} {r : List Nat} {s : SSt} {st' : List Int}
theorem K7 (h : Fz l ab s.dn i = false) : Bu o l ab rec (i :: r) s = Bu o l ab rec r s := by rw [Bu, h]
theorem K8 (h : Fz l ab s.dn i = true) (hg : goF o l s.sts i = none) : Bu o l ab rec (i :: r) s = Bu o l ab rec r s := by rw [Bu, h, hg]
theorem O1 (h : Fz l ab s.dn i = true) (hg : goF o l s.sts i = some st') (h2 : (rec (CZ l s i st')).1 = 2) : Bu o l ab rec (i :: r) s = Bu o l ab rec r ⟨s.dn, s.sts, s.ord, (rec (CZ l s i st')).2.ent⟩ := by rw [Bu, h, hg]; exact if_pos h2
theorem MN (h : Fz l ab s.dn i = true) (hg : goF o l s.sts i = some st') (h2 : (rec (CZ l s i st')).1 ≠ 2) : Bu o l ab rec (i :: r) s = rec (CZ l s i st') := by rw [Bu, h, hg]; exact if_neg h2
end
def Gd (l : List Op8) (s : SSt) : SSt := ⟨s.dn, s.sts, s.ord, s.ent ++ [FQ l.length s.dn s.sts]⟩
def AX (o : Int) (l : List Op8) (ab : Op8 → Op8 → Bool) (bud : Nat) : Nat → SSt → Int × SSt
 | 0, s => (2, s)
 | f + 1, s => match GN l s.dn with
  | true => (1, s)
  | false => if FQ l.length s.dn s.sts ∈ s.ent then (2, s) else if s.ent.length = bud then (3, s) else Bu o l ab (AX o l ab bud f) (List.range l.length) (Gd l s)
section
variable {o : Int} {l : List Op8} {ab : Op8 → Op8 → Bool} {bud f : Nat} {s : SSt}
theorem Hu (h : GN l s.dn = true) : AX o l ab bud (f + 1) s = (1, s) := by rw [AX, h]
theorem Ht (h : GN l s.dn = false) (hk : FQ l.length s.dn s.sts ∈ s.ent) : AX o l ab bud (f + 1) s = (2, s) := by rw [AX, h]; exact if_pos hk
theorem Gp (h : GN l s.dn = false) (hk : FQ l.length s.dn s.sts ∉ s.ent) (hb : s.ent.length = bud) : AX o l ab bud (f + 1) s = (3, s) := by rw [AX, h]; exact (if_neg hk).trans (if_pos hb)
theorem Jv (h : GN l s.dn = false) (hk : FQ l.length s.dn s.sts ∉ s.ent) (hb : s.ent.length ≠ bud) : AX o l ab bud (f + 1) s = Bu o l ab (AX o l ab bud f) (List.range l.length) (Gd l s) := by rw [AX, h]; exact (if_neg hk).trans (if_neg hb)
end
def BJ (o : Int) : SSt := ⟨fun _ => false, fun k => if k < 8 then Bi o else [], [], []⟩
def Bj (o : Int) (l : List Op8) (ab : Op8 → Op8 → Bool) (bud : Nat) : Int × SSt := AX o l ab bud (l.length + 1) (BJ o)
def Lr (n : Nat) (dn : Nat → Bool) : Nat := (List.range n).countP dn
def Ei (n : Nat) (dn : Nat → Bool) : Nat := (List.range n).countP fun i => !dn i
theorem Lm (n : Nat) (dn : Nat → Bool) : Lr n dn + Ei n dn = n := by
 unfold Lr Ei
 induction n with
 | zero => rfl
 | succ n ih =>
  rw [List.range_succ, List.countP_append, List.countP_append]
  cases h : dn n <;> simp [h] at ih ⊢ <;> omega
theorem VM {n i : Nat} {dn : Nat → Bool} {b : Bool} (h : n ≤ i) : Lr n (BM dn i b) = Lr n dn := by
 unfold Lr
 refine List.countP_congr fun x hx => ?_
 have := List.mem_range.1 hx
 unfold BM
 rw [if_neg (by omega)]
theorem Lp : ∀ {n i : Nat} {dn : Nat → Bool}, i < n → dn i = false → Lr n (BM dn i true) = Lr n dn + 1
 | 0, _, _, h, _ => by omega
 | n + 1, i, dn, h, hd => by
  unfold Lr
  rw [List.range_succ, List.countP_append, List.countP_append]
  by_cases hi : i = n
  ·subst hi
   have := VM (n := i) (i := i) (dn := dn) (b := true) (Nat.le_refl _)
   unfold Lr at this
   rw [this]
   simp [BM, hd]
  ·have := Lp (n := n) (i := i) (dn := dn) (by omega) hd
   unfold Lr at this
   rw [this]
   have e : BM dn i true n = dn n := by unfold BM; rw [if_neg (Ne.symm hi)]
   simp [e]
   omega
theorem Kw {n i : Nat} {dn : Nat → Bool} (h : i < n) (hd : dn i = false) : Ei n (BM dn i true) + 1 = Ei n dn := by
 have h1 := Lm n dn
 have h2 := Lm n (BM dn i true)
 have h3 := Lp h hd
 omega
theorem IE {l : List Op8} {ab : Op8 → Op8 → Bool} {dn : Nat → Bool} {i : Nat} (h : Fz l ab dn i = true) : dn i = false := by
 unfold Fz at h
 simp at h
 exact h.1
section
variable {o : Int} {l : List Op8} {ab : Op8 → Op8 → Bool}
theorem II {rec : SSt → Int × SSt} {B : Nat} (hrec : ∀ s, s.ent.length ≤ B → (rec s).2.ent.length ≤ B) : ∀ (r : List Nat) (s : SSt), s.ent.length ≤ B → (Bu o l ab rec r s).2.ent.length ≤ B
 | [], s, h => h
 | i :: r, s, h => by
  unfold Bu
  split
  ·exact II hrec r s h
  ·split
   ·exact II hrec r s h
   ·split
    ·exact II hrec r _ (hrec _ h)
    ·exact hrec _ h
theorem M8 {bud : Nat} : ∀ (f : Nat) (s : SSt), s.ent.length ≤ bud → (AX o l ab bud f s).2.ent.length ≤ bud
 | 0, s, h => h
 | f + 1, s, h => by
  unfold AX
  split
  ·exact h
  ·split
   ·exact h
   ·split
    ·exact h
    ·refine II (M8 f) _ _ ?_
     simp [Gd]
     omega
def tT : Nat → Nat
 | 0 => 1
 | m + 1 => 1 + (m + 1) * tT m
theorem YE : ∀ m, 1 ≤ tT m
 | 0 => Nat.le_refl _
 | m + 1 => by unfold tT; omega
theorem Jp {rec : SSt → Int × SSt} {m : Nat} (hrec : ∀ s, Ei l.length s.dn = m → (rec s).2.ent.length ≤ s.ent.length + tT m) : ∀ (r : List Nat) (s : SSt), (∀ i ∈ r, i < l.length) → Ei l.length s.dn = m + 1 → (Bu o l ab rec r s).2.ent.length ≤ s.ent.length + r.countP (fun i => !s.dn i) * tT m
 | [], s, _, h => by simp [Bu]
 | i :: r, s, hr, h => by
  have ih := Jp (rec := rec) (m := m) hrec r s (fun j hj => hr j (by simp [hj])) h
  have hle : r.countP (fun i => !s.dn i) * tT m ≤ (i :: r).countP (fun i => !s.dn i) * tT m := Nat.mul_le_mul_right _ (by rw [List.countP_cons]; omega)
  unfold Bu
  split
  ·omega
  ·rename_i hx
   split
   ·omega
   ·rename_i st' hg
    have hd := IE hx
    have hu := Kw (n := l.length) (hr i (by simp)) hd
    have h1 := hrec (CZ l s i st') (by show Ei l.length (BM s.dn i true) = m; omega)
    have h1 : (rec (CZ l s i st')).2.ent.length ≤ s.ent.length + tT m := h1
    have e : (i :: r).countP (fun i => !s.dn i) * tT m = r.countP (fun i => !s.dn i) * tT m + tT m := by
     rw [List.countP_cons]
     simp [hd, Nat.add_mul]
    split
    ·have h2 := Jp (rec := rec) (m := m) hrec r ⟨s.dn, s.sts, s.ord, (rec (CZ l s i st')).2.ent⟩ (fun j hj => hr j (by simp [hj])) h
     simp only at h2
     omega
    ·omega
theorem Jq {rec : SSt → Int × SSt} : ∀ (r : List Nat) (s : SSt), (∀ i ∈ r, s.dn i = true) → Bu o l ab rec r s = (2, s)
 | [], s, _ => rfl
 | i :: r, s, h => by
  unfold Bu
  split
  ·exact Jq r s fun j hj => h j (by simp [hj])
  ·rename_i hx
   have := IE hx
   rw [h i (by simp)] at this
   cases this
theorem Me {n : Nat} {dn : Nat → Bool} (h : Ei n dn = 0) : ∀ i ∈ List.range n, dn i = true := by
 unfold Ei at h
 rw [List.countP_eq_zero] at h
 intro i hi
 simpa using h i hi
theorem Ld {bud : Nat} : ∀ (f : Nat) (s : SSt), (AX o l ab bud f s).2.ent.length ≤ s.ent.length + tT (Ei l.length s.dn)
 | 0, s => Nat.le_add_right _ _
 | f + 1, s => by
  unfold AX
  split
  ·exact Nat.le_add_right _ _
  ·split
   ·exact Nat.le_add_right _ _
   ·split
    ·exact Nat.le_add_right _ _
    ·cases hm : Ei l.length s.dn with
     | zero =>
      rw [Jq _ (Gd l s) (Me hm)]
      simp [Gd, tT]
     | succ m =>
      have h := Jp (o := o) (ab := ab) (rec := AX o l ab bud f) (m := m) (fun s hs => by rw [← hs]; exact Ld f s) (List.range l.length) (Gd l s) (fun i hi => List.mem_range.1 hi) hm
      have e : (List.range l.length).countP (fun i => !(Gd l s).dn i) = m + 1 := hm
      rw [e] at h
      have e2 : (Gd l s).ent.length = s.ent.length + 1 := by simp [Gd]
      rw [e2] at h
      show _ ≤ s.ent.length + (1 + (m + 1) * tT m)
      omega
theorem Ho {rec : SSt → Int × SSt} {m B : Nat} (hsz : ∀ s, Ei l.length s.dn = m → (rec s).2.ent.length ≤ s.ent.length + tT m) (hrec : ∀ s, Ei l.length s.dn = m → s.ent.length + tT m ≤ B → (rec s).1 ≠ 3) : ∀ (r : List Nat) (s : SSt), (∀ i ∈ r, i < l.length) → Ei l.length s.dn = m + 1 → s.ent.length + r.countP (fun i => !s.dn i) * tT m ≤ B → (Bu o l ab rec r s).1 ≠ 3
 | [], s, _, h, _ => by simp [Bu]
 | i :: r, s, hr, h, hB => by
  have hle : r.countP (fun i => !s.dn i) * tT m ≤ (i :: r).countP (fun i => !s.dn i) * tT m := Nat.mul_le_mul_right _ (by rw [List.countP_cons]; omega)
  have ih := Ho hsz hrec r s (fun j hj => hr j (by simp [hj])) h (by omega)
  unfold Bu
  split
  ·exact ih
  ·rename_i hx
   split
   ·exact ih
   ·rename_i st' hg
    have hd := IE hx
    have hu := Kw (n := l.length) (hr i (by simp)) hd
    have h1 : (rec (CZ l s i st')).2.ent.length ≤ s.ent.length + tT m := hsz (CZ l s i st') (by show Ei l.length (BM s.dn i true) = m; omega)
    have e : (i :: r).countP (fun i => !s.dn i) * tT m = r.countP (fun i => !s.dn i) * tT m + tT m := by
     rw [List.countP_cons]
     simp [hd, Nat.add_mul]
    split
    ·exact Ho hsz hrec r ⟨s.dn, s.sts, s.ord, (rec (CZ l s i st')).2.ent⟩ (fun j hj => hr j (by simp [hj])) h (by simp only; omega)
    ·exact hrec _ (by show Ei l.length (BM s.dn i true) = m; omega) (by show s.ent.length + tT m ≤ B; omega)
theorem JX {bud : Nat} : ∀ (f : Nat) (s : SSt), s.ent.length + tT (Ei l.length s.dn) ≤ bud → (AX o l ab bud f s).1 ≠ 3
 | 0, s, _ => by simp [AX]
 | f + 1, s, h => by
  have hp := YE (Ei l.length s.dn)
  unfold AX
  split
  ·simp
  ·split
   ·simp
   ·rw [if_neg (by omega)]
    cases hm : Ei l.length s.dn with
    | zero => rw [Jq _ (Gd l s) (Me hm)]; simp
    | succ m =>
     refine Ho (m := m) (B := bud) (fun s hs => by rw [← hs]; exact Ld f s) (fun s hs hB => JX f s (by rw [hs]; exact hB)) (List.range l.length) (Gd l s) (fun i hi => List.mem_range.1 hi) hm ?_
     have e : (List.range l.length).countP (fun i => !(Gd l s).dn i) = m + 1 := hm
     rw [e]
     have e2 : (Gd l s).ent.length = s.ent.length + 1 := by simp [Gd]
     rw [e2]
     rw [hm] at h
     have : s.ent.length + (1 + (m + 1) * tT m) ≤ bud := h
     omega
theorem Kv (n : Nat) : Ei n (fun _ => false) = n := by simp [Ei]
theorem WB (b : Nat) : tT b ≤ tT (b + 1) := by
 have h2 : tT b ≤ (b + 1) * tT b := Nat.le_mul_of_pos_left _ (by omega)
 have h3 : tT (b + 1) = 1 + (b + 1) * tT b := rfl
 omega
theorem WC {a b : Nat} (h : a ≤ b) : tT a ≤ tT b := by
 induction b with
 | zero =>
  obtain rfl : a = 0 := by omega
  exact Nat.le_refl _
 | succ b ih =>
  rcases Nat.lt_or_ge a (b + 1) with h1 | h1
  ·exact Nat.le_trans (ih (by omega)) (WB b)
  ·obtain rfl : a = b + 1 := by omega
   exact Nat.le_refl _
theorem PU {bud : Nat} (hl : l.length ≤ 8) (hb : 109601 ≤ bud) : (Bj o l ab bud).1 ≠ 3 := by
 refine JX _ _ ?_
 have h1 : Ei l.length (BJ o).dn = l.length := Kv l.length
 rw [h1]
 have h2 := WC hl
 have h3 : tT 8 = 109601 := by decide
 have : (BJ o).ent.length = 0 := rfl
 omega
theorem GK {rec : SSt → Int × SSt} (hrec : ∀ s, (rec s).1 = 1 ∨ (rec s).1 = 2 ∨ (rec s).1 = 3) : ∀ (r : List Nat) (s : SSt), (Bu o l ab rec r s).1 = 1 ∨ (Bu o l ab rec r s).1 = 2 ∨ (Bu o l ab rec r s).1 = 3
 | [], s => .inr (.inl rfl)
 | i :: r, s => by
  unfold Bu
  split
  ·exact GK hrec r s
  ·split
   ·exact GK hrec r s
   ·split
    ·exact GK hrec r _
    ·exact hrec _
theorem Lf {bud : Nat} : ∀ (f : Nat) (s : SSt), (AX o l ab bud f s).1 = 1 ∨ (AX o l ab bud f s).1 = 2 ∨ (AX o l ab bud f s).1 = 3
 | 0, s => .inr (.inl rfl)
 | f + 1, s => by
  unfold AX
  split
  ·exact .inl rfl
  ·split
   ·exact .inr (.inl rfl)
   ·split
    ·exact .inr (.inr rfl)
    ·exact GK (Lf f) _ _
end
structure Gv (l : List Op8) : Prop where
 key : ∀ i, i < l.length → 0 ≤ (oAt l i).key ∧ (oAt l i).key < 8
 a : ∀ i, i < l.length → Eg (oAt l i).a
 b : ∀ i, i < l.length → Eg (oAt l i).b
 ret : ∀ i, i < l.length → (oAt l i).ret = -1 ∨ 0 ≤ (oAt l i).ret
theorem Gv.Fe {l : List Op8} (h : Gv l) {i : Nat} (hi : i < l.length) : Fe l i < 8 := by
 have := h.key i hi
 unfold Go.Proofs.YtkkmokodaejheaaDoor.Fe
 omega
structure GoodS (o : Int) (n : Nat) (dn : Nat → Bool) (sts : Nat → List Int) : Prop where
 dnOut : ∀ i, n ≤ i → dn i = false
 stOut : ∀ k, 8 ≤ k → sts k = []
 i64 : ∀ k, ∀ x ∈ sts k, Eg x
 ok : ∀ k, OW o (sts k)
 len : ∀ k, (sts k).length ≤ Lr n dn + 1
theorem RD (z : Int) : Eg (IntKind.i64.wrap z) := by
 unfold Eg
 simp [IntKind.wrap, IntKind.signed, IntKind.bits]
 split <;> omega
theorem RN {o : Int} {st st' : List Int} {k a b r : Int} (h : BR o st k a b = some (st', r)) (hs : ∀ x ∈ st, Eg x) (ha : Eg a) (hb : Eg b) : ∀ x ∈ st', Eg x := by
 have h0 : Eg (st.getD 0 0) := by
  cases st with
  | nil => exact ⟨by decide, by decide⟩
  | cons x st => exact hs x (by simp)
 have hone : ∀ b : Bool, Eg (OV b) := fun b => by cases b <;> exact ⟨by decide, by decide⟩
 unfold BR at h
 split at h
 ·cases h
 split at h
 ·injection h with h; injection h with h1 _; subst h1
  intro x hx
  rw [List.mem_singleton.1 hx]
  unfold KV
  split
  ·exact h0
  ·split
   ·exact ha
   ·split
    ·exact hb
    ·exact h0
 split at h
 ·injection h with h; injection h with h1 _; subst h1
  intro x hx
  rw [List.mem_singleton.1 hx]
  split
  ·exact RD _
  ·exact h0
 split at h
 ·injection h with h
  have h1 : (Et st k a).1 = st' := by rw [h]
  subst h1
  unfold Et
  intro x hx
  split at hx
  ·simp only [O9, List.mem_append, List.mem_cons] at hx
   rcases hx with hx | rfl | hx
   ·exact hs x (List.mem_of_mem_take hx)
   ·exact ha
   ·exact hs x (List.mem_of_mem_drop hx)
  ·split at hx
   ·simp only [Pp, List.mem_append] at hx
    rcases hx with hx | hx
    ·exact hs x (List.mem_of_mem_take hx)
    ·exact hs x (List.mem_of_mem_drop hx)
   ·exact hs x hx
 split at h
 ·split at h
  ·injection h with h; injection h with h1 _; subst h1
   intro x hx
   rw [List.mem_singleton.1 hx]
   exact hone _
  ·cases h
 ·injection h with h
  have h1 : (CO o st k a).1 = st' := by rw [h]
  subst h1
  unfold CO
  intro x hx
  split at hx
  ·rcases List.mem_append.1 hx with hx | hx
   ·exact hs x hx
   ·rw [List.mem_singleton.1 hx]; exact ha
  ·split at hx
   ·exact hs x hx
   ·split at hx
    ·exact hs x (List.mem_of_mem_drop hx)
    ·exact hs x (List.mem_of_mem_take hx)
theorem Ph {o : Int} {l : List Op8} {sts : Nat → List Int} {i : Nat} {st' : List Int} (h : goF o l sts i = some st') : ∃ r, BR o (sts (Fe l i)) (oAt l i).kind (oAt l i).a (oAt l i).b = some (st', r) ∧ ¬ ((oAt l i).ret ≠ -1 ∧ r ≠ (oAt l i).res) := by
 unfold goF at h
 split at h
 ·cases h
 ·rename_i s' r hs
  split at h
  ·cases h
  ·rename_i hn
   injection h with h
   subst h
   exact ⟨r, hs, hn⟩
theorem GoodS.step {o : Int} {l : List Op8} {dn : Nat → Bool} {sts : Nat → List Int} {i : Nat} {st' : List Int} (h : GoodS o l.length dn sts) (hA : Gv l) (hi : i < l.length) (hd : dn i = false) (hg : goF o l sts i = some st') : GoodS o l.length (BM dn i true) (BP sts (Fe l i) st') := by
 obtain ⟨r, hs, _⟩ := Ph hg
 have hc := Lp hi hd
 have hk := hA.Fe hi
 refine ⟨fun j hj => ?_, fun k hk' => ?_, fun k => ?_, fun k => ?_, fun k => ?_⟩
 ·unfold BM; rw [if_neg (by omega)]; exact h.dnOut j hj
 ·unfold BP; rw [if_neg (by omega)]; exact h.stOut k hk'
 ·unfold BP; split
  ·exact RN hs (h.i64 _) (hA.a i hi) (hA.b i hi)
  ·exact h.i64 k
 ·unfold BP; split
  ·exact Ot hs (h.ok _)
  ·exact h.ok k
 ·rw [hc]; unfold BP; split
  ·have := Mk hs
   have := h.len (Fe l i)
   omega
  ·have := h.len k
   omega
theorem Pg (o : Int) (n : Nat) : GoodS o n (BJ o).dn (BJ o).sts := by
 refine ⟨fun _ _ => rfl, fun k hk => if_neg (by omega), fun k x hx => ?_, fun k => ?_, fun k => ?_⟩
 ·simp only [BJ] at hx
  split at hx
  ·unfold Bi at hx
   split at hx
   ·rw [List.mem_singleton.1 hx]; exact ⟨by decide, by decide⟩
   ·cases hx
  ·cases hx
 ·simp only [BJ]
  split
  ·exact K3 o
  ·intro _; exact .nil
 ·simp only [BJ]
  split
  ·have := KD o; omega
  ·simp
theorem GoodS.key_inj {o : Int} {n : Nat} {dn dn' : Nat → Bool} {sts sts' : Nat → List Int} (h : GoodS o n dn sts) (h' : GoodS o n dn' sts') (he : FQ n dn sts = FQ n dn' sts') : dn = dn' ∧ sts = sts' := by
 obtain ⟨e1, e2⟩ := U4 h.i64 h'.i64 he
 constructor
 ·funext i
  rcases Nat.lt_or_ge i n with hi | hi
  ·exact e1 i hi
  ·rw [h.dnOut i hi, h'.dnOut i hi]
 ·funext k
  rcases Nat.lt_or_ge k 8 with hk | hk
  ·exact e2 k hk
  ·rw [h.stOut k hk, h'.stOut k hk]
section
variable (o : Int) (l : List Op8) (ab : Op8 → Op8 → Bool)
end
section
variable {o : Int} {l : List Op8} {ab : Op8 → Op8 → Bool}
def Wl (o : Int) (l : List Op8) : List Int → (Nat → List Int) → (Nat → List Int) → Prop
 | [], a, b => a = b
 | i :: r, a, b => ∃ st', goF o l a i.toNat = some st' ∧ Wl o l r (BP a (Fe l i.toNat) st') b
theorem Nj {i : Int} {st' : List Int} : ∀ (r : List Int) (a b : Nat → List Int), Wl o l r a b → goF o l b i.toNat = some st' → Wl o l (r ++ [i]) a (BP b (Fe l i.toNat) st')
 | [], a, b, h, hg => by
  have h : a = b := h
  subst h
  exact ⟨st', hg, rfl⟩
 | j :: r, a, b, h, hg => by
  obtain ⟨s1, h1, h2⟩ := h
  exact ⟨s1, h1, Nj r _ b h2 hg⟩
structure Reach (o : Int) (l : List Op8) (ab : Op8 → Op8 → Bool) (dn : Nat → Bool) (sts : Nat → List Int) (ord : List Int) : Prop where
 dnE : ∀ i, dn i = ord.contains ((i : Nat) : Int)
 rng : ∀ i ∈ ord, 0 ≤ i ∧ i < l.length
 nodup : ord.Nodup
 run : Wl o l ord (BJ o).sts sts
 ahead : ord.Pairwise fun a b => ab (oAt l b.toNat) (oAt l a.toNat) = false
 left : ∀ a ∈ ord, ∀ k, k < l.length → dn k = false → ab (oAt l k) (oAt l a.toNat) = false
theorem Reach.start : Reach o l ab (fun _ => false) (BJ o).sts [] := ⟨fun i => by simp, by simp, by simp, rfl, .nil, by simp⟩
theorem Reach.step {dn : Nat → Bool} {sts : Nat → List Int} {ord : List Int} {i : Nat} {st' : List Int} (h : Reach o l ab dn sts ord) (hi : i < l.length) (hn : Fz l ab dn i = true) (hg : goF o l sts i = some st') : Reach o l ab (BM dn i true) (BP sts (Fe l i) st') (ord ++ [(i : Int)]) := by
 have hd := IE hn
 have hnx : ∀ k, k < l.length → k ≠ i → dn k = false → ab (oAt l k) (oAt l i) = false := by
  intro k hk hki hdk
  unfold Fz at hn
  simp only [Bool.and_eq_true, List.all_eq_true, List.mem_range] at hn
  have := hn.2 k hk
  simp [hki, hdk] at this
  exact this
 have hni : ((i : Nat) : Int) ∉ ord := fun hm => by
  have := h.dnE i
  rw [hd] at this
  simp [hm] at this
 refine ⟨fun j => ?_, fun j hj => ?_, ?_, ?_, ?_, fun a ha k hk hdk => ?_⟩
 ·unfold BM
  by_cases hj : j = i
  ·subst hj; simp
  ·rw [if_neg hj, h.dnE j]
   rw [Bool.eq_iff_iff]
   simp
   omega
 ·rcases List.mem_append.1 hj with hj | hj
  ·exact h.rng j hj
  ·rw [List.mem_singleton.1 hj]; omega
 ·rw [List.nodup_append]
  refine ⟨h.nodup, by simp, fun a ha b hb => ?_⟩
  rw [List.mem_singleton.1 hb]
  intro e
  exact hni (e ▸ ha)
 ·exact Nj (i := (i : Int)) ord _ _ h.run (by simpa using hg)
 ·rw [List.pairwise_append]
  refine ⟨h.ahead, by simp, fun a ha b hb => ?_⟩
  rw [List.mem_singleton.1 hb, Int.toNat_natCast]
  exact h.left a ha i hi hd
 ·have hki : k ≠ i := fun e => by subst e; simp [BM] at hdk
  have hdk' : dn k = false := by unfold BM at hdk; rwa [if_neg hki] at hdk
  rcases List.mem_append.1 ha with ha | ha
  ·exact h.left a ha k hk hdk'
  ·rw [List.mem_singleton.1 ha, Int.toNat_natCast]
   exact hnx k hk hki hdk'
theorem FP {rec : SSt → Int × SSt} (hrec : ∀ s, Reach o l ab s.dn s.sts s.ord → (rec s).1 = 1 → GN l (rec s).2.dn = true ∧ Reach o l ab (rec s).2.dn (rec s).2.sts (rec s).2.ord) :
  ∀ (r : List Nat) (s : SSt), (∀ i ∈ r, i < l.length) → Reach o l ab s.dn s.sts s.ord → (Bu o l ab rec r s).1 = 1 → GN l (Bu o l ab rec r s).2.dn = true ∧ Reach o l ab (Bu o l ab rec r s).2.dn (Bu o l ab rec r s).2.sts (Bu o l ab rec r s).2.ord
 | [], s, _, _, h => absurd h (by simp [Bu])
 | i :: r, s, hr, hR, h => by
  have hr' : ∀ j ∈ r, j < l.length := fun j hj => hr j (by simp [hj])
  cases hx : Fz l ab s.dn i with
  | false =>
   rw [K7 hx] at h ⊢
   exact FP hrec r s hr' hR h
  | true =>
   cases hg0 : goF o l s.sts i with
   | none =>
    rw [K8 hx hg0] at h ⊢
    exact FP hrec r s hr' hR h
   | some st1 =>
    by_cases hc2 : (rec (CZ l s i st1)).1 = 2
    ·rw [O1 hx hg0 hc2] at h ⊢
     exact FP hrec r ⟨s.dn, s.sts, s.ord, (rec (CZ l s i st1)).2.ent⟩ hr' hR h
    ·rw [MN hx hg0 hc2] at h ⊢
     exact hrec (CZ l s i st1) (hR.step (hr i (by simp)) hx hg0) h
theorem JW {bud : Nat} : ∀ (f : Nat) (s : SSt), Reach o l ab s.dn s.sts s.ord → (AX o l ab bud f s).1 = 1 → GN l (AX o l ab bud f s).2.dn = true ∧ Reach o l ab (AX o l ab bud f s).2.dn (AX o l ab bud f s).2.sts (AX o l ab bud f s).2.ord
 | 0, s, _, h => absurd h (by simp [AX])
 | f + 1, s, hR, h => by
  cases ha : GN l s.dn with
  | true => rw [Hu ha]; exact ⟨ha, hR⟩
  | false =>
   by_cases hk : FQ l.length s.dn s.sts ∈ s.ent
   ·rw [Ht ha hk] at h; exact absurd h (by simp)
   ·by_cases hb : s.ent.length = bud
    ·rw [Gp ha hk hb] at h; exact absurd h (by simp)
    ·rw [Jv ha hk hb] at h ⊢
     exact FP (JW f) _ (Gd l s) (fun i hi => List.mem_range.1 hi) hR h
theorem Kt {bud : Nat} (h : (Bj o l ab bud).1 = 1) : GN l (Bj o l ab bud).2.dn = true ∧ Reach o l ab (Bj o l ab bud).2.dn (Bj o l ab bud).2.sts (Bj o l ab bud).2.ord := JW _ _ Reach.start h
theorem JO (hA : Gv l) : ∀ (r : List Int) (p : Nat) (g : Oc) (a b : Nat → List Int), (∀ i ∈ r, 0 ≤ i ∧ i < l.length) → (∀ k, k < 8 → (g k).getD (Bi o) = a k) → Wl o l r a b → JP o l r p g = -1
 | [], p, g, a, b, _, _, _ => rfl
 | i :: r, p, g, a, b, hr, hg, h => by
  obtain ⟨st', h1, h2⟩ := h
  obtain ⟨hi0, hi1⟩ := hr i (by simp)
  have hil : i.toNat < l.length := by omega
  obtain ⟨res, h3, h4⟩ := Ph h1
  have hk := hA.Fe hil
  have hret := hA.ret i.toNat hil
  rw [JP, if_neg (by omega)]
  have e : (g (oAt l i.toNat).key.toNat).getD (Bi o) = a (Fe l i.toNat) := hg _ hk
  rw [e, h3]
  simp only
  rw [if_neg (fun hh => h4 ⟨by omega, hh.2⟩)]
  refine JO hA r (p + 1) _ _ b (fun j hj => hr j (by simp [hj])) (fun k hk8 => ?_) h2
  unfold Ku BP Fe
  split
  ·rfl
  ·exact hg k hk8
end
section
variable {o : Int} {l : List Op8} {ab : Op8 → Op8 → Bool}
theorem Zt {ord : List Int} (hn : ord.Nodup) {j : Nat} (hj : j < ord.length) (h0 : 0 ≤ ord[j]) : dnF ord j ord[j].toNat = false := by
 unfold dnF
 rw [Int.toNat_of_nonneg h0]
 simp only [List.contains_eq_mem, decide_eq_false_iff_not]
 intro hm
 obtain ⟨i, hi, he⟩ := List.mem_take_iff_getElem.1 hm
 have := (List.getElem_inj hn).1 he
 omega
theorem KP {dn : Nat → Bool} {sts : Nat → List Int} {ord : List Int} (hA : Gv l) (hall : GN l dn = true) (hR : Reach o l BN dn sts ord) : H5 o l ord := by
 refine ⟨fun j hj _ => ?_, fun i hi hr => ?_, ?_⟩
 ·obtain ⟨h0, h1⟩ := hR.rng ord[j] (List.getElem_mem hj)
  refine ⟨h0, h1, Zt hR.nodup hj h0, fun i hi hij => ?_⟩
  exact List.pairwise_iff_getElem.1 hR.ahead i j hi hj hij
 ·unfold GN at hall
  have := List.all_eq_true.1 hall i (List.mem_range.2 hi)
  simp [hr] at this
  rw [hR.dnE i] at this
  unfold dnF
  rw [List.take_of_length_le (Nat.le_refl _)]
  exact this
 ·exact JO hA ord 0 _ _ sts hR.rng (fun k hk => by simp [BJ, hk]) hR.run
theorem PT (hA : Gv l) {bud : Nat} (h : (Bj o l BN bud).1 = 1) : H5 o l (Bj o l BN bud).2.ord := by
 obtain ⟨h1, h2⟩ := Kt h
 exact KP hA h1 h2
end
theorem Oo {p k : Int} {l : List Int} (h : GR p k l = true) : ∀ x ∈ l, -1000000 ≤ x ∧ x ≤ 1000000 := by
 unfold GR inB at h
 simp at h
 exact h.1.1
theorem VU {o : Int} {l : List Op8} {bud : Int} (h : BA o l bud) : Gv l := by
 refine ⟨h.key, fun i hi => ?_, fun i hi => ?_, fun i hi => ?_⟩
 ·have := Oo (h.2.2.2.2.1.2 i hi).1 (oAt l i).a (by simp)
  unfold Eg; omega
 ·have := Oo (h.2.2.2.2.1.2 i hi).1 (oAt l i).b (by simp)
  unfold Eg; omega
 ·obtain ⟨h1, _, h3⟩ := (h.2.2.2.2.1.2 i hi).2.2.1
  omega
section
variable {o : Int} {l : List Op8} {ab : Op8 → Op8 → Bool}
theorem GL {rec : SSt → Int × SSt} : ∀ (r : List Nat) (s : SSt), (Bu o l ab rec r s).1 = 2 → (Bu o l ab rec r s).2.dn = s.dn ∧ (Bu o l ab rec r s).2.sts = s.sts ∧ (Bu o l ab rec r s).2.ord = s.ord
 | [], s, _ => ⟨rfl, rfl, rfl⟩
 | i :: r, s, h => by
  unfold Bu at h ⊢
  split
  ·rename_i hx
   rw [hx] at h
   exact GL r s h
  ·rename_i hx
   rw [hx] at h
   simp only at h
   split
   ·rename_i hg
    rw [hg] at h
    exact GL r s h
   ·rename_i st' hg
    rw [hg] at h
    simp only at h
    by_cases h2 : (rec (CZ l s i st')).1 = 2
    ·rw [if_pos h2] at h ⊢
     exact GL r ⟨s.dn, s.sts, s.ord, (rec (CZ l s i st')).2.ent⟩ h
    ·rw [if_neg h2] at h
     exact absurd h h2
theorem QI {bud : Nat} : ∀ (f : Nat) (s : SSt), (AX o l ab bud f s).1 = 2 → (AX o l ab bud f s).2.dn = s.dn ∧ (AX o l ab bud f s).2.sts = s.sts ∧ (AX o l ab bud f s).2.ord = s.ord
 | 0, s, _ => ⟨rfl, rfl, rfl⟩
 | f + 1, s, h => by
  cases ha : GN l s.dn with
  | true => rw [Hu ha]; exact ⟨rfl, rfl, rfl⟩
  | false =>
   by_cases hk : FQ l.length s.dn s.sts ∈ s.ent
   ·rw [Ht ha hk]; exact ⟨rfl, rfl, rfl⟩
   ·by_cases hb : s.ent.length = bud
    ·rw [Gp ha hk hb]; exact ⟨rfl, rfl, rfl⟩
    ·rw [Jv ha hk hb] at h ⊢
     exact GL _ _ h
theorem VF {f bud : Nat} {s : SSt} (h : (AX o l ab bud f s).1 = 2) : (AX o l ab bud f s).2 = ⟨s.dn, s.sts, s.ord, (AX o l ab bud f s).2.ent⟩ := by
 obtain ⟨h1, h2, h3⟩ := QI f s h
 generalize (AX o l ab bud f s).2 = t at h1 h2 h3 ⊢
 cases t
 subst h1 h2 h3
 rfl
end
structure Aa4 (l l' : List Op8) : Prop where
 len : l'.length = l.length
 same : ∀ i, i < l.length → (oAt l' i).key = (oAt l i).key ∧ (oAt l' i).kind = (oAt l i).kind ∧ (oAt l' i).a = (oAt l i).a ∧ (oAt l' i).b = (oAt l i).b ∧ (oAt l' i).res = (oAt l i).res
 sign : ∀ i, i < l.length → (0 ≤ (oAt l' i).ret ↔ 0 ≤ (oAt l i).ret)
 call : ∀ i, i < l.length → (oAt l' i).call = 3 * (oAt l i).call
 ret : ∀ i, i < l.length → 0 ≤ (oAt l i).ret → 3 * (oAt l i).ret ≤ (oAt l' i).ret
theorem BA.bud {o : Int} {l : List Op8} {b b' : Int} (h : BA o l b) (h0 : 0 ≤ b') (h1 : b' ≤ 1000000) : BA o l b' := ⟨h.1, h.2.1, h0, h1, h.2.2.2.2.1, h.2.2.2.2.2⟩
section
variable {o : Int} {l : List Op8} {ab : Op8 → Op8 → Bool}
theorem IG {rec : SSt → Int × SSt} {m : Nat} (hrec : ∀ s, (rec s).2.ord.length ≤ s.ord.length + m) : ∀ (r : List Nat) (s : SSt), (Bu o l ab rec r s).2.ord.length ≤ s.ord.length + (m + 1)
 | [], s => Nat.le_add_right _ _
 | i :: r, s => by
  unfold Bu
  split
  ·exact IG hrec r s
  ·split
   ·exact IG hrec r s
   ·split
    ·exact IG hrec r _
    ·rename_i st' _ _
     have := hrec (CZ l s i st')
     simp only [CZ, List.length_append, List.length_singleton] at this ⊢
     omega
theorem M7 {bud : Nat} : ∀ (f : Nat) (s : SSt), (AX o l ab bud f s).2.ord.length ≤ s.ord.length + f
 | 0, s => Nat.le_refl _
 | f + 1, s => by
  unfold AX
  split
  ·exact Nat.le_add_right _ _
  ·split
   ·exact Nat.le_add_right _ _
   ·split
    ·exact Nat.le_add_right _ _
    ·exact IG (M7 f) _ (Gd l s)
end
end Go.Proofs.YtkkmokodaejheaaDoor
namespace Go.Proofs.YtkkmokodaejheaaDoor
open Go.RowKit
def Ej (o : Int) (A : Option Addr) (n c bud f db eb : Nat) (L : Loc) (sts : Nat → List Int) (A' : Option Addr) (m c' : Nat) : Array Value :=
 #[.int .i64 o, .slice A n c, .int .i64 (bud : Int), .func (.func f) #[] #[], .slice (some ⟨db, 0, none⟩) n n, .slice A' m c',
  .slice (L 0).1 (sts 0).length (L 0).2, .slice (L 1).1 (sts 1).length (L 1).2, .slice (L 2).1 (sts 2).length (L 2).2, .slice (L 3).1 (sts 3).length (L 3).2,
  .slice (L 4).1 (sts 4).length (L 4).2, .slice (L 5).1 (sts 5).length (L 5).2, .slice (L 6).1 (sts 6).length (L 6).2, .slice (L 7).1 (sts 7).length (L 7).2, .map (some eb)]
theorem lt8 {k : Nat} (h : k < 8) : k = 0 ∨ k = 1 ∨ k = 2 ∨ k = 3 ∨ k = 4 ∨ k = 5 ∨ k = 6 ∨ k = 7 := by omega
section
variable {o : Int} {A : Option Addr} {n c bud f db eb : Nat} {L : Loc} {sts : Nat → List Int} {A' : Option Addr} {m c' : Nat}
theorem Q5 {k : Nat} (hk : k < 8) : (Ej o A n c bud f db eb L sts A' m c')[6 + k]? = some (.slice (L k).1 (sts k).length (L k).2) := by
 rcases lt8 hk with rfl | rfl | rfl | rfl | rfl | rfl | rfl | rfl <;> rfl
theorem TH {k : Nat} {u : Value} (hu : (stL L sts)[k]? = some u) : (Ej o A n c bud f db eb L sts A' m c')[6 + k]? = some u := by
 have hk : k < 8 := by have := (List.getElem?_eq_some_iff.1 hu).1; simpa [stL] using this
 rw [Q5 hk]
 have := Q4 (L := L) (sts := sts) hk
 simp only [List.getElem?_toArray] at this
 rw [this] at hu
 exact hu
theorem KG {k : Nat} (hk : k < 8) (A1 : Option Addr) (c1 : Nat) (st : List Int) : (Ej o A n c bud f db eb L sts A' m c').setIfInBounds (6 + k) (.slice A1 st.length c1) = Ej o A n c bud f db eb (Dw L k A1 c1) (BP sts k st) A' m c' := by
 rcases lt8 hk with rfl | rfl | rfl | rfl | rfl | rfl | rfl | rfl <;> rfl
end
theorem RH (L : Loc) (k : Nat) (A1 : Option Addr) (c1 : Nat) : Dw (Dw L k A1 c1) k (L k).1 (L k).2 = L := by
 funext j
 unfold Dw
 by_cases h : j = k
 ·subst h; simp
 ·simp [h]
theorem PW (sts : Nat → List Int) (k : Nat) (st : List Int) : BP (BP sts k st) k (sts k) = sts := by
 funext j
 unfold BP
 by_cases h : j = k
 ·subst h; simp
 ·simp [h]
theorem QK {dn : Nat → Bool} {i : Nat} (h : dn i = false) : BM (BM dn i true) i false = dn := by
 funext j
 unfold BM
 by_cases hj : j = i
 ·subst hj; simp [h]
 ·simp [hj]
def prt (sb : Nat) (o : Int) (A : Option Addr) (n c bud f db eb : Nat) (L : Loc) (s : SSt) (A' : Option Addr) (c' : Nat) : List Ent :=
 [B sb 71 (Ej o A n c bud f db eb L s.sts A' s.ord.length c'), B db 4 (BD n s.dn), StE A' c' s.ord, EN eb s.ent]
section
variable {l0 l H : List Ent} {w0 w : World} {S : Nat → Prop} {size n : Nat} {v : Value} {xs : List Value}
theorem Rd.now (hI : Inv (DL l0) w0 w H) (h : Rd w0 (fun b => ¬ DL l0 b) size v n xs) (hs : 0 < size) : Rd w (fun b => ¬ DL H b) size v n xs := by
 obtain ⟨A, c, hv, h1, h2, h3, h4⟩ := h
 refine ⟨A, c, hv, h1, h2, h3, fun hn => ?_⟩
 obtain ⟨b, o, e, hb, hcell⟩ := h4 hn
 have hlen : 0 < xs.length := by rw [h3]; exact Nat.mul_pos hn hs
 have hlt := World.block_lt_of_cell? w0 _ (hcell 0 _ (List.getElem?_eq_getElem hlen))
 refine ⟨b, o, e, ?_, fun j u hu => hI.old (hcell j u hu) hb⟩
 rintro ⟨x, hx, hxb⟩
 rcases hI.own x hx b hxb with h5 | h5
 ·exact hb h5
 ·have hlt : b < w0.heap.size := hlt
  omega
theorem DL.mono (h : ∀ e ∈ l, e ∈ H) {b : Nat} (hb : ¬ DL H b) : ¬ DL l b := fun ⟨e, he, hk⟩ => hb ⟨e, h e he, hk⟩
theorem StE.rd {A : Option Addr} {c : Nat} {st : List Int} (hI : Inv S w0 w (StE A c st :: l)) : Rd w (fun b => ¬ DL l b) 1 (.slice A st.length c) st.length (Ba st) := by
 have hg : w.ownsRow 0 3 1 (.slice A st.length c) st.length (Ba st) := hI.g0
 refine Rd.of_own hg fun k hk _ => ?_
 rintro ⟨e, he, hke⟩
 rw [CS] at hk
 exact (List.pairwise_cons.1 hI.apart).1 e he k hk hke
theorem QC (hI : Inv (DL l0) w0 w H) (hk : Dq w0) (h0 : ¬ DL l0 0) : Dq w ∧ ¬ DL H 0 := by
 refine ⟨fun i hi => hI.old (hk i hi) h0, ?_⟩
 rintro ⟨x, hx, hxb⟩
 have hlt : 0 < w0.heap.size := World.block_lt_of_cell? w0 _ (hk 0 (by omega))
 rcases hI.own x hx _ hxb with h5 | h5
 ·exact h0 h5
 ·omega
def LD (w : World) (l : List Ent) (L : Loc) (sts : Nat → List Int) : Prop := ∀ k, k < 8 → Rd w (fun b => ¬ DL l b) 1 (.slice (L k).1 (sts k).length (L k).2) (sts k).length (Ba (sts k))
theorem LD.now {L : Loc} {sts : Nat → List Int} (h : LD w0 l0 L sts) (hI : Inv (DL l0) w0 w H) : LD w H L sts := fun k hk => Rd.now hI (h k hk) (by decide)
theorem LD.mono {L : Loc} {sts : Nat → List Int} (h : LD w H L sts) (hs : ∀ e ∈ l, e ∈ H) : LD w l L sts := fun k hk => (h k hk).mono fun _ hb => DL.mono hs hb
theorem LD.upd {L : Loc} {sts : Nat → List Int} {k : Nat} {A : Option Addr} {c : Nat} {st : List Int} (h : LD w l L sts) (hs : Rd w (fun b => ¬ DL l b) 1 (.slice A st.length c) st.length (Ba st)) : LD w l (Dw L k A c) (BP sts k st) := by
 intro j hj
 by_cases hjk : j = k
 ·subst hjk
  have e1 : Dw L j A c j = (A, c) := by simp [Dw]
  have e2 : BP sts j st j = st := by simp [BP]
  rw [e1, e2]
  exact hs
 ·have e1 : Dw L k A c j = L j := by simp [Dw, hjk]
  have e2 : BP sts k st j = sts j := by simp [BP, hjk]
  rw [e1, e2]
  exact h j hj
theorem Inv.trans {l1 : List Ent} {w1 : World} (h : Inv (DL l0) w0 w1 l1) (h' : Inv (DL l1) w1 w l) : Inv (DL l0) w0 w l := by
 have h2 : Inv (DL l0) w0 w1 (l1 ++ []) := by rw [List.append_nil]; exact h
 have := h2.turnL h'
 rwa [List.append_nil] at this
end
end Go.Proofs.YtkkmokodaejheaaDoor
