/- Part of the proof that a desk answers in pieces. -/
import Derived.Test.YtnckdmogdehnoaaGreatDoorPA
import Derived.Test.YtnckdmogdehnoaaGreatDoorPReg
import Derived.Test.YtnckdmogdehnoaaGreatDoorPZonS
import Derived.Test.YtnckdmogdehnoaaGreatDoorCau3
set_option maxRecDepth 8000
set_option maxHeartbeats 16000000
set_option linter.unusedVariables false
set_option linter.unusedSimpArgs false
namespace Go.Proofs.YtnckdmogdehnoaaGreatDoor
open Tryz
variable {v : Int} {l : List Op8} {i k : Nat} {w : World}
def LexNo (n : Nat) (H : Nat → Nat → Nat → Prop) (z i k : Nat) : Prop := ∀ z' i' k', i' < n → k' < n → (z' < z ∨ (z' = z ∧ (i' < i ∨ (i' = i ∧ k' < k)))) → ¬ H z' i' k'
variable {n : Nat} {H : Nat → Nat → Nat → Prop} {z i k : Nat}
theorem LexNo.start : LexNo n H 0 0 0 := fun z' i' k' _ _ h => by omega
theorem LexNo.next (h : LexNo n H z i k) (hn : ¬ H z i k) : LexNo n H z i (k + 1) := fun z' i' k' h1 h2 h3 => by
 rcases Classical.em (z' < z ∨ (z' = z ∧ (i' < i ∨ (i' = i ∧ k' < k)))) with h4 | h4
 ·exact h z' i' k' h1 h2 h4
 obtain ⟨rfl, rfl, rfl⟩ : z' = z ∧ i' = i ∧ k' = k := by omega
 exact hn
theorem LexNo.row (h : LexNo n H z i n) : LexNo n H z (i + 1) 0 := fun z' i' k' h1 h2 h3 => h z' i' k' h1 h2 (by omega)
theorem LexNo.skip (h : LexNo n H z i 0) (hn : ∀ k, ¬ H z i k) : LexNo n H z (i + 1) 0 := fun z' i' k' h1 h2 h3 => by
 rcases Classical.em (z' = z ∧ i' = i) with ⟨rfl, rfl⟩ | h4
 ·exact hn k'
 exact h z' i' k' h1 h2 (by omega)
theorem LexNo.turn (h : LexNo n H z n 0) : LexNo n H (z + 1) 0 0 := fun z' i' k' h1 h2 h3 => h z' i' k' h1 h2 (by omega)
def LexAt (n : Nat) (H : Nat → Nat → Nat → Prop) (z i k : Nat) : Prop := i < n ∧ k < n ∧ H z i k ∧ LexNo n H z i k
theorem LexAt.one {z' i' k' : Nat} (h : LexAt n H z i k) (h' : LexAt n H z' i' k') : z = z' ∧ i = i' ∧ k = k' := by
 obtain ⟨a1, a2, a3, a4⟩ := h
 obtain ⟨b1, b2, b3, b4⟩ := h'
 rcases Classical.em (z = z' ∧ i = i' ∧ k = k') with h | h
 ·exact h
 exfalso
 rcases Classical.em (z < z' ∨ (z = z' ∧ (i < i' ∨ (i = i' ∧ k < k')))) with h1 | h1
 ·exact b4 z i k a1 a2 h1 a3
 exact a4 z' i' k' b1 b2 (by omega) b3
noncomputable def pickR {α : Type} [Inhabited α] (R : α → Prop) : α := open Classical in if h : ∃ x, R x then Classical.choose h else default
theorem pickR_eq {α : Type} [Inhabited α] {R : α → Prop} {x : α} (hx : R x) (hu : ∀ y, R y → y = x) : pickR R = x := by
 have h : ∃ x, R x := ⟨x, hx⟩
 unfold pickR
 rw [dif_pos h]
 exact hu _ (Classical.choose_spec h)
open Go.RowKit
abbrev endsV (c r g : Int) : Value := .agg #[.int .i64 c, .int .i64 r, .int .i64 g]
def zvF (l : List Op8) (m k : Nat) (v : Int) : Option Value := if v = 0 ∨ fdN (wrB l v) m ≠ none then some (endsV (wcF l m v) (lsF l m v k) (grF l m v k)) else none
section
variable {l : List Op8} {m k : Nat}
theorem zvF_start (l : List Op8) : (fun v : Int => if v = 0 then some (endsV (-2) (-1) (-2)) else (none : Option Value)) = zvF l 0 0 := by
 funext v
 unfold zvF
 by_cases hv : v = 0
 ·rw [if_pos hv, if_pos (.inl hv)]; rfl
 rw [if_neg hv, if_neg (by rintro (h | h); exact hv h; exact h rfl)]
theorem fdN_skip {p : Nat → Bool} (h : p m = false) : fdN p (m + 1) = fdN p m := by
 rw [fdN_succ, h]
 cases fdN p m <;> rfl
theorem zvF_same1 (h : ∀ v, wrB l v m = false) : zvF l m 0 = zvF l (m + 1) 0 := by
 funext v
 unfold zvF lsF grF wcF wrtF
 rw [fdN_skip (h v)]
theorem zvF_new1 {a c r : Int} (h : ∀ v, wrB l v m = true ↔ v = a) (hc : (oAt l m).call = c) (hr : (oAt l m).ret = r) (hn : fdN (wrB l a) m = none) : (fun v => if v = a then some (endsV c r c) else zvF l m 0 v) = zvF l (m + 1) 0 := by
 funext v
 by_cases hv : v = a
 ·subst hv
  have e : fdN (wrB l v) (m + 1) = some m := by rw [fdN_succ, hn, (h v).2 rfl]; rfl
  rw [if_pos rfl]
  unfold zvF lsF grF wcF wrtF
  rw [e, if_pos (.inr (by simp))]
  simp only [hc, hr]
 have : wrB l v m = false := by
  cases hw : wrB l v m with
  | false => rfl
  | true => exact absurd ((h v).1 hw) hv
 rw [if_neg hv]
 unfold zvF lsF grF wcF wrtF
 rw [fdN_skip this]
theorem zvF_same2 (h : ∀ v, rdB l v k = false) : zvF l m k = zvF l m (k + 1) := by
 funext v
 unfold zvF
 rw [show lsF l m v (k + 1) = lsF l m v k by rw [lsF, h v]; rfl, show grF l m v (k + 1) = grF l m v k by rw [grF, h v]; rfl]
theorem zvF_new2 {a c r : Int} (h : ∀ v, rdB l v k = true ↔ v = a) (hc : (oAt l k).call = c) (hr : (oAt l k).ret = r) (hd : a = 0 ∨ fdN (wrB l a) m ≠ none) : (fun v => if v = a then some (endsV (wcF l m a) (min (lsF l m a k) r) (max (grF l m a k) c)) else zvF l m k v) = zvF l m (k + 1) := by
 funext v
 by_cases hv : v = a
 ·subst hv
  rw [if_pos rfl]
  unfold zvF
  rw [if_pos hd, show lsF l m v (k + 1) = min (lsF l m v k) (oAt l k).ret by rw [lsF, (h v).2 rfl]; rfl, show grF l m v (k + 1) = max (grF l m v k) (oAt l k).call by rw [grF, (h v).2 rfl]; rfl, hc, hr]
 have : rdB l v k = false := by
  cases hw : rdB l v k with
  | false => rfl
  | true => exact absurd ((h v).1 hw) hv
 rw [if_neg hv]
 unfold zvF
 rw [show lsF l m v (k + 1) = lsF l m v k by rw [lsF, this]; rfl, show grF l m v (k + 1) = grF l m v k by rw [grF, this]; rfl]
theorem dom_iff : domZ l v ↔ (v = 0 ∨ fdN (wrB l v) l.length ≠ none) := by
 unfold domZ
 constructor
 ·rintro (h | ⟨j, h1, h2, h3⟩)
  ·exact .inl h
  refine .inr fun hn => ?_
  have := fdN_none.1 hn j h1
  unfold wrB at this
  simp [h2, h3] at this
 rintro (h | h)
 ·exact .inl h
 cases hf : fdN (wrB l v) l.length with
 | none => exact absurd hf h
 | some j => exact .inr ⟨j, wr_some hf⟩
theorem zvF_some (h : v = 0 ∨ fdN (wrB l v) m ≠ none) : zvF l m k v = some (endsV (wcF l m v) (lsF l m v k) (grF l m v k)) := if_pos h
theorem zvF_none (h : ¬ (v = 0 ∨ fdN (wrB l v) m ≠ none)) : zvF l m k v = none := if_neg h
def znF (l : List Op8) (v : Int) : Zn := ⟨v, min (LZ l v) (GZ l v), max (LZ l v) (GZ l v), decide (LZ l v < GZ l v)⟩
def ThinZ (l : List Op8) : Prop := ∃ i, i < l.length ∧ (oAt l i).kind = 1 ∧ (¬ domZ l (oAt l i).res ∨ (oAt l i).ret < wcF l l.length (oAt l i).res)
def clF (a b : Zn) (behind : Bool) : Bool := if b.fw then behind && decide (b.lo < a.hi) else decide (b.lo > a.lo) && decide (b.hi < a.hi)
theorem OkZ.range (hZ : OkZ l) (hd : domZ l v) : -1 ≤ LZ l v ∧ LZ l v ≤ 1000000 ∧ -2 ≤ GZ l v ∧ GZ l v ≤ 1000000 := by
 have h1 : -1 ≤ LZ l v ∧ LZ l v ≤ 1000000 := by
  rcases hZ.least hd with ⟨_, h⟩ | ⟨i, h1, _, h3⟩
  ·omega
  have := hZ.num h1; omega
 have h2 : -2 ≤ GZ l v ∧ GZ l v ≤ 1000000 := by
  rcases hZ.greatest hd with ⟨_, h⟩ | ⟨i, h1, _, h3⟩
  ·omega
  have := hZ.num h1; omega
 omega
theorem vals_le {vs : List Int} (hn : vs.Nodup) (hs : ∀ v ∈ vs, domZ l v) (hZ : OkZ l) : vs.length ≤ l.length + 1 := by
 have hp : vs.Perm ((valsZ l).filter fun v => decide (v ∈ vs)) := by
  refine (List.perm_ext_iff_of_nodup hn (hZ.valsNodup.filter _)).2 fun v => ?_
  rw [List.mem_filter, mem_valsZ]
  simp only [decide_eq_true_eq]
  exact ⟨fun h => ⟨hs v h, h⟩, fun h => h.2⟩
 have h1 := hp.length_eq
 have h2 := List.length_filter_le (fun v => decide (v ∈ vs)) (valsZ l)
 have h3 : (valsZ l).length ≤ l.length + 1 := by
  unfold valsZ
  rw [List.length_cons, List.length_map]
  have := List.length_filter_le (fun i => decide ((oAt l i).kind = 2)) (List.range l.length)
  rw [List.length_range] at this
  omega
 omega
end
section
variable {κ : Type} [DecidableEq κ] {ok : κ → Prop} {K : κ → Value} {P : Program} {N : Nat} {ops : Array Oper} {Q : XPost} {rest : List Oper} {ρ : Env} {o : Oper} {w0 w w' : World} {S : Nat → Prop} {H : List Ent} {t kt et b : Nat} {x y z : Operand} {v : Value} {a : κ} {g : κ → Option Value}
theorem WL_insK (hK : KeyOk P kt ok K) (i : Nat) (hi : H[i]? = some (MapKE ok K b g)) (hI : Inv S w0 w H) (hw : wantedR ops ρ o = true) (hd : o.dst = none) (ho : o.op = .insert t x y z) (ht : P.underlying t = some (.map kt et)) (hx : ev ρ x = .map (some b)) (hy : ev ρ y = K a) (hz : ev ρ z = v) (ha : ok a)
  (h : ∀ w', Inv S w0 w' (H.set i (MapKE ok K b (fun j => if j = a then some v else g j))) → WL P N ops Q rest ρ w') : WL P N ops Q (o :: rest) ρ w := by
 have hM : MapKIs ok K w b g := (hI.ok _ (gM_ hi)).1
 obtain ⟨o', h1, h2⟩ := run_mapSetK (P := P) (o := { o with op := .mapUpdate t x y z }) hK rfl ht hx hy hz ha hM
 have e : execOp (ev ρ) o = execOp (ev ρ) { o with op := .mapUpdate t x y z } := by unfold execOp; rw [ho]
 rw [← e] at h1
 exact WL_store hw hd h1 (h _ (hI.upd i hi (chg_setB w b o') (MapKE.ok h2) (fun _ hk => .inl hk)))
end
def znsR (l : List Op8) (vs : List Int) : List Value := (vs.map (znF l)).flatMap znV
theorem znsR_snoc (l : List Op8) (vs : List Int) (a : Int) : znsR l (vs ++ [a]) = znsR l vs ++ znV (znF l a) := by unfold znsR; simp
theorem row_zon {c : Nat} {A : Option Addr} {L : List Zn} (h : w.ownsRow 0 206 4 (.slice A n c) n (L.flatMap znV)) (hn : 0 < n) (hl : L.length = n) : ∃ g junk, A = some ⟨g, 0, none⟩ ∧ Blk w g 206 (zonC L junk) := by
 obtain ⟨hlen, ⟨hv, h0⟩ | ⟨g, cap, cur, hv, _, hb, h1, h2, h3, h4⟩⟩ := h
 ·omega
 injection hv with e1 e2 e3
 subst e1
 refine ⟨g, cur.toList.drop (n * 4), Z, ?_⟩
 have e : zonC L (cur.toList.drop (n * 4)) = cur := by
  unfold zonC
  rw [← h4, List.take_append_drop, Array.toArray_toList]
 rw [e]
 exact hb
def ZL (l : List Op8) (L : List Zn) : Prop := ∃ vs : List Int, vs.Nodup ∧ (∀ v, v ∈ vs ↔ domZ l v) ∧ L.Perm (vs.map (znF l)) ∧ (L.Pairwise fun a b => a.lo ≤ b.lo)
def ZsPost (l : List Op8) (w0 : World) (en : Ending) (w' : World) : Prop :=
 (¬ OkZ l ∧ Pure w0 w' ∧ ∃ z : Int, ZErr l z ∧ en = .returned (.tuple #[.slice none 0 0, .iface 49 (.int .i64 z)])) ∨
 (OkZ l ∧ ThinZ l ∧ Pure w0 w' ∧ en = .returned (.tuple #[.slice none 0 0, .iface 49 (.int .i64 8)])) ∨
 (OkZ l ∧ ¬ ThinZ l ∧ ∃ (g c : Nat) (L : List Zn) (junk : List Value), ZL l L ∧ L.length ≤ 41 ∧
  en = .returned (.tuple #[.slice (some ⟨g, 0, none⟩) L.length c, .nilIface]) ∧ Inv NF w0 w' [B g 206 (zonC L junk)])
theorem OkOps.times (h : OkOps l) {j : Nat} (hij : i < j) (hj : j < l.length) (hr : (oAt l i).ret ≠ -1) (hc : (oAt l i).call ≠ -1) : (oAt l i).call ≠ (oAt l j).call ∧ (oAt l i).call ≠ (oAt l j).ret ∧ (oAt l i).ret ≠ (oAt l j).call ∧ (oAt l i).ret ≠ (oAt l j).ret := by
 have h1 := (h.2 j hj).2.2.2.1 i (by rw [List.length_take]; omega)
 have e : oAt (l.take j) i = oAt l i := by
  unfold oAt
  rw [List.getD_eq_getElem?_getD, List.getD_eq_getElem?_getD, List.getElem?_take, if_pos hij]
 rw [e] at h1
 unfold twiceAt at h1
 refine ⟨fun e1 => h1.1 ⟨hc, .inl e1⟩, fun e1 => h1.1 ⟨hc, .inr e1⟩, fun e1 => h1.2 ⟨hr, .inl e1⟩, fun e1 => h1.2 ⟨hr, .inr e1⟩⟩
def TimeZ (l : List Op8) (v t : Int) : Prop := (v = 0 ∧ t < 0) ∨ ∃ i, i < l.length ∧ zvl l i = v ∧ (t = (oAt l i).call ∨ t = (oAt l i).ret)
theorem OkZ.timeOne (hZ : OkZ l) {v' t : Int} (h : TimeZ l v t) (h' : TimeZ l v' t) : v = v' := by
 rcases h with ⟨rfl, h1⟩ | ⟨i, hi, rfl, h1⟩ <;> rcases h' with ⟨rfl, q1⟩ | ⟨j, hj, rfl, q1⟩
 ·rfl
 ·have := hZ.num hj
  omega
 ·have := hZ.num hi
  omega
 have n1 := hZ.num hi
 have n2 := hZ.num hj
 rcases Nat.lt_trichotomy i j with h | h | h
 ·have := hZ.ops.times h hj (by omega) (by omega)
  omega
 ·rw [h]
 have := hZ.ops.times h hi (by omega) (by omega)
 omega
theorem OkZ.loTime (hZ : OkZ l) (hd : domZ l v) : TimeZ l v (znF l v).lo := by
 have h1 : TimeZ l v (LZ l v) := by
  rcases hZ.least hd with ⟨h1, h2⟩ | ⟨i, h1, h2, h3⟩
  ·exact .inl ⟨h1, by omega⟩
  exact .inr ⟨i, h1, h2, .inr h3⟩
 have h2 : TimeZ l v (GZ l v) := by
  rcases hZ.greatest hd with ⟨h1, h2⟩ | ⟨i, h1, h2, h3⟩
  ·exact .inl ⟨h1, by omega⟩
  exact .inr ⟨i, h1, h2, .inl h3⟩
 show TimeZ l v (min (LZ l v) (GZ l v))
 rcases Int.le_total (LZ l v) (GZ l v) with h | h
 ·rw [Int.min_eq_left h]; exact h1
 rw [Int.min_eq_right h]; exact h2
theorem perm_sorted {R : Zn → Int} : ∀ {L L' : List Zn}, L.Perm L' → (L.Pairwise fun a b => R a ≤ R b) → (L'.Pairwise fun a b => R a ≤ R b) → (∀ a ∈ L, ∀ b ∈ L, R a = R b → a = b) → L = L'
 | [], L', hp, _, _, _ => by rw [hp.nil_eq]
 | a :: r, [], hp, _, _, _ => by have := hp.length_eq; simp at this
 | a :: r, b :: r', hp, h1, h2, hu => by
  rw [List.pairwise_cons] at h1 h2
  have hab : a = b := by
   have m1 : a ∈ b :: r' := hp.mem_iff.1 (List.mem_cons_self ..)
   have m2 : b ∈ a :: r := hp.mem_iff.2 (List.mem_cons_self ..)
   rcases List.mem_cons.1 m1 with e | m1'
   ·exact e
   rcases List.mem_cons.1 m2 with e | m2'
   ·exact e.symm
   exact hu a (List.mem_cons_self ..) b m2 (Int.le_antisymm (h1.1 b m2') (h2.1 a m1'))
  subst hab
  rw [perm_sorted (hp.cons_inv) h1.2 h2.2 (fun x hx y hy => hu x (List.mem_cons_of_mem _ hx) y (List.mem_cons_of_mem _ hy))]
theorem ZL.one (hZ : OkZ l) {L L' : List Zn} (h : ZL l L) (h' : ZL l L') : L = L' := by
 obtain ⟨vs, n1, d1, p1, s1⟩ := h
 obtain ⟨vs', n2, d2, p2, s2⟩ := h'
 have hv : vs.Perm vs' := (List.perm_ext_iff_of_nodup n1 n2).2 fun v => (d1 v).trans (d2 v).symm
 refine perm_sorted (R := Zn.lo) (p1.trans ((hv.map _).trans p2.symm)) s1 s2 fun a ha b hb he => ?_
 obtain ⟨v, m1, rfl⟩ := List.mem_map.1 (p1.mem_iff.1 ha)
 obtain ⟨v', m2, rfl⟩ := List.mem_map.1 (p1.mem_iff.1 hb)
 have t1 := hZ.loTime ((d1 v).1 m1)
 have t2 := hZ.loTime ((d1 v').1 m2)
 rw [← he] at t2
 rw [hZ.timeOne t1 t2]
theorem zones_any (A : Option Addr) (n c : Nat) (l : List Op8) (D : Nat → Prop) (w0 : World) (h : OpsR w0 D (.slice A n c) l) : Cq 124 #[.slice A n c] w0 (ZsPost l w0) := by
 obtain ⟨hn, hc1, hc2⟩ := h.len
 subst hn
 have hI := Inv.start (fun _ => False) w0
 refine Vm func124 Z (Wq (Vg Z (Vw Z (Wn ?_))))
 by_cases hok : OkZ l
 rotate_left
 ·refine Ws (Wq (Va Z (Vd [.slice _ _ _] Z func157 Z ((zcheckN_any A l.length c l D _ (h.pure hI.pu)).mono ?_))))
  rintro e w1 ⟨hp, ⟨h1, _⟩ | ⟨_, z, hz8, rfl⟩⟩
  ·exact absurd h1 hok
  refine rV ?_
  have hI := hI.pure hp
  exact Vt Z (Wn (Wq (Vy Z (U0 Z yy37 Z (Yt Z (Wq (Vy Z (Vg Z (Vt Z (Wn (WR (r2_ 2 3 Z (.inl ⟨hok, hI.pu, z, hz8, Z⟩)))))))))))))
 have h8 := hok.ops.1
 refine Ws (Wq (Va Z (Vd [.slice _ _ _] Z func157 Z ((zcheckN_any A l.length c l D _ (h.pure hI.pu)).mono ?_))))
 rintro e w1 ⟨hp, ⟨_, rfl⟩ | ⟨h1, _⟩⟩
 rotate_left
 ·exact absurd hok h1
 refine rV ?_
 have hI := hI.pure hp
 refine Vw Z (Wn (Wq (Td Z (Tv Z yy37 Z (Yf Z (Wk (Ws (Wr (WL_mkMapK okI kI hI Z Z Z Z ?_)))))))))
 rintro b20 w hI
 refine Tc [(0, Y _), (1, Y _), (2, Y _)] [_, _, _] Z [Y 0, Y 0, Y 0] [0, 1, 2] Z (fun _ => by kernel_rfl) (WL_insK (a := (0 : Int)) (v := endsV (-2) (-1) (-2)) keyI 0 rfl hI rfl rfl rfl underlying249 rfl rfl rfl trivial ?_)
 intro w hI
 simp only [List.set_cons_zero] at hI
 rw [zvF_start l] at hI
 refine Tp Z (Wv Z (by exact rAsgnM rfl rfl) (Wn (Wx (fun ρ w => Has ρ [(0, .slice A l.length c), (5, .map (some b20))] ∧ Inv NF w0 w [MapKE okI kI b20 (zvF l l.length 0)]) ?_ ?_)))
 ·refine Wq (Va Z (Vo Z yy94 Z (V0 Z (Wn (Wb ?_)))))
  refine Wl (fun mu ρ w => ∃ k : Nat, mu = l.length - k ∧ k ≤ l.length ∧ Has ρ [(25, Y (k : Int)), (24, Y (l.length : Int)), (23, .slice A l.length c), (5, .map (some b20)), (0, .slice A l.length c)] ∧ Inv NF w0 w [MapKE okI kI b20 (zvF l k 0)]) l.length
   ⟨0, rfl, by omega, ⟨rfl, rfl, rfl, rfl, rfl, trivial⟩, hI⟩ ?_
  clear hI
  rintro mu ρ w ⟨k, rfl, hk, hH, hI⟩
  obtain ⟨σ, rfl⟩ := hH.open
  by_cases hkl : k < l.length
  rotate_left
  ·obtain rfl : k = l.length := by omega
   exact Wq (Vr Z (Yg Z (WE ⟨g2_, hI⟩)))
  obtain ⟨bA, oA, hAe, hoc⟩ := (h.pure hI.pu).at hkl
  subst hAe
  have hkd := hok.kind k hkl
  have hsame := zvF_same1 (l := l) (m := k)
  have hnew := zvF_new1 (l := l) (m := k) (a := (oAt l k).a) (c := (oAt l k).call) (r := (oAt l k).ret)
  have hpb : ∀ v, wrB l v k = (decide ((oAt l k).kind = 2) && decide ((oAt l k).a = v)) := fun v => rfl
  have hone : (oAt l k).kind = 2 → fdN (wrB l (oAt l k).a) k = none := fun h9 => by
   rw [fdN_none]
   intro j hj
   unfold wrB
   cases hkj : decide ((oAt l j).kind = 2) with
   | false => rfl
   | true =>
    have := hok.once j k hj hkl (by simpa using hkj) h9
    simp [this]
  have hcr : (oAt l k).call = (oAt l k).call ∧ (oAt l k).ret = (oAt l k).ret := ⟨rfl, rfl⟩
  generalize hpk : oAt l k = pk at hoc hnew hpb hone hkd
  obtain ⟨p0, p1, p2, p3, p4, p5, p6, p7⟩ := pk
  simp only at hnew hpb hone hkd
  refine Wq (Vu Z (Yu Z (Wk (Ws (Wb (Wq (Th 8 Z yy94 Z (Ts 8 Z (by rfl) hoc (Vz (.agg zI8) (zI8) hI Z ?_)))))))))
  rintro b7 w - - hI
  refine T2 8 (#[_, _, _, _, _, _, _, _]) (.agg _) hI Z ?_
  intro w hI
  refine Wn ?_
  simp only [opV] at hI
  by_cases k2 : p2 = 2
  ·refine Wq (V8 2 Z (Yc hI Z Z (Vx Z (Yt Z (Wr (Tp Z (V8 3 Z (Yc hI Z Z (V8 6 Z (Yc hI Z Z (V8 7 Z (Yc hI Z Z (V8 6 Z (Yc hI Z Z (Tc [(0, Y _), (1, Y _), (2, Y _)] [_, _, _] Z [Y 0, Y 0, Y 0] [0, 1, 2] Z (fun _ => by kernel_rfl) (WL_mapSetK (a := p3) (v := endsV p6 p7 p6) keyI 1 rfl hI rfl rfl rfl underlying249 rfl rfl rfl trivial ?_))))))))))))))))
   intro w hI
   simp only [List.set_cons_succ, List.set_cons_zero] at hI
   refine Wn ?_
   rw [hnew (fun v => by rw [hpb]; simp [k2, eq_comm]) trivial trivial (hone k2)] at hI
   have hI := hI.d0
   exact Wr (Vl Z (V0 Z (Wn ⟨l.length - (k + 1), by omega, k + 1, rfl, by omega, g5_, hI⟩)))
  refine Wq (V8 2 Z (Yc hI Z Z (Vs Z (Yf Z (Wk ?_)))))
  rw [hsame (fun v => by rw [hpb]; simp [k2])] at hI
  have hI := hI.d0
  exact Wr (Vl Z (V0 Z (Wn ⟨l.length - (k + 1), by omega, k + 1, rfl, by omega, g5_, hI⟩)))
 clear hI
 rintro ρ w ⟨hH, hI⟩
 obtain ⟨σ, rfl⟩ := hH.open
 refine Wx (fun ρ w => ¬ ThinZ l ∧ Has ρ [(5, .map (some b20))] ∧ Inv NF w0 w [MapKE okI kI b20 (zvF l l.length l.length)]) ?_ ?_
 ·refine Wq (Va Z (Vo Z yy94 Z (V0 Z (Wn (Wb ?_)))))
  refine Wl (fun mu ρ w => ∃ k : Nat, mu = l.length - k ∧ k ≤ l.length ∧ (∀ i, i < k → (oAt l i).kind = 1 → domZ l (oAt l i).res ∧ ¬ (oAt l i).ret < wcF l l.length (oAt l i).res) ∧ Has ρ [(45, Y (k : Int)), (44, Y (l.length : Int)), (43, .slice A l.length c), (5, .map (some b20))] ∧ Inv NF w0 w [MapKE okI kI b20 (zvF l l.length k)]) l.length
   ⟨0, rfl, by omega, fun i hi => by omega, ⟨rfl, rfl, rfl, rfl, trivial⟩, hI⟩ ?_
  clear hI
  rintro mu ρ w ⟨k, rfl, hk, hall, hH, hI⟩
  obtain ⟨σ, rfl⟩ := hH.open
  by_cases hkl : k < l.length
  rotate_left
  ·obtain rfl : k = l.length := by omega
   refine Wq (Vr Z (Yg Z (WE ?_)))
   exact ⟨fun ⟨i, i1, i2, i3⟩ => by
    obtain ⟨q1, q2⟩ := hall i i1 i2
    rcases i3 with i3 | i3
    ·exact i3 q1
    exact q2 i3, g1_, hI⟩
  obtain ⟨bA, oA, hAe, hoc⟩ := (h.pure hI.pu).at hkl
  subst hAe
  have hkd := hok.kind k hkl
  have hsame := zvF_same2 (l := l) (m := l.length) (k := k)
  have hnew := zvF_new2 (l := l) (m := l.length) (k := k) (a := (oAt l k).res) (c := (oAt l k).call) (r := (oAt l k).ret)
  have hpb : ∀ v, rdB l v k = (decide ((oAt l k).kind = 1) && decide ((oAt l k).res = v)) := fun v => rfl
  have hthin : (oAt l k).kind = 1 → ¬ domZ l (oAt l k).res ∨ (oAt l k).ret < wcF l l.length (oAt l k).res → ThinZ l := fun h1 h2 => ⟨k, hkl, h1, h2⟩
  have hnext : ((oAt l k).kind = 1 → domZ l (oAt l k).res ∧ ¬ (oAt l k).ret < wcF l l.length (oAt l k).res) → ∀ i, i < k + 1 → (oAt l i).kind = 1 → domZ l (oAt l i).res ∧ ¬ (oAt l i).ret < wcF l l.length (oAt l i).res := fun h1 i hi hki => by
   rcases Nat.lt_or_ge i k with h3 | h3
   ·exact hall i h3 hki
   obtain rfl : i = k := by omega
   exact h1 hki
  generalize hpk : oAt l k = pk at hoc hnew hpb hthin hkd hnext
  obtain ⟨p0, p1, p2, p3, p4, p5, p6, p7⟩ := pk
  simp only at hnew hpb hthin hkd hnext
  refine Wq (Vu Z (Yu Z (Wk (Ws (Wb (Wq (Th 8 Z yy94 Z (Ts 8 Z (by rfl) hoc (Vz (.agg zI8) (zI8) hI Z ?_)))))))))
  rintro b9 w - - hI
  refine T2 8 (#[_, _, _, _, _, _, _, _]) (.agg _) hI Z ?_
  intro w hI
  refine Wn ?_
  simp only [opV] at hI
  by_cases k1 : p2 = 1
  rotate_left
  ·refine Ws (Wq (V8 2 Z (Yc hI Z Z (Tn Z (Yt Z (WE ?_))))))
   rw [hsame (fun v => by rw [hpb]; simp [k1])] at hI
   have hI := hI.d0
   exact Wr (Vl Z (V0 Z (Wn ⟨l.length - (k + 1), by omega, k + 1, rfl, by omega, hnext (fun h1 => absurd h1 k1), g4_, hI⟩)))
  refine Ws (Wq (V8 2 Z (Yc hI Z Z (Ty Z (Yf Z (Wk ?_))))))
  by_cases hd : p5 = 0 ∨ fdN (wrB l p5) l.length ≠ none
  rotate_left
  ·have hv : zvF l l.length k p5 = none := zvF_none hd
   refine Wq (Tp Z (V8 5 Z (Yc hI Z Z (Wv Z (rLookKN (a := p5) (zv := endsV 0 0 0) keyI hv Z underlying249 (by kernel_rfl) Z Z trivial hI.g1) (T4 Z (Vj Z (Vj Z (Vz (.agg #[Y 0, Y 0, Y 0]) (#[Y 0, Y 0, Y 0]) hI Z ?_))))))))
   rintro b10 w - - hI
   refine T2 3 (#[_, _, _]) (.agg _) hI Z ?_
   intro w hI
   exact Vc Z (Wn (Ws (Wq (V7 Z (To Z (V7 Z (V5 Z (V5 Z (V5 Z (V5 Z (V5 Z (Vk Z (Yt Z (Wq (T0 Z yy49 Z (Vg Z (Vt Z (Wn (WR (r2_ 2 3 Z (.inr (.inl ⟨hok, hthin k1 (.inl fun hd2 => hd (dom_iff.1 hd2)), hI.pu, Z⟩))))))))))))))))))))))
  have hv : zvF l l.length k p5 = some (endsV (wcF l l.length p5) (lsF l l.length p5 k) (grF l l.length p5 k)) := zvF_some hd
  refine Wq (Tp Z (V8 5 Z (Yc hI Z Z (Wv Z (rLookKY (a := p5) keyI hv Z underlying249 Z Z trivial hI.g1) (T4 Z (Vj Z (Vj Z (Vz (.agg #[Y 0, Y 0, Y 0]) (#[Y 0, Y 0, Y 0]) hI Z ?_))))))))
  rintro b10 w - - hI
  refine T2 3 (#[_, _, _]) (.agg _) hI Z ?_
  intro w hI
  refine Vc Z (Wn ?_)
  by_cases hrw : p7 < wcF l l.length p5
  ·exact Ws (Wq (V7 Z (Tf Z (V7 Z (V8 7 Z (Yd hI Z Z (V8 0 Z (Yc hI Z Z (Vu Z (Vi Z (Yt Z (Wq (T0 Z yy49 Z (Vg Z (Vt Z (Wn (WR (r2_ 2 3 Z (.inr (.inl ⟨hok, hthin k1 (.inr hrw), hI.pu, Z⟩))))))))))))))))))))
  refine Ws (Wq (V7 Z (Tf Z (V7 Z (V8 7 Z (Yd hI Z Z (V8 0 Z (Yc hI Z Z (Vr Z (Vi Z (Yf Z (Wk (Wr (Tp Z (V8 5 Z (Yd hI Z Z (V8 0 Z (Yc hI Z Z (V8 1 Z (Yc hI Z Z (V8 7 Z (Yd hI Z Z (Wv Z (rMin Z Z Z) (V8 2 Z (Yc hI Z Z (V8 6 Z (Yd hI Z Z (Wv Z (rMax Z Z Z) (Tc [(0, Y _), (1, Y _), (2, Y _)] [_, _, _] Z [Y 0, Y 0, Y 0] [0, 1, 2] Z (fun _ => by kernel_rfl) (WL_mapSetK (a := p5) (v := endsV (wcF l l.length p5) (min (lsF l l.length p5 k) p7) (max (grF l l.length p5 k) p6)) keyI 2 rfl hI rfl rfl rfl underlying249 rfl rfl rfl trivial ?_))))))))))))))))))))))))))))))
  intro w hI
  simp only [List.set_cons_succ, List.set_cons_zero] at hI
  refine Wn ?_
  rw [hnew (fun v => by rw [hpb]; simp [k1, eq_comm]) trivial trivial hd] at hI
  have hI := hI.d0.d0
  exact Wr (Vl Z (V0 Z (Wn ⟨l.length - (k + 1), by omega, k + 1, rfl, by omega, hnext (fun _ => ⟨dom_iff.2 hd, hrw⟩), g4_, hI⟩)))
 clear hI
 rintro ρ w ⟨hthin, hH, hI⟩
 obtain ⟨σ, rfl⟩ := hH.open
 refine Wq (Vg Z (Wn ?_))
 have hI := hI.fresh (Pure.refl _) (Row.nil _ 0 206 4) (fun k hk => by cases hk)
 refine Ws (Wq (Tp Z (WL_rangeK 1 Z hI Z Z Z Z underlying249 Z ?_)))
 intro br cnt w hI
 simp only [List.set_cons_succ, List.set_cons_zero] at hI
 refine Wn (Wb ?_)
 refine Wl (fun mu ρ w => ∃ (left : Int → Prop) (cur : Option Int) (vs : List Int) (A1 : Option Addr) (nv c1 : Nat), vs.length = nv ∧ vs.Nodup ∧ (∀ v, v ∈ vs → ¬ left v) ∧ (∀ v, domZ l v ↔ left v ∨ v ∈ vs) ∧ nv ≤ c1 ∧ c1 ≤ 9223372036854775807 ∧ Has ρ [(87, .pointer (some ⟨br, 0, none⟩)), (12, .slice A1 nv c1), (5, .map (some b20))] ∧ Inv NF w0 w [Row 0 206 4 A1 nv c1 (znsR l vs), RngE okI kI b20 br (zvF l l.length l.length) left mu cur]) cnt
  ⟨_, _, [], none, 0, 0, rfl, List.nodup_nil, fun v hv => by simp at hv, fun v => ?_, by omega, by omega, ⟨rfl, rfl, rfl, trivial⟩, hI⟩ ?_
 ·by_cases hd : v = 0 ∨ fdN (wrB l v) l.length ≠ none
  ·rw [zvF_some hd]; simp [dom_iff.2 hd]
  rw [zvF_none hd]
  exact ⟨fun h => absurd (dom_iff.1 h) hd, fun h => by rcases h with h | h <;> simp at h⟩
 clear hI
 rintro mu ρ w ⟨left, cur, vs, A1, nv, c1, hnv, hvn, hvl, hvd, hc3, hc4, hH, hI⟩
 obtain ⟨σ, rfl⟩ := hH.open
 have hvle := vals_le hvn (fun v hv => (hvd v).2 (.inr hv)) hok
 refine Ws (Wr (WL_nextK 1 Z hI Z Z Z Z Z (fun hnone => ?_) ?_))
 rotate_left
 ·clear hI
  rintro a v w hla hga hmu hI
  simp only [List.set_cons_succ, List.set_cons_zero] at hI
  have hav : a ∉ vs := fun hm => hvl a hm hla
  have hv : v = endsV (wcF l l.length a) (LZ l a) (GZ l a) := by
   rw [zvF_some (dom_iff.1 ((hvd a).2 (.inl hla)))] at hga
   injection hga with hga
   exact hga.symm
  subst hv
  refine Vj Z (Yu Z (Wk (Wb (Ws (Wr (Wv Z (rEntryK hga Z Z hI.g1) (Vj Z (Vj Z (Vz (.agg #[Y 0, Y 0, Y 0]) (#[Y 0, Y 0, Y 0]) hI Z ?_)))))))))
  rintro b14 w - - hI
  refine Vb Z (T2 3 (#[_, _, _]) (.agg _) hI Z ?_)
  intro w hI
  refine Wn ?_
  have hzn : znV (znF l a) = [.int .i64 a, .int .i64 (min (LZ l a) (GZ l a)), .int .i64 (max (LZ l a) (GZ l a)), .bool (decide (LZ l a < GZ l a))] := rfl
  generalize LZ l a = La at hI hzn
  generalize GZ l a = Ga at hI hzn
  refine Wr (Va Z (V0 Z (V8 1 Z (Yc hI Z Z (V8 2 Z (Yc hI Z Z (Wv Z (rMin Z Z Z) (V8 1 Z (Yc hI Z Z (V8 2 Z (Yc hI Z Z (Wv Z (rMax Z Z Z) (V8 1 Z (Yc hI Z Z (V8 2 Z (Yc hI Z Z (Wv Z (by exact rLss rfl rfl rfl) (Tc [(0, Y _), (1, Y _), (2, Y _), (3, .bool _)] [_, _, _, _] Z [Y 0, Y 0, Y 0, .bool false] [0, 1, 2, 3] Z (fun _ => by kernel_rfl) (T3 [(0, .agg #[_, _, _, _])] [_, _, _, _] [.int .i64 0, .int .i64 0, .int .i64 0, .bool false] [0] hI rfl underlying202 (fun _ => by kernel_rfl) ?_)))))))))))))))))))
  rintro b111 w - - hI
  refine WL_app2 (z := .agg #[Y 0, Y 0, Y 0, .bool false]) (by_ := 32) hI Z Z Z Z Z Z underlying202 (by kernel_rfl) Z (by omega) (by rfl) hI.lit0 (by rfl) (by omega) (by omega) (by exact Nat.zero_le _) ?_
  rintro A112 c112 w hA112 hc112 hI
  have hI := hI.d0
  refine Vg Z (Wn ⟨mu - 1, by omega, fun k => left k ∧ k ≠ a, some a, vs ++ [a], _, nv + 1, _, by simp [hnv], ?_, fun v hv hl => ?_, fun v => ?_, by assumption, by assumption, g3_, by rw [znsR_snoc, hzn]; exact hI.d0⟩)
  ·rw [List.nodup_append]
   exact ⟨hvn, by simp, fun x hx y hy e => by rw [List.mem_singleton.1 hy] at e; exact hav (e ▸ hx)⟩
  ·rcases List.mem_append.1 hv with hv | hv
   ·exact hvl v hv hl.1
   exact hl.2 (List.mem_singleton.1 hv)
  rw [hvd, List.mem_append, List.mem_singleton]
  by_cases hva : v = a
  ·subst hva; simp [hla]
  simp [hva]
 refine Vj Z (Yg Z (WE ?_))
 have hI := hI.d1
 have hvs : ∀ v, v ∈ vs ↔ domZ l v := fun v => by rw [hvd]; exact ⟨.inr, fun hh => hh.elim (fun hl => absurd hl (hnone v)) id⟩
 have hpos : 0 < nv := by
  have : (0 : Int) ∈ vs := (hvs 0).2 (.inl rfl)
  have := List.length_pos_of_mem this
  omega
 obtain ⟨g, junk, rfl, hb⟩ := row_zon (L := vs.map (znF l)) hI.g0 hpos (by rw [List.length_map]; exact hnv)
 replace hI : Inv NF w0 w [B g 206 (zonC (vs.map (znF l)) junk)] := hI.upd 0 rfl (Chg.refl _ _) (B.ok hb) (fun k hk => .inl (by have e : k = g := hk; subst e; rfl))
 have hbd : ∀ z ∈ vs.map (znF l), -2 ≤ z.lo ∧ z.lo ≤ 1000000 := fun z hz => by
  obtain ⟨v, v1, rfl⟩ := List.mem_map.1 hz
  have := hok.range ((hvs v).1 v1)
  simp only [znF]
  omega
 have hln : (vs.map (znF l)).length = nv := by rw [List.length_map]; exact hnv
 refine Wq (Va Z (Vd [.slice _ _ _, .func _ _ _] Z func158 Z ((sort_any g nv c1 (vs.map (znF l)) junk _ _ hln hbd (by omega) (Inv.from (l := [B g 206 (zonC (vs.map (znF l)) junk)]) (H := []) hI)).mono ?_)))
 rintro e w2 ⟨rfl, L', q1, q2, q3⟩
 refine rV ?_
 have hI := Inv.turnL (l := [B g 206 (zonC (vs.map (znF l)) junk)]) (H := []) hI q3
 refine Wn ?_
 have hL : L'.length = nv := q1.length_eq.trans hln
 refine Wq (Va Z (Vg Z (Vw Z (Wn (WR (r2_ 2 3 Z (.inr (.inr ⟨hok, hthin, g, c1, L', junk, ⟨vs, hvn, hvs, q1, q2⟩, by omega, ?_, hI⟩))))))))
 rw [hL]
 rfl
theorem ret4z {P : Program} {ρ : Env} {fn : Func} {R : Ending → World → Prop} {e : Exit} (s t u v : Tmp) (he : e = .normal ∨ e = .ret) (hr : fn.results = #[.tmp s, .tmp t, .tmp u, .tmp v]) (h : R (.returned (.tuple #[ρ s, ρ t, ρ u, ρ v])) w) : retQ P fn R e ρ w := by
 refine retQ_intro he fun a ha => ⟨_, ?_, h⟩
 have h1 := ha.get t; have h2 := ha.get s; have h3 := ha.get u; have h4 := ha.get v
 simp only [Array.getD_eq_getD_getElem?] at h1 h2 h3 h4
 simp [results, hr, h1, h2, h3, h4]
theorem zclash_any (a b : Zn) (beh : Bool) (w0 : World) : Cq 125 #[.agg (znV a).toArray, .agg (znV b).toArray, .bool beh] w0 fun e w' => e = .returned (.bool (clF a b beh)) ∧ Pure w0 w' := by
 obtain ⟨r, hr⟩ : ∃ r, clF a b beh = r := ⟨_, rfl⟩
 rw [hr]
 obtain ⟨x0, x1, x2, x3⟩ := a
 obtain ⟨y0, y1, y2, y3⟩ := b
 simp only [znV]
 unfold clF at hr
 simp only at hr
 have hI := Inv.start (fun _ => False) w0
 refine Vm func125 Z (Wq (Tq (.agg _) (#[_, _, _, _]) hI Z ?_))
 rintro b3 w - - hI
 refine Tq (.agg _) (#[_, _, _, _]) hI Z ?_
 rintro b4 w - - hI
 refine Vc Z (Wn ?_)
 cases y3 with
 | true =>
  rw [if_pos rfl] at hr
  refine Ws (Wq (V8 3 Z (V6 (.bool _) Z (hI.c0 Z) (Yt Z ?_))))
  cases beh with
  | true =>
   by_cases hlt : y1 < x2
   ·rw [decide_eq_true hlt] at hr
    subst hr
    exact Wq (V7 Z (V7 Z (V8 1 Z (Yc hI Z Z (V8 2 Z (Yd hI Z Z (Vu Z (Vk Z (Vc Z (Wn (WR (r1_ 6 Z ⟨Z, hI.pu⟩))))))))))))
   rw [decide_eq_false hlt] at hr
   subst hr
   exact Wq (V7 Z (V7 Z (V8 1 Z (Yc hI Z Z (V8 2 Z (Yd hI Z Z (Vr Z (Vk Z (Vc Z (Wn (WR (r1_ 6 Z ⟨Z, hI.pu⟩))))))))))))
  | false =>
   subst hr
   exact Wq (V7 Z (V7 Z (V5 Z (V5 Z (V5 Z (V5 Z (V5 Z (Vi Z (Vc Z (Wn (WR (r1_ 6 Z ⟨Z, hI.pu⟩))))))))))))
 | false =>
  rw [if_neg (by simp)] at hr
  refine Ws (Wq (V8 3 Z (V6 (.bool _) Z (hI.c0 Z) (Yf Z (Wk ?_)))))
  by_cases h1 : y1 > x1
  ·rw [decide_eq_true h1, Bool.true_and] at hr
   by_cases h2 : y2 < x2
   ·rw [decide_eq_true h2] at hr
    subst hr
    exact Wq (V8 1 Z (Yc hI Z Z (V8 1 Z (Yd hI Z Z (U6 Z (V7 Z (V8 2 Z (Yc hI Z Z (V8 2 Z (Yd hI Z Z (Vu Z (Vk Z (Vc Z (Wn (WR (r1_ 6 Z ⟨Z, hI.pu⟩))))))))))))))))
   rw [decide_eq_false h2] at hr
   subst hr
   exact Wq (V8 1 Z (Yc hI Z Z (V8 1 Z (Yd hI Z Z (U6 Z (V7 Z (V8 2 Z (Yc hI Z Z (V8 2 Z (Yd hI Z Z (Vr Z (Vk Z (Vc Z (Wn (WR (r1_ 6 Z ⟨Z, hI.pu⟩))))))))))))))))
  rw [decide_eq_false h1, Bool.false_and] at hr
  subst hr
  exact Wq (V8 1 Z (Yc hI Z Z (V8 1 Z (Yd hI Z Z (U3 Z (V7 Z (V5 Z (V5 Z (V5 Z (V5 Z (V5 Z (Vi Z (Vc Z (Wn (WR (r1_ 6 Z ⟨Z, hI.pu⟩))))))))))))))))
def clAt (L : List Zn) (i k : Nat) : Prop := i ≠ k ∧ (zAt L i).fw = true ∧ clF (zAt L i) (zAt L k) (decide (i < k)) = true
def FtN (l : List Op8) (ok : Bool) (a b : Int) : Prop := ∃ L, ZL l L ∧ ((LexNo L.length (fun _ i k => clAt L i k) 1 0 0 ∧ ok = true ∧ a = 0 ∧ b = 0) ∨ ∃ i k, LexAt L.length (fun _ i k => clAt L i k) 0 i k ∧ ok = false ∧ a = (zAt L i).v ∧ b = (zAt L k).v)
theorem FtN.one (hZ : OkZ l) {ok ok' : Bool} {a b a' b' : Int} (h : FtN l ok a b) (h' : FtN l ok' a' b') : ok = ok' ∧ a = a' ∧ b = b' := by
 obtain ⟨L, hL, h⟩ := h
 obtain ⟨L', hL', h'⟩ := h'
 obtain rfl := hL.one hZ hL'
 rcases h with ⟨h1, rfl, rfl, rfl⟩ | ⟨i, k, h1, rfl, rfl, rfl⟩ <;> rcases h' with ⟨q1, rfl, rfl, rfl⟩ | ⟨i', k', q1, rfl, rfl, rfl⟩
 ·exact ⟨Z, Z, Z⟩
 ·exact absurd q1.2.2.1 (h1 0 i' k' q1.1 q1.2.1 (by omega))
 ·exact absurd h1.2.2.1 (q1 0 i k h1.1 h1.2.1 (by omega))
 obtain ⟨_, rfl, rfl⟩ := h1.one q1
 exact ⟨Z, Z, Z⟩
def FtPostN (l : List Op8) (w0 : World) (en : Ending) (w' : World) : Prop := Pure w0 w' ∧ (
 (¬ OkZ l ∧ ∃ z : Int, ZErr l z ∧ en = .returned (.tuple #[.bool false, .int .i64 0, .int .i64 0, .iface 49 (.int .i64 z)])) ∨
 (OkZ l ∧ ThinZ l ∧ en = .returned (.tuple #[.bool false, .int .i64 0, .int .i64 0, .iface 49 (.int .i64 8)])) ∨
 (OkZ l ∧ ¬ ThinZ l ∧ ∃ (ok : Bool) (a b : Int), FtN l ok a b ∧ en = .returned (.tuple #[.bool ok, .int .i64 a, .int .i64 b, .nilIface])))
theorem fitsN_any (A : Option Addr) (n c : Nat) (l : List Op8) (D : Nat → Prop) (w0 : World) (h : OpsR w0 D (.slice A n c) l) : Cq 71 #[.slice A n c] w0 (FtPostN l w0) := by
 have hI := Inv.start (fun _ => False) w0
 refine Vm func71 Z (Wq (Vc Z (Vb Z (Vb Z (Vw Z (Wn ?_))))))
 by_cases hok : OkZ l
 rotate_left
 ·refine Wq (Va Z (Vd [.slice _ _ _] Z func124 Z ((zones_any A n c l D _ (h.pure hI.pu)).mono ?_)))
  rintro e w1 (⟨_, hp, z, hz8, rfl⟩ | ⟨h1, _⟩ | ⟨h1, _⟩)
  rotate_left
  ·exact absurd h1 hok
  ·exact absurd h1 hok
  refine rV ?_
  have hI := hI.pure hp
  exact T4 Z (Vj Z (Vj Z (Vg Z (Vt Z (Wn (Ws (Wq (Vy Z (U0 Z yy37 Z (Yt Z (Ws (Wr (Vy Z (Vc Z (Vb Z (Vb Z (Vt Z (Wn (WR (ret4z 2 3 4 5 (.inr Z) Z ⟨hI.pu, .inl ⟨hok, z, hz8, Z⟩⟩))))))))))))))))))))
 by_cases hthin : ThinZ l
 ·refine Wq (Va Z (Vd [.slice _ _ _] Z func124 Z ((zones_any A n c l D _ (h.pure hI.pu)).mono ?_)))
  rintro e w1 (⟨h1, _⟩ | ⟨_, _, hp, rfl⟩ | ⟨_, h1, _⟩)
  ·exact absurd hok h1
  rotate_left
  ·exact absurd hthin h1
  refine rV ?_
  have hI := hI.pure hp
  exact T4 Z (Vj Z (Vj Z (Vg Z (Vt Z (Wn (Ws (Wq (Vy Z (U0 Z yy37 Z (Yt Z (Ws (Wr (Vy Z (Vc Z (Vb Z (Vb Z (Vt Z (Wn (WR (ret4z 2 3 4 5 (.inr Z) Z ⟨hI.pu, .inr (.inl ⟨hok, hthin, Z⟩)⟩))))))))))))))))))))
 refine Wq (Va Z (Vd [.slice _ _ _] Z func124 Z ((zones_any A n c l D _ (h.pure hI.pu)).mono ?_)))
 rintro e w1 (⟨h1, _⟩ | ⟨_, h1, _⟩ | ⟨_, _, g, cz, L, junk, hZL, h12, rfl, hJ⟩)
 ·exact absurd hok h1
 ·exact absurd h1 hthin
 refine rV ?_
 have hI := hI.app1 hJ
 refine T4 Z (Vj Z (Vj Z (Vg Z (Vw Z (Wn (Ws (Wq (Td Z (Tv Z yy37 Z (Yf Z (Wk (Ws (Wq (Va Z (Vo Z underlying202 Z (V0 Z (Wn (Wb ?_))))))))))))))))))
 refine Wl (fun mu ρ w => ∃ i : Nat, mu = L.length - i ∧ i ≤ L.length ∧ (∀ i', i' < i → ∀ k, k < L.length → ¬ clAt L i' k) ∧ Has ρ [(21, Y (i : Int)), (20, Y (L.length : Int)), (19, .slice (some ⟨g, 0, none⟩) L.length cz), (6, .slice (some ⟨g, 0, none⟩) L.length cz)] ∧ Inv NF w0 w [B g 206 (zonC L junk)]) L.length
  ⟨0, rfl, by omega, fun i' hi => by omega, ⟨rfl, rfl, rfl, rfl, trivial⟩, hI⟩ ?_
 clear hI
 rintro mu ρ w ⟨i, rfl, hi, hall, hH, hI⟩
 obtain ⟨σ, rfl⟩ := hH.open
 by_cases hil : i < L.length
 rotate_left
 ·obtain rfl : i = L.length := by omega
  exact Wq (Vr Z (Yg Z (WE (Wq (Vc Z (Vb Z (Vb Z (Vw Z (Wn (WR (ret4z 2 3 4 5 (.inr Z) Z ⟨hI.pu, .inr (.inr ⟨hok, hthin, true, _, _, ⟨L, hZL, .inl ⟨fun z' i' k' h1 h2 _ => hall i' h1 k' h2, Z, Z, Z⟩⟩, Z⟩)⟩)))))))))))
 refine Wq (Vu Z (Yu Z (Wk (Ws (Wb ?_)))))
 have hskip : (∀ k, k < L.length → ¬ clAt L i k) → ∀ i', i' < i + 1 → ∀ k, k < L.length → ¬ clAt L i' k := fun hno i' hi' k hk => by
  rcases Nat.lt_or_ge i' i with h1 | h1
  ·exact hall i' h1 k hk
  have e : i' = i := by omega
  rw [e]; exact hno k hk
 obtain ⟨x, hx⟩ : ∃ x, zAt L i = x := ⟨_, rfl⟩
 obtain ⟨x0, x1, x2, x3⟩ := x
 refine Wq (V0 Z (Wv Z (rIdx (sz := 4) (i := i) Z underlying202 (by kernel_rfl) Z Z (by omega)) (Ts 4 Z (by rfl) (zon_at hI.g0 hil hx) (Vz (.agg #[Y 0, Y 0, Y 0, .bool false]) (#[Y 0, Y 0, Y 0, .bool false]) hI Z ?_))))
 rintro b8 w - - hI
 refine Vb Z (T2 4 (#[_, _, _, _]) (.agg _) hI Z ?_)
 intro w hI
 refine Wn ?_
 cases x3 with
 | false =>
  refine Ws (Wq (V8 3 Z (V6 (.bool _) Z (hI.c0 Z) (To Z (Yt Z (WE ?_))))))
  have hI := hI.d0
  exact Wr (Vl Z (V0 Z (Wn ⟨L.length - (i + 1), by omega, i + 1, rfl, by omega, hskip (fun k hk hc => by have h2 := hc.2.1; rw [hx] at h2; cases h2), g4_, hI⟩)))
 | true =>
 refine Ws (Wq (V8 3 Z (V6 (.bool _) Z (hI.c0 Z) (Tf Z (Yf Z (Wk (Wq (Va Z (Vo Z underlying202 Z (V0 Z (Wn (Wb ?_))))))))))))
 refine Wl (fun mu ρ w => ∃ k : Nat, mu = L.length - k ∧ k ≤ L.length ∧ (∀ k', k' < k → ¬ clAt L i k') ∧ Has ρ [(31, Y (k : Int)), (30, Y (L.length : Int)), (29, .slice (some ⟨g, 0, none⟩) L.length cz), (7, Y (i : Int)), (8, .pointer (some ⟨b8, 0, none⟩)), (21, Y (i : Int)), (20, Y (L.length : Int)), (19, .slice (some ⟨g, 0, none⟩) L.length cz), (6, .slice (some ⟨g, 0, none⟩) L.length cz)] ∧ Inv NF w0 w [B b8 206 #[Y x0, Y x1, Y x2, .bool true], B g 206 (zonC L junk)]) L.length
  ⟨0, rfl, by omega, fun k' hk => by omega, ⟨rfl, rfl, rfl, rfl, rfl, rfl, rfl, rfl, rfl, trivial⟩, hI⟩ ?_
 clear hI
 rintro mu ρ w ⟨k, rfl, hk, hallk, hH, hI⟩
 obtain ⟨σ, rfl⟩ := hH.open
 by_cases hkl : k < L.length
 rotate_left
 ·obtain rfl : k = L.length := by omega
  refine Wq (Vr Z (Yg Z (WE ?_)))
  have hI := hI.d0
  exact Wr (Vl Z (V0 Z (Wn ⟨L.length - (i + 1), by omega, i + 1, rfl, by omega, hskip hallk, g4_, hI⟩)))
 obtain ⟨y, hy⟩ : ∃ y, zAt L k = y := ⟨_, rfl⟩
 obtain ⟨y0, y1, y2, y3⟩ := y
 have hnext : ¬ clAt L i k → ∀ k', k' < k + 1 → ¬ clAt L i k' := fun hc k' hk' => by
  rcases Nat.lt_or_ge k' k with h1 | h1
  ·exact hallk k' h1
  have e : k' = k := by omega
  rw [e]; exact hc
 refine Wq (Vu Z (Yu Z (Wk (Ws (Wb (Wq (V0 Z (Wv Z (rIdx (sz := 4) (i := k) Z underlying202 (by kernel_rfl) Z Z (by omega)) (Ts 4 Z (by rfl) (zon_at hI.g1 hkl hy) (Vz (.agg #[Y 0, Y 0, Y 0, .bool false]) (#[Y 0, Y 0, Y 0, .bool false]) hI Z ?_))))))))))
 rintro b10 w - - hI
 refine Vb Z (T2 4 (#[_, _, _, _]) (.agg _) hI Z ?_)
 intro w hI
 refine Wn ?_
 by_cases hki : k = i
 ·refine Wq (V0 Z (V0 Z (Ty Z (V7 Z (V5 Z (V5 Z (V5 Z (V5 Z (V5 Z (V5 Z (Vi Z (Wn (Wc false Z (Wk ?_))))))))))))))
  have hI := hI.d0
  exact Wr (Vl Z (V0 Z (Wn ⟨L.length - (k + 1), by omega, k + 1, rfl, by omega, hnext (fun hc => hc.1 hki.symm), g9_, hI⟩)))
 obtain ⟨bh, hbh⟩ : ∃ bh, decide (i < k) = bh := ⟨_, rfl⟩
 obtain ⟨cl, hcl⟩ : ∃ cl, clF ⟨x0, x1, x2, true⟩ ⟨y0, y1, y2, y3⟩ bh = cl := ⟨_, rfl⟩
 have hclat : clAt L i k ↔ cl = true := by
  unfold clAt
  rw [hx, hy, hbh, hcl]
  exact ⟨fun hh => hh.2.2, fun hh => ⟨fun e => hki e.symm, Z, hh⟩⟩
 refine Wx (fun ρ w => Has ρ [(46, .bool cl), (31, Y (k : Int)), (30, Y (L.length : Int)), (29, .slice (some ⟨g, 0, none⟩) L.length cz), (7, Y (i : Int)), (8, .pointer (some ⟨b8, 0, none⟩)), (10, .pointer (some ⟨b10, 0, none⟩)), (21, Y (i : Int)), (20, Y (L.length : Int)), (19, .slice (some ⟨g, 0, none⟩) L.length cz), (6, .slice (some ⟨g, 0, none⟩) L.length cz)] ∧ Inv NF w0 w [B b10 206 #[Y y0, Y y1, Y y2, .bool y3], B b8 206 #[Y x0, Y x1, Y x2, .bool true], B g 206 (zonC L junk)]) ?_ ?_
 ·cases bh with
  | true =>
   have hik : i < k := by simpa using hbh
   refine Wr (V0 Z (V0 Z (Tn Z (V7 Z (Tt 4 Z hI.g1 (Tt 4 Z hI.g0 (V0 Z (V0 Z (U6 Z (Vd [.agg _, .agg _, .bool _] Z func125 Z ((zclash_any ⟨x0, x1, x2, true⟩ ⟨y0, y1, y2, y3⟩ true _).mono ?_)))))))))))
   rintro e w1 ⟨rfl, hpu⟩
   rw [hcl]
   refine rV ?_
   have hI := hI.pure hpu
   exact Vk Z (Wn ⟨g11_, hI⟩)
  | false =>
   have hik : ¬ i < k := by simpa using hbh
   refine Wr (V0 Z (V0 Z (Tn Z (V7 Z (Tt 4 Z hI.g1 (Tt 4 Z hI.g0 (V0 Z (V0 Z (U3 Z (Vd [.agg _, .agg _, .bool _] Z func125 Z ((zclash_any ⟨x0, x1, x2, true⟩ ⟨y0, y1, y2, y3⟩ false _).mono ?_)))))))))))
   rintro e w1 ⟨rfl, hpu⟩
   rw [hcl]
   refine rV ?_
   have hI := hI.pure hpu
   exact Vk Z (Wn ⟨g11_, hI⟩)
 clear hI
 rintro ρ w ⟨hH, hI⟩
 obtain ⟨σ, rfl⟩ := hH.open
 cases cl with
 | true =>
  refine Wc true Z (Ws (Yj [7] hI fun Sx hY hXS hI => Vf 0 0 Z (V9 1 (Y _) Z (fun W hW => (hY W hW).c1 Z) (Vf 2 0 Z (Ye 3 hY Z Z (Tg 4 Z (Tl 5 Z (Tl 6 Z (WT_A (by kernel_rfl) ?_)))))))))
  clear hXS hY
  refine WA_T (fun _ => True) [] (Wt 7 Z (hS := trivial) (fun W _ => (by exact rAsgnN rfl rfl)) (Yz (WR ?_)))
  exact ret4z 2 3 4 5 (.inr Z) Z ⟨hI.pu, .inr (.inr ⟨hok, hthin, false, _, _, ⟨L, hZL, .inr ⟨i, k, ⟨hil, hkl, hclat.2 Z, fun z' i' k' h1 h2 h3 => by
   rcases Classical.em (i' < i) with h4 | h4
   ·exact hall i' h4 k' h2
   obtain rfl : i' = i := by omega
   exact hallk k' (by omega)⟩, Z, by rw [hx], by rw [hy]⟩⟩, rfl⟩)⟩
 | false =>
  refine Wc false Z (Wk ?_)
  have hI := hI.d0
  exact Wr (Vl Z (V0 Z (Wn ⟨L.length - (k + 1), by omega, k + 1, rfl, by omega, hnext (fun hc => by have := hclat.1 hc; cases this), g9_, hI⟩)))
def ThinP (l : List Op8) : Prop := ∃ i, i < l.length ∧ readsF l i = -2
theorem readsL_getD (h : k < l.length) : (readsL l l.length).getD k 0 = readsF l k := by simp [readsL, List.getD, h]
theorem readsF_cases (h : ¬ ThinP l) (hi : i < l.length) : readsF l i = -1 ∨ ∃ j : Nat, j < l.length ∧ readsF l i = j := by
 have h2 : readsF l i ≠ -2 := fun e => h ⟨i, hi, e⟩
 unfold readsF at h2 ⊢
 split at h2
 ·rename_i hc; rw [if_pos hc]; exact .inl rfl
 rename_i hc
 rw [if_neg hc]
 cases hw : wrF l (oAt l i).key (oAt l i).res with
 | none => rw [hw] at h2; exact absurd rfl h2
 | some j => exact .inr ⟨j, (wrF_some hw).1, rfl⟩
def HitC (l : List Op8) (z i k : Nat) : Prop := (oAt l i).kind = 1 ∧ (oAt l k).kind = 2 ∧ (oAt l k).key = (oAt l i).key ∧ beforeF l k i = true ∧ ((readsF l i = -1 ∧ z = 0) ∨ ∃ j : Nat, readsF l i = (j : Int) ∧ z = 1 ∧ k ≠ j ∧ beforeF l j k = true)
theorem HitC.no0 (h : HitC l z i k) (hr : readsF l i = -1) : z = 0 := by
 rcases h.2.2.2.2 with ⟨_, h2⟩ | ⟨j, h1, _⟩
 ·exact h2
 omega
theorem HitC.no1 {j : Nat} (h : HitC l z i k) (hr : readsF l i = (j : Int)) : z = 1 ∧ k ≠ j ∧ beforeF l j k = true := by
 rcases h.2.2.2.2 with ⟨h1, _⟩ | ⟨j', h1, h2, h3, h4⟩
 ·omega
 obtain rfl : j = j' := by omega
 exact ⟨h2, h3, h4⟩
def FindsN (l : List Op8) (code a b : Int) : Prop :=
 (∃ i, i < l.length ∧ readsF l i = -2 ∧ (∀ j, j < i → readsF l j ≠ -2) ∧ code = 1 ∧ a = (i : Int) ∧ b = (i : Int)) ∨
 (¬ ThinP l ∧ ∃ i, i < l.length ∧ beforeF l i i = true ∧ (∀ j, j < i → beforeF l j j = false) ∧ code = 2 ∧ a = (i : Int) ∧ b = (i : Int)) ∨
 (¬ ThinP l ∧ (∀ i, i < l.length → beforeF l i i = false) ∧ ((LexNo l.length (HitC l) 2 0 0 ∧ code = 0 ∧ a = 0 ∧ b = 0) ∨ ∃ z i k : Nat, z < 2 ∧ LexAt l.length (HitC l) z i k ∧ code = 3 + (z : Int) ∧ a = (i : Int) ∧ b = (k : Int)))
def CFindsPostN (l : List Op8) (w0 : World) (en : Ending) (w' : World) : Prop := Pure w0 w' ∧
 ((¬ OkC l ∧ ∃ z : Int, CErr l z ∧ en = .returned (.tuple #[.int .i64 0, .int .i64 0, .int .i64 0, .iface 49 (.int .i64 z)])) ∨ (OkC l ∧ ∃ code a b : Int, en = .returned (.tuple #[.int .i64 code, .int .i64 a, .int .i64 b, .nilIface]) ∧ FindsN l code a b))
theorem ret4 {P : Program} {ρ : Env} {fn : Func} {R : Ending → World → Prop} {e : Exit} (s t u v : Tmp) (he : e = .normal ∨ e = .ret) (hr : fn.results = #[.tmp s, .tmp t, .tmp u, .tmp v]) (h : R (.returned (.tuple #[ρ s, ρ t, ρ u, ρ v])) w) : retQ P fn R e ρ w := by
 refine retQ_intro he fun a ha => ⟨_, ?_, h⟩
 have h1 := ha.get t; have h2 := ha.get s; have h3 := ha.get u; have h4 := ha.get v
 simp only [Array.getD_eq_getD_getElem?] at h1 h2 h3 h4
 simp [results, hr, h1, h2, h3, h4]
theorem row_cellC {e b c : Nat} {xs : List Value} {u : Value} (h : w.ownsRow 0 e 1 (.slice (some ⟨b, 0, none⟩) n c) n xs) (hk : xs[k]? = some u) : w.cell? ⟨b, k, none⟩ = some u := by
 have hn : 0 < n := by
  have h1 := (gS_ hk).1
  have h2 : xs.length = n * 1 := h.1
  omega
 have := row_cellS h hk hn
 rwa [Nat.zero_add] at this
theorem lt2c (h : k < 2) : k = 0 ∨ k = 1 := by omega
theorem cfindsN_any (A : Option Addr) (n c : Nat) (l : List Op8) (D : Nat → Prop) (w0 : World) (h : OpsR w0 D (.slice A n c) l) : Cq 55 #[.slice A n c] w0 (CFindsPostN l w0) := by
 obtain ⟨hn, hc1, hc2⟩ := h.len
 subst hn
 have hI := Inv.start (fun _ => False) w0
 refine Vm func55 Z (Wq (Vb Z (Vb Z (Vb Z (Vw Z (Wn ?_))))))
 by_cases hC : OkC l
 rotate_left
 ·refine Ws (Wq (Va Z (Vd [.slice _ _ _] Z func87 Z ((ccheckN_any A l.length c l D _ (h.pure hI.pu)).mono ?_))))
  rintro e w1 ⟨hp, ⟨h1, _⟩ | ⟨_, z, hz, rfl⟩⟩
  ·exact absurd h1 hC
  refine rV ?_
  have hI := hI.pure hp
  exact Vt Z (Wn (Wq (Vy Z (U0 Z yy37 Z (Yt Z (Wq (Vy Z (Vb Z (Vb Z (Vb Z (Vt Z (Wn (WR (ret4 2 3 4 5 (.inr Z) Z ⟨hI.pu, .inl ⟨hC, z, hz, Z⟩⟩))))))))))))))
 have h40 := hC.ops.1
 refine Ws (Wq (Va Z (Vd [.slice _ _ _] Z func87 Z ((ccheckN_any A l.length c l D _ (h.pure hI.pu)).mono ?_))))
 rintro e w1 ⟨hp, ⟨_, rfl⟩ | ⟨h1, _⟩⟩
 rotate_left
 ·exact absurd hC h1
 refine rV ?_
 have hI := hI.pure hp
 refine Vw Z (Wn (Wq (Td Z (Tv Z yy37 Z (Yf Z (Wk (Wq (Va Z (Vd [.slice _ _ _] Z func88 Z ((reads_any A l.length c l D _ (h.pure hI.pu) hC).mono ?_))))))))))
 rintro e w1 ⟨A5, c5, rfl, hT⟩
 refine rV ?_
 have hI := hI.app1 hT
 refine Vg Z (Wn ?_)
 have hll := readsL_len l l.length
 have hrd : ∀ W : World, Pure w1 W → Rd W (fun _ => True) 1 (.slice A5 l.length c5) l.length (i64s (readsL l l.length)) := fun W hp => by
  have := ((StE.rd hI).mono (E := fun _ => True) fun _ _ => trivial).pure hp
  rw [hll] at this
  exact this
 by_cases ht : ThinP l
 ·refine Ws (Wq (Va Z (Vd [.slice _ _ _] Z func89 Z (Calls.mono (by have := thinN_any A5 c5 (readsL l l.length) _ _ (by rw [hll]; exact hrd _ (Pure.refl _)) (by omega); rw [hll] at this; exact this) ?_))))
  rintro e w2 ⟨⟨z, rfl, hz⟩, hp⟩
  obtain ⟨i, rfl, hi1, hi2, hi3⟩ : ∃ i : Nat, z = i ∧ i < l.length ∧ readsF l i = -2 ∧ ∀ j, j < i → readsF l j ≠ -2 := by
   rcases hz with ⟨_, h2⟩ | ⟨i, h3, h2, h4, h5⟩
   ·obtain ⟨i, hi, he⟩ := ht
    exact absurd (by rw [readsL_getD hi]; exact he) (h2 i hi)
   exact ⟨i, h2, h3, by rw [← readsL_getD h3]; exact h4, fun j hj hh => h5 j hj (by rw [readsL_getD (by omega)]; exact hh)⟩
  refine rV ?_
  have hI := hI.pure hp
  exact Vb Z (Wn (Wq (V0 Z (U1 Z (Yt Z (Wq (V0 Z (V0 Z (Vb Z (Vb Z (Vb Z (Vw Z (Wn (WR (ret4 2 3 4 5 (.inr Z) Z ⟨hI.pu, .inr ⟨hC, 1, _, _, Z, .inl ⟨i, hi1, hi2, hi3, Z, Z, Z⟩⟩⟩)))))))))))))))
 refine Ws (Wq (Va Z (Vd [.slice _ _ _] Z func89 Z (Calls.mono (by have := thinN_any A5 c5 (readsL l l.length) _ _ (by rw [hll]; exact hrd _ (Pure.refl _)) (by omega); rw [hll] at this; exact this) ?_))))
 rintro e w2 ⟨⟨z, rfl, hz⟩, hp⟩
 obtain rfl : z = -1 := by
  rcases hz with ⟨h2, _⟩ | ⟨i, hi, _, h3, _⟩
  ·exact h2
  exact absurd ⟨i, hi, by rw [← readsL_getD hi]; exact h3⟩ ht
 refine rV ?_
 have hI := hI.pure hp
 refine Vb Z (Wn (Wq (V0 Z (Uf Z (Yf Z (Wk (Wq (Va Z (Va Z (Vd [.slice _ _ _, .slice _ _ _] Z func90 Z ((cahead_any A l.length c l A5 c5 D _ _ (h.pure hI.pu) (by have := ((StE.rd hI).mono (E := fun _ => True) fun _ _ => trivial); rw [hll] at this; exact this) (by omega)).mono ?_)))))))))))
 rintro e w3 ⟨ob, rbs, rfl, hT⟩
 refine rV ?_
 have hI := hI.app1 hT
 refine Vg Z (Wn ?_)
 clear hrd
 refine Wx (fun ρ w => (∀ i, i < l.length → beforeF l i i = false) ∧ Has ρ [(0, .slice A l.length c), (7, .slice A5 l.length c5), (9, .slice (some ⟨ob, 0, none⟩) l.length l.length)] ∧ Inv NF w0 w [MGE 91 4 ob rbs l.length (beforeF l), StE A5 c5 (readsL l l.length)]) ?_ ?_
 ·refine Wq (Va Z (Vo Z yy94 Z (V0 Z (Wn (Wb ?_)))))
  refine Wl (fun mu ρ w => ∃ k : Nat, mu = l.length - k ∧ k ≤ l.length ∧ (∀ i, i < k → beforeF l i i = false) ∧ Has ρ [(35, Y (k : Int)), (34, Y (l.length : Int)), (0, .slice A l.length c), (7, .slice A5 l.length c5), (9, .slice (some ⟨ob, 0, none⟩) l.length l.length)] ∧ Inv NF w0 w [MGE 91 4 ob rbs l.length (beforeF l), StE A5 c5 (readsL l l.length)]) l.length
   ⟨0, rfl, by omega, fun i hi => by omega, ⟨rfl, rfl, rfl, rfl, rfl, trivial⟩, hI⟩ ?_
  clear hI
  rintro mu ρ w ⟨k, rfl, hk, hall, hH, hI⟩
  obtain ⟨σ, rfl⟩ := hH.open
  by_cases hkl : k < l.length
  rotate_left
  ·obtain rfl : k = l.length := by omega
   exact Wq (Vr Z (Yg Z (WE ⟨hall, g3_, hI⟩)))
  have hM : MG w 91 4 ob rbs l.length (beforeF l) := hI.g0
  obtain ⟨rk, hrk, _⟩ := hM.at_ hkl
  clear hM
  refine Wq (Vu Z (Yu Z (Wk (Ws (Wb (Wq (V0 Z (Vb Z (Wn ?_)))))))))
  cases hb : beforeF l k k with
  | true =>
   exact Wq (Va Z (V0 Z (T6 Z yy150 Z (V6 (.slice _ _ _) Z (mg_cell hI.g0 hrk hkl) (V0 Z (T6 Z yy91 Z (V6 (.bool _) Z (mg_boolE hI.g0 hrk hkl hkl hb) (Yt Z (Wq (V0 Z (V0 Z (Vb Z (Vb Z (Vb Z (Vw Z (Wn (WR (ret4 2 3 4 5 (.inr Z) Z ⟨hI.pu, .inr ⟨hC, 2, _, _, Z, .inr (.inl ⟨ht, k, hkl, hb, hall, Z, Z, Z⟩)⟩⟩))))))))))))))))))
  | false =>
   refine Wq (Va Z (V0 Z (T6 Z yy150 Z (V6 (.slice _ _ _) Z (mg_cell hI.g0 hrk hkl) (V0 Z (T6 Z yy91 Z (V6 (.bool _) Z (mg_boolE hI.g0 hrk hkl hkl hb) (Yf Z (Wk (Wr (Vl Z (V0 Z (Wn ⟨l.length - (k + 1), by omega, k + 1, rfl, by omega, fun i hi => ?_, g5_, hI⟩)))))))))))))
   rcases Nat.lt_or_ge i k with h1 | h1
   ·exact hall i h1
   obtain rfl : i = k := by omega
   exact hb
 clear hI
 rintro ρ w ⟨hall, hH, hI⟩
 obtain ⟨σ, rfl⟩ := hH.open
 have hres : ∀ (code a b : Int) (W : World), ((LexNo l.length (HitC l) 2 0 0 ∧ code = 0 ∧ a = 0 ∧ b = 0) ∨ ∃ z i k : Nat, z < 2 ∧ LexAt l.length (HitC l) z i k ∧ code = 3 + (z : Int) ∧ a = (i : Int) ∧ b = (k : Int)) → Pure w0 W → CFindsPostN l w0 (.returned (.tuple #[.int .i64 code, .int .i64 a, .int .i64 b, .nilIface])) W := fun code a b W hr hp => ⟨hp, .inr ⟨hC, code, a, b, rfl, .inr (.inr ⟨ht, hall, hr⟩)⟩⟩
 refine Ws (Wq (T3 [(0, Y _), (1, Y _)] [_, _] [Y 0, Y 0] [0, 1] hI Z yy41 (fun _ => by kernel_rfl) ?_))
 rintro b48 w - - hI
 refine Vo Z yy41 Z (V0 Z (Wn (Wb ?_)))
 refine Wl (fun mu ρ w => ∃ z : Nat, mu = 2 - z ∧ z ≤ 2 ∧ LexNo l.length (HitC l) z 0 0 ∧ Has ρ [(50, Y (z : Int)), (49, Y 2), (48, .slice (some ⟨b48, 0, none⟩) 2 2), (0, .slice A l.length c), (7, .slice A5 l.length c5), (9, .slice (some ⟨ob, 0, none⟩) l.length l.length)] ∧ Inv NF w0 w [B b48 3 #[Y 3, Y 4], MGE 91 4 ob rbs l.length (beforeF l), StE A5 c5 (readsL l l.length)]) 2
  ⟨0, rfl, by omega, LexNo.start, ⟨rfl, rfl, rfl, rfl, rfl, rfl, trivial⟩, hI⟩ ?_
 clear hI
 rintro mu ρ w ⟨z, rfl, hz, hno, hH, hI⟩
 obtain ⟨σ, rfl⟩ := hH.open
 by_cases hz2 : z < 2
 rotate_left
 ·obtain rfl : z = 2 := by omega
  exact Wq (Vr Z (Yg Z (WE (Wq (Vb Z (Vb Z (Vb Z (Vw Z (Wn (WR (ret4 2 3 4 5 (.inr Z) Z (hres 0 0 0 _ (.inl ⟨hno, Z, Z, Z⟩) hI.pu))))))))))))
 obtain ⟨code, hcode, hcc⟩ : ∃ code : Int, (#[Value.int .i64 3, Value.int .i64 4] : Array Value)[z]? = some (.int .i64 code) ∧ ((code = 3 ∧ z = 0) ∨ (code = 4 ∧ z = 1)) := by
  rcases lt2c hz2 with rfl | rfl
  ·exact ⟨3, Z, .inl ⟨Z, Z⟩⟩
  exact ⟨4, Z, .inr ⟨Z, Z⟩⟩
 refine Wq (Vu Z (Yu Z (Wk (Ws (Wb (Wq (T6 Z yy41 Z (V6 (Y _) Z (hI.c0 hcode) (Vb Z (Wn (Wq (Va Z (Vo Z yy94 Z (V0 Z (Wn (Wb ?_))))))))))))))))
 refine Wl (fun mu ρ w => ∃ i : Nat, mu = l.length - i ∧ i ≤ l.length ∧ LexNo l.length (HitC l) z i 0 ∧ Has ρ [(56, Y (i : Int)), (55, Y (l.length : Int)), (54, .slice A l.length c), (12, Y code), (50, Y (z : Int)), (49, Y 2), (48, .slice (some ⟨b48, 0, none⟩) 2 2), (0, .slice A l.length c), (7, .slice A5 l.length c5), (9, .slice (some ⟨ob, 0, none⟩) l.length l.length)] ∧ Inv NF w0 w [B b48 3 #[Y 3, Y 4], MGE 91 4 ob rbs l.length (beforeF l), StE A5 c5 (readsL l l.length)]) l.length
  ⟨0, rfl, by omega, hno, ⟨rfl, rfl, rfl, rfl, rfl, rfl, rfl, rfl, rfl, rfl, trivial⟩, hI⟩ ?_
 clear hI hno
 rintro mu ρ w ⟨i, rfl, hi, hno, hH, hI⟩
 obtain ⟨σ, rfl⟩ := hH.open
 by_cases hil : i < l.length
 rotate_left
 ·obtain rfl : i = l.length := by omega
  exact Wq (Vr Z (Yg Z (WE (Wr (Vl Z (V0 Z (Wn ⟨2 - (z + 1), by omega, z + 1, rfl, by omega, hno.turn, g6_, hI⟩)))))))
 obtain ⟨bA, oA, hAe, hoc⟩ := (h.pure hI.pu).at hil
 subst hAe
 have hat := fun (W : World) (hp : Pure w0 W) (m : Nat) (hm : m < l.length) => (h.pure hp).at hm
 have hrow : w.ownsRow 0 3 1 (.slice A5 (readsL l l.length).length c5) (readsL l l.length).length (i64s (readsL l l.length)) := hI.g2
 rw [hll] at hrow
 obtain ⟨bR, _, hAr, -, -, -, -, -, -⟩ := row_openB hrow (by omega)
 subst hAr
 clear hrow
 have hrget : (i64s (readsL l l.length))[i]? = some (.int .i64 (readsF l i)) := readsL_get hil
 have hrc := readsF_cases ht hil
 generalize hri : readsF l i = ri at hrget hrc
 generalize hpk : oAt l i = pk at hoc
 obtain ⟨p0, p1, p2, p3, p4, p5, p6, p7⟩ := pk
 refine Wq (Vu Z (Yu Z (Wk (Ws (Wb (Wq (V0 Z (Th 8 Z yy94 Z (Ts 8 Z (by rfl) hoc (Vz (.agg zI8) (zI8) hI Z ?_))))))))))
 rintro b14 w - - hI
 refine Vb Z (T2 8 (#[_, _, _, _, _, _, _, _]) (.agg _) hI Z ?_)
 intro w hI
 refine Wn ?_
 simp only [opV] at hI
 refine Wx (fun ρ w => p2 = 1 ∧ ((ri = -1 ∧ code = 3 ∧ z = 0) ∨ ∃ j : Nat, j < l.length ∧ ri = (j : Int) ∧ code = 4 ∧ z = 1) ∧ Has ρ [(13, Y (i : Int)), (14, .pointer (some ⟨b14, 0, none⟩)), (56, Y (i : Int)), (55, Y (l.length : Int)), (54, .slice (some ⟨bA, oA, none⟩) l.length c), (12, Y code), (50, Y (z : Int)), (49, Y 2), (48, .slice (some ⟨b48, 0, none⟩) 2 2), (0, .slice (some ⟨bA, oA, none⟩) l.length c), (7, .slice (some ⟨bR, 0, none⟩) l.length c5), (9, .slice (some ⟨ob, 0, none⟩) l.length l.length)] ∧ Inv NF w0 w [B b14 106 #[Y p0, Y p1, Y p2, Y p3, Y p4, Y p5, Y p6, Y p7], B b48 3 #[Y 3, Y 4], MGE 91 4 ob rbs l.length (beforeF l), StE (some ⟨bR, 0, none⟩) c5 (readsL l l.length)]) ?_ ?_
 ·by_cases k1 : p2 = 1
  rotate_left
  ·refine Wq (V8 2 Z (Yc hI Z Z (Tn Z (V7 Z (V5 Z (V5 Z (V5 Z (V5 Z (V5 Z (V5 Z (V5 Z (V5 Z (Vk Z (Yt Z (WE ?_)))))))))))))))
   have hI := hI.d0
   exact Wr (Vl Z (V0 Z (Wn ⟨l.length - (i + 1), by omega, i + 1, rfl, by omega, hno.skip (fun k hh => k1 (by have := hh.1; rw [hpk] at this; exact this)), g10_, hI⟩)))
  rcases hrc with rfl | ⟨j, hjl, rfl⟩ <;> rcases hcc with ⟨rfl, rfl⟩ | ⟨rfl, rfl⟩
  ·exact Wq (V8 2 Z (Yc hI Z Z (Ty Z (V7 Z (Va Z (V0 Z (T6 Z yy41 Z (V6 (Y _) Z (row_cellC hI.g3 hrget) (Vx Z (V0 Z (Vx Z (Wv Z (rBoolNeq Z underlying4 Z Z) (Vi Z (Yf Z (Wk ⟨k1, .inl ⟨Z, Z, Z⟩, g12_, hI⟩)))))))))))))))
  ·refine Wq (V8 2 Z (Yc hI Z Z (Ty Z (V7 Z (Va Z (V0 Z (T6 Z yy41 Z (V6 (Y _) Z (row_cellC hI.g3 hrget) (Vx Z (V0 Z (Vs Z (Wv Z (rBoolNeq Z underlying4 Z Z) (Vi Z (Yt Z (WE ?_)))))))))))))))
   have hI := hI.d0
   exact Wr (Vl Z (V0 Z (Wn ⟨l.length - (i + 1), by omega, i + 1, rfl, by omega, hno.skip (fun k hh => absurd (hh.no0 hri) (by decide)), g10_, hI⟩)))
  ·refine Wq (V8 2 Z (Yc hI Z Z (Ty Z (V7 Z (Va Z (V0 Z (T6 Z yy41 Z (V6 (Y _) Z (row_cellC hI.g3 hrget) (Vs Z (V0 Z (Vx Z (Wv Z (rBoolNeq Z underlying4 Z Z) (Vi Z (Yt Z (WE ?_)))))))))))))))
   have hI := hI.d0
   exact Wr (Vl Z (V0 Z (Wn ⟨l.length - (i + 1), by omega, i + 1, rfl, by omega, hno.skip (fun k hh => absurd (hh.no1 hri).1 (by decide)), g10_, hI⟩)))
  exact Wq (V8 2 Z (Yc hI Z Z (Ty Z (V7 Z (Va Z (V0 Z (T6 Z yy41 Z (V6 (Y _) Z (row_cellC hI.g3 hrget) (Vs Z (V0 Z (Vs Z (Wv Z (rBoolNeq Z underlying4 Z Z) (Vi Z (Yf Z (Wk ⟨k1, .inr ⟨j, hjl, Z, Z, Z⟩, g12_, hI⟩)))))))))))))))
 clear hI
 rintro ρ w ⟨k1, hmode, hH, hI⟩
 obtain ⟨σ, rfl⟩ := hH.open
 refine Wq (Va Z (Vo Z yy94 Z (V0 Z (Wn (Wb ?_)))))
 refine Wl (fun mu ρ w => ∃ k : Nat, mu = l.length - k ∧ k ≤ l.length ∧ LexNo l.length (HitC l) z i k ∧ Has ρ [(76, Y (k : Int)), (75, Y (l.length : Int)), (74, .slice (some ⟨bA, oA, none⟩) l.length c), (13, Y (i : Int)), (14, .pointer (some ⟨b14, 0, none⟩)), (56, Y (i : Int)), (55, Y (l.length : Int)), (54, .slice (some ⟨bA, oA, none⟩) l.length c), (12, Y code), (50, Y (z : Int)), (49, Y 2), (48, .slice (some ⟨b48, 0, none⟩) 2 2), (0, .slice (some ⟨bA, oA, none⟩) l.length c), (7, .slice (some ⟨bR, 0, none⟩) l.length c5), (9, .slice (some ⟨ob, 0, none⟩) l.length l.length)] ∧ Inv NF w0 w [B b14 106 #[Y p0, Y p1, Y p2, Y p3, Y p4, Y p5, Y p6, Y p7], B b48 3 #[Y 3, Y 4], MGE 91 4 ob rbs l.length (beforeF l), StE (some ⟨bR, 0, none⟩) c5 (readsL l l.length)]) l.length
  ⟨0, rfl, by omega, hno, ⟨rfl, rfl, rfl, rfl, rfl, rfl, rfl, rfl, rfl, rfl, rfl, rfl, rfl, rfl, rfl, trivial⟩, hI⟩ ?_
 clear hI hoc hno
 rintro mu ρ w ⟨k, rfl, hk, hno, hH, hI⟩
 obtain ⟨σ, rfl⟩ := hH.open
 by_cases hkl : k < l.length
 rotate_left
 ·obtain rfl : k = l.length := by omega
  refine Wq (Vr Z (Yg Z (WE ?_)))
  have hI := hI.d0
  exact Wr (Vl Z (V0 Z (Wn ⟨l.length - (i + 1), by omega, i + 1, rfl, by omega, hno.row, g10_, hI⟩)))
 obtain ⟨bA', oA', hAe, hoc⟩ := hat _ hI.pu k hkl
 injection hAe with hAe
 injection hAe with e1 e2
 subst e1 e2
 have hM : MG w 91 4 ob rbs l.length (beforeF l) := hI.g2
 obtain ⟨rk, hrk, _⟩ := hM.at_ hkl
 generalize hqk : oAt l k = qk at hoc
 obtain ⟨q0, q1, q2, q3, q4, q5, q6, q7⟩ := qk
 refine Wq (Vu Z (Yu Z (Wk (Ws (Wb (Wq (V0 Z (Th 8 Z yy94 Z (Ts 8 Z (by rfl) hoc (Vz (.agg zI8) (zI8) hI Z ?_))))))))))
 rintro b16 w - - hI
 refine Vb Z (T2 8 (#[_, _, _, _, _, _, _, _]) (.agg _) hI Z ?_)
 intro w hI
 refine Wn ?_
 simp only [opV] at hI
 have fin : ∀ (W : World) (code : Int), code = 3 + (z : Int) → HitC l z i k → Pure w0 W → CFindsPostN l w0 (.returned (.tuple #[.int .i64 code, .int .i64 (i : Int), .int .i64 (k : Int), .nilIface])) W := fun W code hr hh hp => hres code _ _ W (.inr ⟨z, i, k, hz2, ⟨hil, hkl, hh, hno⟩, hr, rfl, rfl⟩) hp
 by_cases k2 : q2 = 2
 rotate_left
 ·refine Wq (V8 2 Z (Yc hI Z Z (Vs Z (V7 Z (V5 Z (V5 Z (V5 Z (V5 Z (V5 Z (Vi Z (V7 Z (V5 Z (V5 Z (V5 Z (V5 Z (V5 Z (V5 Z (V5 Z (Vi Z (V7 Z (V5 Z (V5 Z (V5 Z (V5 Z (V5 Z (V5 Z (V5 Z (V5 Z (V5 Z (V5 Z (V5 Z (V5 Z (V5 Z (V5 Z (V5 Z (V5 Z (V5 Z (V5 Z (V5 Z (V5 Z (V5 Z (V5 Z (Vi Z (Yf Z (Wk ?_)))))))))))))))))))))))))))))))))))))))))))))
  have hI := hI.d0
  exact Wr (Vl Z (V0 Z (Wn ⟨l.length - (k + 1), by omega, k + 1, rfl, by omega, hno.next (fun hh => k2 (by have := hh.2.1; rw [hqk] at this; exact this)), g15_, hI⟩)))
 by_cases kk : q1 = p1
 rotate_left
 ·refine Wq (V8 2 Z (Yc hI Z Z (Vx Z (V7 Z (V8 1 Z (Yc hI Z Z (V8 1 Z (Yd hI Z Z (Vs Z (Vk Z (V7 Z (V5 Z (V5 Z (V5 Z (V5 Z (V5 Z (V5 Z (V5 Z (Vi Z (V7 Z (V5 Z (V5 Z (V5 Z (V5 Z (V5 Z (V5 Z (V5 Z (V5 Z (V5 Z (V5 Z (V5 Z (V5 Z (V5 Z (V5 Z (V5 Z (V5 Z (V5 Z (V5 Z (V5 Z (V5 Z (V5 Z (V5 Z (Vi Z (Yf Z (Wk ?_)))))))))))))))))))))))))))))))))))))))))))))
  have hI := hI.d0
  exact Wr (Vl Z (V0 Z (Wn ⟨l.length - (k + 1), by omega, k + 1, rfl, by omega, hno.next (fun hh => kk (by have := hh.2.2.1; rw [hqk, hpk] at this; exact this)), g15_, hI⟩)))
 have hp1 : (oAt l i).kind = 1 := by rw [hpk]; exact k1
 have hq2 : (oAt l k).kind = 2 := by rw [hqk]; exact k2
 have hkey : (oAt l k).key = (oAt l i).key := by rw [hpk, hqk]; exact kk
 cases hb : beforeF l k i with
 | false =>
  refine Wq (V8 2 Z (Yc hI Z Z (Vx Z (V7 Z (V8 1 Z (Yc hI Z Z (V8 1 Z (Yd hI Z Z (Vx Z (Vk Z (V7 Z (Va Z (V0 Z (T6 Z yy150 Z (V6 (.slice _ _ _) Z (mg_cell hI.g3 hrk hkl) (V0 Z (T6 Z yy91 Z (V6 (.bool _) Z (mg_boolE hI.g3 hrk hkl hil hb) (Vk Z (V7 Z (V5 Z (V5 Z (V5 Z (V5 Z (V5 Z (V5 Z (V5 Z (V5 Z (V5 Z (V5 Z (V5 Z (V5 Z (V5 Z (V5 Z (V5 Z (V5 Z (V5 Z (V5 Z (V5 Z (V5 Z (V5 Z (V5 Z (Vi Z (Yf Z (Wk ?_)))))))))))))))))))))))))))))))))))))))))))))
  have hI := hI.d0
  exact Wr (Vl Z (V0 Z (Wn ⟨l.length - (k + 1), by omega, k + 1, rfl, by omega, hno.next (fun hh => by have := hh.2.2.2.1; rw [hb] at this; cases this), g15_, hI⟩)))
 | true =>
 rcases hmode with ⟨rfl, rfl, rfl⟩ | ⟨j, hjl, rfl, rfl, rfl⟩
 ·exact Wq (V8 2 Z (Yc hI Z Z (Vx Z (V7 Z (V8 1 Z (Yc hI Z Z (V8 1 Z (Yd hI Z Z (Vx Z (Vk Z (V7 Z (Va Z (V0 Z (T6 Z yy150 Z (V6 (.slice _ _ _) Z (mg_cell hI.g3 hrk hkl) (V0 Z (T6 Z yy91 Z (V6 (.bool _) Z (mg_boolE hI.g3 hrk hkl hil hb) (Vk Z (V7 Z (V0 Z (Vx Z (V7 Z (V5 Z (V5 Z (V5 Z (V5 Z (V5 Z (V5 Z (V5 Z (V5 Z (V5 Z (V5 Z (V5 Z (V5 Z (V5 Z (V5 Z (V5 Z (V5 Z (V5 Z (V5 Z (Vk Z (Vk Z (Yt Z (Wq (V0 Z (V0 Z (V0 Z (Vb Z (Vb Z (Vb Z (Vw Z (Wn (WR (ret4 2 3 4 5 (.inr Z) Z (fin _ _ Z ⟨hp1, hq2, hkey, hb, .inl ⟨hri, Z⟩⟩ hI.pu))))))))))))))))))))))))))))))))))))))))))))))))))))))))
 obtain ⟨rj, hrj, _⟩ := hM.at_ hjl
 by_cases hkj : (k : Int) = (j : Int)
 ·refine Wq (V8 2 Z (Yc hI Z Z (Vx Z (V7 Z (V8 1 Z (Yc hI Z Z (V8 1 Z (Yd hI Z Z (Vx Z (Vk Z (V7 Z (Va Z (V0 Z (T6 Z yy150 Z (V6 (.slice _ _ _) Z (mg_cell hI.g3 hrk hkl) (V0 Z (T6 Z yy91 Z (V6 (.bool _) Z (mg_boolE hI.g3 hrk hkl hil hb) (Vk Z (V7 Z (V0 Z (Vs Z (V7 Z (V0 Z (Va Z (V0 Z (T6 Z yy41 Z (V6 (Y _) Z (row_cellC hI.g4 hrget) (Ty Z (V7 Z (V5 Z (V5 Z (V5 Z (V5 Z (V5 Z (V5 Z (V5 Z (V5 Z (V5 Z (V5 Z (Vi Z (Vi Z (Vk Z (Yf Z (Wk ?_)))))))))))))))))))))))))))))))))))))))))))))
  have hI := hI.d0
  exact Wr (Vl Z (V0 Z (Wn ⟨l.length - (k + 1), by omega, k + 1, rfl, by omega, hno.next (fun hh => (hh.no1 hri).2.1 (by omega)), g15_, hI⟩)))
 cases hd : beforeF l j k with
 | true =>
  exact Wq (V8 2 Z (Yc hI Z Z (Vx Z (V7 Z (V8 1 Z (Yc hI Z Z (V8 1 Z (Yd hI Z Z (Vx Z (Vk Z (V7 Z (Va Z (V0 Z (T6 Z yy150 Z (V6 (.slice _ _ _) Z (mg_cell hI.g3 hrk hkl) (V0 Z (T6 Z yy91 Z (V6 (.bool _) Z (mg_boolE hI.g3 hrk hkl hil hb) (Vk Z (V7 Z (V0 Z (Vs Z (V7 Z (V0 Z (Va Z (V0 Z (T6 Z yy41 Z (V6 (Y _) Z (row_cellC hI.g4 hrget) (Tn Z (V7 Z (Va Z (Va Z (V0 Z (T6 Z yy41 Z (V6 (Y _) Z (row_cellC hI.g4 hrget) (T6 Z yy150 Z (V6 (.slice _ _ _) Z (mg_cell hI.g3 hrj hjl) (V0 Z (T6 Z yy91 Z (V6 (.bool _) Z (mg_boolE hI.g3 hrj hjl hkl hd) (Vk Z (Vi Z (Vk Z (Yt Z (Wq (V0 Z (V0 Z (V0 Z (Vb Z (Vb Z (Vb Z (Vw Z (Wn (WR (ret4 2 3 4 5 (.inr Z) Z (fin _ _ Z ⟨hp1, hq2, hkey, hb, .inr ⟨j, hri, Z, by omega, hd⟩⟩ hI.pu))))))))))))))))))))))))))))))))))))))))))))))))))))))))
 | false =>
  refine Wq (V8 2 Z (Yc hI Z Z (Vx Z (V7 Z (V8 1 Z (Yc hI Z Z (V8 1 Z (Yd hI Z Z (Vx Z (Vk Z (V7 Z (Va Z (V0 Z (T6 Z yy150 Z (V6 (.slice _ _ _) Z (mg_cell hI.g3 hrk hkl) (V0 Z (T6 Z yy91 Z (V6 (.bool _) Z (mg_boolE hI.g3 hrk hkl hil hb) (Vk Z (V7 Z (V0 Z (Vs Z (V7 Z (V0 Z (Va Z (V0 Z (T6 Z yy41 Z (V6 (Y _) Z (row_cellC hI.g4 hrget) (Tn Z (V7 Z (Va Z (Va Z (V0 Z (T6 Z yy41 Z (V6 (Y _) Z (row_cellC hI.g4 hrget) (T6 Z yy150 Z (V6 (.slice _ _ _) Z (mg_cell hI.g3 hrj hjl) (V0 Z (T6 Z yy91 Z (V6 (.bool _) Z (mg_boolE hI.g3 hrj hjl hkl hd) (Vk Z (Vi Z (Vk Z (Yf Z (Wk ?_)))))))))))))))))))))))))))))))))))))))))))))
  have hI := hI.d0
  exact Wr (Vl Z (V0 Z (Wn ⟨l.length - (k + 1), by omega, k + 1, rfl, by omega, hno.next (fun hh => by have := (hh.no1 hri).2.2; rw [hd] at this; cases this), g15_, hI⟩)))
end Go.Proofs.YtnckdmogdehnoaaGreatDoor
