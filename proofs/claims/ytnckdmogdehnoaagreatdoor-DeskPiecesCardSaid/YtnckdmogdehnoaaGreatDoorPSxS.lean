/- Part of the proof that a desk answers in pieces. -/
import Derived.Test.YtnckdmogdehnoaaGreatDoorPA
import Derived.Test.YtnckdmogdehnoaaGreatDoorPSxI
import Derived.Deep.Upon
import Derived.Laws.IdiomStrings
import Derived.Test.YtnckdmogdehnoaaGreatDoorProg
import Derived.Test.YtnckdmogdehnoaaGreatDoorShelf
import Derived.Test.YtnckdmogdehnoaaGreatDoorPGenLaw2
import Derived.Test.YtnckdmogdehnoaaGreatDoorPTxtLaw
import Derived.Lib.Fields
import Derived.Test.YtnckdmogdehnoaaGreatDoorPSrch2
import Derived.Laws.MakeOwn
import Derived.Lib.FieldsP
import Derived.Lib.Split
import Derived.Test.YtnckdmogdehnoaaGreatDoorPMod6
import Derived.Laws.CopyRow
import Derived.Lib.RuneCount
import Derived.Lib.AppendStr
import Derived.Lib.UnsafeStr
set_option maxHeartbeats 2000000
set_option linter.unusedVariables false
set_option linter.unusedSimpArgs false
namespace Go.Proofs.YtnckdmogdehnoaaGreatDoor
open Tryz
open Go
variable {k : IntKind} {xs : List Value} {a b base by_ c e i m n size : Nat} {D : Nat → Prop} {x y : Operand} {A : Option Addr} {u : TypeId} {z : Value} {w : World}
def DL (l : List Ent) : Nat → Prop := fun k => ∃ e ∈ l, e.D k
section
variable {S : Nat → Prop} {w0 w w' : World} {H H' l : List Ent}
theorem Inv.from (h : Inv S w0 w (l ++ H)) : Inv (DL l) w w l :=
 ⟨Chg.refl _ w, fun e he => h.ok e (by simp [he]), fun e he k hk => .inl ⟨e, he, hk⟩, (List.pairwise_append.1 h.apart).1⟩
theorem Inv.turnL (h : Inv S w0 w (l ++ H)) (h' : Inv (DL l) w w' H') : Inv S w0 w' (H' ++ H) := by
 obtain ⟨p1, p2, p3⟩ := List.pairwise_append.1 h.apart
 refine ⟨h.chg.trans' h'.chg fun k hk1 hk2 => ?_, fun x hx => ?_, fun x hx k hk => ?_, List.pairwise_append.2 ⟨h'.apart, p2, fun a ha b hb k h1 h2 => ?_⟩⟩
 ·obtain ⟨e, he, hk2⟩ := hk2
  rcases h.own e (by simp [he]) k hk2 with h1 | h1
  ·exact h1
  omega
 ·rcases List.mem_append.1 hx with hx | hx
  ·exact h'.ok x hx
  exact (h.ok x (by simp [hx])).chg h'.chg (fun k hk hk2 => by obtain ⟨e, he, hk2⟩ := hk2; exact p3 e he x hx k hk2 hk)
 ·rcases List.mem_append.1 hx with hx | hx
  ·rcases h'.own x hx k hk with ⟨e, he, h1⟩ | h1
   ·exact h.own e (by simp [he]) k h1
   exact .inr (Nat.le_trans h.chg.size h1)
  exact h.own x (by simp [hx]) k hk
 rcases h'.own a ha k h1 with ⟨e, he, h3⟩ | h3
 ·exact p3 e he b hb k h3 h2
 have := (h.ok b (by simp [hb])).2.1 k h2
 omega
end
open Go Go.RowKit
set_option linter.unusedSectionVars false
def WinΦ (e size : Nat) (A : Option Addr) (n c : Nat) (xs : List Value) (w : World) : Prop :=
 xs.length = n * size ∧ n ≤ c ∧ c ≤ 9223372036854775807 ∧ ((A = none ∧ c = 0) ∨ ∃ (g o : Nat) (cur : Array Value), A = some ⟨g, o, none⟩ ∧ Blk w g e cur ∧ o + c * size ≤ cur.size ∧ ∀ j u, xs[j]? = some u → cur[o + j]? = some u)
def Win (e size : Nat) (A : Option Addr) (n c : Nat) (xs : List Value) : Ent := ⟨fun k => A.map (·.block) = some k, WinΦ e size A n c xs⟩
theorem Win.ok (h : WinΦ e size A n c xs w) : (Win e size A n c xs).ok w := by
 refine Ent.mk_ok h (fun k hk => ?_) (fun S w1 w2 hc hS h1 => ?_)
 ·rcases h.2.2.2 with ⟨rfl, _⟩ | ⟨g, o, cur, rfl, hb, _⟩
  ·simp at hk
  simp at hk; subst hk; exact Blk.lt hb
 refine ⟨h1.1, h1.2.1, h1.2.2.1, ?_⟩
 rcases h1.2.2.2 with h2 | ⟨g, o, cur, rfl, hb, h3⟩
 ·exact .inl h2
 exact .inr ⟨g, o, cur, Z, Blk.chg hb hc (hS g Z), h3⟩
section
variable {P : Program} {N : Nat} {ops : Array Oper} {Q : XPost} {rest : List Oper} {ρ : Env} {o : Oper} {w0 w : World} {S : Nat → Prop} {H : List Ent} {d t : Nat}
theorem Inv.winOf (hI : Inv S w0 w (Row base e size A n c xs :: H)) : Inv S w0 w (Win e size A n c xs :: H) := by
 have h1 : w.ownsRow base e size (.slice A n c) n xs := (hI.ok _ (List.mem_cons_self ..)).1
 refine hI.u0 (e' := Win e size A n c xs) (Chg.refl _ _) (Win.ok ?_) (fun k hk => .inl hk)
 rcases h1.2 with ⟨hv, h0⟩ | ⟨g, cap, cur, hv, hb, hh, hnc, hcm, hcs, htake⟩
 ·injection hv with q1 q2 q3
  subst q1 q2 q3
  exact ⟨h1.1, Nat.le_refl _, by omega, .inl ⟨rfl, rfl⟩⟩
 injection hv with q1 q2 q3
 subst q1 q3
 refine ⟨h1.1, hnc, hcm, .inr ⟨g, 0, cur, Z, hh, by omega, fun j u hj => ?_⟩⟩
 rw [← htake] at hj
 have := (gS_ hj)
 obtain ⟨hl, he⟩ := this
 rw [List.getElem_take] at he
 rw [Nat.zero_add]
 rw [List.length_take] at hl
 rw [Array.getElem?_eq_getElem (by have : j < cur.toList.length := by omega
                                   simpa using this)]
 rw [← he]; simp
theorem Inv.winGet {j : Nat} {u : Value} (hI : Inv S w0 w (Win e 1 A n c xs :: H)) (hj : xs[j]? = some u) : ∃ g o, A = some ⟨g, o, none⟩ ∧ w.cell? ⟨g, o + j, none⟩ = some u := by
 obtain ⟨h1, h2, h3, h4⟩ := (hI.ok _ (List.mem_cons_self ..)).1
 have hl := (gS_ hj).1
 rcases h4 with ⟨_, rfl⟩ | ⟨g, o, cur, rfl, hb, hc, hx⟩
 ·omega
 exact ⟨g, o, Z, by rw [hb.cell]; exact hx j u hj⟩
theorem Inv.winTail {x : Value} (hI : Inv S w0 w (Win e 1 A (n + 1) c (x :: xs) :: H)) : Inv S w0 w (Win e 1 (if c = 1 then A else A.map (·.add (1 * 1))) n (c - 1) xs :: H) := by
 obtain ⟨h1, h2, h3, h4⟩ := (hI.ok _ (List.mem_cons_self ..)).1
 rcases h4 with ⟨_, rfl⟩ | ⟨g, o, cur, rfl, hb, hc, hx⟩
 ·omega
 refine hI.u0 (Chg.refl _ _) (Win.ok ⟨by simpa using h1, by omega, by omega, .inr ?_⟩) (fun k hk => .inl ?_)
 ·by_cases h : c = 1
  ·rw [if_pos h]
   refine ⟨g, o, cur, Z, hb, by omega, fun j u hj => ?_⟩
   have := (gS_ hj).1
   have : xs.length + 1 = (n + 1) * 1 := by simpa using h1
   omega
  rw [if_neg h]
  refine ⟨g, o + 1, cur, by simp [Addr.add_lit], hb, by omega, fun j u hj => ?_⟩
  have := hx (j + 1) u (by simpa using hj)
  rw [← this]; congr 1; omega
 have hk : ((if c = 1 then some (⟨g, o, none⟩ : Addr) else (some (⟨g, o, none⟩ : Addr)).map (·.add (1 * 1)))).map (·.block) = some k := hk
 show (some (⟨g, o, none⟩ : Addr)).map (·.block) = some k
 rw [← hk]
 split <;> simp [Addr.add_lit]
theorem pure_drew (w : World) (o : Obj) : Pure w (w.drew.alloc o) := by
 have h : Chg NF w w.drew := ⟨rfl, rfl, rfl, Nat.le_refl _, fun k hk _ => rfl⟩
 exact (h.toPure).trans ((Pure.refl _).alloc _)
theorem WL_appW {news : List Value} (yv : Value) (hI : Inv S w0 w (Win e size A n c xs :: H)) (hw : wantedR ops ρ o = true) (hd : o.dst = some d) (hN : Nat.blt d N = true)
  (ho : o.op = .call { callee := .builtin .append, args := #[x, y], argTypes := #[t, u] }) (hx : ev ρ x = .slice A n c) (hy : ev ρ y = yv) (ht : P.underlying t = some (.slice e))
  (hi0 : (P.info? e).map (fun i => (i.zero, i.size, i.bytes)) = some (some z, size, by_)) (hz1 : z.cells.size = size) (hsz : 0 < size) (hs : Src P size u yv m news w)
  (h63 : n + m ≤ 9223372036854775807) (hby : (n + m) * by_ ≤ 140737488355328)
  (h : ∀ A' c' w', n + m ≤ c' → c' ≤ 9223372036854775807 → Inv S w0 w' (Win e size A' (n + m) c' (xs ++ news) :: H) → WL P N ops Q rest (upd ρ d (.slice A' (n + m) c')) w') : WL P N ops Q (o :: rest) ρ w := by
 cases hp : P.info? e with
 | none => simp [hp] at hi0
 | some q =>
  simp only [hp, Option.map_some, Option.some.injEq, Prod.mk.injEq] at hi0
  obtain ⟨q1, q2, q3⟩ := hi0
  subst q2 q3
  obtain ⟨h1, h2, h3, h4⟩ := (hI.ok _ (List.mem_cons_self ..)).1
  have hnl := hs.newsLen
  have hcont : ∀ (A' : Option Addr) (c' : Nat) (w' : World), (Builtin.append_ #[t, u] o.type #[.slice A n c, yv]).run P w = .ok (.slice A' (n + m) c') w' → n + m ≤ c' → c' ≤ 9223372036854775807 → Inv S w0 w' (Win e q.size A' (n + m) c' (xs ++ news) :: H) → WL P N ops Q (o :: rest) ρ w := fun A' c' w' hrun hc1 hc2 hI' =>
   WL_eff hw hd hN (v := .slice A' (n + m) c') (w' := w') (by simp [execOp, ho, resolve, invoke, builtin, hx, hy, hrun]) (h A' c' w' hc1 hc2 hI')
  have hlen : (xs ++ news).length = (n + m) * q.size := by rw [List.length_append, h1, hnl, Nat.add_mul]
  by_cases hroom : n + m ≤ c
  ·rcases h4 with ⟨rfl, rfl⟩ | ⟨g, of, cur, rfl, hb, hcs, hxs⟩
   ·have hm0 : m = 0 := by omega
    have hn0 : n = 0 := by omega
    subst hm0 hn0
    have hne : news = [] := List.eq_nil_of_length_eq_zero (by simpa using hnl)
    subst hne
    refine hcont none 0 w (run_append_nothing w t u o.type e q ht hp none 0 0 (Nat.le_refl _) yv hs) (by omega) (by omega) ?_
    rw [List.append_nil]; exact hI
   have hsum : n * q.size + m * q.size ≤ c * q.size := by rw [← Nat.add_mul]; exact Nat.mul_le_mul_right _ hroom
   have hB2 := hb.setCells news (of + n * q.size)
   refine hcont (some ⟨g, of, none⟩) c (w.setCells g (of + n * q.size) news) (run_append_room_src w t u o.type e q ht hp g of n c yv m news hs hroom (fun j hj => ?_) (fun j hj => hb.frozen _)) (by omega) h3 ?_
   ·rw [hb.cell, Array.getElem?_eq_getElem (by omega)]; rfl
   refine hI.u0 (e' := Win e q.size (some ⟨g, of, none⟩) (n + m) c (xs ++ news)) (Chg.setCells (S := (Win e q.size (some ⟨g, of, none⟩) n c xs).D) (b := g) (.inl Z) _ _ (Chg.refl _ _)) (Win.ok ⟨hlen, hroom, h3, .inr ⟨g, of, _, Z, hB2, by rw [splice_size]; exact hcs, fun j u hj => ?_⟩⟩) (fun k hk => .inl hk)
   rw [splice_get _ _ _ _ (by omega)]
   by_cases hjn : j < n * q.size
   ·rw [if_neg (by omega)]
    rw [List.getElem?_append_left (by omega)] at hj
    exact hxs j u hj
   have hjl := (gS_ hj).1
   rw [if_pos (by rw [hlen, Nat.add_mul] at hjl; omega)]
   rw [List.getElem?_append_right (by omega), h1] at hj
   rw [← hj]; congr 1; omega
  have hold : (Builtin.firstCells q.size n (.slice A n c)).run P w.drew = .ok xs.toArray w.drew := by
   rcases h4 with ⟨rfl, rfl⟩ | ⟨g, of, cur, rfl, hb, hcs, hxs⟩
   ·have hn0 : n = 0 := by omega
    subst hn0
    have hne : xs = [] := List.eq_nil_of_length_eq_zero (by simpa using h1)
    subst hne
    exact run_firstCells_none _ _ _ _ _
   refine run_firstCells_some w.drew q.size n ⟨g, of, none⟩ n c xs h1 fun j v hj => ?_
   rw [Addr.add_lit]
   have hb' : Blk w.drew g e cur := hb
   rw [hb'.cell]
   exact hxs j v hj
  have hrun := run_append_grow_src (P := P) w t u o.type e q z ht hp q1 A n c xs hold yv m news hs (by omega) (by omega) (growslice_fits (by omega) hby)
  have hge := grownCap_ge w (n + m) c e
  have hcm := grownCap_le_maxLen w (n + m) c e (by simpa [maxLen] using h63)
  refine hcont _ _ _ hrun hge (by simpa [maxLen] using hcm) ?_
  have hnew : Blk (w.drew.alloc (.cells ((xs ++ news).toArray ++ Builtin.zeroCells z.cells (grownCap w (n + m) c e - (n + m))) e)) w.heap.size e ((xs ++ news).toArray ++ Builtin.zeroCells z.cells (grownCap w (n + m) c e - (n + m))) := heap_alloc_new w.drew _
  refine hI.d0.fresh (pure_drew w _) (Win.ok ⟨hlen, hge, by simpa [maxLen] using hcm, .inr ⟨w.heap.size, 0, _, rfl, hnew, ?_, fun j u hj => ?_⟩⟩) (fun k hk => ?_)
  ·have e1 : (n + m) + (grownCap w (n + m) c e - (n + m)) = grownCap w (n + m) c e := by omega
   rw [Array.size_append, List.size_toArray, hlen, size_zeroCells, hz1, ← Nat.add_mul, e1, Nat.zero_add]
   exact Nat.le_refl _
  ·have hjl := (gS_ hj).1
   rw [Nat.zero_add, Array.getElem?_append_left (by simpa using hjl)]
   simpa using hj
  have hk : some w.heap.size = some k := hk
  injection hk with hk
  omega
end
open Go Go.RowKit
abbrev strV (l : List UInt8) : Value := .string ⟨l.toArray⟩
theorem str_size (l : List UInt8) : (⟨l.toArray⟩ : ByteArray).size = l.length := by simp [ByteArray.size]
theorem str_list (l : List UInt8) : (⟨l.toArray⟩ : ByteArray).data.toList = l := rfl
theorem str_toList (l : List UInt8) : (⟨l.toArray⟩ : ByteArray).toList = l := by simp
section
variable {P : Program} {ρ : Env} {o : Oper} {w : World} {x y z : Operand} {t t' : TypeId} {k k' : IntKind} {l m : List UInt8}
theorem rStrAt {c : UInt8} (ho : o.op = .index t x y) (ht : P.underlying t = some .string) (hx : ev ρ x = strV l) (hy : ev ρ y = .int k (i : Int)) (hi : l[i]? = some c) : Runs P ρ o w (.int .u8 (c.toNat : Int)) := by
 have hl := (gS_ hi).1
 have h := run_index_string (P := P) w t ⟨l.toArray⟩ k (i : Int) ht
 rw [dif_pos ⟨by omega, by rw [str_size]; omega⟩] at h
 have e : (⟨l.toArray⟩ : ByteArray)[(i : Int).toNat]'(by rw [str_size]; omega) = c := by
  show l.toArray[(i : Int).toNat]'_ = c
  have := (gS_ hi).2
  simpa using this
 rw [e] at h
 simp [Runs, execOp, ho, hx, hy, h]
theorem str_extract (a b : Nat) : (⟨l.toArray⟩ : ByteArray).extract a b = ⟨((l.drop a).take (b - a)).toArray⟩ := by
 apply ByteArray.ext
 rw [ByteArray.data_extract]
 simp [List.extract_eq_take_drop]
theorem rStrSlTo (ho : o.op = .slice t x none (some z) none) (ht : P.underlying t = some .string) (hx : ev ρ x = strV l) (hz : ev ρ z = .int k' (b : Int)) (hb : b ≤ l.length) : Runs P ρ o w (strV (l.take b)) := by
 have e := str_extract (l := l) 0 b
 rw [List.drop_zero, Nat.sub_zero] at e
 show Runs P ρ o w (Value.string ⟨(l.take b).toArray⟩)
 rw [← e]
 have hs : b ≤ (⟨l.toArray⟩ : ByteArray).size := by rw [str_size]; exact hb
 simp [Runs, execOp, ho, hx, hz, Instr.sliceAt, Instr.slice, Instr.sliceBounds, Instr.sliceBound, asIntOf, run_underlying ht, hs]
theorem rStrSlFrom (ho : o.op = .slice t x (some y) none none) (ht : P.underlying t = some .string) (hx : ev ρ x = strV l) (hy : ev ρ y = .int k (a : Int)) (ha : a ≤ l.length) : Runs P ρ o w (strV (l.drop a)) := by
 have e := str_extract (l := l) a l.length
 rw [List.take_of_length_le (by simp)] at e
 show Runs P ρ o w (Value.string ⟨(l.drop a).toArray⟩)
 rw [← e]
 have hs : a ≤ (⟨l.toArray⟩ : ByteArray).size := by rw [str_size]; exact ha
 rw [← str_size l]
 simp [Runs, execOp, ho, hx, hy, Instr.sliceAt, Instr.slice, Instr.sliceBounds, Instr.sliceBound, asIntOf, run_underlying ht, hs]
theorem rStrLen (ho : o.op = .call { callee := .builtin .len, args := #[x], argTypes := #[t] }) (ht : P.underlying t = some .string) (hx : ev ρ x = strV l) : Runs P ρ o w (.int .i64 (l.length : Int)) := by
 have := rLenStr (P := P) (w := w) ho ht hx
 rwa [str_size] at this
theorem rStrEq (ho : o.op = .binOp .eql t x y t') (hx : ev ρ x = strV l) (hy : ev ρ y = strV m) : Runs P ρ o w (.bool (decide (l = m))) := by
 have := rStrEql (P := P) (w := w) ho hx hy
 rw [str_toList, str_toList] at this
 rw [show decide (l = m) = (l == m) from by cases h : decide (l = m) <;> simp_all]
 exact this
theorem rStrEqT (ho : o.op = .binOp .eql t x y t') (hx : ev ρ x = strV l) (hy : ev ρ y = strV m) (h : l = m) : Runs P ρ o w (.bool true) := by
 have := rStrEq (P := P) (w := w) ho hx hy
 rwa [decide_eq_true h] at this
theorem rStrEqF (ho : o.op = .binOp .eql t x y t') (hx : ev ρ x = strV l) (hy : ev ρ y = strV m) (h : l ≠ m) : Runs P ρ o w (.bool false) := by
 have := rStrEq (P := P) (w := w) ho hx hy
 rwa [decide_eq_false h] at this
theorem rStrNe (ho : o.op = .binOp .neq t x y t') (hx : ev ρ x = strV l) (hy : ev ρ y = strV m) : Runs P ρ o w (.bool (!decide (l = m))) := by
 have e : decide (l = m) = (l == m) := by cases h : decide (l = m) <;> simp_all
 rw [e]
 simp [Runs, execOp, ho, hx, hy, eqGuard, binOp, Op.stringOp]
theorem rStrNeT (ho : o.op = .binOp .neq t x y t') (hx : ev ρ x = strV l) (hy : ev ρ y = strV m) (h : l ≠ m) : Runs P ρ o w (.bool true) := by
 have := rStrNe (P := P) (w := w) ho hx hy
 rwa [decide_eq_false h] at this
theorem rStrNeF (ho : o.op = .binOp .neq t x y t') (hx : ev ρ x = strV l) (hy : ev ρ y = strV m) (h : l = m) : Runs P ρ o w (.bool false) := by
 have := rStrNe (P := P) (w := w) ho hx hy
 rwa [decide_eq_true h] at this
theorem rStrAdd (ho : o.op = .binOp .add t x y t') (hx : ev ρ x = strV l) (hy : ev ρ y = strV m) (hl : l.length + m.length ≤ 9223372036854775807) : Runs P ρ o w (strV (l ++ m)) := by
 have e : (⟨l.toArray⟩ : ByteArray) ++ (⟨m.toArray⟩ : ByteArray) = ⟨(l ++ m).toArray⟩ := by
  apply ByteArray.ext
  rw [ByteArray.data_append]
  simp
 have h1 := str_size l
 have h2 := str_size m
 have h3 : ((⟨l.toArray⟩ : ByteArray).size : Int) + ((⟨m.toArray⟩ : ByteArray).size : Int) ≤ 9223372036854775807 := by omega
 simp [Runs, execOp, ho, hx, hy, eqGuard, binOp, Op.stringOp, e, h3]
end
def bytesL (l : List UInt8) : List Value := l.map fun b => Value.int .u8 (b.toNat : Int)
theorem src_str {P : Program} {t : TypeId} (ht : P.underlying t = some .string) (l : List UInt8) : Src P 1 t (strV l) l.length (bytesL l) w := by
 have h := Src.ofString (w := w) ht ⟨l.toArray⟩
 rw [str_size] at h
 exact h
open Go.RowKit
structure NumG (w : World) : Prop where
 syn : ∃ tp p, w.var? prog "strconv.ErrSyntax" = some #[.iface tp p]
 rng : ∃ tp p, w.var? prog "strconv.ErrRange" = some #[.iface tp p]
 tab : Lib.TabIs prog w "internal/strconv.uint64pow10" .u64 Lib.pow10Tab
def NoG (S : Nat → Prop) : Prop := ¬ S 10 ∧ ¬ S 11 ∧ ¬ S 3
theorem gsynN : prog.globalNamed "strconv.ErrSyntax" = some 10 := by kernel_rfl
theorem grngN : prog.globalNamed "strconv.ErrRange" = some 11 := by kernel_rfl
theorem gpowN : prog.globalNamed "internal/strconv.uint64pow10" = some 3 := by kernel_rfl
theorem var_keep {S : Nat → Prop} {w' : World} {name : String} {g : Nat} {cs : Array Value} (hg : prog.globalNamed name = some g) (hc : Chg S w w') (hS : ¬ S g) (h : w.var? prog name = some cs) : w'.var? prog name = some cs := by
 unfold World.var? at h ⊢
 rw [hg, Option.bind_some] at h ⊢
 have hlt : g < w.heap.size := by
  refine Nat.lt_of_not_le fun hn => ?_
  rw [Array.getElem?_eq_none hn] at h
  cases h
 rw [hc.block g hlt hS]
 exact h
theorem NumG.chg {S : Nat → Prop} {w' : World} (h : NumG w) (hc : Chg S w w') (hS : NoG S) : NumG w' := by
 obtain ⟨⟨t1, p1, h1⟩, ⟨t2, p2, h2⟩, h3⟩ := h
 exact ⟨⟨t1, p1, var_keep gsynN hc hS.1 h1⟩, ⟨t2, p2, var_keep grngN hc hS.2.1 h2⟩, var_keep gpowN hc hS.2.2 h3⟩
theorem NoG.none : NoG (fun _ => False) := ⟨id, id, id⟩
def atoiPost (t : Tok) (w : World) (e : Ending) (w' : World) : Prop := (match Lib.atoiAll t with
 | .ok n => e = .returned (.tuple #[.int .i64 n, .nilIface]) ∧ -9223372036854775808 ≤ n ∧ n ≤ 9223372036854775807
 | _ => ∃ n T u, e = .returned (.tuple #[.int .i64 n, .iface T u])) ∧ Pure w w'
theorem atoi_any (t : Tok) (ht : t.length ≤ 1000000) (w : World) (hG : NumG w) : Cq 153 #[strV t] w (atoiPost t w) := by
 have hs : (⟨t.toArray⟩ : ByteArray).size = t.length := str_size t
 unfold atoiPost
 cases h : Lib.atoiAll t
 ·rename_i n
  refine (Any.strconv_Atoi_ok laysC172 ⟨t.toArray⟩ (by omega) n h w).mono ?_
  rintro e w' ⟨rfl, hw⟩
  refine ⟨⟨Z, by have := Lib.atoiAll_bounds h; omega⟩, ?_⟩
  rcases hw with rfl | ⟨x, rfl⟩
  ·exact Pure.refl _
  exact Lib.bytesWorld_below _ _ _
 ·obtain ⟨tp, p, hv⟩ := hG.syn
  refine (Any.strconv_Atoi_syntax_var laysC172 ⟨t.toArray⟩ (by omega) h tp p w hv).mono ?_
  rintro e w' ⟨N, rfl, -, -, hb⟩
  exact ⟨⟨_, _, _, Z⟩, hb⟩
 obtain ⟨tp, p, hv⟩ := hG.rng
 refine (Any.strconv_Atoi_range_var laysC172 ⟨t.toArray⟩ (by omega) h tp p w hv).mono ?_
 rintro e w' ⟨N, rfl, -, -, hb⟩
 exact ⟨⟨_, _, _, Z⟩, hb⟩
theorem itoa_any (n : Int) (h1 : -9223372036854775808 ≤ n) (h2 : n ≤ 9223372036854775807) (w : World) (hG : NumG w) : Cq 10 #[.int .i64 n] w fun e w' => e = .returned (strV (Lib.itoa n)) ∧ Pure w w' := by
 refine (Any.strconv_Itoa laysM171 n h1 h2 w hG.tab).mono ?_
 rintro e w' ⟨rfl, k, os, rfl⟩
 refine ⟨Z, ⟨Z, Z, Z, ?_, fun j hj => ?_⟩⟩
 ·show w.heap.size ≤ (w.heap ++ os).size
  rw [Array.size_append]; omega
 show (w.heap ++ os)[j]? = w.heap[j]?
 rw [Array.getElem?_append_left hj]
end Go.Proofs.YtnckdmogdehnoaaGreatDoor
namespace Go.Proofs.YtnckdmogdehnoaaGreatDoor
open Tryz
open Go
variable {k : IntKind} {xs : List Value} {a b base by_ c e i m n size : Nat} {D : Nat → Prop} {x y : Operand} {A : Option Addr} {u : TypeId} {z : Value} {w : World}
def typeS : List UInt8 := [105, 110, 118, 111, 107, 101, 32, 111, 107, 32, 102, 97, 105, 108, 32, 105, 110, 102, 111]
def kindS : List UInt8 := [114, 101, 97, 100, 32, 119, 114, 105, 116, 101, 32, 115, 119, 97, 112, 32, 97, 100, 100, 32, 103, 101, 116, 32, 112, 117, 116, 32, 100, 114, 111, 112, 32, 104, 97, 115, 32, 112, 117, 115, 104, 32, 112, 111, 112, 32, 108, 111, 99, 107, 32, 117, 110, 108, 111, 99, 107]
def typeWs : List (List UInt8) := [[105, 110, 118, 111, 107, 101], [111, 107], [102, 97, 105, 108], [105, 110, 102, 111]]
def kindWs : List (List UInt8) := [[114, 101, 97, 100], [119, 114, 105, 116, 101], [115, 119, 97, 112], [97, 100, 100], [103, 101, 116], [112, 117, 116], [100, 114, 111, 112], [104, 97, 115], [112, 117, 115, 104], [112, 111, 112], [108, 111, 99, 107], [117, 110, 108, 111, 99, 107]]
theorem fields_typeS : Lib.fields typeS = typeWs := by decide +kernel
theorem fields_kindS : Lib.fields kindS = kindWs := by decide +kernel
theorem typeWs_ok : ∀ w ∈ typeWs, (w ≠ [] ∧ ∀ c ∈ w, wordB c = true) ∧ w.length ≤ 6 := by decide +kernel
theorem kindWs_ok : ∀ w ∈ kindWs, (w ≠ [] ∧ ∀ c ∈ w, wordB c = true) ∧ w.length ≤ 6 := by decide +kernel
theorem typeS_ascii : ∀ (j : Nat) b, typeS[j]? = some b → b.toNat < 128 := fun j b h => (by decide +kernel : ∀ b ∈ typeS, b.toNat < 128) b (gM_ h)
theorem kindS_ascii : ∀ (j : Nat) b, kindS[j]? = some b → b.toNat < 128 := fun j b h => (by decide +kernel : ∀ b ∈ kindS, b.toNat < 128) b (gM_ h)
def tyW (e : Ev) : List UInt8 := typeWs.getD (e.ty - 1).toNat []
def kdW (e : Ev) : List UInt8 := kindWs.getD (e.kind - 1).toNat []
def wordsE (e : Ev) : List (List UInt8) := [Lib.itoa e.proc, tyW e, kdW e, Lib.itoa e.key, Lib.itoa e.a, Lib.itoa e.b, Lib.itoa e.res]
def lineE (e : Ev) : List UInt8 := Lib.join (wordsE e) [32]
def textE (l : List Ev) : List UInt8 := linesT (l.map lineE)
def evT (l : List Ev) : Option (List UInt8) := if l.length ≤ 120 ∧ l.all evOkB = true then some (textE l) else none
structure EvOk (e : Ev) : Prop where
 p : 0 ≤ e.proc ∧ e.proc ≤ 7
 k : 0 ≤ e.key ∧ e.key ≤ 7
 t : 1 ≤ e.ty ∧ e.ty ≤ 4
 kd : 1 ≤ e.kind ∧ e.kind ≤ 12
 a : -1000000 ≤ e.a ∧ e.a ≤ 1000000
 b : -1000000 ≤ e.b ∧ e.b ≤ 1000000
 r : -1000000 ≤ e.res ∧ e.res ≤ 1000000
theorem EvOk.of {e : Ev} (h : evOkB e = true) : EvOk e := by
 simp only [evOkB, toldB, inB, List.all_cons, List.all_nil, Bool.and_eq_true, decide_eq_true_eq, Bool.and_true] at h
 obtain ⟨⟨⟨⟨⟨⟨ha, hb, hr⟩, hp⟩, hk⟩, ht⟩, hkd⟩, _⟩ := h
 exact ⟨hp, hk, ht, hkd, ha, hb, hr⟩
theorem EvOk.tyAt {e : Ev} (h : EvOk e) : typeWs[(e.ty - 1).toNat]? = some (tyW e) := by
 have hl : (e.ty - 1).toNat < typeWs.length := by have := h.t; show _ < 4; omega
 rw [tyW, List.getD_eq_getElem?_getD, gE_ hl]; rfl
theorem EvOk.kdAt {e : Ev} (h : EvOk e) : kindWs[(e.kind - 1).toNat]? = some (kdW e) := by
 have hl : (e.kind - 1).toNat < kindWs.length := by have := h.kd; show _ < 12; omega
 rw [kdW, List.getD_eq_getElem?_getD, gE_ hl]; rfl
theorem EvOk.tyOk {e : Ev} (h : EvOk e) : (tyW e ≠ [] ∧ ∀ c ∈ tyW e, wordB c = true) ∧ (tyW e).length ≤ 6 := typeWs_ok _ (gM_ h.tyAt)
theorem EvOk.kdOk {e : Ev} (h : EvOk e) : (kdW e ≠ [] ∧ ∀ c ∈ kdW e, wordB c = true) ∧ (kdW e).length ≤ 6 := kindWs_ok _ (gM_ h.kdAt)
theorem lineE_eq (e : Ev) : lineE e = Lib.itoa e.proc ++ 32 :: (tyW e ++ 32 :: (kdW e ++ 32 :: (Lib.itoa e.key ++ 32 :: (Lib.itoa e.a ++ 32 :: (Lib.itoa e.b ++ 32 :: Lib.itoa e.res))))) := by
 simp [lineE, wordsE, Lib.join, List.intercalate, List.intersperse]
theorem lineE_len {e : Ev} (h : EvOk e) : (lineE e).length ≤ 58 := by
 have h1 := itoaT_len (n := e.proc) (by have := h.p; omega) (by have := h.p; omega)
 have h2 := itoaT_len (n := e.key) (by have := h.k; omega) (by have := h.k; omega)
 have h3 := itoaT_len h.a.1 h.a.2
 have h4 := itoaT_len h.b.1 h.b.2
 have h5 := itoaT_len h.r.1 h.r.2
 have h6 := h.tyOk.2
 have h7 := h.kdOk.2
 rw [lineE_eq]
 simp only [List.length_append, List.length_cons]
 omega
theorem textE_snoc (l : List Ev) (e : Ev) : textE (l ++ [e]) = textE l ++ (lineE e ++ [10]) := by simp [textE, linesT]
theorem textE_cons (l : List Ev) (e : Ev) : textE (e :: l) = lineE e ++ 10 :: textE l := by simp [textE, linesT]
theorem textE_len : ∀ (l : List Ev), (∀ e ∈ l, EvOk e) → (textE l).length ≤ 59 * l.length
 | [], _ => Nat.le_refl _
 | e :: l, h => by
  have h1 := textE_len l (fun x hx => h x (by simp [hx]))
  have h2 := lineE_len (h e (by simp))
  rw [textE_cons, List.length_append, List.length_cons, List.length_cons]
  omega
theorem map_bytes_inj {xs : List ByteArray} {ys : List (List UInt8)} (h : xs.map (·.data.toList) = ys) : xs = ys.map fun (y : List UInt8) => (⟨y.toArray⟩ : ByteArray) := by
 subst h
 rw [List.map_map]
 conv => lhs; rw [← List.map_id xs]
 exact List.map_congr_left fun x _ => Z
theorem evOk_all {l : List Ev} (h : l.all evOkB = true) : ∀ e ∈ l, EvOk e := fun e he => .of (List.all_eq_true.1 h e he)
section
variable {P : Program} {N : Nat} {ops : Array Oper} {Q : XPost} {rest : List Oper} {ρ : Env} {o : Oper} {w0 w w' : World} {S : Nat → Prop} {H : List Ent} {d t : Nat} {x y z : Operand} {v : Value}
theorem rIdxStr {s : ByteArray} {b : UInt8} {c : Int} (ho : o.op = .index t x y) (ht : P.underlying t = some .string) (hx : ev ρ x = .string s) (hy : ev ρ y = .int k (i : Int)) (hb : s[i]? = some b) (hc : (b.toNat : Int) = c) : Runs P ρ o w (.int .u8 c) := by
 subst hc
 simp [Runs, execOp, ho, hx, hy, Instr.index, asIntOf, run_underlying ht, hb]
theorem rIdxAg {cs : Array Value} (ho : o.op = .index t x y) (ht : P.underlying t = some (.array n e)) (he : plainB P e = true) (hs : szB P e 1 = true) (hx : ev ρ x = .agg cs) (hy : ev ρ y = .int k (i : Int)) (hi : i < n) (hv : cs[i]? = some v) : Runs P ρ o w v := by
 have hi' : (i : Int) < (n : Int) := by omega
 simp [Runs, execOp, ho, hx, hy, Instr.index, asIntOf, run_underlying ht, run_size hs, hi, part, run_isAgg_plain he, hv]
theorem rSliceArr {g j : Nat} (ho : o.op = .slice t x (some y) none none) (ht : P.underlying t = some (.array n e)) (hs : szB P e 1 = true) (hx : ev ρ x = .pointer (some ⟨g, j, none⟩)) (hy : ev ρ y = .int k (i : Int)) (hi : i < n) : Runs P ρ o w (.slice (some ⟨g, j + i, none⟩) (n - i) (n - i)) := by
 have h1 : ¬ n = i := by omega
 have h2 : (i : Int) ≤ (n : Int) := by omega
 have h3 : i ≤ n := by omega
 simp [Runs, execOp, ho, hx, hy, Instr.sliceAt, Instr.sureAddr, Instr.sliceBounds, Instr.sliceBound, asIntOf, run_underlying ht, run_size hs, h1, h3, Addr.add_lit]
theorem rBytesStr {s : Nat} {l : List Nat} (ho : o.op = .convert s t x) (hs : P.underlying s = some (.slice e)) (he : P.underlying e = some (.int .u8)) (ht : P.underlying t = some .string) (hx : ev ρ x = .slice A n c) (hr : w.ownsRow base e 1 (.slice A n c) n (l.map fun b : Nat => Value.int .u8 (b : Int))) (hb : ∀ b ∈ l, b < 256) (h0 : 0 < n) : Runs P ρ o w (.string (strB l)) := by
 obtain ⟨g, o', rfl⟩ := row_addrS hr h0 (by omega)
 have hl : l.length = n := by have := hr.1; simpa using this
 have h := run_convert_bytes_back (P := P) w s t e ⟨g, o', none⟩ c (l.map UInt8.ofNat) hs he ht (fun j hj => by
  have hj' : j < l.length := by simpa using hj
  rw [Addr.add_lit]
  have h2 : ((l.map UInt8.ofNat)[j].toNat : Int) = (l[j] : Int) := by
   have := hb _ (List.getElem_mem hj')
   simp
   omega
  rw [h2]
  exact row_cellS hr (by simp [hj']) h0)
 have e1 : (l.map UInt8.ofNat).length = n := by simpa using hl
 rw [e1] at h
 simp [Runs, execOp, ho, hx, h, strB]
theorem WL_mkCap {zv : Value} (hI : Inv S w0 w H) (hw : wantedR ops ρ o = true) (hd : o.dst = some d) (hN : Nat.blt d N = true) (ho : o.op = .makeSlice t x y) (hx : ev ρ x = .int .i64 0) (hy : ev ρ y = .int .i64 (n : Int))
  (ht : P.underlying t = some (.slice e)) (hi : (P.info? e).map (fun i => (i.zero, i.size, i.bytes)) = some (some zv, 1, by_)) (hb : by_ * n ≤ 281474976710656) (h63 : n ≤ 9223372036854775807) (hbase : base ≤ w.heap.size)
  (h : ∀ g w', Pure w w' → g = w.heap.size → Inv S w0 w' (Row base e 1 (some ⟨g, 0, none⟩) 0 n [] :: H) → WL P N ops Q rest (upd ρ d (.slice (some ⟨g, 0, none⟩) 0 n)) w') : WL P N ops Q (o :: rest) ρ w := by
 cases hp : P.info? e with
 | none => simp [hp] at hi
 | some i =>
  simp only [hp, Option.map_some, Option.some.injEq, Prod.mk.injEq] at hi
  obtain ⟨h1, h2, h3⟩ := hi
  obtain ⟨w', hr, h4, h5⟩ := run_make_own (P := P) w base t e i zv 1 ht hp h1 h2 .i64 .i64 n (by rw [h3]; exact hb) (by simpa [maxLen] using h63) hbase
  have hpu : Pure w w' := (Pure.refl w).grown h5 (fun k hk => by cases hk)
  refine WL_eff hw hd hN (by simp [execOp, ho, hx, hy, hr]) (h _ _ hpu Z (hI.fresh hpu (Row.ok h4) (fun k hk => ?_)))
  have : some w.heap.size = some k := hk
  injection this with this
  omega
end
theorem bytes_beq (a b : ByteArray) : (a == b) = decide (a = b) := by
 obtain ⟨a⟩ := a
 obtain ⟨b⟩ := b
 show ByteArray.beq _ _ = _
 unfold ByteArray.beq
 simp
 by_cases h : a = b
 ·subst h; simp
 simp [h]
theorem strB_beq {a b : List Nat} (ha : ∀ c ∈ a, c < 256) (hb : ∀ c ∈ b, c < 256) : (strB a == strB b) = decide (a = b) := by
 rw [bytes_beq]
 by_cases h : a = b
 ·subst h; simp
 simp only [h, decide_false, decide_eq_false_iff_not]
 exact fun e => h (strB_inj ha hb e)
def KsIs (es : List MapEntry) (ks : List (List Nat)) : Prop := es.map (fun e => (e.key, e.val)) = ks.map (fun k => (Value.string (strB k), Value.agg #[]))
theorem findNow_str {a : List Nat} (ha : ∀ c ∈ a, c < 256) : ∀ (es : List MapEntry) (ks : List (List Nat)) (i : Nat), KsIs es ks → (∀ k ∈ ks, ∀ c ∈ k, c < 256) →
  (a ∉ ks ∧ Instr.findNow .string (.string (strB a)) es i = some none) ∨ (a ∈ ks ∧ ∃ j, Instr.findNow .string (.string (strB a)) es i = some (some (j, .agg #[])))
 | [], [], i, _, _ => .inl ⟨by simp, rfl⟩
 | [], _ :: _, i, h, _ => by simp [KsIs] at h
 | _ :: _, [], i, h, _ => by simp [KsIs] at h
 | e :: es, k :: ks, i, h, hs => by
  simp only [KsIs, List.map_cons, List.cons.injEq, Prod.mk.injEq] at h
  obtain ⟨⟨h1, h2⟩, h3⟩ := h
  have hb := strB_beq ha (hs k (by simp))
  by_cases hk : a = k
  ·refine .inr ⟨by simp [hk], i, ?_⟩
   have : (strB a == strB k) = true := by rw [hb]; simp [hk]
   simp only [Instr.findNow, h1, Instr.sameNow, this, h2]
  have : (strB a == strB k) = false := by rw [hb]; simp [hk]
  rcases findNow_str ha es ks (i + 1) h3 (fun k hk => hs k (by simp [hk])) with ⟨g1, g2⟩ | ⟨g1, j, g2⟩
  ·refine .inl ⟨by simp [hk, g1], ?_⟩
   simp only [Instr.findNow, h1, Instr.sameNow, this]
   exact g2
  refine .inr ⟨by simp [g1], j, ?_⟩
  simp only [Instr.findNow, h1, Instr.sameNow, this]
  exact g2
structure SetIs (w : World) (b : Nat) (ks : List (List Nat)) : Prop where
 ex : ∃ (es : Array MapEntry) (clk : Nat), w.heap[b]? = some (.map es clk) ∧ KsIs es.toList ks
 small : ∀ k ∈ ks, ∀ c ∈ k, c < 256
def SetE (b : Nat) (ks : List (List Nat)) : Ent := ⟨fun k => k = b, fun w => SetIs w b ks⟩
theorem SetE.ok {ks : List (List Nat)} (h : SetIs w b ks) : (SetE b ks).ok w := by
 refine Ent.mk_ok h (fun k hk => ?_) (fun S w1 w2 hc hS h1 => ?_)
 ·obtain ⟨es, clk, h1, _⟩ := h.ex
  have : k = b := hk
  subst this
  rcases Nat.lt_or_ge k w.heap.size with h2 | h2
  ·exact h2
  simp [Array.getElem?_eq_none h2] at h1
 obtain ⟨es, clk, h2, h3⟩ := h1.ex
 have hlt : b < w1.heap.size := by
  rcases Nat.lt_or_ge b w1.heap.size with h4 | h4
  ·exact h4
  simp [Array.getElem?_eq_none h4] at h2
 exact ⟨⟨es, clk, (hc.block b hlt (hS b Z)).trans h2, h3⟩, h1.small⟩
section
variable {P : Program} {N : Nat} {ops : Array Oper} {Q : XPost} {rest : List Oper} {ρ : Env} {o : Oper} {w0 w w' : World} {S : Nat → Prop} {H : List Ent} {d t kt et b : Nat} {x y z : Operand} {ks : List (List Nat)} {a : List Nat}
theorem WL_mkSet (hI : Inv S w0 w H) (hw : wantedR ops ρ o = true) (hd : o.dst = some d) (hN : Nat.blt d N = true) (ho : o.op = .makeMap t none)
  (h : ∀ b w', Pure w w' → b = w.heap.size → Inv S w0 w' (SetE b [] :: H) → WL P N ops Q rest (upd ρ d (.map (some b))) w') : WL P N ops Q (o :: rest) ρ w :=
 WL_eff hw hd hN (v := .map (some w.heap.size)) (w' := w.alloc (.map #[] 0)) (by simp [execOp, ho, Instr.makeMap])
  (h _ _ ((Pure.refl w).alloc _) rfl (hI.fresh ((Pure.refl w).alloc _) (SetE.ok ⟨⟨#[], 0, by show (w.heap.push _)[w.heap.size]? = _; simp, rfl⟩, by simp⟩) (fun k hk => by have : k = w.heap.size := hk; omega)))
theorem check_str {em : Bool} {s : ByteArray} (hk : P.underlying kt = some .string) : (Instr.checkKey em 10000 kt (.string s)).run P w = .ok () w := by
 show (Instr.checkKey em (Nat.succ 9999) kt (.string s)).run P w = .ok () w
 rw [Instr.checkKey]
 simp [run_underlying hk]
theorem rLookS (ho : o.op = .lookup t x y true) (ht : P.underlying t = some (.map kt et)) (hk : P.underlying kt = some .string) (hz : (P.info? et).bind (·.zero) = some (.agg #[])) (hx : ev ρ x = .map (some b)) (hy : ev ρ y = .string (strB a)) (ha : ∀ c ∈ a, c < 256) (hM : SetIs w b ks) :
  Runs P ρ o w (.tuple #[.agg #[], .bool (decide (a ∈ ks))]) := by
 obtain ⟨es, clk, h1, h2⟩ := hM.ex
 have hzv : (zeroValue et).run P w = .ok (.agg #[]) w := by
  cases hi : P.info? et with
  | none => simp [hi] at hz
  | some i => simp only [hi, Option.bind_some] at hz; simp [zeroValue, typeInfo, hi, hz]
 have hc := check_str (P := P) (w := w) (s := strB a) (em := es.isEmpty) hk
 rcases findNow_str ha es.toList ks 0 h2 hM.small with ⟨g1, g2⟩ | ⟨g1, j, g2⟩
 ·simp [Runs, execOp, ho, hx, hy, Instr.lookup, run_underlying ht, run_getM h1, hc, Instr.findKey, run_underlying hk, g2, hzv, g1]
 simp [Runs, execOp, ho, hx, hy, Instr.lookup, run_underlying ht, run_getM h1, hc, Instr.findKey, run_underlying hk, g2, g1]
theorem rLenSet (ho : o.op = .call { callee := .builtin .len, args := #[x], argTypes := #[t] }) (ht : P.underlying t = some (.map kt et)) (hx : ev ρ x = .map (some b)) (hM : SetIs w b ks) : Runs P ρ o w (.int .i64 (ks.length : Int)) := by
 obtain ⟨es, clk, h1, h2⟩ := hM.ex
 have hl : es.size = ks.length := by have := congrArg List.length h2; simpa using this
 simp [Runs, execOp, ho, resolve, invoke, builtin, hx, Builtin.len_, run_underlying ht, run_getM h1, hl, goInt]
theorem WL_setPut (i : Nat) (hi : H[i]? = some (SetE b ks)) (hI : Inv S w0 w H) (hw : wantedR ops ρ o = true) (hd : o.dst = none) (ho : o.op = .mapUpdate t x y z) (ht : P.underlying t = some (.map kt et)) (hk : P.underlying kt = some .string) (hx : ev ρ x = .map (some b)) (hy : ev ρ y = .string (strB a)) (hz : ev ρ z = .agg #[]) (ha : ∀ c ∈ a, c < 256) (hn : a ∉ ks)
  (h : ∀ w', Inv S w0 w' (H.set i (SetE b (ks ++ [a]))) → WL P N ops Q rest ρ w') : WL P N ops Q (o :: rest) ρ w := by
 have hM : SetIs w b ks := (hI.ok _ (gM_ hi)).1
 obtain ⟨es, clk, h1, h2⟩ := hM.ex
 have hlt : b < w.heap.size := by
  rcases Nat.lt_or_ge b w.heap.size with h5 | h5
  ·exact h5
  simp [Array.getElem?_eq_none h5] at h1
 have hc := check_str (P := P) (w := w) (s := strB a) (em := false) hk
 rcases findNow_str ha es.toList ks 0 h2 hM.small with ⟨g1, g2⟩ | ⟨g1, j, g2⟩
 ·have hM' : SetIs (setB w b (.map (es.push { key := .string (strB a), val := .agg #[], born := clk }) (clk + 1))) b (ks ++ [a]) := by
   refine ⟨⟨_, _, heap_setB hlt, ?_⟩, fun k hk => ?_⟩
   ·unfold KsIs at h2 ⊢
    simp [h2]
   rcases List.mem_append.1 hk with hk | hk
   ·exact hM.small k hk
   rw [List.mem_singleton.1 hk]; exact ha
  refine WL_store hw hd (w' := setB w b (.map (es.push { key := .string (strB a), val := .agg #[], born := clk }) (clk + 1))) ?_ (h _ (hI.upd i hi (chg_setB w b _) (SetE.ok hM') (fun _ hk => .inl hk)))
  simp [execOp, ho, hx, hy, hz, Instr.mapUpdate, run_underlying ht, run_getM h1, hc, Instr.findKey, run_underlying hk, g2, run_setM _ h1]
 exact absurd g1 hn
end
def wordsF (t : List UInt8) : List (List UInt8) := (Lib.goFieldsP spP ⟨t.toArray⟩).map (·.data.toList)
theorem wordsF_eq (t : List UInt8) : Lib.goFieldsP spP ⟨t.toArray⟩ = (wordsF t).map fun (w : List UInt8) => (⟨w.toArray⟩ : ByteArray) := map_bytes_inj rfl
theorem word_of {t w : List UInt8} (h : w ∈ wordsF t) : ∃ a b, w = (t.drop a).take (b - a) := by
 unfold wordsF Lib.goFieldsP at h
 rw [List.map_map] at h
 obtain ⟨x, hx, rfl⟩ := List.mem_map.1 h
 refine ⟨x.1, x.2, ?_⟩
 show ((⟨t.toArray⟩ : ByteArray).extract x.1 x.2).data.toList = _
 rw [ByteArray.extract_mk]
theorem word_len {t w : List UInt8} (h : w ∈ wordsF t) : w.length ≤ t.length := by
 obtain ⟨a, b, rfl⟩ := word_of h
 simp; omega
theorem word_mem {t w : List UInt8} (h : w ∈ wordsF t) {c : UInt8} (hc : c ∈ w) : c ∈ t := by
 obtain ⟨a, b, rfl⟩ := word_of h
 exact List.mem_of_mem_drop (List.mem_of_mem_take hc)
theorem spans_len (p : Nat → Bool) (s : ByteArray) : ∀ (f pos : Nat) (st : Option Nat) (acc : List (Nat × Nat)), (Lib.spansFromP p s f pos st acc).1.length ≤ acc.length + f
 | 0, _, _, acc => by simp [Lib.spansFromP]
 | f + 1, pos, st, acc => by
  unfold Lib.spansFromP
  split
  ·split
   ·split
    ·exact Nat.le_trans (spans_len p s f _ _ _) (by simp; omega)
    exact Nat.le_trans (spans_len p s f _ _ _) (by omega)
   split
   ·exact Nat.le_trans (spans_len p s f _ _ _) (by omega)
   exact Nat.le_trans (spans_len p s f _ _ _) (by omega)
  simp
theorem words_len (t : List UInt8) : (wordsF t).length ≤ t.length + 1 := by
 unfold wordsF Lib.goFieldsP Lib.spansOfP Lib.closeSpans
 have h := spans_len spP ⟨t.toArray⟩ (⟨t.toArray⟩ : ByteArray).size 0 none []
 have hs : (⟨t.toArray⟩ : ByteArray).size = t.length := by simp [ByteArray.size]
 rw [hs] at h ⊢
 simp only [List.length_map]
 split <;> simp at h ⊢ <;> omega
def splitL : List UInt8 → List (List UInt8)
 | [] => [[]]
 | c :: r => if c = 10 then [] :: splitL r else match splitL r with
  | [] => [[c]]
  | h :: t => (c :: h) :: t
theorem splitL_ne : ∀ t, splitL t ≠ []
 | [] => by simp [splitL]
 | c :: r => by
  unfold splitL
  split
  ·simp
  split <;> simp
theorem splitL_no : ∀ (L : List UInt8), 10 ∉ L → splitL L = [L]
 | [], _ => rfl
 | c :: L, h => by
  have hc : c ≠ 10 := fun e => h (by rw [e]; simp)
  rw [splitL, if_neg hc, splitL_no L (fun hm => h (by simp [hm]))]
theorem splitL_line : ∀ (L R : List UInt8), 10 ∉ L → splitL (L ++ 10 :: R) = L :: splitL R
 | [], R, _ => by simp [splitL]
 | c :: L, R, h => by
  have hc : c ≠ 10 := fun e => h (by rw [e]; simp)
  rw [List.cons_append, splitL, if_neg hc, splitL_line L R (fun hm => h (by simp [hm]))]
theorem splitL_app : ∀ (L R : List UInt8), splitL (L ++ 10 :: R) = splitL L ++ splitL R
 | [], R => by simp [splitL]
 | c :: L, R => by
  rw [List.cons_append, splitL, splitL, splitL_app L R]
  split
  ·rfl
  have := splitL_ne L
  cases h : splitL L with
  | nil => exact absurd h this
  | cons a b => rfl
theorem lines_of : ∀ t : List UInt8, ∃ (Ls : List (List UInt8)) (M : List UInt8), t = linesT Ls ++ M ∧ (∀ L ∈ Ls, 10 ∉ L) ∧ 10 ∉ M
 | [] => ⟨[], [], rfl, by simp, by simp⟩
 | c :: r => by
  obtain ⟨Ls, M, rfl, h1, h2⟩ := lines_of r
  by_cases hc : c = 10
  ·subst hc
   exact ⟨[] :: Ls, M, by rw [linesT_cons]; rfl, fun L hL => by
    rcases List.mem_cons.1 hL with rfl | hL
    ·simp
    exact h1 L hL, h2⟩
  cases Ls with
  | nil => exact ⟨[], c :: M, rfl, by simp, fun h => by
    rcases List.mem_cons.1 h with h | h
    ·exact hc h.symm
    exact h2 h⟩
  | cons L Ls => exact ⟨(c :: L) :: Ls, M, by rw [linesT_cons, linesT_cons]; rfl, fun K hK => by
    rcases List.mem_cons.1 hK with rfl | hK
    ·intro h
     rcases List.mem_cons.1 h with h | h
     ·exact hc h.symm
     exact h1 L (by simp) h
    exact h1 K (by simp [hK]), h2⟩
theorem splitL_lines : ∀ (Ls : List (List UInt8)) (M : List UInt8), (∀ L ∈ Ls, 10 ∉ L) → 10 ∉ M → splitL (linesT Ls ++ M) = Ls ++ [M]
 | [], M, _, h => by simpa [linesT] using splitL_no M h
 | L :: Ls, M, hL, h => by
  rw [linesT_cons, List.append_assoc, List.cons_append, splitL_line L _ (hL L (by simp)), splitL_lines Ls M (fun K hK => hL K (by simp [hK])) h]
  rfl
theorem count_linesM : ∀ (Ls : List (List UInt8)) (M : List UInt8) (f : Nat), (∀ L ∈ Ls, 10 ∉ L) → 10 ∉ M → Ls.length < f → Lib.countFrom [10] f (linesT Ls ++ M) = Ls.length
 | [], M, f, _, hM, h => by
  cases f with
  | zero => omega
  | succ f =>
   show Lib.countFrom [10] (f + 1) M = 0
   rw [Lib.countFrom, index_no M hM]; rfl
 | L :: Ls, M, f, hL, hM, h => by
  cases f with
  | zero => omega
  | succ f =>
   rw [linesT_cons, List.append_assoc, List.cons_append, Lib.countFrom, index_nl L _ (hL L (by simp)), if_neg (by simp)]
   have e : (L ++ 10 :: (linesT Ls ++ M)).drop ((L.length : Int).toNat + ([10] : List UInt8).length) = linesT Ls ++ M := by
    rw [Int.toNat_natCast, ← List.drop_drop, List.drop_left]; rfl
   rw [e, count_linesM Ls M f (fun K hK => hL K (by simp [hK])) hM (by simp at h; omega)]
   simp only [List.length_cons]; omega
theorem split_linesM : ∀ (Ls : List (List UInt8)) (M : List UInt8), (∀ L ∈ Ls, 10 ∉ L) → Lib.splitK [10] 0 Ls.length (linesT Ls ++ M) = Ls ++ [M]
 | [], M, _ => rfl
 | L :: Ls, M, hL => by
  rw [linesT_cons, List.append_assoc, List.cons_append, List.length_cons, Lib.splitK, index_nl L _ (hL L (by simp)), if_neg (by simp)]
  have e : (L ++ 10 :: (linesT Ls ++ M)).drop ((L.length : Int).toNat + ([10] : List UInt8).length) = linesT Ls ++ M := by
   rw [Int.toNat_natCast, ← List.drop_drop, List.drop_left]; rfl
  rw [e, split_linesM Ls M (fun K hK => hL K (by simp [hK]))]
  simp
theorem splitL_count (t : List UInt8) : Lib.countB ⟨t.toArray⟩ ⟨#[10]⟩ + 1 = (splitL t).length := by
 obtain ⟨Ls, M, rfl, h1, h2⟩ := lines_of t
 rw [splitL_lines Ls M h1 h2]
 have hc : Lib.countB ⟨(linesT Ls ++ M).toArray⟩ ⟨#[10]⟩ = Ls.length := count_linesM Ls M _ h1 h2 (by have := linesT_len Ls; simp; omega)
 rw [hc]; simp
theorem splitL_split (t : List UInt8) : Lib.splitB ⟨#[10]⟩ 0 (Lib.countB ⟨t.toArray⟩ ⟨#[10]⟩) ⟨t.toArray⟩ = (splitL t).map fun (y : List UInt8) => (⟨y.toArray⟩ : ByteArray) := by
 obtain ⟨Ls, M, rfl, h1, h2⟩ := lines_of t
 rw [splitL_lines Ls M h1 h2]
 apply map_bytes_inj
 rw [Lib.splitB_data]
 have hc : Lib.countB ⟨(linesT Ls ++ M).toArray⟩ ⟨#[10]⟩ = Ls.length := count_linesM Ls M _ h1 h2 (by have := linesT_len Ls; simp; omega)
 rw [hc]
 exact split_linesM Ls M h1
theorem splitL_mem : ∀ (t L : List UInt8), L ∈ splitL t → 10 ∉ L ∧ L.length ≤ t.length := fun t L h => by
 obtain ⟨Ls, M, rfl, h1, h2⟩ := lines_of t
 rw [splitL_lines Ls M h1 h2] at h
 rcases List.mem_append.1 h with h | h
 ·refine ⟨h1 L h, ?_⟩
  have : ∀ (Ls : List (List UInt8)), L ∈ Ls → L.length ≤ (linesT Ls).length := fun Ls => by
   induction Ls with
   | nil => intro h; cases h
   | cons K Ls ih =>
    intro h
    rw [linesT_cons]
    rcases List.mem_cons.1 h with rfl | h
    ·simp
    have := ih h; simp; omega
  have := this Ls h
  simp; omega
 rw [List.mem_singleton.1 h]
 exact ⟨h2, by simp⟩
theorem splitL_len (t : List UInt8) : (splitL t).length ≤ t.length + 1 := by
 obtain ⟨Ls, M, rfl, h1, h2⟩ := lines_of t
 rw [splitL_lines Ls M h1 h2]
 have := linesT_len Ls
 simp; omega
def chopL (t : List UInt8) : List UInt8 := Lib.trimSuffix t [10]
theorem chopL_nl (t : List UInt8) : chopL (t ++ [10]) = t := by
 unfold chopL Lib.trimSuffix Lib.hasSuffix
 rw [if_pos (by simp [List.isSuffixOf_iff_suffix])]
 simp
theorem chopL_len (t : List UInt8) : (chopL t).length ≤ t.length := by
 unfold chopL Lib.trimSuffix
 split
 ·simp
 exact Nat.le_refl _
theorem chopL_app (t s : List UInt8) (h : s ≠ []) : chopL (t ++ 10 :: s) = t ++ 10 :: chopL s := by
 unfold chopL Lib.trimSuffix Lib.hasSuffix
 obtain ⟨m, c, rfl⟩ : ∃ m c, s = m ++ [c] := ⟨s.dropLast, s.getLast h, (List.dropLast_concat_getLast h).symm⟩
 have e : ∀ x : List UInt8, ([10] : List UInt8).isSuffixOf (x ++ [c]) = decide (c = 10) := fun x => by
  rw [Bool.eq_iff_iff, List.isSuffixOf_iff_suffix, decide_eq_true_eq]
  constructor
  ·rintro ⟨y, hy⟩
   have := (List.append_inj' hy rfl).2
   injection this with this
   exact this.symm
  rintro rfl; exact ⟨x, rfl⟩
 rw [show t ++ 10 :: (m ++ [c]) = (t ++ 10 :: m) ++ [c] by simp, e, e]
 by_cases hc : c = 10
 ·rw [if_pos (by simpa using hc), if_pos (by simpa using hc)]
  have h1 : ∀ x : List UInt8, List.take ((x ++ [c]).length - ([10] : List UInt8).length) (x ++ [c]) = x := fun x => by simp
  have h2 := h1 (t ++ 10 :: m)
  have h3 := h1 m
  rw [h2, h3]
 simp [hc]
open Go
section
variable {P : Program} {N : Nat} {ops : Array Oper} {Q : XPost} {rest : List Oper} {ρ : Env} {o : Oper} {w0 w w' : World} {S : Nat → Prop} {H : List Ent} {d g t tt : Nat} {cs : Array Value} {x y : Operand}
end
theorem src_rd {P : Program} {t e' : Nat} (ht : P.underlying t = some (.slice e')) (h : Rd w D size (.slice A n c) n xs) (h1 : ∀ u ∈ xs, u.oneCell' = true) : Src P size t (.slice A n c) n xs w := by
 obtain ⟨A', c', hv, h2, h3, h4, h5⟩ := h
 injection hv with e1 _ e3
 subst e1 e3
 cases A with
 | none =>
  have hn : n = 0 := by
   rcases Nat.eq_zero_or_pos n with h0 | h0
   ·exact h0
   obtain ⟨b, o, hb, _⟩ := h5 h0; cases hb
  subst hn
  have : xs = [] := List.eq_nil_of_length_eq_zero (by omega)
  subst this
  exact Src.ofNil _ ht c
 | some a =>
  refine Src.ofSlice _ ht a n c _ h4 (fun j u hj => ?_) h1
  have hl : 0 < n := by
   have := (gS_ hj).1
   rcases Nat.eq_zero_or_pos n with h0 | h0
   ·subst h0; omega
   exact h0
  obtain ⟨b, o, hb, _, hc⟩ := h5 hl
  injection hb with hb
  subst hb
  rw [Addr.add_lit]
  exact hc j u hj
open Go Go.RowKit
set_option linter.unusedSectionVars false
theorem Win.rd (h : WinΦ e size A n c xs w) (hD : ∀ k, A.map (·.block) = some k → D k) : Rd w D size (.slice A n c) n xs := by
 obtain ⟨h1, h2, h3, h4⟩ := h
 refine ⟨A, c, Z, h2, h3, h1, fun hn => ?_⟩
 rcases h4 with ⟨_, rfl⟩ | ⟨g, o, cur, rfl, hb, hc, hx⟩
 ·omega
 exact ⟨g, o, Z, hD g Z, fun j u hj => by rw [hb.cell]; exact hx j u hj⟩
theorem Win.full (h : WinΦ e size A n c xs w) : WinΦ e size A n n xs w := by
 obtain ⟨h1, h2, h3, h4⟩ := h
 refine ⟨h1, Nat.le_refl _, by omega, ?_⟩
 rcases h4 with ⟨rfl, rfl⟩ | ⟨g, o, cur, rfl, hb, hc, hx⟩
 ·exact .inl ⟨Z, by omega⟩
 exact .inr ⟨g, o, cur, Z, hb, by have := Nat.mul_le_mul_right size h2; omega, hx⟩
theorem rSlice3 {P : Program} {ρ : Env} {o : Oper} {t sz : Nat} {z : Operand} {k' : IntKind} (ho : o.op = .slice t x none (some y) (some z)) (ht : P.underlying t = some (.slice e)) (hs : szB P e sz = true) (hx : ev ρ x = .slice A n c) (hy : ev ρ y = .int k (n : Int)) (hz : ev ρ z = .int k' (n : Int)) (hc : n ≤ c) :
  Runs P ρ o w (.slice A n n) := by
 cases A with
 | none => simp [Runs, execOp, ho, hx, hy, hz, Instr.sliceAt, Instr.slice, Instr.sliceBounds, Instr.sliceBound, asIntOf, run_underlying ht, run_size hs, hc]
 | some p =>
  have h0 : p.add 0 = p := by simp [Addr.add]
  simp [Runs, execOp, ho, hx, hy, hz, Instr.sliceAt, Instr.slice, Instr.sliceBounds, Instr.sliceBound, asIntOf, run_underlying ht, run_size hs, hc, h0]
section
variable {P : Program} {N : Nat} {ops : Array Oper} {Q : XPost} {rest : List Oper} {ρ : Env} {o : Oper} {w0 w : World} {S : Nat → Prop} {H : List Ent} {d t : Nat}
theorem WL_appG {news : List Value} (yv : Value) (hR : Rd w D size (.slice A n c) n xs) (hfull : c < n + m) (hI : Inv S w0 w H) (hw : wantedR ops ρ o = true) (hd : o.dst = some d) (hN : Nat.blt d N = true)
  (ho : o.op = .call { callee := .builtin .append, args := #[x, y], argTypes := #[t, u] }) (hx : ev ρ x = .slice A n c) (hy : ev ρ y = yv) (ht : P.underlying t = some (.slice e))
  (hi0 : (P.info? e).map (fun i => (i.zero, i.size, i.bytes)) = some (some z, size, by_)) (hz1 : z.cells.size = size) (hsz : 0 < size) (hs : Src P size u yv m news w)
  (h63 : n + m ≤ 9223372036854775807) (hby : (n + m) * by_ ≤ 140737488355328)
  (h : ∀ A' c' w', n + m ≤ c' → c' ≤ 9223372036854775807 → Inv S w0 w' (Win e size A' (n + m) c' (xs ++ news) :: H) → WL P N ops Q rest (upd ρ d (.slice A' (n + m) c')) w') : WL P N ops Q (o :: rest) ρ w := by
 cases hp : P.info? e with
 | none => simp [hp] at hi0
 | some q =>
  simp only [hp, Option.map_some, Option.some.injEq, Prod.mk.injEq] at hi0
  obtain ⟨q1, q2, q3⟩ := hi0
  subst q2 q3
  obtain ⟨A1, c1, hv, h2, h3, h1, h4⟩ := hR
  injection hv with e1 _ e3
  subst e1 e3
  have hnl := hs.newsLen
  have hcont : ∀ (A' : Option Addr) (c' : Nat) (w' : World), (Builtin.append_ #[t, u] o.type #[.slice A n c, yv]).run P w = .ok (.slice A' (n + m) c') w' → n + m ≤ c' → c' ≤ 9223372036854775807 → Inv S w0 w' (Win e q.size A' (n + m) c' (xs ++ news) :: H) → WL P N ops Q (o :: rest) ρ w := fun A' c' w' hrun hc1 hc2 hI' =>
   WL_eff hw hd hN (v := .slice A' (n + m) c') (w' := w') (by simp [execOp, ho, resolve, invoke, builtin, hx, hy, hrun]) (h A' c' w' hc1 hc2 hI')
  have hlen : (xs ++ news).length = (n + m) * q.size := by rw [List.length_append, h1, hnl, Nat.add_mul]
  have hold : (Builtin.firstCells q.size n (.slice A n c)).run P w.drew = .ok xs.toArray w.drew := by
   rcases Nat.eq_zero_or_pos n with hn0 | hn0
   ·subst hn0
    have hne : xs = [] := List.eq_nil_of_length_eq_zero (by simpa using h1)
    subst hne
    cases A with
    | none => exact run_firstCells_none _ _ _ _ _
    | some a => exact run_firstCells_some w.drew q.size 0 a 0 c [] (by simp) (fun j v hj => by simp at hj)
   obtain ⟨b, of, rfl, _, hc⟩ := h4 hn0
   refine run_firstCells_some w.drew q.size n ⟨b, of, none⟩ n c xs h1 fun j v hj => ?_
   rw [Addr.add_lit]
   exact hc j v hj
  have hrun := run_append_grow_src (P := P) w t u o.type e q z ht hp q1 A n c xs hold yv m news hs (by omega) (by omega) (growslice_fits (by omega) hby)
  have hge := grownCap_ge w (n + m) c e
  have hcm := grownCap_le_maxLen w (n + m) c e (by simpa [maxLen] using h63)
  refine hcont _ _ _ hrun hge (by simpa [maxLen] using hcm) ?_
  have hnew : Blk (w.drew.alloc (.cells ((xs ++ news).toArray ++ Builtin.zeroCells z.cells (grownCap w (n + m) c e - (n + m))) e)) w.heap.size e ((xs ++ news).toArray ++ Builtin.zeroCells z.cells (grownCap w (n + m) c e - (n + m))) := heap_alloc_new w.drew _
  refine hI.fresh (pure_drew w _) (Win.ok ⟨hlen, hge, by simpa [maxLen] using hcm, .inr ⟨w.heap.size, 0, _, rfl, hnew, ?_, fun j u hj => ?_⟩⟩) (fun k hk => ?_)
  ·have e1 : (n + m) + (grownCap w (n + m) c e - (n + m)) = grownCap w (n + m) c e := by omega
   rw [Array.size_append, List.size_toArray, hlen, size_zeroCells, hz1, ← Nat.add_mul, e1, Nat.zero_add]
   exact Nat.le_refl _
  ·have hjl := (gS_ hj).1
   rw [Nat.zero_add, Array.getElem?_append_left (by simpa using hjl)]
   simpa using hj
  have hk : some w.heap.size = some k := hk
  injection hk with hk
  omega
def Maybe (p : Prop) [Decidable p] (a : Ent) : Ent := if p then a else Ent.nil
theorem Inv.maybe0 {p : Prop} [Decidable p] {a : Ent} (hI : Inv S w0 w H) (hp : ¬ p) : Inv S w0 w (Maybe p a :: H) := by
 unfold Maybe
 rw [if_neg hp]
 exact hI.ent_nil
theorem Inv.maybe1 {p : Prop} [Decidable p] {a : Ent} (hI : Inv S w0 w (a :: H)) (hp : p) : Inv S w0 w (Maybe p a :: H) := by
 unfold Maybe
 rw [if_pos hp]
 exact hI
theorem WL_appM {p : Prop} [Decidable p] {news : List Value} (yv : Value) (hI : Inv S w0 w (Maybe p (Win e size A n c xs) :: H)) (hfull : ¬ p → ∃ D, Rd w D size (.slice A n c) n xs ∧ c < n + m) (hw : wantedR ops ρ o = true) (hd : o.dst = some d) (hN : Nat.blt d N = true)
  (ho : o.op = .call { callee := .builtin .append, args := #[x, y], argTypes := #[t, u] }) (hx : ev ρ x = .slice A n c) (hy : ev ρ y = yv) (ht : P.underlying t = some (.slice e))
  (hi0 : (P.info? e).map (fun i => (i.zero, i.size, i.bytes)) = some (some z, size, by_)) (hz1 : z.cells.size = size) (hsz : 0 < size) (hs : Src P size u yv m news w)
  (h63 : n + m ≤ 9223372036854775807) (hby : (n + m) * by_ ≤ 140737488355328)
  (h : ∀ A' c' w', n + m ≤ c' → c' ≤ 9223372036854775807 → Inv S w0 w' (Win e size A' (n + m) c' (xs ++ news) :: H) → WL P N ops Q rest (upd ρ d (.slice A' (n + m) c')) w') : WL P N ops Q (o :: rest) ρ w := by
 by_cases hp : p
 ·unfold Maybe at hI
  rw [if_pos hp] at hI
  exact WL_appW yv hI hw hd hN ho hx hy ht hi0 hz1 hsz hs h63 hby h
 obtain ⟨D, hR, hf⟩ := hfull hp
 exact WL_appG yv hR hf hI.d0 hw hd hN ho hx hy ht hi0 hz1 hsz hs h63 hby h
theorem WL_appF {news : List Value} (yv : Value) (hR : Rd w D size (.slice A n n) n xs) (hI : Inv S w0 w H) (hw : wantedR ops ρ o = true) (hd : o.dst = some d) (hN : Nat.blt d N = true)
  (ho : o.op = .call { callee := .builtin .append, args := #[x, y], argTypes := #[t, u] }) (hx : ev ρ x = .slice A n n) (hy : ev ρ y = yv) (ht : P.underlying t = some (.slice e))
  (hi0 : (P.info? e).map (fun i => (i.zero, i.size, i.bytes)) = some (some z, size, by_)) (hz1 : z.cells.size = size) (hsz : 0 < size) (hs : Src P size u yv m news w)
  (h63 : n + m ≤ 9223372036854775807) (hby : (n + m) * by_ ≤ 140737488355328)
  (h : ∀ A' c' w', n + m ≤ c' → c' ≤ 9223372036854775807 → (¬ 0 < m → A' = A ∧ c' = n) → Inv S w0 w' (Maybe (0 < m) (Win e size A' (n + m) c' (xs ++ news)) :: H) → WL P N ops Q rest (upd ρ d (.slice A' (n + m) c')) w') : WL P N ops Q (o :: rest) ρ w := by
 by_cases hm : 0 < m
 ·exact WL_appG yv hR (by omega) hI hw hd hN ho hx hy ht hi0 hz1 hsz hs h63 hby fun A' c' w' h1 h2 hI' => h A' c' w' h1 h2 (fun h => absurd hm h) (hI'.maybe1 hm)
 obtain rfl : m = 0 := by omega
 cases hp : P.info? e with
 | none => simp [hp] at hi0
 | some q =>
  simp only [hp, Option.map_some, Option.some.injEq, Prod.mk.injEq] at hi0
  obtain ⟨q1, q2, q3⟩ := hi0
  subst q2 q3
  have hnl := hs.newsLen
  have hne : news = [] := List.eq_nil_of_length_eq_zero (by simpa using hnl)
  subst hne
  have hrun := run_append_nothing (P := P) w t u o.type e q ht hp A n n (Nat.le_refl _) yv hs
  exact WL_eff hw hd hN (v := .slice A n n) (w' := w) (by simp [execOp, ho, resolve, invoke, builtin, hx, hy, hrun]) (h A n w (Nat.le_refl _) (by omega) (fun _ => ⟨Z, Z⟩) (hI.maybe0 hm))
end
open Go.RowKit
section
variable {P : Program} {ρ : Env} {o : Oper} {w : World} {x y : Operand} {t t' : TypeId}
theorem rQuoU (ho : o.op = .binOp .quo t x y t') (hx : ev ρ x = .int .u64 (a : Int)) (hy : ev ρ y = .int .u64 (b : Int)) (hb : 0 < b) (ha : a < 18446744073709551616) : Runs P ρ o w (.int .u64 ((a / b : Nat) : Int)) := by
 have h := rQuoW (P := P) (w := w) ho hx hy (by omega)
 have hl : a / b ≤ a := Nat.div_le_self a b
 have e : (a : Int).tdiv (b : Int) = ((a / b : Nat) : Int) := by simp [Int.ofNat_tdiv]
 rwa [e, wrap_u64 (by omega)] at h
theorem rMulU (ho : o.op = .binOp .mul t x y t') (hx : ev ρ x = .int .u64 (a : Int)) (hy : ev ρ y = .int .u64 (b : Int)) (ha : a * b < 18446744073709551616) : Runs P ρ o w (.int .u64 ((a * b : Nat) : Int)) := by
 have h := rMulW (P := P) (w := w) ho hx hy
 rwa [← Int.natCast_mul, wrap_u64 ha] at h
theorem rSubU (ho : o.op = .binOp .sub t x y t') (hx : ev ρ x = .int .u64 (a : Int)) (hy : ev ρ y = .int .u64 (b : Int)) (hb : b ≤ a) (ha : a < 18446744073709551616) : Runs P ρ o w (.int .u64 ((a - b : Nat) : Int)) := by
 have h := rSubW (P := P) (w := w) ho hx hy
 rwa [show (a : Int) - (b : Int) = ((a - b : Nat) : Int) by omega, wrap_u64 (by omega)] at h
end
def bytC (l : List Nat) : List Value := l.map fun b : Nat => Value.int .u8 (b : Int)
theorem bytC_len (l : List Nat) : (bytC l).length = l.length := by simp [bytC]
theorem bytC_app (l m : List Nat) : bytC (l ++ m) = bytC l ++ bytC m := by simp [bytC]
theorem bytC_one (l : List Nat) : (bytC l).all (·.oneCell') = true := by
 rw [List.all_eq_true]
 intro v hv
 obtain ⟨b, _, rfl⟩ := List.mem_map.1 hv
 rfl
def BytE (base : Nat) (A : Option Addr) (c : Nat) (l : List Nat) : Ent := Row base 5 1 A l.length c (bytC l)
theorem dig_str : ∀ i, i < 36 → (⟨#[48, 49, 50, 51, 52, 53, 54, 55, 56, 57, 97, 98, 99, 100, 101, 102, 103, 104, 105, 106, 107, 108, 109, 110, 111, 112, 113, 114, 115, 116, 117, 118, 119, 120, 121, 122]⟩ : ByteArray)[i]? = some (UInt8.ofNat (dig36 i)) := by decide +kernel
theorem dig_u8 (h : i < 36) : ((UInt8.ofNat (dig36 i)).toNat : Int) = (dig36 i : Int) := by
 have := (okC_dig h).1.2.2
 simp
 omega
theorem pow2_36 (w0 : World) : Cq 130 #[.int .i64 36] w0 fun en w' => en = .returned (.bool false) ∧ Pure w0 w' := by
 have hI := Inv.start (fun _ => False) w0
 refine Vm func130 Z ?_
 refine Wq (Vc Z (Wn (Wq (V0 Z (V0 Z (Uj Z ?_))))))
 refine Wv Z (rBits (r := fun p q => p &&& q) Z Z Z Z) ?_
 refine Wv Z (by exact rEql rfl rfl rfl) ?_
 refine Vc Z (Wn ?_)
 exact WR (r1_ 2 Z ⟨Z, hI.pu⟩)
theorem drop_set65 {cs : Array Value} {k : Nat} (hk : k < 65) (hcs : cs.size = 65) (v : Value) : (cs.setIfInBounds (0 + (65 - k - 1) * 1) v).toList.drop (65 - (k + 1)) = v :: cs.toList.drop (65 - k) := by
 have e : 0 + (65 - k - 1) * 1 = 65 - (k + 1) := by omega
 have hl : 65 - (k + 1) < (cs.toList.set (65 - (k + 1)) v).length := by simp [hcs]; omega
 rw [e, Array.toList_setIfInBounds, List.drop_eq_getElem_cons hl, List.getElem_set_self, List.drop_set_of_lt (by omega), show 65 - (k + 1) + 1 = 65 - k by omega]
theorem fmt_any (base : Nat) (A : Option Addr) (c : Nat) (l : List Nat) (u : Nat) (w0 : World) (hR : (BytE base A c l).ok w0) (hu : u < 18446744073709551616) (hn : l.length ≤ 1000000) (hb : base ≤ w0.heap.size) :
  Cq 76 #[.slice A l.length c, .int .u64 (u : Int), .int .i64 36, .bool false, .bool true] w0 fun en w' => ∃ A' c', en = .returned (.tuple #[.slice A' (l ++ dig u).length c', .string ⟨#[]⟩]) ∧ Inv (BytE base A c l).D w0 w' [BytE base A' c' (l ++ dig u)] := by
 have hI := Inv.ownE hR
 refine Vm func76 Z (Wq (Vg Z (T5 Z (Wn (Ws (Wq (V0 Z (Vr Z (V7 Z (V0 Z (Vs Z (Vi Z (V7 Z (V0 Z (U3 Z (Vi Z (Yf Z (Wk (Wq (Vz (.agg zB65) (zB65) hI Z ?_))))))))))))))))))))
 rintro b12 w - - hI
 refine Wn (Wq (Vb Z (Wn (Ws (Wq (V7 Z (Yf Z (Wk (Ws (Ws (Wr (V0 Z (Vd [Y _] Z func130 Z ((pow2_36 _).mono (okP hI fun w1 hp hI => Yf Z (Wq (V0 Z (Wv Z (by exact rConvW rfl yy3 underlying121 rfl) (Vb Z (Wn ?_))))))))))))))))))))
 obtain ⟨cs, hcs, hI⟩ : ∃ cs : Array Value, cs.size = 65 ∧ Inv (BytE base A c l).D w0 w1 [B b12 214 cs, BytE base A c l] := ⟨_, by rfl, hI⟩
 refine Ws (Wb ?_)
 refine Wl (fun mu ρ w => ∃ (k u' : Nat) (acc : List Nat) (cs : Array Value), mu = 13 - k ∧ k ≤ 13 ∧ acc.length = k ∧ dig u = digs36 (13 - k) u' acc ∧ u' < 36 ^ (13 - k + 1) ∧ u' < 18446744073709551616 ∧ cs.size = 65 ∧ cs.toList.drop (65 - k) = bytC acc ∧ Has ρ [(13, Y ((65 - k : Nat) : Int)), (1, .int .u64 (u' : Int)), (17, .int .u64 36), (12, .pointer (some ⟨b12, 0, none⟩)), (0, .slice A l.length c), (3, .bool false), (4, .bool true), (11, .string ⟨#[]⟩)] ∧ Inv (BytE base A c l).D w0 w [B b12 214 cs, BytE base A c l]) 13
  ⟨0, u, [], cs, rfl, by omega, rfl, rfl, Nat.lt_of_lt_of_le hu (by decide), hu, hcs, by rw [List.drop_eq_nil_of_le (by simp [hcs])]; rfl, ⟨rfl, rfl, rfl, rfl, rfl, rfl, rfl, rfl, trivial⟩, hI⟩ ?_
 clear hI
 rintro mu ρ w ⟨k, u', acc, cs, rfl, hk, hacc, hdig, hu1, hu2, hcs, hdrop, hH, hI⟩
 obtain ⟨σ, rfl⟩ := hH.open
 by_cases h36 : 36 ≤ u'
 ·have hk13 : k < 13 := by
   rcases Nat.lt_or_ge k 13 with h | h
   ·exact h
   obtain rfl : k = 13 := by omega
   simp at hu1
   omega
  have hq : u' / 36 * 36 ≤ u' := Nat.div_mul_le_self u' 36
  have hr : u' - u' / 36 * 36 = u' % 36 := by omega
  have hr36 : u' % 36 < 36 := Nat.mod_lt _ (by omega)
  refine Ws (Wq (V0 Z (V0 Z (U1 Z (Yt Z (Wk (Wb (Wq (V0 Z (Wv Z (rDecN (b := 1) Z Z Z (by omega) (by omega)) (Vb Z (Wn (Wq (V0 Z (V0 Z (Wv Z (rQuoU (b := 36) Z Z Z (by omega) (by omega)) (Vb Z (Wn (Wq (V0 Z (V0 Z (V0 Z (V0 Z (Wv Z (rMulU (b := 36) Z Z Z (by omega)) (Wv Z (rSubU Z Z Z (by omega) (by omega)) (Wv Z (rIdxStr Z yy9 Z Z (dig_str _ (by omega)) (dig_u8 (by omega))) (Wv Z (rIdxArr (sz := 1) Z underlying214 (by kernel_rfl) Z Z Z (by omega)) (WL_st0 (u := .int .u8 (dig36 (u' - u' / 36 * 36) : Int)) (j := 0 + (65 - k - 1) * 1) hI Z Z Z Z Z Z (by kernel_rfl) Z (by simp [Nat.blt, hcs]) Z ?_))))))))))))))))))))))))))))
  intro w hI
  refine Wn (Wr (V0 Z (Vb Z (Wn ?_))))
  rw [hr] at hI
  refine ⟨13 - (k + 1), by omega, k + 1, u' / 36, dig36 (u' % 36) :: acc, _, rfl, by omega, by simp [hacc], ?_, ?_, by omega, by simp [hcs], ?_, ⟨by show Value.int .i64 ((65 - k - 1 : Nat) : Int) = .int .i64 ((65 - (k + 1) : Nat) : Int); rw [Nat.sub_sub], rfl, rfl, rfl, rfl, rfl, rfl, rfl, trivial⟩, hI⟩
  ·rw [hdig, show 13 - k = (13 - (k + 1)) + 1 by omega, digs36, if_neg (by omega)]
  ·rw [Nat.div_lt_iff_lt_mul (by omega), ← Nat.pow_succ]
   rwa [show (13 - (k + 1) + 1).succ = 13 - k + 1 by omega]
  rw [drop_set65 (by omega) hcs, hdrop]; rfl
 refine Ws (Wq (V0 Z (V0 Z (Uf Z (Yf Z (WE (Wq (V0 Z (Wv Z (rDecN (b := 1) Z Z Z (by omega) (by omega)) (Vb Z (Wn (Wr (V0 Z (V0 Z (Wv Z (rIdxStr Z yy9 Z Z (dig_str _ (by omega)) (dig_u8 (by omega))) (Wv Z (rIdxArr (sz := 1) Z underlying214 (by kernel_rfl) Z Z Z (by omega)) (WL_st0 (u := .int .u8 (dig36 u' : Int)) (j := 0 + (65 - k - 1) * 1) hI Z Z Z Z Z Z (by kernel_rfl) Z (by simp [Nat.blt, hcs]) Z ?_)))))))))))))))))
 intro w hI
 refine Wn ?_
 have hfin : dig u = dig36 u' :: acc := by
  rw [hdig]
  cases h13 : 13 - k with
  | zero => rw [digs36, Nat.mod_eq_of_lt (by omega)]
  | succ f => rw [digs36, if_pos (by omega)]
 have hd65 := drop_set65 (k := k) (by omega) hcs (.int .u8 (dig36 u' : Int))
 rw [hdrop] at hd65
 have hd65 : (cs.setIfInBounds (0 + (65 - k - 1) * 1) (.int .u8 (dig36 u' : Int))).toList.drop (65 - (k + 1)) = bytC (dig u) := by rw [hd65, hfin]; rfl
 have hsz : (cs.setIfInBounds (0 + (65 - k - 1) * 1) (.int .u8 (dig36 u' : Int))).size = 65 := by simp [hcs]
 have hlen : (dig u).length = k + 1 := by rw [hfin]; simp [hacc]
 replace hI : ∃ cs' : Array Value, cs'.size = 65 ∧ cs'.toList.drop (65 - (k + 1)) = bytC (dig u) ∧ Inv (BytE base A c l).D w0 w [B b12 214 cs', BytE base A c l] := ⟨_, hsz, hd65, hI⟩
 obtain ⟨cs', hsz', hd', hI⟩ := hI
 refine Ws (Wq (V7 Z (Yf Z (Wk (Ws (Wq (V7 Z (Yt Z (Ws (Wr (Va Z (V0 Z (Wv Z (rSliceArr (i := 65 - k - 1) Z underlying214 (by kernel_rfl) Z Z (by omega)) ?_)))))))))))))
 refine WL_app1 (z := .int .u8 0) (by_ := 1) (news := bytC (dig u)) hI Z Z Z Z Z Z yy31 (by kernel_rfl) Z (by omega) (by rw [bytC_len]; omega) (fun q v hq => ?_) (bytC_one _) (by omega) (by omega) (by have := hI.chg.size; omega) ?_
 ·rw [← hd', List.getElem?_drop] at hq
  rw [Nat.zero_add, show 65 - k - 1 = 65 - (k + 1) by omega]
  exact hI.c0 (by simpa using hq)
 rintro A' c' w hc1 hc2 hI
 refine Vg Z (Wn (WR ?_))
 have el : l.length + (65 - (65 - k - 1)) = (l ++ dig u).length := by simp [hlen]; omega
 rw [el, ← bytC_app] at hI
 refine r2_ 10 11 Z ⟨A', c', ?_, hI.d0⟩
 rw [← el]; rfl
theorem appU_any (base : Nat) (A : Option Addr) (c : Nat) (l : List Nat) (u : Nat) (w0 : World) (hR : (BytE base A c l).ok w0) (hu : u < 18446744073709551616) (hn : l.length ≤ 1000000) (hb : base ≤ w0.heap.size) :
  Cq 211 #[.slice A l.length c, .int .u64 (u : Int), .int .i64 36] w0 fun en w' => ∃ A' c', en = .returned (.slice A' (l ++ dig u).length c') ∧ Inv (BytE base A c l).D w0 w' [BytE base A' c' (l ++ dig u)] := by
 have hI := Inv.ownE hR
 refine Vm func211 Z (Wq (Vg Z (Wn (Ws (Wq (V0 Z (Vs Z (Yf Z (Wk (Ws (Wr (Va Z (V0 Z (V0 Z (Vd [.slice _ _ _, .int .u64 _, Y _, .bool _, .bool _] Z func76 Z ((fmt_any base A c l u _ (hI.ok _ (by simp)) hu hn hb).mono ?_))))))))))))))))
 rintro e w1 ⟨A', c', rfl, hT⟩
 refine rV ?_
 have hI := hI.turn1 hT
 exact T4 Z (Vj Z (Vj Z (Vg Z (Wn (Wq (Va Z (Vg Z (Wn (WR (r1_ 6 Z ⟨A', c', Z, hI⟩))))))))))
section
variable {P : Program} {ρ : Env} {o : Oper} {w : World} {x y : Operand} {t t' : TypeId}
theorem rNegU {n : Int} (ho : o.op = .unOp .neg t x) (hx : ev ρ x = .int .u64 (IntKind.u64.wrap n)) (h0 : n < 0) (h1 : -9223372036854775808 ≤ n) : Runs P ρ o w (.int .u64 (n.natAbs : Int)) := by
 have h := rNegW (P := P) (w := w) ho hx
 have e : IntKind.u64.wrap (0 - IntKind.u64.wrap n) = (n.natAbs : Int) := by
  simp [IntKind.wrap, IntKind.signed, IntKind.bits]
  omega
 rwa [e] at h
end
theorem appI_any (base : Nat) (A : Option Addr) (c : Nat) (l : List Nat) (n : Int) (w0 : World) (hR : (BytE base A c l).ok w0) (hn : i64B n) (hl : l.length ≤ 999999) (hb : base ≤ w0.heap.size) :
  Cq 199 #[.slice A l.length c, .int .i64 n, .int .i64 36] w0 fun en w' => ∃ A' c', en = .returned (.slice A' (l ++ itoa36 n).length c') ∧ Inv (BytE base A c l).D w0 w' [BytE base A' c' (l ++ itoa36 n)] := by
 have hI := Inv.ownE hR
 unfold i64B at hn
 refine Vm func199 Z (Wq (Vg Z (Wn ?_)))
 by_cases hneg : n < 0
 ·refine Wq (V0 Z (Wv Z (rConvW Z underlying2 underlying121 Z) (Vb Z (Wn (Ws (Wq (V0 Z (Vu Z (Yt Z (Wq (Va Z (T3 [(0, .int .u8 _)] [_] [.int .u8 0] [0] hI Z yy31 (fun _ => by kernel_rfl) ?_))))))))))))
  rintro b13 w - - hI
  refine WL_app1 (z := .int .u8 0) (by_ := 1) hI Z Z Z Z Z Z yy31 (by kernel_rfl) Z (by omega) (by rfl) hI.lit0 (by rfl) (by omega) (by omega) (by (have := hI.chg.size; omega)) ?_
  rintro A14 c14 w hA14 hc14 hI
  have hI := hI.d0
  refine Vg Z (Wn ?_)
  replace hI : Inv (BytE base A c l).D w0 w [BytE base A14 c14 (l ++ [45])] := by
   have e : BytE base A14 c14 (l ++ [45]) = Row base 5 1 A14 (l.length + 1) c14 (bytC l ++ [.int .u8 45]) := by
    unfold BytE
    rw [bytC_app, List.length_append]
    rfl
   rw [e]; exact hI
  refine Wr (V0 Z (Wv Z (rNegU (n := n) Z Z hneg (by omega)) (Vb Z (Wn ?_))))
  have e : l ++ itoa36 n = (l ++ [45]) ++ dig n.natAbs := by unfold itoa36; rw [if_pos hneg]; simp
  rw [e]
  refine Wq (Va Z (V0 Z (V0 Z (Vd [.slice _ _ _, .int .u64 _, Y _] Z func211 Z (Calls.mono (by have h := appU_any base A14 c14 (l ++ [45]) n.natAbs _ (hI.ok _ (by simp)) (by omega) (by simp; omega) (by have := hI.chg.size; omega); rw [List.length_append] at h; exact h) ?_)))))
  rintro e w1 ⟨A', c', rfl, hT⟩
  refine rV ?_
  have hI := hI.turn1 hT
  exact Vg Z (Wn (WR (r1_ 6 Z ⟨A', c', Z, hI⟩)))
 obtain ⟨m, rfl⟩ : ∃ m : Nat, n = (m : Int) := ⟨n.toNat, by omega⟩
 refine Wq (V0 Z (Wv Z (by exact rConv_u64s rfl underlying2 underlying121 rfl (by omega)) (Vb Z (Wn (Ws (Wq (V0 Z (Vr Z (Yf Z (Wk ?_))))))))))
 have e : l ++ itoa36 (m : Int) = l ++ dig m := by unfold itoa36; rw [if_neg hneg]; simp
 rw [e]
 refine Wq (Va Z (V0 Z (V0 Z (Vd [.slice _ _ _, .int .u64 _, Y _] Z func211 Z ((appU_any base A c l m _ (hI.ok _ (by simp)) (by omega) (by omega) (by have := hI.chg.size; omega)).mono ?_)))))
 rintro e w1 ⟨A', c', rfl, hT⟩
 refine rV ?_
 have hI := hI.turn1 hT
 exact Vg Z (Wn (WR (r1_ 6 Z ⟨A', c', Z, hI⟩)))
theorem appP_any (base : Nat) (A : Option Addr) (c : Nat) (l : List Nat) (n : Int) (w0 : World) (hR : (BytE base A c l).ok w0) (hn : i64B n) (hl : l.length ≤ 999999) (hb : base ≤ w0.heap.size) :
  Cq 180 #[.slice A l.length c, .int .i64 n, .int .i64 36] w0 fun en w' => ∃ A' c', en = .returned (.slice A' (l ++ itoa36 n).length c') ∧ Inv (BytE base A c l).D w0 w' [BytE base A' c' (l ++ itoa36 n)] := by
 have hI := Inv.ownE hR
 refine Vm func180 Z (Wq (Vg Z (Wn (Wq (Va Z (V0 Z (V0 Z (Vd [.slice _ _ _, Y _, Y _] Z func199 Z ((appI_any base A c l n _ (hI.ok _ (by simp)) hn hl hb).mono ?_)))))))))
 rintro e w1 ⟨A', c', rfl, hT⟩
 refine rV ?_
 have hI := hI.turn1 hT
 exact Vg Z (Wn (WR (r1_ 6 Z ⟨A', c', Z, hI⟩)))
theorem digs_len : ∀ (f u : Nat) (acc : List Nat), (digs36 f u acc).length ≤ acc.length + f + 1
 | 0, u, acc => by simp [digs36]
 | f + 1, u, acc => by
  rw [digs36]
  split
  ·simp
  have := digs_len f (u / 36) (dig36 (u % 36) :: acc)
  simp at this ⊢
  omega
theorem itoa_len (n : Int) : (itoa36 n).length ≤ 15 := by
 have h : ∀ u, (dig u).length ≤ 14 := fun u => digs_len 13 u []
 have := h n.natAbs
 unfold itoa36
 split
 ·simp; omega
 omega
end Go.Proofs.YtnckdmogdehnoaaGreatDoor
namespace Go.Proofs.YtnckdmogdehnoaaGreatDoor
open Tryz
variable {k : IntKind} {xs : List Value} {a b base by_ c e i m n size : Nat} {D : Nat → Prop} {x y : Operand} {A : Option Addr} {u : TypeId} {z : Value} {w : World}
def sumS (acc : List (Nat × Nat)) : Nat := (acc.map fun x => x.2 - x.1 + 1).sum
def SpI (s : ByteArray) (pos : Nat) (st : Option Nat) (acc : List (Nat × Nat)) : Prop :=
 (∀ x ∈ acc, x.1 < x.2 ∧ x.2 ≤ s.size) ∧ sumS acc ≤ s.size ∧ match st with
  | some a => a < pos ∧ a < s.size ∧ sumS acc ≤ a
  | none => sumS acc ≤ pos
theorem sumS_snoc (acc : List (Nat × Nat)) (a b : Nat) : sumS (acc ++ [(a, b)]) = sumS acc + (b - a + 1) := by simp [sumS]
theorem spans_inv (p : Nat → Bool) (s : ByteArray) : ∀ (f pos : Nat) (st : Option Nat) (acc : List (Nat × Nat)), SpI s pos st acc → ∃ pos', SpI s pos' (Lib.spansFromP p s f pos st acc).2 (Lib.spansFromP p s f pos st acc).1
 | 0, pos, st, acc, h => ⟨pos, h⟩
 | f + 1, pos, st, acc, h => by
  unfold Lib.spansFromP
  split
  ·next hp =>
   have hw := Lib.decode_width_pos s pos hp
   generalize (Utf8.decode s pos).2 = wd at hw
   generalize (Utf8.decode s pos).1 = rn
   obtain ⟨h1, h2, h3⟩ := h
   split
   ·cases st with
    | some a =>
     simp only at h3 ⊢
     refine spans_inv p s f _ none _ ⟨fun x hx => ?_, ?_, ?_⟩
     ·rcases List.mem_append.1 hx with hx | hx
      ·exact h1 x hx
      rw [List.mem_singleton.1 hx]; exact ⟨h3.1, Nat.le_of_lt hp⟩
     ·rw [sumS_snoc]; omega
     show sumS _ ≤ _
     rw [sumS_snoc]; omega
    | none =>
     simp only at h3 ⊢
     exact spans_inv p s f _ none _ ⟨h1, h2, by show sumS acc ≤ _; omega⟩
   cases st with
   | some a =>
    simp only at h3 ⊢
    exact spans_inv p s f _ (some a) _ ⟨h1, h2, by show _ ∧ _ ∧ _; omega⟩
   | none =>
    simp only at h3 ⊢
    exact spans_inv p s f _ (some pos) _ ⟨h1, h2, by show _ ∧ _ ∧ _; omega⟩
  exact ⟨pos, h⟩
theorem spans_ok (p : Nat → Bool) (s : ByteArray) : (∀ x ∈ Lib.spansOfP p s, x.1 < x.2 ∧ x.2 ≤ s.size) ∧ sumS (Lib.spansOfP p s) ≤ s.size + 1 := by
 obtain ⟨pos', h1, h2, h3⟩ := spans_inv p s s.size 0 none [] ⟨fun x hx => by simp at hx, by simp [sumS], by show sumS [] ≤ 0; simp [sumS]⟩
 unfold Lib.spansOfP Lib.closeSpans
 generalize Lib.spansFromP p s s.size 0 none [] = r at *
 obtain ⟨acc, st⟩ := r
 cases st with
 | none => exact ⟨h1, by simp only at h2 ⊢; omega⟩
 | some a =>
  simp only at h1 h2 h3 ⊢
  refine ⟨fun x hx => ?_, by rw [sumS_snoc]; omega⟩
  rcases List.mem_append.1 hx with hx | hx
  ·exact h1 x hx
  rw [List.mem_singleton.1 hx]; exact ⟨h3.2.1, Nat.le_refl _⟩
def sumW (ws : List (List UInt8)) : Nat := (ws.map fun w => w.length + 1).sum
theorem words_ok (t : List UInt8) : (∀ w ∈ wordsF t, w ≠ []) ∧ sumW (wordsF t) ≤ t.length + 1 := by
 obtain ⟨h1, h2⟩ := spans_ok spP ⟨t.toArray⟩
 have hz : (⟨t.toArray⟩ : ByteArray).size = t.length := by simp [ByteArray.size]
 rw [hz] at h1 h2
 have hl : ∀ x : Nat × Nat, x.2 ≤ t.length → (((⟨t.toArray⟩ : ByteArray).extract x.1 x.2).data.toList).length = x.2 - x.1 := fun x hx => by
  rw [ByteArray.extract_mk]
  simp
  omega
 unfold wordsF Lib.goFieldsP
 rw [List.map_map]
 refine ⟨fun w hw => ?_, Nat.le_trans ?_ h2⟩
 ·obtain ⟨x, hx, rfl⟩ := List.mem_map.1 hw
  obtain ⟨q1, q2⟩ := h1 x hx
  intro e
  have := hl x q2
  rw [show ((⟨t.toArray⟩ : ByteArray).extract x.1 x.2).data.toList = [] from e] at this
  simp at this
  omega
 unfold sumW sumS
 rw [List.map_map]
 generalize Lib.spansOfP spP ⟨t.toArray⟩ = l at h1
 clear h2
 induction l with
 | nil => exact Nat.le_refl _
 | cons x l ih =>
  rw [List.map_cons, List.map_cons, List.sum_cons, List.sum_cons]
  have h3 := hl x (h1 x (by simp)).2
  have h4 := ih (fun y hy => h1 y (by simp [hy]))
  simp only [Function.comp] at h3 h4 ⊢
  omega
theorem join_sum : ∀ ws : List (List UInt8), (Lib.join ws [32]).length ≤ sumW ws
 | [] => by rw [Lib.join_nil]; simp
 | x :: r => by
  rw [Lib.join_cons]
  have : ∀ r : List (List UInt8), (Lib.joinTail [32] r).length ≤ sumW r := fun r => by
   induction r with
   | nil => simp [Lib.joinTail]
   | cons y r ih =>
    unfold Lib.joinTail sumW at ih ⊢
    rw [List.map_cons, List.flatten_cons, List.length_append, List.map_cons, List.sum_cons]
    simp only [List.length_append, List.length_singleton]
    omega
  have h := this r
  unfold sumW at h ⊢
  rw [List.map_cons, List.sum_cons, List.length_append]
  omega
open Go Go.RowKit
section
variable {P : Program} {N : Nat} {ops : Array Oper} {Q : XPost} {rest : List Oper} {ρ : Env} {o : Oper} {w0 w : World} {S : Nat → Prop} {H : List Ent} {d t : Nat}
theorem run_appS {u ty : Nat} {s : List UInt8} {q : TypeInfo} (hI : Inv S w0 w (Row base e 1 A n c xs :: H)) (ht : P.underlying t = some (.slice e)) (hu : P.underlying u = some .string) (hp : P.info? e = some q)
  (q1 : q.zero = some (.int .u8 0)) (q2 : q.size = 1) (q3 : q.bytes = 1) (hby : n + s.length ≤ 140737488355328) (hbase : base ≤ w.heap.size) :
  ∃ A' c' w', (Builtin.append_ #[t, u] ty #[.slice A n c, strV s]).run P w = .ok (.slice A' (n + s.length) c') w' ∧ n + s.length ≤ c' ∧ c' ≤ 9223372036854775807 ∧ Inv S w0 w' (Row base e 1 A' (n + s.length) c' (xs ++ bytesL s) :: H) := by
 have hown : w.ownsRow base e 1 (.slice A n c) n xs := (hI.ok _ (List.mem_cons_self ..)).1
 have hsz : (⟨s.toArray⟩ : ByteArray).size = s.length := str_size s
 obtain ⟨v', w', hrun, r1, r2, _⟩ := Lib.run_append_own_string (P := P) (w := w) base t u ty e q ht hu hp q1 q2 q3 (.slice A n c) n xs hown ⟨s.toArray⟩ (by rw [hsz]; simp only [maxLen]; omega) (by rw [hsz]; exact hby) hbase
 rw [hsz] at r1
 have hst : Lib.strCells ⟨s.toArray⟩ = bytesL s := by rw [Lib.strCells_eq]; rfl
 rw [hst] at r1
 have hs := src_str (P := P) (w := w) hu s
 have hnl : (bytesL s).length = s.length := by simp [bytesL]
 have h4 : (A = none ∧ c = 0 ∧ n = 0) ∨ ∃ (g : Nat) (cur : Array Value), A = some ⟨g, 0, none⟩ ∧ Blk w g e cur ∧ n ≤ c ∧ c ≤ 9223372036854775807 ∧ c = cur.size ∧ cur.toList.take n = xs := by
  rcases hown.2 with ⟨hv, h0⟩ | ⟨g, cap, cur, hv, _, hb, hnc, hcm, hcs, htk⟩
  ·injection hv with e1 e2 e3
   exact .inl ⟨e1, e3, h0⟩
  injection hv with e1 e2 e3
  subst e1 e3
  exact .inr ⟨g, cur, Z, hb, hnc, hcm, by rw [hcs, Nat.mul_one], by rw [← htk, Nat.mul_one]⟩
 have key : ∀ (A' : Option Addr) (c' : Nat) (w1 : World), (Builtin.append_ #[t, u] ty #[.slice A n c, strV s]).run P w = .ok (.slice A' (n + s.length) c') w1 → w1.ownsRow base e 1 (.slice A' (n + s.length) c') (n + s.length) (xs ++ bytesL s) := fun A' c' w1 hr => by
  have : (Builtin.append_ #[t, u] ty #[.slice A n c, .string ⟨s.toArray⟩]).run P w = .ok (.slice A' (n + s.length) c') w1 := hr
  rw [hrun] at this
  injection this with h1 h2
  subst h1 h2
  exact r1
 by_cases hroom : n + s.length ≤ c
 ·rcases h4 with ⟨rfl, rfl, rfl⟩ | ⟨g, cur, rfl, hb, hnc, hcm, hcs, htk⟩
  ·have hs0 : s = [] := List.eq_nil_of_length_eq_zero (by omega)
   subst hs0
   have hr := run_append_nothing w t u ty e q ht hp none 0 0 (Nat.le_refl _) (strV []) (by rw [q2]; exact hs)
   refine ⟨none, 0, w, hr, by simp, by omega, hI.u0 (Chg.refl _ _) (Row.ok (key none 0 w hr)) (fun k hk => by cases hk)⟩
  have hr := run_append_room_src w t u ty e q ht hp g 0 n c (strV s) s.length (bytesL s) (by rw [q2]; exact hs) hroom (fun j hj => by
   have hj' : j < s.length := by rw [← hnl]; exact hj
   rw [hb.cell, Array.getElem?_eq_getElem (by rw [q2]; omega)]; rfl) (fun j hj => hb.frozen _)
  refine ⟨some ⟨g, 0, none⟩, c, _, hr, hroom, hcm, hI.u0 (Chg.setCells (S := (Row base e 1 (some ⟨g, 0, none⟩) n c xs).D) (b := g) (.inl Z) _ _ (Chg.refl _ _)) (Row.ok (key _ _ _ hr)) (fun k hk => .inl hk)⟩
 have hold : (Builtin.firstCells q.size n (.slice A n c)).run P w.drew = .ok xs.toArray w.drew := by
  have hxl : xs.length = n * q.size := by rw [q2]; exact hown.1
  rcases h4 with ⟨rfl, rfl, rfl⟩ | ⟨g, cur, rfl, hb, hnc, hcm, hcs, htk⟩
  ·have hne : xs = [] := List.eq_nil_of_length_eq_zero (by simpa using hxl)
   subst hne
   exact run_firstCells_none _ _ _ _ _
  refine run_firstCells_some w.drew q.size n ⟨g, 0, none⟩ n c xs hxl fun j v hj => ?_
  rw [Addr.add_lit, Nat.zero_add]
  have hb' : Blk w.drew g e cur := hb
  rw [hb'.cell]
  rw [← htk, List.getElem?_take] at hj
  split at hj
  ·rw [← Array.getElem?_toList]; exact hj
  cases hj
 have hr := run_append_grow_src (P := P) w t u ty e q (.int .u8 0) ht hp q1 A n c xs hold (strV s) s.length (bytesL s) (by rw [q2]; exact hs) (by omega) (by omega) (growslice_fits (by omega) (by rw [q3]; omega))
 have hge := grownCap_ge w (n + s.length) c e
 have hcm := grownCap_le_maxLen w (n + s.length) c e (by simp only [maxLen]; omega)
 refine ⟨_, _, _, hr, hge, by simpa [maxLen] using hcm, hI.d0.fresh (pure_drew w _) (Row.ok (key _ _ _ hr)) (fun k hk => ?_)⟩
 have hk : some w.heap.size = some k := hk
 injection hk with hk
 omega
theorem WL_appS {u : Nat} {s : List UInt8} (hI : Inv S w0 w (Row base e 1 A n c xs :: H)) (hw : wantedR ops ρ o = true) (hd : o.dst = some d) (hN : Nat.blt d N = true)
  (ho : o.op = .call { callee := .builtin .append, args := #[x, y], argTypes := #[t, u] }) (hx : ev ρ x = .slice A n c) (hy : ev ρ y = strV s) (ht : P.underlying t = some (.slice e)) (hu : P.underlying u = some .string)
  (hi0 : (P.info? e).map (fun i => (i.zero, i.size, i.bytes)) = some (some (.int .u8 0), 1, 1)) (hby : n + s.length ≤ 140737488355328) (hbase : base ≤ w.heap.size)
  (h : ∀ A' c' w', n + s.length ≤ c' → c' ≤ 9223372036854775807 → Inv S w0 w' (Row base e 1 A' (n + s.length) c' (xs ++ bytesL s) :: H) → WL P N ops Q rest (upd ρ d (.slice A' (n + s.length) c')) w') : WL P N ops Q (o :: rest) ρ w := by
 cases hp : P.info? e with
 | none => simp [hp] at hi0
 | some q =>
  simp only [hp, Option.map_some, Option.some.injEq, Prod.mk.injEq] at hi0
  obtain ⟨q1, q2, q3⟩ := hi0
  obtain ⟨A', c', w', hr, h1, h2, h3⟩ := run_appS (ty := o.type) hI ht hu hp q1 q2 q3 hby hbase
  exact WL_eff hw hd hN (v := .slice A' (n + s.length) c') (w' := w') (by simp [execOp, ho, resolve, invoke, builtin, hx, hy, hr]) (h A' c' w' h1 h2 h3)
end
def KeepE (n : Nat) (X : Nat → Prop) (V : World) : Ent := ⟨fun k => n ≤ k ∧ k < V.heap.size ∧ ¬ X k, fun w => V.heap.size ≤ w.heap.size ∧ ∀ k, n ≤ k → k < V.heap.size → ¬ X k → w.heap[k]? = V.heap[k]?⟩
theorem KeepE.ok (n : Nat) (X : Nat → Prop) (V : World) : (KeepE n X V).ok V := by
 exact Ent.mk_ok (⟨Nat.le_refl _, fun _ _ _ _ => Z⟩ : (KeepE n X V).Φ V) (fun k hk => hk.2.1) (fun S w1 w2 hc hS h1 => ⟨Nat.le_trans h1.1 hc.size, fun k h2 h3 h4 => (hc.block k (Nat.lt_of_lt_of_le h3 h1.1) (hS k ⟨h2, h3, h4⟩)).trans (h1.2 k h2 h3 h4)⟩)
section
variable {w0 V V' : World} {H H' : List Ent} {X : Nat → Prop} {n : Nat}
theorem Inv.keepX (hI : Inv NF w0 V H) (hX : ∀ e ∈ H, ∀ k, e.D k → X k) : Inv NF w0 V (KeepE w0.heap.size X V :: H) :=
 ⟨hI.chg, fun e he => by
   rcases List.mem_cons.1 he with rfl | he
   ·exact KeepE.ok _ _ _
   exact hI.ok e he,
  fun e he k hk => by
   rcases List.mem_cons.1 he with rfl | he
   ·exact .inr hk.1
   exact hI.own e he k hk,
  List.pairwise_cons.2 ⟨fun e he k hk hk2 => hk.2.2 (hX e he k hk2), hI.apart⟩⟩
theorem Inv.chgX (hI : Inv NF w0 V H) (hJ : Inv NF w0 V' (KeepE w0.heap.size X V :: H')) : Chg X V V' := by
 have h1 := hI.chg
 have h2 := hJ.chg
 obtain ⟨h3, h4⟩ := (hJ.ok _ (List.mem_cons_self ..)).1
 refine ⟨h2.os.trans h1.os.symm, h2.tape.trans h1.tape.symm, h2.output.trans h1.output.symm, h3, fun k hk hX => ?_⟩
 by_cases hk0 : k < w0.heap.size
 ·exact (h2.block k hk0 id).trans (h1.block k hk0 id).symm
 exact h4 k (by omega) hk hX
theorem Inv.ownedX (hJ : Inv NF w0 V' (KeepE w0.heap.size X V :: H')) : ∀ e ∈ H', ∀ j, e.D j → ownX X V V' j := fun e he j hj => by
 have h1 := (List.pairwise_cons.1 hJ.apart).1 e he j
 have h2 := (hJ.own e (List.mem_cons_of_mem _ he) j hj).resolve_left id
 have h3 := (hJ.ok e (List.mem_cons_of_mem _ he)).2.1 j hj
 rcases Classical.em (X j) with hx | hx
 ·exact .inl hx
 refine .inr ⟨?_, h3⟩
 rcases Nat.lt_or_ge j V.heap.size with h4 | h4
 ·exact absurd hj (h1 ⟨h2, h4, hx⟩)
 exact h4
theorem Inv.asideX (hI : Inv NF w0 V H) (hX : ∀ e ∈ H, ∀ k, e.D k → X k) (hn : w0.heap.size ≤ n) (hc : Chg (notX n X) V V') : Inv NF w0 V' H := by
 have h1 : Chg NF w0 V' := hI.chg.trans' hc fun k hk h => by have := h.1; omega
 exact ⟨h1, fun e he => (hI.ok e he).chg hc (fun k hk h => h.2 (hX e he k hk)), hI.own, hI.apart⟩
end
end Go.Proofs.YtnckdmogdehnoaaGreatDoor
