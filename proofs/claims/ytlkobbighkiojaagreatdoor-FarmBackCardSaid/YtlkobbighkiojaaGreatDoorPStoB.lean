/- FarmBack. -/
import Derived.Test.YtlkobbighkiojaaGreatDoorPA
import Derived.Test.YtlkobbighkiojaaGreatDoorPSxI
import Derived.Deep.Upon
import Derived.Laws.IdiomStrings
import Derived.Test.YtlkobbighkiojaaGreatDoorProg
import Derived.Laws.CopyRow
import Derived.Test.YtlkobbighkiojaaGreatDoorPReg
import Derived.Lib.AtoiAll
import Derived.Lib.ItoaNum
import Derived.Lib.Split
import Derived.Lib.Join
import Derived.Lib.FieldsP
import Derived.Lib.IndexBytes
import Derived.Laws.RangeString
import Derived.Lib.Fields
import Derived.Lib.IndexMore
import Derived.Test.YtlkobbighkiojaaGreatDoorShelf
import Derived.Test.YtlkobbighkiojaaGreatDoorSxA
import Derived.Shelf.Strings.SplitShaped
import Derived.Shelf.Strings.Shaped
import Derived.Shelf.Strings.Search3
import Derived.Shelf.Strings.Count
import Derived.Shelf.Small.Wraps
import Derived.Shelf.Slices.Turned
set_option maxHeartbeats 4000000
set_option linter.unusedVariables false
set_option linter.unusedSimpArgs false
namespace Go.Proofs.YtlkobbighkiojaaGreatDoor
open Tryz
variable {N_ : Nat} {ops_ : Array Oper} {Q_ : XPost} {S_ : World → Prop} {T_ : List Nat} {f_ : Nat} {l_ : Array Bool} {d_ : Nat}
open Go
def DL (l : List Ent) : Nat → Prop := fun k => ∃ e ∈ l, e.D k
section
variable {S : Nat → Prop} {w0 w w' : World} {H H' l : List Ent}
theorem Inv.from (h : Inv S w0 w (l ++ H)) : Inv (DL l) w w l :=
 ⟨Chg.refl _ w, fun e he => h.ok e (by simp [he]), fun e he k hk => .inl ⟨e, he, hk⟩, (List.pairwise_append.1 h.apart).1⟩
theorem Inv.turnL (h : Inv S w0 w (l ++ H)) (h' : Inv (DL l) w w' H') : Inv S w0 w' (H' ++ H) := by
 obtain ⟨p1, p2, p3⟩ := List.pairwise_append.1 h.apart
 refine ⟨h.chg.trans' h'.chg fun k hk1 hk2 => ?_, fun x hx => ?_, fun x hx k hk => ?_, List.pairwise_append.2 ⟨h'.apart, p2, fun a ha b hb k h1 h2 => ?_⟩⟩
 ·obtain ⟨e, he, hk2⟩ := hk2
  rcases h.own e (by simp [he]) k hk2 with h1 | h1
  ·exact h1
  omega
 ·rcases List.mem_append.1 hx with hx | hx
  ·exact h'.ok x hx
  exact (h.ok x (by simp [hx])).chg h'.chg (fun k hk hk2 => by obtain ⟨e, he, hk2⟩ := hk2; exact p3 e he x hx k hk2 hk)
 ·rcases List.mem_append.1 hx with hx | hx
  ·rcases h'.own x hx k hk with ⟨e, he, h1⟩ | h1
   ·exact h.own e (by simp [he]) k h1
   exact .inr (Nat.le_trans h.chg.size h1)
  exact h.own x (by simp [hx]) k hk
 rcases h'.own a ha k h1 with ⟨e, he, h3⟩ | h3
 ·exact p3 e he b hb k h3 h2
 have := (h.ok b (by simp [hb])).2.1 k h2
 omega
end
open Go Go.RowKit
set_option linter.unusedSectionVars false
def WinΦ (e size : Nat) (A : Option Addr) (n c : Nat) (xs : List Value) (w : World) : Prop :=
 xs.length = n * size ∧ n ≤ c ∧ c ≤ 9223372036854775807 ∧ ((A = none ∧ c = 0) ∨ ∃ (g o : Nat) (cur : Array Value), A = some ⟨g, o, none⟩ ∧ Blk w g e cur ∧ o + c * size ≤ cur.size ∧ ∀ j u, xs[j]? = some u → cur[o + j]? = some u)
def Win (e size : Nat) (A : Option Addr) (n c : Nat) (xs : List Value) : Ent := ⟨fun k => A.map (·.block) = some k, WinΦ e size A n c xs⟩
theorem Win.ok {e size n c : Nat} {A : Option Addr} {xs : List Value} {w : World} (h : WinΦ e size A n c xs w) : (Win e size A n c xs).ok w := by
 refine Ent.mk_ok h (fun k hk => ?_) (fun S w1 w2 hc hS h1 => ?_)
 ·rcases h.2.2.2 with ⟨rfl, _⟩ | ⟨g, o, cur, rfl, hb, _⟩
  ·simp at hk
  simp at hk; subst hk; exact Blk.lt hb
 refine ⟨h1.1, h1.2.1, h1.2.2.1, ?_⟩
 rcases h1.2.2.2 with h2 | ⟨g, o, cur, rfl, hb, h3⟩
 ·exact .inl h2
 exact .inr ⟨g, o, cur, rfl, Blk.chg hb hc (hS g rfl), h3⟩
section
variable {P : Program} {N : Nat} {ops : Array Oper} {Q : XPost} {rest : List Oper} {ρ : Env} {o : Oper} {w0 w : World} {S : Nat → Prop} {H : List Ent} {d t : Nat}
theorem Inv.winOf {base e size n c : Nat} {A : Option Addr} {xs : List Value} (hI : Inv S w0 w (Row base e size A n c xs :: H)) : Inv S w0 w (Win e size A n c xs :: H) := by
 have h1 : w.ownsRow base e size (.slice A n c) n xs := (hI.ok _ (List.mem_cons_self ..)).1
 refine hI.u0 (e' := Win e size A n c xs) (Chg.refl _ _) (Win.ok ?_) (fun k hk => .inl hk)
 rcases h1.2 with ⟨hv, h0⟩ | ⟨g, cap, cur, hv, hb, hh, hnc, hcm, hcs, htake⟩
 ·injection hv with q1 q2 q3
  subst q1 q2 q3
  exact ⟨h1.1, Nat.le_refl _, by omega, .inl ⟨rfl, rfl⟩⟩
 injection hv with q1 q2 q3
 subst q1 q3
 refine ⟨h1.1, hnc, hcm, .inr ⟨g, 0, cur, rfl, hh, by omega, fun j u hj => ?_⟩⟩
 rw [← htake] at hj
 have := (List.getElem?_eq_some_iff.1 hj)
 obtain ⟨hl, he⟩ := this
 rw [List.getElem_take] at he
 rw [Nat.zero_add]
 rw [List.length_take] at hl
 rw [Array.getElem?_eq_getElem (by have : j < cur.toList.length := by omega
                                   simpa using this)]
 rw [← he]; simp
theorem Inv.winGet {e n c : Nat} {A : Option Addr} {xs : List Value} {j : Nat} {u : Value} (hI : Inv S w0 w (Win e 1 A n c xs :: H)) (hj : xs[j]? = some u) : ∃ g o, A = some ⟨g, o, none⟩ ∧ w.cell? ⟨g, o + j, none⟩ = some u := by
 obtain ⟨h1, h2, h3, h4⟩ := (hI.ok _ (List.mem_cons_self ..)).1
 have hl := (List.getElem?_eq_some_iff.1 hj).1
 rcases h4 with ⟨_, rfl⟩ | ⟨g, o, cur, rfl, hb, hc, hx⟩
 ·omega
 exact ⟨g, o, rfl, by rw [hb.cell]; exact hx j u hj⟩
theorem Inv.winTail {e n c : Nat} {A : Option Addr} {x : Value} {xs : List Value} (hI : Inv S w0 w (Win e 1 A (n + 1) c (x :: xs) :: H)) : Inv S w0 w (Win e 1 (if c = 1 then A else A.map (·.add (1 * 1))) n (c - 1) xs :: H) := by
 obtain ⟨h1, h2, h3, h4⟩ := (hI.ok _ (List.mem_cons_self ..)).1
 rcases h4 with ⟨_, rfl⟩ | ⟨g, o, cur, rfl, hb, hc, hx⟩
 ·omega
 refine hI.u0 (Chg.refl _ _) (Win.ok ⟨by simpa using h1, by omega, by omega, .inr ?_⟩) (fun k hk => .inl ?_)
 ·by_cases h : c = 1
  ·rw [if_pos h]
   refine ⟨g, o, cur, rfl, hb, by omega, fun j u hj => ?_⟩
   have := (List.getElem?_eq_some_iff.1 hj).1
   have : xs.length + 1 = (n + 1) * 1 := by simpa using h1
   omega
  rw [if_neg h]
  refine ⟨g, o + 1, cur, by simp [Addr.add_lit], hb, by omega, fun j u hj => ?_⟩
  have := hx (j + 1) u (by simpa using hj)
  rw [← this]; congr 1; omega
 have hk : ((if c = 1 then some (⟨g, o, none⟩ : Addr) else (some (⟨g, o, none⟩ : Addr)).map (·.add (1 * 1)))).map (·.block) = some k := hk
 show (some (⟨g, o, none⟩ : Addr)).map (·.block) = some k
 rw [← hk]
 split <;> simp [Addr.add_lit]
theorem pure_drew (w : World) (o : Obj) : Pure w (w.drew.alloc o) := by
 have h : Chg NF w w.drew := ⟨rfl, rfl, rfl, Nat.le_refl _, fun k hk _ => rfl⟩
 exact (h.toPure).trans ((Pure.refl _).alloc _)
theorem WL_appW {u : TypeId} {x y : Operand} {e size n c m by_ : Nat} {A : Option Addr} {xs news : List Value} {z : Value} (yv : Value) (hI : Inv S w0 w (Win e size A n c xs :: H)) (hw : wantedR ops ρ o = true) (hd : o.dst = some d) (hN : Nat.blt d N = true)
  (ho : o.op = .call { callee := .builtin .append, args := #[x, y], argTypes := #[t, u] }) (hx : ev ρ x = .slice A n c) (hy : ev ρ y = yv) (ht : P.underlying t = some (.slice e))
  (hi0 : (P.info? e).map (fun i => (i.zero, i.size, i.bytes)) = some (some z, size, by_)) (hz1 : z.cells.size = size) (hsz : 0 < size) (hs : Src P size u yv m news w)
  (h63 : n + m ≤ 9223372036854775807) (hby : (n + m) * by_ ≤ 140737488355328)
  (h : ∀ A' c' w', n + m ≤ c' → c' ≤ 9223372036854775807 → Inv S w0 w' (Win e size A' (n + m) c' (xs ++ news) :: H) → WL P N ops Q rest (upd ρ d (.slice A' (n + m) c')) w') : WL P N ops Q (o :: rest) ρ w := by
 cases hp : P.info? e with
 | none => simp [hp] at hi0
 | some q =>
  simp only [hp, Option.map_some, Option.some.injEq, Prod.mk.injEq] at hi0
  obtain ⟨q1, q2, q3⟩ := hi0
  subst q2 q3
  obtain ⟨h1, h2, h3, h4⟩ := (hI.ok _ (List.mem_cons_self ..)).1
  have hnl := hs.newsLen
  have hcont : ∀ (A' : Option Addr) (c' : Nat) (w' : World), (Builtin.append_ #[t, u] o.type #[.slice A n c, yv]).run P w = .ok (.slice A' (n + m) c') w' → n + m ≤ c' → c' ≤ 9223372036854775807 → Inv S w0 w' (Win e q.size A' (n + m) c' (xs ++ news) :: H) → WL P N ops Q (o :: rest) ρ w := fun A' c' w' hrun hc1 hc2 hI' =>
   WL_eff hw hd hN (v := .slice A' (n + m) c') (w' := w') (by simp [execOp, ho, resolve, invoke, builtin, hx, hy, hrun]) (h A' c' w' hc1 hc2 hI')
  have hlen : (xs ++ news).length = (n + m) * q.size := by rw [List.length_append, h1, hnl, Nat.add_mul]
  by_cases hroom : n + m ≤ c
  ·rcases h4 with ⟨rfl, rfl⟩ | ⟨g, of, cur, rfl, hb, hcs, hxs⟩
   ·have hm0 : m = 0 := by omega
    have hn0 : n = 0 := by omega
    subst hm0 hn0
    have hne : news = [] := List.eq_nil_of_length_eq_zero (by simpa using hnl)
    subst hne
    refine hcont none 0 w (run_append_nothing w t u o.type e q ht hp none 0 0 (Nat.le_refl _) yv hs) (by omega) (by omega) ?_
    rw [List.append_nil]; exact hI
   have hsum : n * q.size + m * q.size ≤ c * q.size := by rw [← Nat.add_mul]; exact Nat.mul_le_mul_right _ hroom
   have hB2 := hb.setCells news (of + n * q.size)
   refine hcont (some ⟨g, of, none⟩) c (w.setCells g (of + n * q.size) news) (run_append_room_src w t u o.type e q ht hp g of n c yv m news hs hroom (fun j hj => ?_) (fun j hj => hb.frozen _)) (by omega) h3 ?_
   ·rw [hb.cell, Array.getElem?_eq_getElem (by omega)]; rfl
   refine hI.u0 (e' := Win e q.size (some ⟨g, of, none⟩) (n + m) c (xs ++ news)) (Chg.setCells (S := (Win e q.size (some ⟨g, of, none⟩) n c xs).D) (b := g) (.inl rfl) _ _ (Chg.refl _ _)) (Win.ok ⟨hlen, hroom, h3, .inr ⟨g, of, _, rfl, hB2, by rw [splice_size]; exact hcs, fun j u hj => ?_⟩⟩) (fun k hk => .inl hk)
   rw [splice_get _ _ _ _ (by omega)]
   by_cases hjn : j < n * q.size
   ·rw [if_neg (by omega)]
    rw [List.getElem?_append_left (by omega)] at hj
    exact hxs j u hj
   have hjl := (List.getElem?_eq_some_iff.1 hj).1
   rw [if_pos (by rw [hlen, Nat.add_mul] at hjl; omega)]
   rw [List.getElem?_append_right (by omega), h1] at hj
   rw [← hj]; congr 1; omega
  have hold : (Builtin.firstCells q.size n (.slice A n c)).run P w.drew = .ok xs.toArray w.drew := by
   rcases h4 with ⟨rfl, rfl⟩ | ⟨g, of, cur, rfl, hb, hcs, hxs⟩
   ·have hn0 : n = 0 := by omega
    subst hn0
    have hne : xs = [] := List.eq_nil_of_length_eq_zero (by simpa using h1)
    subst hne
    exact run_firstCells_none _ _ _ _ _
   refine run_firstCells_some w.drew q.size n ⟨g, of, none⟩ n c xs h1 fun j v hj => ?_
   rw [Addr.add_lit]
   have hb' : Blk w.drew g e cur := hb
   rw [hb'.cell]
   exact hxs j v hj
  have hrun := run_append_grow_src (P := P) w t u o.type e q z ht hp q1 A n c xs hold yv m news hs (by omega) (by omega) (growslice_fits (by omega) hby)
  have hge := grownCap_ge w (n + m) c e
  have hcm := grownCap_le_maxLen w (n + m) c e (by simpa [maxLen] using h63)
  refine hcont _ _ _ hrun hge (by simpa [maxLen] using hcm) ?_
  have hnew : Blk (w.drew.alloc (.cells ((xs ++ news).toArray ++ Builtin.zeroCells z.cells (grownCap w (n + m) c e - (n + m))) e)) w.heap.size e ((xs ++ news).toArray ++ Builtin.zeroCells z.cells (grownCap w (n + m) c e - (n + m))) := heap_alloc_new w.drew _
  refine hI.d0.fresh (pure_drew w _) (Win.ok ⟨hlen, hge, by simpa [maxLen] using hcm, .inr ⟨w.heap.size, 0, _, rfl, hnew, ?_, fun j u hj => ?_⟩⟩) (fun k hk => ?_)
  ·have e1 : (n + m) + (grownCap w (n + m) c e - (n + m)) = grownCap w (n + m) c e := by omega
   rw [Array.size_append, List.size_toArray, hlen, size_zeroCells, hz1, ← Nat.add_mul, e1, Nat.zero_add]
   exact Nat.le_refl _
  ·have hjl := (List.getElem?_eq_some_iff.1 hj).1
   rw [Nat.zero_add, Array.getElem?_append_left (by simpa using hjl)]
   simpa using hj
  have hk : some w.heap.size = some k := hk
  injection hk with hk
  omega
end
open Go Go.RowKit
abbrev strV (l : List UInt8) : Value := .string ⟨l.toArray⟩
theorem str_size (l : List UInt8) : (⟨l.toArray⟩ : ByteArray).size = l.length := by simp [ByteArray.size]
theorem str_list (l : List UInt8) : (⟨l.toArray⟩ : ByteArray).data.toList = l := rfl
theorem str_toList (l : List UInt8) : (⟨l.toArray⟩ : ByteArray).toList = l := by simp
section
variable {P : Program} {ρ : Env} {o : Oper} {w : World} {x y z : Operand} {t t' : TypeId} {k k' : IntKind} {l m : List UInt8}
theorem rStrAt {c : UInt8} {i : Nat} (ho : o.op = .index t x y) (ht : P.underlying t = some .string) (hx : ev ρ x = strV l) (hy : ev ρ y = .int k (i : Int)) (hi : l[i]? = some c) : Runs P ρ o w (.int .u8 (c.toNat : Int)) := by
 have hl := (List.getElem?_eq_some_iff.1 hi).1
 have h := run_index_string (P := P) w t ⟨l.toArray⟩ k (i : Int) ht
 rw [dif_pos ⟨by omega, by rw [str_size]; omega⟩] at h
 have e : (⟨l.toArray⟩ : ByteArray)[(i : Int).toNat]'(by rw [str_size]; omega) = c := by
  show l.toArray[(i : Int).toNat]'_ = c
  have := (List.getElem?_eq_some_iff.1 hi).2
  simpa using this
 rw [e] at h
 simp [Runs, execOp, ho, hx, hy, h]
theorem Ua {N_ : Nat} {ops_ : Array Oper} {Q_ : XPost} {rest_ : List Oper} {d_ : Nat} {c : UInt8} {i : Nat} (h0_ : @Eq _ (wantedR ops_ ρ o, o.dst, Nat.blt d_ N_, o.op) (true, some d_, true, .index t x y)) (ht : P.underlying t = some .string) (h1_ : @Eq _ (ev ρ x, ev ρ y) (strV l, .int k (i : Int))) (K_ : WL P N_ ops_ Q_ rest_ (upd ρ d_ (.int .u8 (c.toNat : Int))) w) (h2_ : l[i]? = some c := by assumption) : WL P N_ ops_ Q_ (o :: rest_) ρ w := WL_val (q1 h0_) (q1 (q2 h0_)) (q1 (q2 (q2 h0_))) (rStrAt (q2 (q2 (q2 h0_))) ht (q1 h1_) (q2 h1_) h2_) K_
theorem Uq (i_ : Nat) (c : UInt8) (i : Nat) (h0_ : @Eq _ (ops_[i_]?, o.dst, wantedR ops_ ρ o, o.op) (some o, some d_, true, .index t x y)) (ht : P.underlying t = some .string) (h1_ : @Eq _ (ev ρ x, ev ρ y, l[i]?) (strV l, .int k (i : Int), some c)) (K_ : WT P N_ ops_ Q_ S_ T_ f_ (l_.setIfInBounds i_ true) (upd ρ d_ (.int .u8 (c.toNat : Int))) w) (hB_ : takeT ops_ T_ N_ l_ i_ d_ = true := by kernel_rfl) (hS_ : S_ w := by first | exact hZ _ hI | exact hZ _ hI.hd1 | exact hZ _ hI.d0 | exact hZ _ hI.d1 | exact hZ _ hI.d2 | exact hZ _ hI.d3 | exact hZ _ hI.d0.d0) : WT P N_ ops_ Q_ S_ T_ (f_ + 1) l_ ρ w := WT_take i_ (q1 h0_) (q1 (q2 h0_)) hB_ hS_ (q1 (q2 (q2 h0_))) (fun W_ hW_ => rStrAt (c := c) (i := i) (q2 (q2 (q2 h0_))) ht (q1 h1_) (q1 (q2 h1_)) (q2 (q2 h1_))) K_
theorem str_extract (a b : Nat) : (⟨l.toArray⟩ : ByteArray).extract a b = ⟨((l.drop a).take (b - a)).toArray⟩ := by
 apply ByteArray.ext
 rw [ByteArray.data_extract]
 simp [List.extract_eq_take_drop]
theorem rStrSl {a b : Nat} (ho : o.op = .slice t x (some y) (some z) none) (ht : P.underlying t = some .string) (hx : ev ρ x = strV l) (hy : ev ρ y = .int k (a : Int)) (hz : ev ρ z = .int k' (b : Int)) (hab : a ≤ b) (hb : b ≤ l.length) : Runs P ρ o w (strV ((l.drop a).take (b - a))) := by
 show Runs P ρ o w (Value.string ⟨((l.drop a).take (b - a)).toArray⟩)
 rw [← str_extract]
 have hs : b ≤ (⟨l.toArray⟩ : ByteArray).size := by rw [str_size]; exact hb
 simp [Runs, execOp, ho, hx, hy, hz, Instr.sliceAt, Instr.slice, Instr.sliceBounds, Instr.sliceBound, asIntOf, run_underlying ht, hab, hs]
theorem rStrSlTo {b : Nat} (ho : o.op = .slice t x none (some z) none) (ht : P.underlying t = some .string) (hx : ev ρ x = strV l) (hz : ev ρ z = .int k' (b : Int)) (hb : b ≤ l.length) : Runs P ρ o w (strV (l.take b)) := by
 have e := str_extract (l := l) 0 b
 rw [List.drop_zero, Nat.sub_zero] at e
 show Runs P ρ o w (Value.string ⟨(l.take b).toArray⟩)
 rw [← e]
 have hs : b ≤ (⟨l.toArray⟩ : ByteArray).size := by rw [str_size]; exact hb
 simp [Runs, execOp, ho, hx, hz, Instr.sliceAt, Instr.slice, Instr.sliceBounds, Instr.sliceBound, asIntOf, run_underlying ht, hs]
theorem rStrSlFrom {a : Nat} (ho : o.op = .slice t x (some y) none none) (ht : P.underlying t = some .string) (hx : ev ρ x = strV l) (hy : ev ρ y = .int k (a : Int)) (ha : a ≤ l.length) : Runs P ρ o w (strV (l.drop a)) := by
 have e := str_extract (l := l) a l.length
 rw [List.take_of_length_le (by simp)] at e
 show Runs P ρ o w (Value.string ⟨(l.drop a).toArray⟩)
 rw [← e]
 have hs : a ≤ (⟨l.toArray⟩ : ByteArray).size := by rw [str_size]; exact ha
 rw [← str_size l]
 simp [Runs, execOp, ho, hx, hy, Instr.sliceAt, Instr.slice, Instr.sliceBounds, Instr.sliceBound, asIntOf, run_underlying ht, hs]
theorem rStrLen (ho : o.op = .call { callee := .builtin .len, args := #[x], argTypes := #[t] }) (ht : P.underlying t = some .string) (hx : ev ρ x = strV l) : Runs P ρ o w (.int .i64 (l.length : Int)) := by
 have := rLenStr (P := P) (w := w) ho ht hx
 rwa [str_size] at this
theorem T0 {N_ : Nat} {ops_ : Array Oper} {Q_ : XPost} {rest_ : List Oper} {d_ : Nat} (h0_ : @Eq _ (wantedR ops_ ρ o, o.dst, Nat.blt d_ N_, o.op) (true, some d_, true, .call { callee := .builtin .len, args := #[x], argTypes := #[t] })) (ht : P.underlying t = some .string) (h1_ : ev ρ x = strV l) (K_ : WL P N_ ops_ Q_ rest_ (upd ρ d_ (.int .i64 (l.length : Int))) w) : WL P N_ ops_ Q_ (o :: rest_) ρ w := WL_val (q1 h0_) (q1 (q2 h0_)) (q1 (q2 (q2 h0_))) (rStrLen (q2 (q2 (q2 h0_))) ht h1_) K_
theorem rStrEq (ho : o.op = .binOp .eql t x y t') (hx : ev ρ x = strV l) (hy : ev ρ y = strV m) : Runs P ρ o w (.bool (decide (l = m))) := by
 have := rStrEql (P := P) (w := w) ho hx hy
 rw [str_toList, str_toList] at this
 rw [show decide (l = m) = (l == m) from by cases h : decide (l = m) <;> simp_all]
 exact this
theorem rStrEqT (ho : o.op = .binOp .eql t x y t') (hx : ev ρ x = strV l) (hy : ev ρ y = strV m) (h : l = m) : Runs P ρ o w (.bool true) := by
 have := rStrEq (P := P) (w := w) ho hx hy
 rwa [decide_eq_true h] at this
theorem Uj {N_ : Nat} {ops_ : Array Oper} {Q_ : XPost} {rest_ : List Oper} {d_ : Nat} (h0_ : @Eq _ (wantedR ops_ ρ o, o.dst, Nat.blt d_ N_, o.op, ev ρ x, ev ρ y) (true, some d_, true, .binOp .eql t x y t', strV l, strV m)) (K_ : WL P N_ ops_ Q_ rest_ (upd ρ d_ (.bool true)) w) (h1_ : l = m := by decide) : WL P N_ ops_ Q_ (o :: rest_) ρ w := WL_val (q1 h0_) (q1 (q2 h0_)) (q1 (q2 (q2 h0_))) (rStrEqT (q1 (q2 (q2 (q2 h0_)))) (q1 (q2 (q2 (q2 (q2 h0_))))) (q2 (q2 (q2 (q2 (q2 h0_))))) h1_) K_
theorem rStrEqF (ho : o.op = .binOp .eql t x y t') (hx : ev ρ x = strV l) (hy : ev ρ y = strV m) (h : l ≠ m) : Runs P ρ o w (.bool false) := by
 have := rStrEq (P := P) (w := w) ho hx hy
 rwa [decide_eq_false h] at this
theorem U3 {N_ : Nat} {ops_ : Array Oper} {Q_ : XPost} {rest_ : List Oper} {d_ : Nat} (h0_ : @Eq _ (wantedR ops_ ρ o, o.dst, Nat.blt d_ N_, o.op, ev ρ x, ev ρ y) (true, some d_, true, .binOp .eql t x y t', strV l, strV m)) (K_ : WL P N_ ops_ Q_ rest_ (upd ρ d_ (.bool false)) w) (h1_ : l ≠ m := by assumption) : WL P N_ ops_ Q_ (o :: rest_) ρ w := WL_val (q1 h0_) (q1 (q2 h0_)) (q1 (q2 (q2 h0_))) (rStrEqF (q1 (q2 (q2 (q2 h0_)))) (q1 (q2 (q2 (q2 (q2 h0_))))) (q2 (q2 (q2 (q2 (q2 h0_))))) h1_) K_
theorem Ul {N_ : Nat} {ops_ : Array Oper} {Q_ : XPost} {rest_ : List Oper} {d_ : Nat} (h0_ : @Eq _ (wantedR ops_ ρ o, o.dst, Nat.blt d_ N_, o.op, ev ρ x, ev ρ y) (true, some d_, true, .binOp .eql t x y t', strV l, strV m)) (K_ : WL P N_ ops_ Q_ rest_ (upd ρ d_ (.bool false)) w) (h1_ : l ≠ m := by decide) : WL P N_ ops_ Q_ (o :: rest_) ρ w := WL_val (q1 h0_) (q1 (q2 h0_)) (q1 (q2 (q2 h0_))) (rStrEqF (q1 (q2 (q2 (q2 h0_)))) (q1 (q2 (q2 (q2 (q2 h0_))))) (q2 (q2 (q2 (q2 (q2 h0_))))) h1_) K_
theorem rStrNe (ho : o.op = .binOp .neq t x y t') (hx : ev ρ x = strV l) (hy : ev ρ y = strV m) : Runs P ρ o w (.bool (!decide (l = m))) := by
 have e : decide (l = m) = (l == m) := by cases h : decide (l = m) <;> simp_all
 rw [e]
 simp [Runs, execOp, ho, hx, hy, eqGuard, binOp, Op.stringOp]
theorem rStrNeT (ho : o.op = .binOp .neq t x y t') (hx : ev ρ x = strV l) (hy : ev ρ y = strV m) (h : l ≠ m) : Runs P ρ o w (.bool true) := by
 have := rStrNe (P := P) (w := w) ho hx hy
 rwa [decide_eq_false h] at this
theorem rStrNeF (ho : o.op = .binOp .neq t x y t') (hx : ev ρ x = strV l) (hy : ev ρ y = strV m) (h : l = m) : Runs P ρ o w (.bool false) := by
 have := rStrNe (P := P) (w := w) ho hx hy
 rwa [decide_eq_true h] at this
theorem rStrAdd (ho : o.op = .binOp .add t x y t') (hx : ev ρ x = strV l) (hy : ev ρ y = strV m) (hl : l.length + m.length ≤ 9223372036854775807) : Runs P ρ o w (strV (l ++ m)) := by
 have e : (⟨l.toArray⟩ : ByteArray) ++ (⟨m.toArray⟩ : ByteArray) = ⟨(l ++ m).toArray⟩ := by
  apply ByteArray.ext
  rw [ByteArray.data_append]
  simp
 have h1 := str_size l
 have h2 := str_size m
 have h3 : ((⟨l.toArray⟩ : ByteArray).size : Int) + ((⟨m.toArray⟩ : ByteArray).size : Int) ≤ 9223372036854775807 := by omega
 simp [Runs, execOp, ho, hx, hy, eqGuard, binOp, Op.stringOp, e, h3]
theorem rBytesStrL {src dst e : TypeId} {b off n c : Nat} (l : List UInt8) (ho : o.op = .convert src dst x) (hs : P.underlying src = some (.slice e)) (he : P.underlying e = some (.int .u8)) (hd : P.underlying dst = some .string) (hx : ev ρ x = .slice (some ⟨b, off, none⟩) n c) (hl : l.length = n)
  (hc : ∀ (j : Nat) (v : UInt8), l[j]? = some v → w.cell? ⟨b, off + j, none⟩ = some (.int .u8 (v.toNat : Int))) : Runs P ρ o w (strV l) := by
 subst hl
 have h := run_convert_bytes_back (P := P) w src dst e ⟨b, off, none⟩ c l hs he hd (fun j hj => by rw [Addr.add_lit]; exact hc j _ (List.getElem?_eq_getElem hj))
 simp only [Runs, execOp, ho, hx, Sem.run_bind, h, Result.andThen_ok, Sem.run_pure]
end
def bytesL (l : List UInt8) : List Value := l.map fun b => Value.int .u8 (b.toNat : Int)
theorem src_str {P : Program} {w : World} {t : TypeId} (ht : P.underlying t = some .string) (l : List UInt8) : Src P 1 t (strV l) l.length (bytesL l) w := by
 have h := Src.ofString (w := w) ht ⟨l.toArray⟩
 rw [str_size] at h
 exact h
open Go.RowKit
section
variable {P : Program} {ρ : Env} {w : World} {o : Oper} {x : Operand} {t t' e : TypeId}
theorem rSlNT {n c : Nat} (ho : o.op = .binOp .eql t x (.const (.slice none 0 0)) t') (ht : P.underlying t = some (.slice e)) (hx : ev ρ x = .slice none n c) : Runs P ρ o w (.bool true) := by
 have h := run_equal (P := P) (w := w) (t := t) (x := .slice none n c) (y := .slice none 0 0) (r := true) (fun d => by simp [Op.equalIn, run_underlying ht])
 simp [Runs, execOp, ho, hx, show ev ρ (.const (.slice none 0 0)) = .slice none 0 0 from rfl, eqGuard, binOp, h]
theorem rSlNF {n c : Nat} {p : Addr} (ho : o.op = .binOp .eql t x (.const (.slice none 0 0)) t') (ht : P.underlying t = some (.slice e)) (hx : ev ρ x = .slice (some p) n c) : Runs P ρ o w (.bool false) := by
 have h := run_equal (P := P) (w := w) (t := t) (x := .slice (some p) n c) (y := .slice none 0 0) (r := false) (fun d => by simp [Op.equalIn, run_underlying ht])
 simp [Runs, execOp, ho, hx, show ev ρ (.const (.slice none 0 0)) = .slice none 0 0 from rfl, eqGuard, binOp, h]
end
theorem ints_one (l : List Int) : (l.map (Value.int .i64)).all (·.oneCell') = true := by simp [Value.oneCell']
theorem cloneI_any (A : Option Addr) (n c : Nat) (l : List Int) (D : Nat → Prop) (w0 : World) (h : Ints w0 D (.slice A n c) l) (hb : l.length ≤ 1000000) :
  Cq 13 #[.slice A n c] w0 fun en w' => ∃ A' c', en = .returned (.slice A' n c') ∧ Inv NF w0 w' [Row 0 3 1 A' n c' (l.map (Value.int .i64))] := by
 obtain ⟨A1, c1, hv, hnc, hcm, hlen, hcell⟩ := h
 injection hv with e1 e2 e3
 subst e1 e2 e3
 have hI := Inv.start (fun _ => False) w0
 refine Vn func13 rfl ?_
 refine Wq (Vo rfl (Wn ?_))
 cases A with
 | none =>
  have hl : l = [] := by
   rcases Nat.eq_zero_or_pos l.length with h0 | h0
   ·exact List.eq_nil_of_length_eq_zero h0
   obtain ⟨b, o, hbo, _⟩ := hcell h0
   cases hbo
  subst hl
  refine Ws (Wq (Vi rfl ?_))
  refine Wv rfl (rSlNT rfl yy26 rfl) ?_
  refine Wn (Wc true rfl (Wq (Vo rfl (Wn ?_))))
  exact WR (r1_ 2 rfl ⟨none, 0, rfl, hI.fresh (Pure.refl _) (Row.nil _ 0 3 1) (fun k hk => by simp [Row] at hk)⟩)
 | some p =>
  refine Ws (Wq (Vi rfl ?_))
  refine Wv rfl (rSlNF rfl yy26 rfl) ?_
  refine Wn (Wc false rfl (Wk (Wq (T3 [] [] [] [] hI rfl yy26 (fun _ => by kernel_rfl) ?_))))
  rintro b5 w - - hI
  refine Vi rfl ?_
  have hI := hI.u0 (e' := Row 0 3 1 (some ⟨b5, 0, none⟩) 0 0 []) (Chg.refl _ _) (Row.of_blk hI.g0 (Nat.zero_le _) (by simp) (by omega)) (fun k hk => .inl (by have : some b5 = some k := hk; injection this with this; exact this.symm))
  rcases Nat.eq_zero_or_pos l.length with h0 | h0
  ·have hl : l = [] := List.eq_nil_of_length_eq_zero h0
   subst hl
   refine Wv rfl (rApp0 rfl yy26 (sz := 1) (by kernel_rfl) rfl rfl (Nat.le_refl _)) ?_
   refine Vo rfl (Wn ?_)
   exact WR (r1_ 2 rfl ⟨_, _, rfl, hI⟩)
  obtain ⟨b, o, hbo, _, hcl⟩ := hcell h0
  injection hbo with hbo
  subst hbo
  refine WL_app0 (z := .int .i64 0) (by_ := 8) (news := l.map (Value.int .i64)) hI rfl rfl rfl rfl rfl rfl yy26 (by kernel_rfl) rfl (by omega) (by rw [hlen]) (fun k u hk => hI.oldp (hcl k u hk)) (ints_one l) (by simp; omega) (by simp; omega) (Nat.zero_le _) ?_
  rintro A2 c2 w _ _ hI
  refine Vo rfl (Wn ?_)
  refine WR ?_
  refine r1_ 2 rfl ⟨A2, c2, ?_, ?_⟩
  ·show Ending.returned (.slice A2 (0 + l.length) c2) = _; rw [Nat.zero_add]
  have h' : Inv NF w0 w [Row 0 3 1 A2 (0 + l.length) c2 ([] ++ l.map (Value.int .i64))] := hI
  rw [Nat.zero_add, List.nil_append] at h'; exact h'
end Go.Proofs.YtlkobbighkiojaaGreatDoor
namespace Go.Proofs.YtlkobbighkiojaaGreatDoor
open Tryz
open Go
theorem Chg.cellC {S : Nat → Prop} {w w' : World} {p : Addr} {v : Value} (h : Chg S w w') (hv : w.cell? p = some v) (hS : ¬ S p.block) : w'.cell? p = some v := by
 have hb := h.block p.block (World.block_lt_of_cell? w p hv) hS
 unfold World.cell? at *
 rw [hb]; exact hv
def CtE (g : Nat) (l : List UInt8) : Ent := ⟨fun k => k = g, fun w => g < w.heap.size ∧ ∀ (j : Nat) (b : UInt8), l[j]? = some b → w.cell? ⟨g, j, none⟩ = some (.int .u8 (b.toNat : Int))⟩
theorem CtE.ok {w : World} {g : Nat} {l : List UInt8} (h : (CtE g l).Φ w) : (CtE g l).ok w :=
 Ent.mk_ok h (fun k hk => by have hk : k = g := hk; rw [hk]; exact h.1) fun S w1 w2 hc hS h => ⟨Nat.lt_of_lt_of_le h.1 hc.size, fun j b hb => hc.cellC (h.2 j b hb) (hS g rfl)⟩
section
variable {P : Program} {N : Nat} {ops : Array Oper} {Q : XPost} {rest : List Oper} {ρ : Env} {o : Oper} {w0 w w' : World} {S : Nat → Prop} {H : List Ent} {d g t tt : Nat} {cs : Array Value} {x y : Operand}
theorem WL_s2b {l : List UInt8} {src dst e : TypeId} (hI : Inv S w0 w H) (hw : wantedR ops ρ o = true) (hd : o.dst = some d) (hN : Nat.blt d N = true) (ho : o.op = .convert src dst x) (hx : ev ρ x = strV l) (hs : P.underlying src = some .string) (hdt : P.underlying dst = some (.slice e)) (he : P.underlying e = some (.int .u8))
  (h : ∀ g c w', Pure w w' → l.length ≤ c → Inv S w0 w' (CtE g l :: H) → WL P N ops Q rest (upd ρ d (.slice (some ⟨g, 0, none⟩) l.length c)) w') : WL P N ops Q (o :: rest) ρ w := by
 have hr := run_bytes_of_string (P := P) w src dst e ⟨l.toArray⟩ hs hdt he
 have hz : (⟨l.toArray⟩ : ByteArray).size = l.length := str_size l
 rw [hz] at hr
 refine WL_eff hw hd hN (v := .slice (some ⟨w.heap.size, 0, none⟩) l.length (grownCap w l.length 0 e)) (w' := w.drew.alloc (.cells (bytesRow ⟨l.toArray⟩ (grownCap w l.length 0 e)) e ((bytesRow ⟨l.toArray⟩ (grownCap w l.length 0 e)).size, (bytesRow ⟨l.toArray⟩ (grownCap w l.length 0 e)).size + 1))) (by simp [execOp, ho, hx, hr]) (h w.heap.size _ _ (((Pure.refl w).drew).alloc _) (grownCap_ge w l.length 0 e) ?_)
 refine hI.fresh (((Pure.refl w).drew).alloc _) (CtE.ok ⟨?_, fun j b hb => ?_⟩) (fun k hk => by have hk : k = w.heap.size := hk; omega)
 ·show w.heap.size < (w.heap.push _).size
  simp
 obtain ⟨hj, hjb⟩ := List.getElem?_eq_some_iff.1 hb
 have hcell := cell_of_row (w.drew.alloc (.cells (bytesRow ⟨l.toArray⟩ (grownCap w l.length 0 e)) e ((bytesRow ⟨l.toArray⟩ (grownCap w l.length 0 e)).size, (bytesRow ⟨l.toArray⟩ (grownCap w l.length 0 e)).size + 1))) w.heap.size j _ e _ (heap_alloc_new w.drew _)
 rw [hcell, bytesRow_at ⟨l.toArray⟩ _ j (by simpa using hj)]
 simp only [List.getElem_toArray, hjb]
theorem WL_mkRoom {x y : Operand} {e m by_ : Nat} {z : Value} (hI : Inv S w0 w H) (hw : wantedR ops ρ o = true) (hd : o.dst = some d) (hN : Nat.blt d N = true) (ho : o.op = .makeSlice t x y) (hx : ev ρ x = .int .i64 0) (hy : ev ρ y = .int .i64 (m : Int))
  (ht : P.underlying t = some (.slice e)) (hi : (P.info? e).map (fun i => (i.zero, i.size, i.bytes)) = some (some z, 1, by_)) (hz1 : z.cells = #[z]) (hb : by_ * m ≤ 281474976710656) (h63 : m ≤ 9223372036854775807)
  (h : ∀ g w', Pure w w' → g = w.heap.size → Inv S w0 w' (Win e 1 (some ⟨g, 0, none⟩) 0 m [] :: H) → WL P N ops Q rest (upd ρ d (.slice (some ⟨g, 0, none⟩) 0 m)) w') : WL P N ops Q (o :: rest) ρ w := by
 cases hp : P.info? e with
 | none => simp [hp] at hi
 | some i =>
  simp only [hp, Option.map_some, Option.some.injEq, Prod.mk.injEq] at hi
  obtain ⟨h1, h2, h3⟩ := hi
  have hbt : (i.bytes : Int) * (m : Int) ≤ 281474976710656 := by rw [h3]; omega
  have hr := run_make (P := P) w t e i z ht hp h1 .i64 .i64 0 m (by omega) (by omega) hbt (by omega)
  rw [h2, Nat.mul_one, Int.toNat_natCast] at hr
  refine WL_eff hw hd hN (v := .slice (some ⟨w.heap.size, 0, none⟩) 0 m) (w' := w.alloc (.cells (madeCells z.cells m) e)) (by simp [execOp, ho, hx, hy, hr]) (h _ _ ((Pure.refl w).alloc _) rfl ?_)
  refine (hI.box e (madeCells z.cells m)).u0 (Chg.refl _ _) (Win.ok ⟨rfl, Nat.zero_le _, h63, .inr ⟨_, 0, _, rfl, Blk.new _ _ _, ?_, fun j u hj => by simp at hj⟩⟩) (fun k hk => .inl (by have : some w.heap.size = some k := hk; injection this with this; exact this.symm))
  rw [size_madeCells]
  omega
theorem rBuildV {ps : List (Nat × Operand)} {qs : List (Nat × Value)} {v : Value} (ho : o.op = .build t ps.toArray) (hq : (ps.map fun p => (p.1, ev ρ p.2)) = qs) (hr : ∀ w : World, (Instr.build t qs.toArray).run P w = .ok v w) : Runs P ρ o w v := by
 subst hq
 have := hr w
 simp only [Runs, execOp, ho]
 simp [this]
theorem rIdxA0 {e n i : Nat} {k : IntKind} {zz : Int} (ho : o.op = .indexAddr t x y) (ht : P.underlying t = some (.array n e)) (hs : szB P e 1 = true) (hx : ev ρ x = .pointer (some ⟨g, 0, none⟩)) (hy : ev ρ y = .int k zz) (hz : zz = (i : Int)) (hi : i < n) : Runs P ρ o w (.pointer (some ⟨g, i, none⟩)) := by
 have h := rIdxArr (P := P) (w := w) ho ht hs hx hy hz hi
 rwa [Nat.mul_one, Nat.zero_add] at h
theorem src_blk {g e t : Nat} {news : List Value} (ht : P.underlying t = some (.slice e)) (hB : Blk w g e news.toArray) (h1 : ∀ u ∈ news, u.oneCell' = true) : Src P 1 t (.slice (some ⟨g, 0, none⟩) news.length news.length) news.length news w :=
 Src.ofSlice _ ht _ _ _ _ (by omega) (fun j u hj => by rw [Addr.add_lit, hB.cell, Nat.zero_add]; simpa using hj) h1
theorem WL_copy {dT sT e g off n c n' c' : Nat} {a : Addr} (vs : List Value) (hI : Inv S w0 w (B g tt cs :: H)) (hw : wantedR ops ρ o = true) (hd : o.dst = some d) (hN : Nat.blt d N = true) (ho : o.op = .call { callee := .builtin .copy, args := #[x, y], argTypes := #[dT, sT] })
  (hx : ev ρ x = .slice (some ⟨g, off, none⟩) n c) (hy : ev ρ y = .slice (some a) n' c') (hu : P.underlying dT = some (.slice e)) (hs : (P.info? e).map (·.size) = some 1) (hl : vs.length = n') (hn : n' ≤ n) (hsrc : ∀ j v, vs[j]? = some v → w.cell? (a.add j) = some v) (hfit : off + n' ≤ cs.size) (h1 : ∀ v ∈ vs, v.oneCell' = true)
  (h : ∀ w', Inv S w0 w' (B g tt (splice cs off vs) :: H) → WL P N ops Q rest (upd ρ d (.int .i64 (n' : Int))) w') : WL P N ops Q (o :: rest) ρ w := by
 have hB : Blk w g tt cs := hI.g0
 have hr := run_copy_cells (P := P) w dT sT o.type e g off n c a n' c' vs hu hs (by rw [hl]; exact (Nat.min_eq_left hn).symm) hsrc (fun j hj => by
  rw [hB.cell, Array.getElem?_eq_getElem (by omega)]; rfl) (fun j hj => hB.frozen _) h1
 refine WL_eff hw hd hN (v := .int .i64 (n' : Int)) (w' := w.setCells g off vs) (by
  simp [execOp, ho, resolve, invoke, builtin, hx, hy, hr, hl, goInt]) (h _ ?_)
 exact hI.upd 0 rfl (Chg.setCells (S := (B g tt cs).D) (b := g) (.inl rfl) _ _ (Chg.refl (B g tt cs).D w)) (B.ok (hB.setCells _ _)) (fun _ hk => .inl hk)
end
theorem src_rd {P : Program} {w : World} {D : Nat → Prop} {A : Option Addr} {n c t e' size : Nat} {xs : List Value} (ht : P.underlying t = some (.slice e')) (h : Rd w D size (.slice A n c) n xs) (h1 : ∀ u ∈ xs, u.oneCell' = true) : Src P size t (.slice A n c) n xs w := by
 obtain ⟨A', c', hv, h2, h3, h4, h5⟩ := h
 injection hv with e1 _ e3
 subst e1 e3
 cases A with
 | none =>
  have hn : n = 0 := by
   rcases Nat.eq_zero_or_pos n with h0 | h0
   ·exact h0
   obtain ⟨b, o, hb, _⟩ := h5 h0; cases hb
  subst hn
  have : xs = [] := List.eq_nil_of_length_eq_zero (by omega)
  subst this
  exact Src.ofNil _ ht c
 | some a =>
  refine Src.ofSlice _ ht a n c _ h4 (fun j u hj => ?_) h1
  have hl : 0 < n := by
   have := (List.getElem?_eq_some_iff.1 hj).1
   rcases Nat.eq_zero_or_pos n with h0 | h0
   ·subst h0; omega
   exact h0
  obtain ⟨b, o, hb, _, hc⟩ := h5 hl
  injection hb with hb
  subst hb
  rw [Addr.add_lit]
  exact hc j u hj
open Go
structure Ev where
 proc : Int
 ty : Int
 key : Int
 kind : Int
 a : Int
 b : Int
 res : Int
 deriving DecidableEq
def evL (e : Ev) : List Value := [.int .i64 e.proc, .int .i64 e.ty, .int .i64 e.key, .int .i64 e.kind, .int .i64 e.a, .int .i64 e.b, .int .i64 e.res]
def inB (n lo hi : Int) : Bool := decide (lo ≤ n) && decide (n ≤ hi)
def toldB (proc key : Int) (l : List Int) : Bool := (l.all fun n => inB n (-1000000) 1000000) && inB proc 0 7 && inB key 0 7
def evOkB (e : Ev) : Bool := toldB e.proc e.key [e.a, e.b, e.res] && inB e.ty 1 4 && inB e.kind 1 12 && !(!decide (e.res = 0) && !decide (e.ty = 2))
open Go
theorem parse_snoc {c : UInt8} (hc : 48 ≤ c.toNat ∧ c.toNat ≤ 57) : ∀ (l : List UInt8) (a b : Nat), Lib.parseUint10 a l = .ok b → b < 1844674407370955161 → Lib.parseUint10 a (l ++ [c]) = .ok (b * 10 + (c.toNat - 48))
 | [], a, b, h, hb => by
  cases h
  simp only [List.nil_append, Lib.parseUint10]
  rw [if_pos hc, if_neg (by omega), if_neg (by omega)]
 | x :: l, a, b, h, hb => by
  simp only [List.cons_append, Lib.parseUint10] at h ⊢
  split at h
  ·rename_i hx
   rw [if_pos hx]
   split at h
   ·cases h
   rename_i h1
   rw [if_neg h1]
   split at h
   ·cases h
   rename_i h2
   rw [if_neg h2]
   exact parse_snoc hc l _ _ h hb
  cases h
theorem dig_toNat {d : Nat} (h : d < 10) : (UInt8.ofNat (48 + d)).toNat = 48 + d := by rw [UInt8.toNat_ofNat']; omega
theorem parse_dec : ∀ (k u : Nat), u < k → u < 10000000000000000000 → u < 1844674407370955161 → Lib.parseUint10 0 (Lib.decDigits u) = .ok u
 | 0, u, h, _, _ => by omega
 | k + 1, u, h, h1, h2 => by
  rw [Lib.decDigits]
  split
  ·rename_i h10
   simp only [Lib.parseUint10, dig_toNat h10]
   rw [if_pos (by omega), if_neg (by omega), if_neg (by omega)]
   congr 1; omega
  rename_i h10
  have hd := dig_toNat (show u % 10 < 10 by omega)
  rw [parse_snoc (by rw [hd]; omega) _ _ _ (parse_dec k (u / 10) (by omega) (by omega) (by omega)) (by omega), hd]
  congr 1; omega
theorem dec_ne (u : Nat) : Lib.decDigits u ≠ [] := by
 rw [Lib.decDigits]
 split <;> simp
theorem dec_digit : ∀ (k u : Nat), u < k → ∀ c ∈ Lib.decDigits u, 48 ≤ c.toNat ∧ c.toNat ≤ 57
 | 0, u, h => by omega
 | k + 1, u, h => by
  intro c hc
  rw [Lib.decDigits] at hc
  split at hc
  ·rename_i h10
   rw [List.mem_singleton.1 hc, dig_toNat h10]; omega
  rename_i h10
  rcases List.mem_append.1 hc with hc | hc
  ·exact dec_digit k (u / 10) (by omega) c hc
  rw [List.mem_singleton.1 hc, dig_toNat (by omega)]; omega
theorem atoi_itoa {n : Int} (h1 : -1000000000000000000 ≤ n) (h2 : n ≤ 1000000000000000000) : Lib.atoiAll (Lib.itoa n) = .ok n := by
 unfold Lib.itoa
 split
 ·rename_i hn
  have hp := parse_dec (n.natAbs + 1) n.natAbs (by omega) (by omega) (by omega)
  have hne := dec_ne n.natAbs
  simp only [Lib.atoiAll]
  have e : (45 : UInt8).toNat = 45 := rfl
  rw [if_pos (Or.inr e)]
  unfold Lib.parseMag
  rw [if_neg hne, hp]
  simp only [e, not_true, false_and, if_false, true_and]
  rw [if_neg (by omega)]
  (rw [if_pos trivial]; congr 1; omega)
 rename_i hn
 have hp := parse_dec (n.toNat + 1) n.toNat (by omega) (by omega) (by omega)
 have hdg := dec_digit (n.toNat + 1) n.toNat (by omega)
 cases hd : Lib.decDigits n.toNat with
 | nil => exact absurd hd (dec_ne _)
 | cons c r =>
  rw [hd] at hp hdg
  have hc := hdg c (by simp)
  simp only [Lib.atoiAll]
  rw [if_neg (by omega)]
  unfold Lib.parseMag
  rw [if_neg (by simp), hp]
  have hneg : ¬ c.toNat = 45 := by omega
  simp only [hneg, not_false_eq_true, true_and, false_and, if_false]
  rw [if_neg (by omega)]
  (congr 1; omega)
def wordB (c : UInt8) : Bool := decide (32 < c.toNat) && decide (c.toNat < 128)
theorem itoa_word (n : Int) : Lib.itoa n ≠ [] ∧ ∀ c ∈ Lib.itoa n, wordB c = true := by
 unfold Lib.itoa
 split
 ·refine ⟨by simp, fun c hc => ?_⟩
  rcases List.mem_cons.1 hc with rfl | hc
  ·decide
  have := dec_digit _ _ (Nat.lt_succ_self _) c hc
  simp only [wordB, Bool.and_eq_true, decide_eq_true_eq]; omega
 refine ⟨dec_ne _, fun c hc => ?_⟩
 have := dec_digit _ _ (Nat.lt_succ_self _) c hc
 simp only [wordB, Bool.and_eq_true, decide_eq_true_eq]; omega
theorem dec_len : ∀ (k u : Nat), u < 10 ^ k → 0 < k → (Lib.decDigits u).length ≤ k
 | 0, u, h, h0 => by omega
 | k + 1, u, h, _ => by
  rw [Lib.decDigits]
  split
  ·simp
  rename_i h10
  have hk : 0 < k := by
   rcases Nat.eq_zero_or_pos k with h0 | h0
   ·subst h0; simp at h; omega
   exact h0
  have := dec_len k (u / 10) (by rw [Nat.pow_succ] at h; omega) hk
  simp only [List.length_append, List.length_singleton]; omega
theorem itoaT_len {n : Int} (h1 : -1000000 ≤ n) (h2 : n ≤ 1000000) : (Lib.itoa n).length ≤ 8 := by
 unfold Lib.itoa
 split
 ·have := dec_len 7 n.natAbs (by omega) (by omega)
  simp only [List.length_cons]; omega
 have := dec_len 7 n.toNat (by omega) (by omega)
 omega
theorem index_nl : ∀ (L R : List UInt8), 10 ∉ L → Lib.index (L ++ 10 :: R) [10] = (L.length : Int)
 | [], R, _ => by rw [Lib.index_one]; simp [Lib.indexByte]
 | c :: L, R, h => by
  have hc : c ≠ 10 := fun e => h (by rw [e]; simp)
  have ih := index_nl L R (fun hm => h (by simp [hm]))
  rw [Lib.index_one] at ih ⊢
  rw [List.cons_append, Lib.indexByte, if_neg (by simpa using hc), ih, if_neg (by simp)]
  simp
def linesT (Ls : List (List UInt8)) : List UInt8 := Ls.flatMap (· ++ [10])
theorem linesT_cons (L : List UInt8) (Ls : List (List UInt8)) : linesT (L :: Ls) = L ++ 10 :: linesT Ls := by simp [linesT]
theorem count_lines : ∀ (Ls : List (List UInt8)) (f : Nat), (∀ L ∈ Ls, 10 ∉ L) → Ls.length < f → Lib.countFrom [10] f (linesT Ls) = Ls.length
 | [], f, _, h => by
  cases f with
  | zero => omega
  | succ f => rfl
 | L :: Ls, f, hL, h => by
  cases f with
  | zero => omega
  | succ f =>
   rw [linesT_cons, Lib.countFrom, index_nl L _ (hL L (by simp)), if_neg (by simp)]
   have e : (L ++ 10 :: linesT Ls).drop ((L.length : Int).toNat + ([10] : List UInt8).length) = linesT Ls := by
    rw [Int.toNat_natCast, ← List.drop_drop, List.drop_left]; rfl
   rw [e, count_lines Ls f (fun M hM => hL M (by simp [hM])) (by simp at h; omega)]
   simp only [List.length_cons]; omega
theorem linesT_len : ∀ (Ls : List (List UInt8)), Ls.length ≤ (linesT Ls).length
 | [] => Nat.le_refl _
 | L :: Ls => by have := linesT_len Ls; rw [linesT_cons]; simp; omega
theorem split_lines : ∀ (Ls : List (List UInt8)), (∀ L ∈ Ls, 10 ∉ L) → Lib.splitK [10] 0 Ls.length (linesT Ls) = Ls ++ [[]]
 | [], _ => rfl
 | L :: Ls, hL => by
  rw [linesT_cons, List.length_cons, Lib.splitK, index_nl L _ (hL L (by simp)), if_neg (by simp)]
  have e : (L ++ 10 :: linesT Ls).drop ((L.length : Int).toNat + ([10] : List UInt8).length) = linesT Ls := by
   rw [Int.toNat_natCast, ← List.drop_drop, List.drop_left]; rfl
  rw [e, split_lines Ls (fun M hM => hL M (by simp [hM]))]
  simp
theorem lines_count (Ls : List (List UInt8)) (h : ∀ L ∈ Ls, 10 ∉ L) : Lib.count (linesT Ls) [10] = Ls.length := count_lines Ls _ h (by have := linesT_len Ls; omega)
def spP : Nat → Bool := fun r => r == 32
theorem dec_word {l : List UInt8} {pos : Nat} {c : UInt8} (h : l[pos]? = some c) (hc : c.toNat < 128) : Utf8.decode ⟨l.toArray⟩ pos = (c.toNat, 1) := by
 obtain ⟨hp, he⟩ := List.getElem?_eq_some_iff.1 h
 have hs : pos < (⟨l.toArray⟩ : ByteArray).size := by simpa [ByteArray.size] using hp
 have e : (⟨l.toArray⟩ : ByteArray)[pos]'hs = c := by show l.toArray[pos]'_ = c; simpa using he
 have := decode_ascii ⟨l.toArray⟩ pos hs (by rw [e]; exact hc)
 rwa [e] at this
theorem spans_word (l : List UInt8) : ∀ (w : List UInt8) (f pos a : Nat) (acc : List (Nat × Nat)), (∀ c ∈ w, wordB c = true) → (∀ i c, w[i]? = some c → l[pos + i]? = some c) → Lib.spansFromP spP ⟨l.toArray⟩ (f + w.length) pos (some a) acc = Lib.spansFromP spP ⟨l.toArray⟩ f (pos + w.length) (some a) acc
 | [], f, pos, a, acc, _, _ => rfl
 | c :: w, f, pos, a, acc, hw, hl => by
  have hc := hw c (by simp)
  simp only [wordB, Bool.and_eq_true, decide_eq_true_eq] at hc
  have h0 : l[pos]? = some c := by have := hl 0 c rfl; simpa using this
  have hd := dec_word h0 hc.2
  have hp : pos < (⟨l.toArray⟩ : ByteArray).size := by
   have := (List.getElem?_eq_some_iff.1 h0).1
   simpa [ByteArray.size] using this
  rw [List.length_cons, ← Nat.add_assoc, Lib.spansFromP, if_pos hp, hd]
  have : spP c.toNat = false := by simp [spP]; omega
  rw [this]
  simp only [Bool.false_eq_true, if_false]
  rw [spans_word l w f (pos + 1) a acc (fun x hx => hw x (by simp [hx])) (fun i x hx => by have := hl (i + 1) x (by simpa using hx); rwa [show pos + 1 + i = pos + (i + 1) by omega])]
  congr 1; omega
def spansL : Nat → List (List UInt8) → List (Nat × Nat)
 | _, [] => []
 | p, w :: ws => (p, p + w.length) :: spansL (p + w.length + 1) ws
theorem spans_line (l : List UInt8) : ∀ (ws : List (List UInt8)) (f pos : Nat) (acc : List (Nat × Nat)), (∀ w ∈ ws, w ≠ [] ∧ ∀ c ∈ w, wordB c = true) → l.drop pos = Lib.join ws [32] → pos + (Lib.join ws [32]).length = l.length → l.length ≤ pos + f → ws ≠ [] →
  Lib.closeSpans ⟨l.toArray⟩ (Lib.spansFromP spP ⟨l.toArray⟩ f pos none acc) = acc ++ spansL pos ws
 | [], f, pos, acc, _, _, _, _, h => absurd rfl h
 | w :: ws, f, pos, acc, hw, hd, hlen, hf, _ => by
  obtain ⟨hne, hwc⟩ := hw w (by simp)
  obtain ⟨c, w', rfl⟩ : ∃ c w', w = c :: w' := by cases w with | nil => exact absurd rfl hne | cons c w' => exact ⟨c, w', rfl⟩
  have hsz : (⟨l.toArray⟩ : ByteArray).size = l.length := by simp [ByteArray.size]
  -- what stands from pos on
  obtain ⟨rest, hrest, hj⟩ : ∃ rest, Lib.join ((c :: w') :: ws) [32] = (c :: w') ++ rest ∧ (rest = if ws = [] then [] else 32 :: Lib.join ws [32]) := by
   cases ws with
   | nil => exact ⟨[], by simp [Lib.join_one], by simp⟩
   | cons x xs => exact ⟨32 :: Lib.join (x :: xs) [32], by simp [Lib.join, List.intercalate, List.intersperse], by simp⟩
  rw [hrest] at hd hlen
  have hat : ∀ i x, ((c :: w') ++ rest)[i]? = some x → l[pos + i]? = some x := fun i x hx => by
   rw [← hd, List.getElem?_drop] at hx; exact hx
  have hc := hwc c (by simp)
  simp only [wordB, Bool.and_eq_true, decide_eq_true_eq] at hc
  have h0 : l[pos]? = some c := by have := hat 0 c rfl; simpa using this
  have hp : pos < l.length := (List.getElem?_eq_some_iff.1 h0).1
  simp only [List.length_append, List.length_cons] at hlen
  obtain ⟨f1, rfl⟩ : ∃ f1, f = f1 + w'.length + 1 := ⟨f - w'.length - 1, by omega⟩
  rw [Lib.spansFromP, if_pos (by rw [hsz]; exact hp), dec_word h0 hc.2]
  have hsp : spP c.toNat = false := by simp [spP]; omega
  rw [hsp]
  simp only [Bool.false_eq_true, if_false]
  rw [spans_word l w' f1 (pos + 1) pos acc (fun x hx => hwc x (by simp [hx])) (fun i x hx => by
   have := hat (i + 1) x (by rw [List.cons_append, List.getElem?_cons_succ, List.getElem?_append_left (List.getElem?_eq_some_iff.1 hx).1]; exact hx)
   rwa [show pos + 1 + i = pos + (i + 1) by omega])]
  by_cases hws : ws = []
  ·subst hws
   rw [if_pos rfl] at hj
   subst hj
   simp only [List.length_nil] at hlen
   rw [Lib.spansFromP_end _ _ _ _ _ _ (by rw [hsz]; omega)]
   simp only [Lib.closeSpans, hsz, spansL, List.length_cons]
   rw [show l.length = pos + (w'.length + 1) by omega]
  rw [if_neg hws] at hj
  subst hj
  simp only [List.length_cons] at hlen
  have h32 : l[pos + (w'.length + 1)]? = some 32 := hat (w'.length + 1) 32 (by rw [List.getElem?_append_right (by simp)]; simp)
  obtain ⟨f2, rfl⟩ : ∃ f2, f1 = f2 + 1 := ⟨f1 - 1, by omega⟩
  rw [show pos + 1 + w'.length = pos + (w'.length + 1) by omega, Lib.spansFromP, if_pos (by rw [hsz]; omega), dec_word h32 (by decide)]
  have hs2 : spP (32 : UInt8).toNat = true := rfl
  rw [hs2]
  simp only [if_true]
  rw [spans_line l ws f2 (pos + (w'.length + 1) + 1) _ (fun x hx => hw x (by simp [hx])) (by
   have := congrArg (List.drop (w'.length + 1 + 1)) hd
   rw [List.drop_drop] at this
   rw [show pos + (w'.length + 1) + 1 = pos + (w'.length + 1 + 1) by omega, this]
   simp) (by omega) (by omega) hws]
  simp [spansL]
theorem extr_words (l : List UInt8) : ∀ (ws : List (List UInt8)) (pos : Nat), l.drop pos = Lib.join ws [32] → (spansL pos ws).map (fun x => (⟨l.toArray⟩ : ByteArray).extract x.1 x.2) = ws.map fun w => (⟨w.toArray⟩ : ByteArray)
 | [], pos, _ => rfl
 | w :: ws, pos, hd => by
  obtain ⟨rest, hrest, hj⟩ : ∃ rest, Lib.join (w :: ws) [32] = w ++ rest ∧ (rest = if ws = [] then [] else 32 :: Lib.join ws [32]) := by
   cases ws with
   | nil => exact ⟨[], by simp [Lib.join_one], by simp⟩
   | cons x xs => exact ⟨32 :: Lib.join (x :: xs) [32], by simp [Lib.join, List.intercalate, List.intersperse], by simp⟩
  rw [hrest] at hd
  simp only [spansL, List.map_cons]
  have e1 : (⟨l.toArray⟩ : ByteArray).extract pos (pos + w.length) = ⟨w.toArray⟩ := by
   apply ByteArray.ext
   rw [ByteArray.data_extract]
   simp [List.extract_eq_take_drop, hd]
  rw [e1]
  congr 1
  cases ws with
  | nil => rfl
  | cons x xs =>
   rw [if_neg (by simp)] at hj
   subst hj
   refine extr_words l (x :: xs) (pos + w.length + 1) ?_
   rw [Nat.add_assoc, ← List.drop_drop, hd, ← List.drop_drop, List.drop_left]
   rfl
theorem fields_line (ws : List (List UInt8)) (h : ∀ w ∈ ws, w ≠ [] ∧ ∀ c ∈ w, wordB c = true) : Lib.goFieldsP spP ⟨(Lib.join ws [32]).toArray⟩ = ws.map fun w => (⟨w.toArray⟩ : ByteArray) := by
 unfold Lib.goFieldsP Lib.spansOfP
 have hsz : (⟨(Lib.join ws [32]).toArray⟩ : ByteArray).size = (Lib.join ws [32]).length := by simp [ByteArray.size]
 by_cases hws : ws = []
 ·subst hws
  rfl
 rw [spans_line (Lib.join ws [32]) ws _ 0 [] h (by simp) (by simp) (by rw [hsz]; omega) hws, List.nil_append]
 exact extr_words _ ws 0 (by simp)
def typeS : List UInt8 := [105, 110, 118, 111, 107, 101, 32, 111, 107, 32, 102, 97, 105, 108, 32, 105, 110, 102, 111]
def kindS : List UInt8 := [114, 101, 97, 100, 32, 119, 114, 105, 116, 101, 32, 115, 119, 97, 112, 32, 97, 100, 100, 32, 103, 101, 116, 32, 112, 117, 116, 32, 100, 114, 111, 112, 32, 104, 97, 115, 32, 112, 117, 115, 104, 32, 112, 111, 112, 32, 108, 111, 99, 107, 32, 117, 110, 108, 111, 99, 107]
def typeWs : List (List UInt8) := [[105, 110, 118, 111, 107, 101], [111, 107], [102, 97, 105, 108], [105, 110, 102, 111]]
def kindWs : List (List UInt8) := [[114, 101, 97, 100], [119, 114, 105, 116, 101], [115, 119, 97, 112], [97, 100, 100], [103, 101, 116], [112, 117, 116], [100, 114, 111, 112], [104, 97, 115], [112, 117, 115, 104], [112, 111, 112], [108, 111, 99, 107], [117, 110, 108, 111, 99, 107]]
theorem fields_typeS : Lib.fields typeS = typeWs := by decide +kernel
theorem fields_kindS : Lib.fields kindS = kindWs := by decide +kernel
theorem typeWs_ok : ∀ w ∈ typeWs, (w ≠ [] ∧ ∀ c ∈ w, wordB c = true) ∧ w.length ≤ 6 := by decide +kernel
theorem kindWs_ok : ∀ w ∈ kindWs, (w ≠ [] ∧ ∀ c ∈ w, wordB c = true) ∧ w.length ≤ 6 := by decide +kernel
theorem typeWs_nd : typeWs.Nodup := by decide +kernel
theorem kindWs_nd : kindWs.Nodup := by decide +kernel
theorem typeS_ascii : ∀ (j : Nat) b, typeS[j]? = some b → b.toNat < 128 := fun j b h => (by decide +kernel : ∀ b ∈ typeS, b.toNat < 128) b (List.mem_of_getElem? h)
theorem kindS_ascii : ∀ (j : Nat) b, kindS[j]? = some b → b.toNat < 128 := fun j b h => (by decide +kernel : ∀ b ∈ kindS, b.toNat < 128) b (List.mem_of_getElem? h)
def tyW (e : Ev) : List UInt8 := typeWs.getD (e.ty - 1).toNat []
def kdW (e : Ev) : List UInt8 := kindWs.getD (e.kind - 1).toNat []
def wordsE (e : Ev) : List (List UInt8) := [Lib.itoa e.proc, tyW e, kdW e, Lib.itoa e.key, Lib.itoa e.a, Lib.itoa e.b, Lib.itoa e.res]
def lineE (e : Ev) : List UInt8 := Lib.join (wordsE e) [32]
def textE (l : List Ev) : List UInt8 := linesT (l.map lineE)
def evT (l : List Ev) : Option (List UInt8) := if l.length ≤ 120 ∧ l.all evOkB = true then some (textE l) else none
structure EvOk (e : Ev) : Prop where
 p : 0 ≤ e.proc ∧ e.proc ≤ 7
 k : 0 ≤ e.key ∧ e.key ≤ 7
 t : 1 ≤ e.ty ∧ e.ty ≤ 4
 kd : 1 ≤ e.kind ∧ e.kind ≤ 12
 a : -1000000 ≤ e.a ∧ e.a ≤ 1000000
 b : -1000000 ≤ e.b ∧ e.b ≤ 1000000
 r : -1000000 ≤ e.res ∧ e.res ≤ 1000000
theorem EvOk.of {e : Ev} (h : evOkB e = true) : EvOk e := by
 simp only [evOkB, toldB, inB, List.all_cons, List.all_nil, Bool.and_eq_true, decide_eq_true_eq, Bool.and_true] at h
 obtain ⟨⟨⟨⟨⟨⟨ha, hb, hr⟩, hp⟩, hk⟩, ht⟩, hkd⟩, _⟩ := h
 exact ⟨hp, hk, ht, hkd, ha, hb, hr⟩
theorem EvOk.tyAt {e : Ev} (h : EvOk e) : typeWs[(e.ty - 1).toNat]? = some (tyW e) := by
 have hl : (e.ty - 1).toNat < typeWs.length := by have := h.t; show _ < 4; omega
 rw [tyW, List.getD_eq_getElem?_getD, List.getElem?_eq_getElem hl]; rfl
theorem EvOk.kdAt {e : Ev} (h : EvOk e) : kindWs[(e.kind - 1).toNat]? = some (kdW e) := by
 have hl : (e.kind - 1).toNat < kindWs.length := by have := h.kd; show _ < 12; omega
 rw [kdW, List.getD_eq_getElem?_getD, List.getElem?_eq_getElem hl]; rfl
theorem EvOk.tyOk {e : Ev} (h : EvOk e) : (tyW e ≠ [] ∧ ∀ c ∈ tyW e, wordB c = true) ∧ (tyW e).length ≤ 6 := typeWs_ok _ (List.mem_of_getElem? h.tyAt)
theorem EvOk.kdOk {e : Ev} (h : EvOk e) : (kdW e ≠ [] ∧ ∀ c ∈ kdW e, wordB c = true) ∧ (kdW e).length ≤ 6 := kindWs_ok _ (List.mem_of_getElem? h.kdAt)
theorem wordsE_ok {e : Ev} (h : EvOk e) : ∀ w ∈ wordsE e, w ≠ [] ∧ ∀ c ∈ w, wordB c = true := by
 intro w hw
 simp only [wordsE, List.mem_cons, List.not_mem_nil, or_false] at hw
 rcases hw with rfl | rfl | rfl | rfl | rfl | rfl | rfl
 ·exact itoa_word _
 ·exact h.tyOk.1
 ·exact h.kdOk.1
 ·exact itoa_word _
 ·exact itoa_word _
 ·exact itoa_word _
 exact itoa_word _
theorem lineE_eq (e : Ev) : lineE e = Lib.itoa e.proc ++ 32 :: (tyW e ++ 32 :: (kdW e ++ 32 :: (Lib.itoa e.key ++ 32 :: (Lib.itoa e.a ++ 32 :: (Lib.itoa e.b ++ 32 :: Lib.itoa e.res))))) := by
 simp [lineE, wordsE, Lib.join, List.intercalate, List.intersperse]
theorem lineE_mem {e : Ev} {c : UInt8} (hc : c ∈ lineE e) : c = 32 ∨ ∃ w ∈ wordsE e, c ∈ w := by
 rw [lineE_eq] at hc
 simp only [List.mem_append, List.mem_cons] at hc
 simp only [wordsE, List.mem_cons, List.not_mem_nil, or_false]
 rcases hc with h | h | h | h | h | h | h | h | h | h | h | h | h
 ·exact .inr ⟨_, .inl rfl, h⟩
 ·exact .inl h
 ·exact .inr ⟨_, .inr (.inl rfl), h⟩
 ·exact .inl h
 ·exact .inr ⟨_, .inr (.inr (.inl rfl)), h⟩
 ·exact .inl h
 ·exact .inr ⟨_, .inr (.inr (.inr (.inl rfl))), h⟩
 ·exact .inl h
 ·exact .inr ⟨_, .inr (.inr (.inr (.inr (.inl rfl)))), h⟩
 ·exact .inl h
 ·exact .inr ⟨_, .inr (.inr (.inr (.inr (.inr (.inl rfl))))), h⟩
 ·exact .inl h
 exact .inr ⟨_, .inr (.inr (.inr (.inr (.inr (.inr rfl))))), h⟩
theorem lineE_no10 {e : Ev} (h : EvOk e) : 10 ∉ lineE e := fun hc => by
 rcases lineE_mem hc with h1 | ⟨w, hw, h1⟩
 ·exact absurd h1 (by decide)
 exact absurd ((wordsE_ok h w hw).2 10 h1) (by decide)
theorem lineE_len {e : Ev} (h : EvOk e) : (lineE e).length ≤ 58 := by
 have h1 := itoaT_len (n := e.proc) (by have := h.p; omega) (by have := h.p; omega)
 have h2 := itoaT_len (n := e.key) (by have := h.k; omega) (by have := h.k; omega)
 have h3 := itoaT_len h.a.1 h.a.2
 have h4 := itoaT_len h.b.1 h.b.2
 have h5 := itoaT_len h.r.1 h.r.2
 have h6 := h.tyOk.2
 have h7 := h.kdOk.2
 rw [lineE_eq]
 simp only [List.length_append, List.length_cons]
 omega
theorem textE_snoc (l : List Ev) (e : Ev) : textE (l ++ [e]) = textE l ++ (lineE e ++ [10]) := by simp [textE, linesT]
theorem textE_cons (l : List Ev) (e : Ev) : textE (e :: l) = lineE e ++ 10 :: textE l := by simp [textE, linesT]
theorem textE_len : ∀ (l : List Ev), (∀ e ∈ l, EvOk e) → (textE l).length ≤ 59 * l.length
 | [], _ => Nat.le_refl _
 | e :: l, h => by
  have h1 := textE_len l (fun x hx => h x (by simp [hx]))
  have h2 := lineE_len (h e (by simp))
  rw [textE_cons, List.length_append, List.length_cons, List.length_cons]
  omega
theorem map_bytes_inj {xs : List ByteArray} {ys : List (List UInt8)} (h : xs.map (·.data.toList) = ys) : xs = ys.map fun (y : List UInt8) => (⟨y.toArray⟩ : ByteArray) := by
 subst h
 rw [List.map_map]
 conv => lhs; rw [← List.map_id xs]
 exact List.map_congr_left fun x _ => rfl
theorem text_split (l : List Ev) (h : ∀ e ∈ l, EvOk e) : Lib.splitB ⟨#[10]⟩ 0 (Lib.countB ⟨(textE l).toArray⟩ ⟨#[10]⟩) ⟨(textE l).toArray⟩ = (l.map lineE ++ [[]]).map fun (y : List UInt8) => (⟨y.toArray⟩ : ByteArray) := by
 have hn : ∀ L ∈ l.map lineE, 10 ∉ L := fun L hL => by
  obtain ⟨e, he, rfl⟩ := List.mem_map.1 hL
  exact lineE_no10 (h e he)
 apply map_bytes_inj
 rw [Lib.splitB_data]
 have hc : Lib.countB ⟨(textE l).toArray⟩ ⟨#[10]⟩ = (l.map lineE).length := lines_count _ hn
 rw [hc]
 exact split_lines _ hn
theorem text_count (l : List Ev) (h : ∀ e ∈ l, EvOk e) : Lib.countB ⟨(textE l).toArray⟩ ⟨#[10]⟩ = l.length := by
 have hc : Lib.countB ⟨(textE l).toArray⟩ ⟨#[10]⟩ = (l.map lineE).length := lines_count _ fun L hL => by
  obtain ⟨e, he, rfl⟩ := List.mem_map.1 hL
  exact lineE_no10 (h e he)
 rw [hc, List.length_map]
theorem line_fields {e : Ev} (h : EvOk e) : Lib.goFieldsP spP ⟨(lineE e).toArray⟩ = (wordsE e).map fun (w : List UInt8) => (⟨w.toArray⟩ : ByteArray) := fields_line _ (wordsE_ok h)
theorem empty_fields : Lib.goFieldsP spP ⟨#[]⟩ = [] := rfl
theorem evOk_all {l : List Ev} (h : l.all evOkB = true) : ∀ e ∈ l, EvOk e := fun e he => .of (List.all_eq_true.1 h e he)
def escB (b : UInt8) : List UInt8 :=
 if b = 38 then [38, 97, 109, 112, 59] else if b = 60 then [38, 108, 116, 59] else if b = 62 then [38, 103, 116, 59] else if b = 34 then [38, 35, 51, 52, 59] else if b = 39 then [38, 35, 51, 57, 59] else [b]
def escF (l : List UInt8) : List UInt8 := l.flatMap escB
theorem escB_cases (b : UInt8) : (b = 38 ∧ escB b = [38, 97, 109, 112, 59]) ∨ (b = 60 ∧ escB b = [38, 108, 116, 59]) ∨ (b = 62 ∧ escB b = [38, 103, 116, 59]) ∨ (b = 34 ∧ escB b = [38, 35, 51, 52, 59]) ∨ (b = 39 ∧ escB b = [38, 35, 51, 57, 59]) ∨
  ((b ≠ 38 ∧ b ≠ 60 ∧ b ≠ 62 ∧ b ≠ 34 ∧ b ≠ 39) ∧ escB b = [b]) := by
 unfold escB
 by_cases h1 : b = 38
 ·exact .inl ⟨h1, by rw [if_pos h1]⟩
 rw [if_neg h1]
 by_cases h2 : b = 60
 ·exact .inr (.inl ⟨h2, by rw [if_pos h2]⟩)
 rw [if_neg h2]
 by_cases h3 : b = 62
 ·exact .inr (.inr (.inl ⟨h3, by rw [if_pos h3]⟩))
 rw [if_neg h3]
 by_cases h4 : b = 34
 ·exact .inr (.inr (.inr (.inl ⟨h4, by rw [if_pos h4]⟩)))
 rw [if_neg h4]
 by_cases h5 : b = 39
 ·exact .inr (.inr (.inr (.inr (.inl ⟨h5, by rw [if_pos h5]⟩))))
 rw [if_neg h5]
 exact .inr (.inr (.inr (.inr (.inr ⟨⟨h1, h2, h3, h4, h5⟩, rfl⟩))))
theorem escB_len (b : UInt8) : 1 ≤ (escB b).length ∧ (escB b).length ≤ 5 := by
 rcases escB_cases b with ⟨_, h⟩ | ⟨_, h⟩ | ⟨_, h⟩ | ⟨_, h⟩ | ⟨_, h⟩ | ⟨_, h⟩ <;> rw [h] <;> simp
theorem escB_no60 (b : UInt8) : 60 ∉ escB b := by
 rcases escB_cases b with ⟨_, h⟩ | ⟨_, h⟩ | ⟨_, h⟩ | ⟨_, h⟩ | ⟨_, h⟩ | ⟨h0, h⟩ <;> rw [h]
 ·decide
 ·decide
 ·decide
 ·decide
 ·decide
 intro hm
 exact h0.2.1 (List.mem_singleton.1 hm).symm
theorem escF_nil : escF [] = [] := rfl
theorem escF_cons (b : UInt8) (l : List UInt8) : escF (b :: l) = escB b ++ escF l := rfl
theorem escF_app (a b : List UInt8) : escF (a ++ b) = escF a ++ escF b := List.flatMap_append
theorem escF_len : ∀ l : List UInt8, l.length ≤ (escF l).length ∧ (escF l).length ≤ 5 * l.length
 | [] => by decide
 | b :: l => by
  have h1 := escF_len l
  have h2 := escB_len b
  rw [escF_cons, List.length_append, List.length_cons]
  omega
theorem escF_no60 (l : List UInt8) : 60 ∉ escF l := fun h => by
 obtain ⟨b, _, hb⟩ := List.mem_flatMap.1 h
 exact escB_no60 b hb
def hBg : List UInt8 := [60, 104, 49, 62]
def eHd : List UInt8 := [60, 47, 104, 49, 62, 10, 60, 112, 62]
def ePt : List UInt8 := [60, 47, 112, 62, 10, 60, 112, 62]
def bTx : List UInt8 := [60, 47, 112, 62, 10, 60, 112, 114, 101, 62, 10]
def eTx : List UInt8 := [60, 47, 112, 114, 101, 62, 10]
def codeS : List UInt8 := [118, 97, 108, 105, 100, 32, 105, 110, 118, 97, 108, 105, 100, 32, 117, 110, 107, 110, 111, 119, 110]
def codeWs : List (List UInt8) := [[118, 97, 108, 105, 100], [105, 110, 118, 97, 108, 105, 100], [117, 110, 107, 110, 111, 119, 110]]
theorem fields_codeS : Lib.fields codeS = codeWs := by decide +kernel
theorem codeS_ascii : ∀ (j : Nat) b, codeS[j]? = some b → b.toNat < 128 := fun j b h => (by decide +kernel : ∀ b ∈ codeS, b.toNat < 128) b (List.mem_of_getElem? h)
theorem codeWs_nd : codeWs.Nodup := by decide +kernel
def codeW (z : Nat) : List UInt8 := codeWs.getD z []
theorem codeW_ok : ∀ z, z < 3 → 32 ∉ codeW z ∧ 60 ∉ codeW z ∧ (codeW z).length ≤ 7 ∧ codeWs[z]? = some (codeW z) := by decide +kernel
def verdS (z en : Nat) : List UInt8 := codeW z ++ 32 :: Lib.itoa (en : Int)
def ordS (l : List Nat) : List UInt8 := Lib.join (l.map fun n : Nat => Lib.itoa (n : Int)) [32]
def pageF (title : List UInt8) (z en : Nat) (l : List Nat) (t : List UInt8) : List UInt8 := hBg ++ escF title ++ eHd ++ verdS z en ++ ePt ++ ordS l ++ bTx ++ t ++ eTx
theorem cut_at (a sep c : List UInt8) (x : UInt8) (r : List UInt8) (hs : sep = x :: r) (ha : x ∉ a) : Lib.cut (a ++ (sep ++ c)) sep = (a, c, true) := by
 have hi : Lib.index (a ++ (sep ++ c)) sep = (a.length : Int) := by
  refine Lib.index_first (by rw [List.length_append]; omega) ?_ ?_
  ·unfold Lib.occAt
   rw [List.drop_left]
   exact List.isPrefixOf_iff_prefix.2 (List.prefix_append _ _)
  intro j hj
  unfold Lib.occAt
  rw [List.drop_append_of_le_length (by omega), List.drop_eq_getElem_cons hj, hs]
  show (x == a[j] && _) = false
  have : (x == a[j]) = false := by
   rw [beq_eq_false_iff_ne]
   intro h
   exact ha (h ▸ List.getElem_mem hj)
  rw [this]; rfl
 unfold Lib.cut
 rw [hi, if_pos (by omega), Int.toNat_natCast, List.take_left, List.drop_append, List.drop_of_length_le (by omega), List.nil_append, show a.length + sep.length - a.length = sep.length by omega, List.drop_left]
theorem itoaN_digits (n : Nat) : ∀ c ∈ Lib.itoa (n : Int), 48 ≤ c.toNat ∧ c.toNat ≤ 57 := by
 unfold Lib.itoa
 rw [if_neg (by omega)]
 exact dec_digit _ _ (Nat.lt_succ_self _)
theorem itoaN_no {n : Nat} (x : UInt8) (hx : x.toNat < 48 ∨ 57 < x.toNat) : x ∉ Lib.itoa (n : Int) := fun h => by
 have := itoaN_digits n x h
 omega
theorem join_no {x : UInt8} (hx : x ≠ 32) : ∀ (ws : List (List UInt8)), (∀ w ∈ ws, x ∉ w) → x ∉ Lib.join ws [32]
 | [], _ => fun h => by rw [Lib.join_nil] at h; cases h
 | w :: ws, h => fun hm => by
  rw [Lib.join_cons] at hm
  rcases List.mem_append.1 hm with hm | hm
  ·exact h w List.mem_cons_self hm
  obtain ⟨y, hy, hxy⟩ := List.mem_flatten.1 hm
  obtain ⟨v, hv, rfl⟩ := List.mem_map.1 hy
  rcases List.mem_append.1 hxy with h2 | h2
  ·exact hx (List.mem_singleton.1 h2)
  exact h v (List.mem_cons_of_mem _ hv) h2
theorem verdS_no60 {z en : Nat} (hz : z < 3) : 60 ∉ verdS z en := fun h => by
 rcases List.mem_append.1 h with h | h
 ·exact (codeW_ok z hz).2.1 h
 rcases List.mem_cons.1 h with h | h
 ·exact absurd h (by decide)
 exact itoaN_no 60 (.inr (by decide)) h
theorem ordS_no60 (l : List Nat) : 60 ∉ ordS l := join_no (by decide) _ fun w hw => by
 obtain ⟨n, _, rfl⟩ := List.mem_map.1 hw
 exact itoaN_no 60 (.inr (by decide))
theorem page_eq (title : List UInt8) (z en : Nat) (l : List Nat) (t : List UInt8) : pageF title z en l t = hBg ++ (escF title ++ (eHd ++ (verdS z en ++ (ePt ++ (ordS l ++ (bTx ++ (t ++ eTx))))))) := by
 unfold pageF
 simp only [List.append_assoc]
theorem cut_head (title R : List UInt8) : Lib.cut (escF title ++ (eHd ++ R)) eHd = (escF title, R, true) := cut_at _ _ _ 60 _ rfl (escF_no60 _)
theorem cut_verd {z en : Nat} (hz : z < 3) (R : List UInt8) : Lib.cut (verdS z en ++ (ePt ++ R)) ePt = (verdS z en, R, true) := cut_at _ _ _ 60 _ rfl (verdS_no60 hz)
theorem cut_ord (l : List Nat) (R : List UInt8) : Lib.cut (ordS l ++ (bTx ++ R)) bTx = (ordS l, R, true) := cut_at _ _ _ 60 _ rfl (ordS_no60 _)
theorem cut_code {z en : Nat} (hz : z < 3) : Lib.cut (verdS z en) [32] = (codeW z, Lib.itoa (en : Int), true) := cut_at _ [32] _ 32 [] rfl (codeW_ok z hz).1
open Go.RowKit
def escL : List (List UInt8) := [[38], [38, 97, 109, 112, 59], [60], [38, 108, 116, 59], [62], [38, 103, 116, 59], [34], [38, 35, 51, 52, 59], [39], [38, 35, 51, 57, 59]]
theorem escapes_any (w0 : World) : Cq 24 #[] w0 fun e w' => ∃ g, e = .returned (.slice (some ⟨g, 0, none⟩) 10 10) ∧ Inv NF w0 w' [B g 9 (escL.map strV).toArray] := by
 have hI := Inv.start (fun _ => False) w0
 refine Vn func24 rfl ?_
 refine Wq (Vo rfl (Wn (Wq (T3 [(0, .string _), (1, .string _), (2, .string _), (3, .string _), (4, .string _), (5, .string _), (6, .string _), (7, .string _), (8, .string _), (9, .string _)] [_, _, _, _, _, _, _, _, _, _] [.string ⟨#[]⟩, .string ⟨#[]⟩, .string ⟨#[]⟩, .string ⟨#[]⟩, .string ⟨#[]⟩, .string ⟨#[]⟩, .string ⟨#[]⟩, .string ⟨#[]⟩, .string ⟨#[]⟩, .string ⟨#[]⟩] [0, 1, 2, 3, 4, 5, 6, 7, 8, 9] hI rfl yy72 (fun _ => by kernel_rfl) ?_))))
 rintro b1 w - - hI
 refine Vo rfl (Wn ?_)
 exact WR (r1_ 0 rfl ⟨_, rfl, hI⟩)
def repC (fl : Int) (r : Value) (v : Value) : Array Value := #[.int .u32 fl, .int .i32 0, .int .u32 0, r, v]
theorem newrep_any (S D : Nat → Prop) (w0 w : World) (H : List Ent) (A : Option Addr) (c : Nat) (l : List (List UInt8)) (hl : l.length = 10) (hR : Rd w D 1 (.slice A 10 c) 10 (l.map strV)) (hI : Inv S w0 w H) :
  Cq 23 #[.slice A 10 c] w fun e w' => ∃ r A' c', e = .returned (.pointer (some ⟨r, 0, none⟩)) ∧ Inv S w0 w' (B r 154 (repC 0 .nilIface (.slice A' 10 c')) :: Win 9 1 A' 10 c' (l.map strV) :: H) := by
 refine Vn func23 rfl ?_
 refine Wq (Tm rfl (Wn (Ws (Wq (Vi rfl (Vs rfl yy72 rfl ?_))))))
 refine Wv rfl (rRemW rfl rfl rfl (by omega)) ?_
 refine Wv rfl (by exact rEql rfl rfl rfl) ?_
 refine Wn (Wc false rfl (Wk ?_))
 have hI := hI.fresh (Pure.refl _) (Win.ok (e := 9) (size := 1) (A := none) (n := 0) (c := 0) (xs := []) ⟨rfl, Nat.le_refl _, by omega, .inl ⟨rfl, rfl⟩⟩) (fun k hk => by cases hk)
 refine Wq (Vi rfl ?_)
 refine WL_appW (z := .string ⟨#[]⟩) (by_ := 16) (news := l.map strV) _ hI rfl rfl rfl rfl rfl rfl yy72 (by kernel_rfl) rfl (by omega) (src_rd yy72 hR (fun v hv => by obtain ⟨s, _, rfl⟩ := List.mem_map.1 hv; rfl)) (by omega) (by omega) ?_
 rintro A' c' w hc1 hc2 hI
 refine Td [(2, .slice _ _ _)] [_, _, _, _, _] rfl [.int .u32 0, .int .i32 0, .int .u32 0, .nilIface, .slice none 0 0] [4] rfl (fun _ => by kernel_rfl) (Tb (.agg _) (#[_, _, _, _, _]) hI rfl ?_)
 rintro b11 w - - hI
 refine Tm rfl (Wn ?_)
 exact WR (r1_ 2 rfl ⟨_, _, _, rfl, hI⟩)
def spO (j : Nat) : Nat := [39, 34, 62, 60, 38].getD j 0
def spN (j : Nat) : List UInt8 := escB (UInt8.ofNat (spO j))
def spI (o : Nat) : Nat := if o = 39 then 0 else if o = 34 then 1 else if o = 62 then 2 else if o = 60 then 3 else if o = 38 then 4 else 5
theorem spI_iff {o k : Nat} (hk : k < 5) : spI o = k ↔ o = spO k := by
 have h0 : spO 0 = 39 := rfl
 have h1 : spO 1 = 34 := rfl
 have h2 : spO 2 = 62 := rfl
 have h3 : spO 3 = 60 := rfl
 have h4 : spO 4 = 38 := rfl
 unfold spI
 obtain rfl | rfl | rfl | rfl | rfl : k = 0 ∨ k = 1 ∨ k = 2 ∨ k = 3 ∨ k = 4 := by omega
 all_goals (repeat' split) <;> omega
theorem spO_lt : ∀ k, k < 5 → spO k < 256 := by decide
def upN (f : Nat → Nat) (k v : Nat) : Nat → Nat := fun i => if i = k then v else f i
def tbK (G C : Nat → Nat) (k o : Nat) : Value := if spI o < k then .slice (some ⟨G (spI o), 0, none⟩) (spN (spI o)).length (C (spI o)) else .slice none 0 0
def bsrA (G C : Nat → Nat) (k : Nat) (tr : Value) : Array Value := ((List.range 256).map (tbK G C k) ++ [tr]).toArray
theorem bsrA_size (G C : Nat → Nat) (k : Nat) (tr : Value) : (bsrA G C k tr).size = 257 := by simp [bsrA]
theorem bsrA_at {G C : Nat → Nat} {k : Nat} {tr : Value} {o : Nat} (h : o < 256) : (bsrA G C k tr)[o]? = some (tbK G C k o) := by
 unfold bsrA
 rw [List.getElem?_toArray, List.getElem?_append_left (by simpa using h), List.getElem?_map, List.getElem?_range h]
 rfl
theorem bsrA_tr {G C : Nat → Nat} {k : Nat} {tr : Value} : (bsrA G C k tr)[256]? = some tr := by
 unfold bsrA
 rw [List.getElem?_toArray, List.getElem?_append_right (by simp)]
 simp
theorem bsrA_setTr {G C : Nat → Nat} {k : Nat} {tr tr' : Value} : (bsrA G C k tr).setIfInBounds 256 tr' = bsrA G C k tr' := by
 unfold bsrA
 rw [List.setIfInBounds_toArray, List.set_append_right _ _ (by simp)]
 simp
theorem tbK_next {G C : Nat → Nat} {k g c : Nat} (hk : k < 5) (o : Nat) : tbK (upN G k g) (upN C k c) (k + 1) o = if o = spO k then .slice (some ⟨g, 0, none⟩) (spN k).length c else tbK G C k o := by
 have hi := spI_iff (o := o) hk
 unfold tbK
 by_cases h : o = spO k
 ·have h1 := hi.2 h
  rw [if_pos (by omega), if_pos h, h1]
  unfold upN
  rw [if_pos rfl, if_pos rfl]
 rw [if_neg h]
 have h1 : spI o ≠ k := fun e => h (hi.1 e)
 by_cases h2 : spI o < k
 ·rw [if_pos (by omega), if_pos h2]
  unfold upN
  rw [if_neg h1, if_neg h1]
 rw [if_neg (by omega), if_neg h2]
theorem bsrA_next {G C : Nat → Nat} {k g c : Nat} {tr : Value} (hk : k < 5) : (bsrA G C k tr).setIfInBounds (spO k) (.slice (some ⟨g, 0, none⟩) (spN k).length c) = bsrA (upN G k g) (upN C k c) (k + 1) tr := by
 apply Array.ext
 ·rw [Array.size_setIfInBounds, bsrA_size, bsrA_size]
 intro i h1 h2
 have hlt : i < 257 := by rw [bsrA_size] at h2; exact h2
 have e1 : ((bsrA G C k tr).setIfInBounds (spO k) (.slice (some ⟨g, 0, none⟩) (spN k).length c))[i]? = (bsrA (upN G k g) (upN C k c) (k + 1) tr)[i]? := by
  by_cases hi : i = spO k
  ·subst hi
   have := spO_lt k hk
   rw [Array.getElem?_setIfInBounds_self_of_lt (by rw [bsrA_size]; omega), bsrA_at this, tbK_next hk, if_pos rfl]
  rw [Array.getElem?_setIfInBounds_ne (fun h => hi h.symm)]
  by_cases h256 : i < 256
  ·rw [bsrA_at h256, bsrA_at h256, tbK_next hk, if_neg hi]
  obtain rfl : i = 256 := by omega
  rw [bsrA_tr, bsrA_tr]
 rw [Array.getElem?_eq_getElem h1, Array.getElem?_eq_getElem h2] at e1
 exact Option.some.inj e1
theorem bsrA_one {G C : Nat → Nat} {k : Nat} {tr : Value} (h : tr.oneCell' = true) : (bsrA G C k tr).toList.all (·.oneCell') = true := by
 unfold bsrA
 rw [List.all_append, List.all_cons, List.all_nil, h, Bool.and_true, Bool.and_true]
 rw [List.all_map, List.all_eq_true]
 intro o _
 show (tbK G C k o).oneCell' = true
 unfold tbK
 split <;> rfl
def z0N : Nat → Nat := fun _ => 0
def RcE (G : Nat → Nat) (k : Nat) : Ent := ⟨fun x => ∃ j, j < k ∧ x = G j, fun w => ∀ j, j < k → G j < w.heap.size ∧ ∀ (i : Nat) (b : UInt8), (spN j)[i]? = some b → w.cell? ⟨G j, i, none⟩ = some (.int .u8 (b.toNat : Int))⟩
theorem RcE.ok {w : World} {G : Nat → Nat} {k : Nat} (h : (RcE G k).Φ w) : (RcE G k).ok w :=
 Ent.mk_ok h (fun x hx => by obtain ⟨j, hj, rfl⟩ := hx; exact (h j hj).1) fun S w1 w2 hc hS h j hj => ⟨Nat.lt_of_lt_of_le (h j hj).1 hc.size, fun i b hb => hc.cellC ((h j hj).2 i b hb) (hS _ ⟨j, hj, rfl⟩)⟩
theorem rc_join {S : Nat → Prop} {w0 w : World} {H : List Ent} {G : Nat → Nat} {k g : Nat} (hI : Inv S w0 w (CtE g (spN k) :: RcE G k :: H)) : Inv S w0 w (RcE (upN G k g) (k + 1) :: H) := by
 have hc : (CtE g (spN k)).Φ w := hI.g0
 have hr : (RcE G k).Φ w := hI.g1
 refine hI.join.u0 (e' := RcE (upN G k g) (k + 1)) (Chg.refl _ _) (RcE.ok fun j hj => ?_) (fun x hx => .inl ?_)
 ·unfold upN
  by_cases h : j = k
  ·subst h
   rw [if_pos rfl]
   exact hc
  rw [if_neg h]
  exact hr j (by omega)
 obtain ⟨j, hj, rfl⟩ := hx
 unfold upN
 by_cases h : j = k
 ·rw [if_pos h]
  exact .inl rfl
 rw [if_neg h]
 exact .inr ⟨j, by omega, rfl⟩
def trS (k : Nat) : List Value := (List.range k).map fun j => strV [UInt8.ofNat (spO j)]
theorem trS_next (k : Nat) : trS k ++ [strV [UInt8.ofNat (spO k)]] = trS (k + 1) := by
 unfold trS
 rw [List.range_succ, List.map_append]; rfl
theorem escL_at : ∀ k, k < 5 → escL[8 - 2 * k]? = some [UInt8.ofNat (spO k)] ∧ escL[9 - 2 * k]? = some (spN k) ∧ escL[2 * k]? = some [UInt8.ofNat (spO (4 - k))] ∧ escL[2 * k + 1]? = some (spN (4 - k)) ∧ 2 ≤ (spN (4 - k)).length ∧ (UInt8.ofNat (spO k)).toNat = spO k := by decide
theorem sp_lit {S : Nat → Prop} {w0 w : World} {H : List Ent} {g t k : Nat} (h6 : (UInt8.ofNat (spO k)).toNat = spO k) (hI : Inv S w0 w (B g t #[.int .u8 ((UInt8.ofNat (spO k)).toNat : Int)] :: H)) (j : Nat) (b : UInt8) (hb : [UInt8.ofNat (spO k)][j]? = some b) : w.cell? ⟨g, 0 + j, none⟩ = some (.int .u8 (b.toNat : Int)) := by
 cases j with
 | zero =>
  obtain rfl : UInt8.ofNat (spO k) = b := Option.some.inj hb
  exact hI.c0 rfl
 | succ j => cases hb
set_option maxRecDepth 4000 in
theorem build_esc (r g o c : Nat) (w0 : World) (h4 : w0.cell? ⟨r, 4, none⟩ = some (.slice (some ⟨g, o, none⟩) 10 c)) (hc : ∀ (j : Nat) x, escL[j]? = some x → w0.cell? ⟨g, o + j, none⟩ = some (strV x)) :
  Cq 102 #[.pointer (some ⟨r, 0, none⟩)] w0 fun e w' => ∃ rb G C A ct, e = .returned (.iface 289 (.pointer (some ⟨rb, 0, none⟩))) ∧ Inv NF w0 w' [B rb 288 (bsrA G C 5 (.slice A 5 ct)), Win 9 1 A 5 ct (trS 5), RcE G 5] := by
 have hI := Inv.start (fun _ => False) w0
 refine Vn func102 rfl ?_
 refine Wq (Vj rfl (Wn (Wq (V9 rfl (Vb rfl (V7 4 rfl (V5 (.slice _ _ _) rfl (hI.oldp h4) (Vo rfl (Wn (Ws (Ws ?_)))))))))))
 refine Wr (Vi rfl (Vs rfl yy72 rfl (Vw rfl (V6 rfl (V4 rfl (V4 rfl (V4 rfl (V4 rfl (V4 rfl (Ve rfl (Wn (Wc false rfl (Wk ?_)))))))))))))
 refine Wq (V8 rfl (Wn ?_))
 refine Wx (fun ρ w => Has ρ [(4, .bool false), (3, .slice (some ⟨g, o, none⟩) 10 c)] ∧ Inv NF w0 w []) ?_ ?_
 ·refine Wq (Vc rfl (Wn (Wb ?_)))
  refine Wl (fun mu ρ w => ∃ (k : Nat) (z : Int) (b : Bool), mu = 5 - k ∧ k ≤ 5 ∧ z = 2 * (k : Int) ∧ (0 < k → b = false) ∧ Has ρ [(5, .int .i64 z), (4, .bool b), (3, .slice (some ⟨g, o, none⟩) 10 c)] ∧ Inv NF w0 w []) 5
   ⟨0, 0, true, rfl, by omega, rfl, fun h => by omega, ⟨rfl, rfl, rfl, trivial⟩, hI⟩ ?_
  clear hI
  rintro mu ρ w ⟨k, z, b, rfl, hk, hz, hb, hH, hI⟩
  obtain ⟨m, rfl⟩ : ∃ m : Nat, z = (m : Int) := ⟨2 * k, by omega⟩
  obtain ⟨σ, rfl⟩ := hH.open
  by_cases hk5 : k < 5
  rotate_left
  ·refine Ws (Wq (V0 rfl (Vi rfl (Vs rfl yy72 rfl (Vr rfl (Wn (Wc false rfl ?_)))))))
   refine WE ?_
   obtain rfl : b = false := hb (by omega)
   exact ⟨⟨rfl, rfl, trivial⟩, hI⟩
  obtain rfl : m = 2 * k := by omega
  obtain ⟨-, -, h1, h2, h3, -⟩ := escL_at k hk5
  have hc1 := hc _ _ h1
  have hc2 := hc _ _ h2
  refine Ws (Wq (V0 rfl (Vi rfl (Vs rfl yy72 rfl (Vt rfl (Wn (Wc true rfl (Wk (Ws (Wb (Ws (Ws ?_))))))))))))
  refine Wr (Vi rfl (V0 rfl (U8 rfl yy72 rfl (V5 (.string _) rfl (hI.oldp hc1) (T0 rfl yy9 rfl ?_)))))
  refine Wv rfl (by exact rNeq rfl rfl rfl) ?_
  refine Wn (Wc false rfl (Wk (Wq (Vi rfl (V0 rfl (Vv rfl (U8 rfl yy72 rfl (V5 (.string _) rfl (hI.oldp hc2) (T0 rfl yy9 rfl (U1 rfl (Wn (Wc true rfl ?_))))))))))))
  refine Wr (V8 rfl (Wn (Wr (V0 rfl (Ud rfl (Vc rfl (Wn ?_)))))))
  exact ⟨5 - (k + 1), by omega, k + 1, _, false, rfl, by omega, by omega, fun _ => rfl, ⟨rfl, rfl, rfl, trivial⟩, hI⟩
 clear hI
 rintro ρ w ⟨hH, hI⟩
 obtain ⟨σ, rfl⟩ := hH.open
 refine Ws (Wq (V6 rfl (Wn (Wc false rfl (Wk (Wq (Vi rfl (Vs rfl yy72 rfl ?_))))))))
 refine Wv rfl (rQuoW rfl rfl rfl (by omega)) ?_
 refine WL_mkRoom (z := .string ⟨#[]⟩) (by_ := 16) (m := 5) hI rfl rfl rfl rfl rfl rfl yy72 (by kernel_rfl) rfl (by omega) (by omega) ?_
 rintro tr w - - hI
 refine Wv rfl (rBuildV (v := .agg (bsrA z0N z0N 0 (.slice (some ⟨tr, 0, none⟩) 0 5))) rfl rfl (fun _ => by kernel_rfl)) ?_
 refine T1 (.agg (bsrA z0N z0N 0 (.slice none 0 0))) (bsrA z0N z0N 0 (.slice none 0 0)) hI rfl ?_
 rintro rb w - - hI
 refine WL_stw0 (u := .agg (bsrA z0N z0N 0 (.slice (some ⟨tr, 0, none⟩) 0 5))) (vs := bsrA z0N z0N 0 (.slice (some ⟨tr, 0, none⟩) 0 5)) (n := 257) hI rfl rfl rfl rfl rfl rfl (by kernel_rfl) (bsrA_size ..) (bsrA_size ..) (bsrA_one rfl) ?_
 intro w hI
 refine Wn ?_
 replace hI := (hI.fresh (e := RcE z0N 0) (Pure.refl _) (RcE.ok fun j hj => by omega) (fun k hk => by obtain ⟨j, hj, _⟩ := hk; omega)).perm (List.perm_append_comm (l₁ := [_]))
 refine Wx (fun ρ w => ∃ G C A ct, Has ρ [(11, .pointer (some ⟨rb, 0, none⟩))] ∧ Inv NF w0 w [B rb 288 (bsrA G C 5 (.slice A 5 ct)), Win 9 1 A 5 ct (trS 5), RcE G 5]) ?_ ?_
 ·refine Wq (Vi rfl (Vs rfl yy72 rfl ?_))
  refine Wv rfl (by exact rSub rfl rfl rfl (by omega)) ?_
  refine Vc rfl (Wn (Wb ?_))
  refine Wl (fun mu ρ w => ∃ (k : Nat) (z : Int) (G C : Nat → Nat) (A : Option Addr) (ct : Nat), mu = 5 - k ∧ k ≤ 5 ∧ z = 8 - 2 * (k : Int) ∧ Has ρ [(12, .int .i64 z), (11, .pointer (some ⟨rb, 0, none⟩)), (3, .slice (some ⟨g, o, none⟩) 10 c)] ∧ Inv NF w0 w [B rb 288 (bsrA G C k (.slice A k ct)), Win 9 1 A k ct (trS k), RcE G k]) 5
   ⟨0, 8, z0N, z0N, some ⟨tr, 0, none⟩, 5, rfl, by omega, rfl, ⟨rfl, rfl, rfl, trivial⟩, hI⟩ ?_
  clear hI
  rintro mu ρ w ⟨k, z, G, C, A, ct, rfl, hk, hz, hH, hI⟩
  by_cases hk5 : k < 5
  rotate_left
  ·obtain rfl : k = 5 := by omega
   obtain rfl : z = -2 := by omega
   obtain ⟨σ, rfl⟩ := hH.open
   refine Ws (Wq (V0 rfl (U5 rfl (Wn (Wc false rfl ?_)))))
   refine WE ?_
   exact ⟨G, C, A, ct, ⟨rfl, trivial⟩, hI⟩
  obtain ⟨m, rfl⟩ : ∃ m : Nat, z = (m : Int) := ⟨8 - 2 * k, by omega⟩
  obtain ⟨σ, rfl⟩ := hH.open
  obtain rfl : m = 8 - 2 * k := by omega
  obtain ⟨h1, h2, -, -, -, h6⟩ := escL_at k hk5
  have h2' : escL[8 - 2 * k + 1]? = some (spN k) := by rw [show 8 - 2 * k + 1 = 9 - 2 * k by omega]; exact h2
  have hc1 := hc _ _ h1
  have hc2 := hc _ _ h2'
  refine Ws (Wq (V0 rfl (To rfl (Wn (Wc true rfl (Wk (Ws (Wb ?_))))))))
  have hka : (bsrA G C k (.slice A k ct))[spO k]? = some (.slice none 0 0) := by
   rw [bsrA_at (spO_lt k hk5)]
   unfold tbK
   rw [(spI_iff hk5).2 rfl, if_neg (Nat.lt_irrefl k)]
  refine Wq (Vi rfl (V0 rfl (U8 rfl yy72 rfl (V5 (.string _) rfl (hI.oldp hc1) ?_))))
  refine Wv rfl (rStrAt (c := UInt8.ofNat (spO k)) (i := 0) rfl yy9 rfl rfl rfl) ?_
  refine Vc rfl (Wn (Wq (Vi rfl (V0 rfl (Vv rfl (U8 rfl yy72 rfl (V5 (.string _) rfl (hI.oldp hc2) (T4 rfl (Wn (Ws (Ws (Wr ?_))))))))))))
  refine V0 rfl (V7 0 rfl ?_)
  refine Wv rfl (rIdxA0 (i := spO k) rfl yy286 (by kernel_rfl) rfl rfl (by rw [h6]) (spO_lt k hk5)) ?_
  refine V5 (.slice _ _ _) rfl (hI.c0 hka) ?_
  refine Wv rfl (rSlNT rfl yy133 rfl) ?_
  refine Wn (Wc true rfl (Wr (V7 256 rfl (V5 (.slice _ _ _) rfl (hI.c0 bsrA_tr) (V0 rfl (T3 [(0, .int .u8 _)] [_] [.int .u8 0] [0] hI rfl yy133 (fun _ => by kernel_rfl) ?_))))))
  rintro b121 w - - hI
  refine Wv rfl (rBytesStrL [UInt8.ofNat (spO k)] rfl yy133 yy5 yy9 rfl rfl (fun j b hb => sp_lit h6 hI j b hb)) ?_
  refine T3 [(0, .string _)] [_] [.string ⟨#[]⟩] [0] hI rfl yy72 (fun _ => by kernel_rfl) ?_
  rintro b123 w - - hI
  have hsrc := src_blk yy72 (news := [strV [UInt8.ofNat (spO k)]]) hI.g0 (fun v hv => by rw [List.mem_singleton.1 hv]; rfl)
  have hI := hI.d0.d0.perm (List.Perm.swap _ _ _)
  refine WL_appW (z := .string ⟨#[]⟩) (by_ := 16) (news := [strV [UInt8.ofNat (spO k)]]) _ hI rfl rfl rfl rfl rfl rfl yy72 (by kernel_rfl) rfl (by omega) hsrc (by show k + 1 ≤ _; omega) (by show (k + 1) * _ ≤ _; omega) ?_
  rintro A' ct' w hc3 hc4 hI
  rw [trS_next] at hI
  have hI := hI.perm (List.Perm.swap _ _ _)
  refine V7 256 rfl ?_
  refine WL_st0 (u := .slice _ _ _) (j := 256) hI rfl rfl rfl rfl rfl rfl (by kernel_rfl) rfl (by rw [bsrA_size]; rfl) bsrA_setTr ?_
  intro w hI
  refine Wn (Wr (V0 rfl (Vh rfl ?_)))
  refine WL_s2b hI rfl rfl rfl rfl rfl yy9 yy133 yy5 ?_
  rintro gn cn w - hcn hI
  refine V7 0 rfl ?_
  refine Wv rfl (rIdxA0 (i := spO k) rfl yy286 (by kernel_rfl) rfl rfl (by rw [h6]) (spO_lt k hk5)) ?_
  refine WL_st1 (u := .slice _ _ _) (j := spO k) hI rfl rfl rfl rfl rfl rfl (by kernel_rfl) rfl (by have := spO_lt k hk5; rw [bsrA_size]; exact Nat.ble_eq_true_of_le (by omega)) (bsrA_next hk5) ?_
  intro w hI
  refine Wn (Wr (V0 rfl ?_))
  refine Wv rfl (by exact rSub rfl rfl rfl (by omega)) ?_
  refine Vc rfl (Wn ?_)
  exact ⟨5 - (k + 1), by omega, k + 1, _, _, _, _, _, rfl, by omega, by omega, ⟨rfl, rfl, rfl, trivial⟩, (rc_join (hI.perm (List.Perm.cons _ (List.perm_append_comm (l₁ := [_, _]) (l₂ := [_]))))).perm (List.perm_append_comm (l₁ := [_]) (l₂ := [_, _]))⟩
 clear hI
 rintro ρ w ⟨G, C, A, ct, hH, hI⟩
 obtain ⟨σ, rfl⟩ := hH.open
 refine Wq (T6 rfl underlying289 rfl (Vp rfl (Wn ?_)))
 exact WR (r1_ 2 rfl ⟨_, _, _, _, _, rfl, hI⟩)
def MaxOk (w : World) : Prop := ∃ m : Int, w.cell? ⟨3, 0, none⟩ = some (.int .i64 m)
theorem MaxOk.of {w : World} (h : w.ShapedOpen prog) : MaxOk w := laysM146.s1_3 w h
theorem MaxOk.pure {w w' : World} (h : MaxOk w) (hp : Pure w w') : MaxOk w' := by
 obtain ⟨m, h⟩ := h
 exact ⟨m, ((Inv.start (fun _ => False) w).pure hp).oldp h⟩
abbrev byB (l : List UInt8) : ByteArray := ⟨l.toArray⟩
theorem splitS_any (l sep : List UInt8) (ws : List (List UInt8)) (hl : l.length ≤ 100000) (hs1 : 1 ≤ sep.length) (hc : Lib.countB (byB l) (byB sep) + 1 = ws.length) (hsp : Lib.splitB (byB sep) 0 (Lib.countB (byB l) (byB sep)) (byB l) = ws.map byB) (w : World) (hM : MaxOk w) :
  Cq 49 #[strV l, strV sep] w fun e w' => ∃ g, e = .returned (.slice (some ⟨g, 0, none⟩) ws.length ws.length) ∧ Inv NF w w' [B g 9 (ws.map strV).toArray] := by
 obtain ⟨m, hm⟩ := hM
 have hz : (byB l).size = l.length := str_size _
 have hz2 : (byB sep).size = sep.length := str_size _
 refine (Any.strings_Split { laysM146 with } laysM146.i9 (byB l) (byB sep) m w (by omega) hm (by omega)).mono ?_
 rintro e w' ⟨rfl, rfl⟩
 rw [hsp, hc, List.map_map]
 exact ⟨_, rfl, (Inv.start (fun _ => False) w).box _ _⟩
theorem cutS_any (l sep a b : List UInt8) (f : Bool) (hl : l.length ≤ 100000) (hc : Lib.cut l sep = (a, b, f)) (w : World) (hM : MaxOk w) :
  Cq 50 #[strV l, strV sep] w fun e w' => e = .returned (.tuple #[strV a, strV b, .bool f]) ∧ Pure w w' := by
 obtain ⟨m, hm⟩ := hM
 have hz : (byB l).size = l.length := str_size _
 refine (Any.strings_Cut { laysM145 with } (byB l) (byB sep) m w (by omega) hm).mono ?_
 rintro e w' ⟨rfl, n, rfl⟩
 rw [str_list, str_list, hc]
 exact ⟨rfl, (Pure.refl w).drewN n⟩
theorem idxS_any (A : Option Addr) (c : Nat) (l : List (List UInt8)) (x : List UInt8) (D : Nat → Prop) (w0 : World) (h : Rd w0 D 1 (.slice A l.length c) l.length (l.map strV)) (hl : l.length ≤ 1000) :
  Cq 65 #[.slice A l.length c, strV x] w0 fun en w' => ∃ z : Int, en = .returned (.int .i64 z) ∧ (0 ≤ z ↔ x ∈ l) ∧ Pure w0 w' := by
 have hI := Inv.start (fun _ => False) w0
 refine Vn func65 rfl ?_
 refine Wq (Vc rfl (Wn (Ws (Wq (Vi rfl (Vs rfl yy72 rfl (V0 rfl (Wn (Wb ?_)))))))))
 refine Wl (fun mu ρ w => ∃ k : Nat, mu = l.length - k ∧ k ≤ l.length ∧ (∀ j, j < k → l[j]? ≠ some x) ∧ Has ρ [(8, .int .i64 (k : Int)), (7, .int .i64 (l.length : Int)), (0, .slice A l.length c), (1, strV x)] ∧ Inv NF w0 w []) l.length
  ⟨0, rfl, by omega, fun j hj => by omega, ⟨rfl, rfl, rfl, rfl, trivial⟩, hI⟩ ?_
 clear hI
 rintro mu ρ w ⟨k, rfl, hk, hno, hH, hI⟩
 obtain ⟨σ, rfl⟩ := hH.open
 by_cases hkl : k < l.length
 rotate_left
 ·refine Wq (Vr rfl (Wn (Ws (Wc false rfl ?_))))
  refine WE ?_
  refine Wq (Vc rfl (Wn ?_))
  refine WR ?_
  refine r1_ 4 rfl ⟨-1, rfl, ⟨fun h => by omega, fun h => ?_⟩, hI.pu⟩
  obtain ⟨j, hj⟩ := List.getElem?_of_mem h
  exact absurd hj (hno j (by have := (List.getElem?_eq_some_iff.1 hj).1; omega))
 have hx : l[k]? = some l[k] := List.getElem?_eq_getElem hkl
 generalize l[k] = y at hx
 obtain ⟨b, o, rfl, _, _, hc⟩ := Rd.get h (k := k) (u := strV y) (by rw [List.getElem?_map, hx]; rfl) (by omega)
 refine Wq (Vt rfl (Wn (Ws (Wc true rfl (Wk (Ws (Wb (Wq (V0 rfl (Vc rfl (Wn ?_)))))))))))
 by_cases hxy : x = y
 ·refine Wq (Vh rfl (Vi rfl (V0 rfl (U8 rfl yy72 rfl (V5 (.string _) rfl (hI.oldp hc) ?_)))))
  refine Wv rfl (by exact rStrEqT rfl rfl rfl (by assumption)) ?_
  refine Wn (Wc true rfl (Wq (V0 rfl (Vc rfl (Wn ?_)))))
  exact WR (r1_ 4 rfl ⟨k, rfl, ⟨fun _ => by rw [hxy]; exact List.mem_of_getElem? hx, fun _ => by omega⟩, hI.pu⟩)
 refine Wq (Vh rfl (Vi rfl (V0 rfl (U8 rfl yy72 rfl (V5 (.string _) rfl (hI.oldp hc) (U3 rfl ?_))))))
 refine Wn (Wc false rfl (Wk (Wr (Vv rfl (V0 rfl (Wn ?_))))))
 refine ⟨l.length - (k + 1), by omega, k + 1, rfl, by omega, fun j hj => ?_, ⟨rfl, rfl, rfl, rfl, trivial⟩, hI⟩
 by_cases hjk : j < k
 ·exact hno j hjk
 obtain rfl : j = k := by omega
 rw [hx]
 exact fun h => hxy (Option.some.inj h).symm
theorem conS_any (A : Option Addr) (c : Nat) (l : List (List UInt8)) (x : List UInt8) (D : Nat → Prop) (w0 : World) (h : Rd w0 D 1 (.slice A l.length c) l.length (l.map strV)) (hl : l.length ≤ 1000) (r : Bool) (hr : r = decide (x ∈ l)) :
  Cq 52 #[.slice A l.length c, strV x] w0 fun en w' => en = .returned (.bool r) ∧ Pure w0 w' := by
 have hI := Inv.start (fun _ => False) w0
 refine Vn func52 rfl ?_
 refine Wq (V8 rfl (Wn (Wq (Vi rfl (Vh rfl (Va [.slice _ _ _, .string _] rfl func65 rfl ?_))))))
 refine (idxS_any A c l x D _ h hl).mono ?_
 rintro e w1 ⟨z, rfl, hz, hp⟩
 refine rV ?_
 have hI := hI.pure hp
 refine Uk rfl (V8 rfl (Wn ?_))
 refine WR ?_
 refine r1_ 4 rfl ⟨?_, hI.pu⟩
 show Ending.returned (.bool (decide (0 ≤ z))) = _
 rw [hr]
 congr 2
 exact decide_eq_decide.2 hz
theorem cutp_any (p r : List UInt8) (w : World) : Cq 62 #[strV (p ++ r), strV p] w fun e w' => e = .returned (.tuple #[strV r, .bool true]) ∧ w' = w := by
 refine (Any.strings_CutPrefix lays103 (byB (p ++ r)) (byB p) w).mono ?_
 rintro e w' ⟨rfl, rfl⟩
 have h : Lib.hasPrefix (p ++ r) p = true := List.isPrefixOf_iff_prefix.2 (List.prefix_append _ _)
 rw [str_list, str_list, h]
 unfold Lib.trimPrefix
 rw [if_pos h, List.drop_left]
 exact ⟨rfl, rfl⟩
theorem cuts_any (r p : List UInt8) (hl : (r ++ p).length ≤ 100000) (w : World) : Cq 63 #[strV (r ++ p), strV p] w fun e w' => e = .returned (.tuple #[strV r, .bool true]) ∧ w' = w := by
 have hz : (byB (r ++ p)).size = (r ++ p).length := str_size _
 refine (Any.strings_CutSuffix lays104 (byB (r ++ p)) (byB p) w (by omega)).mono ?_
 rintro e w' ⟨rfl, rfl⟩
 have h : Lib.hasSuffix (r ++ p) p = true := List.isSuffixOf_iff_suffix.2 (List.suffix_append _ _)
 rw [str_list, str_list, h]
 unfold Lib.trimSuffix
 rw [if_pos h, List.length_append, Nat.add_sub_cancel, List.take_left]
 exact ⟨rfl, rfl⟩
theorem count_any (l : List UInt8) (c : UInt8) (w : World) : Cq 137 #[strV l, strV [c]] w fun e w' => e = .returned (.int .i64 (l.count c : Int)) ∧ w' = w := by
 refine (Any.strings_Count_one lays138 (byB l) c w).mono ?_
 rintro e w' ⟨rfl, rfl⟩
 rw [str_list]
 exact ⟨rfl, rfl⟩
theorem indexByte_no : ∀ (l : List UInt8) (c : UInt8), c ∉ l → Lib.indexByte l c = -1
 | [], c, _ => rfl
 | b :: l, c, h => by
  have h1 : (b == c) = false := by
   rw [beq_eq_false_iff_ne]
   intro e
   exact h (e ▸ List.mem_cons_self)
  unfold Lib.indexByte
  rw [h1, indexByte_no l c (fun k => h (List.mem_cons_of_mem _ k))]
  rfl
theorem contains_no (l : List UInt8) (c : UInt8) (hc : c ∉ l) (w : World) : Cq 29 #[strV l, strV [c]] w fun e w' => e = .returned (.bool false) ∧ w' = w := by
 refine (Any.strings_Contains_one lays144 (byB l) c w).mono ?_
 rintro e w' ⟨rfl, rfl⟩
 rw [str_list, indexByte_no l c hc]
 exact ⟨rfl, rfl⟩
theorem idxAt_any (b n : Nat) (zs : List (List UInt8)) (x : List UInt8) (k : Nat) (hx : zs[k]? = some x) (hnd : zs.Nodup) (hl : zs.length ≤ 1000) (w : World) (hc : ∀ (j : Nat) y, zs[j]? = some y → w.cell? ⟨b, j, none⟩ = some (strV y)) :
  Cq 65 #[.slice (some ⟨b, 0, none⟩) zs.length n, strV x] w fun e w' => e = .returned (.int .i64 (k : Int)) ∧ w' = w := by
 refine (Any.slices_Index_string lays109 b 0 zs.length n (zs.map byB) (byB x) w (by rw [List.length_map]; omega) (by omega) (fun j hj => ?_)).mono ?_
 ·rw [List.length_map] at hj
  have h1 := hc j zs[j] (List.getElem?_eq_getElem hj)
  rw [Nat.zero_add, h1, List.getD_eq_getElem?_getD, List.getElem?_map, List.getElem?_eq_getElem hj]
  rfl
 rintro e w' ⟨rfl, rfl⟩
 obtain ⟨hk, hxk⟩ := List.getElem?_eq_some_iff.1 hx
 have hg : ∀ (j : Nat) (hj : j < zs.length), (zs.map byB).getD j ByteArray.empty = byB zs[j] := fun j hj => by
  rw [List.getD_eq_getElem?_getD, List.getElem?_map, List.getElem?_eq_getElem hj]
  rfl
 have h0 := Lib.idxOfS_hit (zs.map byB) zs.length k (byB x) hk (by rw [List.length_map]; omega) (by rw [hg k hk, hxk]) (fun j hj h => by
  rw [hg j (by omega)] at h
  have h1 : zs[j] = x := by
   have h2 := congrArg (fun b : ByteArray => b.data.toList) h
   simpa using h2
  exact absurd (h1.trans hxk.symm) (List.pairwise_iff_getElem.1 hnd j k (by omega) hk hj))
 rw [h0]
 exact ⟨rfl, rfl⟩
theorem esc_spec : ∀ n : Nat, n < 256 → (spI n < 5 → escB (UInt8.ofNat n) = spN (spI n) ∧ 4 ≤ (spN (spI n)).length) ∧ (5 ≤ spI n → escB (UInt8.ofNat n) = [UInt8.ofNat n]) := by decide +kernel
theorem esc_sp {b : UInt8} (h : spI b.toNat < 5) : escB b = spN (spI b.toNat) ∧ 4 ≤ (spN (spI b.toNat)).length := by
 have := (esc_spec b.toNat b.toNat_lt).1 h
 rwa [UInt8.ofNat_toNat] at this
theorem esc_pl {b : UInt8} (h : ¬ spI b.toNat < 5) : escB b = [b] := by
 have := (esc_spec b.toNat b.toNat_lt).2 (by omega)
 rwa [UInt8.ofNat_toNat] at this
theorem spN_ne : ∀ k, k < 5 → 4 ≤ (spN k).length ∧ (spN k).length ≤ 5 := by decide
def sumA (s : List UInt8) : Nat → Nat
 | 0 => 0
 | k + 1 => sumA s k + s.count (UInt8.ofNat (spO k)) * ((spN k).length - 1)
theorem sumA_cons (b : UInt8) (s : List UInt8) : ∀ k, k ≤ 5 → sumA (b :: s) k = sumA s k + if spI b.toNat < k then (escB b).length - 1 else 0
 | 0, _ => by simp [sumA]
 | k + 1, hk => by
  rw [sumA, sumA, sumA_cons b s k (by omega), List.count_cons]
  have h1 := spI_iff (o := b.toNat) (k := k) (by omega)
  have h2 := spO_lt k (by omega)
  by_cases h : b = UInt8.ofNat (spO k)
  ·have h3 : b.toNat = spO k := by rw [h, UInt8.toNat_ofNat']; omega
   have h4 := h1.2 h3
   have h5 := esc_sp (b := b) (by omega)
   rw [h4] at h5
   have e1 : (if (b == UInt8.ofNat (spO k)) = true then 1 else 0) = 1 := if_pos (by rw [h]; exact beq_self_eq_true _)
   have e2 : (if spI b.toNat < k then (escB b).length - 1 else 0) = 0 := if_neg (by omega)
   have e3 : (if spI b.toNat < k + 1 then (escB b).length - 1 else 0) = (spN k).length - 1 := by rw [if_pos (by omega), h5.1]
   rw [e1, e2, e3, Nat.add_mul]
   omega
  have h3 : spI b.toNat ≠ k := fun e => h (by rw [← h1.1 e, UInt8.ofNat_toNat])
  have e1 : (if (b == UInt8.ofNat (spO k)) = true then 1 else 0) = 0 := if_neg (by rw [beq_iff_eq]; exact h)
  have e3 : (if spI b.toNat < k + 1 then (escB b).length - 1 else 0) = (if spI b.toNat < k then (escB b).length - 1 else 0) := by
   by_cases h5 : spI b.toNat < k
   ·rw [if_pos h5, if_pos (by omega)]
   rw [if_neg h5, if_neg (by omega)]
  rw [e1, e3, Nat.add_zero]
  omega
theorem escF_sum : ∀ s : List UInt8, (escF s).length = s.length + sumA s 5
 | [] => by decide
 | b :: s => by
  rw [escF_cons, List.length_append, escF_sum s, List.length_cons, sumA_cons b s 5 (Nat.le_refl _)]
  have h1 := escB_len b
  by_cases h : spI b.toNat < 5
  ·rw [if_pos h]; omega
  rw [if_neg h, esc_pl h]
  simp only [List.length_cons, List.length_nil]
  omega
theorem escF_plain : ∀ s : List UInt8, (∀ k, k < 5 → s.count (UInt8.ofNat (spO k)) = 0) → escF s = s
 | [], _ => rfl
 | b :: s, h => by
  have h1 : ¬ spI b.toNat < 5 := fun hlt => by
   have h2 := (spI_iff hlt).1 rfl
   have h3 := h _ hlt
   rw [List.count_cons, ← h2, UInt8.ofNat_toNat, beq_self_eq_true, if_pos rfl] at h3
   omega
  rw [escF_cons, esc_pl h1, escF_plain s (fun k hk => by
   have := h k hk
   rw [List.count_cons] at this
   omega)]
  rfl
theorem escF_plain2 (s : List UInt8) (h : ∀ b ∈ s, ¬ spI b.toNat < 5) : escF s = s := by
 induction s with
 | nil => rfl
 | cons b s ih => rw [escF_cons, esc_pl (h b List.mem_cons_self), ih fun c hc => h c (List.mem_cons_of_mem _ hc)]; rfl
def bufA (s : List UInt8) (i n : Nat) : Array Value := (bytesL (escF (s.take i)) ++ List.replicate (n - (escF (s.take i)).length) (Value.int .u8 0)).toArray
theorem take_at {s : List UInt8} {i : Nat} {b : UInt8} (h : s[i]? = some b) : s.take (i + 1) = s.take i ++ [b] := by
 obtain ⟨hi, rfl⟩ := List.getElem?_eq_some_iff.1 h
 rw [List.take_add_one, List.getElem?_eq_getElem hi]; rfl
theorem escF_take_le (s : List UInt8) (i : Nat) : (escF (s.take i)).length ≤ (escF s).length := by
 conv => rhs; rw [← List.take_append_drop i s]
 rw [escF_app, List.length_append]
 omega
theorem bytesL_len (l : List UInt8) : (bytesL l).length = l.length := by simp [bytesL]
theorem bufA_size {s : List UInt8} {i : Nat} : (bufA s i (escF s).length).size = (escF s).length := by
 have := escF_take_le s i
 unfold bufA
 simp only [List.size_toArray, List.length_append, bytesL_len, List.length_replicate]
 omega
theorem bufA_next {s : List UInt8} {i : Nat} {b : UInt8} (h : s[i]? = some b) : splice (bufA s i (escF s).length) (escF (s.take i)).length (bytesL (escB b)) = bufA s (i + 1) (escF s).length := by
 have h1 := take_at h
 have h2 := escF_take_le s (i + 1)
 rw [h1, escF_app, List.length_append] at h2
 have h3 : escF [b] = escB b := by rw [escF_cons, escF_nil, List.append_nil]
 rw [h3] at h2
 have h4 := splice_list (bytesL (escB b)) (escF (s.take i)).length (bufA s i (escF s).length) (by rw [bufA_size, bytesL_len]; exact h2)
 apply Array.toList_inj.1
 rw [h4, bytesL_len]
 unfold bufA
 rw [h1, escF_app, h3]
 simp only [List.length_append]
 rw [List.take_left' (bytesL_len _), show bytesL (escF (s.take i) ++ escB b) = bytesL (escF (s.take i)) ++ bytesL (escB b) from List.map_append, List.drop_append, bytesL_len, List.drop_of_length_le (by rw [bytesL_len]; omega), List.nil_append, List.drop_replicate, List.append_assoc]
 rw [show (escF s).length - (escF (s.take i)).length - ((escF (s.take i)).length + (escB b).length - (escF (s.take i)).length) = (escF s).length - ((escF (s.take i)).length + (escB b).length) by omega, List.append_assoc]
structure BsrAt (w : World) (rb : Nat) : Prop where
 go : ∃ (G C : Nat → Nat) (g o ct : Nat), (∀ n, n < 256 → w.cell? ⟨rb, n, none⟩ = some (tbK G C 5 n)) ∧ w.cell? ⟨rb, 256, none⟩ = some (.slice (some ⟨g, o, none⟩) 5 ct) ∧
  (∀ j, j < 5 → w.cell? ⟨g, o + j, none⟩ = some (strV [UInt8.ofNat (spO j)])) ∧ ∀ j, j < 5 → ∀ (i : Nat) (b : UInt8), (spN j)[i]? = some b → w.cell? ⟨G j, i, none⟩ = some (.int .u8 (b.toNat : Int))
theorem tbK_sp {G C : Nat → Nat} {b : UInt8} (h : spI b.toNat < 5) : tbK G C 5 b.toNat = .slice (some ⟨G (spI b.toNat), 0, none⟩) (escB b).length (C (spI b.toNat)) := by
 unfold tbK
 rw [if_pos h, (esc_sp h).1]
theorem tbK_pl {G C : Nat → Nat} {b : UInt8} (h : ¬ spI b.toNat < 5) : tbK G C 5 b.toNat = .slice none 0 0 := by
 unfold tbK
 rw [if_neg h]
theorem rMulNN {P : Program} {ρ : Env} {w : World} {o : Oper} {x y : Operand} {t t' : TypeId} {a b : Nat} (ho : o.op = .binOp .mul t x y t') (hx : ev ρ x = .int .i64 (a : Int)) (hy : ev ρ y = .int .i64 (b : Int)) (h : a * b ≤ 9223372036854775807) : Runs P ρ o w (.int .i64 ((a * b : Nat) : Int)) := by
 have h1 := rMulW (P := P) (w := w) ho hx hy
 rw [wrap64_in (by have : (0 : Int) ≤ (a : Int) * (b : Int) := Int.mul_nonneg (by omega) (by omega); omega) (by rw [← Int.natCast_mul]; omega), ← Int.natCast_mul] at h1
 exact h1
theorem rNeSlNT {P : Program} {ρ : Env} {w : World} {o : Oper} {x : Operand} {t t' e : TypeId} {n c : Nat} (ho : o.op = .binOp .neq t x (.const (.slice none 0 0)) t') (ht : P.underlying t = some (.slice e)) (hx : ev ρ x = .slice none n c) : Runs P ρ o w (.bool false) := by
 have h := run_equal (P := P) (w := w) (t := t) (x := .slice none n c) (y := .slice none 0 0) (r := true) (fun d => by simp [Op.equalIn, run_underlying ht])
 simp [Runs, execOp, ho, hx, show ev ρ (.const (.slice none 0 0)) = .slice none 0 0 from rfl, eqGuard, binOp, h]
theorem rNeSlNF {P : Program} {ρ : Env} {w : World} {o : Oper} {x : Operand} {t t' e : TypeId} {n c : Nat} {p : Addr} (ho : o.op = .binOp .neq t x (.const (.slice none 0 0)) t') (ht : P.underlying t = some (.slice e)) (hx : ev ρ x = .slice (some p) n c) : Runs P ρ o w (.bool true) := by
 have h := run_equal (P := P) (w := w) (t := t) (x := .slice (some p) n c) (y := .slice none 0 0) (r := false) (fun d => by simp [Op.equalIn, run_underlying ht])
 simp [Runs, execOp, ho, hx, show ev ρ (.const (.slice none 0 0)) = .slice none 0 0 from rfl, eqGuard, binOp, h]
end Go.Proofs.YtlkobbighkiojaaGreatDoor
namespace Go.Proofs.YtlkobbighkiojaaGreatDoor
open Tryz
structure SEnt where
 t : Nat
 c : Int
 v : Int
def SEnt.less (a b : SEnt) : Prop := a.t < b.t ∨ (a.t = b.t ∧ a.c < b.c)
instance (a b : SEnt) : Decidable (a.less b) := inferInstanceAs (Decidable (_ ∨ _))
structure SMsg where
 what : Nat
 client : Nat
 round : Nat
 key : Nat
 e : SEnt
structure SMail where
 src : Nat
 dst : Nat
 m : SMsg
structure SCl where
 busy : Bool
 gone : Bool
 began : Ev
 telling : Bool
 round : Nat
 counted : List Bool
 best : SEnt
structure StS where
 n : Nat
 k : Nat
 ask : Nat
 tell : Nat
 back : Bool
 ent : Nat → Nat → SEnt
 cl : Nat → SCl
 mails : List SMail
 evs : List Ev
 sts : List SEnt
def keyC (s : StS) (c : Nat) : Nat := (s.cl c).began.key.toNat
def setCl (s : StS) (c : Nat) (x : SCl) : StS := { s with cl := fun i => if i = c then x else s.cl i }
def pushM (ms : List SMail) (m : SMail) : List SMail := if ms.length < 500 then ms ++ [m] else ms
def sendM (s : StS) (c what : Nat) (e : SEnt) (j : Nat) : SMail := ⟨s.n + c, j, ⟨what, c, (s.cl c).round + 1, keyC s c, e⟩⟩
def sendTo (s : StS) (c what : Nat) (e : SEnt) (j : Nat) : List SMail := (List.range j).foldl (fun ms i => pushM ms (sendM s c what e i)) s.mails
def roundC (s : StS) (c what : Nat) : SCl := { s.cl c with round := (s.cl c).round + 1, telling := decide (what = 2), counted := List.replicate s.n false }
def sendF (s : StS) (c what : Nat) (e : SEnt) : StS := { setCl s c (roundC s c what) with mails := sendTo s c what e s.n }
def obsF (s : StS) (e : Ev) (st : SEnt) : StS := { s with evs := s.evs ++ [e], sts := s.sts ++ [st] }
def evB (c key : Nat) (write : Bool) (value : Int) : Ev := ⟨c, 1, key, if write then 2 else 1, if write then value else 0, 0, 0⟩
def begS (s : StS) (c key : Nat) (write : Bool) (value : Int) : StS :=
 let s1 := obsF s (evB c key write value) ⟨0, 0, 0⟩
 sendF (setCl s1 c { s1.cl c with busy := true, began := evB c key write value, best := ⟨0, -2, 0⟩ }) c 1 ⟨0, 0, 0⟩
def giveF (s : StS) (c : Nat) : StS :=
 let s1 := obsF s { (s.cl c).began with ty := 4 } ⟨0, 0, 0⟩
 setCl s1 c { s1.cl c with busy := false, gone := true }
def evD (x : SCl) : Ev := { x.began with ty := 2, res := if x.began.kind = 1 then x.best.v else x.began.res }
def doneS (s : StS) (c : Nat) : StS :=
 let s1 := obsF s (evD (s.cl c)) ⟨(s.cl c).best.t, (s.cl c).best.c, 0⟩
 setCl s1 c { s1.cl c with busy := false }
def setEnt (s : StS) (j key : Nat) (e : SEnt) : StS := { s with ent := fun a b => if a = j ∧ b = key then e else s.ent a b }
def ownN (s : StS) (j : Nat) (m : SMsg) : SEnt := if m.what = 2 ∧ (s.ent j m.key).less m.e then m.e else s.ent j m.key
def nodeF (s : StS) (j : Nat) (m : SMsg) : StS := { setEnt s j m.key (ownN s j m) with mails := pushM s.mails ⟨j, s.n + m.client, { m with what := 3, e := ownN s j m }⟩ }
def countT (l : List Bool) : Nat := l.countP id
def heardC (x : SCl) (j : Nat) (m : SMsg) : SCl :=
 let x1 := { x with counted := x.counted.set j true }
 if x.telling then x1 else if x.best.less m.e then { x1 with best := m.e } else x1
def newC (x : SCl) (c : Nat) : SCl := if x.began.kind = 2 then { x with best := ⟨x.best.t + 1, c, x.began.a⟩ } else x
def hearF (s : StS) (j : Nat) (m : SMsg) : StS :=
 let x := s.cl m.client
 if x.busy = false ∨ m.round ≠ x.round ∨ x.counted.getD j false = true then s else
 let x1 := heardC x j m
 let s1 := setCl s m.client x1
 if x.telling then (if countT x1.counted = s.tell then doneS s1 m.client else s1)
 else if countT x1.counted < s.ask then s1
 else
  let x2 := newC x1 m.client
  let s2 := setCl s m.client x2
  if x.began.kind = 2 ∨ s.back = true then sendF s2 m.client 2 x2.best else doneS s2 m.client
def deliverF (s : StS) (i : Nat) (m : SMail) : StS :=
 let s1 := { s with mails := s.mails.eraseIdx i }
 if m.dst < s.n then nodeF s1 m.dst m.m else hearF s1 m.src m.m
def busyN (s : StS) (j : Nat) : Nat := (List.range j).countP fun c => (s.cl c).busy
theorem busyN_succ (s : StS) (j : Nat) : busyN s (j + 1) = busyN s j + if (s.cl j).busy = true then 1 else 0 := by
 unfold busyN
 rw [List.range_succ, List.countP_append, List.countP_cons, List.countP_nil]
 simp
theorem busyN_le (s : StS) (j : Nat) : busyN s j ≤ j := by
 unfold busyN
 exact Nat.le_trans List.countP_le_length (by simp)
theorem mem_push {ms : List SMail} {m x : SMail} (h : x ∈ pushM ms m) : x ∈ ms ∨ x = m := by
 unfold pushM at h
 split at h
 ·rcases List.mem_append.1 h with h | h
  ·exact .inl h
  exact .inr (List.mem_singleton.1 h)
 exact .inl h
theorem mem_send {s : StS} {c what : Nat} {e : SEnt} {x : SMail} : ∀ {j : Nat}, x ∈ sendTo s c what e j → x ∈ s.mails ∨ ∃ i, i < j ∧ x = sendM s c what e i
 | 0, h => .inl h
 | j + 1, h => by
  unfold sendTo at h
  rw [List.range_succ, List.foldl_append] at h
  rcases mem_push h with h | h
  ·rcases mem_send h with h | ⟨i, hi, h⟩
   ·exact .inl h
   exact .inr ⟨i, by omega, h⟩
  exact .inr ⟨j, by omega, h⟩
open Go.RowKit
def flatB (n : Nat) (f : Nat → List Value) : Array Value := ((List.range n).flatMap f).toArray
section
variable {n m : Nat} {f g : Nat → List Value}
theorem flatR_len (hm : ∀ i, (f i).length = m) : ((List.range n).flatMap f).length = n * m := by
 induction n with
 | zero => simp
 | succ n ih => rw [List.range_succ, List.flatMap_append, List.length_append, ih, Nat.succ_mul]; simp [hm]
theorem flatB_size (hm : ∀ i, (f i).length = m) : (flatB n f).size = n * m := by
 unfold flatB
 rw [List.size_toArray, flatR_len hm]
theorem flatB_at (hm : ∀ i, (f i).length = m) {i j : Nat} (hi : i < n) (hj : j < m) : (flatB n f)[i * m + j]? = (f i)[j]? := by
 unfold flatB
 rw [List.getElem?_toArray]
 exact flat_get hm (List.range n) i j i (by rw [List.getElem?_range hi]) hj
theorem flatB_get (hm : ∀ i, (f i).length = m) {i j : Nat} {v : Value} (hi : i < n) (hj : (f i)[j]? = some v) : (flatB n f)[i * m + j]? = some v := by
 have := (List.getElem?_eq_some_iff.1 hj).1
 rw [hm] at this
 rw [flatB_at hm hi this, hj]
theorem flatB_congr (h : ∀ i, i < n → f i = g i) : flatB n f = flatB n g := by
 unfold flatB
 congr 1
 have : ∀ l : List Nat, (∀ i ∈ l, i < n) → l.flatMap f = l.flatMap g := fun l => by
  induction l with
  | nil => intro _; rfl
  | cons a l ih => intro hl; rw [List.flatMap_cons, List.flatMap_cons, h a (hl a (by simp)), ih (fun i hi => hl i (by simp [hi]))]
 exact this _ (fun i hi => List.mem_range.1 hi)
theorem splice_at (vs : List Value) : ∀ (cs : Array Value) (o x : Nat), o + vs.length ≤ cs.size → (splice cs o vs)[x]? = if o ≤ x ∧ x < o + vs.length then vs[x - o]? else cs[x]? := by
 induction vs with
 | nil => intro cs o x _; rw [if_neg (fun h => by have h1 := h.1; have h2 := h.2; rw [List.length_nil] at h2; omega)]; rfl
 | cons v vs ih =>
  intro cs o x h
  rw [List.length_cons] at h
  rw [splice, ih _ _ _ (by rw [Array.size_setIfInBounds]; omega), List.length_cons]
  by_cases hx : x = o
  ·subst hx
   rw [if_neg (by omega), if_pos (by omega), Array.getElem?_setIfInBounds]
   rw [if_pos rfl, if_pos (by omega), Nat.sub_self]
   rfl
  by_cases h1 : o + 1 ≤ x ∧ x < o + 1 + vs.length
  ·rw [if_pos h1, if_pos (by omega), show x - o = (x - (o + 1)) + 1 by omega, List.getElem?_cons_succ]
  rw [if_neg h1, if_neg (by omega), Array.getElem?_setIfInBounds, if_neg (fun e => hx e.symm)]
theorem flatB_splice (hm : ∀ i, (f i).length = m) (hg : ∀ i, (g i).length = m) {i j : Nat} {vs : List Value} (hi : i < n) (hj : j + vs.length ≤ m) (hne : ∀ k, k ≠ i → g k = f k)
  (h : g i = (f i).take j ++ vs ++ (f i).drop (j + vs.length)) : splice (flatB n f) (i * m + j) vs = flatB n g := by
 have hin : i * m + m ≤ n * m := by
  rw [← Nat.succ_mul]; exact Nat.mul_le_mul_right _ hi
 apply Array.ext_getElem?
 intro x
 rw [splice_at _ _ _ _ (by rw [flatB_size hm]; omega)]
 by_cases hx : x < n * m
 ·have hm0 : 0 < m := by
   rcases Nat.eq_zero_or_pos m with h0 | h0
   ·subst h0; omega
   exact h0
  obtain ⟨a, b, hab, hb⟩ : ∃ a b, x = a * m + b ∧ b < m := ⟨x / m, x % m, by rw [Nat.mul_comm]; exact (Nat.div_add_mod x m).symm, Nat.mod_lt _ hm0⟩
  subst hab
  have ha : a < n := by
   refine Nat.lt_of_not_le fun hn => ?_
   have : n * m ≤ a * m := Nat.mul_le_mul_right _ hn
   omega
  rw [flatB_at hg ha hb]
  by_cases hai : a = i
  ·subst hai
   rw [h]
   by_cases hbj : j ≤ b ∧ b < j + vs.length
   ·rw [if_pos (by omega), List.getElem?_append_left (by simp [hm]; omega), List.getElem?_append_right (by simp [hm]; omega)]
    simp only [List.length_take, hm]
    congr 1
    omega
   rw [if_neg (by omega), flatB_at hm ha hb]
   by_cases hlt : b < j
   ·rw [List.getElem?_append_left (by simp [hm]; omega), List.getElem?_append_left (by simp [hm]; omega), List.getElem?_take, if_pos hlt]
   rw [List.getElem?_append_right (by simp [hm]; omega), List.getElem?_drop]
   simp only [List.length_append, List.length_take, hm]
   congr 1
   omega
  rw [if_neg, flatB_at hm ha hb, hne a hai]
  intro hc
  rcases Nat.lt_or_gt_of_ne hai with h1 | h1
  ·have : (a + 1) * m ≤ i * m := Nat.mul_le_mul_right _ h1
   rw [Nat.succ_mul] at this
   omega
  have : (i + 1) * m ≤ a * m := Nat.mul_le_mul_right _ h1
  rw [Nat.succ_mul] at this
  omega
 rw [if_neg (by omega), Array.getElem?_eq_none (by rw [flatB_size hm]; omega), Array.getElem?_eq_none (by rw [flatB_size hg]; omega)]
theorem flatB_set (hm : ∀ i, (f i).length = m) (hg : ∀ i, (g i).length = m) {i j : Nat} {v : Value} (hi : i < n) (hj : j < m) (hne : ∀ k, k ≠ i → g k = f k) (h : g i = (f i).take j ++ [v] ++ (f i).drop (j + 1)) :
  (flatB n f).setIfInBounds (i * m + j) v = flatB n g := flatB_splice hm hg (vs := [v]) hi hj hne h
end
def entL (e : SEnt) : List Value := [.int .i64 (e.t : Int), .int .i64 e.c, .int .i64 e.v]
def msgL (m : SMsg) : List Value := [.int .i64 (m.what : Int), .int .i64 (m.client : Int), .int .i64 (m.round : Int), .int .i64 (m.key : Int), .int .i64 (m.e.t : Int), .int .i64 m.e.c, .int .i64 m.e.v]
def mailL (m : SMail) : List Value := .int .i64 (m.src : Int) :: .int .i64 (m.dst : Int) :: msgL m.m
def stmL (e : SEnt) : List Value := [.int .i64 (e.t : Int), .int .i64 e.c]
def clL (x : SCl) (cv : Value) : List Value := [.bool x.busy, .bool x.gone, .int .i64 x.began.proc, .int .i64 x.began.ty, .int .i64 x.began.key, .int .i64 x.began.kind, .int .i64 x.began.a, .int .i64 x.began.b, .int .i64 x.began.res, .bool x.telling, .int .i64 (x.round : Int), cv, .int .i64 (x.best.t : Int), .int .i64 x.best.c, .int .i64 x.best.v]
def boolsV (l : List Bool) : List Value := l.map Value.bool
structure StL where
 sb : Nat
 nb : Nat
 cb : Nat
 cw : Nat → Option Nat
 MA : Option Addr
 mc : Nat
 LA : Option Addr
 ln : Nat
 lc : Nat
 cut : Bool
 lv : List Value
 LD : Nat → Prop
 EA : Option Addr
 ec : Nat
 SA : Option Addr
 sc : Nat
def cntV (L : StL) (s : StS) (c : Nat) : Value := match L.cw c with
 | none => .slice none 0 0
 | some b => .slice (some ⟨b, 0, none⟩) s.n s.n
def cntE (L : StL) (s : StS) (c : Nat) : Ent := match L.cw c with
 | none => Ent.nil
 | some b => B b 4 (boolsV (s.cl c).counted).toArray
def clF (L : StL) (s : StS) (c : Nat) : List Value := clL (s.cl c) (cntV L s c)
theorem clF_len (L : StL) (s : StS) (c : Nat) : (clF L s c).length = 15 := rfl
def ndF (s : StS) (i : Nat) : List Value := entL (s.ent (i / 8) (i % 8))
theorem ndF_len (s : StS) (i : Nat) : (ndF s i).length = 3 := rfl
def stoC (L : StL) (s : StS) : Array Value := #[.int .i64 (s.n : Int), .int .i64 (s.k : Int), .int .i64 (s.ask : Int), .int .i64 (s.tell : Int), .bool s.back, .slice (some ⟨L.nb, 0, none⟩) s.n s.n, .slice (some ⟨L.cb, 0, none⟩) s.k s.k,
 .slice L.MA s.mails.length L.mc, .slice L.LA L.ln L.lc, .bool L.cut, .slice L.EA s.evs.length L.ec, .slice L.SA s.sts.length L.sc]
def RowsE (vals : List Value) (D : Nat → Prop) : Ent := ⟨D, fun w => (∀ k, D k → k < w.heap.size) ∧ ∀ v ∈ vals, ∃ l, Bools w D v l ∧ l.length ≤ 1000⟩
theorem RowsE.ok {w : World} {vals : List Value} {D : Nat → Prop} (hD : ∀ k, D k → k < w.heap.size) (h : ∀ v ∈ vals, ∃ l, Bools w D v l ∧ l.length ≤ 1000) : (RowsE vals D).ok w :=
 Ent.mk_ok ⟨hD, h⟩ (fun k hk => hD k hk) (fun S w1 w2 hc hS h1 => ⟨fun k hk => Nat.lt_of_lt_of_le (h1.1 k hk) hc.size, fun v hv => by
  obtain ⟨l, hl, hb⟩ := h1.2 v hv
  exact ⟨l, Rd.chg hl hc (fun k hk => hS k hk), hb⟩⟩)
def spt (L : StL) (s : StS) : List Ent :=
 [B L.sb 93 (stoC L s), B L.nb 98 (flatB (s.n * 8) (ndF s)), B L.cb 238 (flatB s.k (clF L s)), Many s.k (cntE L s), Row 0 194 9 L.MA s.mails.length L.mc (s.mails.flatMap mailL),
  Row 0 113 1 L.LA L.ln L.lc L.lv, RowsE L.lv L.LD, Row 0 70 7 L.EA s.evs.length L.ec (s.evs.flatMap evL), Row 0 95 2 L.SA s.sts.length L.sc (s.sts.flatMap stmL)]
structure SOk (L : StL) (s : StS) (M : Nat) : Prop where
 n1 : 1 ≤ s.n ∧ s.n ≤ 7
 k1 : 1 ≤ s.k ∧ s.k ≤ 8
 ask : 1 ≤ s.ask ∧ s.ask ≤ s.n
 tell : 1 ≤ s.tell ∧ s.tell ≤ s.n
 mlen : s.mails.length ≤ 500
 elen : s.evs.length ≤ 120
 slen : s.sts.length = s.evs.length
 free : s.evs.length + busyN s s.k ≤ 120
 mok : ∀ m ∈ s.mails, m.m.client < s.k ∧ m.m.key < 8 ∧ m.m.round ≤ M ∧ m.m.e.t ≤ M ∧ m.m.what ≤ 3 ∧ ((m.dst < s.n ∧ m.src = s.n + m.m.client) ∨ (m.src < s.n ∧ m.dst = s.n + m.m.client))
 cok : ∀ c, c < s.k → (s.cl c).round ≤ M ∧ (s.cl c).best.t ≤ M ∧ ((s.cl c).busy = true → L.cw c ≠ none ∧ (s.cl c).counted.length = s.n ∧ 0 ≤ (s.cl c).began.key ∧ (s.cl c).began.key < 8)
 clen : ∀ c b, c < s.k → L.cw c = some b → (s.cl c).counted.length = s.n
 eok : ∀ j key, j < s.n → key < 8 → (s.ent j key).t ≤ M
theorem infoMail : (prog.info? 194).map (fun i => (i.zero, i.size, i.bytes)) = some (some (.agg zI9), 9, 72) := by kernel_rfl
theorem zeroMail (w : World) : (zeroValue 194).run prog w = .ok (.agg zI9) w := by kernel_rfl
theorem delete_cells (cur : Array Value) (xs news zs : List Value) (n k size : Nat) (htake : cur.toList.take (n * size) = xs) (hlen : xs.length = n * size) (hk : k < n) (hnews : news = xs.drop ((k + 1) * size)) (hz : zs.length = size) (hcs : n * size ≤ cur.size) :
  (splice (splice cur (0 + k * size) news) ((k + (n - (k + 1))) * size) zs).toList.take ((n - 1) * size) = xs.take (k * size) ++ xs.drop ((k + 1) * size) := by
 have e1 : (k + (n - (k + 1))) = n - 1 := by omega
 have hnl : news.length = (n - (k + 1)) * size := by rw [hnews, List.length_drop, hlen, Nat.sub_mul]
 have e2 : k * size + (n - (k + 1)) * size = (n - 1) * size := by rw [← Nat.add_mul]; congr 1
 have e3 : (n - 1) * size + size = n * size := by
  have : n = (n - 1) + 1 := by omega
  conv => rhs; rw [this, Nat.add_mul, Nat.one_mul]
 have e4 : k * size ≤ n * size := Nat.mul_le_mul_right _ (by omega)
 rw [e1, splice_list _ _ _ (by rw [splice_size, hz]; omega), List.append_assoc, List.take_append_of_le_length (by rw [List.length_take, Array.length_toList, splice_size]; omega), List.take_take, Nat.min_self,
  splice_list _ _ _ (by rw [hnl]; omega), Nat.zero_add, List.take_append_of_le_length (by rw [List.length_append, List.length_take, Array.length_toList, hnl]; omega), List.take_of_length_le (by rw [List.length_append, List.length_take, Array.length_toList, hnl]; omega), hnews, ← htake, List.take_take, Nat.min_eq_left e4]
set_option maxRecDepth 100000 in
theorem sdelete_any (base n k : Nat) (v : Value) (xs : List Value) (w : World) (h : w.ownsRow base 194 9 v n xs) (h1 : ∀ u ∈ xs, u.oneCell' = true) (hk : k < n) (hn : n ≤ 1000) :
  Cq 118 #[v, .int .i64 k, .int .i64 ((k : Int) + 1)] w fun e w' => ∃ v', e = .returned v' ∧
   w'.ownsRow base 194 9 v' (n - 1) (cutAt 9 k xs) ∧ Chg (fun k => some k = v.ownBlock) w w' ∧ v'.ownBlock = v.ownBlock := by
 obtain ⟨i0, hi0, hz0, hz1, hz2⟩ := info_parts infoMail
 rcases h.2 with ⟨rfl, rfl⟩ | ⟨g, cap, cur, rfl, hbg, hg, hnc, hcm, hcs, htake⟩
 ·omega
 have hlen := h.1
 simp only [maxLen] at hcm
 have hB : Blk w g 194 cur := hg
 obtain ⟨news, hnews⟩ : ∃ news, news = xs.drop ((k + 1) * 9) := ⟨_, rfl⟩
 have hnl : news.length = (n - (k + 1)) * 9 := by rw [hnews, List.length_drop, hlen]; omega
 have hget : ∀ j u, xs[j]? = some u → w.cell? ⟨g, j, none⟩ = some u := fun j u hj => by
  rw [hB.cell, ← Array.getElem?_toList]
  rw [← htake, List.getElem?_take] at hj
  split at hj
  ·exact hj
  cases hj
 obtain ⟨A, hA, hsrc⟩ : ∃ A : Addr, (if cap = k + 1 then some (⟨g, 0, none⟩ : Addr) else some ⟨g, (k + 1) * 9, none⟩) = some A ∧ Hid (∀ t u, news[t]? = some u → w.drew.cell? (A.add t) = some u) := by
  by_cases hc : cap = k + 1
  ·refine ⟨_, by rw [if_pos hc], fun t u hu => ?_⟩
   have h0 : news.length = 0 := by rw [hnl]; omega
   rw [List.length_eq_zero_iff.1 h0] at hu
   simp at hu
  refine ⟨_, by rw [if_neg hc], fun t u hu => ?_⟩
  rw [Addr.add_lit]
  rw [hnews, List.getElem?_drop] at hu
  exact hget _ u hu
 have s1 : Hid (news.length = (n - (k + 1)) * 9) := hnl
 have s2 : Hid (∀ u ∈ news, u.oneCell' = true) := fun u hu => h1 u (List.mem_of_mem_drop (hnews ▸ hu))
 have s3 : Hid (∀ t, t < news.length → (w.drew.cell? ⟨g, 0 + k * 9 + t, none⟩).isSome = true ∧ w.drew.frozen? ⟨g, 0 + k * 9 + t, none⟩ = false) := by
  intro t ht
  refine ⟨?_, hB.frozen _⟩
  show (w.cell? _).isSome = true
  rw [hB.cell, Array.getElem?_eq_getElem (by rw [hcs]; omega)]
  rfl
 obtain ⟨W1, hW1⟩ : ∃ W1, W1 = w.drew.setCells g (0 + k * 9) news := ⟨_, rfl⟩
 have hB1 : Blk W1 g 194 (splice cur (0 + k * 9) news) := by rw [hW1]; exact hB.drew.setCells _ _
 have hcl : ∀ ty, (Builtin.clear_ #[86] ty #[.slice (some ⟨g, (k + (n - (k + 1))) * 9, none⟩) (n - (k + (n - (k + 1)))) (cap - (k + (n - (k + 1))))]).run prog W1 = .ok (.tuple #[]) (W1.setCells g ((k + (n - (k + 1))) * 9) (Builtin.zeroCells zI9 (n - (k + (n - (k + 1))))).toList) :=
  fun ty => run_clear_row W1 _ _ ty _ yy86 zeroMail (by simp [Value.cells, Value.oneCell']) g _ _ _ (by omega) (fun j hj => by
   rw [hB1.cell, Array.getElem?_eq_getElem (by rw [splice_size, hcs]; simp [Value.cells] at hj; omega)]; rfl) (fun j _ => hB1.frozen _)
 have HW := Lib.hid hW1
 have HB1 := Lib.hid hB1
 have hkc : k ≤ cap := by omega
 have hkc1 : k + 1 ≤ cap := by omega
 have e1 : IntKind.i64.wrap ((k : Int) + 1) = (k : Int) + 1 := by rw [IntKind.wrap_i64]; omega
 have hne : ((k : Int) == (k : Int) + 1) = false := by rw [beq_eq_false_iff_ne]; omega
 have HX := Lib.hid htake
 have HN := Lib.hid hnews
 have HL := Lib.hid hlen
 have HCS := Lib.hid hcs
 clear hget hB hB1 hW1 hnl hnews h h1 hg htake hlen hcs
 go_enter func118, Tryz.ntmps118
 have hp0 : (0 : Int) ≤ (k : Int) + 1 := by omega
 have hp1 : (k : Int) + 1 ≤ (n : Int) := by omega
 have hp2 : ((k : Int) + 1).toNat = k + 1 := by omega
 have hp3 : (k : Int) ≤ (cap : Int) := by omega
 go_wp2_with fail
 go_region_law (refine step_append_room rfl (.tmp 22) (.tmp 25) 86 rfl 194 i0 9 yy86 hi0 hz1 g 0 k cap (by simp [Act.eval, Act.put]) A (n - (k + 1)) (cap - (k + 1)) news (by simp [Act.eval, Act.put]) s1.out hsrc.out s2.out (by omega) s3.out ?_; rw [← HW.out])
 go_wp2
 go_ret
 refine ⟨.slice (some ⟨g, 0, none⟩) (k + (n - (k + 1))) cap, rfl, ⟨?_, .inr ⟨g, cap, splice (splice cur (0 + k * 9) news) ((k + (n - (k + 1))) * 9) (Builtin.zeroCells zI9 (n - (k + (n - (k + 1))))).toList, by rw [show k + (n - (k + 1)) = n - 1 by omega], hbg, HB1.out.setCells _ _, by omega, by simp only [maxLen]; omega, ?_, ?_⟩⟩, ?_, rfl⟩
 ·simp only [cutAt, List.length_append, List.length_take, List.length_drop, HL.out]; omega
 ·rw [splice_size, splice_size]; exact HCS.out
 ·exact delete_cells cur xs news _ n k 9 HX.out HL.out (by omega) HN.out (by simp [Builtin.zeroCells]; omega) (by rw [HCS.out]; omega)
 have hS : (fun k => some k = (Value.slice (some ⟨g, 0, none⟩) n cap).ownBlock) g ∨ w.heap.size ≤ g := .inl rfl
 refine Chg.setCells hS _ _ ?_
 rw [HW.out]
 exact Chg.setCells hS _ _ (Chg.refl _ w).drew
def DLs (l : List Ent) : Nat → Prop := fun k => ∃ e ∈ l, e.D k
section
variable {S : Nat → Prop} {w0 w w' : World} {X l l' : List Ent}
theorem Inv.fromB (h : Inv S w0 w (X ++ l)) : Inv (DLs l) w w l :=
 ⟨Chg.refl _ w, fun e he => h.ok e (by simp [he]), fun e he k hk => .inl ⟨e, he, hk⟩, (List.pairwise_append.1 h.apart).2.1⟩
theorem Inv.callB (h : Inv S w0 w (X ++ l)) (h' : Inv (DLs l) w w' l') : Inv S w0 w' (X ++ l') := by
 obtain ⟨p1, p2, p3⟩ := List.pairwise_append.1 h.apart
 refine ⟨h.chg.trans' h'.chg fun k hk1 hk2 => ?_, fun x hx => ?_, fun x hx k hk => ?_, List.pairwise_append.2 ⟨p1, h'.apart, fun a ha b hb k h1 h2 => ?_⟩⟩
 ·obtain ⟨e, he, hk2⟩ := hk2
  rcases h.own e (by simp [he]) k hk2 with h1 | h1
  ·exact h1
  omega
 ·rcases List.mem_append.1 hx with hx | hx
  ·exact (h.ok x (by simp [hx])).chg h'.chg (fun k hk hk2 => by obtain ⟨e, he, hk2⟩ := hk2; exact p3 x hx e he k hk hk2)
  exact h'.ok x hx
 ·rcases List.mem_append.1 hx with hx | hx
  ·exact h.own x (by simp [hx]) k hk
  rcases h'.own x hx k hk with ⟨e, he, h1⟩ | h1
  ·exact h.own e (by simp [he]) k h1
  exact .inr (Nat.le_trans h.chg.size h1)
 rcases h'.own b hb k h2 with ⟨e, he, h3⟩ | h3
 ·exact p3 a ha e he k h1 h3
 have := (h.ok a (by simp [ha])).2.1 k h1
 omega
end
theorem mailL_len (m : SMail) : (mailL m).length = 9 := rfl
theorem mails_one (ms : List SMail) : ∀ u ∈ ms.flatMap mailL, u.oneCell' = true := fun u hu => by
 obtain ⟨m, _, h⟩ := List.mem_flatMap.1 hu
 simp only [mailL, msgL, List.mem_cons, List.not_mem_nil, or_false] at h
 rcases h with h | h | h | h | h | h | h | h | h <;> rw [h] <;> rfl
theorem mails_cut (ms : List SMail) (k : Nat) : cutAt 9 k (ms.flatMap mailL) = (ms.eraseIdx k).flatMap mailL := flat_cut mailL_len ms k
theorem mails_push (ms : List SMail) (m : SMail) : (ms ++ [m]).flatMap mailL = ms.flatMap mailL ++ mailL m := by simp
section
variable {w : World} {D : Nat → Prop}
theorem mail_cells {A : Option Addr} {c i : Nat} {ms : List SMail} {m : SMail} (h : Rd w D 9 (.slice A ms.length c) ms.length (ms.flatMap mailL)) (hm : ms[i]? = some m) : ∃ b o, A = some ⟨b, o, none⟩ ∧ D b ∧ ∀ j u, (mailL m)[j]? = some u → w.cell? ⟨b, o + i * 9 + j, none⟩ = some u := by
 have hi := (List.getElem?_eq_some_iff.1 hm).1
 obtain ⟨A', c', hv, h1, h2, h3, h4⟩ := h
 injection hv with ha _ _
 subst ha
 obtain ⟨b, o, rfl, hb, hc⟩ := h4 (by omega)
 refine ⟨b, o, rfl, hb, fun j u hj => ?_⟩
 have hj9 : j < 9 := by have := (List.getElem?_eq_some_iff.1 hj).1; rwa [mailL_len] at this
 rw [Nat.add_assoc]
 exact hc (i * 9 + j) u (by rw [flat_get mailL_len ms i j m hm hj9]; exact hj)
end
theorem nhas_any (b : Nat) (i : Int) (A : Option Addr) (n c : Nat) (w0 : World) (hc : w0.cell? ⟨b, 7, none⟩ = some (.slice A n c)) :
  Cq 122 #[.pointer (some ⟨b, 7, none⟩), .int .i64 i] w0 fun en w' => en = .returned (.bool (decide (0 ≤ i ∧ i < (n : Int)))) ∧ Pure w0 w' := by
 have hI := Inv.start (fun _ => False) w0
 refine Vn func122 rfl ?_
 refine Wq (V8 rfl (Wn ?_))
 by_cases h0 : i < 0
 ·refine Wq (V0 rfl (U5 rfl (V6 rfl (V4 rfl (V4 rfl (V4 rfl (V4 rfl (V4 rfl (V4 rfl (V4 rfl (Ve rfl (V8 rfl ?_))))))))))))
  refine Wn ?_
  refine WR ?_
  refine r1_ 4 rfl ⟨?_, hI.pu⟩
  rw [decide_eq_false (by omega)]; rfl
 by_cases h1 : i < (n : Int)
 ·refine Wq (V0 rfl (To rfl (V6 rfl (V0 rfl (V9 rfl (Vb rfl (Tj rfl (V5 (.slice _ _ _) rfl (hI.oldp hc) (Vs rfl yy86 rfl (Vt rfl (Vk rfl (V8 rfl ?_))))))))))))
  refine Wn ?_
  refine WR ?_
  refine r1_ 4 rfl ⟨?_, hI.pu⟩
  rw [decide_eq_true (by omega)]; rfl
 refine Wq (V0 rfl (To rfl (V6 rfl (V0 rfl (V9 rfl (Vb rfl (Tj rfl (V5 (.slice _ _ _) rfl (hI.oldp hc) (Vs rfl yy86 rfl (Vr rfl (Vk rfl (V8 rfl ?_))))))))))))
 refine Wn ?_
 refine WR ?_
 refine r1_ 4 rfl ⟨?_, hI.pu⟩
 rw [decide_eq_false (by omega)]; rfl
def zero9 : Array Value := zI9
theorem at_none (b : Nat) (i : Int) (A : Option Addr) (n c : Nat) (w0 : World) (hc : w0.cell? ⟨b, 7, none⟩ = some (.slice A n c)) (hi : ¬ (0 ≤ i ∧ i < (n : Int))) :
  Cq 116 #[.pointer (some ⟨b, 7, none⟩), .int .i64 i] w0 fun en w' => en = .returned (.tuple #[.agg zero9, .bool false]) ∧ Pure w0 w' := by
 have hI := Inv.start (fun _ => False) w0
 refine Vn func116 rfl ?_
 refine Wq (T1 (.agg zero9) zero9 hI rfl ?_)
 rintro b4 w - - hI
 refine V8 rfl (Wn (Ws (Wq (V9 rfl (V0 rfl (Va [.pointer _, .int .i64 _] rfl func122 rfl ?_))))))
 refine (nhas_any b i A n c _ (hI.oldp hc)).mono ?_
 rintro e w1 ⟨rfl, hp⟩
 rw [decide_eq_false hi]
 refine rV ?_
 have hI := hI.pure hp
 refine Ti rfl (Wn (Wc true rfl (Ws (Wr ?_))))
 refine Wv rfl (show Runs _ _ _ _ (.agg zero9) from rBuild (qs := []) (vs := [.int .i64 0, .int .i64 0, .int .i64 0, .int .i64 0, .int .i64 0, .int .i64 0, .int .i64 0, .int .i64 0, .int .i64 0]) [.int .i64 0, .int .i64 0, .int .i64 0, .int .i64 0, .int .i64 0, .int .i64 0, .int .i64 0, .int .i64 0, .int .i64 0] [] rfl rfl rfl (fun _ => by kernel_rfl)) ?_
 refine T7 9 zero9 (.agg zero9) hI rfl ?_
 intro w hI
 refine V8 rfl (Wn ?_)
 refine WR ?_
 exact retC2 (n := 9) (.inr rfl) rfl rfl (by kernel_rfl) (by kernel_rfl) rfl hI.g0 ⟨rfl, hI.pu⟩
theorem at_some (b j : Nat) (A : Option Addr) (c : Nat) (ms : List SMail) (m : SMail) (D : Nat → Prop) (w0 : World) (hc : w0.cell? ⟨b, 7, none⟩ = some (.slice A ms.length c)) (hR : Rd w0 D 9 (.slice A ms.length c) ms.length (ms.flatMap mailL)) (hm : ms[j]? = some m) :
  Cq 116 #[.pointer (some ⟨b, 7, none⟩), .int .i64 (j : Int)] w0 fun en w' => en = .returned (.tuple #[.agg (mailL m).toArray, .bool true]) ∧ Pure w0 w' := by
 have hI := Inv.start (fun _ => False) w0
 have hj := (List.getElem?_eq_some_iff.1 hm).1
 obtain ⟨g, o, rfl, _, hcell⟩ := mail_cells hR hm
 refine Vn func116 rfl ?_
 refine Wq (T1 (.agg zero9) zero9 hI rfl ?_)
 rintro b4 w - - hI
 refine V8 rfl (Wn (Ws (Wq (V9 rfl (V0 rfl (Va [.pointer _, .int .i64 _] rfl func122 rfl ?_))))))
 refine (nhas_any b (j : Int) _ _ c _ (hI.oldp hc)).mono ?_
 rintro e w1 ⟨rfl, hp⟩
 rw [decide_eq_true (by omega)]
 refine rV ?_
 have hI := hI.pure hp
 refine T9 rfl (Wn (Wc false rfl (Wk (Wq (V9 rfl (Vb rfl (Tj rfl (V5 (.slice _ _ _) rfl (hI.oldp hc) (V0 rfl (Tt 9 rfl yy86 rfl (Ug 9 (mailL m) rfl (fun k u hk => hI.oldp (hcell k u hk)) (T7 9 ((mailL m).toArray) (.agg (mailL m).toArray) hI rfl ?_))))))))))))
 intro w hI
 refine V8 rfl (Wn ?_)
 refine WR ?_
 exact retC2 (n := 9) (.inr rfl) rfl rfl (by kernel_rfl) (by kernel_rfl) rfl hI.g0 ⟨rfl, hI.pu⟩
theorem can_any (b f t : Nat) (cut : Bool) (A : Option Addr) (n c : Nat) (vals : List Value) (D D2 : Nat → Prop) (w0 : World) (h1 : w0.cell? ⟨b, 9, none⟩ = some (.bool cut)) (h2 : w0.cell? ⟨b, 8, none⟩ = some (.slice A n c)) (h3 : Rd w0 D2 1 (.slice A n c) n vals) (h4 : ∀ v ∈ vals, ∃ l, Bools w0 D v l) (hf : f < 1000) (ht : t < 1000) :
  Cq 117 #[.pointer (some ⟨b, 7, none⟩), .int .i64 (f : Int), .int .i64 (t : Int)] w0 fun en w' => (∃ r, en = .returned (.bool r) ∧ (cut = false → r = true)) ∧ Pure w0 w' := by
 have hI := Inv.start (fun _ => False) w0
 refine Vn func117 rfl ?_
 refine Wq (V8 rfl (Wn ?_))
 cases cut with
 | false =>
  refine Ws (Wq (V9 rfl (Vb rfl (Tf 2 rfl (V5 (.bool _) rfl (hI.oldp h1) (Ti rfl (Wn (Wc true rfl (Wq (V8 rfl (Wn ?_)))))))))))
  exact WR (r1_ 6 rfl ⟨⟨_, rfl, fun _ => rfl⟩, hI.pu⟩)
 | true =>
  refine Ws (Wq (V9 rfl (Vb rfl (Tf 2 rfl (V5 (.bool _) rfl (hI.oldp h1) (T9 rfl (Wn (Wc false rfl (Wk ?_)))))))))
  by_cases hfn : f < n
  rotate_left
  ·refine Wq (V0 rfl (To rfl (V6 rfl (V0 rfl (V9 rfl (Vb rfl (Tf 1 rfl (V5 (.slice _ _ _) rfl (hI.oldp h2) (Vs rfl yy88 rfl (Vr rfl (Vk rfl (V6 rfl ?_))))))))))))
   refine V4 rfl (V4 rfl (Ve rfl (V6 rfl (V4 rfl (V4 rfl (V4 rfl (V4 rfl (V4 rfl (V4 rfl (V4 rfl (V4 rfl (V4 rfl (V4 rfl ?_)))))))))))))
   refine Ve rfl (V6 rfl (V4 rfl (V4 rfl (V4 rfl (V4 rfl (V4 rfl (V4 rfl (V4 rfl (V4 rfl (V4 rfl (V4 rfl (Ve rfl (V8 rfl ?_)))))))))))))
   refine Wn ?_
   exact WR (r1_ 6 rfl ⟨⟨_, rfl, fun h => (by cases h)⟩, hI.pu⟩)
  obtain ⟨A', c', hv, q1, q2, q3, q4⟩ := h3
  injection hv with ha _ _
  subst ha
  obtain ⟨g, o, rfl, _, hc⟩ := q4 (by omega)
  obtain ⟨v, hvv⟩ : ∃ v, vals[f]? = some v := ⟨_, List.getElem?_eq_getElem (by omega)⟩
  have hcv := hc f v hvv
  obtain ⟨l, hl⟩ := h4 v (List.mem_of_getElem? hvv)
  obtain ⟨RA, rc, rfl, r1, r2⟩ := Rd.form hl
  by_cases htl : t < l.length
  rotate_left
  ·refine Wq (V0 rfl (To rfl (V6 rfl (V0 rfl (V9 rfl (Vb rfl (Tf 1 rfl (V5 (.slice _ _ _) rfl (hI.oldp h2) (Vs rfl yy88 rfl (Vt rfl (Vk rfl (V6 rfl ?_))))))))))))
   refine V0 rfl (To rfl (Vk rfl (V6 rfl (V0 rfl (V9 rfl (Vb rfl (Tf 1 rfl (V5 (.slice _ _ _) rfl (hI.oldp h2) (V0 rfl (U8 rfl yy88 rfl (V5 (.slice _ _ _) rfl (hI.oldp hcv) (Vs rfl yy113 rfl (Vr rfl ?_)))))))))))))
   refine Vk rfl (V6 rfl (V4 rfl (V4 rfl (V4 rfl (V4 rfl (V4 rfl (V4 rfl (V4 rfl (V4 rfl (V4 rfl (V4 rfl (Ve rfl (V8 rfl ?_)))))))))))))
   refine Wn ?_
   exact WR (r1_ 6 rfl ⟨⟨_, rfl, fun h => (by cases h)⟩, hI.pu⟩)
  obtain ⟨A2, c2, hv2, p1, p2, p3, p4⟩ := hl
  injection hv2 with ha2 _ _
  subst ha2
  obtain ⟨g2, o2, rfl, _, hc2⟩ := p4 (by omega)
  have hcb := hc2 t (.bool l[t]) (by rw [List.getElem?_map, List.getElem?_eq_getElem htl]; rfl)
  refine Wq (V0 rfl (To rfl (V6 rfl (V0 rfl (V9 rfl (Vb rfl (Tf 1 rfl (V5 (.slice _ _ _) rfl (hI.oldp h2) (Vs rfl yy88 rfl (Vt rfl (Vk rfl (V6 rfl ?_))))))))))))
  refine V0 rfl (To rfl (Vk rfl (V6 rfl (V0 rfl (V9 rfl (Vb rfl (Tf 1 rfl (V5 (.slice _ _ _) rfl (hI.oldp h2) (V0 rfl (U8 rfl yy88 rfl (V5 (.slice _ _ _) rfl (hI.oldp hcv) (Vs rfl yy113 rfl (Vt rfl ?_)))))))))))))
  refine Vk rfl (V6 rfl (V9 rfl (Vb rfl (Tf 1 rfl (V5 (.slice _ _ _) rfl (hI.oldp h2) (V0 rfl (U8 rfl yy88 rfl (V5 (.slice _ _ _) rfl (hI.oldp hcv) (V0 rfl (U8 rfl yy113 rfl (V5 (.bool _) rfl (hI.oldp hcb) (Vk rfl (V8 rfl ?_)))))))))))))
  refine Wn ?_
  exact WR (r1_ 6 rfl ⟨⟨_, rfl, fun h => (by cases h)⟩, hI.pu⟩)
theorem send_any (L : StL) (s : StS) (m : SMail) (S : Nat → Prop) (w0 : World) (hI : Inv S w0 w0 (spt L s)) :
  Cq 120 #[.pointer (some ⟨L.sb, 7, none⟩), .agg (mailL m).toArray] w0 fun en w' => (∃ v, en = .returned v) ∧ ∃ MA mc, Inv S w0 w' (spt { L with MA := MA, mc := mc } { s with mails := pushM s.mails m }) := by
 unfold spt at hI
 refine Vn func120 rfl ?_
 refine Wq (Tb (.agg (mailL m).toArray) ((mailL m).toArray) hI rfl ?_)
 rintro b3 w - - hI
 refine Vj rfl (Wn ?_)
 by_cases h500 : s.mails.length < 500
 rotate_left
 ·refine Ws (Wq (V9 rfl (Vb rfl (Tj rfl (V5 (.slice _ _ _) rfl (hI.c1 rfl) (Vs rfl yy86 rfl (To rfl (Wn (Wc true rfl (Wq (T6 rfl yy45 rfl ?_)))))))))))
  refine Vp rfl (Wn ?_)
  refine WR ?_
  refine r1_ 4 rfl ⟨⟨_, rfl⟩, L.MA, L.mc, ?_⟩
  have : pushM s.mails m = s.mails := if_neg h500
  rw [this]
  exact hI.d0
 refine Ws (Wq (V9 rfl (Vb rfl (Tj rfl (V5 (.slice _ _ _) rfl (hI.c1 rfl) (Vs rfl yy86 rfl (U5 rfl (Wn (Wc false rfl (Wk ?_))))))))))
 have hI := hI.pull 5 rfl
 refine Ws (Wd (by kernel_rfl) ?_)
 refine Wi (T := [10]) hI.d0.drew ?_
 intro Sx hY hZ
 have hI := hI.drew
 refine Vl 0 rfl (Vl 1 rfl (Vm 2 rfl (U9 3 rfl (Vd 4 (.slice _ _ _) rfl (fun W hW => (hY W hW).c1 rfl) ?_))))
 refine Uh 5 9 (mailL m) rfl (fun W hW => have hI := hY W hW; fun k u hk => hI.cell 0 rfl (by rw [Nat.zero_add, List.getElem?_toArray]; exact hk)) ?_
 refine Vu 6 rfl ?_
 refine T3 [(0, .agg (mailL m).toArray)] (mailL m) [.int .i64 0, .int .i64 0, .int .i64 0, .int .i64 0, .int .i64 0, .int .i64 0, .int .i64 0, .int .i64 0, .int .i64 0] [0] hI rfl yy86 (fun _ => by kernel_rfl) ?_
 rintro b18 w - - hI
 refine Wn ⟨hZ _ hI.d0.d0, ?_⟩
 refine Vu 7 rfl ?_
 refine Tx 72 (.agg zI9) hI rfl yy86 rfl (by rfl) hI.lit0 (by rfl) (Nat.zero_le _) ?_
 rintro A19 c19 w hA19 hc19 hI
 have hI := hI.d0
 refine Wn ⟨hZ _ hI.d0, ?_⟩
 refine Vm 8 rfl (U9 9 rfl ?_)
 refine WT_A (by kernel_rfl) ?_
 clear hZ hY
 refine T2 10 rfl ?_
 refine WL_st2 (u := .slice A19 (s.mails.length + 1) c19) (j := 7) hI rfl rfl rfl rfl rfl rfl (by kernel_rfl) rfl rfl rfl ?_
 intro w hI
 refine Wn ?_
 refine WA_end (by kernel_rfl) ?_
 refine Wq (Vj rfl (Wn ?_))
 refine WR ?_
 refine r1_ 4 rfl ⟨⟨_, rfl⟩, A19, c19, ?_⟩
 have : pushM s.mails m = s.mails ++ [m] := if_pos h500
 rw [this]
 have e1 : (s.mails ++ [m]).length = s.mails.length + 1 := by simp
 rw [← mails_push, ← e1] at hI
 exact (hI.d1).back 4
theorem mrow {L : StL} {s : StS} {S : Nat → Prop} {w0 w : World} {X : List Ent} (hI : Inv S w0 w (X ++ spt L s)) : Rd w (fun _ => True) 9 (.slice L.MA s.mails.length L.mc) s.mails.length (s.mails.flatMap mailL) :=
 Rd.of_own (hI.fromB.ok _ (List.mem_of_getElem? (i := 4) rfl)).1 (fun _ _ _ => trivial)
theorem delM_any (L : StL) (s : StS) (j : Nat) (m : SMail) (hm : s.mails[j]? = some m) (hml : s.mails.length ≤ 500) (S : Nat → Prop) (w0 : World) (hI : Inv S w0 w0 (spt L s)) :
  Cq 118 #[.slice L.MA s.mails.length L.mc, .int .i64 (j : Int), .int .i64 ((j : Int) + 1)] w0 fun en w' => ∃ A c, en = .returned (.slice A (s.mails.eraseIdx j).length c) ∧ Inv S w0 w' ((spt L s).set 4 (Row 0 194 9 A (s.mails.eraseIdx j).length c ((s.mails.eraseIdx j).flatMap mailL))) := by
 have hj := (List.getElem?_eq_some_iff.1 hm).1
 have hown : w0.ownsRow 0 194 9 (.slice L.MA s.mails.length L.mc) s.mails.length (s.mails.flatMap mailL) := (hI.ok _ (List.mem_of_getElem? (i := 4) rfl)).1
 refine (sdelete_any 0 s.mails.length j _ _ w0 hown (mails_one _) hj (by omega)).mono ?_
 rintro e w' ⟨v', rfl, ho, hc, hb⟩
 have hlen : (s.mails.eraseIdx j).length = s.mails.length - 1 := by rw [List.length_eraseIdx, if_pos hj]
 rw [mails_cut, ← hlen] at ho
 obtain ⟨A, c, rfl⟩ : ∃ A c, v' = .slice A (s.mails.eraseIdx j).length c := by
  rcases ho.2 with ⟨hv, h0⟩ | ⟨g, cap, cur, hv, _⟩
  ·exact ⟨none, 0, by rw [hv, h0]⟩
  exact ⟨_, _, hv⟩
 rw [ownBlock_slice, ownBlock_slice] at hb
 refine ⟨A, c, rfl, hI.upd 4 rfl (hc.mono fun k _ hk => ?_) (Row.ok ho) fun k hk => .inl ?_⟩
 ·show L.MA.map (·.block) = some k
  rw [← ownBlock_slice L.MA s.mails.length L.mc]; exact hk.symm
 show L.MA.map (·.block) = some k
 rw [← hb]; exact hk
theorem ndrop_any (L : StL) (s : StS) (i : Int) (hml : s.mails.length ≤ 500) (S : Nat → Prop) (w0 : World) (hI : Inv S w0 w0 (spt L s)) :
  Cq 80 #[.pointer (some ⟨L.sb, 7, none⟩), .int .i64 i] w0 fun en w' => (∃ v, en = .returned v) ∧ ∃ MA mc ms, (ms = s.mails ∨ ∃ j, j < s.mails.length ∧ ms = s.mails.eraseIdx j) ∧ Inv S w0 w' (spt { L with MA := MA, mc := mc } { s with mails := ms }) := by
 refine Vn func80 rfl ?_
 refine Wq (Vj rfl (Wn ?_))
 have hc : ∀ w, Inv S w0 w (spt L s) → w.cell? ⟨L.sb, 7, none⟩ = some (.slice L.MA s.mails.length L.mc) := fun w hI => hI.cell 0 rfl rfl
 by_cases hi : 0 ≤ i ∧ i < (s.mails.length : Int)
 rotate_left
 ·refine Ws (Wq (V9 rfl (V0 rfl (Va [.pointer _, .int .i64 _] rfl func122 rfl ?_))))
  refine (nhas_any L.sb i _ _ _ _ (hc _ hI)).mono ?_
  rintro e w1 ⟨rfl, hp⟩
  rw [decide_eq_false hi]
  refine rV ?_
  have hI := hI.pure hp
  refine Ti rfl (Wn (Wc true rfl (Wq (T6 rfl yy45 rfl (Vp rfl (Wn ?_))))))
  exact WR (r1_ 4 rfl ⟨⟨_, rfl⟩, L.MA, L.mc, _, .inl rfl, hI⟩)
 obtain ⟨j, rfl⟩ : ∃ j : Nat, i = (j : Int) := ⟨i.toNat, by omega⟩
 have hj : j < s.mails.length := by omega
 refine Ws (Wq (V9 rfl (V0 rfl (Va [.pointer _, .int .i64 _] rfl func122 rfl ?_))))
 refine (nhas_any L.sb (j : Int) _ _ _ _ (hc _ hI)).mono ?_
 rintro e w1 ⟨rfl, hp⟩
 rw [decide_eq_true hi]
 refine rV ?_
 have hI := hI.pure hp
 refine T9 rfl (Wn (Wc false rfl (Wk (Wq (V9 rfl (V9 rfl (Vb rfl (Tj rfl (V5 (.slice _ _ _) rfl (hc _ hI) (V0 rfl (V0 rfl (Vv rfl ?_))))))))))))
 refine Va [.slice _ _ _, .int .i64 _, .int .i64 _] rfl func118 rfl ?_
 refine (delM_any L s j _ (List.getElem?_eq_getElem hj) hml (DLs (spt L s)) _ (hI.fromB (X := []))).mono ?_
 rintro e w1 ⟨A, c, rfl, hJ⟩
 refine rV ?_
 have hI := hI.callB (X := []) hJ
 refine Vb rfl (Tj rfl ?_)
 refine WL_st0 (u := .slice A (s.mails.eraseIdx j).length c) (j := 7) hI rfl rfl rfl rfl rfl rfl (by kernel_rfl) rfl rfl rfl ?_
 intro w hI
 refine Wn (Wq (Vj rfl (Wn ?_)))
 exact WR (r1_ 4 rfl ⟨⟨_, rfl⟩, A, c, _, .inr ⟨j, hj, rfl⟩, hI⟩)
theorem ndouble_any (L : StL) (s : StS) (i : Int) (S : Nat → Prop) (w0 : World) (hI : Inv S w0 w0 (spt L s)) :
  Cq 81 #[.pointer (some ⟨L.sb, 7, none⟩), .int .i64 i] w0 fun en w' => (∃ v, en = .returned v) ∧ ∃ MA mc ms, (ms = s.mails ∨ ∃ m, m ∈ s.mails ∧ ms = pushM s.mails m) ∧ Inv S w0 w' (spt { L with MA := MA, mc := mc } { s with mails := ms }) := by
 refine Vn func81 rfl ?_
 refine Wq (Vj rfl (Wn ?_))
 have hc : ∀ w, Inv S w0 w (spt L s) → w.cell? ⟨L.sb, 7, none⟩ = some (.slice L.MA s.mails.length L.mc) := fun w hI => hI.cell 0 rfl rfl
 by_cases hi : 0 ≤ i ∧ i < (s.mails.length : Int)
 rotate_left
 ·refine Ws (Wq (V9 rfl (V0 rfl (Va [.pointer _, .int .i64 _] rfl func122 rfl ?_))))
  refine (nhas_any L.sb i _ _ _ _ (hc _ hI)).mono ?_
  rintro e w1 ⟨rfl, hp⟩
  rw [decide_eq_false hi]
  refine rV ?_
  have hI := hI.pure hp
  refine Ti rfl (Wn (Wc true rfl (Wq (T6 rfl yy45 rfl (Vp rfl (Wn ?_))))))
  exact WR (r1_ 4 rfl ⟨⟨_, rfl⟩, L.MA, L.mc, _, .inl rfl, hI⟩)
 obtain ⟨j, rfl⟩ : ∃ j : Nat, i = (j : Int) := ⟨i.toNat, by omega⟩
 have hj : j < s.mails.length := by omega
 obtain ⟨m, hm⟩ : ∃ m, s.mails[j]? = some m := ⟨_, List.getElem?_eq_getElem hj⟩
 refine Ws (Wq (V9 rfl (V0 rfl (Va [.pointer _, .int .i64 _] rfl func122 rfl ?_))))
 refine (nhas_any L.sb (j : Int) _ _ _ _ (hc _ hI)).mono ?_
 rintro e w1 ⟨rfl, hp⟩
 rw [decide_eq_true hi]
 refine rV ?_
 have hI := hI.pure hp
 refine T9 rfl (Wn (Wc false rfl (Wk ?_)))
 obtain ⟨g, o, hMA, _, hcell⟩ := mail_cells (mrow (X := []) hI) hm
 have hc' := hc w1 hI
 rw [hMA] at hc'
 refine Wq (V9 rfl (V9 rfl (Vb rfl (Tj rfl (V5 (.slice _ _ _) rfl hc' (V0 rfl (Tt 9 rfl yy86 rfl (Ug 9 (mailL m) rfl (fun k u hk => hcell k u hk) (Va [.pointer _, .agg _] rfl func120 rfl ?_)))))))))
 refine (send_any L s m (DLs (spt L s)) _ (hI.fromB (X := []))).mono ?_
 rintro e w1 ⟨⟨v, rfl⟩, MA, mc, hJ⟩
 refine rV ?_
 have hI := hI.callB (X := []) hJ
 refine Tn rfl (Wn ?_)
 exact WR (r1_ 4 rfl ⟨⟨_, rfl⟩, MA, mc, _, .inr ⟨m, List.mem_of_getElem? hm, rfl⟩, hI⟩)
theorem take_any (L : StL) (s : StS) (i : Int) (hml : s.mails.length ≤ 500) (hmo : ∀ m ∈ s.mails, m.src < 1000 ∧ m.dst < 1000) (S : Nat → Prop) (w0 : World) (hI : Inv S w0 w0 (spt L s)) :
  Cq 76 #[.pointer (some ⟨L.sb, 7, none⟩), .int .i64 i] w0 fun en w' =>
   (∃ n, en = .returned (.tuple #[.agg zero9, .iface 45 (.int .i64 n)]) ∧ (L.cut = false → ¬ (0 ≤ i ∧ i < (s.mails.length : Int))) ∧ Inv S w0 w' (spt L s)) ∨
   (∃ (j : Nat) (m : SMail) (MA : Option Addr) (mc : Nat), i = (j : Int) ∧ s.mails[j]? = some m ∧ en = .returned (.tuple #[.agg (mailL m).toArray, .nilIface]) ∧ Inv S w0 w' (spt { L with MA := MA, mc := mc } { s with mails := s.mails.eraseIdx j })) := by
 have hc : ∀ w X, Inv S w0 w (X ++ spt L s) → w.cell? ⟨L.sb, 7, none⟩ = some (.slice L.MA s.mails.length L.mc) := fun w X hI => hI.fromB.cell 0 rfl rfl
 refine Vn func76 rfl ?_
 refine Wq (T1 (.agg zero9) zero9 hI rfl ?_)
 rintro b4 w - - hI
 refine Vj rfl (Wn ?_)
 by_cases hi : 0 ≤ i ∧ i < (s.mails.length : Int)
 rotate_left
 ·refine Wq (V9 rfl (V0 rfl (Va [.pointer _, .int .i64 _] rfl func116 rfl ?_)))
  refine (at_none L.sb i _ _ _ _ (hc _ [_] hI) hi).mono (okP hI fun w1 hp hI => ?_)
  refine Vz rfl (Vg rfl (Vg rfl (T1 (.agg zero9) zero9 hI rfl ?_)))
  rintro b6 w - - hI
  refine T7 9 zero9 (.agg zero9) hI rfl ?_
  intro w hI
  refine V8 rfl (Wn (Ws (Wb (Wq (V6 rfl (Ti rfl (V8 rfl (Wn (Wc true rfl (Ws (Wr ?_)))))))))))
  refine Wv rfl (show Runs _ _ _ _ (.agg zero9) from rBuild (qs := []) (vs := [.int .i64 0, .int .i64 0, .int .i64 0, .int .i64 0, .int .i64 0, .int .i64 0, .int .i64 0, .int .i64 0, .int .i64 0]) [.int .i64 0, .int .i64 0, .int .i64 0, .int .i64 0, .int .i64 0, .int .i64 0, .int .i64 0, .int .i64 0, .int .i64 0] [] rfl rfl rfl (fun _ => by kernel_rfl)) ?_
  refine T6 rfl yy45 rfl ?_
  refine WL_stw1 (u := .agg zero9) (vs := zero9) (n := 9) hI rfl rfl rfl rfl rfl rfl (by kernel_rfl) rfl rfl rfl ?_
  intro w hI
  refine Vp rfl (Wn ?_)
  refine WR ?_
  exact retC2 (n := 9) (.inr rfl) rfl rfl (by kernel_rfl) (by kernel_rfl) rfl hI.g1 (.inl ⟨_, rfl, fun _ => hi, hI.d0.d0⟩)
 obtain ⟨j, rfl⟩ : ∃ j : Nat, i = (j : Int) := ⟨i.toNat, by omega⟩
 have hj : j < s.mails.length := by omega
 obtain ⟨m, hm⟩ : ∃ m, s.mails[j]? = some m := ⟨_, List.getElem?_eq_getElem hj⟩
 have hmm := hmo m (List.mem_of_getElem? hm)
 refine Wq (V9 rfl (V0 rfl (Va [.pointer _, .int .i64 _] rfl func116 rfl ?_)))
 refine (at_some L.sb j _ _ _ m _ _ (hc _ [_] hI) (mrow (X := [_]) hI) hm).mono (okP hI fun w1 hp hI => ?_)
 refine Vz rfl (Vg rfl (Vg rfl (T1 (.agg zero9) zero9 hI rfl ?_)))
 rintro b6 w - - hI
 refine T7 9 ((mailL m).toArray) (.agg (mailL m).toArray) hI rfl ?_
 intro w hI
 refine V8 rfl (Wn (Ws (Wb (Wq (V6 rfl (T9 rfl (V8 rfl (Wn (Wc false rfl ?_)))))))))
 have hcan : ∀ w, Inv S w0 w ([B b6 194 (mailL m).toArray, B b4 194 zero9] ++ spt L s) → Cq 117 #[.pointer (some ⟨L.sb, 7, none⟩), .int .i64 (m.src : Int), .int .i64 (m.dst : Int)] w fun en w' => (∃ r, en = .returned (.bool r) ∧ (L.cut = false → r = true)) ∧ Pure w w' := fun w hI =>
  can_any L.sb m.src m.dst L.cut L.LA L.ln L.lc L.lv L.LD (fun _ => True) w (hI.fromB.cell 0 rfl rfl) (hI.fromB.cell 0 rfl rfl) (Rd.of_own (hI.fromB.ok _ (List.mem_of_getElem? (i := 5) rfl)).1 (fun _ _ _ => trivial)) (fun v hv => by obtain ⟨l, hl, _⟩ := (hI.fromB.ok _ (List.mem_of_getElem? (i := 6) rfl)).1.2 v hv; exact ⟨l, hl⟩) hmm.1 hmm.2
 refine Wq (V9 rfl (V7 0 rfl (V5 (.int .i64 _) rfl (hI.c0 rfl) (V7 1 rfl (V5 (.int .i64 _) rfl (hI.c0 rfl) (Va [.pointer _, .int .i64 _, .int .i64 _] rfl func117 rfl ?_))))))
 refine (hcan _ hI).mono ?_
 rintro e w1 ⟨⟨r, rfl, hrc⟩, hp⟩
 refine rV ?_
 have hI := hI.pure hp
 refine Wv rfl (by exact rNot rfl rfl) ?_
 refine V8 rfl (Wn ?_)
 cases r with
 | false =>
  refine Wc true rfl (Ws (Wr ?_))
  refine Wv rfl (show Runs _ _ _ _ (.agg zero9) from rBuild (qs := []) (vs := [.int .i64 0, .int .i64 0, .int .i64 0, .int .i64 0, .int .i64 0, .int .i64 0, .int .i64 0, .int .i64 0, .int .i64 0]) [.int .i64 0, .int .i64 0, .int .i64 0, .int .i64 0, .int .i64 0, .int .i64 0, .int .i64 0, .int .i64 0, .int .i64 0] [] rfl rfl rfl (fun _ => by kernel_rfl)) ?_
  refine T6 rfl yy45 rfl ?_
  refine WL_stw1 (u := .agg zero9) (vs := zero9) (n := 9) hI rfl rfl rfl rfl rfl rfl (by kernel_rfl) rfl rfl rfl ?_
  intro w hI
  refine Vp rfl (Wn ?_)
  refine WR ?_
  exact retC2 (n := 9) (.inr rfl) rfl rfl (by kernel_rfl) (by kernel_rfl) rfl hI.g1 (.inl ⟨_, rfl, fun h => (by have := hrc h; cases this), hI.d0.d0⟩)
 | true =>
  refine Wc false rfl (Wk ?_)
  have hc2 : ∀ w, Inv S w0 w ([B b6 194 (mailL m).toArray, B b4 194 zero9] ++ spt L s) → w.cell? ⟨L.sb, 7, none⟩ = some (.slice L.MA s.mails.length L.mc) := fun w hI => hc w _ hI
  refine Wq (V9 rfl (V9 rfl (Vb rfl (Tj rfl (V5 (.slice _ _ _) rfl (hc2 _ hI) (V0 rfl (V0 rfl (Vv rfl (Va [.slice _ _ _, .int .i64 _, .int .i64 _] rfl func118 rfl ?_)))))))))
  refine (delM_any L s j m hm hml (DLs (spt L s)) _ (hI.fromB (X := [_, _]))).mono ?_
  rintro e w1 ⟨A, c, rfl, hJ⟩
  refine rV ?_
  have hI := hI.callB (X := [_, _]) hJ
  refine Vb rfl (Tj rfl ?_)
  refine WL_st2 (u := .slice A (s.mails.eraseIdx j).length c) (j := 7) hI rfl rfl rfl rfl rfl rfl (by kernel_rfl) rfl rfl rfl ?_
  intro w hI
  refine Wn (Ws (Wr ?_))
  refine Ug 9 (mailL m) rfl (fun k u hk => hI.cell 0 rfl (by rw [Nat.zero_add, List.getElem?_toArray]; exact hk)) ?_
  refine WL_stw1 (u := .agg (mailL m).toArray) (vs := (mailL m).toArray) (n := 9) hI rfl rfl rfl rfl rfl rfl (by kernel_rfl) rfl rfl rfl ?_
  intro w hI
  refine Vj rfl (Wn ?_)
  refine WR ?_
  exact retC2 (n := 9) (.inr rfl) rfl rfl (by kernel_rfl) (by kernel_rfl) rfl hI.g1 (.inr ⟨j, m, A, c, rfl, hm, rfl, hI.d0.d0⟩)
end Go.Proofs.YtlkobbighkiojaaGreatDoor
