/- Part of the proof that a desk answers in pieces. -/
import Derived.Test.YtnckdmogdehnoaaGreatDoorPA
import Derived.Test.YtnckdmogdehnoaaGreatDoorPSxI
import Derived.Test.YtnckdmogdehnoaaGreatDoorPIntC
import Derived.Test.YtnckdmogdehnoaaGreatDoorProg
import Derived.Test.YtnckdmogdehnoaaGreatDoorPSrch2
import Derived.Test.YtnckdmogdehnoaaGreatDoorShelf
set_option maxHeartbeats 4000000
set_option linter.unusedVariables false
set_option linter.unusedSimpArgs false
namespace Go.Proofs.YtnckdmogdehnoaaGreatDoor
open Tryz
open Go.RowKit
variable {c g n : Nat} {A : Option Addr} {w w' : World}
section
variable {P : Program} {ρ : Env} {w : World} {o : Oper} {x : Operand} {t t' e : TypeId}
theorem rSlNT (ho : o.op = .binOp .eql t x (.const (.slice none 0 0)) t') (ht : P.underlying t = some (.slice e)) (hx : ev ρ x = .slice none n c) : Runs P ρ o w (.bool true) := by
 have h := run_equal (P := P) (w := w) (t := t) (x := .slice none n c) (y := .slice none 0 0) (r := true) (fun d => by simp [Op.equalIn, run_underlying ht])
 simp [Runs, execOp, ho, hx, show ev ρ (.const (.slice none 0 0)) = .slice none 0 0 from rfl, eqGuard, binOp, h]
theorem rSlNF {p : Addr} (ho : o.op = .binOp .eql t x (.const (.slice none 0 0)) t') (ht : P.underlying t = some (.slice e)) (hx : ev ρ x = .slice (some p) n c) : Runs P ρ o w (.bool false) := by
 have h := run_equal (P := P) (w := w) (t := t) (x := .slice (some p) n c) (y := .slice none 0 0) (r := false) (fun d => by simp [Op.equalIn, run_underlying ht])
 simp [Runs, execOp, ho, hx, show ev ρ (.const (.slice none 0 0)) = .slice none 0 0 from rfl, eqGuard, binOp, h]
end
theorem ints_one (l : List Int) : (l.map (Value.int .i64)).all (·.oneCell') = true := by simp [Value.oneCell']
theorem cloneI_any (A : Option Addr) (n c : Nat) (l : List Int) (D : Nat → Prop) (w0 : World) (h : Ints w0 D (.slice A n c) l) (hb : l.length ≤ 1000000) :
  Cq 119 #[.slice A n c] w0 fun en w' => ∃ A' c', en = .returned (.slice A' n c') ∧ Inv NF w0 w' [Row 0 3 1 A' n c' (l.map (Value.int .i64))] := by
 obtain ⟨A1, c1, hv, hnc, hcm, hlen, hcell⟩ := h
 injection hv with e1 e2 e3
 subst e1 e2 e3
 have hI := Inv.start (fun _ => False) w0
 refine Vm func119 Z (Wq (Vg Z (Wn ?_)))
 cases A with
 | none =>
  have hl : l = [] := by
   rcases Nat.eq_zero_or_pos l.length with h0 | h0
   ·exact List.eq_nil_of_length_eq_zero h0
   obtain ⟨b, o, hbo, _⟩ := hcell h0
   cases hbo
  subst hl
  exact Ws (Wq (Va Z (Wv Z (rSlNT Z yy41 Z) (Yt Z (Wq (Vg Z (Wn (WR (r1_ 2 Z ⟨none, 0, Z, hI.fresh (Pure.refl _) (Row.nil _ 0 3 1) (fun k hk => by simp [Row] at hk)⟩)))))))))
 | some p =>
  refine Ws (Wq (Va Z (Wv Z (rSlNF Z yy41 Z) (Yf Z (Wk (Wq (T3 [] [] [] [] hI Z yy41 (fun _ => by kernel_rfl) ?_)))))))
  rintro b5 w - - hI
  refine Va Z ?_
  have hI := hI.u0 (e' := Row 0 3 1 (some ⟨b5, 0, none⟩) 0 0 []) (Chg.refl _ _) (Row.of_blk hI.g0 (Nat.zero_le _) (by simp) (by omega)) (fun k hk => .inl (by have : some b5 = some k := hk; injection this with this; exact this.symm))
  rcases Nat.eq_zero_or_pos l.length with h0 | h0
  ·have hl : l = [] := List.eq_nil_of_length_eq_zero h0
   subst hl
   exact Wv Z (rApp0 Z yy41 (sz := 1) (by kernel_rfl) Z Z (Nat.le_refl _)) (Vg Z (Wn (WR (r1_ 2 Z ⟨_, _, Z, hI⟩))))
  obtain ⟨b, o, hbo, _, hcl⟩ := hcell h0
  injection hbo with hbo
  subst hbo
  refine WL_app0 (z := Y 0) (by_ := 8) (news := l.map (Value.int .i64)) hI Z Z Z Z Z Z yy41 (by kernel_rfl) Z (by omega) (by rw [hlen]) (fun k u hk => hI.oldp (hcl k u hk)) (ints_one l) (by simp; omega) (by simp; omega) (Nat.zero_le _) ?_
  rintro A2 c2 w _ _ hI
  refine Vg Z (Wn (WR (r1_ 2 Z ⟨A2, c2, ?_, ?_⟩)))
  ·show Ending.returned (.slice A2 (0 + l.length) c2) = _; rw [Nat.zero_add]
  have h' : Inv NF w0 w [Row 0 3 1 A2 (0 + l.length) c2 ([] ++ l.map (Value.int .i64))] := hI
  rw [Nat.zero_add, List.nil_append] at h'; exact h'
def knT : List Int := [0, 14, 48, 448, 1536, 1536, 6144]
abbrev KnOk (w : World) : Prop := ∀ i, i < 7 → w.cell? ⟨9, i, none⟩ = some (.int .i64 (knT.getD i 0))
theorem KnOk.pure {w w' : World} (h : KnOk w) (hp : Pure w w') : KnOk w' := fun i hi => ((Inv.start (fun _ => False) w).pure hp).oldp (h i hi)
theorem knows_in (o k : Int) (h1 : 1 ≤ o) (h2 : o ≤ 6) (h3 : 1 ≤ k) (h4 : k ≤ 12) : decide (IntKind.i64.wrap ((BitVec.ofInt 64 ((knT.getD o.toNat 0).fdiv (2 ^ min k.toNat 64)) &&& BitVec.ofInt 64 1).toNat : Int) = 1) = knowsF o k := by
 have ho : o = 1 ∨ o = 2 ∨ o = 3 ∨ o = 4 ∨ o = 5 ∨ o = 6 := by omega
 have hk : k = 1 ∨ k = 2 ∨ k = 3 ∨ k = 4 ∨ k = 5 ∨ k = 6 ∨ k = 7 ∨ k = 8 ∨ k = 9 ∨ k = 10 ∨ k = 11 ∨ k = 12 := by omega
 rcases ho with rfl | rfl | rfl | rfl | rfl | rfl <;> rcases hk with rfl | rfl | rfl | rfl | rfl | rfl | rfl | rfl | rfl | rfl | rfl | rfl <;> decide +kernel
theorem knows_out (o k : Int) (h : o < 1 ∨ 6 < o ∨ k < 1 ∨ 12 < k) : knowsF o k = false := by
 unfold knowsF
 have e : ∀ a b : Int, (a == b) = decide (a = b) := fun a b => rfl
 simp only [e]
 rcases h with h | h | h | h
 ·rw [decide_eq_false (show o ≠ 1 by omega), decide_eq_false (show o ≠ 2 by omega), decide_eq_false (show o ≠ 3 by omega), decide_eq_false (show o ≠ 4 by omega), decide_eq_false (show o ≠ 5 by omega), decide_eq_false (show o ≠ 6 by omega)]; rfl
 ·rw [decide_eq_false (show o ≠ 1 by omega), decide_eq_false (show o ≠ 2 by omega), decide_eq_false (show o ≠ 3 by omega), decide_eq_false (show o ≠ 4 by omega), decide_eq_false (show o ≠ 5 by omega), decide_eq_false (show o ≠ 6 by omega)]; rfl
 ·rw [decide_eq_false (show k ≠ 1 by omega), decide_eq_false (show k ≠ 2 by omega), decide_eq_false (show k ≠ 3 by omega), decide_eq_false (show k ≠ 4 by omega), decide_eq_false (show k ≠ 5 by omega), decide_eq_false (show k ≠ 6 by omega), decide_eq_false (show k ≠ 7 by omega), decide_eq_false (show k ≠ 8 by omega), decide_eq_false (show k ≠ 9 by omega), decide_eq_false (show k ≠ 10 by omega), decide_eq_false (show k ≠ 11 by omega), decide_eq_false (show k ≠ 12 by omega)]; simp
 rw [decide_eq_false (show k ≠ 1 by omega), decide_eq_false (show k ≠ 2 by omega), decide_eq_false (show k ≠ 3 by omega), decide_eq_false (show k ≠ 4 by omega), decide_eq_false (show k ≠ 5 by omega), decide_eq_false (show k ≠ 6 by omega), decide_eq_false (show k ≠ 7 by omega), decide_eq_false (show k ≠ 8 by omega), decide_eq_false (show k ≠ 9 by omega), decide_eq_false (show k ≠ 10 by omega), decide_eq_false (show k ≠ 11 by omega), decide_eq_false (show k ≠ 12 by omega)]; simp
theorem knows_any (o k : Int) (w0 : World) (hk : KnOk w0) : Cq 167 #[.int .i64 o, .int .i64 k] w0 fun en w' => en = .returned (.bool (knowsF o k)) ∧ Pure w0 w' := by
 have hI := Inv.start (fun _ => False) w0
 refine Vm func167 Z (Wq (Vc Z (Wn ?_)))
 by_cases h1 : o < 1
 ·exact Wq (V0 Z (Uf Z (V7 Z (V5 Z (V5 Z (Vi Z (V7 Z (V5 Z (V5 Z (Vi Z (V7 Z (V5 Z (V5 Z (Vi Z (V7 Z (V5 Z (V5 Z (V5 Z (V5 Z (V5 Z (V5 Z (V5 Z (Vi Z (Vc Z (Wn (WR (r1_ 4 Z ⟨by rw [knows_out o k (by omega)]; rfl, hI.pu⟩)))))))))))))))))))))))))))
 by_cases h2 : 6 < o
 ·exact Wq (V0 Z (U1 Z (V7 Z (V0 Z (Wv Z (by exact rLeqF rfl rfl rfl (by omega)) (Vk Z (V7 Z (V5 Z (V5 Z (Vi Z (V7 Z (V5 Z (V5 Z (Vi Z (V7 Z (V5 Z (V5 Z (V5 Z (V5 Z (V5 Z (V5 Z (V5 Z (Vi Z (Vc Z (Wn (WR (r1_ 4 Z ⟨by rw [knows_out o k (by omega)]; rfl, hI.pu⟩)))))))))))))))))))))))))))
 by_cases h3 : k < 1
 ·exact Wq (V0 Z (U1 Z (V7 Z (V0 Z (Wv Z (by exact rLeqT rfl rfl rfl (by omega)) (Vk Z (V7 Z (V0 Z (Uf Z (Vk Z (V7 Z (V5 Z (V5 Z (Vi Z (V7 Z (V5 Z (V5 Z (V5 Z (V5 Z (V5 Z (V5 Z (V5 Z (Vi Z (Vc Z (Wn (WR (r1_ 4 Z ⟨by rw [knows_out o k (by omega)]; rfl, hI.pu⟩)))))))))))))))))))))))))))
 by_cases h4 : 12 < k
 ·exact Wq (V0 Z (U1 Z (V7 Z (V0 Z (Wv Z (by exact rLeqT rfl rfl rfl (by omega)) (Vk Z (V7 Z (V0 Z (U1 Z (Vk Z (V7 Z (V0 Z (Wv Z (by exact rLeqF rfl rfl rfl (by omega)) (Vk Z (V7 Z (V5 Z (V5 Z (V5 Z (V5 Z (V5 Z (V5 Z (V5 Z (Vi Z (Vc Z (Wn (WR (r1_ 4 Z ⟨by rw [knows_out o k (by omega)]; rfl, hI.pu⟩)))))))))))))))))))))))))))
 have hc : w0.cell? ⟨9, 0 + o.toNat * 1, none⟩ = some (.int .i64 (knT.getD o.toNat 0)) := by
  rw [Nat.zero_add, Nat.mul_one]; exact hk o.toNat (by omega)
 refine Wq (V0 Z (U1 Z (V7 Z (V0 Z (Wv Z (by exact rLeqT rfl rfl rfl (by omega)) (Vk Z (V7 Z (V0 Z (U1 Z (Vk Z (V7 Z (V0 Z (Wv Z (by exact rLeqT rfl rfl rfl (by omega)) (Vk Z (V7 Z (V0 Z (Wv Z (rIdxArr (sz := 1) (i := o.toNat) Z underlying284 (by kernel_rfl) Z Z (by omega) (by omega)) (V6 (Y _) Z (hI.oldp hc) (V0 Z (Wv Z (rShrW Z Z Z (by omega)) (Wv Z (rBits (r := fun p q => p &&& q) Z Z Z Z) (Wv Z (by exact rEql rfl rfl rfl) (Vk Z (Vc Z (Wn (WR (r1_ 4 Z ⟨?_, hI.pu⟩)))))))))))))))))))))))))))
 rw [← knows_in o k (by omega) (by omega) (by omega) (by omega)]
 rfl
theorem single_any (o : Int) (w0 : World) : Cq 168 #[.int .i64 o] w0 fun en w' => en = .returned (.bool (singleF o)) ∧ Pure w0 w' := by
 have hI := Inv.start (fun _ => False) w0
 refine Vm func168 Z (Wq (Vc Z (Wn ?_)))
 by_cases h1 : o = 1
 ·subst h1
  exact Wq (V0 Z (Vx Z (V7 Z (V5 Z (V5 Z (Vk Z (V7 Z (V5 Z (V5 Z (Vk Z (Vc Z (Wn (WR (r1_ 2 Z ⟨Z, hI.pu⟩))))))))))))))
 by_cases h2 : o = 2
 ·subst h2
  exact Wq (V0 Z (Vs Z (V7 Z (V0 Z (Vx Z (Vi Z (V7 Z (V5 Z (V5 Z (Vk Z (Vc Z (Wn (WR (r1_ 2 Z ⟨Z, hI.pu⟩))))))))))))))
 have e : singleF o = decide (o = 6) := by
  unfold singleF
  have e : ∀ a b : Int, (a == b) = decide (a = b) := fun a b => rfl
  simp only [e]
  rw [decide_eq_false h1, decide_eq_false h2]; rfl
 by_cases h6 : o = 6
 ·exact Wq (V0 Z (Vs Z (V7 Z (V0 Z (Vs Z (Vi Z (V7 Z (V0 Z (Vx Z (Vi Z (Vc Z (Wn (WR (r1_ 2 Z ⟨by rw [e, decide_eq_true h6]; rfl, hI.pu⟩))))))))))))))
 exact Wq (V0 Z (Vs Z (V7 Z (V0 Z (Vs Z (Vi Z (V7 Z (V0 Z (Vs Z (Vi Z (Vc Z (Wn (WR (r1_ 2 Z ⟨by rw [e, decide_eq_false h6]; rfl, hI.pu⟩))))))))))))))
theorem one_any (b : Bool) (w0 : World) : Cq 183 #[.bool b] w0 fun en w' => en = .returned (.int .i64 (oneF b)) ∧ Pure w0 w' := by
 have hI := Inv.start (fun _ => False) w0
 refine Vm func183 Z (Wq (Vb Z (Wn (Ws (Wq (V7 Z (Wn ?_)))))))
 cases b with
 | true =>
  exact Wc true Z (Wq (Vb Z (Wn (WR (r1_ 2 Z ⟨Z, hI.pu⟩)))))
 | false =>
  exact Wc false Z (Wk (Wq (Vb Z (Wn (WR (r1_ 2 Z ⟨Z, hI.pu⟩))))))
theorem register_any (n k a b : Int) (w0 : World) : Cq 181 #[.int .i64 n, .int .i64 k, .int .i64 a, .int .i64 b] w0 fun en w' => en = .returned (.tuple #[.int .i64 (regF n k a b).1, .int .i64 (regF n k a b).2]) ∧ Pure w0 w' := by
 have hI := Inv.start (fun _ => False) w0
 refine Vm func181 Z (Wq (Vb Z (Vb Z (Wn (Ws (Wb ?_))))))
 by_cases h1 : k = 1
 ·exact Wq (V0 Z (Vx Z (Vc Z (Yt Z (Wq (V0 Z (V0 Z (Vb Z (Vb Z (Wn (WR (r2_ 8 9 Z ⟨by unfold regF; rw [if_pos h1]; rfl, hI.pu⟩))))))))))))
 refine Wq (V0 Z (Vs Z (Vc Z (Yf Z ?_))))
 by_cases h2 : k = 2
 ·exact Wq (V0 Z (Vx Z (Vc Z (Yt Z (Wq (V0 Z (Vb Z (Vb Z (Wn (WR (r2_ 8 9 Z ⟨by unfold regF; rw [if_neg h1, if_pos h2]; rfl, hI.pu⟩)))))))))))
 refine Wq (V0 Z (Vs Z (Vc Z (Yf Z ?_))))
 by_cases h3 : n = a
 ·exact Wq (V0 Z (V0 Z (Vx Z (Vc Z (Yt Z (Wq (V0 Z (Vb Z (Vb Z (Wn (WR (r2_ 8 9 Z ⟨by unfold regF; rw [if_neg h1, if_neg h2, if_pos h3]; rfl, hI.pu⟩))))))))))))
 exact Wq (V0 Z (V0 Z (Vs Z (Vc Z (Yf Z (Wk (Wq (V0 Z (Vb Z (Vb Z (Wn (WR (r2_ 8 9 Z ⟨by unfold regF; rw [if_neg h1, if_neg h2, if_neg h3]; rfl, hI.pu⟩)))))))))))))
abbrev StE (A : Option Addr) (c : Nat) (st : List Int) : Ent := Row 0 3 1 A st.length c (i64s st)
theorem start_any (o : Int) (w0 : World) : Cq 139 #[.int .i64 o] w0 fun en w' => ∃ A c, en = .returned (.slice A (startF o).length c) ∧ Inv NF w0 w' [StE A c (startF o)] := by
 have hI := Inv.start (fun _ => False) w0
 refine Vm func139 Z (Wq (Vg Z (Wn (Ws (Wq (V0 Z (Vd [Y _] Z func168 Z ((single_any o _).mono (okP hI fun w1 hp hI => Wn ?_)))))))))
 cases hs : singleF o with
 | true =>
  have e : startF o = [0] := by unfold startF; rw [hs]; rfl
  refine Wc true Z (Wq (T3 [(0, Y _)] [_] [Y 0] [0] hI Z yy41 (fun _ => by kernel_rfl) ?_))
  rintro b5 w - - hI
  refine Vg Z (Wn (WR (r1_ 2 Z ⟨some ⟨b5, 0, none⟩, 1, by rw [e]; rfl, ?_⟩)))
  rw [e]
  have hb := hI.g0
  exact hI.u0 (e' := StE (some ⟨b5, 0, none⟩) 1 [0]) (Chg.refl _ _) (Row.of_blk hb (Nat.zero_le _) Z (by decide)) (fun k hk => .inl (by have : some b5 = some k := hk; injection this with this; exact this.symm))
 | false =>
  have e : startF o = [] := by unfold startF; rw [hs]; rfl
  refine Wc false Z (Wk (Wq (Vg Z (Wn (WR (r1_ 2 Z ⟨none, 0, by rw [e]; rfl, ?_⟩))))))
  rw [e]
  exact hI.fresh (Pure.refl _) (Row.nil _ 0 3 1) (fun k hk => by simp [Row] at hk)
section
variable {S : Nat → Prop} {w0 w w' : World} {H H' : List Ent} {e e' : Ent}
theorem Inv.ownE (h : e.ok w) : Inv e.D w w [e] :=
 ⟨Chg.refl _ w, fun x hx => by rcases List.mem_singleton.1 hx with rfl; exact h, fun x hx k hk => by rcases List.mem_singleton.1 hx with rfl; exact .inl hk, List.pairwise_singleton ..⟩
theorem Inv.one (hc : Chg e.D w w') (ho : e'.ok w') (hD : ∀ k, e'.D k → e.D k ∨ w.heap.size ≤ k) : Inv e.D w w' [e'] :=
 ⟨hc, fun x hx => by rcases List.mem_singleton.1 hx with rfl; exact ho, fun x hx k hk => by rcases List.mem_singleton.1 hx with rfl; exact hD k hk, List.pairwise_singleton ..⟩
theorem Inv.turn (h : Inv S w0 w (e :: H)) (h' : Inv e.D w w' H') : Inv S w0 w' (H' ++ H) := by
 have he := h.ok e (by simp)
 have hp := List.pairwise_cons.1 h.apart
 refine ⟨h.chg.trans' h'.chg fun k hk1 hk2 => ?_, fun x hx => ?_, fun x hx k hk => ?_, List.pairwise_append.2 ⟨h'.apart, hp.2, fun a ha b hb k h1 h2 => ?_⟩⟩
 ·rcases h.own e (by simp) k hk2 with h1 | h1
  ·exact h1
  omega
 ·rcases List.mem_append.1 hx with hx | hx
  ·exact h'.ok x hx
  exact (h.ok x (by simp [hx])).chg h'.chg (fun k hk hk2 => hp.1 x hx k hk2 hk)
 ·rcases List.mem_append.1 hx with hx | hx
  ·rcases h'.own x hx k hk with h1 | h1
   ·exact h.own e (by simp) k h1
   exact .inr (Nat.le_trans h.chg.size h1)
  exact h.own x (by simp [hx]) k hk
 rcases h'.own a ha k h1 with h3 | h3
 ·exact hp.1 b hb k h3 h2
 have := (h.ok b (by simp [hb])).2.1 k h2
 omega
theorem Inv.turn1 {a : Ent} (h : Inv S w0 w (e :: H)) (h' : Inv e.D w w' [a]) : Inv S w0 w' (a :: H) := h.turn h'
end
theorem row_open {w : World} {e n c : Nat} {A : Option Addr} {xs : List Value} (h : w.ownsRow 0 e 1 (.slice A n c) n xs) : (A = none ∧ n = 0 ∧ c = 0 ∧ xs = []) ∨ ∃ g cur, A = some ⟨g, 0, none⟩ ∧ Blk w g e cur ∧ n ≤ c ∧ c ≤ 9223372036854775807 ∧ cur.size = c ∧ cur.toList.take n = xs := by
 obtain ⟨hl, ⟨hv, hn⟩ | ⟨g, cap, cur, hv, _, hb, h1, h2, h3, h4⟩⟩ := h
 ·injection hv with e1 e2 e3
  subst e1 e3 hn
  exact .inl ⟨Z, Z, Z, List.eq_nil_of_length_eq_zero (by simpa using hl)⟩
 injection hv with e1 e2 e3
 subst e1 e3
 exact .inr ⟨g, cur, Z, hb, h1, by simpa [maxLen] using h2, by omega, by simpa using h4⟩
theorem row_close {w : World} {e g n c : Nat} {cur : Array Value} {xs : List Value} (hb : Blk w g e cur) (h1 : n ≤ c) (h2 : c ≤ 9223372036854775807) (h3 : cur.size = c) (h4 : cur.toList.take n = xs) : (Row 0 e 1 (some ⟨g, 0, none⟩) n c xs).ok w :=
 Row.ok ⟨by rw [← h4]; simp; omega, .inr ⟨g, c, cur, rfl, Nat.zero_le _, hb, h1, by simpa [maxLen] using h2, by omega, by simpa using h4⟩⟩
theorem ins_get {α : Type} (xs : List α) (i : Nat) (v : α) (hi : i ≤ xs.length) (j : Nat) : (xs.take i ++ v :: xs.drop i)[j]? = if j < i then xs[j]? else if j = i then some v else xs[j - 1]? := by
 have hl : (xs.take i).length = i := by simp; omega
 by_cases h1 : j < i
 ·rw [if_pos h1, List.getElem?_append_left (by omega), List.getElem?_take_of_lt h1]
 rw [if_neg h1, List.getElem?_append_right (by omega), hl]
 by_cases h2 : j = i
 ·rw [if_pos h2, h2, Nat.sub_self, List.getElem?_cons_zero]
 rw [if_neg h2, show j - i = (j - i - 1) + 1 by omega, List.getElem?_cons_succ, List.getElem?_drop, show i + (j - i - 1) = j - 1 by omega]
theorem take_of_get {cur : Array Value} {n : Nat} {ys : List Value} (hy : ys.length = n) (h : ∀ j, j < n → cur[j]? = ys[j]?) : cur.toList.take n = ys := by
 refine List.ext_getElem? fun j => ?_
 by_cases hj : j < n
 ·rw [List.getElem?_take_of_lt hj, Array.getElem?_toList, h j hj]
 rw [List.getElem?_eq_none (by simp; omega), List.getElem?_eq_none (by omega)]
theorem get_of_take {cur : Array Value} {n : Nat} {xs : List Value} (h : cur.toList.take n = xs) {j : Nat} (hj : j < n) : cur[j]? = xs[j]? := by
 rw [← h, List.getElem?_take_of_lt hj, Array.getElem?_toList]
theorem one_i64s (l : List Int) : ∀ v ∈ i64s l, v.oneCell' = true := by
 intro v hv
 obtain ⟨z, _, rfl⟩ := List.mem_map.1 hv
 rfl
theorem i64s_ins (l : List Int) (i : Nat) (a : Int) : i64s (l.take i ++ a :: l.drop i) = (i64s l).take i ++ .int .i64 a :: (i64s l).drop i := by simp [i64s, List.map_take, List.map_drop]
theorem zc_size (n : Nat) : (Builtin.zeroCells (Value.int .i64 0).cells n).size = n := by simp [Builtin.zeroCells, Value.cells]
theorem blk_shape {w : World} {g t : Nat} {cs : Array Value} (h : Blk w g t cs) : w.shape? g = some (t, cs.size) := by unfold World.shape?; rw [show w.heap[g]? = _ from h]
theorem insert_any (A : Option Addr) (c : Nat) (l : List Int) (i : Nat) (a : Int) (vb : Nat) (w : World) (hR : (StE A c l).ok w) (hi : i ≤ l.length) (hv : Blk w vb 3 #[.int .i64 a]) (hne : A.map (·.block) ≠ some vb) (hbig : l.length + 1 ≤ 1000000) :
  Cq 201 #[.slice A l.length c, .int .i64 (i : Int), .slice (some ⟨vb, 0, none⟩) 1 1] w fun en w' => ∃ A' c', en = .returned (.slice A' (l.length + 1) c') ∧ Inv (StE A c l).D w w' [StE A' c' (l.take i ++ a :: l.drop i)] := by
 have hlen : (l.take i ++ a :: l.drop i).length = l.length + 1 := by simp; omega
 have hxl : (i64s l).length = l.length := by simp [i64s]
 have hvs : ∀ (j : Nat) (v : Value), [Value.int .i64 a][j]? = some v → w.cell? ⟨vb, 0 + j, none⟩ = some v := fun j v hj => by rw [Nat.zero_add, hv.cell]; simpa using hj
 have h1v : ∀ v ∈ [Value.int .i64 a], v.oneCell' = true := by intro v hv; simp at hv; subst hv; rfl
 rcases row_open hR.1 with ⟨rfl, hn, rfl, hx⟩ | ⟨g, cur, rfl, hb, h1, h2, h3, h4⟩
 ·have hl : l = [] := List.eq_nil_of_length_eq_zero hn
  subst hl
  obtain rfl : i = 0 := by simpa using hi
  refine (Any2.slices_Insert_int_end_grow lays2_21 none 0 0 vb 0 1 1 [] [Y a] w (by omega) (by omega) (by omega) (by omega) Z Z (fun _ => Z) (fun a h => by cases h) hvs h1v).mono ?_
  rintro e w' ⟨rfl, rfl⟩
  have hge := grownCap_ge w (0 + 1) 0 (Tryz.lays2_21_ren.t 3)
  have hle := grownCap_le_maxLen w (0 + 1) 0 (Tryz.lays2_21_ren.t 3) (by decide)
  generalize grownCap w (0 + 1) 0 (Tryz.lays2_21_ren.t 3) = gc at hge hle ⊢
  refine ⟨_, _, Z, Inv.one ((Chg.pure (Chg.refl _ w) (Pure.refl w).drew).pure ((Pure.refl _).alloc _)) (row_close (Blk.new _ _ _) hge (by simpa [maxLen] using hle) ?_ ?_) (fun k hk => .inr ?_)⟩
  ·rw [Array.size_append, zc_size]; simp; omega
  ·simp [i64s]
  have : some w.heap.size = some k := hk
  injection this with this; omega
 have hcs : ∀ (j : Nat) (v : Value), (i64s l)[j]? = some v → w.cell? ⟨g, 0 + j, none⟩ = some v := fun j v hj => by
  have hjl := (gS_ hj).1
  rw [Nat.zero_add, hb.cell, get_of_take h4 (by omega), hj]
 have hne' : vb ≠ g := fun e => hne (by subst e; rfl)
 rcases Nat.lt_or_ge i l.length with hil | hil
 ·rcases Nat.lt_or_ge c (l.length + 1) with hroom | hroom
  ·refine (Any2.slices_Insert_int_grow lays2_21 g 0 l.length c i vb 0 1 1 (i64s l) [Y a] w hil (by omega) h1 hroom (by omega) hxl Z hcs hvs (one_i64s l) h1v).mono ?_
   rintro e w' ⟨rfl, rfl⟩
   have hge := grownCap_ge w (l.length + 1) c (Tryz.lays2_21_ren.t 3)
   have hle := grownCap_le_maxLen w (l.length + 1) c (Tryz.lays2_21_ren.t 3) (by simp [maxLen]; omega)
   generalize grownCap w (l.length + 1) c (Tryz.lays2_21_ren.t 3) = gc at hge hle ⊢
   refine ⟨_, _, Z, Inv.one (Chg.setCells (.inr (Nat.le_refl _)) _ _ ((Chg.setCells (.inr (Nat.le_refl _)) _ _ ((Chg.pure (Chg.refl _ w) ((Pure.refl w).alloc _)).pure (Pure.refl _).drew)).pure (Pure.refl _).drew)) (row_close ((((Blk.new w 3 _).drew).setCells _ _).drew.setCells _ _) (by rw [hlen]; exact hge) (by simpa [maxLen] using hle) ?_ ?_) (fun k hk => .inr ?_)⟩
   ·rw [splice_size, splice_size]
    simp only [Array.size_append, zc_size, List.size_toArray, List.length_take, hxl]; omega
   ·rw [i64s_ins]
    refine take_of_get (by rw [← i64s_ins]; simp only [i64s, List.length_map]) fun j hj => ?_
    rw [hlen] at hj
    rw [ins_get _ _ _ (by omega), splice_get _ _ _ _ (by rw [splice_size]; simp only [Array.size_append, zc_size, List.size_toArray, List.length_take, List.length_drop, hxl]; omega), splice_get _ _ _ _ (by simp only [Array.size_append, zc_size, List.size_toArray, List.length_take, hxl, List.length_cons, List.length_nil]; omega)]
    simp only [List.length_drop, hxl, List.length_cons, List.length_nil]
    by_cases e1 : j < i
    ·rw [if_neg (by omega), if_neg (by omega), if_pos e1, Array.append_assoc, Array.getElem?_append_left (by simp [i64s]; omega)]
     simp [e1]
    by_cases e2 : j = i
    ·subst e2
     rw [if_neg (by omega), if_pos (by omega), if_neg (by omega), if_pos rfl, Nat.sub_self]; rfl
    rw [if_pos (by omega), if_neg e1, if_neg e2, List.getElem?_drop, show i + (j - (i + 1)) = j - 1 by omega]
   have : some w.heap.size = some k := hk
   injection this with this; omega
  refine (Any2.slices_Insert_int_shift lays2_21 g 0 l.length c i vb 0 1 1 (i64s l) [Y a] w hil (by omega) (by omega) h2 hne' hxl Z hcs (fun j hj => by rw [Nat.zero_add, hb.cell]; simp; omega) (fun j _ => hb.frozen _) hvs (one_i64s l) h1v 3 3 1 c (blk_shape hv) (by rw [blk_shape hb, h3]) (by omega) (hv.frozen _) (hv.frozen _)).mono ?_
  rintro e w' ⟨rfl, rfl⟩
  refine ⟨_, _, Z, Inv.one (Chg.setCells (S := (StE (some ⟨g, 0, none⟩) c l).D) (.inl Z) _ _ (Chg.setCells (S := (StE (some ⟨g, 0, none⟩) c l).D) (.inl Z) _ _ (Chg.pure (Chg.refl _ w) (Pure.refl w).drew))) (row_close ((hb.drew.setCells _ _).setCells _ _) (by rw [hlen]; exact hroom) h2 (by rw [splice_size, splice_size, h3]) ?_) (fun k hk => .inl hk)⟩
  rw [i64s_ins]
  refine take_of_get (by rw [← i64s_ins]; simp only [i64s, List.length_map]) fun j hj => ?_
  rw [ins_get _ _ _ (by omega), splice_get _ _ _ _ (by rw [splice_size]; simp; omega), splice_get _ _ _ _ (by simp [i64s]; omega)]
  simp only [List.length_drop, hxl, List.length_cons, List.length_nil, Nat.zero_add]
  rw [hlen] at hj
  by_cases e1 : j < i
  ·rw [if_neg (by omega), if_neg (by omega), if_pos e1, get_of_take h4 (by omega)]
  by_cases e2 : j = i
  ·subst e2
   rw [if_pos (by omega), if_neg (by omega), if_pos rfl, Nat.sub_self]; rfl
  rw [if_neg (by omega), if_pos (by omega), if_neg e1, if_neg e2, List.getElem?_drop, show i + (j - (i + 1)) = j - 1 by omega]
 obtain rfl : i = l.length := by omega
 rcases Nat.lt_or_ge c (l.length + 1) with hroom | hroom
 ·refine (Any2.slices_Insert_int_end_grow lays2_21 (some ⟨g, 0, none⟩) l.length c vb 0 1 1 (i64s l) [Y a] w (by omega) h1 hroom (by omega) hxl Z (fun h => by cases h) (fun a h => by injection h with h; subst h; intro j v hj; rw [Addr.add_lit]; exact hcs j v hj) hvs h1v).mono ?_
  rintro e w' ⟨rfl, rfl⟩
  have hge := grownCap_ge w (l.length + 1) c (Tryz.lays2_21_ren.t 3)
  have hle := grownCap_le_maxLen w (l.length + 1) c (Tryz.lays2_21_ren.t 3) (by simp [maxLen]; omega)
  generalize grownCap w (l.length + 1) c (Tryz.lays2_21_ren.t 3) = gc at hge hle ⊢
  refine ⟨_, _, Z, Inv.one ((Chg.pure (Chg.refl _ w) (Pure.refl w).drew).pure ((Pure.refl _).alloc _)) (row_close (Blk.new _ _ _) (by rw [hlen]; exact hge) (by simpa [maxLen] using hle) ?_ ?_) (fun k hk => .inr ?_)⟩
  ·simp only [Array.size_append, zc_size, List.size_toArray, List.length_append, hxl, List.length_cons, List.length_nil]; omega
  ·rw [hlen, i64s_ins]
   have e1 : (i64s l).take l.length = i64s l := List.take_of_length_le (by omega)
   have e2 : (i64s l).drop l.length = [] := List.drop_eq_nil_of_le (by omega)
   rw [e1, e2, Array.toList_append, List.take_append_of_le_length (by simp [hxl])]
   exact List.take_of_length_le (by simp [hxl])
  have : some w.heap.size = some k := hk
  injection this with this; omega
 refine (Any2.slices_Insert_int_end_room lays2_21 g 0 l.length c vb 0 1 1 [Y a] w (by omega) hroom h2 Z (fun j hj => by rw [hb.cell]; simp; omega) (fun j _ => hb.frozen _) hvs h1v).mono ?_
 rintro e w' ⟨rfl, rfl⟩
 refine ⟨_, _, Z, Inv.one (Chg.setCells (S := (StE (some ⟨g, 0, none⟩) c l).D) (.inl Z) _ _ (Chg.refl _ w)) (row_close (hb.setCells _ _) (by rw [hlen]; exact hroom) h2 (by rw [splice_size, h3]) ?_) (fun k hk => .inl hk)⟩
 rw [i64s_ins]
 refine take_of_get (by rw [← i64s_ins]; simp only [i64s, List.length_map]) fun j hj => ?_
 rw [ins_get _ _ _ (by omega), splice_get _ _ _ _ (by simp; omega)]
 simp only [List.length_cons, List.length_nil, Nat.zero_add]
 rw [hlen] at hj
 by_cases e1 : j < l.length
 ·rw [if_neg (by omega), if_pos e1, get_of_take h4 e1]
 obtain rfl : j = l.length := by omega
 rw [if_pos (by omega), if_neg (by omega), if_pos rfl, Nat.sub_self]; rfl
section
variable {P : Program} {ρ : Env} {o : Oper} {w : World} {x y : Operand} {t t' e : TypeId}
theorem rSlNilT {n c : Nat} (ho : o.op = .binOp .eql t x (.const (.slice none 0 0)) t') (ht : P.underlying t = some (.slice e)) (hx : ev ρ x = .slice none n c) : Runs P ρ o w (.bool true) := by
 have h := run_equal (P := P) (w := w) (t := t) (x := .slice none n c) (y := .slice none 0 0) (r := true) (fun d => by simp [Op.equalIn, run_underlying ht])
 simp [Runs, execOp, ho, hx, show ev ρ (.const (.slice none 0 0)) = .slice none 0 0 from rfl, eqGuard, binOp, h]
theorem rSlNilF {n c : Nat} {p : Addr} (ho : o.op = .binOp .eql t x (.const (.slice none 0 0)) t') (ht : P.underlying t = some (.slice e)) (hx : ev ρ x = .slice (some p) n c) : Runs P ρ o w (.bool false) := by
 have h := run_equal (P := P) (w := w) (t := t) (x := .slice (some p) n c) (y := .slice none 0 0) (r := false) (fun d => by simp [Op.equalIn, run_underlying ht])
 simp [Runs, execOp, ho, hx, show ev ρ (.const (.slice none 0 0)) = .slice none 0 0 from rfl, eqGuard, binOp, h]
end
theorem i64s_len (l : List Int) : (i64s l).length = l.length := by simp [i64s]
theorem i64s_one (l : List Int) : (i64s l).all (·.oneCell') = true := by simp [i64s, Value.oneCell']
theorem clone_any (A : Option Addr) (c : Nat) (l : List Int) (D : Nat → Prop) (w0 : World) (h : Rd w0 D 1 (.slice A l.length c) l.length (i64s l)) (hb : l.length ≤ 1000000) :
  Cq 119 #[.slice A l.length c] w0 fun en w' => ∃ A' c', en = .returned (.slice A' l.length c') ∧ Inv NF w0 w' [StE A' c' l] := by
 obtain ⟨A1, c1, hv, hnc, hcm, hlen, hcell⟩ := h
 injection hv with e1 e2 e3
 subst e1 e3
 have hI := Inv.start (fun _ => False) w0
 refine Vm func119 Z (Wq (Vg Z (Wn ?_)))
 cases A with
 | none =>
  have hl : l = [] := by
   rcases Nat.eq_zero_or_pos l.length with h0 | h0
   ·exact List.eq_nil_of_length_eq_zero h0
   obtain ⟨b, o, hbo, _⟩ := hcell h0
   cases hbo
  subst hl
  exact Ws (Wq (Va Z (Wv Z (rSlNilT Z yy41 Z) (Yt Z (Wq (Vg Z (Wn (WR (r1_ 2 Z ⟨none, 0, Z, hI.fresh (Pure.refl _) (Row.nil _ 0 3 1) (fun k hk => by simp [Row] at hk)⟩)))))))))
 | some p =>
  refine Ws (Wq (Va Z (Wv Z (rSlNilF Z yy41 Z) (Yf Z (Wk (Wq (T3 [] [] [] [] hI Z yy41 (fun _ => by kernel_rfl) ?_)))))))
  rintro b5 w - - hI
  refine Va Z ?_
  replace hI : Inv NF w0 w [StE (some ⟨b5, 0, none⟩) 0 []] := hI.u0 (e' := StE (some ⟨b5, 0, none⟩) 0 []) (Chg.refl _ _) (row_close hI.g0 (Nat.le_refl _) (by omega) rfl rfl) (fun k hk => .inl (by have : some b5 = some k := hk; injection this with this; exact this.symm))
  rcases Nat.eq_zero_or_pos l.length with h0 | h0
  ·have hl : l = [] := List.eq_nil_of_length_eq_zero h0
   subst hl
   exact Wv Z (rApp0 Z yy41 (sz := 1) (by kernel_rfl) Z Z (Nat.le_refl _)) (Vg Z (Wn (WR (r1_ 2 Z ⟨_, _, Z, hI⟩))))
  obtain ⟨b, o, hbo, _, hcl⟩ := hcell h0
  injection hbo with hbo
  subst hbo
  refine WL_app0 (z := Y 0) (by_ := 8) (news := i64s l) hI Z Z Z Z Z Z yy41 (by kernel_rfl) Z (by omega) (by rw [i64s_len]; omega) (fun k u hk => hI.oldp (hcl k u hk)) (i64s_one l) (by simp; omega) (by simp; omega) (Nat.zero_le _) ?_
  rintro A2 c2 w _ _ hI
  refine Vg Z (Wn (WR (r1_ 2 Z ⟨A2, c2, ?_, ?_⟩)))
  ·show Ending.returned (.slice A2 (0 + l.length) c2) = _; rw [Nat.zero_add]
  have h' : Inv NF w0 w [Row 0 3 1 A2 (0 + l.length) c2 ([] ++ i64s l)] := hI
  rw [Nat.zero_add, List.nil_append] at h'; exact h'
theorem Row_rd {w : World} {A : Option Addr} {c : Nat} {l : List Int} (h : (StE A c l).Φ w) : Rd w (fun _ => True) 1 (.slice A l.length c) l.length (i64s l) := Rd.of_own (D := fun _ => True) h (fun _ _ _ => trivial)
theorem bsearch_any (A : Option Addr) (c : Nat) (l : List Int) (a : Int) (w : World) (h : (StE A c l).ok w) (hs : l.Pairwise (· < ·)) (hb : l.length ≤ 1000000) :
  Cq 200 #[.slice A l.length c, .int .i64 a] w fun en w' => en = .returned (.tuple #[.int .i64 ((posF l a : Nat) : Int), .bool (decide (a ∈ l))]) ∧ Pure w w' := by
 rcases Nat.eq_zero_or_pos l.length with h0 | h0
 ·have hl : l = [] := List.eq_nil_of_length_eq_zero h0
  subst hl
  refine (Any.slices_BinarySearch_int_empty lays2_25 A c a w).mono ?_
  rintro e w' ⟨rfl, rfl⟩
  exact ⟨Z, Pure.refl _⟩
 obtain ⟨b, o, rfl⟩ := row_addrS h.1 h0 (by omega)
 refine (Any.slices_BinarySearch_int lays2_25 b o l.length c l a w (Nat.le_refl _) (by omega) (fun j hj => ?_) ?_).mono ?_
 ·exact row_cellS h.1 (by simp [i64s, gE_ hj]) h0
 ·rw [List.take_of_length_le (Nat.le_refl _)]
  exact hs.imp (fun h => by omega)
 rintro e w' ⟨rfl, q, rfl⟩
 refine ⟨?_, (Pure.refl w).drewN q⟩
 rw [List.take_of_length_le (Nat.le_refl _)]
 have e1 : List.countP (fun x => decide (x < a)) l = posF l a := by unfold posF; rw [List.countP_eq_length_filter]
 have e2 : l.contains a = decide (a ∈ l) := by
  rw [Bool.eq_iff_iff]; simp
 rw [e1, e2]
theorem delete_any (A : Option Addr) (c : Nat) (l : List Int) (i : Nat) (w : World) (hR : (StE A c l).ok w) (hi : i < l.length) (hbig : l.length ≤ 1000000) :
  Cq 202 #[.slice A l.length c, .int .i64 (i : Int), .int .i64 ((i + 1 : Nat) : Int)] w fun en w' => en = .returned (.slice A (l.length - 1) c) ∧ Inv (StE A c l).D w w' [StE A c (l.take i ++ l.drop (i + 1))] := by
 have hlen : (l.take i ++ l.drop (i + 1)).length = l.length - 1 := by simp; omega
 rcases row_open hR.1 with ⟨rfl, hn, rfl, hx⟩ | ⟨g, cur, rfl, hb, h1, h2, h3, h4⟩
 ·omega
 refine (Any.slices_Delete_int_cells lays2_23 g 0 l.length c i (i + 1) l w (Nat.le_refl _) h1 h2 (by omega) (by omega) (fun j hj => ?_) (fun j _ => hb.frozen _)).mono ?_
 ·exact row_cellS hR.1 (by simp [i64s, gE_ hj]) (by omega)
 rintro e w' ⟨rfl, q, rfl⟩
 refine ⟨by rw [Nat.add_sub_cancel_left], Inv.one (Chg.setCells (S := (StE (some ⟨g, 0, none⟩) c l).D) (.inl Z) _ _ ((Chg.refl _ w).drewN q)) (row_close ((hb.drewN q).setCells _ _) (by rw [hlen]; omega) h2 (by rw [splice_size, h3]) ?_) (fun k hk => .inl hk)⟩
 rw [List.take_of_length_le (Nat.le_refl _)]
 refine take_of_get (i64s_len _) fun j hj => ?_
 rw [splice_get _ _ _ _ (by simp; omega), if_pos (by simp; omega)]
 simp only [i64s, List.map_append, Nat.sub_zero]
 rw [List.getElem?_append_left (by simp; omega)]
theorem Row_part {A : Option Addr} {c : Nat} {l : List Int} {w : World} (h : (StE A c l).ok w) (k : Nat) (hk : k ≤ l.length) : (StE A c (l.take k)).ok w := by
 rcases row_open h.1 with ⟨rfl, hn, rfl, hx⟩ | ⟨g, cur, rfl, hb, h1, h2, h3, h4⟩
 ·have hl : l = [] := List.eq_nil_of_length_eq_zero hn
  subst hl
  rw [List.take_nil]; exact h
 refine row_close hb (by simp; omega) h2 h3 (take_of_get (i64s_len _) fun j hj => ?_)
 have hjk : j < k := by simp at hj; omega
 rw [get_of_take h4 (by omega)]
 simp [i64s, List.getElem?_take_of_lt hjk]
theorem set_any (A : Option Addr) (c : Nat) (l : List Int) (k a : Int) (w0 : World) (h : (StE A c l).ok w0) (hs : l.Pairwise (· < ·)) (hb : l.length ≤ 100000) :
  Cq 182 #[.slice A l.length c, .int .i64 k, .int .i64 a] w0 fun en w' => ∃ A' c', en = .returned (.tuple #[.slice A' (setF l k a).1.length c', .int .i64 (setF l k a).2]) ∧ Inv (StE A c l).D w0 w' [StE A' c' (setF l k a).1] := by
 have hI := Inv.ownE h
 have hpl := posF_le l a
 refine Vm func182 Z (Wq (Vg Z (Vb Z (Wn (Wq (Va Z (V0 Z (Vd [.slice _ _ _, Y _] Z func200 Z ((bsearch_any A c l a _ (hI.ok _ (by simp)) hs (by omega)).mono (okP hI fun w1 hp hI => T4 Z (Vj Z (Vj Z (Vb Z (Vc Z (Wn (Ws (Wb ?_)))))))))))))))))
 by_cases hm : a ∈ l
 ·rw [decide_eq_true hm]
  have hlt : posF l a < l.length := by
   rcases Nat.lt_or_ge (posF l a) l.length with h1 | h1
   ·exact h1
   obtain ⟨h2, h3⟩ := posF_split l a hs
   rw [List.take_of_length_le h1] at h2
   have := h2 a hm
   omega
  by_cases k7 : k = 7
  ·have e : setF l k a = (delF l a, 1) := by unfold setF; rw [if_neg (by omega), if_pos ⟨k7, hm⟩]
   refine Wq (V0 Z (Vs Z (V7 Z (V5 Z (V5 Z (Vi Z (Vc Z (Yf Z (Wq (V0 Z (Vx Z (V7 Z (V7 Z (Vk Z (Vc Z (Yt Z (Wq (Va Z (V0 Z (V0 Z (Vl Z (Vd [.slice _ _ _, Y _, Y _] Z func202 Z ((delete_any A c l (posF l a) _ (hI.ok _ (by simp)) hlt (by omega)).mono ?_)))))))))))))))))))))))
   rintro e w1 ⟨rfl, hT⟩
   refine rV ?_
   have hI := hI.turn1 hT
   refine Vg Z (Vb Z (Wn (WR (r2_ 6 7 Z ⟨A, c, ?_, ?_⟩))))
   ·rw [e]
    have hl : (delF l a).length = l.length - 1 := by unfold delF; simp; omega
    rw [hl]; rfl
   rw [e]; exact hI
  by_cases k6 : k = 6
  ·have e : setF l k a = (l, 0) := by unfold setF; rw [if_neg (fun h => h.2 hm), if_neg (by omega), decide_eq_false (by omega)]; rfl
   refine Wq (V0 Z (Vx Z (V7 Z (V7 Z (Tf Z (Vk Z (Vc Z (Yf Z (Wq (V0 Z (Vs Z (V7 Z (V5 Z (Vi Z (Vc Z (Yf Z (Wk (Wq (Va Z (V0 Z (Vs Z (V7 Z (V5 Z (Vi Z (Vd [.bool _] Z func183 Z ((one_any _ _).mono (okP hI fun w1 hp2 hI => Vg Z (Vb Z (Wn (WR (r2_ 6 7 Z ⟨A, c, by rw [e]; rfl, by rw [e]; exact hI⟩)))))))))))))))))))))))))))))))
  by_cases k8 : k = 8
  ·have e : setF l k a = (l, 1) := by unfold setF; rw [if_neg (fun h => h.2 hm), if_neg (by omega), decide_eq_true ⟨k8, hm⟩]; rfl
   refine Wq (V0 Z (Vs Z (V7 Z (V5 Z (V5 Z (Vi Z (Vc Z (Yf Z (Wq (V0 Z (Vs Z (V7 Z (V5 Z (Vi Z (Vc Z (Yf Z (Wk (Wq (Va Z (V0 Z (Vx Z (V7 Z (V7 Z (Vk Z (Vd [.bool _] Z func183 Z ((one_any _ _).mono (okP hI fun w1 hp2 hI => Vg Z (Vb Z (Wn (WR (r2_ 6 7 Z ⟨A, c, by rw [e]; rfl, by rw [e]; exact hI⟩)))))))))))))))))))))))))))))))
  have e : setF l k a = (l, 0) := by unfold setF; rw [if_neg (fun h => h.2 hm), if_neg (by omega), decide_eq_false (by omega)]; rfl
  refine Wq (V0 Z (Vs Z (V7 Z (V5 Z (V5 Z (Vi Z (Vc Z (Yf Z (Wq (V0 Z (Vs Z (V7 Z (V5 Z (Vi Z (Vc Z (Yf Z (Wk (Wq (Va Z (V0 Z (Vs Z (V7 Z (V5 Z (Vi Z (Vd [.bool _] Z func183 Z ((one_any _ _).mono (okP hI fun w1 hp2 hI => Vg Z (Vb Z (Wn (WR (r2_ 6 7 Z ⟨A, c, by rw [e]; rfl, by rw [e]; exact hI⟩)))))))))))))))))))))))))))))))
 rw [decide_eq_false hm]
 by_cases k6 : k = 6
 ·have e : setF l k a = (insF l a, 1) := by unfold setF; rw [if_pos ⟨k6, hm⟩]
  refine Wq (V0 Z (Vx Z (V7 Z (V7 Z (To Z (Vk Z (Vc Z (Yt Z (Wq (Va Z (V0 Z (V0 Z (T3 [(0, Y _)] [_] [Y 0] [0] hI Z yy41 (fun _ => by kernel_rfl) ?_)))))))))))))
  rintro b26 w - - hI
  refine Vd [.slice _ _ _, Y _, .slice _ _ _] Z func201 Z ((insert_any A c l (posF l a) a b26 _ (hI.ok (StE A c l) (by simp)) hpl hI.g0 (fun he => ?_) (by omega)).mono ?_)
  ·exact hI.disj (i := 1) (j := 0) Z Z (by omega) b26 he Z
  rintro e w1 ⟨A', c', rfl, hT⟩
  refine rV ?_
  have hI := hI.d0.turn1 hT
  refine Vg Z (Vb Z (Wn (WR (r2_ 6 7 Z ⟨A', c', ?_, ?_⟩))))
  ·rw [e]
   have hl : (insF l a).length = l.length + 1 := by unfold insF; simp; omega
   rw [hl]; rfl
  rw [e]; exact hI
 have e : setF l k a = (l, 0) := by unfold setF; rw [if_neg (by omega), if_neg (fun h => hm h.2), decide_eq_false (fun h => hm h.2)]; rfl
 by_cases k7 : k = 7
 ·refine Wq (V0 Z (Vs Z (V7 Z (V5 Z (V5 Z (Vi Z (Vc Z (Yf Z (Wq (V0 Z (Vx Z (V7 Z (V7 Z (Vk Z (Vc Z (Yf Z (Wk (Wq (Va Z (V0 Z (Vs Z (V7 Z (V5 Z (Vi Z (Vd [.bool _] Z func183 Z ((one_any _ _).mono (okP hI fun w1 hp2 hI => Vg Z (Vb Z (Wn (WR (r2_ 6 7 Z ⟨A, c, by rw [e]; rfl, by rw [e]; exact hI⟩)))))))))))))))))))))))))))))))
 by_cases k8 : k = 8
 ·refine Wq (V0 Z (Vs Z (V7 Z (V5 Z (V5 Z (Vi Z (Vc Z (Yf Z (Wq (V0 Z (Vs Z (V7 Z (V5 Z (Vi Z (Vc Z (Yf Z (Wk (Wq (Va Z (V0 Z (Vx Z (V7 Z (V7 Z (Vk Z (Vd [.bool _] Z func183 Z ((one_any _ _).mono (okP hI fun w1 hp2 hI => Vg Z (Vb Z (Wn (WR (r2_ 6 7 Z ⟨A, c, by rw [e]; rfl, by rw [e]; exact hI⟩)))))))))))))))))))))))))))))))
 refine Wq (V0 Z (Vs Z (V7 Z (V5 Z (V5 Z (Vi Z (Vc Z (Yf Z (Wq (V0 Z (Vs Z (V7 Z (V5 Z (Vi Z (Vc Z (Yf Z (Wk (Wq (Va Z (V0 Z (Vs Z (V7 Z (V5 Z (Vi Z (Vd [.bool _] Z func183 Z ((one_any _ _).mono (okP hI fun w1 hp2 hI => Vg Z (Vb Z (Wn (WR (r2_ 6 7 Z ⟨A, c, by rw [e]; rfl, by rw [e]; exact hI⟩)))))))))))))))))))))))))))))))
theorem i64s_app (l : List Int) (a : Int) : i64s (l ++ [a]) = i64s l ++ [.int .i64 a] := by simp [i64s]
theorem Rd_tail {w : World} {g o c : Nat} {l : List Int} (h : Rd w (fun _ => True) 1 (.slice (some ⟨g, o, none⟩) l.length c) l.length (i64s l)) (h2 : 2 ≤ l.length) : Rd w (fun _ => True) 1 (.slice (some ⟨g, o + 1 * 1, none⟩) (l.drop 1).length (c - 1)) (l.drop 1).length (i64s (l.drop 1)) := by
 obtain ⟨A1, c1, hv, hnc, hcm, hlen, hcell⟩ := h
 injection hv with e1 e2 e3
 subst e1 e3
 obtain ⟨b, o', hbo, _, hcl⟩ := hcell (by omega)
 injection hbo with hbo
 injection hbo with e4 e5
 subst e4 e5
 refine ⟨_, _, Z, by simp; omega, by omega, by simp [i64s], fun _ => ⟨g, o + 1 * 1, rfl, trivial, fun j u hj => ?_⟩⟩
 have : (i64s l)[1 + j]? = some u := by rw [← hj]; simp [i64s, List.getElem?_drop, Nat.add_comm]
 have := hcl (1 + j) u this
 rwa [Nat.mul_one, Nat.add_assoc]
theorem Rd_none {w : World} {A : Option Addr} {c : Nat} (hc : c ≤ 9223372036854775807) : Rd w (fun _ => True) 1 (.slice A ([] : List Int).length c) ([] : List Int).length (i64s []) :=
 ⟨A, c, rfl, Nat.zero_le _, hc, rfl, fun h => absurd h (Nat.lt_irrefl 0)⟩
theorem line_any (o : Int) (A : Option Addr) (c : Nat) (l : List Int) (k a : Int) (w0 : World) (h : (StE A c l).ok w0) (hb : l.length ≤ 100000) :
  Cq 184 #[.int .i64 o, .slice A l.length c, .int .i64 k, .int .i64 a] w0 fun en w' => ∃ A' c', en = .returned (.tuple #[.slice A' (lineF o l k a).1.length c', .int .i64 (lineF o l k a).2]) ∧ Inv (StE A c l).D w0 w' [StE A' c' (lineF o l k a).1] := by
 have hI := Inv.ownE h
 refine Vm func184 Z (Wq (Vg Z (Vb Z (Wn ?_))))
 rcases Nat.eq_zero_or_pos l.length with h00 | h00
 ·have hl : l = [] := List.eq_nil_of_length_eq_zero h00
  subst hl
  refine Wq (Va Z (Vo Z yy41 Z (Uj Z (Vb Z (Wn (Ws (Wb ?_)))))))
  by_cases k9 : k = 9
  ·have e : lineF o [] k a = ([] ++ [a], 0) := by unfold lineF; rw [if_pos k9]
   refine Wq (V0 Z (Vx Z (Vc Z (Yt Z (Wq (Va Z (V0 Z (T3 [(0, Y _)] [_] [Y 0] [0] hI Z yy41 (fun _ => by kernel_rfl) ?_))))))))
   rintro b19 w - - hI
   refine WL_app1 (z := Y 0) (by_ := 8) hI Z Z Z Z Z Z yy41 (by kernel_rfl) Z (by omega) (by rfl) hI.lit0 (by rfl) (by omega) (by omega) (by exact Nat.zero_le _) ?_
   rintro A20 c20 w hA20 hc20 hI
   have hI := hI.d0
   refine Vg Z (Vb Z (Wn (WR (r2_ 8 9 Z ⟨A20, c20, ?_, ?_⟩))))
   ·rw [e]; rfl
   rw [e]; exact hI
  refine Wq (V0 Z (Vs Z (Vc Z (Yf Z ?_))))
  have e : lineF o [] k a = ([], -1) := by unfold lineF; rw [if_neg k9, if_pos rfl]
  exact Wq (V0 Z (Vu Z (Vc Z (Yt Z (Wq (Va Z (Vg Z (Vb Z (Wn (WR (r2_ 8 9 Z ⟨A, c, by rw [e]; rfl, by rw [e]; exact hI⟩)))))))))))
 refine Wq (Va Z (Vo Z yy41 Z (Wv Z (rDecN (b := 1) Z Z Z (by omega) (by omega)) (Vb Z (Wn (Ws (Wb ?_)))))))
 by_cases k9 : k = 9
 ·have e : lineF o l k a = (l ++ [a], 0) := by unfold lineF; rw [if_pos k9]
  refine Wq (V0 Z (Vx Z (Vc Z (Yt Z (Wq (Va Z (V0 Z (T3 [(0, Y _)] [_] [Y 0] [0] hI Z yy41 (fun _ => by kernel_rfl) ?_))))))))
  rintro b19 w - - hI
  refine WL_app1 (z := Y 0) (by_ := 8) hI Z Z Z Z Z Z yy41 (by kernel_rfl) Z (by omega) (by rfl) hI.lit0 (by rfl) (by omega) (by omega) (by exact Nat.zero_le _) ?_
  rintro A20 c20 w hA20 hc20 hI
  have hI := hI.d0
  refine Vg Z (Vb Z (Wn (WR (r2_ 8 9 Z ⟨A20, c20, ?_, ?_⟩))))
  ·rw [e]; simp only [List.length_append, List.length_cons, List.length_nil, Nat.zero_add]; rfl
  rw [e]
  have h' : Inv (StE A c l).D w0 w [Row 0 3 1 A20 (l.length + 1) c20 (i64s l ++ [.int .i64 a])] := hI
  rw [← i64s_app] at h'
  simpa [StE] using h'
 refine Wq (V0 Z (Vs Z (Vc Z (Yf Z ?_))))
 have h0 := h00
 have hne : l ≠ [] := fun e => by subst e; simp at h0
 obtain ⟨g, og, rfl⟩ := row_addrS h.1 h0 (by omega)
 have hcap : l.length ≤ c ∧ c ≤ 9223372036854775807 := by
  rcases row_open h.1 with ⟨hA, _⟩ | ⟨_, _, _, _, h1, h2, _⟩
  ·cases hA
  exact ⟨h1, h2⟩
 refine Wq (V0 Z (Vr Z (Vc Z (Yf Z ?_))))
 have c0 : (i64s l)[0]? = some (.int .i64 (l.getD 0 0)) := by simp [i64s, List.getD, gE_ h0]
 have c1 : (i64s l)[l.length - 1]? = some (.int .i64 (l.getD (l.length - 1) 0)) := by simp [i64s, List.getD, gE_ (show l.length - 1 < l.length by omega)]
 by_cases ho : o = 4
 ·have e : lineF o l k a = (l.drop 1, l.getD 0 0) := by unfold lineF; rw [if_neg k9, if_neg hne, if_pos ho]
  have hld : (l.drop 1).length = l.length - 1 := by simp
  refine Wq (V0 Z (Vx Z (Vc Z (Yt Z ?_))))
  rcases Nat.lt_or_ge 1 l.length with h2 | h2
  ·refine Ws (Yi hI fun Sx hY hXS hI => Vp 0 Z (Wt 1 Z (fun W hW => have hI := hY W hW; (by exact rSliceFrom (sz := 1) (i := 1) rfl yy41 (by kernel_rfl) rfl rfl (by omega) (by omega))) (Vp 3 Z (Wt 4 Z (fun W hW => have hI := hY W hW; (by exact rIdx1 (i := 0) rfl yy41 (by kernel_rfl) rfl rfl (by omega))) (V9 5 (Y _) Z (fun W hW => have hI := hY W hW; row_cellS hI.g0 c0 h0) (Vq 2 Z (Vd [.slice _ _ _] Z func119 Z ?_)))))))
   rw [← hld]
   refine (clone_any _ (c - 1) (l.drop 1) _ _ (Rd_tail (Row_rd hI.g0) h2) (by omega)).mono ?_
   rintro e1 w1 ⟨A', c', rfl, hT⟩
   refine rV ?_
   have hI := hI.app1 hT
   refine Wn ⟨hXS _ hI.d0, (U9 6 Z (Tl 7 Z (Yz (WR (r2_ 8 9 Z ⟨A', c', by rw [e]; rfl, by rw [e]; exact hI.d1⟩)))))⟩
  have hd0 : l.drop 1 = [] := List.drop_eq_nil_of_le h2
  refine Ws (Yi hI fun Sx hY hXS hI => Vp 0 Z (Wt 1 Z (fun W hW => have hI := hY W hW; (rSliceFromG (sz := 1) (i := 1) Z yy41 (by kernel_rfl) Z Z (by omega))) (Vp 3 Z (Wt 4 Z (fun W hW => have hI := hY W hW; (by exact rIdx1 (i := 0) rfl yy41 (by kernel_rfl) rfl rfl (by omega))) (V9 5 (Y _) Z (fun W hW => have hI := hY W hW; row_cellS hI.g0 c0 h0) (Vq 2 Z (Vd [.slice _ _ _] Z func119 Z ?_)))))))
  rw [show l.length - 1 = ([] : List Int).length from by simp; omega]
  refine (clone_any _ (c - 1) [] _ _ (Rd_none (by omega)) (by simp)).mono ?_
  rintro e1 w1 ⟨A', c', rfl, hT⟩
  refine rV ?_
  have hI := hI.app1 hT
  refine Wn ⟨hXS _ hI.d0, (U9 6 Z (Tl 7 Z (Yz (WR (r2_ 8 9 Z ⟨A', c', by rw [e, hd0]; rfl, by rw [e, hd0]; exact hI.d1⟩)))))⟩
 have e : lineF o l k a = (l.take (l.length - 1), l.getD (l.length - 1) 0) := by unfold lineF; rw [if_neg k9, if_neg hne, if_neg ho]
 refine Wq (V0 Z (Vs Z (Vc Z (Yf Z (Wk (Ws (Yi hI fun Sx hY hXS hI => Vp 0 Z (Vh 1 Z (Wt 2 Z (fun W hW => have hI := hY W hW; (rSliceTo (sz := 1) (i := l.length - 1) Z yy41 (by kernel_rfl) Z Z (by omega))) (Vp 3 Z (Vh 4 Z (Uo 5 Z yy41 Z (V9 6 (Y _) Z (fun W hW => have hI := hY W hW; row_cellS hI.g0 c1 h0) (U9 7 Z (Tl 8 Z (Yz (WR (r2_ 8 9 Z ⟨some ⟨g, og, none⟩, c, ?_, ?_⟩))))))))))))))))))
 ·rw [e]
  have hl : (l.take (l.length - 1)).length = l.length - 1 := by simp
  rw [hl]; rfl
 rw [e]
 exact hI.u0 (e' := StE (some ⟨g, og, none⟩) c (l.take (l.length - 1))) (Chg.refl _ _) (Row_part (hI.ok _ (by simp)) _ (by omega)) (fun k hk => .inl hk)
def StepPost (o : Int) (st : List Int) (k a b : Int) (w0 : World) (en : Ending) (w' : World) : Prop :=
 match stepF o st k a b with
 | none => en = .returned (.tuple #[.slice none 0 0, .int .i64 0, .bool false]) ∧ Pure w0 w'
 | some (st', r) => ∃ A' c', en = .returned (.tuple #[.slice A' st'.length c', .int .i64 r, .bool true]) ∧ Inv NF w0 w' [StE A' c' st']
theorem StepPost.none {o : Int} {st : List Int} {k a b : Int} {w0 w' : World} (h : stepF o st k a b = .none) (hp : Pure w0 w') : StepPost o st k a b w0 (.returned (.tuple #[.slice none 0 0, .int .i64 0, .bool false])) w' := by
 unfold StepPost; rw [h]; exact ⟨rfl, hp⟩
theorem StepPost.some {o : Int} {st st' : List Int} {k a b r : Int} {w0 w' : World} {A' : Option Addr} {c' n' : Nat} (h : stepF o st k a b = .some (st', r)) (hn : n' = st'.length) (hI : Inv NF w0 w' [StE A' c' st']) : StepPost o st k a b w0 (.returned (.tuple #[.slice A' n' c', .int .i64 r, .bool true])) w' := by
 unfold StepPost; rw [h]; subst hn; exact ⟨A', c', rfl, hI⟩
theorem knows_cases {o k : Int} (h : knowsF o k = true) : o = 1 ∨ o = 2 ∨ o = 3 ∨ o = 4 ∨ o = 5 ∨ o = 6 := by
 rcases Classical.em (o < 1 ∨ 6 < o) with h1 | h1
 ·rw [knows_out o k (by omega)] at h; cases h
 omega
theorem lit1 {S : Nat → Prop} {w0 w : World} {H : List Ent} {g : Nat} {z : Int} (hI : Inv S w0 w (B g 3 #[.int .i64 z] :: H)) : Inv S w0 w (StE (some ⟨g, 0, none⟩) 1 [z] :: H) :=
 hI.u0 (e' := StE (some ⟨g, 0, none⟩) 1 [z]) (Chg.refl _ _) (Row.of_blk hI.g0 (Nat.zero_le _) rfl (by simp)) (fun k hk => .inl (by have : some g = some k := hk; injection this with this; exact this.symm))
theorem step_any (o : Int) (A : Option Addr) (c : Nat) (st : List Int) (k a b : Int) (D : Nat → Prop) (w0 : World) (h : Rd w0 D 1 (.slice A st.length c) st.length (i64s st)) (hs : okSt o st) (hb : st.length ≤ 100000) (hk : KnOk w0) :
  Cq 172 #[.int .i64 o, .slice A st.length c, .int .i64 k, .int .i64 a, .int .i64 b] w0 (StepPost o st k a b w0) := by
 have hI := Inv.start (fun _ => False) w0
 refine Vm func172 Z (Wq (Vg Z (Vb Z (Vc Z (Wn ?_)))))
 by_cases hkn : knowsF o k = true
 rotate_left
 ·have hkn : knowsF o k = false := by simpa using hkn
  refine Ws (Wq (V0 Z (V0 Z (Vd [Y _, Y _] Z func167 Z ((knows_any o k _ (hk.pure hI.pu)).mono ?_)))))
  rw [hkn]
  rintro e w1 ⟨rfl, hp⟩
  refine rV ?_
  have hI := hI.pure hp
  exact To Z (V7 Z (V5 Z (V5 Z (V5 Z (V5 Z (V5 Z (V5 Z (V5 Z (Vk Z (Yt Z (Ws (Wr (Vg Z (Vb Z (Vc Z (Wn (WR (ret3 10 11 12 (.inr Z) Z (StepPost.none (by unfold stepF; rw [if_pos (.inl hkn)]) hI.pu)))))))))))))))))))
 by_cases hsi : singleF o = true ∧ st.length ≠ 1
 ·refine Ws (Wq (V0 Z (V0 Z (Vd [Y _, Y _] Z func167 Z ((knows_any o k _ (hk.pure hI.pu)).mono ?_)))))
  rw [hkn]
  rintro e w1 ⟨rfl, hp⟩
  refine rV ?_
  have hI := hI.pure hp
  refine Tf Z (V7 Z (V0 Z (Vd [Y _] Z func168 Z ((single_any o _).mono ?_))))
  rw [hsi.1]
  rintro e w1 ⟨rfl, hp⟩
  refine rV ?_
  have hI := hI.pure hp
  exact V7 Z (Va Z (Vo Z yy41 Z (Tn Z (Vk Z (Vi Z (Yt Z (Wq (Vg Z (Vb Z (Vc Z (Wn (WR (ret3 10 11 12 (.inr Z) Z (StepPost.none (by unfold stepF; rw [if_pos (.inr hsi)]) hI.pu))))))))))))))
 have hgo : ¬ (knowsF o k = false ∨ (singleF o = true ∧ st.length ≠ 1)) := fun hh => by
  rcases hh with hh | hh
  ·rw [hkn] at hh; cases hh
  exact hsi hh
 refine Wx (fun ρ w => Has ρ [(0, Y o), (1, .slice A st.length c), (2, Y k), (3, Y a), (4, Y b)] ∧ Inv NF w0 w []) ?_ ?_
 ·cases hsg : singleF o with
  | true =>
   have hl1 : st.length = 1 := by
    rcases Classical.em (st.length = 1) with h1 | h1
    ·exact h1
    exact absurd ⟨hsg, h1⟩ hsi
   refine Wq (V0 Z (V0 Z (Vd [Y _, Y _] Z func167 Z ((knows_any o k _ (hk.pure hI.pu)).mono ?_))))
   rw [hkn]
   rintro e w1 ⟨rfl, hp⟩
   refine rV ?_
   have hI := hI.pure hp
   refine Tf Z (V7 Z (V0 Z (Vd [Y _] Z func168 Z ((single_any o _).mono ?_))))
   rw [hsg]
   rintro e w1 ⟨rfl, hp⟩
   refine rV ?_
   have hI := hI.pure hp
   exact V7 Z (Va Z (Vo Z yy41 Z (Ty Z (Vk Z (Vi Z (Yf Z (Wk ⟨g5_, hI⟩)))))))
  | false =>
   refine Wq (V0 Z (V0 Z (Vd [Y _, Y _] Z func167 Z ((knows_any o k _ (hk.pure hI.pu)).mono ?_))))
   rw [hkn]
   rintro e w1 ⟨rfl, hp⟩
   refine rV ?_
   have hI := hI.pure hp
   refine Tf Z (V7 Z (V0 Z (Vd [Y _] Z func168 Z ((single_any o _).mono ?_))))
   rw [hsg]
   rintro e w1 ⟨rfl, hp⟩
   refine rV ?_
   have hI := hI.pure hp
   exact V7 Z (V5 Z (V5 Z (V5 Z (Vi Z (Vi Z (Yf Z (Wk ⟨g5_, hI⟩)))))))
 clear hI
 rintro ρ w ⟨hH, hI⟩
 obtain ⟨σ, rfl⟩ := hH.open
 have one : singleF o = true → ∃ bA oA z, A = some ⟨bA, oA, none⟩ ∧ st = [z] ∧ w0.cell? ⟨bA, oA, none⟩ = some (.int .i64 z) := by
  intro hsg
  have hl1 : st.length = 1 := by
   rcases Classical.em (st.length = 1) with h1 | h1
   ·exact h1
   exact absurd ⟨hsg, h1⟩ hsi
  obtain ⟨z, rfl⟩ : ∃ z, st = [z] := List.length_eq_one_iff.1 hl1
  obtain ⟨b', o', h1, _, _, h2⟩ := h.get (k := 0) (u := .int .i64 z) rfl (by simp)
  exact ⟨b', o', z, h1, Z, h2⟩
 have hcl := fun (W : World) (hp : Pure w0 W) => clone_any A c st D W (h.pure hp) (by omega)
 rcases knows_cases hkn with rfl | rfl | rfl | rfl | rfl | rfl
 ·-- a register
  obtain ⟨bA, oA, z, rfl, rfl, hz⟩ := one rfl
  have e : stepF 1 [z] k a b = some ([(regF z k a b).1], (regF z k a b).2) := by unfold stepF; rw [if_neg hgo, if_pos rfl]; rfl
  refine Ws (Wq (V0 Z (Wn (Wb (Wq (Vx Z (Vc Z (Yt Z (Ws (Wr (Va Z (Wv Z (rIdx1 (i := 0) Z yy41 (by kernel_rfl) Z Z (by simp)) (V6 (Y _) Z (hI.oldp hz) (V0 Z (V0 Z (V0 Z (Vd [Y _, Y _, Y _, Y _] Z func181 Z ((register_any z k a b _).mono ?_))))))))))))))))))
  rintro e1 w1 ⟨rfl, hp⟩
  refine rV ?_
  have hI := hI.pure hp
  refine T4 Z (Vj Z (Vj Z (Vb Z (Vb Z (Wn (Wq (V0 Z (T3 [(0, Y _)] [_] [Y 0] [0] hI Z yy41 (fun _ => by kernel_rfl) ?_))))))))
  rintro b43 w - - hI
  exact V0 Z (Vg Z (Vb Z (Vc Z (Wn (WR (ret3 10 11 12 (.inr Z) Z (StepPost.some e Z (lit1 hI))))))))
 ·-- a counter
  obtain ⟨bA, oA, z, rfl, rfl, hz⟩ := one rfl
  refine Ws (Wq (V0 Z (Wn (Wb (Wq (Vs Z (Vc Z (Yf Z (Ws (Wr (Vx Z (Vc Z (Yt Z (Wq (Va Z (Wv Z (rIdx1 (i := 0) Z yy41 (by kernel_rfl) Z Z (by simp)) (V6 (Y _) Z (hI.oldp hz) (Vb Z (Wn ?_)))))))))))))))))))
  by_cases k4 : k = 4
  ·have e : stepF 2 [z] k a b = some ([IntKind.i64.wrap (z + a)], IntKind.i64.wrap (z + a)) := by unfold stepF; rw [if_neg hgo, if_neg (by decide), if_pos rfl, if_pos k4]; rfl
   refine Ws (Wq (V0 Z (Vx Z (Yt Z (Wr (V0 Z (V0 Z (Wv Z (rAddW Z Z Z) (Vb Z (Wn (Wq (V0 Z (T3 [(0, Y _)] [_] [Y 0] [0] hI Z yy41 (fun _ => by kernel_rfl) ?_)))))))))))))
   rintro b56 w - - hI
   exact V0 Z (Vg Z (Vb Z (Vc Z (Wn (WR (ret3 10 11 12 (.inr Z) Z (StepPost.some e Z (lit1 hI))))))))
  have e : stepF 2 [z] k a b = some ([z], z) := by unfold stepF; rw [if_neg hgo, if_neg (by decide), if_pos rfl, if_neg k4]; rfl
  refine Ws (Wq (V0 Z (Vs Z (Yf Z (Wk (Wq (V0 Z (T3 [(0, Y _)] [_] [Y 0] [0] hI Z yy41 (fun _ => by kernel_rfl) ?_))))))))
  rintro b56 w - - hI
  exact V0 Z (Vg Z (Vb Z (Vc Z (Wn (WR (ret3 10 11 12 (.inr Z) Z (StepPost.some e Z (lit1 hI))))))))
 ·-- a set
  have e : stepF 3 st k a b = some (setF st k a) := by unfold stepF; rw [if_neg hgo, if_neg (by decide), if_neg (by decide), if_pos rfl]
  refine Ws (Wq (V0 Z (Wn (Wb (Wq (Vs Z (Vc Z (Yf Z (Ws (Wr (Vs Z (Vc Z (Yf Z (Wq (Vx Z (Vc Z (Yt Z (Wq (Va Z (Vd [.slice _ _ _] Z func119 Z ((hcl _ hI.pu).mono ?_)))))))))))))))))))))
  rintro e1 w1 ⟨A1, c1, rfl, hT⟩
  refine rV ?_
  have hI := hI.app1 hT
  refine V0 Z (V0 Z (Vd [.slice _ _ _, Y _, Y _] Z func182 Z ((set_any A1 c1 st k a _ (hI.ok (StE A1 c1 st) (by simp)) (hs Z) hb).mono ?_)))
  rintro e1 w1 ⟨A2, c2, rfl, hT2⟩
  refine rV ?_
  have hI := hI.turn1 hT2
  exact T4 Z (Vj Z (Vj Z (Vg Z (Vb Z (Wn (Wq (Va Z (V0 Z (Vg Z (Vb Z (Vc Z (Wn (WR (ret3 10 11 12 (.inr Z) Z (StepPost.some (st' := (setF st k a).1) (r := (setF st k a).2) e Z hI)))))))))))))))
 ·-- a line
  have e : stepF 4 st k a b = some (lineF 4 st k a) := by unfold stepF; rw [if_neg hgo, if_neg (by decide), if_neg (by decide), if_neg (by decide), if_neg (by decide)]
  refine Ws (Wq (V0 Z (Wn (Wb (Wq (Vs Z (Vc Z (Yf Z (Ws (Wr (Vs Z (Vc Z (Yf Z (Wq (Vs Z (Vc Z (Yf Z (Wq (Vs Z (Vc Z (Yf Z (Wk (Wq (V0 Z (Va Z (Vd [.slice _ _ _] Z func119 Z ((hcl _ hI.pu).mono ?_)))))))))))))))))))))))))))
  rintro e1 w1 ⟨A1, c1, rfl, hT⟩
  refine rV ?_
  have hI := hI.app1 hT
  refine V0 Z (V0 Z (Vd [Y _, .slice _ _ _, Y _, Y _] Z func184 Z ((line_any 4 A1 c1 st k a _ (hI.ok (StE A1 c1 st) (by simp)) hb).mono ?_)))
  rintro e1 w1 ⟨A2, c2, rfl, hT2⟩
  refine rV ?_
  have hI := hI.turn1 hT2
  exact T4 Z (Vj Z (Vj Z (Vg Z (Vb Z (Wn (Wq (Va Z (V0 Z (Vg Z (Vb Z (Vc Z (Wn (WR (ret3 10 11 12 (.inr Z) Z (StepPost.some (st' := (lineF 4 st k a).1) (r := (lineF 4 st k a).2) e Z hI)))))))))))))))
 ·-- a line
  have e : stepF 5 st k a b = some (lineF 5 st k a) := by unfold stepF; rw [if_neg hgo, if_neg (by decide), if_neg (by decide), if_neg (by decide), if_neg (by decide)]
  refine Ws (Wq (V0 Z (Wn (Wb (Wq (Vs Z (Vc Z (Yf Z (Ws (Wr (Vs Z (Vc Z (Yf Z (Wq (Vs Z (Vc Z (Yf Z (Wq (Vs Z (Vc Z (Yf Z (Wk (Wq (V0 Z (Va Z (Vd [.slice _ _ _] Z func119 Z ((hcl _ hI.pu).mono ?_)))))))))))))))))))))))))))
  rintro e1 w1 ⟨A1, c1, rfl, hT⟩
  refine rV ?_
  have hI := hI.app1 hT
  refine V0 Z (V0 Z (Vd [Y _, .slice _ _ _, Y _, Y _] Z func184 Z ((line_any 5 A1 c1 st k a _ (hI.ok (StE A1 c1 st) (by simp)) hb).mono ?_)))
  rintro e1 w1 ⟨A2, c2, rfl, hT2⟩
  refine rV ?_
  have hI := hI.turn1 hT2
  exact T4 Z (Vj Z (Vj Z (Vg Z (Vb Z (Wn (Wq (Va Z (V0 Z (Vg Z (Vb Z (Vc Z (Wn (WR (ret3 10 11 12 (.inr Z) Z (StepPost.some (st' := (lineF 5 st k a).1) (r := (lineF 5 st k a).2) e Z hI)))))))))))))))
 obtain ⟨bA, oA, z, rfl, rfl, hz⟩ := one rfl
 refine Ws (Wq (V0 Z (Wn (Wb (Wq (Vs Z (Vc Z (Yf Z (Ws (Wr (Vs Z (Vc Z (Yf Z (Wq (Vs Z (Vc Z (Yf Z (Wq (Vx Z (Vc Z (Yt Z ?_)))))))))))))))))))))
 by_cases hz1 : z = oneF (k == 12)
 ·have e : stepF 6 [z] k a b = some ([oneF (k == 11)], 0) := by unfold stepF; rw [if_neg hgo, if_neg (by decide), if_neg (by decide), if_neg (by decide), if_pos rfl, if_pos (by simpa using hz1)]
  refine Ws (Ws (Yi hI fun Sx hY hXS hI => Vp 0 Z (Wt 1 Z (fun W hW => have hI := hY W hW; (rIdx1 (i := 0) Z yy41 (by kernel_rfl) Z Z (by simp))) (V9 2 (Y _) Z (Yo hY hz) (Vh 3 Z (Wt 4 Z (fun W hW => have hI := hY W hW; (rEql Z Z Z)) (Vq 5 Z (Vd [.bool _] Z func183 Z ((one_any (k == 12) _).mono ?_)))))))))
  rw [← hz1]
  rintro e1 w1 ⟨rfl, hp⟩
  refine rV ?_
  have hI := hI.pure hp
  refine Wn ⟨hXS _ hI, (Tu 6 Z (Yz (Wc false Z (Wk (Wq (V0 Z (Wv Z (rEql Z Z Z) (Vd [.bool _] Z func183 Z ((one_any (k == 11) _).mono ?_)))))))))⟩
  rintro e1 w1 ⟨rfl, hp⟩
  refine rV ?_
  have hI := hI.pure hp
  refine T3 [(0, Y _)] [_] [Y 0] [0] hI Z yy41 (fun _ => by kernel_rfl) ?_
  rintro b82 w - - hI
  exact Vg Z (Vb Z (Vc Z (Wn (WR (ret3 10 11 12 (.inr Z) Z (StepPost.some e Z (lit1 hI)))))))
 have e : stepF 6 [z] k a b = none := by unfold stepF; rw [if_neg hgo, if_neg (by decide), if_neg (by decide), if_neg (by decide), if_pos rfl, if_neg (by simpa using hz1)]
 refine Ws (Ws (Yi hI fun Sx hY hXS hI => Vp 0 Z (Wt 1 Z (fun W hW => have hI := hY W hW; (rIdx1 (i := 0) Z yy41 (by kernel_rfl) Z Z (by simp))) (V9 2 (Y _) Z (Yo hY hz) (Vh 3 Z (Wt 4 Z (fun W hW => have hI := hY W hW; (rEql Z Z Z)) (Vq 5 Z (Vd [.bool _] Z func183 Z ((one_any (k == 12) _).mono ?_)))))))))
 generalize hzz : oneF (k == 12) = zz at hz1 ⊢
 rintro e1 w1 ⟨rfl, hp⟩
 refine rV ?_
 have hI := hI.pure hp
 exact Wn ⟨hXS _ hI, (U4 6 Z (Yz (Wc true Z (Wq (Vg Z (Vb Z (Vc Z (Wn (WR (ret3 10 11 12 (.inr Z) Z (StepPost.none e hI.pu)))))))))))⟩
def OpsR (w : World) (D : Nat → Prop) (v : Value) (l : List Op8) : Prop := Rd w D 8 v l.length (l.flatMap opV)
theorem OpsR.pure {w w' : World} {D : Nat → Prop} {v : Value} {l : List Op8} (h : OpsR w D v l) (hp : Pure w w') : OpsR w' D v l := Rd.pure h hp
theorem OpsR.at {w : World} {D : Nat → Prop} {A : Option Addr} {n c : Nat} {l : List Op8} (h : OpsR w D (.slice A n c) l) {k : Nat} (hk : k < l.length) : ∃ b o, A = some ⟨b, o, none⟩ ∧ ∀ (j : Nat) (u : Value), (opV (oAt l k))[j]? = some u → w.cell? ⟨b, o + k * 8 + j, none⟩ = some u := by
 obtain ⟨A1, c1, hv, hnc, hcm, hlen, hcell⟩ := h
 injection hv with e1 e2 e3
 subst e1 e3
 obtain ⟨b, o, hbo, _, hcl⟩ := hcell (by omega)
 refine ⟨b, o, hbo, fun j u hj => ?_⟩
 have hj8 : j < 8 := by have := (gS_ hj).1; simpa [opV] using this
 have hg : l[k]? = some (oAt l k) := by unfold oAt; rw [List.getD_eq_getElem?_getD, gE_ hk]; rfl
 rw [Nat.add_assoc]
 refine hcl _ u ?_
 rw [flatN (f := opV) (fun a => rfl) l k _ hg j hj8]
 exact hj
theorem OpsR.len {w : World} {D : Nat → Prop} {A : Option Addr} {n c : Nat} {l : List Op8} (h : OpsR w D (.slice A n c) l) : n = l.length ∧ n ≤ c ∧ c ≤ 9223372036854775807 := by
 obtain ⟨A', c', he, h1, h2⟩ := Rd.form h
 injection he with _ e2 e3
 subst e2 e3
 exact ⟨Z, h1, h2⟩
abbrev Loc := Nat → Option Addr × Nat
def updL (L : Loc) (k : Nat) (A : Option Addr) (c : Nat) : Loc := fun j => if j = k then (A, c) else L j
end Go.Proofs.YtnckdmogdehnoaaGreatDoor
