/- FarmBack. -/
import Derived.Test.YtlkobbighkiojaaGreatDoorPA
import Derived.Test.YtlkobbighkiojaaGreatDoorProg
import Derived.Test.YtlkobbighkiojaaGreatDoorPSxI
import Derived.Test.YtlkobbighkiojaaGreatDoorPEvo2
import Derived.Test.YtlkobbighkiojaaGreatDoorShelf
set_option maxHeartbeats 4000000
set_option linter.unusedVariables false
set_option linter.unusedSimpArgs false
namespace Go.Proofs.YtlkobbighkiojaaGreatDoor
open Tryz
open Go.RowKit
def knT : List Int := [0, 14, 48, 448, 1536, 1536, 6144]
abbrev KnOk (w : World) : Prop := ∀ i, i < 7 → w.cell? ⟨4, i, none⟩ = some (.int .i64 (knT.getD i 0))
theorem KnOk.pure {w w' : World} (h : KnOk w) (hp : Pure w w') : KnOk w' := fun i hi => ((Inv.start (fun _ => False) w).pure hp).oldp (h i hi)
theorem knows_in (o k : Int) (h1 : 1 ≤ o) (h2 : o ≤ 6) (h3 : 1 ≤ k) (h4 : k ≤ 12) : decide (IntKind.i64.wrap ((BitVec.ofInt 64 ((knT.getD o.toNat 0).fdiv (2 ^ min k.toNat 64)) &&& BitVec.ofInt 64 1).toNat : Int) = 1) = knowsF o k := by
 have ho : o = 1 ∨ o = 2 ∨ o = 3 ∨ o = 4 ∨ o = 5 ∨ o = 6 := by omega
 have hk : k = 1 ∨ k = 2 ∨ k = 3 ∨ k = 4 ∨ k = 5 ∨ k = 6 ∨ k = 7 ∨ k = 8 ∨ k = 9 ∨ k = 10 ∨ k = 11 ∨ k = 12 := by omega
 rcases ho with rfl | rfl | rfl | rfl | rfl | rfl <;> rcases hk with rfl | rfl | rfl | rfl | rfl | rfl | rfl | rfl | rfl | rfl | rfl | rfl <;> decide +kernel
theorem knows_out (o k : Int) (h : o < 1 ∨ 6 < o ∨ k < 1 ∨ 12 < k) : knowsF o k = false := by
 unfold knowsF
 have e : ∀ a b : Int, (a == b) = decide (a = b) := fun a b => rfl
 simp only [e]
 rcases h with h | h | h | h
 ·rw [decide_eq_false (show o ≠ 1 by omega), decide_eq_false (show o ≠ 2 by omega), decide_eq_false (show o ≠ 3 by omega), decide_eq_false (show o ≠ 4 by omega), decide_eq_false (show o ≠ 5 by omega), decide_eq_false (show o ≠ 6 by omega)]; rfl
 ·rw [decide_eq_false (show o ≠ 1 by omega), decide_eq_false (show o ≠ 2 by omega), decide_eq_false (show o ≠ 3 by omega), decide_eq_false (show o ≠ 4 by omega), decide_eq_false (show o ≠ 5 by omega), decide_eq_false (show o ≠ 6 by omega)]; rfl
 ·rw [decide_eq_false (show k ≠ 1 by omega), decide_eq_false (show k ≠ 2 by omega), decide_eq_false (show k ≠ 3 by omega), decide_eq_false (show k ≠ 4 by omega), decide_eq_false (show k ≠ 5 by omega), decide_eq_false (show k ≠ 6 by omega), decide_eq_false (show k ≠ 7 by omega), decide_eq_false (show k ≠ 8 by omega), decide_eq_false (show k ≠ 9 by omega), decide_eq_false (show k ≠ 10 by omega), decide_eq_false (show k ≠ 11 by omega), decide_eq_false (show k ≠ 12 by omega)]; simp
 rw [decide_eq_false (show k ≠ 1 by omega), decide_eq_false (show k ≠ 2 by omega), decide_eq_false (show k ≠ 3 by omega), decide_eq_false (show k ≠ 4 by omega), decide_eq_false (show k ≠ 5 by omega), decide_eq_false (show k ≠ 6 by omega), decide_eq_false (show k ≠ 7 by omega), decide_eq_false (show k ≠ 8 by omega), decide_eq_false (show k ≠ 9 by omega), decide_eq_false (show k ≠ 10 by omega), decide_eq_false (show k ≠ 11 by omega), decide_eq_false (show k ≠ 12 by omega)]; simp
theorem knows_any (o k : Int) (w0 : World) (hk : KnOk w0) : Cq 130 #[.int .i64 o, .int .i64 k] w0 fun en w' => en = .returned (.bool (knowsF o k)) ∧ Pure w0 w' := by
 have hI := Inv.start (fun _ => False) w0
 refine Vn func130 rfl ?_
 refine Wq (V8 rfl (Wn ?_))
 by_cases h1 : o < 1
 ·refine Wq (V0 rfl (U5 rfl (V6 rfl (V4 rfl (V4 rfl (Ve rfl (V6 rfl (V4 rfl (V4 rfl (Ve rfl (V6 rfl (V4 rfl ?_))))))))))))
  refine V4 rfl (Ve rfl (V6 rfl (V4 rfl (V4 rfl (V4 rfl (V4 rfl (V4 rfl (V4 rfl (V4 rfl (Ve rfl (V8 rfl (Wn ?_))))))))))))
  exact WR (r1_ 4 rfl ⟨by rw [knows_out o k (by omega)]; rfl, hI.pu⟩)
 by_cases h2 : 6 < o
 ·refine Wq (V0 rfl (To rfl (V6 rfl (V0 rfl ?_))))
  refine Wv rfl (by exact rLeqF rfl rfl rfl (by omega)) ?_
  refine Vk rfl (V6 rfl (V4 rfl (V4 rfl (Ve rfl (V6 rfl (V4 rfl (V4 rfl (Ve rfl (V6 rfl (V4 rfl (V4 rfl (V4 rfl (V4 rfl ?_)))))))))))))
  refine V4 rfl (V4 rfl (V4 rfl (Ve rfl (V8 rfl (Wn ?_)))))
  exact WR (r1_ 4 rfl ⟨by rw [knows_out o k (by omega)]; rfl, hI.pu⟩)
 by_cases h3 : k < 1
 ·refine Wq (V0 rfl (To rfl (V6 rfl (V0 rfl (Up rfl (Vk rfl (V6 rfl (V0 rfl (U5 rfl (Vk rfl (V6 rfl (V4 rfl ?_))))))))))))
  refine V4 rfl (Ve rfl (V6 rfl (V4 rfl (V4 rfl (V4 rfl (V4 rfl (V4 rfl (V4 rfl (V4 rfl (Ve rfl (V8 rfl (Wn ?_))))))))))))
  exact WR (r1_ 4 rfl ⟨by rw [knows_out o k (by omega)]; rfl, hI.pu⟩)
 by_cases h4 : 12 < k
 ·refine Wq (V0 rfl (To rfl (V6 rfl (V0 rfl (Up rfl (Vk rfl (V6 rfl (V0 rfl (To rfl (Vk rfl (V6 rfl (V0 rfl ?_))))))))))))
  refine Wv rfl (by exact rLeqF rfl rfl rfl (by omega)) ?_
  refine Vk rfl (V6 rfl (V4 rfl (V4 rfl (V4 rfl (V4 rfl (V4 rfl (V4 rfl (V4 rfl (Ve rfl (V8 rfl (Wn ?_)))))))))))
  exact WR (r1_ 4 rfl ⟨by rw [knows_out o k (by omega)]; rfl, hI.pu⟩)
 have hc : w0.cell? ⟨4, 0 + o.toNat * 1, none⟩ = some (.int .i64 (knT.getD o.toNat 0)) := by
  rw [Nat.zero_add, Nat.mul_one]; exact hk o.toNat (by omega)
 refine Wq (V0 rfl (To rfl (V6 rfl (V0 rfl (Up rfl (Vk rfl (V6 rfl (V0 rfl (To rfl (Vk rfl (V6 rfl (V0 rfl ?_))))))))))))
 refine Up rfl (Vk rfl (V6 rfl (V0 rfl ?_)))
 refine Wv rfl (rIdxArr (sz := 1) (i := o.toNat) rfl underlying311 (by kernel_rfl) rfl rfl (by omega) (by omega)) ?_
 refine V5 (.int .i64 _) rfl (hI.oldp hc) (V0 rfl ?_)
 refine Wv rfl (rShrW rfl rfl rfl (by omega)) ?_
 refine Wv rfl (rBits (r := fun p q => p &&& q) rfl rfl rfl rfl) ?_
 refine Wv rfl (by exact rEql rfl rfl rfl) ?_
 refine Vk rfl (V8 rfl (Wn ?_))
 refine WR ?_
 refine r1_ 4 rfl ⟨?_, hI.pu⟩
 rw [← knows_in o k (by omega) (by omega) (by omega) (by omega)]
 rfl
theorem single_any (o : Int) (w0 : World) : Cq 131 #[.int .i64 o] w0 fun en w' => en = .returned (.bool (singleF o)) ∧ Pure w0 w' := by
 have hI := Inv.start (fun _ => False) w0
 refine Vn func131 rfl ?_
 refine Wq (V8 rfl (Wn ?_))
 by_cases h1 : o = 1
 ·subst h1
  refine Wq (V0 rfl (T5 rfl (V6 rfl (V4 rfl (V4 rfl (Vk rfl (V6 rfl (V4 rfl (V4 rfl (Vk rfl (V8 rfl (Wn ?_))))))))))))
  exact WR (r1_ 2 rfl ⟨rfl, hI.pu⟩)
 by_cases h2 : o = 2
 ·subst h2
  refine Wq (V0 rfl (Vw rfl (V6 rfl (V0 rfl (T5 rfl (Ve rfl (V6 rfl (V4 rfl (V4 rfl (Vk rfl (V8 rfl (Wn ?_))))))))))))
  exact WR (r1_ 2 rfl ⟨rfl, hI.pu⟩)
 have e : singleF o = decide (o = 6) := by
  unfold singleF
  have e : ∀ a b : Int, (a == b) = decide (a = b) := fun a b => rfl
  simp only [e]
  rw [decide_eq_false h1, decide_eq_false h2]; rfl
 by_cases h6 : o = 6
 ·refine Wq (V0 rfl (Vw rfl (V6 rfl (V0 rfl (Vw rfl (Ve rfl (V6 rfl (V0 rfl (T5 rfl (Ve rfl (V8 rfl (Wn ?_))))))))))))
  exact WR (r1_ 2 rfl ⟨by rw [e, decide_eq_true h6]; rfl, hI.pu⟩)
 refine Wq (V0 rfl (Vw rfl (V6 rfl (V0 rfl (Vw rfl (Ve rfl (V6 rfl (V0 rfl (Vw rfl (Ve rfl (V8 rfl (Wn ?_))))))))))))
 exact WR (r1_ 2 rfl ⟨by rw [e, decide_eq_false h6]; rfl, hI.pu⟩)
theorem one_any (b : Bool) (w0 : World) : Cq 174 #[.bool b] w0 fun en w' => en = .returned (.int .i64 (oneF b)) ∧ Pure w0 w' := by
 have hI := Inv.start (fun _ => False) w0
 refine Vn func174 rfl ?_
 refine Wq (Vc rfl (Wn (Ws (Wq (V6 rfl (Wn ?_))))))
 cases b with
 | true =>
  refine Wc true rfl (Wq (Vc rfl (Wn ?_)))
  exact WR (r1_ 2 rfl ⟨rfl, hI.pu⟩)
 | false =>
  refine Wc false rfl (Wk (Wq (Vc rfl (Wn ?_))))
  exact WR (r1_ 2 rfl ⟨rfl, hI.pu⟩)
theorem register_any (n k a b : Int) (w0 : World) : Cq 172 #[.int .i64 n, .int .i64 k, .int .i64 a, .int .i64 b] w0 fun en w' => en = .returned (.tuple #[.int .i64 (regF n k a b).1, .int .i64 (regF n k a b).2]) ∧ Pure w0 w' := by
 have hI := Inv.start (fun _ => False) w0
 refine Vn func172 rfl ?_
 refine Wq (Vc rfl (Vc rfl (Wn (Ws (Wb ?_)))))
 by_cases h1 : k = 1
 ·refine Wq (V0 rfl (T5 rfl (V8 rfl (Wn (Wc true rfl (Wq (V0 rfl (V0 rfl (Vc rfl (Vc rfl (Wn ?_)))))))))))
  exact WR (r2_ 8 9 rfl ⟨by unfold regF; rw [if_pos h1]; rfl, hI.pu⟩)
 refine Wq (V0 rfl (Vw rfl (V8 rfl (Wn (Wc false rfl ?_)))))
 by_cases h2 : k = 2
 ·refine Wq (V0 rfl (T5 rfl (V8 rfl (Wn (Wc true rfl (Wq (V0 rfl (Vc rfl (Vc rfl (Wn ?_))))))))))
  exact WR (r2_ 8 9 rfl ⟨by unfold regF; rw [if_neg h1, if_pos h2]; rfl, hI.pu⟩)
 refine Wq (V0 rfl (Vw rfl (V8 rfl (Wn (Wc false rfl ?_)))))
 by_cases h3 : n = a
 ·refine Wq (V0 rfl (V0 rfl (T5 rfl (V8 rfl (Wn (Wc true rfl (Wq (V0 rfl (Vc rfl (Vc rfl (Wn ?_)))))))))))
  exact WR (r2_ 8 9 rfl ⟨by unfold regF; rw [if_neg h1, if_neg h2, if_pos h3]; rfl, hI.pu⟩)
 refine Wq (V0 rfl (V0 rfl (Vw rfl (V8 rfl (Wn (Wc false rfl (Wk (Wq (V0 rfl (Vc rfl (Vc rfl ?_)))))))))))
 refine Wn ?_
 exact WR (r2_ 8 9 rfl ⟨by unfold regF; rw [if_neg h1, if_neg h2, if_neg h3]; rfl, hI.pu⟩)
abbrev StE (A : Option Addr) (c : Nat) (st : List Int) : Ent := Row 0 3 1 A st.length c (i64s st)
theorem start_any (o : Int) (w0 : World) : Cq 92 #[.int .i64 o] w0 fun en w' => ∃ A c, en = .returned (.slice A (startF o).length c) ∧ Inv NF w0 w' [StE A c (startF o)] := by
 have hI := Inv.start (fun _ => False) w0
 refine Vn func92 rfl ?_
 refine Wq (Vo rfl (Wn (Ws (Wq (V0 rfl (Va [.int .i64 _] rfl func131 rfl ?_))))))
 refine (single_any o _).mono (okP hI fun w1 hp hI => ?_)
 refine Wn ?_
 cases hs : singleF o with
 | true =>
  have e : startF o = [0] := by unfold startF; rw [hs]; rfl
  refine Wc true rfl (Wq (T3 [(0, .int .i64 _)] [_] [.int .i64 0] [0] hI rfl yy26 (fun _ => by kernel_rfl) ?_))
  rintro b5 w - - hI
  refine Vo rfl (Wn ?_)
  refine WR ?_
  refine r1_ 2 rfl ⟨some ⟨b5, 0, none⟩, 1, by rw [e]; rfl, ?_⟩
  rw [e]
  have hb := hI.g0
  exact hI.u0 (e' := StE (some ⟨b5, 0, none⟩) 1 [0]) (Chg.refl _ _) (Row.of_blk hb (Nat.zero_le _) rfl (by decide)) (fun k hk => .inl (by have : some b5 = some k := hk; injection this with this; exact this.symm))
 | false =>
  have e : startF o = [] := by unfold startF; rw [hs]; rfl
  refine Wc false rfl (Wk (Wq (Vo rfl (Wn ?_))))
  refine WR ?_
  refine r1_ 2 rfl ⟨none, 0, by rw [e]; rfl, ?_⟩
  rw [e]
  exact hI.fresh (Pure.refl _) (Row.nil _ 0 3 1) (fun k hk => by simp [Row] at hk)
section
variable {S : Nat → Prop} {w0 w w' : World} {H H' : List Ent} {e e' : Ent}
theorem Inv.ownE (h : e.ok w) : Inv e.D w w [e] :=
 ⟨Chg.refl _ w, fun x hx => by rcases List.mem_singleton.1 hx with rfl; exact h, fun x hx k hk => by rcases List.mem_singleton.1 hx with rfl; exact .inl hk, List.pairwise_singleton ..⟩
theorem Inv.one (hc : Chg e.D w w') (ho : e'.ok w') (hD : ∀ k, e'.D k → e.D k ∨ w.heap.size ≤ k) : Inv e.D w w' [e'] :=
 ⟨hc, fun x hx => by rcases List.mem_singleton.1 hx with rfl; exact ho, fun x hx k hk => by rcases List.mem_singleton.1 hx with rfl; exact hD k hk, List.pairwise_singleton ..⟩
theorem Inv.turn (h : Inv S w0 w (e :: H)) (h' : Inv e.D w w' H') : Inv S w0 w' (H' ++ H) := by
 have he := h.ok e (by simp)
 have hp := List.pairwise_cons.1 h.apart
 refine ⟨h.chg.trans' h'.chg fun k hk1 hk2 => ?_, fun x hx => ?_, fun x hx k hk => ?_, List.pairwise_append.2 ⟨h'.apart, hp.2, fun a ha b hb k h1 h2 => ?_⟩⟩
 ·rcases h.own e (by simp) k hk2 with h1 | h1
  ·exact h1
  omega
 ·rcases List.mem_append.1 hx with hx | hx
  ·exact h'.ok x hx
  exact (h.ok x (by simp [hx])).chg h'.chg (fun k hk hk2 => hp.1 x hx k hk2 hk)
 ·rcases List.mem_append.1 hx with hx | hx
  ·rcases h'.own x hx k hk with h1 | h1
   ·exact h.own e (by simp) k h1
   exact .inr (Nat.le_trans h.chg.size h1)
  exact h.own x (by simp [hx]) k hk
 rcases h'.own a ha k h1 with h3 | h3
 ·exact hp.1 b hb k h3 h2
 have := (h.ok b (by simp [hb])).2.1 k h2
 omega
theorem Inv.turn1 {a : Ent} (h : Inv S w0 w (e :: H)) (h' : Inv e.D w w' [a]) : Inv S w0 w' (a :: H) := h.turn h'
end
theorem row_open {w : World} {e n c : Nat} {A : Option Addr} {xs : List Value} (h : w.ownsRow 0 e 1 (.slice A n c) n xs) : (A = none ∧ n = 0 ∧ c = 0 ∧ xs = []) ∨ ∃ g cur, A = some ⟨g, 0, none⟩ ∧ Blk w g e cur ∧ n ≤ c ∧ c ≤ 9223372036854775807 ∧ cur.size = c ∧ cur.toList.take n = xs := by
 obtain ⟨hl, ⟨hv, hn⟩ | ⟨g, cap, cur, hv, _, hb, h1, h2, h3, h4⟩⟩ := h
 ·injection hv with e1 e2 e3
  subst e1 e3 hn
  exact .inl ⟨rfl, rfl, rfl, List.eq_nil_of_length_eq_zero (by simpa using hl)⟩
 injection hv with e1 e2 e3
 subst e1 e3
 exact .inr ⟨g, cur, rfl, hb, h1, by simpa [maxLen] using h2, by omega, by simpa using h4⟩
theorem row_close {w : World} {e g n c : Nat} {cur : Array Value} {xs : List Value} (hb : Blk w g e cur) (h1 : n ≤ c) (h2 : c ≤ 9223372036854775807) (h3 : cur.size = c) (h4 : cur.toList.take n = xs) : (Row 0 e 1 (some ⟨g, 0, none⟩) n c xs).ok w :=
 Row.ok ⟨by rw [← h4]; simp; omega, .inr ⟨g, c, cur, rfl, Nat.zero_le _, hb, h1, by simpa [maxLen] using h2, by omega, by simpa using h4⟩⟩
theorem ins_get {α : Type} (xs : List α) (i : Nat) (v : α) (hi : i ≤ xs.length) (j : Nat) : (xs.take i ++ v :: xs.drop i)[j]? = if j < i then xs[j]? else if j = i then some v else xs[j - 1]? := by
 have hl : (xs.take i).length = i := by simp; omega
 by_cases h1 : j < i
 ·rw [if_pos h1, List.getElem?_append_left (by omega), List.getElem?_take_of_lt h1]
 rw [if_neg h1, List.getElem?_append_right (by omega), hl]
 by_cases h2 : j = i
 ·rw [if_pos h2, h2, Nat.sub_self, List.getElem?_cons_zero]
 rw [if_neg h2, show j - i = (j - i - 1) + 1 by omega, List.getElem?_cons_succ, List.getElem?_drop, show i + (j - i - 1) = j - 1 by omega]
theorem take_of_get {cur : Array Value} {n : Nat} {ys : List Value} (hy : ys.length = n) (h : ∀ j, j < n → cur[j]? = ys[j]?) : cur.toList.take n = ys := by
 refine List.ext_getElem? fun j => ?_
 by_cases hj : j < n
 ·rw [List.getElem?_take_of_lt hj, Array.getElem?_toList, h j hj]
 rw [List.getElem?_eq_none (by simp; omega), List.getElem?_eq_none (by omega)]
theorem get_of_take {cur : Array Value} {n : Nat} {xs : List Value} (h : cur.toList.take n = xs) {j : Nat} (hj : j < n) : cur[j]? = xs[j]? := by
 rw [← h, List.getElem?_take_of_lt hj, Array.getElem?_toList]
theorem one_i64s (l : List Int) : ∀ v ∈ i64s l, v.oneCell' = true := by
 intro v hv
 obtain ⟨z, _, rfl⟩ := List.mem_map.1 hv
 rfl
theorem i64s_ins (l : List Int) (i : Nat) (a : Int) : i64s (l.take i ++ a :: l.drop i) = (i64s l).take i ++ .int .i64 a :: (i64s l).drop i := by simp [i64s, List.map_take, List.map_drop]
theorem zc_size (n : Nat) : (Builtin.zeroCells (Value.int .i64 0).cells n).size = n := by simp [Builtin.zeroCells, Value.cells]
theorem blk_shape {w : World} {g t : Nat} {cs : Array Value} (h : Blk w g t cs) : w.shape? g = some (t, cs.size) := by unfold World.shape?; rw [show w.heap[g]? = _ from h]
theorem insert_any (A : Option Addr) (c : Nat) (l : List Int) (i : Nat) (a : Int) (vb : Nat) (w : World) (hR : (StE A c l).ok w) (hi : i ≤ l.length) (hv : Blk w vb 3 #[.int .i64 a]) (hne : A.map (·.block) ≠ some vb) (hbig : l.length + 1 ≤ 1000000) :
  Cq 200 #[.slice A l.length c, .int .i64 (i : Int), .slice (some ⟨vb, 0, none⟩) 1 1] w fun en w' => ∃ A' c', en = .returned (.slice A' (l.length + 1) c') ∧ Inv (StE A c l).D w w' [StE A' c' (l.take i ++ a :: l.drop i)] := by
 have hlen : (l.take i ++ a :: l.drop i).length = l.length + 1 := by simp; omega
 have hxl : (i64s l).length = l.length := by simp [i64s]
 have hvs : ∀ (j : Nat) (v : Value), [Value.int .i64 a][j]? = some v → w.cell? ⟨vb, 0 + j, none⟩ = some v := fun j v hj => by rw [Nat.zero_add, hv.cell]; simpa using hj
 have h1v : ∀ v ∈ [Value.int .i64 a], v.oneCell' = true := by intro v hv; simp at hv; subst hv; rfl
 rcases row_open hR.1 with ⟨rfl, hn, rfl, hx⟩ | ⟨g, cur, rfl, hb, h1, h2, h3, h4⟩
 ·have hl : l = [] := List.eq_nil_of_length_eq_zero hn
  subst hl
  obtain rfl : i = 0 := by simpa using hi
  refine (Any2.slices_Insert_int_end_grow lays2_21 none 0 0 vb 0 1 1 [] [.int .i64 a] w (by omega) (by omega) (by omega) (by omega) rfl rfl (fun _ => rfl) (fun a h => by cases h) hvs h1v).mono ?_
  rintro e w' ⟨rfl, rfl⟩
  have hge := grownCap_ge w (0 + 1) 0 (Tryz.lays2_21_ren.t 3)
  have hle := grownCap_le_maxLen w (0 + 1) 0 (Tryz.lays2_21_ren.t 3) (by decide)
  generalize grownCap w (0 + 1) 0 (Tryz.lays2_21_ren.t 3) = gc at hge hle ⊢
  refine ⟨_, _, rfl, Inv.one ((Chg.pure (Chg.refl _ w) (Pure.refl w).drew).pure ((Pure.refl _).alloc _)) (row_close (Blk.new _ _ _) hge (by simpa [maxLen] using hle) ?_ ?_) (fun k hk => .inr ?_)⟩
  ·rw [Array.size_append, zc_size]; simp; omega
  ·simp [i64s]
  have : some w.heap.size = some k := hk
  injection this with this; omega
 have hcs : ∀ (j : Nat) (v : Value), (i64s l)[j]? = some v → w.cell? ⟨g, 0 + j, none⟩ = some v := fun j v hj => by
  have hjl := (List.getElem?_eq_some_iff.1 hj).1
  rw [Nat.zero_add, hb.cell, get_of_take h4 (by omega), hj]
 have hne' : vb ≠ g := fun e => hne (by subst e; rfl)
 rcases Nat.lt_or_ge i l.length with hil | hil
 ·rcases Nat.lt_or_ge c (l.length + 1) with hroom | hroom
  ·refine (Any2.slices_Insert_int_grow lays2_21 g 0 l.length c i vb 0 1 1 (i64s l) [.int .i64 a] w hil (by omega) h1 hroom (by omega) hxl rfl hcs hvs (one_i64s l) h1v).mono ?_
   rintro e w' ⟨rfl, rfl⟩
   have hge := grownCap_ge w (l.length + 1) c (Tryz.lays2_21_ren.t 3)
   have hle := grownCap_le_maxLen w (l.length + 1) c (Tryz.lays2_21_ren.t 3) (by simp [maxLen]; omega)
   generalize grownCap w (l.length + 1) c (Tryz.lays2_21_ren.t 3) = gc at hge hle ⊢
   refine ⟨_, _, rfl, Inv.one (Chg.setCells (.inr (Nat.le_refl _)) _ _ ((Chg.setCells (.inr (Nat.le_refl _)) _ _ ((Chg.pure (Chg.refl _ w) ((Pure.refl w).alloc _)).pure (Pure.refl _).drew)).pure (Pure.refl _).drew)) (row_close ((((Blk.new w 3 _).drew).setCells _ _).drew.setCells _ _) (by rw [hlen]; exact hge) (by simpa [maxLen] using hle) ?_ ?_) (fun k hk => .inr ?_)⟩
   ·rw [splice_size, splice_size]
    simp only [Array.size_append, zc_size, List.size_toArray, List.length_take, hxl]; omega
   ·rw [i64s_ins]
    refine take_of_get (by rw [← i64s_ins]; simp only [i64s, List.length_map]) fun j hj => ?_
    rw [hlen] at hj
    rw [ins_get _ _ _ (by omega), splice_get _ _ _ _ (by rw [splice_size]; simp only [Array.size_append, zc_size, List.size_toArray, List.length_take, List.length_drop, hxl]; omega), splice_get _ _ _ _ (by simp only [Array.size_append, zc_size, List.size_toArray, List.length_take, hxl, List.length_cons, List.length_nil]; omega)]
    simp only [List.length_drop, hxl, List.length_cons, List.length_nil]
    by_cases e1 : j < i
    ·rw [if_neg (by omega), if_neg (by omega), if_pos e1, Array.append_assoc, Array.getElem?_append_left (by simp [i64s]; omega)]
     simp [e1]
    by_cases e2 : j = i
    ·subst e2
     rw [if_neg (by omega), if_pos (by omega), if_neg (by omega), if_pos rfl, Nat.sub_self]; rfl
    rw [if_pos (by omega), if_neg e1, if_neg e2, List.getElem?_drop, show i + (j - (i + 1)) = j - 1 by omega]
   have : some w.heap.size = some k := hk
   injection this with this; omega
  refine (Any2.slices_Insert_int_shift lays2_21 g 0 l.length c i vb 0 1 1 (i64s l) [.int .i64 a] w hil (by omega) (by omega) h2 hne' hxl rfl hcs (fun j hj => by rw [Nat.zero_add, hb.cell]; simp; omega) (fun j _ => hb.frozen _) hvs (one_i64s l) h1v 3 3 1 c (blk_shape hv) (by rw [blk_shape hb, h3]) (by omega) (hv.frozen _) (hv.frozen _)).mono ?_
  rintro e w' ⟨rfl, rfl⟩
  refine ⟨_, _, rfl, Inv.one (Chg.setCells (S := (StE (some ⟨g, 0, none⟩) c l).D) (.inl rfl) _ _ (Chg.setCells (S := (StE (some ⟨g, 0, none⟩) c l).D) (.inl rfl) _ _ (Chg.pure (Chg.refl _ w) (Pure.refl w).drew))) (row_close ((hb.drew.setCells _ _).setCells _ _) (by rw [hlen]; exact hroom) h2 (by rw [splice_size, splice_size, h3]) ?_) (fun k hk => .inl hk)⟩
  rw [i64s_ins]
  refine take_of_get (by rw [← i64s_ins]; simp only [i64s, List.length_map]) fun j hj => ?_
  rw [ins_get _ _ _ (by omega), splice_get _ _ _ _ (by rw [splice_size]; simp; omega), splice_get _ _ _ _ (by simp [i64s]; omega)]
  simp only [List.length_drop, hxl, List.length_cons, List.length_nil, Nat.zero_add]
  rw [hlen] at hj
  by_cases e1 : j < i
  ·rw [if_neg (by omega), if_neg (by omega), if_pos e1, get_of_take h4 (by omega)]
  by_cases e2 : j = i
  ·subst e2
   rw [if_pos (by omega), if_neg (by omega), if_pos rfl, Nat.sub_self]; rfl
  rw [if_neg (by omega), if_pos (by omega), if_neg e1, if_neg e2, List.getElem?_drop, show i + (j - (i + 1)) = j - 1 by omega]
 obtain rfl : i = l.length := by omega
 rcases Nat.lt_or_ge c (l.length + 1) with hroom | hroom
 ·refine (Any2.slices_Insert_int_end_grow lays2_21 (some ⟨g, 0, none⟩) l.length c vb 0 1 1 (i64s l) [.int .i64 a] w (by omega) h1 hroom (by omega) hxl rfl (fun h => by cases h) (fun a h => by injection h with h; subst h; intro j v hj; rw [Addr.add_lit]; exact hcs j v hj) hvs h1v).mono ?_
  rintro e w' ⟨rfl, rfl⟩
  have hge := grownCap_ge w (l.length + 1) c (Tryz.lays2_21_ren.t 3)
  have hle := grownCap_le_maxLen w (l.length + 1) c (Tryz.lays2_21_ren.t 3) (by simp [maxLen]; omega)
  generalize grownCap w (l.length + 1) c (Tryz.lays2_21_ren.t 3) = gc at hge hle ⊢
  refine ⟨_, _, rfl, Inv.one ((Chg.pure (Chg.refl _ w) (Pure.refl w).drew).pure ((Pure.refl _).alloc _)) (row_close (Blk.new _ _ _) (by rw [hlen]; exact hge) (by simpa [maxLen] using hle) ?_ ?_) (fun k hk => .inr ?_)⟩
  ·simp only [Array.size_append, zc_size, List.size_toArray, List.length_append, hxl, List.length_cons, List.length_nil]; omega
  ·rw [hlen, i64s_ins]
   have e1 : (i64s l).take l.length = i64s l := List.take_of_length_le (by omega)
   have e2 : (i64s l).drop l.length = [] := List.drop_eq_nil_of_le (by omega)
   rw [e1, e2, Array.toList_append, List.take_append_of_le_length (by simp [hxl])]
   exact List.take_of_length_le (by simp [hxl])
  have : some w.heap.size = some k := hk
  injection this with this; omega
 refine (Any2.slices_Insert_int_end_room lays2_21 g 0 l.length c vb 0 1 1 [.int .i64 a] w (by omega) hroom h2 rfl (fun j hj => by rw [hb.cell]; simp; omega) (fun j _ => hb.frozen _) hvs h1v).mono ?_
 rintro e w' ⟨rfl, rfl⟩
 refine ⟨_, _, rfl, Inv.one (Chg.setCells (S := (StE (some ⟨g, 0, none⟩) c l).D) (.inl rfl) _ _ (Chg.refl _ w)) (row_close (hb.setCells _ _) (by rw [hlen]; exact hroom) h2 (by rw [splice_size, h3]) ?_) (fun k hk => .inl hk)⟩
 rw [i64s_ins]
 refine take_of_get (by rw [← i64s_ins]; simp only [i64s, List.length_map]) fun j hj => ?_
 rw [ins_get _ _ _ (by omega), splice_get _ _ _ _ (by simp; omega)]
 simp only [List.length_cons, List.length_nil, Nat.zero_add]
 rw [hlen] at hj
 by_cases e1 : j < l.length
 ·rw [if_neg (by omega), if_pos e1, get_of_take h4 e1]
 obtain rfl : j = l.length := by omega
 rw [if_pos (by omega), if_neg (by omega), if_pos rfl, Nat.sub_self]; rfl
section
variable {P : Program} {ρ : Env} {o : Oper} {w : World} {x y : Operand} {t t' e : TypeId}
theorem rSlNilT {n c : Nat} (ho : o.op = .binOp .eql t x (.const (.slice none 0 0)) t') (ht : P.underlying t = some (.slice e)) (hx : ev ρ x = .slice none n c) : Runs P ρ o w (.bool true) := by
 have h := run_equal (P := P) (w := w) (t := t) (x := .slice none n c) (y := .slice none 0 0) (r := true) (fun d => by simp [Op.equalIn, run_underlying ht])
 simp [Runs, execOp, ho, hx, show ev ρ (.const (.slice none 0 0)) = .slice none 0 0 from rfl, eqGuard, binOp, h]
theorem rSlNilF {n c : Nat} {p : Addr} (ho : o.op = .binOp .eql t x (.const (.slice none 0 0)) t') (ht : P.underlying t = some (.slice e)) (hx : ev ρ x = .slice (some p) n c) : Runs P ρ o w (.bool false) := by
 have h := run_equal (P := P) (w := w) (t := t) (x := .slice (some p) n c) (y := .slice none 0 0) (r := false) (fun d => by simp [Op.equalIn, run_underlying ht])
 simp [Runs, execOp, ho, hx, show ev ρ (.const (.slice none 0 0)) = .slice none 0 0 from rfl, eqGuard, binOp, h]
end
theorem i64s_len (l : List Int) : (i64s l).length = l.length := by simp [i64s]
theorem i64s_one (l : List Int) : (i64s l).all (·.oneCell') = true := by simp [i64s, Value.oneCell']
theorem clone_any (A : Option Addr) (c : Nat) (l : List Int) (D : Nat → Prop) (w0 : World) (h : Rd w0 D 1 (.slice A l.length c) l.length (i64s l)) (hb : l.length ≤ 1000000) :
  Cq 13 #[.slice A l.length c] w0 fun en w' => ∃ A' c', en = .returned (.slice A' l.length c') ∧ Inv NF w0 w' [StE A' c' l] := by
 obtain ⟨A1, c1, hv, hnc, hcm, hlen, hcell⟩ := h
 injection hv with e1 e2 e3
 subst e1 e3
 have hI := Inv.start (fun _ => False) w0
 refine Vn func13 rfl ?_
 refine Wq (Vo rfl (Wn ?_))
 cases A with
 | none =>
  have hl : l = [] := by
   rcases Nat.eq_zero_or_pos l.length with h0 | h0
   ·exact List.eq_nil_of_length_eq_zero h0
   obtain ⟨b, o, hbo, _⟩ := hcell h0
   cases hbo
  subst hl
  refine Ws (Wq (Vi rfl ?_))
  refine Wv rfl (rSlNilT rfl yy26 rfl) ?_
  refine Wn (Wc true rfl (Wq (Vo rfl (Wn ?_))))
  exact WR (r1_ 2 rfl ⟨none, 0, rfl, hI.fresh (Pure.refl _) (Row.nil _ 0 3 1) (fun k hk => by simp [Row] at hk)⟩)
 | some p =>
  refine Ws (Wq (Vi rfl ?_))
  refine Wv rfl (rSlNilF rfl yy26 rfl) ?_
  refine Wn (Wc false rfl (Wk (Wq (T3 [] [] [] [] hI rfl yy26 (fun _ => by kernel_rfl) ?_))))
  rintro b5 w - - hI
  refine Vi rfl ?_
  replace hI : Inv NF w0 w [StE (some ⟨b5, 0, none⟩) 0 []] := hI.u0 (e' := StE (some ⟨b5, 0, none⟩) 0 []) (Chg.refl _ _) (row_close hI.g0 (Nat.le_refl _) (by omega) rfl rfl) (fun k hk => .inl (by have : some b5 = some k := hk; injection this with this; exact this.symm))
  rcases Nat.eq_zero_or_pos l.length with h0 | h0
  ·have hl : l = [] := List.eq_nil_of_length_eq_zero h0
   subst hl
   refine Wv rfl (rApp0 rfl yy26 (sz := 1) (by kernel_rfl) rfl rfl (Nat.le_refl _)) ?_
   refine Vo rfl (Wn ?_)
   exact WR (r1_ 2 rfl ⟨_, _, rfl, hI⟩)
  obtain ⟨b, o, hbo, _, hcl⟩ := hcell h0
  injection hbo with hbo
  subst hbo
  refine WL_app0 (z := .int .i64 0) (by_ := 8) (news := i64s l) hI rfl rfl rfl rfl rfl rfl yy26 (by kernel_rfl) rfl (by omega) (by rw [i64s_len]; omega) (fun k u hk => hI.oldp (hcl k u hk)) (i64s_one l) (by simp; omega) (by simp; omega) (Nat.zero_le _) ?_
  rintro A2 c2 w _ _ hI
  refine Vo rfl (Wn ?_)
  refine WR ?_
  refine r1_ 2 rfl ⟨A2, c2, ?_, ?_⟩
  ·show Ending.returned (.slice A2 (0 + l.length) c2) = _; rw [Nat.zero_add]
  have h' : Inv NF w0 w [Row 0 3 1 A2 (0 + l.length) c2 ([] ++ i64s l)] := hI
  rw [Nat.zero_add, List.nil_append] at h'; exact h'
theorem Row_rd {w : World} {A : Option Addr} {c : Nat} {l : List Int} (h : (StE A c l).Φ w) : Rd w (fun _ => True) 1 (.slice A l.length c) l.length (i64s l) := Rd.of_own (D := fun _ => True) h (fun _ _ _ => trivial)
theorem bsearch_any (A : Option Addr) (c : Nat) (l : List Int) (a : Int) (w : World) (h : (StE A c l).ok w) (hs : l.Pairwise (· < ·)) (hb : l.length ≤ 1000000) :
  Cq 199 #[.slice A l.length c, .int .i64 a] w fun en w' => en = .returned (.tuple #[.int .i64 ((posF l a : Nat) : Int), .bool (decide (a ∈ l))]) ∧ Pure w w' := by
 rcases Nat.eq_zero_or_pos l.length with h0 | h0
 ·have hl : l = [] := List.eq_nil_of_length_eq_zero h0
  subst hl
  refine (Any.slices_BinarySearch_int_empty lays2_25 A c a w).mono ?_
  rintro e w' ⟨rfl, rfl⟩
  exact ⟨rfl, Pure.refl _⟩
 obtain ⟨b, o, rfl⟩ := row_addrS h.1 h0 (by omega)
 refine (Any.slices_BinarySearch_int lays2_25 b o l.length c l a w (Nat.le_refl _) (by omega) (fun j hj => ?_) ?_).mono ?_
 ·exact row_cellS h.1 (by simp [i64s, List.getElem?_eq_getElem hj]) h0
 ·rw [List.take_of_length_le (Nat.le_refl _)]
  exact hs.imp (fun h => by omega)
 rintro e w' ⟨rfl, q, rfl⟩
 refine ⟨?_, (Pure.refl w).drewN q⟩
 rw [List.take_of_length_le (Nat.le_refl _)]
 have e1 : List.countP (fun x => decide (x < a)) l = posF l a := by unfold posF; rw [List.countP_eq_length_filter]
 have e2 : l.contains a = decide (a ∈ l) := by
  rw [Bool.eq_iff_iff]; simp
 rw [e1, e2]
theorem delete_any (A : Option Addr) (c : Nat) (l : List Int) (i : Nat) (w : World) (hR : (StE A c l).ok w) (hi : i < l.length) (hbig : l.length ≤ 1000000) :
  Cq 201 #[.slice A l.length c, .int .i64 (i : Int), .int .i64 ((i + 1 : Nat) : Int)] w fun en w' => en = .returned (.slice A (l.length - 1) c) ∧ Inv (StE A c l).D w w' [StE A c (l.take i ++ l.drop (i + 1))] := by
 have hlen : (l.take i ++ l.drop (i + 1)).length = l.length - 1 := by simp; omega
 rcases row_open hR.1 with ⟨rfl, hn, rfl, hx⟩ | ⟨g, cur, rfl, hb, h1, h2, h3, h4⟩
 ·omega
 refine (Any.slices_Delete_int_cells lays2_23 g 0 l.length c i (i + 1) l w (Nat.le_refl _) h1 h2 (by omega) (by omega) (fun j hj => ?_) (fun j _ => hb.frozen _)).mono ?_
 ·exact row_cellS hR.1 (by simp [i64s, List.getElem?_eq_getElem hj]) (by omega)
 rintro e w' ⟨rfl, q, rfl⟩
 refine ⟨by rw [Nat.add_sub_cancel_left], Inv.one (Chg.setCells (S := (StE (some ⟨g, 0, none⟩) c l).D) (.inl rfl) _ _ ((Chg.refl _ w).drewN q)) (row_close ((hb.drewN q).setCells _ _) (by rw [hlen]; omega) h2 (by rw [splice_size, h3]) ?_) (fun k hk => .inl hk)⟩
 rw [List.take_of_length_le (Nat.le_refl _)]
 refine take_of_get (i64s_len _) fun j hj => ?_
 rw [splice_get _ _ _ _ (by simp; omega), if_pos (by simp; omega)]
 simp only [i64s, List.map_append, Nat.sub_zero]
 rw [List.getElem?_append_left (by simp; omega)]
theorem Row_part {A : Option Addr} {c : Nat} {l : List Int} {w : World} (h : (StE A c l).ok w) (k : Nat) (hk : k ≤ l.length) : (StE A c (l.take k)).ok w := by
 rcases row_open h.1 with ⟨rfl, hn, rfl, hx⟩ | ⟨g, cur, rfl, hb, h1, h2, h3, h4⟩
 ·have hl : l = [] := List.eq_nil_of_length_eq_zero hn
  subst hl
  rw [List.take_nil]; exact h
 refine row_close hb (by simp; omega) h2 h3 ?_
 refine take_of_get (i64s_len _) fun j hj => ?_
 have hjk : j < k := by simp at hj; omega
 rw [get_of_take h4 (by omega)]
 simp [i64s, List.getElem?_take_of_lt hjk]
theorem set_any (A : Option Addr) (c : Nat) (l : List Int) (k a : Int) (w0 : World) (h : (StE A c l).ok w0) (hs : l.Pairwise (· < ·)) (hb : l.length ≤ 100000) :
  Cq 173 #[.slice A l.length c, .int .i64 k, .int .i64 a] w0 fun en w' => ∃ A' c', en = .returned (.tuple #[.slice A' (setF l k a).1.length c', .int .i64 (setF l k a).2]) ∧ Inv (StE A c l).D w0 w' [StE A' c' (setF l k a).1] := by
 have hI := Inv.ownE h
 have hpl := posF_le l a
 refine Vn func173 rfl ?_
 refine Wq (Vo rfl (Vc rfl (Wn (Wq (Vi rfl (V0 rfl (Va [.slice _ _ _, .int .i64 _] rfl func199 rfl ?_)))))))
 refine (bsearch_any A c l a _ (hI.ok _ (by simp)) hs (by omega)).mono (okP hI fun w1 hp hI => ?_)
 refine Vz rfl (Vg rfl (Vg rfl (Vc rfl (V8 rfl (Wn (Ws (Wb ?_)))))))
 by_cases hm : a ∈ l
 ·rw [decide_eq_true hm]
  have hlt : posF l a < l.length := by
   rcases Nat.lt_or_ge (posF l a) l.length with h1 | h1
   ·exact h1
   obtain ⟨h2, h3⟩ := posF_split l a hs
   rw [List.take_of_length_le h1] at h2
   have := h2 a hm
   omega
  by_cases k7 : k = 7
  ·have e : setF l k a = (delF l a, 1) := by unfold setF; rw [if_neg (by omega), if_pos ⟨k7, hm⟩]
   refine Wq (V0 rfl (Vw rfl (V6 rfl (V4 rfl (V4 rfl (Ve rfl (V8 rfl (Wn (Wc false rfl (Wq (V0 rfl ?_)))))))))))
   refine T5 rfl (V6 rfl (V6 rfl (Vk rfl (V8 rfl (Wn (Wc true rfl (Wq (Vi rfl (V0 rfl (V0 rfl (Vv rfl (Va [.slice _ _ _, .int .i64 _, .int .i64 _] rfl func201 rfl ?_))))))))))))
   refine (delete_any A c l (posF l a) _ (hI.ok _ (by simp)) hlt (by omega)).mono ?_
   rintro e w1 ⟨rfl, hT⟩
   refine rV ?_
   have hI := hI.turn1 hT
   refine Vo rfl (Vc rfl (Wn ?_))
   refine WR ?_
   refine r2_ 6 7 rfl ⟨A, c, ?_, ?_⟩
   ·rw [e]
    have hl : (delF l a).length = l.length - 1 := by unfold delF; simp; omega
    rw [hl]; rfl
   rw [e]; exact hI
  by_cases k6 : k = 6
  ·have e : setF l k a = (l, 0) := by unfold setF; rw [if_neg (fun h => h.2 hm), if_neg (by omega), decide_eq_false (by omega)]; rfl
   refine Wq (V0 rfl (T5 rfl (V6 rfl (V6 rfl (T9 rfl (Vk rfl (V8 rfl (Wn (Wc false rfl (Wq (V0 rfl ?_)))))))))))
   refine Vw rfl (V6 rfl (V4 rfl (Ve rfl (V8 rfl (Wn (Wc false rfl (Wk (Wq (Vi rfl (V0 rfl (Vw rfl (V6 rfl ?_))))))))))))
   refine V4 rfl (Ve rfl (Va [.bool _] rfl func174 rfl ?_))
   refine (one_any _ _).mono (okP hI fun w1 hp2 hI => ?_)
   refine Vo rfl (Vc rfl (Wn ?_))
   refine WR ?_
   refine r2_ 6 7 rfl ⟨A, c, by rw [e]; rfl, by rw [e]; exact hI⟩
  by_cases k8 : k = 8
  ·have e : setF l k a = (l, 1) := by unfold setF; rw [if_neg (fun h => h.2 hm), if_neg (by omega), decide_eq_true ⟨k8, hm⟩]; rfl
   refine Wq (V0 rfl (Vw rfl (V6 rfl (V4 rfl (V4 rfl (Ve rfl (V8 rfl (Wn (Wc false rfl (Wq (V0 rfl ?_)))))))))))
   refine Vw rfl (V6 rfl (V4 rfl (Ve rfl (V8 rfl (Wn (Wc false rfl (Wk (Wq (Vi rfl (V0 rfl (T5 rfl (V6 rfl ?_))))))))))))
   refine V6 rfl (Vk rfl (Va [.bool _] rfl func174 rfl ?_))
   refine (one_any _ _).mono (okP hI fun w1 hp2 hI => ?_)
   refine Vo rfl (Vc rfl (Wn ?_))
   refine WR ?_
   refine r2_ 6 7 rfl ⟨A, c, by rw [e]; rfl, by rw [e]; exact hI⟩
  have e : setF l k a = (l, 0) := by unfold setF; rw [if_neg (fun h => h.2 hm), if_neg (by omega), decide_eq_false (by omega)]; rfl
  refine Wq (V0 rfl (Vw rfl (V6 rfl (V4 rfl (V4 rfl (Ve rfl (V8 rfl (Wn (Wc false rfl (Wq (V0 rfl ?_)))))))))))
  refine Vw rfl (V6 rfl (V4 rfl (Ve rfl (V8 rfl (Wn (Wc false rfl (Wk (Wq (Vi rfl (V0 rfl (Vw rfl (V6 rfl ?_))))))))))))
  refine V4 rfl (Ve rfl (Va [.bool _] rfl func174 rfl ?_))
  refine (one_any _ _).mono (okP hI fun w1 hp2 hI => ?_)
  refine Vo rfl (Vc rfl (Wn ?_))
  refine WR ?_
  refine r2_ 6 7 rfl ⟨A, c, by rw [e]; rfl, by rw [e]; exact hI⟩
 rw [decide_eq_false hm]
 by_cases k6 : k = 6
 ·have e : setF l k a = (insF l a, 1) := by unfold setF; rw [if_pos ⟨k6, hm⟩]
  refine Wq (V0 rfl (T5 rfl (V6 rfl (V6 rfl (Ti rfl (Vk rfl (V8 rfl (Wn (Wc true rfl (Wq (Vi rfl ?_)))))))))))
  refine V0 rfl (V0 rfl (T3 [(0, .int .i64 _)] [_] [.int .i64 0] [0] hI rfl yy26 (fun _ => by kernel_rfl) ?_))
  rintro b26 w - - hI
  refine Va [.slice _ _ _, .int .i64 _, .slice _ _ _] rfl func200 rfl ?_
  refine (insert_any A c l (posF l a) a b26 _ (hI.ok (StE A c l) (by simp)) hpl hI.g0 (fun he => ?_) (by omega)).mono ?_
  ·exact hI.disj (i := 1) (j := 0) rfl rfl (by omega) b26 he rfl
  rintro e w1 ⟨A', c', rfl, hT⟩
  refine rV ?_
  have hI := hI.d0.turn1 hT
  refine Vo rfl (Vc rfl (Wn ?_))
  refine WR ?_
  refine r2_ 6 7 rfl ⟨A', c', ?_, ?_⟩
  ·rw [e]
   have hl : (insF l a).length = l.length + 1 := by unfold insF; simp; omega
   rw [hl]; rfl
  rw [e]; exact hI
 have e : setF l k a = (l, 0) := by unfold setF; rw [if_neg (by omega), if_neg (fun h => hm h.2), decide_eq_false (fun h => hm h.2)]; rfl
 by_cases k7 : k = 7
 ·refine Wq (V0 rfl (Vw rfl (V6 rfl (V4 rfl (V4 rfl (Ve rfl (V8 rfl (Wn (Wc false rfl (Wq (V0 rfl ?_)))))))))))
  refine T5 rfl (V6 rfl (V6 rfl (Vk rfl (V8 rfl (Wn (Wc false rfl (Wk (Wq (Vi rfl (V0 rfl (Vw rfl (V6 rfl ?_))))))))))))
  refine V4 rfl (Ve rfl (Va [.bool _] rfl func174 rfl ?_))
  refine (one_any _ _).mono (okP hI fun w1 hp2 hI => ?_)
  refine Vo rfl (Vc rfl (Wn ?_))
  refine WR ?_
  refine r2_ 6 7 rfl ⟨A, c, by rw [e]; rfl, by rw [e]; exact hI⟩
 by_cases k8 : k = 8
 ·refine Wq (V0 rfl (Vw rfl (V6 rfl (V4 rfl (V4 rfl (Ve rfl (V8 rfl (Wn (Wc false rfl (Wq (V0 rfl ?_)))))))))))
  refine Vw rfl (V6 rfl (V4 rfl (Ve rfl (V8 rfl (Wn (Wc false rfl (Wk (Wq (Vi rfl (V0 rfl (T5 rfl (V6 rfl ?_))))))))))))
  refine V6 rfl (Vk rfl (Va [.bool _] rfl func174 rfl ?_))
  refine (one_any _ _).mono (okP hI fun w1 hp2 hI => ?_)
  refine Vo rfl (Vc rfl (Wn ?_))
  refine WR ?_
  refine r2_ 6 7 rfl ⟨A, c, by rw [e]; rfl, by rw [e]; exact hI⟩
 refine Wq (V0 rfl (Vw rfl (V6 rfl (V4 rfl (V4 rfl (Ve rfl (V8 rfl (Wn (Wc false rfl (Wq (V0 rfl ?_)))))))))))
 refine Vw rfl (V6 rfl (V4 rfl (Ve rfl (V8 rfl (Wn (Wc false rfl (Wk (Wq (Vi rfl (V0 rfl (Vw rfl (V6 rfl ?_))))))))))))
 refine V4 rfl (Ve rfl (Va [.bool _] rfl func174 rfl ?_))
 refine (one_any _ _).mono (okP hI fun w1 hp2 hI => ?_)
 refine Vo rfl (Vc rfl (Wn ?_))
 refine WR ?_
 refine r2_ 6 7 rfl ⟨A, c, by rw [e]; rfl, by rw [e]; exact hI⟩
theorem i64s_app (l : List Int) (a : Int) : i64s (l ++ [a]) = i64s l ++ [.int .i64 a] := by simp [i64s]
theorem Rd_tail {w : World} {g o c : Nat} {l : List Int} (h : Rd w (fun _ => True) 1 (.slice (some ⟨g, o, none⟩) l.length c) l.length (i64s l)) (h2 : 2 ≤ l.length) : Rd w (fun _ => True) 1 (.slice (some ⟨g, o + 1 * 1, none⟩) (l.drop 1).length (c - 1)) (l.drop 1).length (i64s (l.drop 1)) := by
 obtain ⟨A1, c1, hv, hnc, hcm, hlen, hcell⟩ := h
 injection hv with e1 e2 e3
 subst e1 e3
 obtain ⟨b, o', hbo, _, hcl⟩ := hcell (by omega)
 injection hbo with hbo
 injection hbo with e4 e5
 subst e4 e5
 refine ⟨_, _, rfl, by simp; omega, by omega, by simp [i64s], fun _ => ⟨g, o + 1 * 1, rfl, trivial, fun j u hj => ?_⟩⟩
 have : (i64s l)[1 + j]? = some u := by rw [← hj]; simp [i64s, List.getElem?_drop, Nat.add_comm]
 have := hcl (1 + j) u this
 rwa [Nat.mul_one, Nat.add_assoc]
theorem Rd_none {w : World} {A : Option Addr} {c : Nat} (hc : c ≤ 9223372036854775807) : Rd w (fun _ => True) 1 (.slice A ([] : List Int).length c) ([] : List Int).length (i64s []) :=
 ⟨A, c, rfl, Nat.zero_le _, hc, rfl, fun h => absurd h (Nat.lt_irrefl 0)⟩
theorem line_any (o : Int) (A : Option Addr) (c : Nat) (l : List Int) (k a : Int) (w0 : World) (h : (StE A c l).ok w0) (hb : l.length ≤ 100000) :
  Cq 175 #[.int .i64 o, .slice A l.length c, .int .i64 k, .int .i64 a] w0 fun en w' => ∃ A' c', en = .returned (.tuple #[.slice A' (lineF o l k a).1.length c', .int .i64 (lineF o l k a).2]) ∧ Inv (StE A c l).D w0 w' [StE A' c' (lineF o l k a).1] := by
 have hI := Inv.ownE h
 refine Vn func175 rfl ?_
 refine Wq (Vo rfl (Vc rfl (Wn ?_)))
 rcases Nat.eq_zero_or_pos l.length with h00 | h00
 ·have hl : l = [] := List.eq_nil_of_length_eq_zero h00
  subst hl
  refine Wq (Vi rfl (Vs rfl yy26 rfl ?_))
  refine Wv rfl (by exact rSub rfl rfl rfl (by omega)) ?_
  refine Vc rfl (Wn (Ws (Wb ?_)))
  by_cases k9 : k = 9
  ·have e : lineF o [] k a = ([] ++ [a], 0) := by unfold lineF; rw [if_pos k9]
   refine Wq (V0 rfl (T5 rfl (V8 rfl (Wn (Wc true rfl (Wq (Vi rfl (V0 rfl (T3 [(0, .int .i64 _)] [_] [.int .i64 0] [0] hI rfl yy26 (fun _ => by kernel_rfl) ?_)))))))))
   rintro b19 w - - hI
   refine Tx 8 (.int .i64 0) hI rfl yy26 rfl (by rfl) hI.lit0 (by rfl) (Nat.zero_le _) ?_
   rintro A20 c20 w hA20 hc20 hI
   have hI := hI.d0
   refine Vo rfl (Vc rfl (Wn ?_))
   refine WR ?_
   refine r2_ 8 9 rfl ⟨A20, c20, ?_, ?_⟩
   ·rw [e]; rfl
   rw [e]; exact hI
  refine Wq (V0 rfl (Vw rfl (V8 rfl (Wn (Wc false rfl ?_)))))
  have e : lineF o [] k a = ([], -1) := by unfold lineF; rw [if_neg k9, if_pos rfl]
  refine Wq (V0 rfl (Vt rfl (V8 rfl (Wn (Wc true rfl (Wq (Vi rfl (Vo rfl (Vc rfl (Wn ?_))))))))))
  exact WR (r2_ 8 9 rfl ⟨A, c, by rw [e]; rfl, by rw [e]; exact hI⟩)
 refine Wq (Vi rfl (Vs rfl yy26 rfl ?_))
 refine Wv rfl (rDecN (b := 1) rfl rfl rfl (by omega) (by omega)) ?_
 refine Vc rfl (Wn (Ws (Wb ?_)))
 by_cases k9 : k = 9
 ·have e : lineF o l k a = (l ++ [a], 0) := by unfold lineF; rw [if_pos k9]
  refine Wq (V0 rfl (T5 rfl (V8 rfl (Wn (Wc true rfl (Wq (Vi rfl (V0 rfl (T3 [(0, .int .i64 _)] [_] [.int .i64 0] [0] hI rfl yy26 (fun _ => by kernel_rfl) ?_)))))))))
  rintro b19 w - - hI
  refine Tx 8 (.int .i64 0) hI rfl yy26 rfl (by rfl) hI.lit0 (by rfl) (Nat.zero_le _) ?_
  rintro A20 c20 w hA20 hc20 hI
  have hI := hI.d0
  refine Vo rfl (Vc rfl (Wn ?_))
  refine WR ?_
  refine r2_ 8 9 rfl ⟨A20, c20, ?_, ?_⟩
  ·rw [e]; simp only [List.length_append, List.length_cons, List.length_nil, Nat.zero_add]; rfl
  rw [e]
  have h' : Inv (StE A c l).D w0 w [Row 0 3 1 A20 (l.length + 1) c20 (i64s l ++ [.int .i64 a])] := hI
  rw [← i64s_app] at h'
  simpa [StE] using h'
 refine Wq (V0 rfl (Vw rfl (V8 rfl (Wn (Wc false rfl ?_)))))
 have h0 := h00
 have hne : l ≠ [] := fun e => by subst e; simp at h0
 obtain ⟨g, og, rfl⟩ := row_addrS h.1 h0 (by omega)
 have hcap : l.length ≤ c ∧ c ≤ 9223372036854775807 := by
  rcases row_open h.1 with ⟨hA, _⟩ | ⟨_, _, _, _, h1, h2, _⟩
  ·cases hA
  exact ⟨h1, h2⟩
 refine Wq (V0 rfl (Vr rfl (V8 rfl (Wn (Wc false rfl ?_)))))
 have c0 : (i64s l)[0]? = some (.int .i64 (l.getD 0 0)) := by simp [i64s, List.getD, List.getElem?_eq_getElem h0]
 have c1 : (i64s l)[l.length - 1]? = some (.int .i64 (l.getD (l.length - 1) 0)) := by simp [i64s, List.getD, List.getElem?_eq_getElem (show l.length - 1 < l.length by omega)]
 by_cases ho : o = 4
 ·have e : lineF o l k a = (l.drop 1, l.getD 0 0) := by unfold lineF; rw [if_neg k9, if_neg hne, if_pos ho]
  have hld : (l.drop 1).length = l.length - 1 := by simp
  refine Wq (V0 rfl (T5 rfl (V8 rfl (Wn (Wc true rfl ?_)))))
  rcases Nat.lt_or_ge 1 l.length with h2 | h2
  ·refine Ws (Wd (by kernel_rfl) ?_)
   refine Wi (T := []) hI.drew ?_
   intro Sx hY hZ
   have hI := hI.drew
   refine Ta 0 rfl ?_
   refine Wt 1 rfl (fun W hW => have hI := hY W hW; (by exact rSliceFrom (sz := 1) (i := 1) rfl yy26 (by kernel_rfl) rfl rfl (by omega) (by omega))) ?_
   refine Ta 3 rfl ?_
   refine Wt 4 rfl (fun W hW => have hI := hY W hW; (by exact rIdx1 (i := 0) rfl yy26 (by kernel_rfl) rfl rfl (by omega))) ?_
   refine Vd 5 (.int .i64 _) rfl (fun W hW => have hI := hY W hW; row_cellS hI.g0 c0 h0) (Vu 2 rfl ?_)
   refine Va [.slice _ _ _] rfl func13 rfl ?_
   rw [← hld]
   refine (clone_any _ (c - 1) (l.drop 1) _ _ (Rd_tail (Row_rd hI.g0) h2) (by omega)).mono ?_
   rintro e1 w1 ⟨A', c', rfl, hT⟩
   refine rV ?_
   have hI := hI.app1 hT
   refine Wn ⟨hZ _ hI.d0, ?_⟩
   refine Ur 6 rfl (Ty 7 rfl (We (by kernel_rfl) ?_))
   refine WR ?_
   refine r2_ 8 9 rfl ⟨A', c', by rw [e]; rfl, by rw [e]; exact hI.d1⟩
  have hd0 : l.drop 1 = [] := List.drop_eq_nil_of_le h2
  refine Ws (Wd (by kernel_rfl) ?_)
  refine Wi (T := []) hI.drew ?_
  intro Sx hY hZ
  have hI := hI.drew
  refine Ta 0 rfl ?_
  refine Wt 1 rfl (fun W hW => have hI := hY W hW; (rSliceFromG (sz := 1) (i := 1) rfl yy26 (by kernel_rfl) rfl rfl (by omega))) ?_
  refine Ta 3 rfl ?_
  refine Wt 4 rfl (fun W hW => have hI := hY W hW; (by exact rIdx1 (i := 0) rfl yy26 (by kernel_rfl) rfl rfl (by omega))) ?_
  refine Vd 5 (.int .i64 _) rfl (fun W hW => have hI := hY W hW; row_cellS hI.g0 c0 h0) (Vu 2 rfl ?_)
  refine Va [.slice _ _ _] rfl func13 rfl ?_
  rw [show l.length - 1 = ([] : List Int).length from by simp; omega]
  refine (clone_any _ (c - 1) [] _ _ (Rd_none (by omega)) (by simp)).mono ?_
  rintro e1 w1 ⟨A', c', rfl, hT⟩
  refine rV ?_
  have hI := hI.app1 hT
  refine Wn ⟨hZ _ hI.d0, ?_⟩
  refine Ur 6 rfl (Ty 7 rfl (We (by kernel_rfl) ?_))
  refine WR ?_
  refine r2_ 8 9 rfl ⟨A', c', by rw [e, hd0]; rfl, by rw [e, hd0]; exact hI.d1⟩
 have e : lineF o l k a = (l.take (l.length - 1), l.getD (l.length - 1) 0) := by unfold lineF; rw [if_neg k9, if_neg hne, if_neg ho]
 refine Wq (V0 rfl (Vw rfl (V8 rfl (Wn (Wc false rfl (Wk (Ws (Wd (by kernel_rfl) ?_))))))))
 refine Wi (T := []) hI.drew ?_
 intro Sx hY hZ
 have hI := hI.drew
 refine Ta 0 rfl (Vx 1 rfl ?_)
 refine Wt 2 rfl (fun W hW => have hI := hY W hW; (rSliceTo (sz := 1) (i := l.length - 1) rfl yy26 (by kernel_rfl) rfl rfl (by omega))) ?_
 refine Ta 3 rfl (Vx 4 rfl ?_)
 refine Wt 5 rfl (fun W hW => have hI := hY W hW; (by exact rIdx1 rfl yy26 (by kernel_rfl) rfl rfl (by omega))) ?_
 refine Vd 6 (.int .i64 _) rfl (fun W hW => have hI := hY W hW; row_cellS hI.g0 c1 h0) (Ur 7 rfl (Ty 8 rfl (We (by kernel_rfl) ?_)))
 refine WR ?_
 refine r2_ 8 9 rfl ⟨some ⟨g, og, none⟩, c, ?_, ?_⟩
 ·rw [e]
  have hl : (l.take (l.length - 1)).length = l.length - 1 := by simp
  rw [hl]; rfl
 rw [e]
 exact hI.u0 (e' := StE (some ⟨g, og, none⟩) c (l.take (l.length - 1))) (Chg.refl _ _) (Row_part (hI.ok _ (by simp)) _ (by omega)) (fun k hk => .inl hk)
def StepPost (o : Int) (st : List Int) (k a b : Int) (w0 : World) (en : Ending) (w' : World) : Prop :=
 match stepF o st k a b with
 | none => en = .returned (.tuple #[.slice none 0 0, .int .i64 0, .bool false]) ∧ Pure w0 w'
 | some (st', r) => ∃ A' c', en = .returned (.tuple #[.slice A' st'.length c', .int .i64 r, .bool true]) ∧ Inv NF w0 w' [StE A' c' st']
theorem StepPost.none {o : Int} {st : List Int} {k a b : Int} {w0 w' : World} (h : stepF o st k a b = .none) (hp : Pure w0 w') : StepPost o st k a b w0 (.returned (.tuple #[.slice none 0 0, .int .i64 0, .bool false])) w' := by
 unfold StepPost; rw [h]; exact ⟨rfl, hp⟩
theorem StepPost.some {o : Int} {st st' : List Int} {k a b r : Int} {w0 w' : World} {A' : Option Addr} {c' n' : Nat} (h : stepF o st k a b = .some (st', r)) (hn : n' = st'.length) (hI : Inv NF w0 w' [StE A' c' st']) : StepPost o st k a b w0 (.returned (.tuple #[.slice A' n' c', .int .i64 r, .bool true])) w' := by
 unfold StepPost; rw [h]; subst hn; exact ⟨A', c', rfl, hI⟩
theorem knows_cases {o k : Int} (h : knowsF o k = true) : o = 1 ∨ o = 2 ∨ o = 3 ∨ o = 4 ∨ o = 5 ∨ o = 6 := by
 rcases Classical.em (o < 1 ∨ 6 < o) with h1 | h1
 ·rw [knows_out o k (by omega)] at h; cases h
 omega
theorem lit1 {S : Nat → Prop} {w0 w : World} {H : List Ent} {g : Nat} {z : Int} (hI : Inv S w0 w (B g 3 #[.int .i64 z] :: H)) : Inv S w0 w (StE (some ⟨g, 0, none⟩) 1 [z] :: H) :=
 hI.u0 (e' := StE (some ⟨g, 0, none⟩) 1 [z]) (Chg.refl _ _) (Row.of_blk hI.g0 (Nat.zero_le _) rfl (by simp)) (fun k hk => .inl (by have : some g = some k := hk; injection this with this; exact this.symm))
theorem step_any (o : Int) (A : Option Addr) (c : Nat) (st : List Int) (k a b : Int) (D : Nat → Prop) (w0 : World) (h : Rd w0 D 1 (.slice A st.length c) st.length (i64s st)) (hs : okSt o st) (hb : st.length ≤ 100000) (hk : KnOk w0) :
  Cq 135 #[.int .i64 o, .slice A st.length c, .int .i64 k, .int .i64 a, .int .i64 b] w0 (StepPost o st k a b w0) := by
 have hI := Inv.start (fun _ => False) w0
 refine Vn func135 rfl ?_
 refine Wq (Vo rfl (Vc rfl (V8 rfl (Wn ?_))))
 by_cases hkn : knowsF o k = true
 rotate_left
 ·have hkn : knowsF o k = false := by simpa using hkn
  refine Ws (Wq (V0 rfl (V0 rfl (Va [.int .i64 _, .int .i64 _] rfl func130 rfl ?_))))
  refine (knows_any o k _ (hk.pure hI.pu)).mono ?_
  rw [hkn]
  rintro e w1 ⟨rfl, hp⟩
  refine rV ?_
  have hI := hI.pure hp
  refine Ti rfl (V6 rfl (V4 rfl (V4 rfl (V4 rfl (V4 rfl (V4 rfl (V4 rfl (V4 rfl (Vk rfl (Wn (Wc true rfl (Ws (Wr ?_)))))))))))))
  refine Vo rfl (Vc rfl (V8 rfl (Wn ?_)))
  refine WR ?_
  exact ret3 10 11 12 (.inr rfl) rfl (StepPost.none (by unfold stepF; rw [if_pos (.inl hkn)]) hI.pu)
 by_cases hsi : singleF o = true ∧ st.length ≠ 1
 ·refine Ws (Wq (V0 rfl (V0 rfl (Va [.int .i64 _, .int .i64 _] rfl func130 rfl ?_))))
  refine (knows_any o k _ (hk.pure hI.pu)).mono ?_
  rw [hkn]
  rintro e w1 ⟨rfl, hp⟩
  refine rV ?_
  have hI := hI.pure hp
  refine T9 rfl (V6 rfl (V0 rfl (Va [.int .i64 _] rfl func131 rfl ?_)))
  refine (single_any o _).mono ?_
  rw [hsi.1]
  rintro e w1 ⟨rfl, hp⟩
  refine rV ?_
  have hI := hI.pure hp
  refine V6 rfl (Vi rfl (Vs rfl yy26 rfl (U1 rfl (Vk rfl (Ve rfl (Wn (Wc true rfl (Wq (Vo rfl (Vc rfl (V8 rfl (Wn ?_))))))))))))
  refine WR ?_
  exact ret3 10 11 12 (.inr rfl) rfl (StepPost.none (by unfold stepF; rw [if_pos (.inr hsi)]) hI.pu)
 have hgo : ¬ (knowsF o k = false ∨ (singleF o = true ∧ st.length ≠ 1)) := fun hh => by
  rcases hh with hh | hh
  ·rw [hkn] at hh; cases hh
  exact hsi hh
 refine Wx (fun ρ w => Has ρ [(0, .int .i64 o), (1, .slice A st.length c), (2, .int .i64 k), (3, .int .i64 a), (4, .int .i64 b)] ∧ Inv NF w0 w []) ?_ ?_
 ·cases hsg : singleF o with
  | true =>
   have hl1 : st.length = 1 := by
    rcases Classical.em (st.length = 1) with h1 | h1
    ·exact h1
    exact absurd ⟨hsg, h1⟩ hsi
   refine Wq (V0 rfl (V0 rfl (Va [.int .i64 _, .int .i64 _] rfl func130 rfl ?_)))
   refine (knows_any o k _ (hk.pure hI.pu)).mono ?_
   rw [hkn]
   rintro e w1 ⟨rfl, hp⟩
   refine rV ?_
   have hI := hI.pure hp
   refine T9 rfl (V6 rfl (V0 rfl (Va [.int .i64 _] rfl func131 rfl ?_)))
   refine (single_any o _).mono ?_
   rw [hsg]
   rintro e w1 ⟨rfl, hp⟩
   refine rV ?_
   have hI := hI.pure hp
   refine V6 rfl (Vi rfl (Vs rfl yy26 rfl (U2 rfl (Vk rfl (Ve rfl (Wn (Wc false rfl (Wk ?_))))))))
   exact ⟨⟨rfl, rfl, rfl, rfl, rfl, trivial⟩, hI⟩
  | false =>
   refine Wq (V0 rfl (V0 rfl (Va [.int .i64 _, .int .i64 _] rfl func130 rfl ?_)))
   refine (knows_any o k _ (hk.pure hI.pu)).mono ?_
   rw [hkn]
   rintro e w1 ⟨rfl, hp⟩
   refine rV ?_
   have hI := hI.pure hp
   refine T9 rfl (V6 rfl (V0 rfl (Va [.int .i64 _] rfl func131 rfl ?_)))
   refine (single_any o _).mono ?_
   rw [hsg]
   rintro e w1 ⟨rfl, hp⟩
   refine rV ?_
   have hI := hI.pure hp
   refine V6 rfl (V4 rfl (V4 rfl (V4 rfl (Ve rfl (Ve rfl (Wn (Wc false rfl (Wk ?_))))))))
   exact ⟨⟨rfl, rfl, rfl, rfl, rfl, trivial⟩, hI⟩
 clear hI
 rintro ρ w ⟨hH, hI⟩
 obtain ⟨σ, rfl⟩ := hH.open
 have one : singleF o = true → ∃ bA oA z, A = some ⟨bA, oA, none⟩ ∧ st = [z] ∧ w0.cell? ⟨bA, oA, none⟩ = some (.int .i64 z) := by
  intro hsg
  have hl1 : st.length = 1 := by
   rcases Classical.em (st.length = 1) with h1 | h1
   ·exact h1
   exact absurd ⟨hsg, h1⟩ hsi
  obtain ⟨z, rfl⟩ : ∃ z, st = [z] := List.length_eq_one_iff.1 hl1
  obtain ⟨b', o', h1, _, _, h2⟩ := h.get (k := 0) (u := .int .i64 z) rfl (by simp)
  exact ⟨b', o', z, h1, rfl, h2⟩
 have hcl := fun (W : World) (hp : Pure w0 W) => clone_any A c st D W (h.pure hp) (by omega)
 rcases knows_cases hkn with rfl | rfl | rfl | rfl | rfl | rfl
 ·-- a register
  obtain ⟨bA, oA, z, rfl, rfl, hz⟩ := one rfl
  have e : stepF 1 [z] k a b = some ([(regF z k a b).1], (regF z k a b).2) := by unfold stepF; rw [if_neg hgo, if_pos rfl]; rfl
  refine Ws (Wq (V0 rfl (Wn (Wb (Wq (T5 rfl (V8 rfl (Wn (Wc true rfl (Ws (Wr ?_)))))))))))
  refine Vi rfl ?_
  refine Wv rfl (rIdx1 (i := 0) rfl yy26 (by kernel_rfl) rfl rfl (by simp)) ?_
  refine V5 (.int .i64 _) rfl (hI.oldp hz) (V0 rfl (V0 rfl (V0 rfl (Va [.int .i64 _, .int .i64 _, .int .i64 _, .int .i64 _] rfl func172 rfl ?_))))
  refine (register_any z k a b _).mono ?_
  rintro e1 w1 ⟨rfl, hp⟩
  refine rV ?_
  have hI := hI.pure hp
  refine Vz rfl (Vg rfl (Vg rfl (Vc rfl (Vc rfl (Wn (Wq (V0 rfl (T3 [(0, .int .i64 _)] [_] [.int .i64 0] [0] hI rfl yy26 (fun _ => by kernel_rfl) ?_))))))))
  rintro b43 w - - hI
  refine V0 rfl (Vo rfl (Vc rfl (V8 rfl (Wn ?_))))
  refine WR ?_
  exact ret3 10 11 12 (.inr rfl) rfl (StepPost.some e rfl (lit1 hI))
 ·-- a counter
  obtain ⟨bA, oA, z, rfl, rfl, hz⟩ := one rfl
  refine Ws (Wq (V0 rfl (Wn (Wb (Wq (Vw rfl (V8 rfl (Wn (Wc false rfl (Ws (Wr ?_)))))))))))
  refine T5 rfl (V8 rfl (Wn (Wc true rfl (Wq (Vi rfl ?_)))))
  refine Wv rfl (rIdx1 (i := 0) rfl yy26 (by kernel_rfl) rfl rfl (by simp)) ?_
  refine V5 (.int .i64 _) rfl (hI.oldp hz) (Vc rfl (Wn ?_))
  by_cases k4 : k = 4
  ·have e : stepF 2 [z] k a b = some ([IntKind.i64.wrap (z + a)], IntKind.i64.wrap (z + a)) := by unfold stepF; rw [if_neg hgo, if_neg (by decide), if_pos rfl, if_pos k4]; rfl
   refine Ws (Wq (V0 rfl (T5 rfl (Wn (Wc true rfl (Wr (V0 rfl (V0 rfl ?_))))))))
   refine Wv rfl (rAddW rfl rfl rfl) ?_
   refine Vc rfl (Wn (Wq (V0 rfl (T3 [(0, .int .i64 _)] [_] [.int .i64 0] [0] hI rfl yy26 (fun _ => by kernel_rfl) ?_))))
   rintro b56 w - - hI
   refine V0 rfl (Vo rfl (Vc rfl (V8 rfl (Wn ?_))))
   refine WR ?_
   exact ret3 10 11 12 (.inr rfl) rfl (StepPost.some e rfl (lit1 hI))
  have e : stepF 2 [z] k a b = some ([z], z) := by unfold stepF; rw [if_neg hgo, if_neg (by decide), if_pos rfl, if_neg k4]; rfl
  refine Ws (Wq (V0 rfl (Vw rfl (Wn (Wc false rfl (Wk (Wq (V0 rfl (T3 [(0, .int .i64 _)] [_] [.int .i64 0] [0] hI rfl yy26 (fun _ => by kernel_rfl) ?_)))))))))
  rintro b56 w - - hI
  refine V0 rfl (Vo rfl (Vc rfl (V8 rfl (Wn ?_))))
  refine WR ?_
  exact ret3 10 11 12 (.inr rfl) rfl (StepPost.some e rfl (lit1 hI))
 ·-- a set
  have e : stepF 3 st k a b = some (setF st k a) := by unfold stepF; rw [if_neg hgo, if_neg (by decide), if_neg (by decide), if_pos rfl]
  refine Ws (Wq (V0 rfl (Wn (Wb (Wq (Vw rfl (V8 rfl (Wn (Wc false rfl (Ws (Wr ?_)))))))))))
  refine Vw rfl (V8 rfl (Wn (Wc false rfl (Wq (T5 rfl (V8 rfl (Wn (Wc true rfl (Wq (Vi rfl (Va [.slice _ _ _] rfl func13 rfl ?_)))))))))))
  refine (hcl _ hI.pu).mono ?_
  rintro e1 w1 ⟨A1, c1, rfl, hT⟩
  refine rV ?_
  have hI := hI.app1 hT
  refine V0 rfl (V0 rfl (Va [.slice _ _ _, .int .i64 _, .int .i64 _] rfl func173 rfl ?_))
  refine (set_any A1 c1 st k a _ (hI.ok (StE A1 c1 st) (by simp)) (hs rfl) hb).mono ?_
  rintro e1 w1 ⟨A2, c2, rfl, hT2⟩
  refine rV ?_
  have hI := hI.turn1 hT2
  refine Vz rfl (Vg rfl (Vg rfl (Vo rfl (Vc rfl (Wn (Wq (Vi rfl (V0 rfl (Vo rfl (Vc rfl (V8 rfl (Wn ?_))))))))))))
  refine WR ?_
  exact ret3 10 11 12 (.inr rfl) rfl (StepPost.some (st' := (setF st k a).1) (r := (setF st k a).2) e rfl hI)
 ·-- a line
  have e : stepF 4 st k a b = some (lineF 4 st k a) := by unfold stepF; rw [if_neg hgo, if_neg (by decide), if_neg (by decide), if_neg (by decide), if_neg (by decide)]
  refine Ws (Wq (V0 rfl (Wn (Wb (Wq (Vw rfl (V8 rfl (Wn (Wc false rfl (Ws (Wr ?_)))))))))))
  refine Vw rfl (V8 rfl (Wn (Wc false rfl (Wq (Vw rfl (V8 rfl (Wn (Wc false rfl (Wq (Vw rfl (V8 rfl ?_)))))))))))
  refine Wn (Wc false rfl (Wk (Wq (V0 rfl (Vi rfl (Va [.slice _ _ _] rfl func13 rfl ?_))))))
  refine (hcl _ hI.pu).mono ?_
  rintro e1 w1 ⟨A1, c1, rfl, hT⟩
  refine rV ?_
  have hI := hI.app1 hT
  refine V0 rfl (V0 rfl (Va [.int .i64 _, .slice _ _ _, .int .i64 _, .int .i64 _] rfl func175 rfl ?_))
  refine (line_any 4 A1 c1 st k a _ (hI.ok (StE A1 c1 st) (by simp)) hb).mono ?_
  rintro e1 w1 ⟨A2, c2, rfl, hT2⟩
  refine rV ?_
  have hI := hI.turn1 hT2
  refine Vz rfl (Vg rfl (Vg rfl (Vo rfl (Vc rfl (Wn (Wq (Vi rfl (V0 rfl (Vo rfl (Vc rfl (V8 rfl (Wn ?_))))))))))))
  refine WR ?_
  exact ret3 10 11 12 (.inr rfl) rfl (StepPost.some (st' := (lineF 4 st k a).1) (r := (lineF 4 st k a).2) e rfl hI)
 ·-- a line
  have e : stepF 5 st k a b = some (lineF 5 st k a) := by unfold stepF; rw [if_neg hgo, if_neg (by decide), if_neg (by decide), if_neg (by decide), if_neg (by decide)]
  refine Ws (Wq (V0 rfl (Wn (Wb (Wq (Vw rfl (V8 rfl (Wn (Wc false rfl (Ws (Wr ?_)))))))))))
  refine Vw rfl (V8 rfl (Wn (Wc false rfl (Wq (Vw rfl (V8 rfl (Wn (Wc false rfl (Wq (Vw rfl (V8 rfl ?_)))))))))))
  refine Wn (Wc false rfl (Wk (Wq (V0 rfl (Vi rfl (Va [.slice _ _ _] rfl func13 rfl ?_))))))
  refine (hcl _ hI.pu).mono ?_
  rintro e1 w1 ⟨A1, c1, rfl, hT⟩
  refine rV ?_
  have hI := hI.app1 hT
  refine V0 rfl (V0 rfl (Va [.int .i64 _, .slice _ _ _, .int .i64 _, .int .i64 _] rfl func175 rfl ?_))
  refine (line_any 5 A1 c1 st k a _ (hI.ok (StE A1 c1 st) (by simp)) hb).mono ?_
  rintro e1 w1 ⟨A2, c2, rfl, hT2⟩
  refine rV ?_
  have hI := hI.turn1 hT2
  refine Vz rfl (Vg rfl (Vg rfl (Vo rfl (Vc rfl (Wn (Wq (Vi rfl (V0 rfl (Vo rfl (Vc rfl (V8 rfl (Wn ?_))))))))))))
  refine WR ?_
  exact ret3 10 11 12 (.inr rfl) rfl (StepPost.some (st' := (lineF 5 st k a).1) (r := (lineF 5 st k a).2) e rfl hI)
 -- a mutex
 obtain ⟨bA, oA, z, rfl, rfl, hz⟩ := one rfl
 refine Ws (Wq (V0 rfl (Wn (Wb (Wq (Vw rfl (V8 rfl (Wn (Wc false rfl (Ws (Wr ?_)))))))))))
 refine Vw rfl (V8 rfl (Wn (Wc false rfl (Wq (Vw rfl (V8 rfl (Wn (Wc false rfl (Wq (T5 rfl (V8 rfl ?_)))))))))))
 refine Wn (Wc true rfl ?_)
 by_cases hz1 : z = oneF (k == 12)
 ·have e : stepF 6 [z] k a b = some ([oneF (k == 11)], 0) := by unfold stepF; rw [if_neg hgo, if_neg (by decide), if_neg (by decide), if_neg (by decide), if_pos rfl, if_pos (by simpa using hz1)]
  refine Ws (Ws (Wd (by kernel_rfl) ?_))
  refine Wi (T := []) hI.drew ?_
  intro Sx hY hZ
  have hI := hI.drew
  refine Ta 0 rfl ?_
  refine Wt 1 rfl (fun W hW => have hI := hY W hW; (rIdx1 (i := 0) rfl yy26 (by kernel_rfl) rfl rfl (by simp))) ?_
  refine Vd 2 (.int .i64 _) rfl (fun W hW => (hY W hW).oldp hz) (Vx 3 rfl ?_)
  refine Wt 4 rfl (fun W hW => have hI := hY W hW; (rEql rfl rfl rfl)) ?_
  refine Vu 5 rfl ?_
  refine Va [.bool _] rfl func174 rfl ?_
  refine (one_any (k == 12) _).mono ?_
  rw [← hz1]
  rintro e1 w1 ⟨rfl, hp⟩
  refine rV ?_
  have hI := hI.pure hp
  refine Wn ⟨hZ _ hI, ?_⟩
  refine Uf 6 rfl (We (by kernel_rfl) (Wc false rfl (Wk (Wq (V0 rfl ?_)))))
  refine Wv rfl (rEql rfl rfl rfl) ?_
  refine Va [.bool _] rfl func174 rfl ?_
  refine (one_any (k == 11) _).mono ?_
  rintro e1 w1 ⟨rfl, hp⟩
  refine rV ?_
  have hI := hI.pure hp
  refine T3 [(0, .int .i64 _)] [_] [.int .i64 0] [0] hI rfl yy26 (fun _ => by kernel_rfl) ?_
  rintro b82 w - - hI
  refine Vo rfl (Vc rfl (V8 rfl (Wn ?_)))
  refine WR ?_
  exact ret3 10 11 12 (.inr rfl) rfl (StepPost.some e rfl (lit1 hI))
 have e : stepF 6 [z] k a b = none := by unfold stepF; rw [if_neg hgo, if_neg (by decide), if_neg (by decide), if_neg (by decide), if_pos rfl, if_neg (by simpa using hz1)]
 refine Ws (Ws (Wd (by kernel_rfl) ?_))
 refine Wi (T := []) hI.drew ?_
 intro Sx hY hZ
 have hI := hI.drew
 refine Ta 0 rfl ?_
 refine Wt 1 rfl (fun W hW => have hI := hY W hW; (rIdx1 (i := 0) rfl yy26 (by kernel_rfl) rfl rfl (by simp))) ?_
 refine Vd 2 (.int .i64 _) rfl (fun W hW => (hY W hW).oldp hz) (Vx 3 rfl ?_)
 refine Wt 4 rfl (fun W hW => have hI := hY W hW; (rEql rfl rfl rfl)) ?_
 refine Vu 5 rfl ?_
 refine Va [.bool _] rfl func174 rfl ?_
 refine (one_any (k == 12) _).mono ?_
 generalize hzz : oneF (k == 12) = zz at hz1 ⊢
 rintro e1 w1 ⟨rfl, hp⟩
 refine rV ?_
 have hI := hI.pure hp
 refine Wn ⟨hZ _ hI, ?_⟩
 refine Us 6 rfl (We (by kernel_rfl) (Wc true rfl (Wq (Vo rfl (Vc rfl (V8 rfl (Wn ?_)))))))
 refine WR ?_
 exact ret3 10 11 12 (.inr rfl) rfl (StepPost.none e hI.pu)
def OpsR (w : World) (D : Nat → Prop) (v : Value) (l : List Op8) : Prop := Rd w D 8 v l.length (l.flatMap opV)
theorem OpsR.pure {w w' : World} {D : Nat → Prop} {v : Value} {l : List Op8} (h : OpsR w D v l) (hp : Pure w w') : OpsR w' D v l := Rd.pure h hp
theorem OpsR.at {w : World} {D : Nat → Prop} {A : Option Addr} {n c : Nat} {l : List Op8} (h : OpsR w D (.slice A n c) l) {k : Nat} (hk : k < l.length) : ∃ b o, A = some ⟨b, o, none⟩ ∧ ∀ (j : Nat) (u : Value), (opV (oAt l k))[j]? = some u → w.cell? ⟨b, o + k * 8 + j, none⟩ = some u := by
 obtain ⟨A1, c1, hv, hnc, hcm, hlen, hcell⟩ := h
 injection hv with e1 e2 e3
 subst e1 e3
 obtain ⟨b, o, hbo, _, hcl⟩ := hcell (by omega)
 refine ⟨b, o, hbo, fun j u hj => ?_⟩
 have hj8 : j < 8 := by have := (List.getElem?_eq_some_iff.1 hj).1; simpa [opV] using this
 have hg : l[k]? = some (oAt l k) := by unfold oAt; rw [List.getD_eq_getElem?_getD, List.getElem?_eq_getElem hk]; rfl
 rw [Nat.add_assoc]
 refine hcl _ u ?_
 rw [flatN (f := opV) (fun a => rfl) l k _ hg j hj8]
 exact hj
theorem OpsR.len {w : World} {D : Nat → Prop} {A : Option Addr} {n c : Nat} {l : List Op8} (h : OpsR w D (.slice A n c) l) : n = l.length ∧ n ≤ c ∧ c ≤ 9223372036854775807 := by
 obtain ⟨A', c', he, h1, h2⟩ := Rd.form h
 injection he with _ e2 e3
 subst e2 e3
 exact ⟨rfl, h1, h2⟩
abbrev Loc := Nat → Option Addr × Nat
def updL (L : Loc) (k : Nat) (A : Option Addr) (c : Nat) : Loc := fun j => if j = k then (A, c) else L j
section
variable {P : Program} {ρ : Env} {o : Oper} {w : World} {x y : Operand} {t t' : TypeId}
theorem rQuoU {a b : Nat} (ho : o.op = .binOp .quo t x y t') (hx : ev ρ x = .int .u64 (a : Int)) (hy : ev ρ y = .int .u64 (b : Int)) (hb : 0 < b) (ha : a < 18446744073709551616) : Runs P ρ o w (.int .u64 ((a / b : Nat) : Int)) := by
 have h := rQuoW (P := P) (w := w) ho hx hy (by omega)
 have hl : a / b ≤ a := Nat.div_le_self a b
 have e : (a : Int).tdiv (b : Int) = ((a / b : Nat) : Int) := by simp [Int.ofNat_tdiv]
 rwa [e, wrap_u64 (by omega)] at h
theorem rMulU {a b : Nat} (ho : o.op = .binOp .mul t x y t') (hx : ev ρ x = .int .u64 (a : Int)) (hy : ev ρ y = .int .u64 (b : Int)) (ha : a * b < 18446744073709551616) : Runs P ρ o w (.int .u64 ((a * b : Nat) : Int)) := by
 have h := rMulW (P := P) (w := w) ho hx hy
 rwa [← Int.natCast_mul, wrap_u64 ha] at h
theorem rSubU {a b : Nat} (ho : o.op = .binOp .sub t x y t') (hx : ev ρ x = .int .u64 (a : Int)) (hy : ev ρ y = .int .u64 (b : Int)) (hb : b ≤ a) (ha : a < 18446744073709551616) : Runs P ρ o w (.int .u64 ((a - b : Nat) : Int)) := by
 have h := rSubW (P := P) (w := w) ho hx hy
 rwa [show (a : Int) - (b : Int) = ((a - b : Nat) : Int) by omega, wrap_u64 (by omega)] at h
end
def bytC (l : List Nat) : List Value := l.map fun b : Nat => Value.int .u8 (b : Int)
theorem bytC_len (l : List Nat) : (bytC l).length = l.length := by simp [bytC]
theorem bytC_app (l m : List Nat) : bytC (l ++ m) = bytC l ++ bytC m := by simp [bytC]
theorem bytC_one (l : List Nat) : (bytC l).all (·.oneCell') = true := by
 rw [List.all_eq_true]
 intro v hv
 obtain ⟨b, _, rfl⟩ := List.mem_map.1 hv
 rfl
def BytE (base : Nat) (A : Option Addr) (c : Nat) (l : List Nat) : Ent := Row base 5 1 A l.length c (bytC l)
theorem dig_str : ∀ i, i < 36 → (⟨#[48, 49, 50, 51, 52, 53, 54, 55, 56, 57, 97, 98, 99, 100, 101, 102, 103, 104, 105, 106, 107, 108, 109, 110, 111, 112, 113, 114, 115, 116, 117, 118, 119, 120, 121, 122]⟩ : ByteArray)[i]? = some (UInt8.ofNat (dig36 i)) := by decide +kernel
theorem dig_u8 {i : Nat} (h : i < 36) : ((UInt8.ofNat (dig36 i)).toNat : Int) = (dig36 i : Int) := by
 have := (okC_dig h).1.2.2
 simp
 omega
theorem pow2_36 (w0 : World) : Cq 185 #[.int .i64 36] w0 fun en w' => en = .returned (.bool false) ∧ Pure w0 w' := by
 have hI := Inv.start (fun _ => False) w0
 refine Vn func185 rfl ?_
 refine Wq (V8 rfl (Wn (Wq (V0 rfl (V0 rfl ?_)))))
 refine Wv rfl (by exact rSub rfl rfl rfl (by omega)) ?_
 refine Wv rfl (rBits (r := fun p q => p &&& q) rfl rfl rfl rfl) ?_
 refine Wv rfl (by exact rEql rfl rfl rfl) ?_
 refine V8 rfl (Wn ?_)
 exact WR (r1_ 2 rfl ⟨rfl, hI.pu⟩)
theorem drop_set65 {cs : Array Value} {k : Nat} (hk : k < 65) (hcs : cs.size = 65) (v : Value) : (cs.setIfInBounds (0 + (65 - k - 1) * 1) v).toList.drop (65 - (k + 1)) = v :: cs.toList.drop (65 - k) := by
 have e : 0 + (65 - k - 1) * 1 = 65 - (k + 1) := by omega
 have hl : 65 - (k + 1) < (cs.toList.set (65 - (k + 1)) v).length := by simp [hcs]; omega
 rw [e, Array.toList_setIfInBounds, List.drop_eq_getElem_cons hl, List.getElem_set_self, List.drop_set_of_lt (by omega), show 65 - (k + 1) + 1 = 65 - k by omega]
theorem fmt_any (base : Nat) (A : Option Addr) (c : Nat) (l : List Nat) (u : Nat) (w0 : World) (hR : (BytE base A c l).ok w0) (hu : u < 18446744073709551616) (hn : l.length ≤ 1000000) (hb : base ≤ w0.heap.size) :
  Cq 146 #[.slice A l.length c, .int .u64 (u : Int), .int .i64 36, .bool false, .bool true] w0 fun en w' => ∃ A' c', en = .returned (.tuple #[.slice A' (l ++ dig u).length c', .string ⟨#[]⟩]) ∧ Inv (BytE base A c l).D w0 w' [BytE base A' c' (l ++ dig u)] := by
 have hI := Inv.ownE hR
 refine Vn func146 rfl ?_
 refine Wq (Vo rfl (T4 rfl (Wn (Ws (Wq (V0 rfl (Vr rfl (V6 rfl (V0 rfl (Vw rfl (Ve rfl ?_)))))))))))
 refine V6 rfl (V0 rfl (Tc rfl (Ve rfl (Wn (Wc false rfl (Wk (Wq (T1 (.agg zB65) (zB65) hI rfl ?_))))))))
 rintro b12 w - - hI
 refine Wn (Wq (Vc rfl (Wn (Ws (Wq (V6 rfl (Wn (Wc false rfl (Wk (Ws (Ws ?_)))))))))))
 refine Wr (V0 rfl (Va [.int .i64 _] rfl func185 rfl ?_))
 refine (pow2_36 _).mono (okP hI fun w1 hp hI => ?_)
 refine Wn (Wc false rfl (Wq (V0 rfl ?_)))
 refine Wv rfl (by exact rConvW rfl yy3 yy185 rfl) ?_
 refine Vc rfl (Wn ?_)
 obtain ⟨cs, hcs, hI⟩ : ∃ cs : Array Value, cs.size = 65 ∧ Inv (BytE base A c l).D w0 w1 [B b12 337 cs, BytE base A c l] := ⟨_, by rfl, hI⟩
 refine Ws (Wb ?_)
 refine Wl (fun mu ρ w => ∃ (k u' : Nat) (acc : List Nat) (cs : Array Value), mu = 13 - k ∧ k ≤ 13 ∧ acc.length = k ∧ dig u = digs36 (13 - k) u' acc ∧ u' < 36 ^ (13 - k + 1) ∧ u' < 18446744073709551616 ∧ cs.size = 65 ∧ cs.toList.drop (65 - k) = bytC acc ∧ Has ρ [(13, .int .i64 ((65 - k : Nat) : Int)), (1, .int .u64 (u' : Int)), (17, .int .u64 36), (12, .pointer (some ⟨b12, 0, none⟩)), (0, .slice A l.length c), (3, .bool false), (4, .bool true), (11, .string ⟨#[]⟩)] ∧ Inv (BytE base A c l).D w0 w [B b12 337 cs, BytE base A c l]) 13
  ⟨0, u, [], cs, rfl, by omega, rfl, rfl, Nat.lt_of_lt_of_le hu (by decide), hu, hcs, by rw [List.drop_eq_nil_of_le (by simp [hcs])]; rfl, ⟨rfl, rfl, rfl, rfl, rfl, rfl, rfl, rfl, trivial⟩, hI⟩ ?_
 clear hI
 rintro mu ρ w ⟨k, u', acc, cs, rfl, hk, hacc, hdig, hu1, hu2, hcs, hdrop, hH, hI⟩
 obtain ⟨σ, rfl⟩ := hH.open
 by_cases h36 : 36 ≤ u'
 ·have hk13 : k < 13 := by
   rcases Nat.lt_or_ge k 13 with h | h
   ·exact h
   obtain rfl : k = 13 := by omega
   simp at hu1
   omega
  have hq : u' / 36 * 36 ≤ u' := Nat.div_mul_le_self u' 36
  have hr : u' - u' / 36 * 36 = u' % 36 := by omega
  have hr36 : u' % 36 < 36 := Nat.mod_lt _ (by omega)
  refine Ws (Wq (V0 rfl (V0 rfl (To rfl (Wn (Wc true rfl (Wk (Wb (Wq (V0 rfl ?_))))))))))
  refine Wv rfl (rDecN (b := 1) rfl rfl rfl (by omega) (by omega)) ?_
  refine Vc rfl (Wn (Wq (V0 rfl (V0 rfl ?_))))
  refine Wv rfl (rQuoU (b := 36) rfl rfl rfl (by omega) (by omega)) ?_
  refine Vc rfl (Wn (Wq (V0 rfl (V0 rfl (V0 rfl (V0 rfl ?_))))))
  refine Wv rfl (rMulU (b := 36) rfl rfl rfl (by omega)) ?_
  refine Wv rfl (rSubU rfl rfl rfl (by omega) (by omega)) ?_
  refine Wv rfl (rIdxStr rfl yy9 rfl rfl (dig_str _ (by omega)) (dig_u8 (by omega))) ?_
  refine Wv rfl (rIdxArr (sz := 1) rfl underlying337 (by kernel_rfl) rfl rfl rfl (by omega)) ?_
  refine WL_st0 (u := .int .u8 (dig36 (u' - u' / 36 * 36) : Int)) (j := 0 + (65 - k - 1) * 1) hI rfl rfl rfl rfl rfl rfl (by kernel_rfl) rfl (by simp [Nat.blt, hcs]) rfl ?_
  intro w hI
  refine Wn (Wr (V0 rfl (Vc rfl (Wn ?_))))
  rw [hr] at hI
  refine ⟨13 - (k + 1), by omega, k + 1, u' / 36, dig36 (u' % 36) :: acc, _, rfl, by omega, by simp [hacc], ?_, ?_, by omega, by simp [hcs], ?_, ⟨by show Value.int .i64 ((65 - k - 1 : Nat) : Int) = .int .i64 ((65 - (k + 1) : Nat) : Int); rw [Nat.sub_sub], rfl, rfl, rfl, rfl, rfl, rfl, rfl, trivial⟩, hI⟩
  ·rw [hdig, show 13 - k = (13 - (k + 1)) + 1 by omega, digs36, if_neg (by omega)]
  ·rw [Nat.div_lt_iff_lt_mul (by omega), ← Nat.pow_succ]
   rwa [show (13 - (k + 1) + 1).succ = 13 - k + 1 by omega]
  rw [drop_set65 (by omega) hcs, hdrop]; rfl
 refine Ws (Wq (V0 rfl (V0 rfl (U5 rfl (Wn (Wc false rfl ?_))))))
 refine WE ?_
 refine Wq (V0 rfl ?_)
 refine Wv rfl (rDecN (b := 1) rfl rfl rfl (by omega) (by omega)) ?_
 refine Vc rfl (Wn (Wr (V0 rfl (V0 rfl ?_))))
 refine Wv rfl (rIdxStr rfl yy9 rfl rfl (dig_str _ (by omega)) (dig_u8 (by omega))) ?_
 refine Wv rfl (rIdxArr (sz := 1) rfl underlying337 (by kernel_rfl) rfl rfl rfl (by omega)) ?_
 refine WL_st0 (u := .int .u8 (dig36 u' : Int)) (j := 0 + (65 - k - 1) * 1) hI rfl rfl rfl rfl rfl rfl (by kernel_rfl) rfl (by simp [Nat.blt, hcs]) rfl ?_
 intro w hI
 refine Wn ?_
 have hfin : dig u = dig36 u' :: acc := by
  rw [hdig]
  cases h13 : 13 - k with
  | zero => rw [digs36, Nat.mod_eq_of_lt (by omega)]
  | succ f => rw [digs36, if_pos (by omega)]
 have hd65 := drop_set65 (k := k) (by omega) hcs (.int .u8 (dig36 u' : Int))
 rw [hdrop] at hd65
 have hd65 : (cs.setIfInBounds (0 + (65 - k - 1) * 1) (.int .u8 (dig36 u' : Int))).toList.drop (65 - (k + 1)) = bytC (dig u) := by rw [hd65, hfin]; rfl
 have hsz : (cs.setIfInBounds (0 + (65 - k - 1) * 1) (.int .u8 (dig36 u' : Int))).size = 65 := by simp [hcs]
 have hlen : (dig u).length = k + 1 := by rw [hfin]; simp [hacc]
 replace hI : ∃ cs' : Array Value, cs'.size = 65 ∧ cs'.toList.drop (65 - (k + 1)) = bytC (dig u) ∧ Inv (BytE base A c l).D w0 w [B b12 337 cs', BytE base A c l] := ⟨_, hsz, hd65, hI⟩
 obtain ⟨cs', hsz', hd', hI⟩ := hI
 refine Ws (Wq (V6 rfl (Wn (Wc false rfl (Wk (Ws (Wq (V6 rfl (Wn (Wc true rfl (Ws ?_)))))))))))
 refine Wr (Vi rfl (V0 rfl ?_))
 refine Wv rfl (rSliceArr (i := 65 - k - 1) rfl underlying337 (by kernel_rfl) rfl rfl (by omega)) ?_
 -- STOP: call ['Op.call', ('st', {'callee': ['Callee.builtin', 'Builtin.append'], 'args': ('arr', [['Operand.tmp', '95'], ['Operand.tmp', '97']]), 'argTypes': ('arr
 refine WL_app1 (z := .int .u8 0) (by_ := 1) (news := bytC (dig u)) hI rfl rfl rfl rfl rfl rfl yy133 (by kernel_rfl) rfl (by omega) (by rw [bytC_len]; omega) (fun q v hq => ?_) (bytC_one _) (by omega) (by omega) (by have := hI.chg.size; omega) ?_
 ·rw [← hd', List.getElem?_drop] at hq
  rw [Nat.zero_add, show 65 - k - 1 = 65 - (k + 1) by omega]
  exact hI.c0 (by simpa using hq)
 rintro A' c' w hc1 hc2 hI
 refine Vo rfl (Wn ?_)
 refine WR ?_
 have el : l.length + (65 - (65 - k - 1)) = (l ++ dig u).length := by simp [hlen]; omega
 rw [el, ← bytC_app] at hI
 refine r2_ 10 11 rfl ⟨A', c', ?_, hI.d0⟩
 rw [← el]; rfl
theorem appU_any (base : Nat) (A : Option Addr) (c : Nat) (l : List Nat) (u : Nat) (w0 : World) (hR : (BytE base A c l).ok w0) (hu : u < 18446744073709551616) (hn : l.length ≤ 1000000) (hb : base ≤ w0.heap.size) :
  Cq 217 #[.slice A l.length c, .int .u64 (u : Int), .int .i64 36] w0 fun en w' => ∃ A' c', en = .returned (.slice A' (l ++ dig u).length c') ∧ Inv (BytE base A c l).D w0 w' [BytE base A' c' (l ++ dig u)] := by
 have hI := Inv.ownE hR
 refine Vn func217 rfl ?_
 refine Wq (Vo rfl (Wn (Ws (Wq (V0 rfl (Vw rfl (Wn (Wc false rfl (Wk (Ws (Wr ?_)))))))))))
 refine Vi rfl (V0 rfl (V0 rfl (Va [.slice _ _ _, .int .u64 _, .int .i64 _, .bool _, .bool _] rfl func146 rfl ?_)))
 refine (fmt_any base A c l u _ (hI.ok _ (by simp)) hu hn hb).mono ?_
 rintro e w1 ⟨A', c', rfl, hT⟩
 refine rV ?_
 have hI := hI.turn1 hT
 refine Vz rfl (Vg rfl (Vg rfl (Vo rfl (Wn (Wq (Vi rfl (Vo rfl (Wn ?_))))))))
 exact WR (r1_ 6 rfl ⟨A', c', rfl, hI⟩)
section
variable {P : Program} {ρ : Env} {o : Oper} {w : World} {x y : Operand} {t t' : TypeId}
theorem rNegU {n : Int} (ho : o.op = .unOp .neg t x) (hx : ev ρ x = .int .u64 (IntKind.u64.wrap n)) (h0 : n < 0) (h1 : -9223372036854775808 ≤ n) : Runs P ρ o w (.int .u64 (n.natAbs : Int)) := by
 have h := rNegW (P := P) (w := w) ho hx
 have e : IntKind.u64.wrap (0 - IntKind.u64.wrap n) = (n.natAbs : Int) := by
  simp [IntKind.wrap, IntKind.signed, IntKind.bits]
  omega
 rwa [e] at h
end
theorem appI_any (base : Nat) (A : Option Addr) (c : Nat) (l : List Nat) (n : Int) (w0 : World) (hR : (BytE base A c l).ok w0) (hn : i64B n) (hl : l.length ≤ 999999) (hb : base ≤ w0.heap.size) :
  Cq 198 #[.slice A l.length c, .int .i64 n, .int .i64 36] w0 fun en w' => ∃ A' c', en = .returned (.slice A' (l ++ itoa36 n).length c') ∧ Inv (BytE base A c l).D w0 w' [BytE base A' c' (l ++ itoa36 n)] := by
 have hI := Inv.ownE hR
 unfold i64B at hn
 refine Vn func198 rfl ?_
 refine Wq (Vo rfl (Wn ?_))
 by_cases hneg : n < 0
 ·refine Wq (V0 rfl ?_)
  refine Wv rfl (rConvW rfl underlying2 yy185 rfl) ?_
  refine Vc rfl (Wn (Ws (Wq (V0 rfl (Vt rfl (Wn (Wc true rfl (Wq (Vi rfl (T3 [(0, .int .u8 _)] [_] [.int .u8 0] [0] hI rfl yy133 (fun _ => by kernel_rfl) ?_))))))))))
  rintro b13 w - - hI
  refine Tx 1 (.int .u8 0) hI rfl yy133 rfl (by rfl) hI.lit0 (by rfl) (by (have := hI.chg.size; omega)) ?_
  rintro A14 c14 w hA14 hc14 hI
  have hI := hI.d0
  refine Vo rfl (Wn ?_)
  replace hI : Inv (BytE base A c l).D w0 w [BytE base A14 c14 (l ++ [45])] := by
   have e : BytE base A14 c14 (l ++ [45]) = Row base 5 1 A14 (l.length + 1) c14 (bytC l ++ [.int .u8 45]) := by
    unfold BytE
    rw [bytC_app, List.length_append]
    rfl
   rw [e]; exact hI
  refine Wr (V0 rfl ?_)
  refine Wv rfl (rNegU (n := n) rfl rfl hneg (by omega)) ?_
  refine Vc rfl (Wn ?_)
  have e : l ++ itoa36 n = (l ++ [45]) ++ dig n.natAbs := by unfold itoa36; rw [if_pos hneg]; simp
  rw [e]
  refine Wq (Vi rfl (V0 rfl (V0 rfl (Va [.slice _ _ _, .int .u64 _, .int .i64 _] rfl func217 rfl ?_))))
  refine Calls.mono (by have h := appU_any base A14 c14 (l ++ [45]) n.natAbs _ (hI.ok _ (by simp)) (by omega) (by simp; omega) (by have := hI.chg.size; omega); rw [List.length_append] at h; exact h) ?_
  rintro e w1 ⟨A', c', rfl, hT⟩
  refine rV ?_
  have hI := hI.turn1 hT
  refine Vo rfl (Wn ?_)
  exact WR (r1_ 6 rfl ⟨A', c', rfl, hI⟩)
 obtain ⟨m, rfl⟩ : ∃ m : Nat, n = (m : Int) := ⟨n.toNat, by omega⟩
 refine Wq (V0 rfl ?_)
 refine Wv rfl (by exact rConv_u64s rfl underlying2 yy185 rfl (by omega)) ?_
 refine Vc rfl (Wn (Ws (Wq (V0 rfl (Vr rfl (Wn (Wc false rfl (Wk ?_))))))))
 have e : l ++ itoa36 (m : Int) = l ++ dig m := by unfold itoa36; rw [if_neg hneg]; simp
 rw [e]
 refine Wq (Vi rfl (V0 rfl (V0 rfl (Va [.slice _ _ _, .int .u64 _, .int .i64 _] rfl func217 rfl ?_))))
 refine (appU_any base A c l m _ (hI.ok _ (by simp)) (by omega) (by omega) (by have := hI.chg.size; omega)).mono ?_
 rintro e w1 ⟨A', c', rfl, hT⟩
 refine rV ?_
 have hI := hI.turn1 hT
 refine Vo rfl (Wn ?_)
 exact WR (r1_ 6 rfl ⟨A', c', rfl, hI⟩)
theorem appP_any (base : Nat) (A : Option Addr) (c : Nat) (l : List Nat) (n : Int) (w0 : World) (hR : (BytE base A c l).ok w0) (hn : i64B n) (hl : l.length ≤ 999999) (hb : base ≤ w0.heap.size) :
  Cq 171 #[.slice A l.length c, .int .i64 n, .int .i64 36] w0 fun en w' => ∃ A' c', en = .returned (.slice A' (l ++ itoa36 n).length c') ∧ Inv (BytE base A c l).D w0 w' [BytE base A' c' (l ++ itoa36 n)] := by
 have hI := Inv.ownE hR
 refine Vn func171 rfl ?_
 refine Wq (Vo rfl (Wn (Wq (Vi rfl (V0 rfl (V0 rfl (Va [.slice _ _ _, .int .i64 _, .int .i64 _] rfl func198 rfl ?_)))))))
 refine (appI_any base A c l n _ (hI.ok _ (by simp)) hn hl hb).mono ?_
 rintro e w1 ⟨A', c', rfl, hT⟩
 refine rV ?_
 have hI := hI.turn1 hT
 refine Vo rfl (Wn ?_)
 exact WR (r1_ 6 rfl ⟨A', c', rfl, hI⟩)
theorem digs_len : ∀ (f u : Nat) (acc : List Nat), (digs36 f u acc).length ≤ acc.length + f + 1
 | 0, u, acc => by simp [digs36]
 | f + 1, u, acc => by
  rw [digs36]
  split
  ·simp
  have := digs_len f (u / 36) (dig36 (u % 36) :: acc)
  simp at this ⊢
  omega
theorem itoa_len (n : Int) : (itoa36 n).length ≤ 15 := by
 have h : ∀ u, (dig u).length ≤ 14 := fun u => digs_len 13 u []
 have := h n.natAbs
 unfold itoa36
 split
 ·simp; omega
 omega
def befB (p q : Op8) : Bool := decide (0 ≤ p.ret) && decide (p.ret < q.call)
theorem before_one (p0 p1 p2 p3 p4 p5 p6 p7 q0 q1 q2 q3 q4 q5 q6 q7 : Int) (w0 : World) : Cq 48 #[.agg #[.int .i64 p0, .int .i64 p1, .int .i64 p2, .int .i64 p3, .int .i64 p4, .int .i64 p5, .int .i64 p6, .int .i64 p7], .agg #[.int .i64 q0, .int .i64 q1, .int .i64 q2, .int .i64 q3, .int .i64 q4, .int .i64 q5, .int .i64 q6, .int .i64 q7]] w0 fun en w' => en = .returned (.bool (befB ⟨p0, p1, p2, p3, p4, p5, p6, p7⟩ ⟨q0, q1, q2, q3, q4, q5, q6, q7⟩)) ∧ Pure w0 w' := by
 have hI := Inv.start (fun _ => False) w0
 refine Vn func48 rfl ?_
 refine Wq (Tb (.agg _) (#[_, _, _, _, _, _, _, _]) hI rfl ?_)
 rintro b2 w - - hI
 refine Tb (.agg _) (#[_, _, _, _, _, _, _, _]) hI rfl ?_
 rintro b3 w - - hI
 refine V8 rfl (Wn ?_)
 obtain ⟨r, hr⟩ : ∃ r, befB ⟨p0, p1, p2, p3, p4, p5, p6, p7⟩ ⟨q0, q1, q2, q3, q4, q5, q6, q7⟩ = r := ⟨_, rfl⟩
 rw [hr]
 have hr' : (decide (0 ≤ p7) && decide (p7 < q6)) = r := hr
 by_cases h : 0 ≤ p7
 ·rw [decide_eq_true h, Bool.true_and] at hr'
  by_cases h2 : p7 < q6
  ·rw [decide_eq_true h2] at hr'; subst hr'
   refine Wq (V7 7 rfl (V5 (.int .i64 _) rfl (hI.c1 rfl) (To rfl (V6 rfl (V7 7 rfl (V5 (.int .i64 _) rfl (hI.c1 rfl) (V7 6 rfl (V5 (.int .i64 _) rfl (hI.c0 rfl) (Vt rfl (Vk rfl (V8 rfl (Wn ?_))))))))))))
   exact WR (r1_ 4 rfl ⟨rfl, hI.pu⟩)
  rw [decide_eq_false h2] at hr'; subst hr'
  refine Wq (V7 7 rfl (V5 (.int .i64 _) rfl (hI.c1 rfl) (To rfl (V6 rfl (V7 7 rfl (V5 (.int .i64 _) rfl (hI.c1 rfl) (V7 6 rfl (V5 (.int .i64 _) rfl (hI.c0 rfl) (Vr rfl (Vk rfl (V8 rfl (Wn ?_))))))))))))
  exact WR (r1_ 4 rfl ⟨rfl, hI.pu⟩)
 rw [decide_eq_false h, Bool.false_and] at hr'; subst hr'
 refine Wq (V7 7 rfl (V5 (.int .i64 _) rfl (hI.c1 rfl) (U5 rfl (V6 rfl (V4 rfl (V4 rfl (V4 rfl (V4 rfl (V4 rfl (Ve rfl (V8 rfl (Wn ?_))))))))))))
 exact WR (r1_ 4 rfl ⟨rfl, hI.pu⟩)
theorem before_any (p q : Op8) (w0 : World) : Cq 48 #[.agg (opV p).toArray, .agg (opV q).toArray] w0 fun en w' => en = .returned (.bool (befB p q)) ∧ Pure w0 w' := by
 obtain ⟨p0, p1, p2, p3, p4, p5, p6, p7⟩ := p
 obtain ⟨q0, q1, q2, q3, q4, q5, q6, q7⟩ := q
 exact before_one p0 p1 p2 p3 p4 p5 p6 p7 q0 q1 q2 q3 q4 q5 q6 q7 w0
def ordOk (o : Op8) (ah : List Op8) : Prop := ¬ (o.call < 0) ∧ ¬ (0 < ah.length ∧ o.call ≤ (oAt ah (ah.length - 1)).call) ∧ ¬ (o.ret ≠ -1 ∧ o.ret ≤ o.call) ∧ ¬ (o.ret = -1 ∧ o.res ≠ 0)
def twiceAt (o : Op8) (n : Int) : Prop := n ≠ -1 ∧ (n = o.call ∨ n = o.ret)
def OkOp (o : Op8) (ah : List Op8) : Prop :=
 toldB o.proc o.key [o.a, o.b, o.res, o.call, o.ret] = true ∧ inB o.kind 1 12 = true ∧ ordOk o ah ∧
  (∀ k, k < ah.length → ¬ twiceAt o (oAt ah k).call ∧ ¬ twiceAt o (oAt ah k).ret) ∧ (∀ k, k < ah.length → (oAt ah k).proc = o.proc → befB (oAt ah k) o = true)
def IsErr8 (v : Value) : Prop := ∃ u : Int, v = .iface 45 (.int .i64 u) ∧ u ≠ 8
theorem IsErr8.any {v : Value} (h : IsErr8 v) : IsErr v := by obtain ⟨u, h1, _⟩ := h; exact ⟨u, h1⟩
def OpPost (o : Op8) (ah : List Op8) (w0 : World) (en : Ending) (w' : World) : Prop := Pure w0 w' ∧ ((OkOp o ah ∧ en = .returned .nilIface) ∨ (¬ OkOp o ah ∧ ∃ x, IsErr8 x ∧ en = .returned x))
theorem OpPost.bad {o : Op8} {ah : List Op8} {w0 w' : World} {z : Int} (h : ¬ OkOp o ah) (hp : Pure w0 w') (hz : z ≠ 8 := by decide) : OpPost o ah w0 (.returned (.iface 45 (.int .i64 z))) w' := ⟨hp, .inr ⟨h, _, ⟨z, rfl, hz⟩, rfl⟩⟩
theorem checkOp_one (o0 o1 o2 o3 o4 o5 o6 o7 : Int) (A : Option Addr) (n c : Nat) (ah : List Op8) (D : Nat → Prop) (w0 : World) (h : OpsR w0 D (.slice A n c) ah) (hn40 : n ≤ 1000) :
  Cq 170 #[.agg #[.int .i64 o0, .int .i64 o1, .int .i64 o2, .int .i64 o3, .int .i64 o4, .int .i64 o5, .int .i64 o6, .int .i64 o7], .slice A n c] w0 (OpPost ⟨o0, o1, o2, o3, o4, o5, o6, o7⟩ ah w0) := by
 obtain ⟨hn, hc1, hc2⟩ := h.len
 subst hn
 have hI := Inv.start (fun _ => False) w0
 refine Vn func170 rfl ?_
 refine Wq (Tb (.agg _) (#[_, _, _, _, _, _, _, _]) hI rfl ?_)
 rintro b2 w - - hI
 refine Vj rfl (Wn (Wq (V7 7 rfl (V5 (.int .i64 _) rfl (hI.c0 rfl) ?_))))
 refine Wv rfl (rEql rfl rfl rfl) ?_
 refine V8 rfl (Wn (Ws (Wb ?_)))
 cases ht : toldB o0 o1 [o3, o4, o5, o6, o7] with
 | false =>
  refine Wq (V7 0 rfl (V5 (.int .i64 _) rfl (hI.c0 rfl) (V7 1 rfl (V5 (.int .i64 _) rfl (hI.c0 rfl) (V7 3 rfl (V5 (.int .i64 _) rfl (hI.c0 rfl) (V7 4 rfl (V5 (.int .i64 _) rfl (hI.c0 rfl) (V7 5 rfl (V5 (.int .i64 _) rfl (hI.c0 rfl) (V7 6 rfl (V5 (.int .i64 _) rfl (hI.c0 rfl) ?_))))))))))))
  refine V7 7 rfl (V5 (.int .i64 _) rfl (hI.c0 rfl) (T3 [(0, .int .i64 _), (1, .int .i64 _), (2, .int .i64 _), (3, .int .i64 _), (4, .int .i64 _)] [_, _, _, _, _] [.int .i64 0, .int .i64 0, .int .i64 0, .int .i64 0, .int .i64 0] [0, 1, 2, 3, 4] hI rfl yy26 (fun _ => by kernel_rfl) ?_))
  rintro b30 w - - hI
  refine Va [.int .i64 _, .int .i64 _, .slice _ _ _] rfl func89 rfl ?_
  refine (told_any o0 o1 _ 5 5 [o3, o4, o5, o6, o7] _ _ (ints_lit hI.g0 rfl rfl (by omega)) rfl (by omega)).mono ?_
  rw [ht]
  rintro e w1 ⟨rfl, rfl⟩
  refine rV ?_
  refine Ti rfl (V8 rfl (Wn (Wc true rfl (Wq (T6 rfl yy45 rfl (Vp rfl (Wn ?_)))))))
  exact WR (r1_ 4 rfl (OpPost.bad (fun hh => by have := hh.1; rw [show toldB _ _ _ = false from ht] at this; cases this) hI.pu))
 | true =>
 refine Wq (V7 0 rfl (V5 (.int .i64 _) rfl (hI.c0 rfl) (V7 1 rfl (V5 (.int .i64 _) rfl (hI.c0 rfl) (V7 3 rfl (V5 (.int .i64 _) rfl (hI.c0 rfl) (V7 4 rfl (V5 (.int .i64 _) rfl (hI.c0 rfl) (V7 5 rfl (V5 (.int .i64 _) rfl (hI.c0 rfl) (V7 6 rfl (V5 (.int .i64 _) rfl (hI.c0 rfl) ?_))))))))))))
 refine V7 7 rfl (V5 (.int .i64 _) rfl (hI.c0 rfl) (T3 [(0, .int .i64 _), (1, .int .i64 _), (2, .int .i64 _), (3, .int .i64 _), (4, .int .i64 _)] [_, _, _, _, _] [.int .i64 0, .int .i64 0, .int .i64 0, .int .i64 0, .int .i64 0] [0, 1, 2, 3, 4] hI rfl yy26 (fun _ => by kernel_rfl) ?_))
 rintro b30 w - - hI
 refine Va [.int .i64 _, .int .i64 _, .slice _ _ _] rfl func89 rfl ?_
 refine (told_any o0 o1 _ 5 5 [o3, o4, o5, o6, o7] _ _ (ints_lit hI.g0 rfl rfl (by omega)) rfl (by omega)).mono ?_
 rw [ht]
 rintro e w1 ⟨rfl, rfl⟩
 refine rV ?_
 refine T9 rfl (V8 rfl (Wn (Wc false rfl ?_)))
 have hI := hI.d0
 cases hkd : inB o2 1 12 with
 | false =>
  refine Wq (V7 2 rfl (V5 (.int .i64 _) rfl (hI.c0 rfl) (Va [.int .i64 _, .int .i64 _, .int .i64 _] rfl func90 rfl ?_)))
  refine (ein_any o2 1 12 _).mono ?_
  rw [hkd]
  rintro e w1 ⟨rfl, rfl⟩
  refine rV ?_
  refine Ti rfl (V8 rfl (Wn (Wc true rfl (Wq (T6 rfl yy45 rfl (Vp rfl (Wn ?_)))))))
  exact WR (r1_ 4 rfl (OpPost.bad (fun hh => by have := hh.2.1; rw [show inB _ _ _ = false from hkd] at this; cases this) hI.pu))
 | true =>
 refine Wq (V7 2 rfl (V5 (.int .i64 _) rfl (hI.c0 rfl) (Va [.int .i64 _, .int .i64 _, .int .i64 _] rfl func90 rfl ?_)))
 refine (ein_any o2 1 12 _).mono ?_
 rw [hkd]
 rintro e w1 ⟨rfl, rfl⟩
 refine rV ?_
 refine T9 rfl (V8 rfl (Wn (Wc false rfl ?_)))
 refine Wx (fun ρ w => ∃ bb : Bool, (bb = true ↔ ¬ ordOk ⟨o0, o1, o2, o3, o4, o5, o6, o7⟩ ah) ∧ Has ρ [(40, .bool bb), (1, .slice A ah.length c), (2, .pointer (some ⟨b2, 0, none⟩))] ∧ Inv NF w0 w [B b2 120 #[.int .i64 o0, .int .i64 o1, .int .i64 o2, .int .i64 o3, .int .i64 o4, .int .i64 o5, .int .i64 o6, .int .i64 o7]]) ?_ ?_
 ·by_cases c1 : o6 < 0
  ·refine Wq (V7 6 rfl (V5 (.int .i64 _) rfl (hI.c0 rfl) (Vt rfl (V8 rfl (Wn (Wc true rfl (Wk ?_)))))))
   exact ⟨true, by simp; exact fun hh => hh.1 c1, ⟨rfl, rfl, rfl, trivial⟩, hI⟩
  refine Wq (V7 6 rfl (V5 (.int .i64 _) rfl (hI.c0 rfl) (Vr rfl (V8 rfl (Wn (Wc false rfl ?_))))))
  obtain ⟨lb, hlb⟩ : ∃ lb : Bool, (lb = true ↔ (0 < ah.length ∧ o6 ≤ (oAt ah (ah.length - 1)).call)) := ⟨decide (0 < ah.length ∧ o6 ≤ (oAt ah (ah.length - 1)).call), by simp⟩
  refine Wx (fun ρ w => Has ρ [(40, .bool lb), (1, .slice A ah.length c), (2, .pointer (some ⟨b2, 0, none⟩)), (5, .bool (decide (o7 = -1)))] ∧ Inv NF w0 w [B b2 120 #[.int .i64 o0, .int .i64 o1, .int .i64 o2, .int .i64 o3, .int .i64 o4, .int .i64 o5, .int .i64 o6, .int .i64 o7]]) ?_ ?_
  ·rcases Nat.eq_zero_or_pos ah.length with h0 | h0
   ·have : lb = false := by
     cases lb
     ·rfl
     have := hlb.1 rfl; omega
    subst this
    refine Wd (by kernel_rfl) ?_
    refine Wi (T := []) hI.drew ?_
    intro Sx hY hZ
    have hI := hI.drew
    refine Ta 0 rfl (Ui 1 rfl yy62 rfl ?_)
    refine Wt 2 rfl (fun W hW => have hI := hY W hW; (by exact rGtrF rfl rfl rfl (by omega))) ?_
    refine Tg 3 rfl (Vq 4 rfl rfl (Vq 5 rfl rfl (Vq 6 rfl rfl (Vq 7 rfl rfl (Vq 8 rfl rfl (Vq 9 rfl rfl (Vq 10 rfl rfl (Vq 11 rfl rfl (Vq 12 rfl rfl (Vq 13 rfl rfl (Tw 14 rfl (Ub 15 rfl (We (by kernel_rfl) ?_)))))))))))))
    exact ⟨⟨rfl, rfl, rfl, rfl, trivial⟩, hI⟩
   obtain ⟨ab, ao, rfl, hoc⟩ := h.at (show ah.length - 1 < ah.length by omega)
   have hcl := hoc 6 _ rfl
   by_cases hle : o6 ≤ (oAt ah (ah.length - 1)).call
   ·have : lb = true := hlb.2 ⟨h0, hle⟩
    subst this
    refine Wd (by kernel_rfl) ?_
    refine Wi (T := []) hI.drew ?_
    intro Sx hY hZ
    have hI := hI.drew
    refine Ta 0 rfl (Ui 1 rfl yy62 rfl ?_)
    refine Wt 2 rfl (fun W hW => have hI := hY W hW; (by exact rGtrT rfl rfl rfl (by omega))) ?_
    refine Tg 3 rfl (Vf 4 6 rfl (Vd 5 (.int .i64 _) rfl (fun W hW => (hY W hW).c0 rfl) (Ta 6 rfl (Ta 7 rfl (Ui 8 rfl yy62 rfl ?_)))))
    refine Wt 9 rfl (fun W hW => have hI := hY W hW; (rDecN (a := ah.length) (b := 1) rfl rfl rfl (by omega) (by omega))) ?_
    refine Wt 10 rfl (fun W hW => have hI := hY W hW; (rIdx (sz := 8) (i := ah.length - 1) rfl yy62 (by kernel_rfl) rfl rfl (by omega))) ?_
    refine Th 11 6 rfl (Vd 12 (.int .i64 _) rfl (fun W hW => (hY W hW).oldp hcl) ?_)
    refine Wt 13 rfl (fun W hW => have hI := hY W hW; (by exact rLeqT rfl rfl rfl (by omega))) ?_
    refine U4 14 rfl (Ub 15 rfl (We (by kernel_rfl) ?_))
    exact ⟨⟨rfl, rfl, rfl, rfl, trivial⟩, hI⟩
   have : lb = false := by
    cases lb
    ·rfl
    exact absurd (hlb.1 rfl).2 hle
   subst this
   refine Wd (by kernel_rfl) ?_
   refine Wi (T := []) hI.drew ?_
   intro Sx hY hZ
   have hI := hI.drew
   refine Ta 0 rfl (Ui 1 rfl yy62 rfl ?_)
   refine Wt 2 rfl (fun W hW => have hI := hY W hW; (by exact rGtrT rfl rfl rfl (by omega))) ?_
   refine Tg 3 rfl (Vf 4 6 rfl (Vd 5 (.int .i64 _) rfl (fun W hW => (hY W hW).c0 rfl) (Ta 6 rfl (Ta 7 rfl (Ui 8 rfl yy62 rfl ?_)))))
   refine Wt 9 rfl (fun W hW => have hI := hY W hW; (rDecN (a := ah.length) (b := 1) rfl rfl rfl (by omega) (by omega))) ?_
   refine Wt 10 rfl (fun W hW => have hI := hY W hW; (rIdx (sz := 8) (i := ah.length - 1) rfl yy62 (by kernel_rfl) rfl rfl (by omega))) ?_
   refine Th 11 6 rfl (Vd 12 (.int .i64 _) rfl (fun W hW => (hY W hW).oldp hcl) ?_)
   refine Wt 13 rfl (fun W hW => have hI := hY W hW; (by exact rLeqF rfl rfl rfl (by omega))) ?_
   refine U4 14 rfl (Ub 15 rfl (We (by kernel_rfl) ?_))
   exact ⟨⟨rfl, rfl, rfl, rfl, trivial⟩, hI⟩
  clear hI
  rintro ρ w ⟨hH, hI⟩
  obtain ⟨σ, rfl⟩ := hH.open
  cases lb with
  | true =>
   refine Wc true rfl (Wk ?_)
   exact ⟨true, by simp; exact fun hh => hh.2.1 (hlb.1 rfl), ⟨rfl, rfl, rfl, trivial⟩, hI⟩
  | false =>
  have hnl : ¬ (0 < ah.length ∧ o6 ≤ (oAt ah (ah.length - 1)).call) := fun hh => by have := hlb.2 hh; cases this
  refine Wc false rfl ?_
  by_cases hu : o7 = -1
  ·rw [decide_eq_true hu]
   refine Wq (V6 rfl (T9 rfl (V6 rfl (V4 rfl (V4 rfl (V4 rfl (V4 rfl (V4 rfl (Ve rfl (V8 rfl (Wn (Wc false rfl ?_))))))))))))
   by_cases hres : o5 = 0
   ·refine Wr (V6 rfl (V6 rfl (V7 5 rfl (V5 (.int .i64 _) rfl (hI.c0 rfl) (U2 rfl (Vk rfl (V8 rfl (Wn ?_))))))))
    exact ⟨false, by simp; exact ⟨by exact c1, hnl, fun hh => hh.1 hu, fun hh => hh.2 hres⟩, ⟨rfl, rfl, rfl, trivial⟩, hI⟩
   refine Wr (V6 rfl (V6 rfl (V7 5 rfl (V5 (.int .i64 _) rfl (hI.c0 rfl) (U1 rfl (Vk rfl (V8 rfl (Wn ?_))))))))
   exact ⟨true, by simp; exact fun hh => hh.2.2.2 ⟨hu, hres⟩, ⟨rfl, rfl, rfl, trivial⟩, hI⟩
  rw [decide_eq_false hu]
  by_cases hrc : o7 ≤ o6
  ·refine Wq (V6 rfl (Ti rfl (V6 rfl (V7 7 rfl (V5 (.int .i64 _) rfl (hI.c0 rfl) (V7 6 rfl (V5 (.int .i64 _) rfl (hI.c0 rfl) (Up rfl (Vk rfl (V8 rfl (Wn (Wc true rfl ?_))))))))))))
   refine Wk ?_
   exact ⟨true, by simp; exact fun hh => hh.2.2.1 ⟨hu, hrc⟩, ⟨rfl, rfl, rfl, trivial⟩, hI⟩
  refine Wq (V6 rfl (Ti rfl (V6 rfl (V7 7 rfl (V5 (.int .i64 _) rfl (hI.c0 rfl) (V7 6 rfl (V5 (.int .i64 _) rfl (hI.c0 rfl) ?_)))))))
  refine Wv rfl (by exact rLeqF rfl rfl rfl (by omega)) ?_
  refine Vk rfl (V8 rfl (Wn (Wc false rfl (Wr (V6 rfl (V6 rfl (V4 rfl (V4 rfl (V4 rfl (Ve rfl (V8 rfl (Wn ?_))))))))))))
  exact ⟨false, by simp; exact ⟨by exact c1, hnl, fun hh => hrc hh.2, fun hh => hu hh.1⟩, ⟨rfl, rfl, rfl, trivial⟩, hI⟩
 clear hI
 rintro ρ w ⟨bb, hbb, hH, hI⟩
 obtain ⟨σ, rfl⟩ := hH.open
 cases bb with
 | true =>
  refine Wc true rfl (Wq (T6 rfl yy45 rfl (Vp rfl (Wn ?_))))
  exact WR (r1_ 4 rfl (OpPost.bad (fun hh => hbb.1 rfl hh.2.2.1) hI.pu))
 | false =>
 have hord : ordOk ⟨o0, o1, o2, o3, o4, o5, o6, o7⟩ ah := by
  rcases Classical.em (ordOk ⟨o0, o1, o2, o3, o4, o5, o6, o7⟩ ah) with h1 | h1
  ·exact h1
  have := hbb.2 h1; cases this
 refine Wc false rfl (Wk ?_)
 refine Wx (fun ρ w => (∀ k, k < ah.length → ¬ twiceAt ⟨o0, o1, o2, o3, o4, o5, o6, o7⟩ (oAt ah k).call ∧ ¬ twiceAt ⟨o0, o1, o2, o3, o4, o5, o6, o7⟩ (oAt ah k).ret) ∧ Has ρ [(1, .slice A ah.length c), (2, .pointer (some ⟨b2, 0, none⟩))] ∧ Inv NF w0 w [B b2 120 #[.int .i64 o0, .int .i64 o1, .int .i64 o2, .int .i64 o3, .int .i64 o4, .int .i64 o5, .int .i64 o6, .int .i64 o7]]) ?_ ?_
 ·refine Wq (Vi rfl (Vs rfl yy62 rfl (V0 rfl (Wn (Wb ?_)))))
  refine Wl (fun mu ρ w => ∃ k : Nat, mu = ah.length - k ∧ k ≤ ah.length ∧ (∀ j, j < k → ¬ twiceAt ⟨o0, o1, o2, o3, o4, o5, o6, o7⟩ (oAt ah j).call ∧ ¬ twiceAt ⟨o0, o1, o2, o3, o4, o5, o6, o7⟩ (oAt ah j).ret) ∧ Has ρ [(77, .int .i64 (k : Int)), (76, .int .i64 (ah.length : Int)), (75, .slice A ah.length c), (1, .slice A ah.length c), (2, .pointer (some ⟨b2, 0, none⟩))] ∧ Inv NF w0 w [B b2 120 #[.int .i64 o0, .int .i64 o1, .int .i64 o2, .int .i64 o3, .int .i64 o4, .int .i64 o5, .int .i64 o6, .int .i64 o7]]) ah.length
   ⟨0, rfl, by omega, fun j hj => by omega, ⟨rfl, rfl, rfl, rfl, rfl, trivial⟩, hI⟩ ?_
  clear hI
  rintro mu ρ w ⟨k, rfl, hk, hall, hH, hI⟩
  obtain ⟨σ, rfl⟩ := hH.open
  by_cases hkl : k < ah.length
  rotate_left
  ·obtain rfl : k = ah.length := by omega
   refine Wq (Vr rfl (Wn (Ws (Wc false rfl ?_))))
   refine WE ?_
   exact ⟨hall, ⟨rfl, rfl, trivial⟩, hI⟩
  obtain ⟨ab, ao, rfl, hoc⟩ := h.at hkl
  generalize hpk : oAt ah k = pk at hoc
  obtain ⟨p0, p1, p2, p3, p4, p5, p6, p7⟩ := pk
  refine Wq (Vt rfl (Wn (Ws (Wc true rfl (Wk ?_)))))
  refine Wx (fun ρ w => (¬ twiceAt ⟨o0, o1, o2, o3, o4, o5, o6, o7⟩ p6 ∧ ¬ twiceAt ⟨o0, o1, o2, o3, o4, o5, o6, o7⟩ p7) ∧ Has ρ [(77, .int .i64 (k : Int)), (76, .int .i64 (ah.length : Int)), (75, .slice (some ⟨ab, ao, none⟩) ah.length c), (1, .slice (some ⟨ab, ao, none⟩) ah.length c), (2, .pointer (some ⟨b2, 0, none⟩))] ∧ Inv NF w0 w [B b2 120 #[.int .i64 o0, .int .i64 o1, .int .i64 o2, .int .i64 o3, .int .i64 o4, .int .i64 o5, .int .i64 o6, .int .i64 o7]]) ?_ ?_
  rotate_left
  ·clear hI
   rintro ρ w ⟨hno, hH, hI⟩
   obtain ⟨σ, rfl⟩ := hH.open
   refine Wr (Vv rfl (V0 rfl (Wn ?_)))
   refine ⟨ah.length - (k + 1), by omega, k + 1, rfl, by omega, fun j hj => ?_, ⟨rfl, rfl, rfl, rfl, rfl, trivial⟩, hI⟩
   rcases Nat.lt_or_ge j k with h1 | h1
   ·exact hall j h1
   obtain rfl : j = k := by omega
   rw [hpk]; exact hno
  refine Wb (Wq (Tt 8 rfl yy62 rfl (Uo 8 rfl (by rfl) (fun k u hk => hI.oldp (hoc k u hk)) (T1 (.agg zI8) (zI8) hI rfl ?_))))
  rintro b7 w - - hI
  refine T7 8 (#[_, _, _, _, _, _, _, _]) (.agg _) hI rfl ?_
  intro w hI
  refine Wn ?_
  simp only [opV] at hI
  refine Wq (V7 6 rfl (V5 (.int .i64 _) rfl (hI.c0 rfl) (V7 7 rfl (V5 (.int .i64 _) rfl (hI.c0 rfl) (T3 [(0, .int .i64 _), (1, .int .i64 _)] [_, _] [.int .i64 0, .int .i64 0] [0, 1] hI rfl yy26 (fun _ => by kernel_rfl) ?_)))))
  rintro b85 w - - hI
  refine Vs rfl yy26 rfl (V0 rfl (Wn (Wb ?_)))
  refine Wl (fun mu ρ w => ∃ m : Nat, mu = 2 - m ∧ m ≤ 2 ∧ (0 < m → ¬ twiceAt ⟨o0, o1, o2, o3, o4, o5, o6, o7⟩ p6) ∧ (1 < m → ¬ twiceAt ⟨o0, o1, o2, o3, o4, o5, o6, o7⟩ p7) ∧ Has ρ [(87, .int .i64 (m : Int)), (86, .int .i64 2), (85, .slice (some ⟨b85, 0, none⟩) 2 2), (77, .int .i64 (k : Int)), (76, .int .i64 (ah.length : Int)), (75, .slice (some ⟨ab, ao, none⟩) ah.length c), (1, .slice (some ⟨ab, ao, none⟩) ah.length c), (2, .pointer (some ⟨b2, 0, none⟩))] ∧ Inv NF w0 w [B b85 3 #[.int .i64 p6, .int .i64 p7], B b2 120 #[.int .i64 o0, .int .i64 o1, .int .i64 o2, .int .i64 o3, .int .i64 o4, .int .i64 o5, .int .i64 o6, .int .i64 o7]]) 2
   ⟨0, rfl, by omega, fun h => by omega, fun h => by omega, ⟨rfl, rfl, rfl, rfl, rfl, rfl, rfl, rfl, trivial⟩, hI.d1⟩ ?_
  clear hI
  rintro mu ρ w ⟨m, rfl, hm, hm0, hm1, hH, hI⟩
  obtain ⟨σ, rfl⟩ := hH.open
  by_cases hm2 : m < 2
  rotate_left
  ·obtain rfl : m = 2 := by omega
   refine Wq (Vr rfl (Wn (Ws (Wc false rfl ?_))))
   refine WE ?_
   exact ⟨⟨hm0 (by omega), hm1 (by omega)⟩, ⟨rfl, rfl, rfl, rfl, rfl, trivial⟩, hI.d0⟩
  obtain ⟨z, hz, hzt⟩ : ∃ z : Int, (#[.int .i64 p6, .int .i64 p7] : Array Value)[m]? = some (.int .i64 z) ∧ (z = p6 ∧ m = 0 ∨ z = p7 ∧ m = 1) := by
   match m, hm2 with
   | 0, _ => exact ⟨p6, rfl, .inl ⟨rfl, rfl⟩⟩
   | 1, _ => exact ⟨p7, rfl, .inr ⟨rfl, rfl⟩⟩
  refine Wq (Vt rfl (Wn (Ws (Wc true rfl (Wk (Ws (Wb (Wq (Tp rfl yy26 rfl (V5 (.int .i64 _) rfl (hI.c0 hz) (Vc rfl ?_)))))))))))
  refine Wn ?_
  have hbadz : twiceAt ⟨o0, o1, o2, o3, o4, o5, o6, o7⟩ z → ¬ OkOp ⟨o0, o1, o2, o3, o4, o5, o6, o7⟩ ah := fun ht hh => by
   have := hh.2.2.2.1 k hkl
   rw [hpk] at this
   rcases hzt with ⟨rfl, _⟩ | ⟨rfl, _⟩
   ·exact this.1 ht
   exact this.2 ht
  have hgo : ¬ twiceAt ⟨o0, o1, o2, o3, o4, o5, o6, o7⟩ z → (0 < m + 1 → ¬ twiceAt ⟨o0, o1, o2, o3, o4, o5, o6, o7⟩ p6) ∧ (1 < m + 1 → ¬ twiceAt ⟨o0, o1, o2, o3, o4, o5, o6, o7⟩ p7) := fun hnt => by
   rcases hzt with ⟨rfl, rfl⟩ | ⟨rfl, rfl⟩
   ·exact ⟨fun _ => hnt, fun h => by omega⟩
   exact ⟨fun _ => hm0 (by omega), fun _ => hnt⟩
  by_cases z1 : z = -1
  ·have hnt : ¬ twiceAt ⟨o0, o1, o2, o3, o4, o5, o6, o7⟩ z := fun ht => ht.1 z1
   refine Wq (V0 rfl (U2 rfl (V6 rfl (V4 rfl (V4 rfl (V4 rfl (V4 rfl (V4 rfl (V4 rfl (V4 rfl (V4 rfl (V4 rfl ?_))))))))))))
   refine V4 rfl (Ve rfl (Wn (Wc false rfl (Wk (Wr (Vv rfl (V0 rfl (Wn ?_))))))))
   exact ⟨2 - (m + 1), by omega, m + 1, rfl, by omega, (hgo hnt).1, (hgo hnt).2, ⟨rfl, rfl, rfl, rfl, rfl, rfl, rfl, rfl, trivial⟩, hI⟩
  by_cases z2 : z = o6
  ·refine Wq (V0 rfl (U1 rfl (V6 rfl (V0 rfl (V7 6 rfl (V5 (.int .i64 _) rfl (hI.c1 rfl) (T5 rfl (V6 rfl (V4 rfl (V4 rfl (V4 rfl (V4 rfl ?_))))))))))))
   refine Vk rfl (Vk rfl (Wn (Wc true rfl (Wq (T6 rfl yy45 rfl (Vp rfl (Wn ?_)))))))
   exact WR (r1_ 4 rfl (OpPost.bad (hbadz ⟨z1, .inl z2⟩) hI.pu))
  by_cases z3 : z = o7
  ·refine Wq (V0 rfl (U1 rfl (V6 rfl (V0 rfl (V7 6 rfl (V5 (.int .i64 _) rfl (hI.c1 rfl) (Vw rfl (V6 rfl (V0 rfl (V7 7 rfl (V5 (.int .i64 _) rfl (hI.c1 rfl) (T5 rfl ?_))))))))))))
   refine Ve rfl (Vk rfl (Wn (Wc true rfl (Wq (T6 rfl yy45 rfl (Vp rfl (Wn ?_)))))))
   exact WR (r1_ 4 rfl (OpPost.bad (hbadz ⟨z1, .inr z3⟩) hI.pu))
  have hnt : ¬ twiceAt ⟨o0, o1, o2, o3, o4, o5, o6, o7⟩ z := fun ht => by rcases ht.2 with h1 | h1; exact z2 h1; exact z3 h1
  refine Wq (V0 rfl (U1 rfl (V6 rfl (V0 rfl (V7 6 rfl (V5 (.int .i64 _) rfl (hI.c1 rfl) (Vw rfl (V6 rfl (V0 rfl (V7 7 rfl (V5 (.int .i64 _) rfl (hI.c1 rfl) (Vw rfl ?_))))))))))))
  refine Ve rfl (Vk rfl (Wn (Wc false rfl (Wk (Wr (Vv rfl (V0 rfl (Wn ?_))))))))
  exact ⟨2 - (m + 1), by omega, m + 1, rfl, by omega, (hgo hnt).1, (hgo hnt).2, ⟨rfl, rfl, rfl, rfl, rfl, rfl, rfl, rfl, trivial⟩, hI⟩
 clear hI
 rintro ρ w ⟨hall1, hH, hI⟩
 obtain ⟨σ, rfl⟩ := hH.open
 refine Ws (Wq (Vi rfl (Vs rfl yy62 rfl (V0 rfl (Wn (Wb ?_))))))
 refine Wl (fun mu ρ w => ∃ k : Nat, mu = ah.length - k ∧ k ≤ ah.length ∧ (∀ j, j < k → (oAt ah j).proc = o0 → befB (oAt ah j) ⟨o0, o1, o2, o3, o4, o5, o6, o7⟩ = true) ∧ Has ρ [(110, .int .i64 (k : Int)), (109, .int .i64 (ah.length : Int)), (108, .slice A ah.length c), (2, .pointer (some ⟨b2, 0, none⟩))] ∧ Inv NF w0 w [B b2 120 #[.int .i64 o0, .int .i64 o1, .int .i64 o2, .int .i64 o3, .int .i64 o4, .int .i64 o5, .int .i64 o6, .int .i64 o7]]) ah.length
  ⟨0, rfl, by omega, fun j hj => by omega, ⟨rfl, rfl, rfl, rfl, trivial⟩, hI⟩ ?_
 clear hI
 rintro mu ρ w ⟨k, rfl, hk, hall, hH, hI⟩
 obtain ⟨σ, rfl⟩ := hH.open
 by_cases hkl : k < ah.length
 rotate_left
 ·obtain rfl : k = ah.length := by omega
  refine Wq (Vr rfl (Wn (Ws (Wc false rfl ?_))))
  refine WE ?_
  refine Wq (Vj rfl (Wn ?_))
  exact WR (r1_ 4 rfl ⟨hI.pu, .inl ⟨⟨ht, hkd, hord, hall1, hall⟩, rfl⟩⟩)
 obtain ⟨ab, ao, rfl, hoc⟩ := h.at hkl
 generalize hpk : oAt ah k = pk at hoc
 obtain ⟨p0, p1, p2, p3, p4, p5, p6, p7⟩ := pk
 refine Wq (Vt rfl (Wn (Ws (Wc true rfl (Wk (Ws (Wb (Wq (Tt 8 rfl yy62 rfl (Uo 8 rfl (by rfl) (fun k u hk => hI.oldp (hoc k u hk)) (T1 (.agg zI8) (zI8) hI rfl ?_)))))))))))
 rintro b11 w - - hI
 refine T7 8 (#[_, _, _, _, _, _, _, _]) (.agg _) hI rfl ?_
 intro w hI
 refine Wn ?_
 simp only [opV] at hI
 have hnext : (p0 = o0 → befB ⟨p0, p1, p2, p3, p4, p5, p6, p7⟩ ⟨o0, o1, o2, o3, o4, o5, o6, o7⟩ = true) → ∀ j, j < k + 1 → (oAt ah j).proc = o0 → befB (oAt ah j) ⟨o0, o1, o2, o3, o4, o5, o6, o7⟩ = true := fun hb j hj => by
  rcases Nat.lt_or_ge j k with h1 | h1
  ·exact hall j h1
  obtain rfl : j = k := by omega
  rw [hpk]; exact hb
 by_cases hpp : p0 = o0
 ·cases hbf : befB ⟨p0, p1, p2, p3, p4, p5, p6, p7⟩ ⟨o0, o1, o2, o3, o4, o5, o6, o7⟩ with
  | true =>
   refine Wq (V7 0 rfl (V5 (.int .i64 _) rfl (hI.c0 rfl) (V7 0 rfl (V5 (.int .i64 _) rfl (hI.c1 rfl) (T5 rfl (V6 rfl (Tu 8 rfl hI.g0 (Tu 8 rfl hI.g1 (Va [.agg _, .agg _] rfl func48 rfl ?_)))))))))
   refine (before_one p0 p1 p2 p3 p4 p5 p6 p7 o0 o1 o2 o3 o4 o5 o6 o7 _).mono ?_
   rw [hbf]
   rintro e w1 ⟨rfl, hp⟩
   refine rV ?_
   have hI := hI.pure hp
   refine T9 rfl (Vk rfl (Wn (Wc false rfl (Wk ?_))))
   have hI := hI.d0
   refine Wr (Vv rfl (V0 rfl (Wn ?_)))
   exact ⟨ah.length - (k + 1), by omega, k + 1, rfl, by omega, hnext (fun _ => hbf), ⟨rfl, rfl, rfl, rfl, trivial⟩, hI⟩
  | false =>
   refine Wq (V7 0 rfl (V5 (.int .i64 _) rfl (hI.c0 rfl) (V7 0 rfl (V5 (.int .i64 _) rfl (hI.c1 rfl) (T5 rfl (V6 rfl (Tu 8 rfl hI.g0 (Tu 8 rfl hI.g1 (Va [.agg _, .agg _] rfl func48 rfl ?_)))))))))
   refine (before_one p0 p1 p2 p3 p4 p5 p6 p7 o0 o1 o2 o3 o4 o5 o6 o7 _).mono ?_
   rw [hbf]
   rintro e w1 ⟨rfl, hp⟩
   refine rV ?_
   have hI := hI.pure hp
   refine Ti rfl (Vk rfl (Wn (Wc true rfl (Wq (T6 rfl yy45 rfl (Vp rfl (Wn ?_)))))))
   exact WR (r1_ 4 rfl (OpPost.bad (fun hh => by have := hh.2.2.2.2 k hkl (by rw [hpk]; exact hpp); rw [hpk, hbf] at this; cases this) hI.pu))
 refine Wq (V7 0 rfl (V5 (.int .i64 _) rfl (hI.c0 rfl) (V7 0 rfl (V5 (.int .i64 _) rfl (hI.c1 rfl) (Vw rfl (V6 rfl (V4 rfl (V4 rfl (V4 rfl (V4 rfl (Ve rfl (Wn ?_))))))))))))
 refine Wc false rfl (Wk ?_)
 have hI := hI.d0
 refine Wr (Vv rfl (V0 rfl (Wn ?_)))
 exact ⟨ah.length - (k + 1), by omega, k + 1, rfl, by omega, hnext (fun e => absurd e hpp), ⟨rfl, rfl, rfl, rfl, trivial⟩, hI⟩
theorem OpsR.take {w : World} {D : Nat → Prop} {A : Option Addr} {n c : Nat} {l : List Op8} (h : OpsR w D (.slice A n c) l) (k : Nat) (hk : k ≤ l.length) : OpsR w D (.slice A k c) (l.take k) := by
 obtain ⟨hn, hc1, hc2⟩ := h.len
 have hlk : (l.take k).length = k := by simp; omega
 unfold OpsR
 rw [hlk]
 refine ⟨A, c, rfl, by omega, hc2, ?_, fun h0 => ?_⟩
 ·have : ∀ l : List Op8, (l.flatMap opV).length = l.length * 8 := by
   intro l
   induction l with
   | nil => rfl
   | cons s l ih => rw [List.flatMap_cons, List.length_append, ih]; simp [opV]; omega
  rw [this, hlk]
 obtain ⟨A1, c1, hv, _, _, _, hcell⟩ := h
 injection hv with e1 e2 e3
 subst e1 e3
 obtain ⟨b, o, hbo, hD, hcl⟩ := hcell (by omega)
 refine ⟨b, o, hbo, hD, fun j u hj => hcl j u ?_⟩
 have e : l.flatMap opV = (l.take k).flatMap opV ++ (l.drop k).flatMap opV := by rw [← List.flatMap_append, List.take_append_drop]
 rw [e, List.getElem?_append_left (List.getElem?_eq_some_iff.1 hj).1]
 exact hj
def OkOps (l : List Op8) : Prop := l.length ≤ 40 ∧ ∀ k, k < l.length → OkOp (oAt l k) (l.take k)
def OpsPost8 (l : List Op8) (w0 : World) (en : Ending) (w' : World) : Prop := Pure w0 w' ∧ ((OkOps l ∧ en = .returned .nilIface) ∨ (¬ OkOps l ∧ ∃ x, IsErr8 x ∧ en = .returned x))
def OpsPost (l : List Op8) (w0 : World) (en : Ending) (w' : World) : Prop := Pure w0 w' ∧ ((OkOps l ∧ en = .returned .nilIface) ∨ (¬ OkOps l ∧ ∃ x, IsErr x ∧ en = .returned x))
theorem checkOps8_any (A : Option Addr) (n c : Nat) (l : List Op8) (D : Nat → Prop) (w0 : World) (h : OpsR w0 D (.slice A n c) l) : Cq 129 #[.slice A n c] w0 (OpsPost8 l w0) := by
 obtain ⟨hn, hc1, hc2⟩ := h.len
 subst hn
 have hI := Inv.start (fun _ => False) w0
 refine Vn func129 rfl ?_
 refine Wq (Vj rfl (Wn ?_))
 by_cases h40 : l.length ≤ 40
 rotate_left
 ·refine Ws (Wq (Vi rfl (Vs rfl yy62 rfl (Tq rfl (Wn (Wc true rfl (Wq (T6 rfl yy45 rfl (Vp rfl (Wn ?_))))))))))
  exact WR (r1_ 2 rfl ⟨hI.pu, .inr ⟨fun hh => h40 hh.1, _, ⟨_, rfl, by decide⟩, rfl⟩⟩)
 refine Ws (Wq (Vi rfl (Vs rfl yy62 rfl (Tc rfl (Wn (Wc false rfl (Wk (Ws (Wq (Vi rfl (Vs rfl yy62 rfl ?_)))))))))))
 refine V0 rfl (Wn (Wb ?_))
 refine Wl (fun mu ρ w => ∃ k : Nat, mu = l.length - k ∧ k ≤ l.length ∧ (∀ j, j < k → OkOp (oAt l j) (l.take j)) ∧ Has ρ [(12, .int .i64 (k : Int)), (11, .int .i64 (l.length : Int)), (10, .slice A l.length c), (0, .slice A l.length c)] ∧ Inv NF w0 w []) l.length
  ⟨0, rfl, by omega, fun j hj => by omega, ⟨rfl, rfl, rfl, rfl, trivial⟩, hI⟩ ?_
 clear hI
 rintro mu ρ w ⟨k, rfl, hk, hall, hH, hI⟩
 obtain ⟨σ, rfl⟩ := hH.open
 by_cases hkl : k < l.length
 rotate_left
 ·obtain rfl : k = l.length := by omega
  refine Wq (Vr rfl (Wn (Ws (Wc false rfl ?_))))
  refine WE ?_
  refine Wq (Vj rfl (Wn ?_))
  exact WR (r1_ 2 rfl ⟨hI.pu, .inl ⟨⟨h40, hall⟩, rfl⟩⟩)
 obtain ⟨ab, ao, rfl, hoc⟩ := h.at hkl
 have htk := h.take k hk
 generalize hpk : oAt l k = pk at hoc
 obtain ⟨p0, p1, p2, p3, p4, p5, p6, p7⟩ := pk
 refine Wq (Vt rfl (Wn (Ws (Wc true rfl (Wk (Ws (Wb (Wq (V0 rfl (Tt 8 rfl yy62 rfl (Uo 8 rfl (by rfl) (fun k u hk => hI.oldp (hoc k u hk)) ?_)))))))))))
 refine T1 (.agg zI8) (zI8) hI rfl ?_
 rintro b4 w - - hI
 refine Vc rfl (T7 8 (#[_, _, _, _, _, _, _, _]) (.agg _) hI rfl ?_)
 intro w hI
 refine Wn ?_
 simp only [opV] at hI
 by_cases hop : OkOp ⟨p0, p1, p2, p3, p4, p5, p6, p7⟩ (l.take k)
 ·refine Ws (Wd (by kernel_rfl) ?_)
  refine Wi (T := []) hI.drew ?_
  intro Sx hY hZ
  have hI := hI.drew
  refine Ut 0 8 rfl (fun W hW => (hY W hW).g0) (Ta 1 rfl (Vx 2 rfl ?_))
  refine Wt 3 rfl (fun W hW => have hI := hY W hW; (rSliceTo (sz := 8) (i := k) rfl yy62 (by kernel_rfl) rfl rfl (by omega))) ?_
  refine Vu 4 rfl ?_
  refine Va [.agg _, .slice _ _ _] rfl func170 rfl ?_
  refine (checkOp_one p0 p1 p2 p3 p4 p5 p6 p7 _ k c (l.take k) D _ (htk.pure hI.pu) (by omega)).mono ?_
  rintro e w1 ⟨hp, ⟨_, rfl⟩ | ⟨hbad, _⟩⟩
  rotate_left
  ·exact absurd hop hbad
  refine rV ?_
  have hI := hI.pure hp
  refine Wn ⟨hZ _ hI, ?_⟩
  refine Wt 5 rfl (fun W hW => have hI := hY W hW; (by exact rAsgnN rfl rfl)) ?_
  refine We (by kernel_rfl) (Wq (T8 rfl (Te rfl yy34 rfl (Wn (Wc false rfl (Wk ?_))))))
  have hI := hI.d0
  refine Wr (Vv rfl (V0 rfl (Wn ?_)))
  refine ⟨l.length - (k + 1), by omega, k + 1, rfl, by omega, fun j hj => ?_, ⟨rfl, rfl, rfl, rfl, trivial⟩, hI⟩
  rcases Nat.lt_or_ge j k with h1 | h1
  ·exact hall j h1
  obtain rfl : j = k := by omega
  rw [hpk]; exact hop
 refine Ws (Wd (by kernel_rfl) ?_)
 refine Wi (T := []) hI.drew ?_
 intro Sx hY hZ
 have hI := hI.drew
 refine Ut 0 8 rfl (fun W hW => (hY W hW).g0) (Ta 1 rfl (Vx 2 rfl ?_))
 refine Wt 3 rfl (fun W hW => have hI := hY W hW; (rSliceTo (sz := 8) (i := k) rfl yy62 (by kernel_rfl) rfl rfl (by omega))) ?_
 refine Vu 4 rfl ?_
 refine Va [.agg _, .slice _ _ _] rfl func170 rfl ?_
 refine (checkOp_one p0 p1 p2 p3 p4 p5 p6 p7 _ k c (l.take k) D _ (htk.pure hI.pu) (by omega)).mono ?_
 rintro e w1 ⟨hp, ⟨hgood, _⟩ | ⟨_, x, ⟨u, rfl, hu8⟩, rfl⟩⟩
 ·exact absurd hgood hop
 refine rV ?_
 have hI := hI.pure hp
 refine Wn ⟨hZ _ hI, ?_⟩
 refine Wt 5 rfl (fun W hW => have hI := hY W hW; (by exact rAsgnE rfl rfl)) ?_
 refine We (by kernel_rfl) (Wq (Vy rfl (Tl rfl yy34 rfl (Wn (Wc true rfl (Wq (Vy rfl (Vp rfl (Wn ?_)))))))))
 exact WR (r1_ 2 rfl ⟨hI.pu, .inr ⟨fun hh => by have := hh.2 k hkl; rw [hpk] at this; exact hop this, _, ⟨_, rfl, hu8⟩, rfl⟩⟩)
theorem checkOps_any (A : Option Addr) (n c : Nat) (l : List Op8) (D : Nat → Prop) (w0 : World) (h : OpsR w0 D (.slice A n c) l) : Cq 129 #[.slice A n c] w0 (OpsPost l w0) :=
 (checkOps8_any A n c l D w0 h).mono fun e w' hh => ⟨hh.1, hh.2.imp id fun ⟨h1, x, h2, h3⟩ => ⟨h1, x, h2.any, h3⟩⟩
def OkLin (o : Int) (l : List Op8) (bud : Int) : Prop := 1 ≤ o ∧ o ≤ 6 ∧ 0 ≤ bud ∧ bud ≤ 1000000 ∧ OkOps l ∧ ∀ k, k < l.length → knowsF o (oAt l k).kind = true
def LinPost (o : Int) (l : List Op8) (bud : Int) (w0 : World) (en : Ending) (w' : World) : Prop := Pure w0 w' ∧ ((OkLin o l bud ∧ en = .returned .nilIface) ∨ (¬ OkLin o l bud ∧ ∃ x, IsErr x ∧ en = .returned x))
theorem LinPost.bad {o : Int} {l : List Op8} {bud : Int} {w0 w' : World} {z : Int} (h : ¬ OkLin o l bud) (hp : Pure w0 w') : LinPost o l bud w0 (.returned (.iface 45 (.int .i64 z))) w' := ⟨hp, .inr ⟨h, _, ⟨z, rfl⟩, rfl⟩⟩
theorem lcheck_any (o : Int) (A : Option Addr) (n c : Nat) (l : List Op8) (bud : Int) (D : Nat → Prop) (w0 : World) (h : OpsR w0 D (.slice A n c) l) (hk : KnOk w0) : Cq 91 #[.int .i64 o, .slice A n c, .int .i64 bud] w0 (LinPost o l bud w0) := by
 obtain ⟨hn, hc1, hc2⟩ := h.len
 subst hn
 have hI := Inv.start (fun _ => False) w0
 refine Vn func91 rfl ?_
 refine Wq (Vj rfl (Wn (Ws (Wb ?_))))
 by_cases g1 : o < 1
 ·refine Wq (V0 rfl (Vt rfl (V6 rfl (V4 rfl (V4 rfl (Vk rfl (V8 rfl (Wn (Wc true rfl (Wq (T6 rfl yy45 rfl ?_)))))))))))
  refine Vp rfl (Wn ?_)
  exact WR (r1_ 6 rfl (LinPost.bad (fun hh => by have := hh.1; omega) hI.pu))
 by_cases g2 : 6 < o
 ·refine Wq (V0 rfl (Vr rfl (V6 rfl (V0 rfl (Tq rfl (Ve rfl (V8 rfl (Wn (Wc true rfl (Wq (T6 rfl yy45 rfl ?_)))))))))))
  refine Vp rfl (Wn ?_)
  exact WR (r1_ 6 rfl (LinPost.bad (fun hh => by have := hh.2.1; omega) hI.pu))
 refine Wq (V0 rfl (Vr rfl (V6 rfl (V0 rfl (Tc rfl (Ve rfl (V8 rfl (Wn (Wc false rfl ?_)))))))))
 by_cases g3 : bud < 0
 ·refine Wq (V0 rfl (Vt rfl (V6 rfl (V4 rfl (V4 rfl (Vk rfl (V8 rfl (Wn (Wc true rfl (Wq (T6 rfl yy45 rfl ?_)))))))))))
  refine Vp rfl (Wn ?_)
  exact WR (r1_ 6 rfl (LinPost.bad (fun hh => by have := hh.2.2.1; omega) hI.pu))
 by_cases g4 : 1000000 < bud
 ·refine Wq (V0 rfl (Vr rfl (V6 rfl (V0 rfl (Tq rfl (Ve rfl (V8 rfl (Wn (Wc true rfl (Wq (T6 rfl yy45 rfl ?_)))))))))))
  refine Vp rfl (Wn ?_)
  exact WR (r1_ 6 rfl (LinPost.bad (fun hh => by have := hh.2.2.2.1; omega) hI.pu))
 refine Wq (V0 rfl (Vr rfl (V6 rfl (V0 rfl (Tc rfl (Ve rfl (V8 rfl (Wn (Wc false rfl (Wk ?_))))))))))
 by_cases hok : OkOps l
 rotate_left
 ·refine Ws (Wq (Vi rfl (Va [.slice _ _ _] rfl func129 rfl ?_)))
  refine (checkOps_any A _ c l D _ (h.pure hI.pu)).mono ?_
  rintro e w1 ⟨hp, ⟨hg, _⟩ | ⟨_, x, ⟨u, rfl⟩, rfl⟩⟩
  ·exact absurd hg hok
  refine rV ?_
  have hI := hI.pure hp
  refine Vp rfl (Wn (Wq (Vy rfl (Tl rfl yy34 rfl (Wn (Wc true rfl (Wq (Vy rfl (Vp rfl (Wn ?_))))))))))
  exact WR (r1_ 6 rfl (LinPost.bad (fun hh => hok hh.2.2.2.2.1) hI.pu))
 have hl40 := hok.1
 refine Ws (Wq (Vi rfl (Va [.slice _ _ _] rfl func129 rfl ?_)))
 refine (checkOps_any A _ c l D _ (h.pure hI.pu)).mono ?_
 rintro e w1 ⟨hp, ⟨_, rfl⟩ | ⟨hbad, _⟩⟩
 rotate_left
 ·exact absurd hok hbad
 refine rV ?_
 have hI := hI.pure hp
 refine Vj rfl (Wn (Wq (T8 rfl (Te rfl yy34 rfl (Wn (Wc false rfl (Wk (Ws (Wq (Vi rfl (Vs rfl yy62 rfl ?_)))))))))))
 refine V0 rfl (Wn (Wb ?_))
 refine Wl (fun mu ρ w => ∃ k : Nat, mu = l.length - k ∧ k ≤ l.length ∧ (∀ j, j < k → knowsF o (oAt l j).kind = true) ∧ Has ρ [(33, .int .i64 (k : Int)), (32, .int .i64 (l.length : Int)), (31, .slice A l.length c), (0, .int .i64 o)] ∧ Inv NF w0 w []) l.length
  ⟨0, rfl, by omega, fun j hj => by omega, ⟨rfl, rfl, rfl, rfl, trivial⟩, hI⟩ ?_
 clear hI
 rintro mu ρ w ⟨k, rfl, hkk, hall, hH, hI⟩
 obtain ⟨σ, rfl⟩ := hH.open
 by_cases hkl : k < l.length
 rotate_left
 ·obtain rfl : k = l.length := by omega
  refine Wq (Vr rfl (Wn (Ws (Wc false rfl ?_))))
  refine WE ?_
  refine Wq (Vj rfl (Wn ?_))
  exact WR (r1_ 6 rfl ⟨hI.pu, .inl ⟨⟨by omega, by omega, by omega, by omega, hok, hall⟩, rfl⟩⟩)
 obtain ⟨ab, ao, rfl, hoc⟩ := h.at hkl
 generalize hpk : oAt l k = pk at hoc
 obtain ⟨p0, p1, p2, p3, p4, p5, p6, p7⟩ := pk
 refine Wq (Vt rfl (Wn (Ws (Wc true rfl (Wk (Ws (Wb (Wq (Tt 8 rfl yy62 rfl (Uo 8 rfl (by rfl) (fun k u hk => hI.oldp (hoc k u hk)) (T1 (.agg zI8) (zI8) hI rfl ?_)))))))))))
 rintro b9 w - - hI
 refine T7 8 (#[_, _, _, _, _, _, _, _]) (.agg _) hI rfl ?_
 intro w hI
 refine Wn ?_
 simp only [opV] at hI
 cases hkn : knowsF o p2 with
 | true =>
  refine Wq (V0 rfl (V7 2 rfl (V5 (.int .i64 _) rfl (hI.c0 rfl) (Va [.int .i64 _, .int .i64 _] rfl func130 rfl ?_))))
  refine (knows_any o p2 _ (hk.pure hI.pu)).mono ?_
  rw [hkn]
  rintro e w1 ⟨rfl, hp⟩
  refine rV ?_
  have hI := hI.pure hp
  refine T9 rfl (Wn (Wc false rfl (Wk ?_)))
  have hI := hI.d0
  refine Wr (Vv rfl (V0 rfl (Wn ?_)))
  refine ⟨l.length - (k + 1), by omega, k + 1, rfl, by omega, fun j hj => ?_, ⟨rfl, rfl, rfl, rfl, trivial⟩, hI⟩
  rcases Nat.lt_or_ge j k with h1 | h1
  ·exact hall j h1
  obtain rfl : j = k := by omega
  rw [hpk]; exact hkn
 | false =>
  refine Wq (V0 rfl (V7 2 rfl (V5 (.int .i64 _) rfl (hI.c0 rfl) (Va [.int .i64 _, .int .i64 _] rfl func130 rfl ?_))))
  refine (knows_any o p2 _ (hk.pure hI.pu)).mono ?_
  rw [hkn]
  rintro e w1 ⟨rfl, hp⟩
  refine rV ?_
  have hI := hI.pure hp
  refine Ti rfl (Wn (Wc true rfl (Wq (T6 rfl yy45 rfl (Vp rfl (Wn ?_))))))
  exact WR (r1_ 6 rfl (LinPost.bad (fun hh => by have := hh.2.2.2.2.2 k hkl; rw [hpk] at this; rw [show knowsF o _ = false from hkn] at this; cases this) hI.pu))
def boolC (n : Nat) (f : Nat → Bool) : Array Value := ((List.range n).map fun i => Value.bool (f i)).toArray
theorem boolC_get {n : Nat} (f : Nat → Bool) {i : Nat} (hi : i < n) : (boolC n f)[i]? = some (.bool (f i)) := by simp [boolC, hi]
theorem boolC_set {n : Nat} (f : Nat → Bool) (u : Nat) (b : Bool) : (boolC n f).setIfInBounds u (.bool b) = boolC n (fun x => if x = u then b else f x) := by
 apply Array.ext'
 simp only [boolC, Array.toList_setIfInBounds]
 refine List.ext_getElem (by simp) (fun i h1 h2 => ?_)
 simp only [List.getElem_set, List.getElem_map, List.getElem_range]
 by_cases h : u = i
 ·subst h; simp
 rw [if_neg h, if_neg (Ne.symm h)]
theorem boolC_zero (n : Nat) : rep (.bool false) n = boolC n (fun _ => false) := by
 apply Array.ext'
 simp [rep, boolC, List.map_const']
theorem OkLin.key {o : Int} {l : List Op8} {bud : Int} (h : OkLin o l bud) : ∀ i, i < l.length → 0 ≤ (oAt l i).key ∧ (oAt l i).key < 8 := fun i hi => by
 have h1 := (h.2.2.2.2.1.2 i hi).1
 unfold toldB inB at h1
 simp at h1
 omega
def allB (l : List Op8) (dn : Nat → Bool) : Prop := ∀ i, i < l.length → 0 ≤ (oAt l i).ret → dn i = true
theorem sall_any (sb : Nat) (A : Option Addr) (c : Nat) (l : List Op8) (db : Nat) (dn : Nat → Bool) (D : Nat → Prop) (w0 : World) (h : OpsR w0 D (.slice A l.length c) l) (h1 : w0.cell? ⟨sb, 1, none⟩ = some (.slice A l.length c)) (h4 : w0.cell? ⟨sb, 4, none⟩ = some (.slice (some ⟨db, 0, none⟩) l.length l.length)) (hd : Blk w0 db 4 (boolC l.length dn)) (hl : l.length ≤ 1000) :
  Cq 132 #[.pointer (some ⟨sb, 0, none⟩)] w0 fun en w' => (∃ b : Bool, en = .returned (.bool b) ∧ (b = true ↔ allB l dn)) ∧ Pure w0 w' := by
 have hI := Inv.start (fun _ => False) w0
 refine Vn func132 rfl ?_
 refine Wq (V8 rfl (Wn (Ws (Wq (V9 rfl (Vb rfl (V7 1 rfl (V5 (.slice _ _ _) rfl (hI.oldp h1) (Vs rfl yy62 rfl (V0 rfl (Wn ?_)))))))))))
 refine Wb ?_
 refine Wl (fun mu ρ w => ∃ k : Nat, mu = l.length - k ∧ k ≤ l.length ∧ (∀ i, i < k → 0 ≤ (oAt l i).ret → dn i = true) ∧ Has ρ [(10, .int .i64 (k : Int)), (9, .int .i64 (l.length : Int)), (8, .slice A l.length c), (0, .pointer (some ⟨sb, 0, none⟩))] ∧ Inv NF w0 w []) l.length
  ⟨0, rfl, by omega, fun j hj => by omega, ⟨rfl, rfl, rfl, rfl, trivial⟩, hI⟩ ?_
 clear hI
 rintro mu ρ w ⟨k, rfl, hkk, hall, hH, hI⟩
 obtain ⟨σ, rfl⟩ := hH.open
 by_cases hkl : k < l.length
 rotate_left
 ·obtain rfl : k = l.length := by omega
  refine Wq (Vr rfl (Wn (Ws (Wc false rfl ?_))))
  refine WE ?_
  refine Wq (V8 rfl (Wn ?_))
  exact WR (r1_ 2 rfl ⟨⟨true, rfl, by simp; exact hall⟩, hI.pu⟩)
 obtain ⟨ab, ao, rfl, hoc⟩ := h.at hkl
 have hdg := (hd.cell k).trans (boolC_get (n := l.length) dn hkl)
 generalize hpk : oAt l k = pk at hoc
 obtain ⟨p0, p1, p2, p3, p4, p5, p6, p7⟩ := pk
 have hnext : (0 ≤ p7 → dn k = true) → ∀ i, i < k + 1 → 0 ≤ (oAt l i).ret → dn i = true := fun hb j hj => by
  rcases Nat.lt_or_ge j k with h1 | h1
  ·exact hall j h1
  obtain rfl : j = k := by omega
  rw [hpk]; exact hb
 refine Wq (Vt rfl (Wn (Ws (Wc true rfl (Wk (Ws (Wb (Wq (V0 rfl (Tt 8 rfl yy62 rfl (Uo 8 rfl (by rfl) (fun k u hk => hI.oldp (hoc k u hk)) ?_)))))))))))
 refine T1 (.agg zI8) (zI8) hI rfl ?_
 rintro b4 w - - hI
 refine Vc rfl (T7 8 (#[_, _, _, _, _, _, _, _]) (.agg _) hI rfl ?_)
 intro w hI
 refine Wn ?_
 simp only [opV] at hI
 by_cases hr0 : 0 ≤ p7
 ·cases hdn : dn k with
  | true =>
   rw [hdn] at hdg
   refine Wq (V7 7 rfl (V5 (.int .i64 _) rfl (hI.c0 rfl) (To rfl (V6 rfl (V9 rfl (Vb rfl (V7 4 rfl (V5 (.slice _ _ _) rfl (hI.oldp h4) (V0 rfl (Tp rfl yy113 rfl (V5 (.bool _) rfl (hI.oldp hdg) (T9 rfl ?_))))))))))))
   refine Vk rfl (Wn (Wc false rfl (Wk ?_)))
   have hI := hI.d0
   refine Wr (Vv rfl (V0 rfl (Wn ?_)))
   exact ⟨l.length - (k + 1), by omega, k + 1, rfl, by omega, hnext (fun _ => hdn), ⟨rfl, rfl, rfl, rfl, trivial⟩, hI⟩
  | false =>
   rw [hdn] at hdg
   refine Wq (V7 7 rfl (V5 (.int .i64 _) rfl (hI.c0 rfl) (To rfl (V6 rfl (V9 rfl (Vb rfl (V7 4 rfl (V5 (.slice _ _ _) rfl (hI.oldp h4) (V0 rfl (Tp rfl yy113 rfl (V5 (.bool _) rfl (hI.oldp hdg) (Ti rfl ?_))))))))))))
   refine Vk rfl (Wn (Wc true rfl (Wq (V8 rfl (Wn ?_)))))
   exact WR (r1_ 2 rfl ⟨⟨false, rfl, by simp; exact fun hs => by have := hs k hkl (by rw [hpk]; exact hr0); rw [hdn] at this; cases this⟩, hI.pu⟩)
 refine Wq (V7 7 rfl (V5 (.int .i64 _) rfl (hI.c0 rfl) (U5 rfl (V6 rfl (V4 rfl (V4 rfl (V4 rfl (V4 rfl (V4 rfl (V4 rfl (V4 rfl (V4 rfl ?_))))))))))))
 refine Ve rfl (Wn (Wc false rfl (Wk ?_)))
 have hI := hI.d0
 refine Wr (Vv rfl (V0 rfl (Wn ?_)))
 exact ⟨l.length - (k + 1), by omega, k + 1, rfl, by omega, hnext (fun e => absurd e hr0), ⟨rfl, rfl, rfl, rfl, trivial⟩, hI⟩
structure AheadC (f : FuncId) (ab : Op8 → Op8 → Bool) : Prop where
 fn : ∃ fn : Func, prog.funcs[f]? = some fn ∧ (fn.name == "runtime.NumGoroutine") = false ∧ fn.body.isNone = false
 calls : ∀ p q W, Cq f #[.agg (opV p).toArray, .agg (opV q).toArray] W fun en w' => en = .returned (.bool (ab p q)) ∧ Pure W w'
def nextB (l : List Op8) (ab : Op8 → Op8 → Bool) (dn : Nat → Bool) (i : Nat) : Prop := dn i = false ∧ ∀ k, k < l.length → k ≠ i → dn k = false → ab (oAt l k) (oAt l i) = false
theorem snext_any (sb : Nat) (A : Option Addr) (c : Nat) (l : List Op8) (db f : Nat) (ab : Op8 → Op8 → Bool) (dn : Nat → Bool) (i : Nat) (D : Nat → Prop) (w0 : World) (h : OpsR w0 D (.slice A l.length c) l) (h1 : w0.cell? ⟨sb, 1, none⟩ = some (.slice A l.length c)) (h3 : w0.cell? ⟨sb, 3, none⟩ = some (.func (.func f) #[] #[])) (h4 : w0.cell? ⟨sb, 4, none⟩ = some (.slice (some ⟨db, 0, none⟩) l.length l.length)) (hd : Blk w0 db 4 (boolC l.length dn)) (hl : l.length ≤ 1000) (hi : i < l.length) (hf : AheadC f ab) :
  Cq 134 #[.pointer (some ⟨sb, 0, none⟩), .int .i64 (i : Int)] w0 fun en w' => (∃ b : Bool, en = .returned (.bool b) ∧ (b = true ↔ nextB l ab dn i)) ∧ Pure w0 w' := by
 obtain ⟨⟨fn, f1, f2, f3⟩, hcall⟩ := hf
 have hI := Inv.start (fun _ => False) w0
 have hdi := (hd.cell i).trans (boolC_get (n := l.length) dn hi)
 refine Vn func134 rfl ?_
 refine Wq (V8 rfl (Wn ?_))
 cases hdn0 : dn i with
 | true =>
  rw [hdn0] at hdi
  refine Ws (Wq (V9 rfl (Vb rfl (V7 4 rfl (V5 (.slice _ _ _) rfl (hI.oldp h4) (V0 rfl (Tp rfl yy113 rfl (V5 (.bool _) rfl (hI.oldp hdi) (Wn (Wc true rfl (Ws (Wr ?_))))))))))))
  refine V8 rfl (Wn ?_)
  exact WR (r1_ 4 rfl ⟨⟨false, rfl, by simp; exact fun hs => by have := hs.1; rw [hdn0] at this; cases this⟩, hI.pu⟩)
 | false =>
 rw [hdn0] at hdi
 refine Ws (Wq (V9 rfl (Vb rfl (V7 4 rfl (V5 (.slice _ _ _) rfl (hI.oldp h4) (V0 rfl (Tp rfl yy113 rfl (V5 (.bool _) rfl (hI.oldp hdi) (Wn (Wc false rfl (Wk (Ws ?_))))))))))))
 refine Wq (V9 rfl (Vb rfl (V7 1 rfl (V5 (.slice _ _ _) rfl (hI.oldp h1) (Vs rfl yy62 rfl (V0 rfl (Wn (Wb ?_))))))))
 refine Wl (fun mu ρ w => ∃ k : Nat, mu = l.length - k ∧ k ≤ l.length ∧ (∀ j, j < k → j ≠ i → dn j = false → ab (oAt l j) (oAt l i) = false) ∧ Has ρ [(19, .int .i64 (k : Int)), (18, .int .i64 (l.length : Int)), (17, .slice A l.length c), (0, .pointer (some ⟨sb, 0, none⟩)), (1, .int .i64 (i : Int))] ∧ Inv NF w0 w []) l.length
  ⟨0, rfl, by omega, fun j hj => by omega, ⟨rfl, rfl, rfl, rfl, rfl, trivial⟩, hI⟩ ?_
 clear hI
 rintro mu ρ w ⟨k, rfl, hkk, hall, hH, hI⟩
 obtain ⟨σ, rfl⟩ := hH.open
 by_cases hkl : k < l.length
 rotate_left
 ·obtain rfl : k = l.length := by omega
  refine Wq (Vr rfl (Wn (Ws (Wc false rfl ?_))))
  refine WE ?_
  refine Wq (V8 rfl (Wn ?_))
  exact WR (r1_ 4 rfl ⟨⟨true, rfl, by simp; exact ⟨hdn0, hall⟩⟩, hI.pu⟩)
 obtain ⟨bA, oA, rfl, hoc⟩ := h.at hkl
 obtain ⟨bA', oA', hae, hoci⟩ := h.at hi
 injection hae with hae
 injection hae with e1 e2
 subst e1 e2
 have hdg := (hd.cell k).trans (boolC_get (n := l.length) dn hkl)
 have hnext : (k ≠ i → dn k = false → ab (oAt l k) (oAt l i) = false) → ∀ j, j < k + 1 → j ≠ i → dn j = false → ab (oAt l j) (oAt l i) = false := fun hb j hj => by
  rcases Nat.lt_or_ge j k with h1 | h1
  ·exact hall j h1
  obtain rfl : j = k := by omega
  exact hb
 refine Wq (Vt rfl (Wn (Ws (Wc true rfl (Wk (Ws (Wb (Wq (V0 rfl (Tt 8 rfl yy62 rfl (Uo 8 rfl (by rfl) (fun k u hk => hI.oldp (hoc k u hk)) ?_)))))))))))
 refine T1 (.agg zI8) (zI8) hI rfl ?_
 rintro b6 w - - hI
 refine Vc rfl (T7 8 (#[_, _, _, _, _, _, _, _]) (.agg _) hI rfl ?_)
 intro w hI
 refine Wn ?_
 by_cases hki : k = i
 ·refine Ws (Wd (by kernel_rfl) ?_)
  refine Wi (T := []) hI.drew ?_
  intro Sx hY hZ
  have hI := hI.drew
  refine Vx 0 rfl (Vx 1 rfl (Uf 2 rfl (Tg 3 rfl (Vq 4 rfl rfl (Vq 5 rfl rfl (Vq 6 rfl rfl (Vq 7 rfl rfl (Vq 8 rfl rfl (Vq 9 rfl rfl (Vq 10 rfl rfl (Vq 11 rfl rfl (Tw 12 rfl (Tg 13 rfl ?_)))))))))))))
  refine Vq 14 rfl rfl (Vq 15 rfl rfl (Vq 16 rfl rfl (Vq 17 rfl rfl (Vq 18 rfl rfl (Vq 19 rfl rfl (Vq 20 rfl rfl (Vq 21 rfl rfl (Vq 22 rfl rfl (Vq 23 rfl rfl (Vq 24 rfl rfl (Vq 25 rfl rfl (Vq 26 rfl rfl (Tw 27 rfl ?_)))))))))))))
  refine We (by kernel_rfl) (Wc false rfl (Wk ?_))
  have hI := hI.d0
  refine Wr (Vv rfl (V0 rfl (Wn ?_)))
  exact ⟨l.length - (k + 1), by omega, k + 1, rfl, by omega, hnext (fun e => absurd hki e), ⟨rfl, rfl, rfl, rfl, rfl, trivial⟩, hI⟩
 cases hdnk : dn k with
 | true =>
  rw [hdnk] at hdg
  refine Ws (Wd (by kernel_rfl) ?_)
  refine Wi (T := []) hI.drew ?_
  intro Sx hY hZ
  have hI := hI.drew
  refine Vx 0 rfl (Vx 1 rfl (Us 2 rfl (Tg 3 rfl (Vl 4 rfl (Vm 5 rfl (Vf 6 4 rfl (Vd 7 (.slice _ _ _) rfl (fun W hW => (hY W hW).oldp h4) (Vx 8 rfl (Uc 9 rfl yy113 rfl (Vd 10 (.bool _) rfl (fun W hW => (hY W hW).oldp hdg) ?_))))))))))
  refine Wt 11 rfl (fun W hW => have hI := hY W hW; (by exact rNotT rfl rfl)) ?_
  refine U4 12 rfl (Tg 13 rfl (Vq 14 rfl rfl (Vq 15 rfl rfl (Vq 16 rfl rfl (Vq 17 rfl rfl (Vq 18 rfl rfl (Vq 19 rfl rfl (Vq 20 rfl rfl (Vq 21 rfl rfl (Vq 22 rfl rfl (Vq 23 rfl rfl (Vq 24 rfl rfl (Vq 25 rfl rfl ?_)))))))))))))
  refine Vq 26 rfl rfl (Tw 27 rfl (We (by kernel_rfl) (Wc false rfl (Wk ?_))))
  have hI := hI.d0
  refine Wr (Vv rfl (V0 rfl (Wn ?_)))
  exact ⟨l.length - (k + 1), by omega, k + 1, rfl, by omega, hnext (fun _ e => by rw [hdnk] at e; cases e), ⟨rfl, rfl, rfl, rfl, rfl, trivial⟩, hI⟩
 | false =>
  rw [hdnk] at hdg
  cases hab : ab (oAt l k) (oAt l i) with
  | true =>
   refine Ws (Wd (by kernel_rfl) ?_)
   refine Wi (T := []) hI.drew ?_
   intro Sx hY hZ
   have hI := hI.drew
   refine Vx 0 rfl (Vx 1 rfl (Us 2 rfl (Tg 3 rfl (Vl 4 rfl (Vm 5 rfl (Vf 6 4 rfl (Vd 7 (.slice _ _ _) rfl (fun W hW => (hY W hW).oldp h4) (Vx 8 rfl (Uc 9 rfl yy113 rfl (Vd 10 (.bool _) rfl (fun W hW => (hY W hW).oldp hdg) ?_))))))))))
   refine Wt 11 rfl (fun W hW => have hI := hY W hW; (by exact rNotF rfl rfl)) ?_
   refine U4 12 rfl (Tg 13 rfl (Vl 14 rfl (Vm 15 rfl (Vf 16 3 rfl (Vd 17 (.func _ _ _) rfl (fun W hW => (hY W hW).oldp h3) (Ut 18 8 rfl (fun W hW => (hY W hW).g0) (Vl 19 rfl (Vm 20 rfl (Vf 21 1 rfl (Vd 22 (.slice _ _ _) rfl (fun W hW => (hY W hW).oldp h1) (Vx 23 rfl ?_)))))))))))
   refine Wt 24 rfl (fun W hW => have hI := hY W hW; (rIdx (sz := 8) rfl yy62 (by kernel_rfl) rfl rfl (by omega))) ?_
   refine Wt 25 rfl (fun W hW => have hI := hY W hW; (by exact rLdA (n := 8) rfl (by kernel_rfl) (by kernel_rfl) rfl (by rfl) (fun k u hk => hI.oldp (hoci k u hk)))) ?_
   refine Vu 26 rfl ?_
   refine WL_call rfl rfl rfl (rCallF (f := f) (first := []) (cap := []) (vs := [.agg _, .agg _]) rfl rfl f1 f2 f3 rfl) ?_
   refine (hcall (oAt l k) (oAt l i) _).mono ?_
   rw [hab]
   rintro e w1 ⟨rfl, hp⟩
   refine rV ?_
   have hI := hI.pure hp
   refine Wn ⟨hZ _ hI, ?_⟩
   refine U4 27 rfl (We (by kernel_rfl) (Wc true rfl (Wq (V8 rfl (Wn ?_)))))
   exact WR (r1_ 4 rfl ⟨⟨false, rfl, by simp; exact fun hs => by have := hs.2 k hkl hki hdnk; rw [hab] at this; cases this⟩, hI.pu⟩)
  | false =>
   refine Ws (Wd (by kernel_rfl) ?_)
   refine Wi (T := []) hI.drew ?_
   intro Sx hY hZ
   have hI := hI.drew
   refine Vx 0 rfl (Vx 1 rfl (Us 2 rfl (Tg 3 rfl (Vl 4 rfl (Vm 5 rfl (Vf 6 4 rfl (Vd 7 (.slice _ _ _) rfl (fun W hW => (hY W hW).oldp h4) (Vx 8 rfl (Uc 9 rfl yy113 rfl (Vd 10 (.bool _) rfl (fun W hW => (hY W hW).oldp hdg) ?_))))))))))
   refine Wt 11 rfl (fun W hW => have hI := hY W hW; (by exact rNotF rfl rfl)) ?_
   refine U4 12 rfl (Tg 13 rfl (Vl 14 rfl (Vm 15 rfl (Vf 16 3 rfl (Vd 17 (.func _ _ _) rfl (fun W hW => (hY W hW).oldp h3) (Ut 18 8 rfl (fun W hW => (hY W hW).g0) (Vl 19 rfl (Vm 20 rfl (Vf 21 1 rfl (Vd 22 (.slice _ _ _) rfl (fun W hW => (hY W hW).oldp h1) (Vx 23 rfl ?_)))))))))))
   refine Wt 24 rfl (fun W hW => have hI := hY W hW; (rIdx (sz := 8) rfl yy62 (by kernel_rfl) rfl rfl (by omega))) ?_
   refine Wt 25 rfl (fun W hW => have hI := hY W hW; (by exact rLdA (n := 8) rfl (by kernel_rfl) (by kernel_rfl) rfl (by rfl) (fun k u hk => hI.oldp (hoci k u hk)))) ?_
   refine Vu 26 rfl ?_
   refine WL_call rfl rfl rfl (rCallF (f := f) (first := []) (cap := []) (vs := [.agg _, .agg _]) rfl rfl f1 f2 f3 rfl) ?_
   refine (hcall (oAt l k) (oAt l i) _).mono ?_
   rw [hab]
   rintro e w1 ⟨rfl, hp⟩
   refine rV ?_
   have hI := hI.pure hp
   refine Wn ⟨hZ _ hI, ?_⟩
   refine U4 27 rfl (We (by kernel_rfl) (Wc false rfl (Wk ?_)))
   have hI := hI.d0
   refine Wr (Vv rfl (V0 rfl (Wn ?_)))
   exact ⟨l.length - (k + 1), by omega, k + 1, rfl, by omega, hnext (fun _ _ => hab), ⟨rfl, rfl, rfl, rfl, rfl, trivial⟩, hI⟩
end Go.Proofs.YtlkobbighkiojaaGreatDoor
