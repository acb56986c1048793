/- FarmBack. -/
import Derived.Test.YtlkobbighkiojaaGreatDoorPA
import Derived.Test.YtlkobbighkiojaaGreatDoorPStoI
import Derived.Test.YtlkobbighkiojaaGreatDoorPReg
import Derived.Lib.AtoiAll
import Derived.Lib.ItoaNum
import Derived.Test.YtlkobbighkiojaaGreatDoorProg
import Derived.Test.YtlkobbighkiojaaGreatDoorPSxI
import Derived.Test.YtlkobbighkiojaaGreatDoorPStoB
import Derived.Test.YtlkobbighkiojaaGreatDoorShelf
import Derived.Shelf.Lays
import Derived.Laws.IdiomStrings
import Derived.Laws.MakeOwn
set_option maxHeartbeats 8000000
set_option linter.unusedVariables false
set_option linter.unusedSimpArgs false
namespace Go.Proofs.YtlkobbighkiojaaGreatDoor
open Tryz
open Go.RowKit
section
variable {P : Program} {N : Nat} {ops : Array Oper} {Q : XPost} {rest : List Oper} {ρ : Env} {o : Oper} {w0 w w' : World} {S : Nat → Prop} {H : List Ent} {d g t tt : Nat} {cs : Array Value} {v : Value}
theorem made_flat (zs : List Value) (n : Nat) (h : 0 < zs.length) : madeCells zs.toArray (n * zs.length) = flatB n (fun _ => zs) := by
 apply Array.ext
 ·simp [madeCells, flatB_size (m := zs.length) (f := fun _ => zs) (fun _ => rfl)]
 intro j h1 h2
 have hj : j < n * zs.length := by simpa [madeCells] using h1
 have hm : j % zs.length < zs.length := Nat.mod_lt _ h
 have hd : j / zs.length < n := Nat.div_lt_of_lt_mul (by rw [Nat.mul_comm]; exact hj)
 have h3 := flatB_at (f := fun _ => zs) (m := zs.length) (n := n) (fun _ => rfl) hd hm
 rw [show j / zs.length * zs.length + j % zs.length = j by rw [Nat.mul_comm]; exact Nat.div_add_mod _ _, Array.getElem?_eq_getElem h2, List.getElem?_eq_getElem hm] at h3
 injection h3 with h3
 rw [h3]
 simp [madeCells, hm]
theorem WL_mkZ {x y : Operand} {e n m by_ : Nat} {z : Value} (zs : List Value) (hI : Inv S w0 w H) (hw : wantedR ops ρ o = true) (hd : o.dst = some d) (hN : Nat.blt d N = true) (ho : o.op = .makeSlice t x y) (hx : ev ρ x = .int .i64 (n : Int)) (hy : ev ρ y = .int .i64 (n : Int))
  (ht : P.underlying t = some (.slice e)) (hi : (P.info? e).map (fun i => (i.zero, i.size, i.bytes)) = some (some z, m, by_)) (hz : z.cells = zs.toArray) (hzl : zs.length = m) (hm : 0 < m) (hb : by_ * n ≤ 281474976710656) (h63 : n ≤ 9223372036854775807)
  (h : ∀ g w', Pure w w' → g = w.heap.size → Inv S w0 w' (B g e (flatB n fun _ => zs) :: H) → WL P N ops Q rest (upd ρ d (.slice (some ⟨g, 0, none⟩) n n)) w') : WL P N ops Q (o :: rest) ρ w := by
 cases hp : P.info? e with
 | none => simp [hp] at hi
 | some i =>
  simp only [hp, Option.map_some, Option.some.injEq, Prod.mk.injEq] at hi
  obtain ⟨h1, h2, h3⟩ := hi
  subst h2 h3
  have hb : (i.bytes : Int) * (n : Int) ≤ 281474976710656 := by
   have h : ((i.bytes * n : Nat) : Int) ≤ 281474976710656 := by omega
   rwa [Int.natCast_mul] at h
  have hr := run_make (P := P) w t e i z ht hp h1 .i64 .i64 n n (by omega) (by omega) hb (by omega)
  rw [hz, Int.toNat_natCast, ← hzl, made_flat zs n (by omega)] at hr
  exact WL_eff hw hd hN (by simp [execOp, ho, hx, hy, hr]) (h _ _ ((Pure.refl w).alloc _) rfl (hI.box e _))
end
def SetOk (n k a t : Int) : Prop := (1 ≤ n ∧ n ≤ 7) ∧ (1 ≤ k ∧ k ≤ 8) ∧ (1 ≤ a ∧ a ≤ n) ∧ (1 ≤ t ∧ t ≤ n)
instance (n k a t : Int) : Decidable (SetOk n k a t) := inferInstanceAs (Decidable (_ ∧ _))
theorem scheck_any (n k a t : Int) (b : Bool) (w0 : World) :
  Cq 30 #[.agg #[.int .i64 n, .int .i64 k, .int .i64 a, .int .i64 t, .bool b]] w0 fun en w' => ((SetOk n k a t ∧ en = .returned .nilIface) ∨ (¬ SetOk n k a t ∧ ∃ z, en = .returned (.iface 45 (.int .i64 z)))) ∧ Pure w0 w' := by
 have hI := Inv.start (fun _ => False) w0
 refine Vn func30 rfl ?_
 refine Wq (Tb (.agg _) (#[_, _, _, _, _]) hI rfl ?_)
 rintro b1 w - - hI
 refine Vj rfl (Wn (Ws (Wb ?_)))
 by_cases h1 : n < 1 ∨ 7 < n ∨ k < 1 ∨ 8 < k
 ·refine Wx (fun ρ w => ρ 3 = .bool true ∧ Pure w0 w) ?_ ?_
  ·by_cases q1 : n < 1
   ·refine Wr (V7 0 rfl (V5 (.int .i64 _) rfl (hI.c0 rfl) (Vt rfl (V6 rfl (V4 rfl (V4 rfl (V4 rfl (Vk rfl (V6 rfl (V4 rfl (V4 rfl (V4 rfl (Vk rfl ?_)))))))))))))
    refine V6 rfl (V4 rfl (V4 rfl (V4 rfl (Vk rfl (V8 rfl (Wn ?_))))))
    exact ⟨rfl, hI.pu⟩
   by_cases q2 : 7 < n
   ·refine Wr (V7 0 rfl (V5 (.int .i64 _) rfl (hI.c0 rfl) (Vr rfl (V6 rfl (V7 0 rfl (V5 (.int .i64 _) rfl (hI.c0 rfl) (Tq rfl (Ve rfl (V6 rfl (V4 rfl (V4 rfl (V4 rfl (Vk rfl ?_)))))))))))))
    refine V6 rfl (V4 rfl (V4 rfl (V4 rfl (Vk rfl (V8 rfl (Wn ?_))))))
    exact ⟨rfl, hI.pu⟩
   by_cases q3 : k < 1
   ·refine Wr (V7 0 rfl (V5 (.int .i64 _) rfl (hI.c0 rfl) (Vr rfl (V6 rfl (V7 0 rfl (V5 (.int .i64 _) rfl (hI.c0 rfl) (Tc rfl (Ve rfl (V6 rfl (V7 1 rfl (V5 (.int .i64 _) rfl (hI.c0 rfl) (Vt rfl (Ve rfl ?_)))))))))))))
    refine V6 rfl (V4 rfl (V4 rfl (V4 rfl (Vk rfl (V8 rfl (Wn ?_))))))
    exact ⟨rfl, hI.pu⟩
   have q4 : 8 < k := by omega
   refine Wr (V7 0 rfl (V5 (.int .i64 _) rfl (hI.c0 rfl) (Vr rfl (V6 rfl (V7 0 rfl (V5 (.int .i64 _) rfl (hI.c0 rfl) (Tc rfl (Ve rfl (V6 rfl (V7 1 rfl (V5 (.int .i64 _) rfl (hI.c0 rfl) (Vr rfl (Ve rfl ?_)))))))))))))
   refine V6 rfl (V7 1 rfl (V5 (.int .i64 _) rfl (hI.c0 rfl) (Tq rfl (Ve rfl (V8 rfl (Wn ?_))))))
   exact ⟨rfl, hI.pu⟩
  clear hI
  rintro ρ w ⟨h3, hp⟩
  refine Wc true h3 (Wq (T6 rfl yy45 rfl (Vp rfl (Wn ?_))))
  exact WR (r1_ 2 rfl ⟨.inr ⟨fun h => by unfold SetOk at h; omega, _, rfl⟩, hp⟩)
 refine Wq (V7 0 rfl (V5 (.int .i64 _) rfl (hI.c0 rfl) (Vr rfl (V6 rfl (V7 0 rfl (V5 (.int .i64 _) rfl (hI.c0 rfl) (Tc rfl (Ve rfl (V6 rfl (V7 1 rfl (V5 (.int .i64 _) rfl (hI.c0 rfl) (Vr rfl ?_))))))))))))
 refine Ve rfl (V6 rfl (V7 1 rfl (V5 (.int .i64 _) rfl (hI.c0 rfl) (Tc rfl (Ve rfl (V8 rfl (Wn (Wc false rfl ?_))))))))
 by_cases h2 : a < 1 ∨ n < a ∨ t < 1 ∨ n < t
 ·refine Wx (fun ρ w => ρ 23 = .bool true ∧ Pure w0 w) ?_ ?_
  ·by_cases q1 : a < 1
   ·refine Wr (V7 2 rfl (V5 (.int .i64 _) rfl (hI.c0 rfl) (Vt rfl (V6 rfl (V4 rfl (V4 rfl (V4 rfl (V4 rfl (V4 rfl (Vk rfl (V6 rfl (V4 rfl (V4 rfl ?_)))))))))))))
    refine V4 rfl (Vk rfl (V6 rfl (V4 rfl (V4 rfl (V4 rfl (V4 rfl (V4 rfl (Vk rfl (V8 rfl (Wn ?_))))))))))
    exact ⟨rfl, hI.pu⟩
   by_cases q2 : n < a
   ·refine Wr (V7 2 rfl (V5 (.int .i64 _) rfl (hI.c0 rfl) (Vr rfl (V6 rfl (V7 2 rfl (V5 (.int .i64 _) rfl (hI.c0 rfl) (V7 0 rfl (V5 (.int .i64 _) rfl (hI.c0 rfl) (Tq rfl (Ve rfl (V6 rfl (V4 rfl (V4 rfl ?_)))))))))))))
    refine V4 rfl (Vk rfl (V6 rfl (V4 rfl (V4 rfl (V4 rfl (V4 rfl (V4 rfl (Vk rfl (V8 rfl (Wn ?_))))))))))
    exact ⟨rfl, hI.pu⟩
   by_cases q3 : t < 1
   ·refine Wr (V7 2 rfl (V5 (.int .i64 _) rfl (hI.c0 rfl) (Vr rfl (V6 rfl (V7 2 rfl (V5 (.int .i64 _) rfl (hI.c0 rfl) (V7 0 rfl (V5 (.int .i64 _) rfl (hI.c0 rfl) (Tc rfl (Ve rfl (V6 rfl (V7 3 rfl (V5 (.int .i64 _) rfl (hI.c0 rfl) ?_)))))))))))))
    refine Vt rfl (Ve rfl (V6 rfl (V4 rfl (V4 rfl (V4 rfl (V4 rfl (V4 rfl (Vk rfl (V8 rfl (Wn ?_))))))))))
    exact ⟨rfl, hI.pu⟩
   have q4 : n < t := by omega
   refine Wr (V7 2 rfl (V5 (.int .i64 _) rfl (hI.c0 rfl) (Vr rfl (V6 rfl (V7 2 rfl (V5 (.int .i64 _) rfl (hI.c0 rfl) (V7 0 rfl (V5 (.int .i64 _) rfl (hI.c0 rfl) (Tc rfl (Ve rfl (V6 rfl (V7 3 rfl (V5 (.int .i64 _) rfl (hI.c0 rfl) ?_)))))))))))))
   refine Vr rfl (Ve rfl (V6 rfl (V7 3 rfl (V5 (.int .i64 _) rfl (hI.c0 rfl) (V7 0 rfl (V5 (.int .i64 _) rfl (hI.c0 rfl) (Tq rfl (Ve rfl (V8 rfl (Wn ?_))))))))))
   exact ⟨rfl, hI.pu⟩
  clear hI
  rintro ρ w ⟨h3, hp⟩
  refine Wc true h3 (Wq (T6 rfl yy45 rfl (Vp rfl (Wn ?_))))
  exact WR (r1_ 2 rfl ⟨.inr ⟨fun h => by unfold SetOk at h; omega, _, rfl⟩, hp⟩)
 refine Wq (V7 2 rfl (V5 (.int .i64 _) rfl (hI.c0 rfl) (Vr rfl (V6 rfl (V7 2 rfl (V5 (.int .i64 _) rfl (hI.c0 rfl) (V7 0 rfl (V5 (.int .i64 _) rfl (hI.c0 rfl) (Tc rfl (Ve rfl (V6 rfl (V7 3 rfl ?_))))))))))))
 refine V5 (.int .i64 _) rfl (hI.c0 rfl) (Vr rfl (Ve rfl (V6 rfl (V7 3 rfl (V5 (.int .i64 _) rfl (hI.c0 rfl) (V7 0 rfl (V5 (.int .i64 _) rfl (hI.c0 rfl) (Tc rfl (Ve rfl (V8 rfl (Wn (Wc false rfl (Wk ?_)))))))))))))
 refine Wq (Vj rfl (Wn ?_))
 exact WR (r1_ 2 rfl ⟨.inl ⟨by unfold SetOk; omega, rfl⟩, hI.pu⟩)
def x0C : SCl := ⟨false, false, ⟨0, 0, 0, 0, 0, 0, 0⟩, false, 0, [], ⟨0, 0, 0⟩⟩
def s0 (n k a t : Nat) (b : Bool) : StS := ⟨n, k, a, t, b, fun _ _ => ⟨0, -1, 0⟩, fun _ => x0C, [], [], []⟩
def zEnt : List Value := [.int .i64 0, .int .i64 0, .int .i64 0, .int .i64 0, .int .i64 0, .int .i64 0, .int .i64 0, .int .i64 0, .int .i64 0, .int .i64 0, .int .i64 0, .int .i64 0, .int .i64 0, .int .i64 0, .int .i64 0, .int .i64 0, .int .i64 0, .int .i64 0, .int .i64 0, .int .i64 0, .int .i64 0, .int .i64 0, .int .i64 0, .int .i64 0]
theorem Inv.manyE {S : Nat → Prop} {w0 w : World} {H : List Ent} (h : Inv S w0 w H) (n : Nat) {es : Nat → Ent} (he : ∀ i, es i = Ent.nil) : Inv S w0 w (Many n es :: H) :=
 h.fresh (Pure.refl _) (Many.ok (fun i _ => by rw [he]; exact Ent.nil_ok _) (fun i j _ _ _ k hk => by rw [he] at hk; exact hk.elim)) (fun k ⟨i, _, hk⟩ => by rw [he] at hk; exact hk.elim)
def ndTo (j key : Nat) (i : Nat) : List Value := if i < j * 8 + key then entL ⟨0, -1, 0⟩ else entL ⟨0, 0, 0⟩
theorem ndTo_set {n j key : Nat} (hj : j < n) (hk : key < 8) : splice (flatB (n * 8) (ndTo j key)) (0 + j * 24 + key * 3) (entL ⟨0, -1, 0⟩) = flatB (n * 8) (ndTo j (key + 1)) := by
 have h0 := nd_off j key 0
 rw [Nat.add_zero] at h0
 have hl : ∀ a b i, (ndTo a b i).length = 3 := fun a b i => by unfold ndTo; split <;> rfl
 rw [h0]
 refine flatB_splice (fun i => hl _ _ i) (fun i => hl _ _ i) (by omega) (by simp [entL]) (fun i hi => ?_) ?_
 ·unfold ndTo
  by_cases h1 : i < j * 8 + key
  ·rw [if_pos h1, if_pos (by omega)]
  rw [if_neg h1, if_neg (by omega)]
 unfold ndTo
 rw [if_pos (by omega), if_neg (by omega)]
 rfl
theorem ndTo_next {n j : Nat} : flatB (n * 8) (ndTo j 8) = flatB (n * 8) (ndTo (j + 1) 0) := flatB_congr fun i _ => by
 unfold ndTo
 rw [show j * 8 + 8 = (j + 1) * 8 + 0 by omega]
theorem nd_start (n : Nat) : flatB n (fun _ => zEnt) = flatB (n * 8) (ndTo 0 0) := by
 have h1 : flatB (n * 8) (ndTo 0 0) = flatB (n * 8) (fun _ => entL ⟨0, 0, 0⟩) := flatB_congr fun i _ => by unfold ndTo; rw [if_neg (by omega)]
 rw [h1]
 apply Array.ext_getElem?
 intro x
 by_cases hx : x < n * 24
 ·have a1 := flatB_at (f := fun _ => zEnt) (m := 24) (n := n) (fun _ => rfl) (i := x / 24) (j := x % 24) (by omega) (by omega)
  have a2 := flatB_at (f := fun _ => entL ⟨0, 0, 0⟩) (m := 3) (n := n * 8) (fun _ => rfl) (i := x / 3) (j := x % 3) (by omega) (by omega)
  rw [show x / 24 * 24 + x % 24 = x by omega] at a1
  rw [show x / 3 * 3 + x % 3 = x by omega] at a2
  rw [a1, a2]
  have e1 : ∀ (l : List Value) (i : Nat), (∀ v ∈ l, v = .int .i64 0) → i < l.length → l[i]? = some (.int .i64 0) := fun l i hl hi => by
   rw [List.getElem?_eq_getElem hi, hl _ (List.getElem_mem _)]
  rw [e1 zEnt _ (by simp [zEnt]) (by show x % 24 < 24; omega), e1 (entL ⟨0, 0, 0⟩) _ (by simp [entL]) (by show x % 3 < 3; omega)]
 rw [Array.getElem?_eq_none (by rw [flatB_size (m := 24) (fun _ => rfl)]; omega), Array.getElem?_eq_none (by rw [flatB_size (m := 3) (fun _ => rfl)]; omega)]
theorem nd_end {n k a t : Nat} {b : Bool} : flatB (n * 8) (ndTo n 0) = flatB (n * 8) (ndF (s0 n k a t b)) := flatB_congr fun i hi => by
 unfold ndTo
 rw [if_pos (by omega)]
 rfl
def zCl : List Value := clL x0C (.slice none 0 0)
def stZ (n k a t : Nat) (b : Bool) (nb cb : Nat) : Array Value := #[.int .i64 (n : Int), .int .i64 (k : Int), .int .i64 (a : Int), .int .i64 (t : Int), .bool b, .slice (some ⟨nb, 0, none⟩) n n, .slice (some ⟨cb, 0, none⟩) k k, .slice none 0 0, .slice none 0 0, .bool false, .slice none 0 0, .slice none 0 0]
def zL (sb nb cb : Nat) : StL := ⟨sb, nb, cb, fun _ => none, none, 0, none, 0, 0, false, [], fun _ => False, none, 0, none, 0⟩
theorem s0_parts {S : Nat → Prop} {w0 w : World} {n k a t sb nb cb : Nat} {b : Bool} (hI : Inv S w0 w [B sb 93 (stZ n k a t b nb cb), B nb 98 (flatB (n * 8) (ndTo n 0)), B cb 238 (flatB k fun _ => zCl)]) : Inv S w0 w (spt (zL sb nb cb) (s0 n k a t b)) := by
 rw [nd_end (n := n) (k := k) (a := a) (t := t) (b := b)] at hI
 have h1 := (hI.manyE k (es := cntE (zL sb nb cb) (s0 n k a t b)) (fun i => rfl)).back 3
 have h2 := (h1.fresh (Pure.refl _) (Row.nil _ 0 194 9) (fun k hk => by simp [Row] at hk)).back 4
 have h3 := (h2.fresh (Pure.refl _) (Row.nil _ 0 113 1) (fun k hk => by simp [Row] at hk)).back 5
 have h4 := (h3.fresh (Pure.refl _) (RowsE.ok (w := w) (vals := []) (D := fun _ => False) (fun _ h => h.elim) (fun v hv => by simp at hv)) (fun k hk => hk.elim)).back 6
 have h5 := (h4.fresh (Pure.refl _) (Row.nil _ 0 70 7) (fun k hk => by simp [Row] at hk)).back 7
 exact (h5.fresh (Pure.refl _) (Row.nil _ 0 95 2) (fun k hk => by simp [Row] at hk)).back 8
theorem new_any (n k a t : Nat) (b : Bool) (hs : SetOk n k a t) (w0 : World) :
  Cq 11 #[.agg #[.int .i64 (n : Int), .int .i64 (k : Int), .int .i64 (a : Int), .int .i64 (t : Int), .bool b]] w0 fun en w' => ∃ sb nb cb, en = .returned (.tuple #[.pointer (some ⟨sb, 0, none⟩), .nilIface]) ∧ Inv NF w0 w' (spt (zL sb nb cb) (s0 n k a t b)) := by
 have hI := Inv.start (fun _ => False) w0
 have hs' := hs
 unfold SetOk at hs'
 refine Vn func11 rfl ?_
 refine Wq (Tb (.agg _) (#[_, _, _, _, _]) hI rfl ?_)
 rintro b1 w - - hI
 refine Tm rfl (Vj rfl (Wn (Ws (Wq (Tu 5 rfl hI.g0 (Va [.agg _] rfl func30 rfl ?_))))))
 refine (scheck_any n k a t b _).mono ?_
 rintro e w1 ⟨⟨_, rfl⟩ | ⟨hb, _⟩, hp⟩
 rotate_left
 ·exact absurd hs hb
 refine rV ?_
 have hI := hI.pure hp
 refine Vj rfl (Wn (Wq (T8 rfl (Te rfl yy34 rfl (Wn (Wc false rfl (Wk ?_)))))))
 refine Wx (fun ρ w => ∃ sb nb cb, Has ρ [(5, .pointer (some ⟨sb, 0, none⟩))] ∧ Inv NF w0 w [B sb 93 (stZ n k a t b nb cb), B nb 98 (flatB n fun _ => zEnt), B cb 238 (flatB k fun _ => zCl)]) ?_ ?_
 ·refine Wd (by kernel_rfl) ?_
  refine Wi (T := []) hI.drew ?_
  intro Sx hY hZ
  have hI := hI.drew
  refine Ut 0 5 rfl (fun W hW => (hY W hW).g0) (Vf 1 0 rfl (Vd 2 (.int .i64 _) rfl (fun W hW => (hY W hW).c0 rfl) (Vf 4 1 rfl (Vd 5 (.int .i64 _) rfl (fun W hW => (hY W hW).c0 rfl) ?_))))
  refine WT_two 3 6 rfl rfl (by kernel_rfl) rfl rfl ?_ ?_
  ·refine WL_mkZ (m := 24) (by_ := 192) (z := .agg zEnt.toArray) zEnt hI rfl rfl rfl rfl rfl rfl underlying84 (by kernel_rfl) rfl rfl (by omega) (by omega) (by omega) ?_
   rintro b16 w - - hI
   refine Wn ⟨hZ _ hI.d0, ?_⟩
   refine Vu 6 rfl ?_
   refine WL_mkZ (m := 15) (by_ := 128) (z := .agg zCl.toArray) zCl hI rfl rfl rfl rfl rfl rfl yy85 (by kernel_rfl) rfl rfl (by omega) (by omega) (by omega) ?_
   rintro b19 w - - hI
   refine Wn ⟨hZ _ hI.d0.d0, ?_⟩
   refine U7 7 [(0, .agg #[_, _, _, _, _]), (1, .slice _ _ _), (2, .slice _ _ _)] [_, _, _, _, _, _, _, _, _, _, _, _] rfl [.int .i64 0, .int .i64 0, .int .i64 0, .int .i64 0, .bool false, .slice none 0 0, .slice none 0 0, .slice none 0 0, .slice none 0 0, .bool false, .slice none 0 0, .slice none 0 0] [0, 5, 6] rfl (fun _ _ => fun _ => by kernel_rfl) (Vu 8 rfl ?_)
   refine Tb (.agg (stZ n k a t b b16 b19)) (stZ n k a t b b16 b19) hI rfl ?_
   rintro b21 w - - hI
   refine Wn ⟨hZ _ hI.d0.d0.d0, ?_⟩
   refine Wt 9 rfl (hS := hZ _ hI.d0.d0.d0) (fun W hW => have hI := hY W hW; (by exact rAsgnP rfl rfl)) ?_
   refine We (by kernel_rfl) ?_
   exact ⟨b21, b16, b19, ⟨rfl, trivial⟩, hI.sw1.erase 3⟩
  refine WL_mkZ (m := 15) (by_ := 128) (z := .agg zCl.toArray) zCl hI rfl rfl rfl rfl rfl rfl yy85 (by kernel_rfl) rfl rfl (by omega) (by omega) (by omega) ?_
  rintro b19 w - - hI
  refine Wn ⟨hZ _ hI.d0, ?_⟩
  refine Vu 3 rfl ?_
  refine WL_mkZ (m := 24) (by_ := 192) (z := .agg zEnt.toArray) zEnt hI rfl rfl rfl rfl rfl rfl underlying84 (by kernel_rfl) rfl rfl (by omega) (by omega) (by omega) ?_
  rintro b16 w - - hI
  refine Wn ⟨hZ _ hI.d0.d0, ?_⟩
  refine U7 7 [(0, .agg #[_, _, _, _, _]), (1, .slice _ _ _), (2, .slice _ _ _)] [_, _, _, _, _, _, _, _, _, _, _, _] rfl [.int .i64 0, .int .i64 0, .int .i64 0, .int .i64 0, .bool false, .slice none 0 0, .slice none 0 0, .slice none 0 0, .slice none 0 0, .bool false, .slice none 0 0, .slice none 0 0] [0, 5, 6] rfl (fun _ _ => fun _ => by kernel_rfl) (Vu 8 rfl ?_)
  refine Tb (.agg (stZ n k a t b b16 b19)) (stZ n k a t b b16 b19) hI rfl ?_
  rintro b21 w - - hI
  refine Wn ⟨hZ _ hI.d0.d0.d0, ?_⟩
  refine Wt 9 rfl (hS := hZ _ hI.d0.d0.d0) (fun W hW => have hI := hY W hW; (by exact rAsgnP rfl rfl)) ?_
  refine We (by kernel_rfl) ?_
  exact ⟨b21, b16, b19, ⟨rfl, trivial⟩, hI.erase 3⟩
 clear hI
 rintro ρ w ⟨sb, nb, cb, hH, hI⟩
 obtain ⟨σ, rfl⟩ := hH.open
 rw [nd_start] at hI
 refine Wx (fun ρ w => Has ρ [(5, .pointer (some ⟨sb, 0, none⟩))] ∧ Inv NF w0 w [B sb 93 (stZ n k a t b nb cb), B nb 98 (flatB (n * 8) (ndTo n 0)), B cb 238 (flatB k fun _ => zCl)]) ?_ ?_
 ·refine Wq (V9 rfl (Vb rfl (V7 5 rfl (V5 (.slice _ _ _) rfl (hI.c0 rfl) (Vs rfl underlying84 rfl (V0 rfl (Wn (Wb ?_))))))))
  refine W_loop (fun ρ w => ∃ j : Nat, j ≤ n ∧ Has ρ [(27, .int .i64 (j : Int)), (26, .int .i64 (n : Int)), (5, .pointer (some ⟨sb, 0, none⟩))] ∧ Inv NF w0 w [B sb 93 (stZ n k a t b nb cb), B nb 98 (flatB (n * 8) (ndTo j 0)), B cb 238 (flatB k fun _ => zCl)]) (fun ρ _ => n - cnt (ρ 27))
   ⟨0, by omega, ⟨rfl, rfl, rfl, trivial⟩, hI⟩ ?_
  clear hI
  rintro ρ w ⟨j, hj, hH, hI⟩
  obtain ⟨σ, rfl⟩ := hH.open
  by_cases hjn : j < n
  rotate_left
  ·obtain rfl : j = n := by omega
   refine Wq (Vr rfl (Wn (Ws (Wc false rfl ?_))))
   refine WE ?_
   exact ⟨⟨rfl, trivial⟩, hI⟩
  refine Wq (Vt rfl (Wn (Ws (Wc true rfl (Wk (Ws (Wb (Wq (V0 rfl (Vc rfl (Wn ?_)))))))))))
  refine Wq (V0 rfl (Wn (Wb ?_)))
  refine W_loop (fun ρ w => ∃ key : Nat, key ≤ 8 ∧ Has ρ [(30, .int .i64 (key : Int)), (6, .int .i64 (j : Int)), (27, .int .i64 (j : Int)), (26, .int .i64 (n : Int)), (5, .pointer (some ⟨sb, 0, none⟩))] ∧ Inv NF w0 w [B sb 93 (stZ n k a t b nb cb), B nb 98 (flatB (n * 8) (ndTo j key)), B cb 238 (flatB k fun _ => zCl)]) (fun ρ _ => 8 - cnt (ρ 30))
   ⟨0, by omega, ⟨rfl, rfl, rfl, rfl, rfl, trivial⟩, hI⟩ ?_
  clear hI
  rintro ρ w ⟨key, hk, hH, hI⟩
  obtain ⟨σ, rfl⟩ := hH.open
  by_cases hk8 : key < 8
  rotate_left
  ·obtain rfl : key = 8 := by omega
   rw [ndTo_next] at hI
   refine Wq (Vr rfl (Wn (Ws (Wc false rfl ?_))))
   refine WE ?_
   refine Wr (Vv rfl (V0 rfl (Wn ?_)))
   exact ⟨⟨j + 1, by omega, ⟨rfl, rfl, rfl, trivial⟩, hI⟩, by show n - ((j + 1 : Nat) : Int).toNat < n - (j : Int).toNat; omega⟩
  have hlt : ∀ i, (ndTo j key i).length = 3 := fun i => by unfold ndTo; split <;> rfl
  refine Wq (Vt rfl (Wn (Ws (Wc true rfl (Wk (Ws (Wb (Wq (V0 rfl (Vc rfl (Wn ?_)))))))))))
  refine Wr (V9 rfl (Vb rfl (V7 5 rfl (V5 (.slice _ _ _) rfl (hI.c0 rfl) (V0 rfl (V0 rfl (Td [(1, .int .i64 _)] [_, _] rfl [.int .i64 0, .int .i64 0] [1] rfl (fun _ => by kernel_rfl) (Td [(0, .agg #[_, _])] [_, _, _] rfl [.int .i64 0, .int .i64 0, .int .i64 0] [0] rfl (fun _ => by kernel_rfl) (Tt 24 rfl underlying84 rfl ?_)))))))))
  refine Wv rfl (rIdxArr (sz := 3) rfl underlying98 (by kernel_rfl) rfl rfl rfl (by omega)) ?_
  refine WL_stA 1 rfl (u := .agg (entL ⟨0, -1, 0⟩).toArray) (vs := (entL ⟨0, -1, 0⟩).toArray) (n := 3) (j := 0 + j * 24 + key * 3) hI rfl rfl rfl rfl rfl rfl (by kernel_rfl) rfl (by rw [flatB_size hlt]; omega) rfl (ndTo_set hjn hk8) ?_
  intro w hI
  refine Wn (Wr (Vv rfl (V0 rfl (Wn ?_))))
  exact ⟨⟨key + 1, by omega, ⟨rfl, rfl, rfl, rfl, rfl, trivial⟩, hI⟩, by show 8 - ((key + 1 : Nat) : Int).toNat < 8 - (key : Int).toNat; omega⟩
 clear hI
 rintro ρ w ⟨hH, hI⟩
 obtain ⟨σ, rfl⟩ := hH.open
 refine Wq (V9 rfl (Tm rfl (Vj rfl (Wn ?_))))
 exact WR (r2_ 2 3 rfl ⟨sb, nb, cb, rfl, s0_parts hI⟩)
theorem new_bad (n k a t : Int) (b : Bool) (hs : ¬ SetOk n k a t) (w0 : World) :
  Cq 11 #[.agg #[.int .i64 n, .int .i64 k, .int .i64 a, .int .i64 t, .bool b]] w0 fun en w' => (∃ z : Int, en = .returned (.tuple #[.pointer none, .iface 45 (.int .i64 z)])) ∧ Pure w0 w' := by
 have hI := Inv.start (fun _ => False) w0
 refine Vn func11 rfl ?_
 refine Wq (Tb (.agg _) (#[_, _, _, _, _]) hI rfl ?_)
 rintro b1 w - - hI
 refine Tm rfl (Vj rfl (Wn (Ws (Wq (Tu 5 rfl hI.g0 (Va [.agg _] rfl func30 rfl ?_))))))
 refine (scheck_any n k a t b _).mono ?_
 rintro e w1 ⟨⟨hb, _⟩ | ⟨_, z, rfl⟩, hp⟩
 ·exact absurd hb hs
 refine rV ?_
 have hI := hI.pure hp
 refine Vp rfl (Wn (Wq (Vy rfl (Tl rfl yy34 rfl (Wn (Wc true rfl (Wq (Vy rfl (Tm rfl (Vp rfl (Wn ?_)))))))))))
 exact WR (r2_ 2 3 rfl ⟨⟨z, rfl⟩, hI.pu⟩)
theorem s0_ok {n k a t : Nat} {b : Bool} (hs : SetOk n k a t) (sb nb cb : Nat) : SOk (zL sb nb cb) (s0 n k a t b) 0 := by
 unfold SetOk at hs
 refine ⟨by show 1 ≤ n ∧ n ≤ 7; omega, by show 1 ≤ k ∧ k ≤ 8; omega, by show 1 ≤ a ∧ a ≤ n; omega, by show 1 ≤ t ∧ t ≤ n; omega, Nat.zero_le _, Nat.zero_le _, rfl, ?_, fun m hm => (by cases hm), fun c _ => ⟨Nat.le_refl _, Nat.le_refl _, fun h => (by cases h)⟩, fun c b _ h => (by cases h), fun _ _ _ _ => Nat.le_refl _⟩
 show 0 + busyN (s0 n k a t b) k ≤ 120
 have := busyN_le (s0 n k a t b) k
 omega
section
variable {P : Program} {ρ : Env} {w : World} {o : Oper} {x : Operand} {t t' e : TypeId}
theorem rSliceNilT {n c : Nat} (ho : o.op = .binOp .eql t x (.const (.slice none 0 0)) t') (ht : P.underlying t = some (.slice e)) (hx : ev ρ x = .slice none n c) : Runs P ρ o w (.bool true) := by
 have h := run_equal (P := P) (w := w) (t := t) (x := .slice none n c) (y := .slice none 0 0) (r := true) (fun d => by simp [Op.equalIn, run_underlying ht])
 simp [Runs, execOp, ho, hx, show ev ρ (.const (.slice none 0 0)) = .slice none 0 0 from rfl, eqGuard, binOp, h]
theorem rSliceNilF {n c : Nat} {p : Addr} (ho : o.op = .binOp .eql t x (.const (.slice none 0 0)) t') (ht : P.underlying t = some (.slice e)) (hx : ev ρ x = .slice (some p) n c) : Runs P ρ o w (.bool false) := by
 have h := run_equal (P := P) (w := w) (t := t) (x := .slice (some p) n c) (y := .slice none 0 0) (r := false) (fun d => by simp [Op.equalIn, run_underlying ht])
 simp [Runs, execOp, ho, hx, show ev ρ (.const (.slice none 0 0)) = .slice none 0 0 from rfl, eqGuard, binOp, h]
end
theorem evs_one (l : List Ev) : (l.flatMap evL).all (·.oneCell') = true := by
 rw [List.all_eq_true]
 intro u hu
 obtain ⟨m, _, h⟩ := List.mem_flatMap.1 hu
 simp only [evL, List.mem_cons, List.not_mem_nil, or_false] at h
 rcases h with h | h | h | h | h | h | h <;> rw [h] <;> rfl
theorem cloneE_any (A : Option Addr) (c : Nat) (l : List Ev) (D : Nat → Prop) (w0 : World) (h : Rd w0 D 7 (.slice A l.length c) l.length (l.flatMap evL)) (hb : l.length ≤ 1000000) :
  Cq 42 #[.slice A l.length c] w0 fun en w' => ∃ A' c', en = .returned (.slice A' l.length c') ∧ Inv NF w0 w' [Row 0 70 7 A' l.length c' (l.flatMap evL)] := by
 obtain ⟨A1, c1, hv, hnc, hcm, hlen, hcell⟩ := h
 injection hv with e1 e2 e3
 subst e1 e3
 have hI := Inv.start (fun _ => False) w0
 refine Vn func42 rfl ?_
 refine Wq (Vo rfl (Wn ?_))
 cases A with
 | none =>
  have hl : l = [] := by
   rcases Nat.eq_zero_or_pos l.length with h0 | h0
   ·exact List.eq_nil_of_length_eq_zero h0
   obtain ⟨b, o, hbo, _⟩ := hcell h0
   cases hbo
  subst hl
  refine Ws (Wq (Vi rfl ?_))
  refine Wv rfl (rSliceNilT rfl yy28 rfl) ?_
  refine Wn (Wc true rfl (Wq (Vo rfl (Wn ?_))))
  exact WR (r1_ 2 rfl ⟨none, 0, rfl, hI.fresh (Pure.refl _) (Row.nil _ 0 70 7) (fun k hk => by simp [Row] at hk)⟩)
 | some p =>
  refine Ws (Wq (Vi rfl ?_))
  refine Wv rfl (rSliceNilF rfl yy28 rfl) ?_
  refine Wn (Wc false rfl (Wk (Wq (T3 [] [] [] [] hI rfl yy28 (fun _ => by kernel_rfl) ?_))))
  rintro b5 w - - hI
  refine Vi rfl ?_
  have hI := hI.u0 (e' := Row 0 70 7 (some ⟨b5, 0, none⟩) 0 0 []) (Chg.refl _ _) (Row.of_blk hI.g0 (Nat.zero_le _) (by simp) (by omega)) (fun k hk => .inl (by have : some b5 = some k := hk; injection this with this; exact this.symm))
  rcases Nat.eq_zero_or_pos l.length with h0 | h0
  ·have hl : l = [] := List.eq_nil_of_length_eq_zero h0
   subst hl
   refine Wv rfl (rApp0 rfl yy28 (sz := 7) (by kernel_rfl) rfl rfl (Nat.le_refl _)) ?_
   refine Vo rfl (Wn ?_)
   exact WR (r1_ 2 rfl ⟨_, _, rfl, hI⟩)
  obtain ⟨b, o, hbo, _, hcl⟩ := hcell h0
  injection hbo with hbo
  subst hbo
  refine WL_app0 (z := .agg zI7) (by_ := 56) (news := l.flatMap evL) hI rfl rfl rfl rfl rfl rfl yy28 (by kernel_rfl) rfl (by omega) hlen (fun k u hk => hI.oldp (hcl k u hk)) (evs_one l) (by simp; omega) (by simp; omega) (Nat.zero_le _) ?_
  rintro A2 c2 w _ _ hI
  refine Vo rfl (Wn ?_)
  refine WR ?_
  refine r1_ 2 rfl ⟨A2, c2, ?_, ?_⟩
  ·show Ending.returned (.slice A2 (0 + l.length) c2) = _; rw [Nat.zero_add]
  have h' : Inv NF w0 w [Row 0 70 7 A2 (0 + l.length) c2 ([] ++ l.flatMap evL)] := hI
  rw [Nat.zero_add, List.nil_append] at h'; exact h'
theorem events_any (L : StL) (s : StS) (S : Nat → Prop) (w0 : World) (hI : Inv S w0 w0 (spt L s)) (hb : s.evs.length ≤ 1000000) :
  Cq 17 #[.pointer (some ⟨L.sb, 0, none⟩)] w0 fun en w' => ∃ A c, en = .returned (.slice A s.evs.length c) ∧ Inv S w0 w' (Row 0 70 7 A s.evs.length c (s.evs.flatMap evL) :: spt L s) := by
 refine Vn func17 rfl ?_
 refine Wq (Vo rfl (Wn (Ws (Wq (V9 rfl ?_)))))
 refine Wv rfl (rPtrEq rfl yy46 rfl rfl) ?_
 refine Wn (Wc false rfl (Wk ?_))
 have hz : w0.cell? ⟨L.sb, 10, none⟩ = some (.slice L.EA s.evs.length L.ec) := hI.cell 0 rfl rfl
 refine Wq (V9 rfl (Vb rfl (V7 10 rfl (V5 (.slice _ _ _) rfl hz (Va [.slice _ _ _] rfl func42 rfl ?_)))))
 refine (cloneE_any L.EA L.ec s.evs (fun _ => True) _ (Rd.of_own (hI.ok _ (List.mem_of_getElem? (i := 7) rfl)).1 (fun _ _ _ => trivial)) hb).mono ?_
 rintro en w1 ⟨A, c, rfl, hJ⟩
 refine rV ?_
 have hI := hI.app1 hJ
 refine Vo rfl (Wn ?_)
 exact WR (r1_ 2 rfl ⟨A, c, rfl, hI⟩)
section
variable {P : Program} {ρ : Env} {w : World} {o : Oper} {x y : Operand} {t t' : TypeId}
theorem rQuoNN {a b : Nat} (ho : o.op = .binOp .quo t x y t') (hx : ev ρ x = .int .i64 (a : Int)) (hy : ev ρ y = .int .i64 (b : Int)) (hb : 0 < b) (ha : a ≤ 9223372036854775807) : Runs P ρ o w (.int .i64 ((a / b : Nat) : Int)) := by
 have h := rQuoW (P := P) (w := w) ho hx hy (by omega)
 have e : Int.tdiv (a : Int) (b : Int) = ((a / b : Nat) : Int) := (Int.ofNat_tdiv a b).symm
 have hq := Nat.div_le_self a b
 generalize a / b = q at e hq ⊢
 rw [e, wrap64_in (by omega) (by omega)] at h
 exact h
theorem Tz {N_ : Nat} {ops_ : Array Oper} {Q_ : XPost} {rest_ : List Oper} {d_ : Nat} {a : Nat} (b : Nat) (h0_ : @Eq _ (wantedR ops_ ρ o, o.dst, Nat.blt d_ N_, o.op, ev ρ x, ev ρ y) (true, some d_, true, .binOp .quo t x y t', .int .i64 (a : Int), .int .i64 (b : Int))) (K_ : WL P N_ ops_ Q_ rest_ (upd ρ d_ (.int .i64 ((a / b : Nat) : Int))) w) (h1_ : 0 < b := by omega) (h2_ : a ≤ 9223372036854775807 := by omega) : WL P N_ ops_ Q_ (o :: rest_) ρ w := WL_val (q1 h0_) (q1 (q2 h0_)) (q1 (q2 (q2 h0_))) (rQuoNN (b := b) (q1 (q2 (q2 (q2 h0_)))) (q1 (q2 (q2 (q2 (q2 h0_))))) (q2 (q2 (q2 (q2 (q2 h0_))))) h1_ h2_) K_
theorem rRemNN {a b : Nat} (ho : o.op = .binOp .rem t x y t') (hx : ev ρ x = .int .i64 (a : Int)) (hy : ev ρ y = .int .i64 (b : Int)) (hb : 0 < b) (ha : a ≤ 9223372036854775807) : Runs P ρ o w (.int .i64 ((a % b : Nat) : Int)) := by
 have h := rRemW (P := P) (w := w) ho hx hy (by omega)
 have e : Int.tmod (a : Int) (b : Int) = ((a % b : Nat) : Int) := (Int.ofNat_tmod a b).symm
 rw [e] at h
 exact h
theorem rSubNN {a b : Nat} (ho : o.op = .binOp .sub t x y t') (hx : ev ρ x = .int .i64 (a : Int)) (hy : ev ρ y = .int .i64 (b : Int)) (hb : b ≤ a) (ha : a ≤ 9223372036854775807) : Runs P ρ o w (.int .i64 ((a - b : Nat) : Int)) := by
 have h := rSub (P := P) (w := w) ho hx hy (by omega)
 rw [show (a : Int) - (b : Int) = ((a - b : Nat) : Int) by omega] at h
 exact h
end
theorem bools_one (l : List Bool) : (boolsV l).all (·.oneCell') = true := by simp [boolsV, Value.oneCell']
theorem boolsV_len (l : List Bool) : (boolsV l).length = l.length := by simp [boolsV]
theorem Inv.rowsIn {S : Nat → Prop} {w0 w : World} {H : List Ent} {A : Option Addr} {m c : Nat} {l : List Bool} {vals : List Value} {D : Nat → Prop} (h : Inv S w0 w (Row 0 4 1 A m c (boolsV l) :: RowsE vals D :: H)) (hm : m = l.length) (hl : l.length ≤ 1000) :
  Inv S w0 w (RowsE (vals ++ [.slice A m c]) (fun k => A.map (·.block) = some k ∨ D k) :: H) := by
 subst hm
 have h0 := h.ok _ (List.mem_of_getElem? (i := 0) rfl)
 have h1 := h.ok _ (List.mem_of_getElem? (i := 1) rfl)
 refine h.join.u0 (Chg.refl _ _) (RowsE.ok (fun k hk => ?_) fun v hv => ?_) (fun k hk => .inl hk)
 ·rcases hk with hk | hk
  ·exact h0.2.1 k hk
  exact h1.2.1 k hk
 rcases List.mem_append.1 hv with hv | hv
 ·obtain ⟨l', hl', hb⟩ := h1.1.2 v hv
  exact ⟨l', Rd.mono hl' fun k hk => .inr hk, hb⟩
 rw [List.mem_singleton.1 hv]
 exact ⟨l, Rd.of_own h0.1 fun k hk _ => .inl (by rw [← ownBlock_slice A l.length c]; exact hk), hl⟩
theorem cloneB_any (A : Option Addr) (n c : Nat) (l : List Bool) (D : Nat → Prop) (w0 : World) (h : Rd w0 D 1 (.slice A n c) n (boolsV l)) (hb : l.length ≤ 1000000) :
  Cq 128 #[.slice A n c] w0 fun en w' => ∃ A' c', en = .returned (.slice A' n c') ∧ n = l.length ∧ Inv NF w0 w' [Row 0 4 1 A' n c' (boolsV l)] := by
 obtain ⟨A1, c1, hv, hnc, hcm, hlen, hcell⟩ := h
 injection hv with e1 e2 e3
 subst e1 e3
 rw [boolsV_len, Nat.mul_one] at hlen
 subst hlen
 have hI := Inv.start (fun _ => False) w0
 refine Vn func128 rfl ?_
 refine Wq (Vo rfl (Wn ?_))
 cases A with
 | none =>
  have hl : l = [] := by
   rcases Nat.eq_zero_or_pos l.length with h0 | h0
   ·exact List.eq_nil_of_length_eq_zero h0
   obtain ⟨b, o, hbo, _⟩ := hcell h0
   cases hbo
  subst hl
  refine Ws (Wq (Vi rfl ?_))
  refine Wv rfl (rSliceNilT rfl yy113 rfl) ?_
  refine Wn (Wc true rfl (Wq (Vo rfl (Wn ?_))))
  exact WR (r1_ 2 rfl ⟨none, 0, rfl, rfl, hI.fresh (Pure.refl _) (Row.nil _ 0 4 1) (fun k hk => by simp [Row] at hk)⟩)
 | some p =>
  refine Ws (Wq (Vi rfl ?_))
  refine Wv rfl (rSliceNilF rfl yy113 rfl) ?_
  refine Wn (Wc false rfl (Wk (Wq (T3 [] [] [] [] hI rfl yy113 (fun _ => by kernel_rfl) ?_))))
  rintro b5 w - - hI
  refine Vi rfl ?_
  have hI := hI.u0 (e' := Row 0 4 1 (some ⟨b5, 0, none⟩) 0 0 []) (Chg.refl _ _) (Row.of_blk hI.g0 (Nat.zero_le _) (by simp) (by omega)) (fun k hk => .inl (by have : some b5 = some k := hk; injection this with this; exact this.symm))
  rcases Nat.eq_zero_or_pos l.length with h0 | h0
  ·have hl : l = [] := List.eq_nil_of_length_eq_zero h0
   subst hl
   refine Wv rfl (rApp0 rfl yy113 (sz := 1) (by kernel_rfl) rfl rfl (Nat.le_refl _)) ?_
   refine Vo rfl (Wn ?_)
   exact WR (r1_ 2 rfl ⟨_, _, rfl, rfl, hI⟩)
  obtain ⟨b, o, hbo, _, hcl⟩ := hcell h0
  injection hbo with hbo
  subst hbo
  refine WL_app0 (z := .bool false) (by_ := 1) (news := boolsV l) hI rfl rfl rfl rfl rfl rfl yy113 (by kernel_rfl) rfl (by omega) (by rw [boolsV_len, Nat.mul_one]) (fun k u hk => hI.oldp (hcl k u hk)) (bools_one l) (by simp; omega) (by simp; omega) (Nat.zero_le _) ?_
  rintro A2 c2 w _ _ hI
  refine Vo rfl (Wn ?_)
  refine WR ?_
  refine r1_ 2 rfl ⟨A2, c2, ?_, rfl, ?_⟩
  ·show Ending.returned (.slice A2 (0 + l.length) c2) = _; rw [Nat.zero_add]
  have h' : Inv NF w0 w [Row 0 4 1 A2 (0 + l.length) c2 ([] ++ boolsV l)] := hI
  rw [Nat.zero_add, List.nil_append] at h'; exact h'
def CanF (F : Nat) (cap : List Value) (w0 : World) : Prop := ∀ (W : World) (a b : Nat), Pure w0 W → a < 7 → b < 7 → Cq F ([Value.int .i64 (a : Int), Value.int .i64 (b : Int)] ++ cap).toArray W fun en w' => (∃ r, en = .returned (.bool r)) ∧ Pure W w'
theorem halves1_any (g n : Nat) (w0 : World) (hn : n ≤ 7) (hc : w0.cell? ⟨g, 0, none⟩ = some (.int .i64 (n : Int))) : CanF 124 [.pointer (some ⟨g, 0, none⟩)] w0 := by
 intro W a b hp ha hb
 have hI := (Inv.start (fun _ => False) w0).pure hp
 have hc := hI.oldp hc
 have hI := Inv.start (fun _ => False) W
 refine Vn func124 rfl ?_
 refine Wq (V8 rfl (Wn (Wq (V0 rfl (V5 (.int .i64 _) rfl (hI.oldp hc) (Tz 2 rfl ?_))))))
 refine Wv rfl (by exact rLss rfl rfl rfl) ?_
 refine V0 rfl (V5 (.int .i64 _) rfl (hI.oldp hc) (Tz 2 rfl ?_))
 refine Wv rfl (by exact rLss rfl rfl rfl) ?_
 refine Wv rfl (rBoolEql rfl yy4 rfl rfl) ?_
 refine V8 rfl (Wn ?_)
 exact WR (r1_ 5 rfl ⟨⟨_, rfl⟩, hI.pu⟩)
theorem bridge1_any (g n : Nat) (w0 : World) (hn : n ≤ 7) (hc : w0.cell? ⟨g, 0, none⟩ = some (.int .i64 (n : Int))) : CanF 125 [.pointer (some ⟨g, 0, none⟩)] w0 := by
 intro W a b hp ha hb
 have hI := (Inv.start (fun _ => False) w0).pure hp
 have hc := hI.oldp hc
 have hI := Inv.start (fun _ => False) W
 refine Vn func125 rfl ?_
 refine Wq (V8 rfl (Wn ?_))
 by_cases p : a < n / 2
 ·by_cases q : b < n / 2
  ·refine Wq (V0 rfl (V5 (.int .i64 _) rfl (hI.oldp hc) (Tz 2 rfl (Vt rfl (V0 rfl (V5 (.int .i64 _) rfl (hI.oldp hc) (Tz 2 rfl (Vt rfl ?_))))))))
   refine Wv rfl (rBoolEql rfl yy4 rfl rfl) ?_
   refine V6 rfl (V4 rfl (V4 rfl (V4 rfl (V4 rfl (Vk rfl (V6 rfl (V4 rfl (V4 rfl (V4 rfl (V4 rfl (Vk rfl (V8 rfl (Wn ?_)))))))))))))
   exact WR (r1_ 5 rfl ⟨⟨_, rfl⟩, hI.pu⟩)
  by_cases q2 : b = n / 2
  ·refine Wq (V0 rfl (V5 (.int .i64 _) rfl (hI.oldp hc) (Tz 2 rfl (Vt rfl (V0 rfl (V5 (.int .i64 _) rfl (hI.oldp hc) (Tz 2 rfl (Vr rfl ?_))))))))
   refine Wv rfl (rBoolEql rfl yy4 rfl rfl) ?_
   refine V6 rfl (V0 rfl (V5 (.int .i64 _) rfl (hI.oldp hc) (Tz 2 rfl (Vw rfl (Ve rfl (V6 rfl (V0 rfl (V5 (.int .i64 _) rfl (hI.oldp hc) (Tz 2 rfl (T5 rfl (Ve rfl (V8 rfl (Wn ?_)))))))))))))
   exact WR (r1_ 5 rfl ⟨⟨_, rfl⟩, hI.pu⟩)
  refine Wq (V0 rfl (V5 (.int .i64 _) rfl (hI.oldp hc) (Tz 2 rfl (Vt rfl (V0 rfl (V5 (.int .i64 _) rfl (hI.oldp hc) (Tz 2 rfl (Vr rfl ?_))))))))
  refine Wv rfl (rBoolEql rfl yy4 rfl rfl) ?_
  refine V6 rfl (V0 rfl (V5 (.int .i64 _) rfl (hI.oldp hc) (Tz 2 rfl (Vw rfl (Ve rfl (V6 rfl (V0 rfl (V5 (.int .i64 _) rfl (hI.oldp hc) (Tz 2 rfl (Vw rfl (Ve rfl (V8 rfl (Wn ?_)))))))))))))
  exact WR (r1_ 5 rfl ⟨⟨_, rfl⟩, hI.pu⟩)
 by_cases q : b < n / 2
 ·by_cases p2 : a = n / 2
  ·refine Wq (V0 rfl (V5 (.int .i64 _) rfl (hI.oldp hc) (Tz 2 rfl (Vr rfl (V0 rfl (V5 (.int .i64 _) rfl (hI.oldp hc) (Tz 2 rfl (Vt rfl ?_))))))))
   refine Wv rfl (rBoolEql rfl yy4 rfl rfl) ?_
   refine V6 rfl (V0 rfl (V5 (.int .i64 _) rfl (hI.oldp hc) (Tz 2 rfl (T5 rfl (Ve rfl (V6 rfl (V4 rfl (V4 rfl (V4 rfl (V4 rfl (Vk rfl (V8 rfl (Wn ?_)))))))))))))
   exact WR (r1_ 5 rfl ⟨⟨_, rfl⟩, hI.pu⟩)
  refine Wq (V0 rfl (V5 (.int .i64 _) rfl (hI.oldp hc) (Tz 2 rfl (Vr rfl (V0 rfl (V5 (.int .i64 _) rfl (hI.oldp hc) (Tz 2 rfl (Vt rfl ?_))))))))
  refine Wv rfl (rBoolEql rfl yy4 rfl rfl) ?_
  refine V6 rfl (V0 rfl (V5 (.int .i64 _) rfl (hI.oldp hc) (Tz 2 rfl (Vw rfl (Ve rfl (V6 rfl (V0 rfl (V5 (.int .i64 _) rfl (hI.oldp hc) (Tz 2 rfl (Vw rfl (Ve rfl (V8 rfl (Wn ?_)))))))))))))
  exact WR (r1_ 5 rfl ⟨⟨_, rfl⟩, hI.pu⟩)
 refine Wq (V0 rfl (V5 (.int .i64 _) rfl (hI.oldp hc) (Tz 2 rfl (Vr rfl (V0 rfl (V5 (.int .i64 _) rfl (hI.oldp hc) (Tz 2 rfl (Vr rfl ?_))))))))
 refine Wv rfl (rBoolEql rfl yy4 rfl rfl) ?_
 refine V6 rfl (V4 rfl (V4 rfl (V4 rfl (V4 rfl (Vk rfl (V6 rfl (V4 rfl (V4 rfl (V4 rfl (V4 rfl (Vk rfl (V8 rfl (Wn ?_)))))))))))))
 exact WR (r1_ 5 rfl ⟨⟨_, rfl⟩, hI.pu⟩)
theorem ring1_any (g n : Nat) (w0 : World) (hn : n ≤ 7) (hc : w0.cell? ⟨g, 0, none⟩ = some (.int .i64 (n : Int))) : CanF 126 [.pointer (some ⟨g, 0, none⟩)] w0 := by
 intro W a b hp ha hb
 have hI := (Inv.start (fun _ => False) w0).pure hp
 have hc := hI.oldp hc
 have hI := Inv.start (fun _ => False) W
 refine Vn func126 rfl ?_
 refine Wq (V8 rfl (Wn (Wq (V0 rfl (V0 rfl ?_)))))
 refine Wv rfl (by exact rSub rfl rfl rfl (by omega)) ?_
 refine V0 rfl (V0 rfl ?_)
 refine Wv rfl (by exact rSub rfl rfl rfl (by omega)) ?_
 refine Wv rfl (rMax rfl rfl rfl) ?_
 refine Vc rfl (Wn (Wq (V0 rfl (V5 (.int .i64 _) rfl (hI.oldp hc) (V0 rfl ?_)))))
 refine Wv rfl (by exact rSub rfl rfl rfl (by omega)) ?_
 refine Wv rfl (rMin rfl rfl rfl) ?_
 refine V5 (.int .i64 _) rfl (hI.oldp hc) ?_
 refine Wv rfl (rQuoW rfl rfl rfl (by omega)) ?_
 refine Wv rfl (by exact rAddW rfl rfl rfl) ?_
 refine Wv rfl (rQuoW rfl rfl rfl (by omega)) ?_
 refine Wv rfl (by exact rLeq rfl rfl rfl) ?_
 refine V8 rfl (Wn ?_)
 exact WR (r1_ 5 rfl ⟨⟨_, rfl⟩, hI.pu⟩)
theorem alone1_any (g : Nat) (who : Int) (w0 : World) (hc : w0.cell? ⟨g, 0, none⟩ = some (.int .i64 who)) : CanF 127 [.pointer (some ⟨g, 0, none⟩)] w0 := by
 intro W a b hp ha hb
 have hI := (Inv.start (fun _ => False) w0).pure hp
 have hc := hI.oldp hc
 have hI := Inv.start (fun _ => False) W
 refine Vn func127 rfl ?_
 refine Wq (V8 rfl (Wn ?_))
 by_cases h : (a : Int) = who
 ·refine Wq (V0 rfl (V5 (.int .i64 _) rfl (hI.oldp hc) (U2 rfl (V6 rfl (V4 rfl (V4 rfl (V4 rfl (Ve rfl (V8 rfl (Wn ?_))))))))))
  exact WR (r1_ 5 rfl ⟨⟨_, rfl⟩, hI.pu⟩)
 refine Wq (V0 rfl (V5 (.int .i64 _) rfl (hI.oldp hc) (U1 rfl (V6 rfl (V0 rfl (V5 (.int .i64 _) rfl (hI.oldp hc) ?_))))))
 refine Wv rfl (by exact rNeq rfl rfl rfl) ?_
 refine Vk rfl (V8 rfl (Wn ?_))
 exact WR (r1_ 5 rfl ⟨⟨_, rfl⟩, hI.pu⟩)
end Go.Proofs.YtlkobbighkiojaaGreatDoor
namespace Go.Proofs.YtlkobbighkiojaaGreatDoor
open Tryz
open Go
inductive Ge where
 | rd (k : Int)
 | wr (k l t : Int)
 | lim (n : Nat) (g : Ge)
 | mix (gs : List Ge)
 | thn (gs : List Ge)
mutual
def Ge.sz : Ge → Nat
 | .rd _ => 1
 | .wr _ _ _ => 1
 | .lim _ g => 1 + g.sz
 | .mix gs => 1 + szL gs
 | .thn gs => 1 + szL gs
def szL : List Ge → Nat
 | [] => 0
 | g :: gs => 1 + g.sz + szL gs
end
theorem szL_set : ∀ (gs : List Ge) (i : Nat) (g g' : Ge), gs[i]? = some g → szL (gs.set i g') + g.sz = szL gs + g'.sz
 | [], i, g, g', h => by simp at h
 | a :: gs, 0, g, g', h => by
  simp only [List.getElem?_cons_zero, Option.some.injEq] at h
  subst h
  simp only [List.set_cons_zero, szL]
  omega
 | a :: gs, i + 1, g, g', h => by
  simp only [List.getElem?_cons_succ] at h
  have := szL_set gs i g g' h
  simp only [List.set_cons_succ, szL]
  omega
theorem szL_erase : ∀ (gs : List Ge) (i : Nat) (g : Ge), gs[i]? = some g → szL (gs.eraseIdx i) + g.sz + 1 = szL gs
 | [], i, g, h => by simp at h
 | a :: gs, 0, g, h => by
  simp only [List.getElem?_cons_zero, Option.some.injEq] at h
  subst h
  simp only [List.eraseIdx_cons_zero, szL]
  omega
 | a :: gs, i + 1, g, h => by
  simp only [List.getElem?_cons_succ] at h
  have := szL_erase gs i g h
  simp only [List.eraseIdx_cons_succ, szL]
  omega
abbrev Ca := Bool × Int × Int
def belF (nums : List Int) (u : Nat) (n : Int) : Int := IntKind.u64.wrap (nums.getD u 0) % n
inductive Nx (nums : List Int) : Ge → Nat → Option Ca → Ge → Nat → Prop
 | rd {k u} : Nx nums (.rd k) u (some (false, k, 0)) (.rd k) u
 | wr {k l t u} : Nx nums (.wr k l t) u (some (true, k, l + belF nums u (t - l + 1))) (.wr k l t) (u + 1)
 | lim0 {g u} : Nx nums (.lim 0 g) u none (.lim 0 g) u
 | lim {g u r g' u' n} : Nx nums g u r g' u' → Nx nums (.lim (n + 1) g) u r (.lim n g') u'
 | mix0 {u} : Nx nums (.mix []) u none (.mix []) u
 | mixS {gs g g' u u'} {c : Ca} {i : Nat} : gs[i]? = some g → (i : Int) = belF nums u gs.length → Nx nums g (u + 1) (some c) g' u' → Nx nums (.mix gs) u (some c) (.mix (gs.set i g')) u'
 | mixN {gs g g' u u' r g'' u''} {i : Nat} : gs[i]? = some g → (i : Int) = belF nums u gs.length → Nx nums g (u + 1) none g' u' → Nx nums (.mix (gs.eraseIdx i)) u' r g'' u'' → Nx nums (.mix gs) u r g'' u''
 | thn0 {u} : Nx nums (.thn []) u none (.thn []) u
 | thnS {gs g g' u u'} {c : Ca} : Nx nums g u (some c) g' u' → Nx nums (.thn (g :: gs)) u (some c) (.thn (g' :: gs)) u'
 | thnN {gs g g' u u' r g'' u''} : Nx nums g u none g' u' → Nx nums (.thn gs) u' r g'' u'' → Nx nums (.thn (g :: gs)) u r g'' u''
theorem Nx.det {nums : List Int} {g : Ge} {u : Nat} {r : Option Ca} {g1 : Ge} {u1 : Nat} (h : Nx nums g u r g1 u1) : ∀ {r2 g2 u2}, Nx nums g u r2 g2 u2 → r = r2 ∧ g1 = g2 ∧ u1 = u2 := by
 induction h with
 | rd => intro r2 g2 u2 h2; cases h2; exact ⟨rfl, rfl, rfl⟩
 | wr => intro r2 g2 u2 h2; cases h2; exact ⟨rfl, rfl, rfl⟩
 | lim0 => intro r2 g2 u2 h2; cases h2; exact ⟨rfl, rfl, rfl⟩
 | lim _ ih =>
  intro r2 g2 u2 h2
  cases h2 with
  | lim h => obtain ⟨rfl, rfl, rfl⟩ := ih h; exact ⟨rfl, rfl, rfl⟩
 | mix0 =>
  intro r2 g2 u2 h2
  cases h2 with
  | mix0 => exact ⟨rfl, rfl, rfl⟩
  | mixS h => simp at h
  | mixN h => simp at h
 | mixS h1 h2 _ ih =>
  intro r2 g2 u2 h
  cases h with
  | mix0 => simp at h1
  | mixS h1' h2' h' =>
   rw [← h2, Int.ofNat_inj] at h2'
   subst h2'
   rw [h1, Option.some.injEq] at h1'
   subst h1'
   obtain ⟨h3, rfl, rfl⟩ := ih h'
   exact ⟨h3, rfl, rfl⟩
  | mixN h1' h2' h' =>
   rw [← h2, Int.ofNat_inj] at h2'
   subst h2'
   rw [h1, Option.some.injEq] at h1'
   subst h1'
   cases (ih h').1
 | mixN h1 h2 _ _ ih ih2 =>
  intro r2 g2 u2 h
  cases h with
  | mix0 => simp at h1
  | mixS h1' h2' h' =>
   rw [← h2, Int.ofNat_inj] at h2'
   subst h2'
   rw [h1, Option.some.injEq] at h1'
   subst h1'
   cases (ih h').1
  | mixN h1' h2' h' h'' =>
   rw [← h2, Int.ofNat_inj] at h2'
   subst h2'
   rw [h1, Option.some.injEq] at h1'
   subst h1'
   obtain ⟨_, _, rfl⟩ := ih h'
   exact ih2 h''
 | thn0 => intro r2 g2 u2 h2; cases h2; exact ⟨rfl, rfl, rfl⟩
 | thnS _ ih =>
  intro r2 g2 u2 h
  cases h with
  | thnS h => obtain ⟨h3, rfl, rfl⟩ := ih h; exact ⟨h3, rfl, rfl⟩
  | thnN h => cases (ih h).1
 | thnN _ _ ih ih2 =>
  intro r2 g2 u2 h
  cases h with
  | thnS h => cases (ih h).1
  | thnN h h' => obtain ⟨_, _, rfl⟩ := ih h; exact ih2 h'
theorem Nx.sz {nums : List Int} {g : Ge} {u : Nat} {r : Option Ca} {g1 : Ge} {u1 : Nat} (h : Nx nums g u r g1 u1) : u ≤ u1 ∧ u1 ≤ u + g.sz ∧ g1.sz ≤ g.sz := by
 induction h with
 | rd => simp only [Ge.sz]; omega
 | wr => simp only [Ge.sz]; omega
 | lim0 => simp only [Ge.sz]; omega
 | lim _ ih => simp only [Ge.sz]; omega
 | mix0 => simp only [Ge.sz]; omega
 | @mixS gs g g' u u' c i h1 h2 _ ih => have := szL_set gs i g g' h1; have := szL_erase gs i g h1; simp only [Ge.sz]; omega
 | @mixN gs g g' u u' r g'' u'' i h1 h2 _ _ ih ih2 => have := szL_erase gs i g h1; simp only [Ge.sz] at ih2 ⊢; omega
 | thn0 => simp only [Ge.sz]; omega
 | thnS _ ih => simp only [Ge.sz, szL]; omega
 | thnN _ _ ih ih2 => simp only [Ge.sz, szL] at ih2 ⊢; omega
inductive Tk (nums : List Int) : Ge → Nat → Nat → List Ca → Ge → Nat → Prop
 | zero {g u} : Tk nums g u 0 [] g u
 | stop {g u g' u' n} : Nx nums g u none g' u' → Tk nums g u (n + 1) [] g' u'
 | step {g u g1 u1 g' u' n cs} {c : Ca} : Nx nums g u (some c) g1 u1 → Tk nums g1 u1 n cs g' u' → Tk nums g u (n + 1) (c :: cs) g' u'
abbrev Tok := List UInt8
def tRead : Tok := [114, 101, 97, 100]
def tWrite : Tok := [119, 114, 105, 116, 101]
def tLimit : Tok := [108, 105, 109, 105, 116]
def tMix : Tok := [109, 105, 120]
def tThen : Tok := [116, 104, 101, 110]
def tOpen : Tok := [40]
def tShut : Tok := [41]
def tComma : Tok := [44]
def gnumF (t : Tok) (least most : Int) : Option Int := match Lib.atoiAll t with
 | .ok n => if Lib.itoa n = t ∧ least ≤ n ∧ n ≤ most then some n else none
 | _ => none
def numT (least most : Int) : List Tok → Option (Int × List Tok)
 | [] => none
 | t :: s => (gnumF t least most).map fun n => (n, s)
def pS (p : List Tok → Option (Ge × List Tok)) : Nat → List Tok → Option (List Ge × List Tok)
 | 0, _ => none
 | n + 1, s => match p s with
  | none => none
  | some (_, []) => none
  | some (g, t :: s') => if t = tShut then some ([g], s') else if t = tComma then (pS p n s').map fun r => (g :: r.1, r.2) else none
def pV (p : List Tok → Option (Ge × List Tok)) : List Tok → Option (List Ge × List Tok)
 | [] => none
 | t :: s => if t = tOpen then pS p s.length s else none
def pW (s : List Tok) : Option (Ge × List Tok) := match numT 0 7 s with
 | none => none
 | some (k, s) => match numT (-1000000) 1000000 s with
  | none => none
  | some (l, s) => match numT l 1000000 s with
   | none => none
   | some (t, s) => some (.wr k l t, s)
def pG : Nat → List Tok → Option (Ge × List Tok)
 | 0, _ => none
 | _ + 1, [] => none
 | k + 1, t :: s =>
  if t = tRead then (numT 0 7 s).map fun r => (.rd r.1, r.2)
  else if t = tWrite then pW s
  else if t = tLimit then match numT 0 1000 s with
   | none => none
   | some (n, s) => (pG k s).map fun r => (.lim n.toNat r.1, r.2)
  else if t = tMix then (pV (pG k) s).map fun r => (.mix r.1, r.2)
  else if t = tThen then (pV (pG k) s).map fun r => (.thn r.1, r.2)
  else none
open Go.RowKit
abbrev at0 (b : Nat) : Value := .pointer (some ⟨b, 0, none⟩)
def tapeE (q : Nat) (nv : Value) (u : Nat) : Ent := B q 57 #[nv, .int .i64 (u : Int)]
theorem belF_lt (nums : List Int) (u : Nat) (n : Int) (h : 0 < n) : 0 ≤ belF nums u n ∧ belF nums u n < n := ⟨Int.emod_nonneg _ (by omega), Int.emod_lt_of_pos _ h⟩
theorem wrap_u64n {n : Int} (h : 0 < n) (h2 : n ≤ 9223372036854775807) : IntKind.u64.wrap n = n := by simp [IntKind.wrap, IntKind.signed, IntKind.bits]; omega
theorem belF_wrap (nums : List Int) (u : Nat) (n : Int) (h : 0 < n) (h2 : n ≤ 9223372036854775807) : IntKind.i64.wrap (Int.tmod (IntKind.u64.wrap (nums.getD u 0)) (IntKind.u64.wrap n)) = belF nums u n := by
 have e1 : IntKind.u64.wrap n = n := by simp [IntKind.wrap, IntKind.signed, IntKind.bits]; omega
 have h0 : 0 ≤ IntKind.u64.wrap (nums.getD u 0) := by simp [IntKind.wrap, IntKind.signed, IntKind.bits]; omega
 have h3 := belF_lt nums u n h
 rw [e1, Int.tmod_eq_emod_of_nonneg h0]
 show IntKind.i64.wrap (belF nums u n) = belF nums u n
 rw [wrap64_in (by omega) (by omega)]
theorem below_any (S D : Nat → Prop) (w0 w : World) (H : List Ent) (q : Nat) (A : Option Addr) (len c : Nat) (nums : List Int) (u : Nat) (n : Int) (hI : Inv S w0 w (tapeE q (.slice A len c) u :: H)) (hN : Ints w0 D (.slice A len c) nums) (hD : ∀ k, D k → ¬ S k) (hn : 0 < n) (hn2 : n ≤ 9223372036854775807) (hu : u < 9223372036854775807) :
  Cq 34 #[at0 q, .int .i64 n] w fun e w' => e = .returned (.int .i64 (belF nums u n)) ∧ Inv S w0 w' (tapeE q (.slice A len c) (u + 1) :: H) := by
 unfold tapeE at hI
 have hlen : len = nums.length := by
  obtain ⟨A', c', hv, _⟩ := hN
  injection hv
 refine Vn func34 rfl ?_
 refine Wq (Vc rfl (Wn (Ws (Wq (V9 rfl ?_)))))
 refine Wv rfl (rPtrEq rfl underlying54 rfl rfl) ?_
 refine V6 rfl (V0 rfl ?_)
 refine Wv rfl (by exact rLeqF rfl rfl rfl (by omega)) ?_
 refine Ve rfl (Wn (Wc false rfl (Wk (Wq (Vc rfl (Wn ?_))))))
 have hcell : u < len → ∃ b o, A = some ⟨b, o, none⟩ ∧ D b ∧ w0.cell? ⟨b, o + u, none⟩ = some (.int .i64 (nums.getD u 0)) := fun h => by
  obtain ⟨b, o, hA, hb, _, hc⟩ := hN.get (k := u) (by omega)
  refine ⟨b, o, hA, hb, ?_⟩
  rw [hc, List.getD_eq_getElem?_getD, List.getElem?_eq_getElem (by omega)]
  rfl
 have hfin : ∀ (x : Int) (w : World), Inv S w0 w (B q 57 #[.slice A len c, .int .i64 (u : Int)] :: H) → True := fun _ _ _ => trivial
 by_cases hlt : u < len
 ·obtain ⟨b, o, rfl, hb, hc⟩ := hcell hlt
  refine Ws (Ws (Wd (by kernel_rfl) ?_))
  refine Wi (T := []) hI.drew ?_
  intro Sx hY hZ
  have hI := hI.drew
  refine Vl 0 rfl (Vm 1 rfl (Vf 2 1 rfl (Vd 3 (.int .i64 _) rfl (fun W hW => (hY W hW).c0 rfl) (Vl 4 rfl (Vm 5 rfl (Vf 6 0 rfl (Vd 7 (.slice _ _ _) rfl (fun W hW => (hY W hW).c0 rfl) (Ui 8 rfl yy26 rfl ?_))))))))
  refine Wt 9 rfl (fun W hW => have hI := hY W hW; (by exact rLssT rfl rfl rfl (by omega))) ?_
  refine We (by kernel_rfl) (Wc true rfl (Wd (by kernel_rfl) ?_))
  refine Wi (T := []) hI.drew ?_
  intro Sx hY hZ
  have hI := hI.drew
  refine Vl 0 rfl (Vm 1 rfl (Vf 2 0 rfl (Vd 3 (.slice _ _ _) rfl (fun W hW => (hY W hW).c0 rfl) (Vl 4 rfl (Vm 5 rfl (Vf 6 1 rfl (Vd 7 (.int .i64 _) rfl (fun W hW => (hY W hW).c0 rfl) ?_)))))))
  refine Wt 8 rfl (fun W hW => have hI := hY W hW; (rIdx1 (i := u) rfl yy26 (by kernel_rfl) rfl rfl (by omega))) ?_
  refine Vd 9 (.int .i64 _) rfl (fun W hW => have hI := hY W hW; hI.old hc (hD b hb)) (Ty 10 rfl (We (by kernel_rfl) (Wq (V9 rfl (Vb rfl (V7 1 rfl (V5 (.int .i64 _) rfl (hI.c0 rfl) (Vv rfl (Vb rfl (V7 1 rfl (Ue (.int .i64 _) hI rfl ?_)))))))))))
  intro w hI
  refine Wn (Wq (V0 rfl ?_))
  refine Wv rfl (rConvW rfl yy3 yy185 rfl) ?_
  refine V0 rfl ?_
  refine Wv rfl (rConvW rfl yy3 yy185 rfl) ?_
  refine Wv rfl (rRemW rfl rfl rfl (by rw [wrap_u64n hn hn2]; omega)) ?_
  refine Wv rfl (rConvW rfl yy185 yy3 rfl) ?_
  refine Vc rfl (Wn ?_)
  refine WR ?_
  refine r1_ 4 rfl ⟨?_, hI⟩
  rw [← belF_wrap nums u n hn hn2]
  rfl
 refine Ws (Ws (Wd (by kernel_rfl) ?_))
 refine Wi (T := []) hI.drew ?_
 intro Sx hY hZ
 have hI := hI.drew
 refine Vl 0 rfl (Vm 1 rfl (Vf 2 1 rfl (Vd 3 (.int .i64 _) rfl (fun W hW => (hY W hW).c0 rfl) (Vl 4 rfl (Vm 5 rfl (Vf 6 0 rfl (Vd 7 (.slice _ _ _) rfl (fun W hW => (hY W hW).c0 rfl) (Ui 8 rfl yy26 rfl ?_))))))))
 refine Wt 9 rfl (fun W hW => have hI := hY W hW; (by exact rLssF rfl rfl rfl (by omega))) ?_
 refine We (by kernel_rfl) (Wc false rfl (Wk (Wq (V9 rfl (Vb rfl (V7 1 rfl (V5 (.int .i64 _) rfl (hI.c0 rfl) (Vv rfl (Vb rfl (V7 1 rfl (Ue (.int .i64 _) hI rfl ?_)))))))))))
 intro w hI
 refine Wn (Wq (V0 rfl ?_))
 refine Wv rfl (rConvW rfl yy3 yy185 rfl) ?_
 refine V0 rfl ?_
 refine Wv rfl (rConvW rfl yy3 yy185 rfl) ?_
 refine Wv rfl (rRemW rfl rfl rfl (by rw [wrap_u64n hn hn2]; omega)) ?_
 refine Wv rfl (rConvW rfl yy185 yy3 rfl) ?_
 refine Vc rfl (Wn ?_)
 refine WR ?_
 refine r1_ 4 rfl ⟨?_, hI⟩
 rw [← belF_wrap nums u n hn hn2, List.getD_eq_getElem?_getD, List.getElem?_eq_none (by omega)]
 rfl
end Go.Proofs.YtlkobbighkiojaaGreatDoor
namespace Go.Proofs.YtlkobbighkiojaaGreatDoor
open Tryz
open Go
def singleB (c : UInt8) : Bool := c == 40 || c == 41 || c == 44
def flushT (cur : Tok) : List Tok := if cur = [] then [] else [cur]
def tg : Tok → List UInt8 → List Tok
 | cur, [] => flushT cur
 | cur, c :: cs => if singleB c then flushT cur ++ [c] :: tg [] cs else if c = 32 then flushT cur ++ tg [] cs else tg (cur ++ [c]) cs
def toks (bs : List UInt8) : List Tok := tg [] bs
theorem flushT_ne (cur : Tok) : ∀ t ∈ flushT cur, t ≠ [] := by
 unfold flushT
 split
 ·simp
 intro t ht; rw [List.mem_singleton] at ht; subst ht; assumption
theorem tg_ne : ∀ (bs : List UInt8) (cur : Tok), ∀ t ∈ tg cur bs, t ≠ []
 | [], cur => flushT_ne cur
 | c :: cs, cur => by
  unfold tg
  split
  ·intro t ht
   rcases List.mem_append.1 ht with h | h
   ·exact flushT_ne _ t h
   rcases List.mem_cons.1 h with rfl | h
   ·simp; try omega
   exact tg_ne cs [] t h
  split
  ·intro t ht
   rcases List.mem_append.1 ht with h | h
   ·exact flushT_ne _ t h
   exact tg_ne cs [] t h
  exact tg_ne cs _
theorem tg_len : ∀ (bs : List UInt8) (cur : Tok), (tg cur bs).length ≤ bs.length + (flushT cur).length
 | [], cur => by simp [tg]
 | c :: cs, cur => by
  have h0 := tg_len cs []
  have h1 := tg_len cs (cur ++ [c])
  have e0 : (flushT []).length = 0 := rfl
  have e1 : (flushT (cur ++ [c])).length = 1 := by simp [flushT]
  have e2 : (flushT cur).length ≤ 1 := by unfold flushT; split <;> simp
  have e3 : (cur ++ [c]).length = cur.length + 1 := by simp
  unfold tg
  split
  ·simp only [List.length_append, List.length_cons]; omega
  split
  ·simp only [List.length_append, List.length_cons]; omega
  simp only [List.length_cons]
  by_cases hc : cur = []
  ·subst hc
   omega
  have : (flushT cur).length = 1 := by simp [flushT, hc]
  omega
theorem toks_len (bs : List UInt8) : (toks bs).length ≤ bs.length := tg_len bs []
theorem flushT_tok {cur t : Tok} (h : t ∈ flushT cur) : t = cur := by
 unfold flushT at h
 split at h
 ·cases h
 rwa [List.mem_singleton] at h
theorem tg_tok : ∀ (bs : List UInt8) (cur : Tok), ∀ t ∈ tg cur bs, t.length ≤ cur.length + bs.length
 | [], cur, t, h => by rw [flushT_tok h]; simp
 | c :: cs, cur, t, h => by
  unfold tg at h
  simp only [List.length_cons]
  split at h
  ·rcases List.mem_append.1 h with h | h
   ·rw [flushT_tok h]; omega
   rcases List.mem_cons.1 h with rfl | h
   ·simp; try omega
   have := tg_tok cs [] t h
   simp only [List.length_nil] at this
   omega
  split at h
  ·rcases List.mem_append.1 h with h | h
   ·rw [flushT_tok h]; omega
   have := tg_tok cs [] t h
   simp only [List.length_nil] at this
   omega
  have := tg_tok cs _ t h
  simp only [List.length_append, List.length_singleton] at this
  omega
theorem toks_tok (bs : List UInt8) : ∀ t ∈ toks bs, t.length ≤ bs.length := fun t h => by have := tg_tok bs [] t h; simpa using this
def headT : List Tok → Tok
 | [] => []
 | t :: _ => t
theorem numT_head (a b : Int) (l : List Tok) : numT a b l = (gnumF (headT l) a b).map fun n => (n, l.tail) := by
 cases l with
 | nil => rfl
 | cons t l => rfl
theorem numF_ok {t : Tok} {a b n : Int} : gnumF t a b = some n ↔ Lib.atoiAll t = .ok n ∧ Lib.itoa n = t ∧ a ≤ n ∧ n ≤ b := by
 unfold gnumF
 constructor
 ·intro h
  split at h
  ·rename_i m hm
   split at h
   ·rename_i hh; cases h; exact ⟨hm, hh⟩
   cases h
  cases h
 rintro ⟨h1, h2⟩
 rw [h1]
 simp only
 rw [if_pos h2]
theorem numT_pre {a b : Int} {s r : List Tok} {n : Int} (h : numT a b s = some (n, r)) : a ≤ n ∧ n ≤ b ∧ r.length + 1 = s.length ∧ ∀ x, numT a b (s ++ x) = some (n, r ++ x) := by
 cases s with
 | nil => simp [numT] at h
 | cons t s =>
  simp only [numT, Option.map_eq_some_iff, Prod.mk.injEq] at h
  obtain ⟨m, hm, rfl, rfl⟩ := h
  have hb : a ≤ m ∧ m ≤ b := by
   unfold gnumF at hm
   split at hm
   ·split at hm
    ·rename_i hh; cases hm; exact hh.2
    cases hm
   cases hm
  refine ⟨hb.1, hb.2, by simp, fun x => ?_⟩
  simp [numT, hm]
def PreOk (p : List Tok → Option (Ge × List Tok)) : Prop := ∀ s g r, p s = some (g, r) → g.sz + r.length ≤ s.length ∧ ∀ x, p (s ++ x) = some (g, r ++ x)
theorem sz_pos (g : Ge) : 0 < g.sz := by cases g <;> simp only [Ge.sz] <;> omega
theorem pS_pre {p : List Tok → Option (Ge × List Tok)} (hp : PreOk p) : ∀ {n m : Nat} {s : List Tok} {l r}, n ≤ m → pS p n s = some (l, r) → szL l + r.length ≤ s.length ∧ ∀ x, pS p m (s ++ x) = some (l, r ++ x)
 | 0, _, _, _, _, _, h => by simp [pS] at h
 | n + 1, 0, _, _, _, h, _ => by omega
 | n + 1, m + 1, s, l, r, hnm, h => by
  simp only [pS] at h
  cases hs : p s with
  | none => rw [hs] at h; cases h
  | some q =>
   rw [hs] at h
   obtain ⟨g, s'⟩ := q
   obtain ⟨hl, hx⟩ := hp s g s' hs
   cases s' with
   | nil => cases h
   | cons t s' =>
    simp only at h
    simp only [List.length_cons] at hl
    by_cases h1 : t = tShut
    ·rw [if_pos h1] at h
     cases h
     refine ⟨by simp only [szL]; omega, fun x => ?_⟩
     simp only [pS, hx x, List.cons_append, if_pos h1]
    rw [if_neg h1] at h
    by_cases h2 : t = tComma
    ·rw [if_pos h2, Option.map_eq_some_iff] at h
     obtain ⟨q, hq, he⟩ := h
     cases he
     obtain ⟨hl2, hx2⟩ := pS_pre hp (m := m) (by omega) (show pS p n s' = some (q.1, q.2) from hq)
     refine ⟨by simp only [szL]; omega, fun x => ?_⟩
     simp only [pS, hx x, List.cons_append, if_neg h1, if_pos h2, hx2 x, Option.map_some]
    rw [if_neg h2] at h; cases h
theorem pV_pre {p : List Tok → Option (Ge × List Tok)} (hp : PreOk p) {s : List Tok} {l r} (h : pV p s = some (l, r)) : szL l + r.length + 1 ≤ s.length ∧ ∀ x, pV p (s ++ x) = some (l, r ++ x) := by
 cases s with
 | nil => simp [pV] at h
 | cons t s =>
  simp only [pV] at h
  by_cases h1 : t = tOpen
  ·rw [if_pos h1] at h
   have h2 := pS_pre hp (Nat.le_refl _) h
   refine ⟨by simp only [List.length_cons]; omega, fun x => ?_⟩
   have h3 := (pS_pre hp (m := (s ++ x).length) (by simp) h).2 x
   simp only [pV, List.cons_append, if_pos h1, h3]
  rw [if_neg h1] at h; cases h
theorem pW_pre {s : List Tok} {g : Ge} {r : List Tok} (h : pW s = some (g, r)) : (∃ k l t, g = .wr k l t ∧ 0 ≤ k ∧ k ≤ 7 ∧ -1000000 ≤ l ∧ l ≤ t ∧ t ≤ 1000000) ∧ g.sz + r.length ≤ s.length ∧ ∀ x, pW (s ++ x) = some (g, r ++ x) := by
 unfold pW at h ⊢
 cases h1 : numT 0 7 s with
 | none => rw [h1] at h; cases h
 | some q1 =>
  obtain ⟨k, s1⟩ := q1
  rw [h1] at h
  simp only at h
  cases h2 : numT (-1000000) 1000000 s1 with
  | none => rw [h2] at h; cases h
  | some q2 =>
   obtain ⟨l, s2⟩ := q2
   rw [h2] at h
   simp only at h
   cases h3 : numT l 1000000 s2 with
   | none => rw [h3] at h; cases h
   | some q3 =>
    obtain ⟨t, s3⟩ := q3
    rw [h3] at h
    cases h
    obtain ⟨a1, b1, c1, d1⟩ := numT_pre h1
    obtain ⟨a2, b2, c2, d2⟩ := numT_pre h2
    obtain ⟨a3, b3, c3, d3⟩ := numT_pre h3
    refine ⟨⟨k, l, t, rfl, a1, b1, a2, a3, b3⟩, by simp only [Ge.sz]; omega, fun x => ?_⟩
    rw [d1 x]; simp only
    rw [d2 x]; simp only
    rw [d3 x]
theorem pG_pre : ∀ (k : Nat), PreOk (pG k)
 | 0 => fun s g r h => by simp [pG] at h
 | k + 1 => fun s g r h => by
  have ih := pG_pre k
  cases s with
  | nil => simp [pG] at h
  | cons t s =>
   simp only [pG, List.cons_append, List.length_cons] at h ⊢
   by_cases h1 : t = tRead
   ·simp only [if_pos h1] at h ⊢
    rw [Option.map_eq_some_iff] at h
    obtain ⟨⟨n, s1⟩, hn, he⟩ := h
    cases he
    obtain ⟨_, _, c1, d1⟩ := numT_pre hn
    exact ⟨by simp only [Ge.sz]; omega, fun x => by rw [d1 x]; rfl⟩
   simp only [if_neg h1] at h ⊢
   by_cases h2 : t = tWrite
   ·simp only [if_pos h2] at h ⊢
    obtain ⟨_, b, c⟩ := pW_pre h
    exact ⟨by omega, c⟩
   simp only [if_neg h2] at h ⊢
   by_cases h3 : t = tLimit
   ·simp only [if_pos h3] at h ⊢
    cases hn : numT 0 1000 s with
    | none => rw [hn] at h; cases h
    | some q =>
     obtain ⟨n, s1⟩ := q
     rw [hn] at h
     simp only [Option.map_eq_some_iff] at h
     obtain ⟨⟨g1, s2⟩, hg, he⟩ := h
     cases he
     obtain ⟨_, _, c1, d1⟩ := numT_pre hn
     obtain ⟨hl, hx⟩ := ih _ _ _ hg
     refine ⟨by simp only [Ge.sz]; omega, fun x => ?_⟩
     rw [d1 x]
     simp only [hx x, Option.map_some]
   simp only [if_neg h3] at h ⊢
   by_cases h4 : t = tMix
   ·simp only [if_pos h4] at h ⊢
    rw [Option.map_eq_some_iff] at h
    obtain ⟨⟨l, s1⟩, hv, he⟩ := h
    cases he
    obtain ⟨hl, hx⟩ := pV_pre ih hv
    exact ⟨by simp only [Ge.sz]; omega, fun x => by rw [hx x]; rfl⟩
   simp only [if_neg h4] at h ⊢
   by_cases h5 : t = tThen
   ·simp only [if_pos h5] at h ⊢
    rw [Option.map_eq_some_iff] at h
    obtain ⟨⟨l, s1⟩, hv, he⟩ := h
    cases he
    obtain ⟨hl, hx⟩ := pV_pre ih hv
    exact ⟨by simp only [Ge.sz]; omega, fun x => by rw [hx x]; rfl⟩
   rw [if_neg h5] at h
   cases h
def parsed (bs : List UInt8) : Option Ge := match pG 20 (toks bs) with
 | some (g, []) => some g
 | _ => none
theorem parsed_sz {bs : List UInt8} {g : Ge} (h : parsed bs = some g) : g.sz ≤ bs.length := by
 unfold parsed at h
 cases hx : pG 20 (toks bs) with
 | none => rw [hx] at h; cases h
 | some q =>
  obtain ⟨g1, r⟩ := q
  rw [hx] at h
  cases r with
  | cons => cases h
  | nil =>
   cases h
   have h1 := (pG_pre 20 _ _ _ hx).1
   have := toks_len bs
   omega
open Go.RowKit
structure NumG (w : World) : Prop where
 syn : ∃ tp p, w.var? prog "strconv.ErrSyntax" = some #[.iface tp p]
 rng : ∃ tp p, w.var? prog "strconv.ErrRange" = some #[.iface tp p]
 tab : Lib.TabIs prog w "internal/strconv.uint64pow10" .u64 Lib.pow10Tab
def NoG (S : Nat → Prop) : Prop := ¬ S 6 ∧ ¬ S 7 ∧ ¬ S 5
theorem gsynN : prog.globalNamed "strconv.ErrSyntax" = some 6 := by kernel_rfl
theorem grngN : prog.globalNamed "strconv.ErrRange" = some 7 := by kernel_rfl
theorem gpowN : prog.globalNamed "internal/strconv.uint64pow10" = some 5 := by kernel_rfl
theorem var_keep {S : Nat → Prop} {w w' : World} {name : String} {g : Nat} {cs : Array Value} (hg : prog.globalNamed name = some g) (hc : Chg S w w') (hS : ¬ S g) (h : w.var? prog name = some cs) : w'.var? prog name = some cs := by
 unfold World.var? at h ⊢
 rw [hg, Option.bind_some] at h ⊢
 have hlt : g < w.heap.size := by
  refine Nat.lt_of_not_le fun hn => ?_
  rw [Array.getElem?_eq_none hn] at h
  cases h
 rw [hc.block g hlt hS]
 exact h
theorem NumG.chg {S : Nat → Prop} {w w' : World} (h : NumG w) (hc : Chg S w w') (hS : NoG S) : NumG w' := by
 obtain ⟨⟨t1, p1, h1⟩, ⟨t2, p2, h2⟩, h3⟩ := h
 exact ⟨⟨t1, p1, var_keep gsynN hc hS.1 h1⟩, ⟨t2, p2, var_keep grngN hc hS.2.1 h2⟩, var_keep gpowN hc hS.2.2 h3⟩
theorem NoG.none : NoG (fun _ => False) := ⟨id, id, id⟩
def atoiPost (t : Tok) (w : World) (e : Ending) (w' : World) : Prop := (match Lib.atoiAll t with
 | .ok n => e = .returned (.tuple #[.int .i64 n, .nilIface]) ∧ -9223372036854775808 ≤ n ∧ n ≤ 9223372036854775807
 | _ => ∃ n T u, e = .returned (.tuple #[.int .i64 n, .iface T u])) ∧ Pure w w'
theorem atoi_any (t : Tok) (ht : t.length ≤ 1000000) (w : World) (hG : NumG w) : Cq 66 #[strV t] w (atoiPost t w) := by
 have hs : (⟨t.toArray⟩ : ByteArray).size = t.length := str_size t
 unfold atoiPost
 cases h : Lib.atoiAll t
 ·rename_i n
  refine (Any.strconv_Atoi_ok laysC172 ⟨t.toArray⟩ (by omega) n h w).mono ?_
  rintro e w' ⟨rfl, hw⟩
  refine ⟨⟨rfl, by have := Lib.atoiAll_bounds h; omega⟩, ?_⟩
  rcases hw with rfl | ⟨x, rfl⟩
  ·exact Pure.refl _
  exact Lib.bytesWorld_below _ _ _
 ·obtain ⟨tp, p, hv⟩ := hG.syn
  refine (Any.strconv_Atoi_syntax_var laysC172 ⟨t.toArray⟩ (by omega) h tp p w hv).mono ?_
  rintro e w' ⟨N, rfl, -, -, hb⟩
  exact ⟨⟨_, _, _, rfl⟩, hb⟩
 obtain ⟨tp, p, hv⟩ := hG.rng
 refine (Any.strconv_Atoi_range_var laysC172 ⟨t.toArray⟩ (by omega) h tp p w hv).mono ?_
 rintro e w' ⟨N, rfl, -, -, hb⟩
 exact ⟨⟨_, _, _, rfl⟩, hb⟩
theorem itoa_any (n : Int) (h1 : -9223372036854775808 ≤ n) (h2 : n ≤ 9223372036854775807) (w : World) (hG : NumG w) : Cq 22 #[.int .i64 n] w fun e w' => e = .returned (strV (Lib.itoa n)) ∧ Pure w w' := by
 refine (Any.strconv_Itoa laysM171 n h1 h2 w hG.tab).mono ?_
 rintro e w' ⟨rfl, k, os, rfl⟩
 refine ⟨rfl, ⟨rfl, rfl, rfl, ?_, fun j hj => ?_⟩⟩
 ·show w.heap.size ≤ (w.heap ++ os).size
  rw [Array.size_append]; omega
 show (w.heap ++ os)[j]? = w.heap[j]?
 rw [Array.getElem?_append_left hj]
end Go.Proofs.YtlkobbighkiojaaGreatDoor
namespace Go.Proofs
open Go.Shelf
def Tryz.lays166_ren : Go.Shelf.Ren := ⟨fun | 166 => 54 | 240 => 98 | 276 => 142 | n => n, fun | 0 => 0 | 3 => 3 | 4 => 4 | 5 => 5 | 9 => 9 | 20 => 20 | 37 => 133 | 70 => 132 | 72 => 135 | 75 => 34 | 80 => 138 | 164 => 258 | n => n, fun | n => n⟩
theorem Tryz.lays166 : Go.Proofs.Lays.n166 Tryz.prog Tryz.lays166_ren := {
 mixed := by kernel_rfl
 f166 := Tryz.func54.trans (congrArg some (by kernel_rfl))
 f240 := Tryz.func98.trans (congrArg some (by kernel_rfl))
 f276 := Tryz.func142.trans (congrArg some (by kernel_rfl))
 t0 := Tryz.underlying0
 a0 := Tryz.isAgg0
 z0 := Tryz.sizeOf0
 v0 := Tryz.zeroValue0
 t3 := Tryz.underlying3
 a3 := Tryz.isAgg3
 z3 := Tryz.sizeOf3
 v3 := Tryz.zeroValue3
 t4 := Tryz.underlying4
 a4 := Tryz.isAgg4
 z4 := Tryz.sizeOf4
 v4 := Tryz.zeroValue4
 t9 := Tryz.underlying9
 a9 := Tryz.isAgg9
 z9 := Tryz.sizeOf9
 v9 := Tryz.zeroValue9
 t20 := Tryz.underlying20
 a20 := Tryz.isAgg20
 z20 := Tryz.sizeOf20
 v20 := Tryz.zeroValue20
 t37 := Tryz.underlying133
 a37 := Tryz.isAgg133
 z37 := Tryz.sizeOf133
 v37 := Tryz.zeroValue133
 t70 := Tryz.underlying132
 a70 := Tryz.isAgg132
 z70 := Tryz.sizeOf132
 v70 := Tryz.zeroValue132
 t72 := Tryz.underlying135
 a72 := Tryz.isAgg135
 z72 := Tryz.sizeOf135
 v72 := Tryz.zeroValue135
 t75 := Tryz.underlying34
 a75 := Tryz.isAgg34
 z75 := Tryz.sizeOf34
 v75 := Tryz.zeroValue34
 t164 := Tryz.underlying258
 a164 := Tryz.isAgg258
 z164 := Tryz.sizeOf258
 v164 := Tryz.zeroValue258 }
end Go.Proofs
namespace Go.Proofs.YtlkobbighkiojaaGreatDoor
open Tryz
def knowsF (o k : Int) : Bool := (o == 1 && (k == 1 || k == 2 || k == 3)) || (o == 2 && (k == 4 || k == 5)) || (o == 3 && (k == 6 || k == 7 || k == 8)) || (o == 4 && (k == 9 || k == 10)) || (o == 5 && (k == 9 || k == 10)) || (o == 6 && (k == 11 || k == 12))
def singleF (o : Int) : Bool := o == 1 || o == 2 || o == 6
def startF (o : Int) : List Int := if singleF o then [0] else []
def oneF (b : Bool) : Int := if b then 1 else 0
def posF (l : List Int) (a : Int) : Nat := (l.filter (· < a)).length
def insF (l : List Int) (a : Int) : List Int := l.take (posF l a) ++ a :: l.drop (posF l a)
def delF (l : List Int) (a : Int) : List Int := l.take (posF l a) ++ l.drop (posF l a + 1)
def regF (n k a b : Int) : Int × Int := if k = 1 then (n, n) else if k = 2 then (a, 0) else if n = a then (b, 1) else (n, 0)
def setF (l : List Int) (k a : Int) : List Int × Int := if k = 6 ∧ a ∉ l then (insF l a, 1) else if k = 7 ∧ a ∈ l then (delF l a, 1) else (l, oneF (decide (k = 8 ∧ a ∈ l)))
def lineF (o : Int) (l : List Int) (k a : Int) : List Int × Int := if k = 9 then (l ++ [a], 0) else if l = [] then (l, -1) else if o = 4 then (l.drop 1, l.getD 0 0) else (l.take (l.length - 1), l.getD (l.length - 1) 0)
def stepF (o : Int) (st : List Int) (k a b : Int) : Option (List Int × Int) :=
 if knowsF o k = false ∨ (singleF o = true ∧ st.length ≠ 1) then none else
 if o = 1 then some ([(regF (st.getD 0 0) k a b).1], (regF (st.getD 0 0) k a b).2) else
 if o = 2 then some ([if k = 4 then IntKind.i64.wrap (st.getD 0 0 + a) else st.getD 0 0], if k = 4 then IntKind.i64.wrap (st.getD 0 0 + a) else st.getD 0 0) else
 if o = 3 then some (setF st k a) else
 if o = 6 then (if st.getD 0 0 = oneF (k == 12) then some ([oneF (k == 11)], 0) else none) else
 some (lineF o st k a)
def okSt (o : Int) (st : List Int) : Prop := o = 3 → st.Pairwise (· < ·)
theorem okSt_start (o : Int) : okSt o (startF o) := by
 intro h
 subst h
 simp [startF, singleF]
theorem posF_le (l : List Int) (a : Int) : posF l a ≤ l.length := List.length_filter_le ..
theorem posF_split : ∀ (l : List Int) (a : Int), l.Pairwise (· < ·) → (∀ x ∈ l.take (posF l a), x < a) ∧ (∀ x ∈ l.drop (posF l a), a ≤ x)
 | [], a, _ => by simp
 | x :: l, a, h => by
  have hp := List.pairwise_cons.1 h
  by_cases hx : x < a
  ·have e : posF (x :: l) a = posF l a + 1 := by simp [posF, hx]
   obtain ⟨h1, h2⟩ := posF_split l a hp.2
   rw [e, List.take_succ_cons, List.drop_succ_cons]
   refine ⟨fun y hy => ?_, h2⟩
   rcases List.mem_cons.1 hy with rfl | hy
   ·exact hx
   exact h1 y hy
  have e : posF (x :: l) a = 0 := by
   unfold posF
   rw [List.length_eq_zero_iff, List.filter_eq_nil_iff]
   intro y hy
   rcases List.mem_cons.1 hy with rfl | hy
   ·simpa using hx
   have := hp.1 y hy
   simp; omega
  rw [e, List.take_zero, List.drop_zero]
  refine ⟨fun y hy => by simp at hy, fun y hy => ?_⟩
  rcases List.mem_cons.1 hy with rfl | hy
  ·omega
  have := hp.1 y hy; omega
theorem insF_sorted {l : List Int} {a : Int} (h : l.Pairwise (· < ·)) (hn : a ∉ l) : (insF l a).Pairwise (· < ·) := by
 obtain ⟨h1, h2⟩ := posF_split l a h
 unfold insF
 have hs : (l.take (posF l a) ++ l.drop (posF l a)).Pairwise (· < ·) := by rw [List.take_append_drop]; exact h
 obtain ⟨p1, p2, p3⟩ := List.pairwise_append.1 hs
 refine List.pairwise_append.2 ⟨p1, List.pairwise_cons.2 ⟨fun x hx => ?_, p2⟩, fun x hx y hy => ?_⟩
 ·have e1 := h2 x hx
  have e2 : a ≠ x := fun e => hn (e ▸ List.mem_of_mem_drop hx)
  omega
 rcases List.mem_cons.1 hy with rfl | hy
 ·exact h1 x hx
 exact p3 x hx y hy
theorem delF_sorted {l : List Int} {a : Int} (h : l.Pairwise (· < ·)) : (delF l a).Pairwise (· < ·) := by
 unfold delF
 have : (l.take (posF l a) ++ l.drop (posF l a + 1)).Sublist l := by
  have e : l = l.take (posF l a) ++ l.drop (posF l a) := (List.take_append_drop ..).symm
  have hs : (l.drop (posF l a + 1)).Sublist (l.drop (posF l a)) := by
   rw [← List.drop_drop]
   exact List.drop_sublist ..
  conv => rhs; rw [e]
  exact (List.Sublist.refl _).append hs
 exact h.sublist this
theorem stepF_ok {o : Int} {st st' : List Int} {k a b r : Int} (h : stepF o st k a b = some (st', r)) (hs : okSt o st) : okSt o st' := by
 intro ho
 subst ho
 have hst := hs rfl
 unfold stepF at h
 simp [singleF] at h
 obtain ⟨_, h⟩ := h
 unfold setF at h
 split at h
 ·rename_i hk
  injection h with h1 _
  subst h1
  exact insF_sorted hst hk.2
 split at h
 ·injection h with h1 _
  subst h1
  exact delF_sorted hst
 injection h with h1 _
 subst h1
 exact hst
structure Op8 where
 proc : Int
 key : Int
 kind : Int
 a : Int
 b : Int
 res : Int
 call : Int
 ret : Int
deriving DecidableEq
def opV (o : Op8) : List Value := [.int .i64 o.proc, .int .i64 o.key, .int .i64 o.kind, .int .i64 o.a, .int .i64 o.b, .int .i64 o.res, .int .i64 o.call, .int .i64 o.ret]
def oAt (l : List Op8) (k : Nat) : Op8 := l.getD k ⟨0, 0, 0, 0, 0, 0, 0, 0⟩
theorem stepF_len {o : Int} {st st' : List Int} {k a b r : Int} (h : stepF o st k a b = some (st', r)) : st'.length ≤ st.length + 1 := by
 unfold stepF at h
 split at h
 ·cases h
 split at h
 ·injection h with h; injection h with h1 _; subst h1; simp
 split at h
 ·injection h with h; injection h with h1 _; subst h1; simp
 split at h
 ·injection h with h
  have h1 : (setF st k a).1 = st' := by rw [h]
  subst h1
  have := posF_le st a
  unfold setF
  split
  ·simp [insF]; omega
  split
  ·simp [delF]; omega
  simp
 split at h
 ·split at h
  ·injection h with h; injection h with h1 _; subst h1; simp
  cases h
 injection h with h
 have h1 : (lineF o st k a).1 = st' := by rw [h]
 subst h1
 unfold lineF
 split
 ·simp
 split
 ·simp
 split
 ·simp; omega
 simp; omega
theorem startF_len (o : Int) : (startF o).length ≤ 1 := by
 unfold startF
 split <;> simp
structure SeeS where
 ops : List Op8
 busy : Int → Option Nat
 lost : Int → Option Nat
 gone : List Bool
def updI (g : Int → Option Nat) (k : Int) (v : Option Nat) : Int → Option Nat := fun j => if j = k then v else g j
def newOp (e : Ev) (i : Nat) : Op8 := ⟨e.proc, e.key, e.kind, e.a, e.b, 0, i, -1⟩
def beginF (e : Ev) (i : Nat) (s : SeeS) : Option SeeS :=
 if s.busy e.proc ≠ none ∨ s.lost e.proc ≠ none then none else some ⟨s.ops ++ [newOp e i], updI s.busy e.proc (some s.ops.length), s.lost, s.gone ++ [false]⟩
def fitsOp (o : Op8) (e : Ev) : Prop := o.key = e.key ∧ o.kind = e.kind ∧ o.a = e.a ∧ o.b = e.b
instance (o : Op8) (e : Ev) : Decidable (fitsOp o e) := by unfold fitsOp; infer_instance
def endOp (o : Op8) (e : Ev) (i : Nat) : Op8 := { o with res := e.res, ret := i }
def endF (e : Ev) (i : Nat) (s : SeeS) : Option SeeS := match s.busy e.proc with
 | none => none
 | some n => if fitsOp (oAt s.ops n) e then some ⟨if e.ty = 2 then s.ops.set n (endOp (oAt s.ops n) e i) else s.ops, updI s.busy e.proc none, if e.ty = 4 then updI s.lost e.proc (some i) else s.lost, if e.ty = 3 then s.gone.set n true else s.gone⟩ else none
def stepE (e : Ev) (i : Nat) (s : SeeS) : Option SeeS := if evOkB e = true then (if e.ty = 1 then beginF e i s else endF e i s) else none
def runE : List Ev → Nat → SeeS → Option SeeS
 | [], _, s => some s
 | e :: r, i, s => (stepE e i s).bind (runE r (i + 1))
def initE : SeeS := ⟨[], fun _ => none, fun _ => none, []⟩
def keptF (s : SeeS) (k : Nat) : List Nat := (List.range k).filter fun n => !(s.gone.getD n false)
def outF (s : SeeS) : List Op8 := (keptF s s.ops.length).map (oAt s.ops)
def evF (l : List Ev) : Option (List Op8) := if l.length ≤ 120 then (runE l 0 initE).map outF else none
theorem keptF_succ (s : SeeS) (k : Nat) : keptF s (k + 1) = keptF s k ++ (if s.gone.getD k false = true then [] else [k]) := by
 unfold keptF
 rw [List.range_succ, List.filter_append]
 congr 1
 rw [List.filter_cons, List.filter_nil]
 cases s.gone.getD k false <;> rfl
theorem oAt_app_l {l r : List Op8} {k : Nat} (h : k < l.length) : oAt (l ++ r) k = oAt l k := by
 unfold oAt
 rw [List.getD_eq_getElem?_getD, List.getD_eq_getElem?_getD, List.getElem?_append_left h]
theorem oAt_app_r {l : List Op8} {x : Op8} : oAt (l ++ [x]) l.length = x := by
 unfold oAt
 rw [List.getD_eq_getElem?_getD, List.getElem?_append_right (Nat.le_refl _), Nat.sub_self]; rfl
theorem oAt_setE {l : List Op8} {k i : Nat} {x : Op8} (hk : k < l.length) : oAt (l.set k x) i = if k = i then x else oAt l i := by
 unfold oAt
 rw [List.getD_eq_getElem?_getD, List.getD_eq_getElem?_getD, List.getElem?_set]
 by_cases h : k = i
 ·subst h; simp [hk]
 rw [if_neg h, if_neg h]
open Go.RowKit
def IsErr (v : Value) : Prop := ∃ u, v = .iface 45 (.int .i64 u)
theorem ein_any (n lo hi : Int) (w : World) : Cq 90 #[.int .i64 n, .int .i64 lo, .int .i64 hi] w fun e w' => e = .returned (.bool (inB n lo hi)) ∧ w = w' := by
 have hI := Inv.start (fun _ => False) w
 refine Vn func90 rfl ?_
 refine Wq (V8 rfl (Wn ?_))
 by_cases h : lo ≤ n
 ·refine Wq (V0 rfl (V0 rfl (To rfl (V6 rfl (V0 rfl (V0 rfl ?_))))))
  refine Wv rfl (by exact rLeq rfl rfl rfl) ?_
  refine Vk rfl (V8 rfl (Wn ?_))
  refine WR ?_
  refine r1_ 6 rfl ⟨?_, rfl⟩
  show Ending.returned (.bool (decide (n ≤ hi))) = _
  simp [inB, h]
 refine Wq (V0 rfl (V0 rfl (U5 rfl (V6 rfl (V4 rfl (V4 rfl (V4 rfl (Ve rfl (V8 rfl (Wn ?_))))))))))
 refine WR ?_
 refine r1_ 6 rfl ⟨?_, rfl⟩
 show Ending.returned (.bool false) = _
 simp [inB, h]
theorem told_any (proc key : Int) (A : Option Addr) (n c : Nat) (l : List Int) (D : Nat → Prop) (w0 : World) (h : Ints w0 D (.slice A n c) l) (hl : l.length = n) (hn : n ≤ 1000) :
  Cq 89 #[.int .i64 proc, .int .i64 key, .slice A n c] w0 fun e w' => e = .returned (.bool (toldB proc key l)) ∧ w0 = w' := by
 have hI := Inv.start (fun _ => False) w0
 refine Vn func89 rfl ?_
 refine Wq (V8 rfl (Wn (Ws (Wq (Vi rfl (Vs rfl yy26 rfl (V0 rfl (Wn (Wb ?_)))))))))
 refine W_loop (fun ρ w => ∃ k : Nat, k ≤ n ∧ Has ρ [(11, .int .i64 k), (10, .int .i64 n), (9, .slice A n c), (0, .int .i64 proc), (1, .int .i64 key)] ∧ (∀ y ∈ l.take k, inB y (-1000000) 1000000 = true) ∧ w = w0) (fun ρ _ => n - cnt (ρ 11))
  ⟨0, by omega, ⟨rfl, rfl, rfl, rfl, rfl, trivial⟩, by simp, rfl⟩ ?_
 rintro ρ w ⟨k, hk, hH, hno, rfl⟩
 obtain ⟨σ, rfl⟩ := hH.open
 by_cases hkn : k < n
 ·obtain ⟨b, o, rfl, _, _, hc⟩ := h.get (k := k) (by omega)
  have hx : l[k]? = some l[k] := List.getElem?_eq_getElem (by omega)
  refine Wq (Vt rfl (Wn (Ws (Wc true rfl (Wk (Ws (Wb (Wq (U8 rfl yy26 rfl (V5 (.int .i64 _) rfl (hI.oldp hc) (Vc rfl ?_)))))))))))
  refine Wn (Wq (V0 rfl (Va [.int .i64 _, .int .i64 _, .int .i64 _] rfl func90 rfl ?_)))
  refine (ein_any _ _ _ _).mono ?_
  rintro e w1 ⟨rfl, rfl⟩
  refine rV ?_
  cases hb : inB l[k] (-1000000) 1000000 with
  | true =>
   refine T9 rfl (Wn (Wc false rfl (Wk (Wr (Vv rfl (V0 rfl (Wn ?_)))))))
   refine ⟨⟨k + 1, by omega, ⟨rfl, rfl, rfl, rfl, rfl, trivial⟩, fun y hy => ?_, rfl⟩, by show n - ((k + 1 : Nat) : Int).toNat < n - (k : Int).toNat; omega⟩
   rw [List.take_succ_eq_append_getElem (by omega)] at hy
   rcases List.mem_append.1 hy with hy | hy
   ·exact hno y hy
   rw [List.mem_singleton.1 hy]; exact hb
  | false =>
   refine Ti rfl (Wn (Wc true rfl (Wq (V8 rfl (Wn ?_)))))
   refine WR ?_
   refine r1_ 6 rfl ⟨?_, rfl⟩
   have hf : (l.all fun n => inB n (-1000000) 1000000) = false := by
    rw [List.all_eq_false]
    exact ⟨l[k], List.getElem_mem _, by simp [hb]⟩
   show Ending.returned (.bool false) = _
   simp [toldB, hf]
 refine Wq (Vr rfl (Wn (Ws (Wc false rfl ?_))))
 refine WE ?_
 have hall : (l.all fun n => inB n (-1000000) 1000000) = true := by
  rw [List.take_of_length_le (by omega)] at hno
  exact List.all_eq_true.2 hno
 have ht : toldB proc key l = (inB proc 0 7 && inB key 0 7) := by simp [toldB, hall]
 rw [ht]
 refine Wq (V0 rfl (Va [.int .i64 _, .int .i64 _, .int .i64 _] rfl func90 rfl ?_))
 refine (ein_any _ _ _ _).mono ?_
 rintro e w1 ⟨rfl, rfl⟩
 refine rV ?_
 cases hb : inB proc 0 7 with
 | true =>
  refine V6 rfl (V0 rfl (Va [.int .i64 _, .int .i64 _, .int .i64 _] rfl func90 rfl ?_))
  refine (ein_any _ _ _ _).mono ?_
  rintro e w1 ⟨rfl, rfl⟩
  refine rV ?_
  refine Vk rfl (V8 rfl (Wn ?_))
  exact WR (r1_ 6 rfl ⟨rfl, rfl⟩)
 | false =>
  refine V6 rfl (V4 rfl (V4 rfl (Ve rfl (V8 rfl (Wn ?_)))))
  exact WR (r1_ 6 rfl ⟨rfl, rfl⟩)
theorem ints_lit {w : World} {g T n : Nat} {l : List Int} {cs : Array Value} (hb : Blk w g T cs) (h : cs.toList = l.map (Value.int .i64)) (hn : l.length = n) (hle : n ≤ 1000) : Ints w (fun k => k < w.heap.size) (.slice (some ⟨g, 0, none⟩) n n) l := by
 subst hn
 exact ⟨_, _, rfl, Nat.le_refl _, by omega, by simp, fun _ => ⟨g, 0, rfl, hb.lt, fun j u hj => by rw [Nat.zero_add, hb.cell]; rw [← h] at hj; simpa using hj⟩⟩
def CheckPost (w : World) (e : Ev) (en : Ending) (w' : World) : Prop := Pure w w' ∧ ((evOkB e = true ∧ en = .returned .nilIface) ∨ (evOkB e = false ∧ ∃ x, IsErr x ∧ en = .returned x))
theorem check_any (e : Ev) (w0 : World) : Cq 43 #[.agg (evL e).toArray] w0 (CheckPost w0 e) := by
 obtain ⟨p, ty, ky, kd, a, b, r⟩ := e
 have hI := Inv.start (fun _ => False) w0
 refine Vn func43 rfl ?_
 refine Wq (Tb (.agg _) (#[_, _, _, _, _, _, _]) hI rfl ?_)
 rintro b1 w - - hI
 refine Vj rfl (Wn (Ws (Wb (Wq (V7 0 rfl (V5 (.int .i64 _) rfl (hI.c0 rfl) (V7 2 rfl (V5 (.int .i64 _) rfl (hI.c0 rfl) (V7 4 rfl (V5 (.int .i64 _) rfl (hI.c0 rfl) (V7 5 rfl (V5 (.int .i64 _) rfl (hI.c0 rfl) ?_))))))))))))
 refine V7 6 rfl (V5 (.int .i64 _) rfl (hI.c0 rfl) (T3 [(0, .int .i64 _), (1, .int .i64 _), (2, .int .i64 _)] [_, _, _] [.int .i64 0, .int .i64 0, .int .i64 0] [0, 1, 2] hI rfl yy26 (fun _ => by kernel_rfl) ?_))
 rintro b14 w - - hI
 refine Va [.int .i64 _, .int .i64 _, .slice _ _ _] rfl func89 rfl ?_
 refine (told_any p ky _ 3 3 [a, b, r] (fun k => k < w.heap.size) _ (ints_lit hI.g0 rfl rfl (by omega)) rfl (by omega)).mono ?_
 rintro en w1 ⟨rfl, rfl⟩
 refine rV ?_
 cases h1 : toldB p ky [a, b, r] with
 | false =>
  refine Ti rfl (V8 rfl (Wn (Wc true rfl (Wq (T6 rfl yy45 rfl (Vp rfl (Wn ?_)))))))
  exact WR (r1_ 2 rfl ⟨hI.pu, .inr ⟨by simp [evOkB, h1], _, ⟨_, rfl⟩, rfl⟩⟩)
 | true =>
  refine T9 rfl (V8 rfl (Wn (Wc false rfl ?_)))
  refine Wx (fun ρ w => Has ρ [(18, .bool (!(inB ty 1 4 && inB kd 1 12 && !(!decide (r = 0) && !decide (ty = 2)))))] ∧ Inv NF w0 w []) ?_ ?_
  ·refine Wq (V7 1 rfl (V5 (.int .i64 _) rfl (hI.c1 rfl) (Va [.int .i64 _, .int .i64 _, .int .i64 _] rfl func90 rfl ?_)))
   refine (ein_any _ _ _ _).mono ?_
   rintro en w1 ⟨rfl, rfl⟩
   refine rV ?_
   cases h2 : inB ty 1 4 with
   | false =>
    refine Ti rfl (V6 rfl (V4 rfl (V4 rfl (V4 rfl (V4 rfl (Vk rfl (V8 rfl (Wn (Wc true rfl (Wk ?_))))))))))
    exact ⟨⟨rfl, trivial⟩, hI.d0.d0⟩
   | true =>
    refine T9 rfl (V6 rfl (V7 3 rfl (V5 (.int .i64 _) rfl (hI.c1 rfl) (Va [.int .i64 _, .int .i64 _, .int .i64 _] rfl func90 rfl ?_))))
    refine (ein_any _ _ _ _).mono ?_
    rintro en w1 ⟨rfl, rfl⟩
    refine rV ?_
    cases h3 : inB kd 1 12 with
    | false =>
     refine Ti rfl (Ve rfl (V8 rfl (Wn (Wc true rfl (Wk ?_)))))
     exact ⟨⟨rfl, trivial⟩, hI.d0.d0⟩
    | true =>
     refine T9 rfl (Ve rfl (V8 rfl (Wn (Wc false rfl ?_))))
     by_cases hr : r = 0
     ·refine Wr (V7 6 rfl (V5 (.int .i64 _) rfl (hI.c1 rfl) (U2 rfl (V6 rfl (V4 rfl (V4 rfl (V4 rfl (Ve rfl (V8 rfl (Wn ?_))))))))))
      refine ⟨⟨?_, trivial⟩, hI.d0.d0⟩
      show Value.bool false = _
      simp [hr]
     refine Wr (V7 6 rfl (V5 (.int .i64 _) rfl (hI.c1 rfl) (U1 rfl (V6 rfl (V7 1 rfl (V5 (.int .i64 _) rfl (hI.c1 rfl) ?_))))))
     refine Wv rfl (by exact rNeq rfl rfl rfl) ?_
     refine Vk rfl (V8 rfl (Wn ?_))
     refine ⟨⟨?_, trivial⟩, hI.d0.d0⟩
     show Value.bool (!decide (ty = 2)) = _
     simp [hr]
  clear hI
  rintro ρ w ⟨hH, hI⟩
  obtain ⟨σ, rfl⟩ := hH.open
  have hall : evOkB ⟨p, ty, ky, kd, a, b, r⟩ = (inB ty 1 4 && inB kd 1 12 && !(!decide (r = 0) && !decide (ty = 2))) := by unfold evOkB; simp only [h1, Bool.true_and]
  cases hz : (inB ty 1 4 && inB kd 1 12 && !(!decide (r = 0) && !decide (ty = 2))) with
  | false =>
   refine Wc true rfl (Wq (T6 rfl yy45 rfl (Vp rfl (Wn ?_))))
   exact WR (r1_ 2 rfl ⟨hI.pu, .inr ⟨by rw [hall, hz], _, ⟨_, rfl⟩, rfl⟩⟩)
  | true =>
   refine Wc false rfl (Wk (Wq (Vj rfl (Wn ?_))))
   exact WR (r1_ 2 rfl ⟨hI.pu, .inl ⟨by rw [hall, hz], rfl⟩⟩)
end Go.Proofs.YtlkobbighkiojaaGreatDoor
namespace Go.Proofs.YtlkobbighkiojaaGreatDoor
open Tryz
def dig36 (d : Nat) : Nat := if d < 10 then 48 + d else 87 + d
def digs36 : Nat → Nat → List Nat → List Nat
 | 0, u, acc => dig36 (u % 36) :: acc
 | f + 1, u, acc => if u < 36 then dig36 u :: acc else digs36 f (u / 36) (dig36 (u % 36) :: acc)
def okC (c : Nat) : Prop := c ≠ 32 ∧ c ≠ 124 ∧ c < 256
theorem okC_dig {d : Nat} (h : d < 36) : okC (dig36 d) ∧ dig36 d ≠ 45 := by
 unfold okC dig36
 split <;> omega
theorem okC_digs : ∀ (f u : Nat) (acc : List Nat), (∀ c ∈ acc, okC c ∧ c ≠ 45) → ∀ c ∈ digs36 f u acc, okC c ∧ c ≠ 45
 | 0, u, acc, h => by
  intro c hc
  rcases List.mem_cons.1 hc with rfl | hc
  ·exact okC_dig (Nat.mod_lt _ (by omega))
  exact h c hc
 | f + 1, u, acc, h => by
  rw [digs36]
  split
  ·rename_i h1
   intro c hc
   rcases List.mem_cons.1 hc with rfl | hc
   ·exact okC_dig h1
   exact h c hc
  refine okC_digs f _ _ fun c hc => ?_
  rcases List.mem_cons.1 hc with rfl | hc
  ·exact okC_dig (Nat.mod_lt _ (by omega))
  exact h c hc
def dig (u : Nat) : List Nat := digs36 13 u []
def itoa36 (n : Int) : List Nat := if n < 0 then 45 :: dig n.natAbs else dig n.natAbs
def i64B (n : Int) : Prop := -9223372036854775808 ≤ n ∧ n ≤ 9223372036854775807
theorem dig_ok (u : Nat) : ∀ c ∈ dig u, okC c ∧ c ≠ 45 := okC_digs 13 u [] (by simp)
theorem itoa_ok (n : Int) : ∀ c ∈ itoa36 n, okC c := by
 intro c hc
 unfold itoa36 at hc
 split at hc
 ·rcases List.mem_cons.1 hc with rfl | hc
  ·exact ⟨by decide, by decide, by decide⟩
  exact (dig_ok _ c hc).1
 exact (dig_ok _ c hc).1
def encL (l : List Int) : List Nat := l.flatMap (fun n => 32 :: itoa36 n) ++ [124]
def encS (sts : Nat → List Int) (ks : List Nat) : List Nat := ks.flatMap fun k => encL (sts k)
def bitF (b : Bool) : Nat := if b then 49 else 48
def keyF (n : Nat) (dn : Nat → Bool) (sts : Nat → List Int) : List Nat := (List.range n).map (fun i => bitF (dn i)) ++ encS sts (List.range 8)
theorem encL_small (l : List Int) : ∀ c ∈ encL l, c < 256 := by
 intro c hc
 rcases List.mem_append.1 hc with hc | hc
 ·obtain ⟨n, _, hc⟩ := List.mem_flatMap.1 hc
  rcases List.mem_cons.1 hc with rfl | hc
  ·decide
  exact (itoa_ok n c hc).2.2
 have : c = 124 := by simpa using hc
 omega
theorem keyF_small (n : Nat) (dn : Nat → Bool) (sts : Nat → List Int) : ∀ c ∈ keyF n dn sts, c < 256 := by
 intro c hc
 rcases List.mem_append.1 hc with hc | hc
 ·obtain ⟨i, _, rfl⟩ := List.mem_map.1 hc
  unfold bitF
  split <;> decide
 obtain ⟨k, _, hc⟩ := List.mem_flatMap.1 hc
 exact encL_small _ c hc
def strB (l : List Nat) : ByteArray := ⟨(l.map UInt8.ofNat).toArray⟩
theorem strB_inj {l l' : List Nat} (h1 : ∀ c ∈ l, c < 256) (h2 : ∀ c ∈ l', c < 256) (h : strB l = strB l') : l = l' := by
 unfold strB at h
 injection h with h
 have h := congrArg Array.toList h
 simp only at h
 have g : ∀ l : List Nat, (∀ c ∈ l, c < 256) → (l.map UInt8.ofNat).map UInt8.toNat = l := by
  intro l hl
  rw [List.map_map]
  conv => rhs; rw [← List.map_id l]
  refine List.map_congr_left fun c hc => ?_
  simp [Function.comp]
  have := hl c hc
  omega
 rw [← g l h1, ← g l' h2, h]
open Go
section
variable {P : Program} {N : Nat} {ops : Array Oper} {Q : XPost} {rest : List Oper} {ρ : Env} {o : Oper} {w0 w w' : World} {S : Nat → Prop} {H : List Ent} {d t : Nat} {x y z : Operand} {v : Value}
theorem rIdxStr {s : ByteArray} {i : Nat} {k : IntKind} {b : UInt8} {c : Int} (ho : o.op = .index t x y) (ht : P.underlying t = some .string) (hx : ev ρ x = .string s) (hy : ev ρ y = .int k (i : Int)) (hb : s[i]? = some b) (hc : (b.toNat : Int) = c) : Runs P ρ o w (.int .u8 c) := by
 subst hc
 simp [Runs, execOp, ho, hx, hy, Instr.index, asIntOf, run_underlying ht, hb]
theorem rIdxAg {n e i : Nat} {cs : Array Value} {k : IntKind} (ho : o.op = .index t x y) (ht : P.underlying t = some (.array n e)) (he : plainB P e = true) (hs : szB P e 1 = true) (hx : ev ρ x = .agg cs) (hy : ev ρ y = .int k (i : Int)) (hi : i < n) (hv : cs[i]? = some v) : Runs P ρ o w v := by
 have hi' : (i : Int) < (n : Int) := by omega
 simp [Runs, execOp, ho, hx, hy, Instr.index, asIntOf, run_underlying ht, run_size hs, hi, part, run_isAgg_plain he, hv]
theorem rSliceArr {n e g j i : Nat} {k : IntKind} (ho : o.op = .slice t x (some y) none none) (ht : P.underlying t = some (.array n e)) (hs : szB P e 1 = true) (hx : ev ρ x = .pointer (some ⟨g, j, none⟩)) (hy : ev ρ y = .int k (i : Int)) (hi : i < n) : Runs P ρ o w (.slice (some ⟨g, j + i, none⟩) (n - i) (n - i)) := by
 have h1 : ¬ n = i := by omega
 have h2 : (i : Int) ≤ (n : Int) := by omega
 have h3 : i ≤ n := by omega
 simp [Runs, execOp, ho, hx, hy, Instr.sliceAt, Instr.sureAddr, Instr.sliceBounds, Instr.sliceBound, asIntOf, run_underlying ht, run_size hs, h1, h3, Addr.add_lit]
theorem rBytesStr {s e : Nat} {A : Option Addr} {n c base : Nat} {l : List Nat} (ho : o.op = .convert s t x) (hs : P.underlying s = some (.slice e)) (he : P.underlying e = some (.int .u8)) (ht : P.underlying t = some .string) (hx : ev ρ x = .slice A n c) (hr : w.ownsRow base e 1 (.slice A n c) n (l.map fun b : Nat => Value.int .u8 (b : Int))) (hb : ∀ b ∈ l, b < 256) (h0 : 0 < n) : Runs P ρ o w (.string (strB l)) := by
 obtain ⟨g, o', rfl⟩ := row_addrS hr h0 (by omega)
 have hl : l.length = n := by have := hr.1; simpa using this
 have h := run_convert_bytes_back (P := P) w s t e ⟨g, o', none⟩ c (l.map UInt8.ofNat) hs he ht (fun j hj => by
  have hj' : j < l.length := by simpa using hj
  rw [Addr.add_lit]
  have h2 : ((l.map UInt8.ofNat)[j].toNat : Int) = (l[j] : Int) := by
   have := hb _ (List.getElem_mem hj')
   simp
   omega
  rw [h2]
  exact row_cellS hr (by simp [hj']) h0)
 have e1 : (l.map UInt8.ofNat).length = n := by simpa using hl
 rw [e1] at h
 simp [Runs, execOp, ho, hx, h, strB]
theorem WL_mkCap {e n by_ base : Nat} {zv : Value} (hI : Inv S w0 w H) (hw : wantedR ops ρ o = true) (hd : o.dst = some d) (hN : Nat.blt d N = true) (ho : o.op = .makeSlice t x y) (hx : ev ρ x = .int .i64 0) (hy : ev ρ y = .int .i64 (n : Int))
  (ht : P.underlying t = some (.slice e)) (hi : (P.info? e).map (fun i => (i.zero, i.size, i.bytes)) = some (some zv, 1, by_)) (hb : by_ * n ≤ 281474976710656) (h63 : n ≤ 9223372036854775807) (hbase : base ≤ w.heap.size)
  (h : ∀ g w', Pure w w' → g = w.heap.size → Inv S w0 w' (Row base e 1 (some ⟨g, 0, none⟩) 0 n [] :: H) → WL P N ops Q rest (upd ρ d (.slice (some ⟨g, 0, none⟩) 0 n)) w') : WL P N ops Q (o :: rest) ρ w := by
 cases hp : P.info? e with
 | none => simp [hp] at hi
 | some i =>
  simp only [hp, Option.map_some, Option.some.injEq, Prod.mk.injEq] at hi
  obtain ⟨h1, h2, h3⟩ := hi
  obtain ⟨w', hr, h4, h5⟩ := run_make_own (P := P) w base t e i zv 1 ht hp h1 h2 .i64 .i64 n (by rw [h3]; exact hb) (by simpa [maxLen] using h63) hbase
  have hpu : Pure w w' := (Pure.refl w).grown h5 (fun k hk => by cases hk)
  refine WL_eff hw hd hN (by simp [execOp, ho, hx, hy, hr]) (h _ _ hpu rfl (hI.fresh hpu (Row.ok h4) (fun k hk => ?_)))
  have : some w.heap.size = some k := hk
  injection this with this
  omega
end
theorem bytes_beq (a b : ByteArray) : (a == b) = decide (a = b) := by
 obtain ⟨a⟩ := a
 obtain ⟨b⟩ := b
 show ByteArray.beq _ _ = _
 unfold ByteArray.beq
 simp
 by_cases h : a = b
 ·subst h; simp
 simp [h]
theorem strB_beq {a b : List Nat} (ha : ∀ c ∈ a, c < 256) (hb : ∀ c ∈ b, c < 256) : (strB a == strB b) = decide (a = b) := by
 rw [bytes_beq]
 by_cases h : a = b
 ·subst h; simp
 simp only [h, decide_false, decide_eq_false_iff_not]
 exact fun e => h (strB_inj ha hb e)
def KsIs (es : List MapEntry) (ks : List (List Nat)) : Prop := es.map (fun e => (e.key, e.val)) = ks.map (fun k => (Value.string (strB k), Value.agg #[]))
theorem findNow_str {a : List Nat} (ha : ∀ c ∈ a, c < 256) : ∀ (es : List MapEntry) (ks : List (List Nat)) (i : Nat), KsIs es ks → (∀ k ∈ ks, ∀ c ∈ k, c < 256) →
  (a ∉ ks ∧ Instr.findNow .string (.string (strB a)) es i = some none) ∨ (a ∈ ks ∧ ∃ j, Instr.findNow .string (.string (strB a)) es i = some (some (j, .agg #[])))
 | [], [], i, _, _ => .inl ⟨by simp, rfl⟩
 | [], _ :: _, i, h, _ => by simp [KsIs] at h
 | _ :: _, [], i, h, _ => by simp [KsIs] at h
 | e :: es, k :: ks, i, h, hs => by
  simp only [KsIs, List.map_cons, List.cons.injEq, Prod.mk.injEq] at h
  obtain ⟨⟨h1, h2⟩, h3⟩ := h
  have hb := strB_beq ha (hs k (by simp))
  by_cases hk : a = k
  ·refine .inr ⟨by simp [hk], i, ?_⟩
   have : (strB a == strB k) = true := by rw [hb]; simp [hk]
   simp only [Instr.findNow, h1, Instr.sameNow, this, h2]
  have : (strB a == strB k) = false := by rw [hb]; simp [hk]
  rcases findNow_str ha es ks (i + 1) h3 (fun k hk => hs k (by simp [hk])) with ⟨g1, g2⟩ | ⟨g1, j, g2⟩
  ·refine .inl ⟨by simp [hk, g1], ?_⟩
   simp only [Instr.findNow, h1, Instr.sameNow, this]
   exact g2
  refine .inr ⟨by simp [g1], j, ?_⟩
  simp only [Instr.findNow, h1, Instr.sameNow, this]
  exact g2
structure SetIs (w : World) (b : Nat) (ks : List (List Nat)) : Prop where
 ex : ∃ (es : Array MapEntry) (clk : Nat), w.heap[b]? = some (.map es clk) ∧ KsIs es.toList ks
 small : ∀ k ∈ ks, ∀ c ∈ k, c < 256
def SetE (b : Nat) (ks : List (List Nat)) : Ent := ⟨fun k => k = b, fun w => SetIs w b ks⟩
theorem SetE.ok {w : World} {b : Nat} {ks : List (List Nat)} (h : SetIs w b ks) : (SetE b ks).ok w := by
 refine Ent.mk_ok h (fun k hk => ?_) (fun S w1 w2 hc hS h1 => ?_)
 ·obtain ⟨es, clk, h1, _⟩ := h.ex
  have : k = b := hk
  subst this
  rcases Nat.lt_or_ge k w.heap.size with h2 | h2
  ·exact h2
  simp [Array.getElem?_eq_none h2] at h1
 obtain ⟨es, clk, h2, h3⟩ := h1.ex
 have hlt : b < w1.heap.size := by
  rcases Nat.lt_or_ge b w1.heap.size with h4 | h4
  ·exact h4
  simp [Array.getElem?_eq_none h4] at h2
 exact ⟨⟨es, clk, (hc.block b hlt (hS b rfl)).trans h2, h3⟩, h1.small⟩
section
variable {P : Program} {N : Nat} {ops : Array Oper} {Q : XPost} {rest : List Oper} {ρ : Env} {o : Oper} {w0 w w' : World} {S : Nat → Prop} {H : List Ent} {d t kt et b : Nat} {x y z : Operand} {ks : List (List Nat)} {a : List Nat}
theorem WL_mkSet (hI : Inv S w0 w H) (hw : wantedR ops ρ o = true) (hd : o.dst = some d) (hN : Nat.blt d N = true) (ho : o.op = .makeMap t none)
  (h : ∀ b w', Pure w w' → b = w.heap.size → Inv S w0 w' (SetE b [] :: H) → WL P N ops Q rest (upd ρ d (.map (some b))) w') : WL P N ops Q (o :: rest) ρ w :=
 WL_eff hw hd hN (v := .map (some w.heap.size)) (w' := w.alloc (.map #[] 0)) (by simp [execOp, ho, Instr.makeMap])
  (h _ _ ((Pure.refl w).alloc _) rfl (hI.fresh ((Pure.refl w).alloc _) (SetE.ok ⟨⟨#[], 0, by show (w.heap.push _)[w.heap.size]? = _; simp, rfl⟩, by simp⟩) (fun k hk => by have : k = w.heap.size := hk; omega)))
theorem check_str {em : Bool} {s : ByteArray} (hk : P.underlying kt = some .string) : (Instr.checkKey em 10000 kt (.string s)).run P w = .ok () w := by
 show (Instr.checkKey em (Nat.succ 9999) kt (.string s)).run P w = .ok () w
 rw [Instr.checkKey]
 simp [run_underlying hk]
theorem rLookS (ho : o.op = .lookup t x y true) (ht : P.underlying t = some (.map kt et)) (hk : P.underlying kt = some .string) (hz : (P.info? et).bind (·.zero) = some (.agg #[])) (hx : ev ρ x = .map (some b)) (hy : ev ρ y = .string (strB a)) (ha : ∀ c ∈ a, c < 256) (hM : SetIs w b ks) :
  Runs P ρ o w (.tuple #[.agg #[], .bool (decide (a ∈ ks))]) := by
 obtain ⟨es, clk, h1, h2⟩ := hM.ex
 have hzv : (zeroValue et).run P w = .ok (.agg #[]) w := by
  cases hi : P.info? et with
  | none => simp [hi] at hz
  | some i => simp only [hi, Option.bind_some] at hz; simp [zeroValue, typeInfo, hi, hz]
 have hc := check_str (P := P) (w := w) (s := strB a) (em := es.isEmpty) hk
 rcases findNow_str ha es.toList ks 0 h2 hM.small with ⟨g1, g2⟩ | ⟨g1, j, g2⟩
 ·simp [Runs, execOp, ho, hx, hy, Instr.lookup, run_underlying ht, run_getM h1, hc, Instr.findKey, run_underlying hk, g2, hzv, g1]
 simp [Runs, execOp, ho, hx, hy, Instr.lookup, run_underlying ht, run_getM h1, hc, Instr.findKey, run_underlying hk, g2, g1]
theorem rLenSet (ho : o.op = .call { callee := .builtin .len, args := #[x], argTypes := #[t] }) (ht : P.underlying t = some (.map kt et)) (hx : ev ρ x = .map (some b)) (hM : SetIs w b ks) : Runs P ρ o w (.int .i64 (ks.length : Int)) := by
 obtain ⟨es, clk, h1, h2⟩ := hM.ex
 have hl : es.size = ks.length := by have := congrArg List.length h2; simpa using this
 simp [Runs, execOp, ho, resolve, invoke, builtin, hx, Builtin.len_, run_underlying ht, run_getM h1, hl, goInt]
theorem WL_setPut (i : Nat) (hi : H[i]? = some (SetE b ks)) (hI : Inv S w0 w H) (hw : wantedR ops ρ o = true) (hd : o.dst = none) (ho : o.op = .mapUpdate t x y z) (ht : P.underlying t = some (.map kt et)) (hk : P.underlying kt = some .string) (hx : ev ρ x = .map (some b)) (hy : ev ρ y = .string (strB a)) (hz : ev ρ z = .agg #[]) (ha : ∀ c ∈ a, c < 256) (hn : a ∉ ks)
  (h : ∀ w', Inv S w0 w' (H.set i (SetE b (ks ++ [a]))) → WL P N ops Q rest ρ w') : WL P N ops Q (o :: rest) ρ w := by
 have hM : SetIs w b ks := (hI.ok _ (List.mem_of_getElem? hi)).1
 obtain ⟨es, clk, h1, h2⟩ := hM.ex
 have hlt : b < w.heap.size := by
  rcases Nat.lt_or_ge b w.heap.size with h5 | h5
  ·exact h5
  simp [Array.getElem?_eq_none h5] at h1
 have hc := check_str (P := P) (w := w) (s := strB a) (em := false) hk
 rcases findNow_str ha es.toList ks 0 h2 hM.small with ⟨g1, g2⟩ | ⟨g1, j, g2⟩
 ·have hM' : SetIs (setB w b (.map (es.push { key := .string (strB a), val := .agg #[], born := clk }) (clk + 1))) b (ks ++ [a]) := by
   refine ⟨⟨_, _, heap_setB hlt, ?_⟩, fun k hk => ?_⟩
   ·unfold KsIs at h2 ⊢
    simp [h2]
   rcases List.mem_append.1 hk with hk | hk
   ·exact hM.small k hk
   rw [List.mem_singleton.1 hk]; exact ha
  refine WL_store hw hd (w' := setB w b (.map (es.push { key := .string (strB a), val := .agg #[], born := clk }) (clk + 1))) ?_ (h _ (hI.upd i hi (chg_setB w b _) (SetE.ok hM') (fun _ hk => .inl hk)))
  simp [execOp, ho, hx, hy, hz, Instr.mapUpdate, run_underlying ht, run_getM h1, hc, Instr.findKey, run_underlying hk, g2, run_setM _ h1]
 exact absurd g1 hn
end
open Go.RowKit
section
variable {P : Program} {ρ : Env} {o : Oper} {w : World} {x y : Operand} {t kt et b : Nat} {q : IntKind} {zv v : Value} {a : Int} {g : Int → Option Value}
theorem rLookY (h : g a = some v) (ho : o.op = .lookup t x y true) (ht : P.underlying t = some (.map kt et)) (hk : P.underlying kt = some (.int q)) (hz : (P.info? et).bind (·.zero) = some zv) (hx : ev ρ x = .map (some b)) (hy : ev ρ y = .int .i64 a) (hM : MapIs w b g) : Runs P ρ o w (.tuple #[v, .bool true]) := by
 have := rLook (P := P) ho ht hk hz hx hy hM
 rwa [h] at this
theorem rLookN (h : g a = none) (ho : o.op = .lookup t x y true) (ht : P.underlying t = some (.map kt et)) (hk : P.underlying kt = some (.int q)) (hz : (P.info? et).bind (·.zero) = some zv) (hx : ev ρ x = .map (some b)) (hy : ev ρ y = .int .i64 a) (hM : MapIs w b g) : Runs P ρ o w (.tuple #[zv, .bool false]) := by
 have := rLook (P := P) ho ht hk hz hx hy hM
 rwa [h] at this
end
abbrev OpsE (A : Option Addr) (c : Nat) (ops : List Op8) : Ent := Row 0 120 8 A ops.length c (ops.flatMap opV)
abbrev BoolE (A : Option Addr) (c : Nat) (l : List Bool) : Ent := Row 0 4 1 A l.length c (l.map Value.bool)
def mapV (g : Int → Option Nat) : Int → Option Value := fun k => (g k).map fun n => .int .i64 (n : Int)
theorem mapV_upd (g : Int → Option Nat) (k : Int) (n : Nat) : (fun j => if j = k then some (Value.int .i64 (n : Int)) else mapV g j) = mapV (updI g k (some n)) := by
 funext j
 unfold mapV updI
 by_cases h : j = k
 ·rw [if_pos h, if_pos h]; rfl
 rw [if_neg h, if_neg h]
theorem mapV_del (g : Int → Option Nat) (k : Int) : (fun j => if j = k then none else mapV g j) = mapV (updI g k none) := by
 funext j
 unfold mapV updI
 by_cases h : j = k
 ·rw [if_pos h, if_pos h]; rfl
 rw [if_neg h, if_neg h]
def seeC (Ao : Option Addr) (no co b1 b2 : Nat) (Ag : Option Addr) (ng cg : Nat) : Array Value := #[.slice Ao no co, .map (some b1), .map (some b2), .slice Ag ng cg]
def prtS (sb : Nat) (Ao : Option Addr) (co b1 b2 : Nat) (Ag : Option Addr) (cg : Nat) (s : SeeS) : List Ent :=
 [B sb 115 (seeC Ao s.ops.length co b1 b2 Ag s.gone.length cg), OpsE Ao co s.ops, BoolE Ag cg s.gone, MapE b1 (mapV s.busy), MapE b2 (mapV s.lost)]
def SeerPost (r : Option SeeS) (sb b1 b2 : Nat) (S : Nat → Prop) (w0 : World) (en : Ending) (w' : World) : Prop := match r with
 | none => Inv S w0 w' [] ∧ ∃ z : Int, en = .returned (.iface 45 (.int .i64 z))
 | some s' => en = .returned .nilIface ∧ ∃ Ao' co' Ag' cg', Inv S w0 w' (prtS sb Ao' co' b1 b2 Ag' cg' s')
theorem Inv.non_ {S : Nat → Prop} {w0 w : World} {H : List Ent} (h : Inv S w0 w H) : Inv S w0 w [] := ⟨h.chg, by simp, by simp, .nil⟩
theorem SeerPost.none {r : Option SeeS} {sb b1 b2 : Nat} {S : Nat → Prop} {w0 w' : World} {H : List Ent} {z : Int} (h : r = Option.none) (hI : Inv S w0 w' H) : SeerPost r sb b1 b2 S w0 (.returned (.iface 45 (.int .i64 z))) w' := by subst h; exact ⟨hI.non_, z, rfl⟩
theorem SeerPost.some {r : Option SeeS} {s' : SeeS} {sb b1 b2 : Nat} {S : Nat → Prop} {w0 w' : World} {Ao' Ag' : Option Addr} {co' cg' : Nat} (h : r = Option.some s') (hI : Inv S w0 w' (prtS sb Ao' co' b1 b2 Ag' cg' s')) : SeerPost r sb b1 b2 S w0 (.returned .nilIface) w' := by subst h; exact ⟨rfl, Ao', co', Ag', cg', hI⟩
theorem begin_one (e0 e1 e2 e3 e4 e5 e6 : Int) (i : Nat) (sb b1 b2 : Nat) (Ao : Option Addr) (co : Nat) (Ag : Option Addr) (cg : Nat) (s : SeeS) (w0 : World) (hlen : s.ops.length ≤ 100000) (hgl : s.gone.length = s.ops.length)
  (hI : Inv (DL (prtS sb Ao co b1 b2 Ag cg s)) w0 w0 (prtS sb Ao co b1 b2 Ag cg s)) :
  Cq 44 #[.pointer (some ⟨sb, 0, none⟩), .agg #[.int .i64 e0, .int .i64 e1, .int .i64 e2, .int .i64 e3, .int .i64 e4, .int .i64 e5, .int .i64 e6], .int .i64 (i : Int)] w0 (SeerPost (beginF ⟨e0, e1, e2, e3, e4, e5, e6⟩ i s) sb b1 b2 (DL (prtS sb Ao co b1 b2 Ag cg s)) w0) := by
 generalize hl0 : DL (prtS sb Ao co b1 b2 Ag cg s) = S at hI ⊢
 replace hI : Inv S w0 w0 [B sb 115 (seeC Ao s.ops.length co b1 b2 Ag s.gone.length cg), OpsE Ao co s.ops, BoolE Ag cg s.gone, MapE b1 (mapV s.busy), MapE b2 (mapV s.lost)] := hI
 refine Vn func44 rfl ?_
 refine Wq (Tb (.agg _) (#[_, _, _, _, _, _, _]) hI rfl ?_)
 rintro b4 w - - hI
 refine Vj rfl (Wn ?_)
 cases hb : s.busy e0 with
 | some nb =>
  have hbv : mapV s.busy e0 = some (.int .i64 (nb : Int)) := by unfold mapV; rw [hb]; rfl
  refine Ws (Wd (by kernel_rfl) ?_)
  refine Wi (T := []) hI.drew ?_
  intro Sx hY hZ
  have hI := hI.drew
  refine Vl 0 rfl (Vm 1 rfl (Vf 2 1 rfl (Vd 3 (.map _) rfl (fun W hW => (hY W hW).c1 rfl) (Vf 4 0 rfl (Vd 5 (.int .i64 _) rfl (fun W hW => (hY W hW).c0 rfl) ?_)))))
  refine Wt 6 rfl (fun W hW => have hI := hY W hW; (rLookY hbv (zv := .int .i64 0) rfl yy112 yy3 (by kernel_rfl) rfl rfl hI.g4)) ?_
  refine Un 7 rfl (Ts 8 rfl (Ts 9 rfl (Ty 10 rfl (Ub 11 rfl (We (by kernel_rfl) (Ws (Ws (Wd (by kernel_rfl) ?_))))))))
  refine Wi (T := []) hI.drew ?_
  intro Sx hY hZ
  have hI := hI.drew
  refine Vl 0 rfl (Vm 1 rfl (Vf 2 2 rfl (Vd 3 (.map _) rfl (fun W hW => (hY W hW).c1 rfl) (Vf 4 0 rfl (Vd 5 (.int .i64 _) rfl (fun W hW => (hY W hW).c0 rfl) ?_)))))
  refine Wt 6 rfl (fun W hW => have hI := hY W hW; (rLook (zv := .int .i64 0) rfl yy112 yy3 (by kernel_rfl) rfl rfl hI.g5)) ?_
  refine Un 7 rfl (Ts 8 rfl (Ts 9 rfl ?_))
  refine Wt 10 rfl (fun W hW => have hI := hY W hW; (by exact rAsgn rfl)) ?_
  refine Ub 11 rfl (We (by kernel_rfl) (Wq (V6 rfl (V6 rfl (V4 rfl (Vk rfl (Wn (Wc true rfl (Wq (T6 rfl yy45 rfl (Vp rfl ?_)))))))))))
  refine Wn ?_
  exact WR (r1_ 6 rfl (SeerPost.none (by unfold beginF; exact if_pos (.inl (by show s.busy e0 ≠ none; rw [hb]; simp))) hI))
 | none =>
 have hbv : mapV s.busy e0 = none := by unfold mapV; rw [hb]; rfl
 refine Ws (Wd (by kernel_rfl) ?_)
 refine Wi (T := []) hI.drew ?_
 intro Sx hY hZ
 have hI := hI.drew
 refine Vl 0 rfl (Vm 1 rfl (Vf 2 1 rfl (Vd 3 (.map _) rfl (fun W hW => (hY W hW).c1 rfl) (Vf 4 0 rfl (Vd 5 (.int .i64 _) rfl (fun W hW => (hY W hW).c0 rfl) ?_)))))
 refine Wt 6 rfl (fun W hW => have hI := hY W hW; (rLookN hbv (zv := .int .i64 0) rfl yy112 yy3 (by kernel_rfl) rfl rfl hI.g4)) ?_
 refine Un 7 rfl (Ts 8 rfl (Ts 9 rfl (Ty 10 rfl (Ub 11 rfl (We (by kernel_rfl) ?_)))))
 cases hl : s.lost e0 with
 | some nl =>
  have hlv : mapV s.lost e0 = some (.int .i64 (nl : Int)) := by unfold mapV; rw [hl]; rfl
  refine Ws (Ws (Wd (by kernel_rfl) ?_))
  refine Wi (T := []) hI.drew ?_
  intro Sx hY hZ
  have hI := hI.drew
  refine Vl 0 rfl (Vm 1 rfl (Vf 2 2 rfl (Vd 3 (.map _) rfl (fun W hW => (hY W hW).c1 rfl) (Vf 4 0 rfl (Vd 5 (.int .i64 _) rfl (fun W hW => (hY W hW).c0 rfl) ?_)))))
  refine Wt 6 rfl (fun W hW => have hI := hY W hW; (rLookY hlv (zv := .int .i64 0) rfl yy112 yy3 (by kernel_rfl) rfl rfl hI.g5)) ?_
  refine Un 7 rfl (Ts 8 rfl (Ts 9 rfl (Ty 10 rfl (Ub 11 rfl (We (by kernel_rfl) (Wq (V6 rfl (V6 rfl (V6 rfl (Ve rfl (Wn (Wc true rfl ?_))))))))))))
  refine Wq (T6 rfl yy45 rfl (Vp rfl (Wn ?_)))
  exact WR (r1_ 6 rfl (SeerPost.none (by unfold beginF; exact if_pos (.inr (by show s.lost e0 ≠ none; rw [hl]; simp))) hI))
 | none =>
 have hlv : mapV s.lost e0 = none := by unfold mapV; rw [hl]; rfl
 refine Ws (Ws (Wd (by kernel_rfl) ?_))
 refine Wi (T := []) hI.drew ?_
 intro Sx hY hZ
 have hI := hI.drew
 refine Vl 0 rfl (Vm 1 rfl (Vf 2 2 rfl (Vd 3 (.map _) rfl (fun W hW => (hY W hW).c1 rfl) (Vf 4 0 rfl (Vd 5 (.int .i64 _) rfl (fun W hW => (hY W hW).c0 rfl) ?_)))))
 refine Wt 6 rfl (fun W hW => have hI := hY W hW; (rLookN hlv (zv := .int .i64 0) rfl yy112 yy3 (by kernel_rfl) rfl rfl hI.g5)) ?_
 refine Un 7 rfl (Ts 8 rfl (Ts 9 rfl (Ty 10 rfl (Ub 11 rfl (We (by kernel_rfl) (Wq (V6 rfl (V6 rfl (V6 rfl (Ve rfl (Wn (Wc false rfl ?_))))))))))))
 refine Wk ?_
 have hbf : beginF ⟨e0, e1, e2, e3, e4, e5, e6⟩ i s = some ⟨s.ops ++ [newOp ⟨e0, e1, e2, e3, e4, e5, e6⟩ i], updI s.busy e0 (some s.ops.length), s.lost, s.gone ++ [false]⟩ := by
  unfold beginF
  refine if_neg ?_
  rintro (h | h)
  ·exact h hb
  exact h hl
 refine Ws (Wd (by kernel_rfl) ?_)
 refine Wi (T := [11]) hI.drew ?_
 intro Sx hY hZ
 have hI := hI.drew
 refine Vl 0 rfl (Vm 1 rfl (Vf 2 1 rfl (Vd 3 (.map _) rfl (fun W hW => (hY W hW).c1 rfl) (Vf 4 0 rfl (Vd 5 (.int .i64 _) rfl (fun W hW => (hY W hW).c0 rfl) (Vl 6 rfl (Vm 7 rfl (Vf 8 0 rfl (Vd 9 (.slice _ _ _) rfl (fun W hW => (hY W hW).c1 rfl) (Ui 10 rfl yy62 rfl ?_))))))))))
 refine WT_A (by kernel_rfl) ?_
 clear hZ hY
 refine T2 11 rfl ?_
 refine WL_mapSet (v := .int .i64 (s.ops.length : Int)) 4 rfl hI rfl rfl rfl yy112 yy3 rfl rfl rfl ?_
 intro w hI
 simp only [List.set_cons_succ, List.set_cons_zero] at hI
 rw [mapV_upd] at hI
 refine Wn ?_
 refine WA_end (by kernel_rfl) ?_
 refine Ws (Wd (by kernel_rfl) ?_)
 refine Wi (T := [21]) hI.d2.drew ?_
 intro Sx hY hZ
 have hI := hI.drew
 refine Vl 0 rfl (Vl 1 rfl (Vm 2 rfl (Vf 3 0 rfl (Vd 4 (.slice _ _ _) rfl (fun W hW => (hY W hW).c1 rfl) (Vf 5 0 rfl (Vd 6 (.int .i64 _) rfl (fun W hW => (hY W hW).c0 rfl) (Vf 7 2 rfl (Vd 8 (.int .i64 _) rfl (fun W hW => (hY W hW).c0 rfl) (Vf 9 3 rfl (Vd 10 (.int .i64 _) rfl (fun W hW => (hY W hW).c0 rfl) (Vf 11 4 rfl (Vd 12 (.int .i64 _) rfl (fun W hW => (hY W hW).c0 rfl) (Vf 13 5 rfl ?_)))))))))))))
 refine Vd 14 (.int .i64 _) rfl (fun W hW => (hY W hW).c0 rfl) (Vx 15 rfl (U7 16 [(0, .int .i64 _), (1, .int .i64 _), (2, .int .i64 _), (3, .int .i64 _), (4, .int .i64 _), (6, .int .i64 _), (7, .int .i64 _)] [_, _, _, _, _, _, _, _] rfl [.int .i64 0, .int .i64 0, .int .i64 0, .int .i64 0, .int .i64 0, .int .i64 0, .int .i64 0, .int .i64 0] [0, 1, 2, 3, 4, 6, 7] rfl (fun _ _ => fun _ => by kernel_rfl) (Vu 17 rfl ?_)))
 refine T3 [(0, .agg #[_, _, _, _, _, _, _, _])] [_, _, _, _, _, _, _, _] [.int .i64 0, .int .i64 0, .int .i64 0, .int .i64 0, .int .i64 0, .int .i64 0, .int .i64 0, .int .i64 0] [0] hI rfl yy62 (fun _ => by kernel_rfl) ?_
 rintro b64 w - - hI
 refine Wn ⟨hZ _ hI.d0.d2, ?_⟩
 refine Vu 18 rfl ?_
 refine WL_app3 (z := .agg zI8) (by_ := 64) hI rfl rfl rfl rfl rfl rfl yy62 (by kernel_rfl) rfl (by omega) (by rfl) hI.lit0 (by rfl) (by omega) (by omega) (by exact Nat.zero_le _) ?_
 rintro A65 c65 w hA65 hc65 hI
 have hI := hI.d0
 refine Wn ⟨hZ _ hI.d2, ?_⟩
 refine Vm 19 rfl (Vf 20 0 rfl ?_)
 refine WT_A (by kernel_rfl) ?_
 clear hZ hY
 refine T2 21 rfl ?_
 refine WL_st1 (u := .slice _ _ _) hI rfl rfl rfl rfl rfl rfl (by kernel_rfl) rfl rfl rfl ?_
 intro w hI
 refine Wn ?_
 refine WA_end (by kernel_rfl) ?_
 replace hI : Inv S w0 w [B b4 70 #[.int .i64 e0, .int .i64 e1, .int .i64 e2, .int .i64 e3, .int .i64 e4, .int .i64 e5, .int .i64 e6], B sb 115 (seeC A65 (s.ops.length + 1) c65 b1 b2 Ag s.gone.length cg), Row 0 120 8 A65 (s.ops.length + 1) c65 (s.ops.flatMap opV ++ opV (newOp ⟨e0, e1, e2, e3, e4, e5, e6⟩ i)), BoolE Ag cg s.gone, MapE b1 (mapV (updI s.busy e0 (some s.ops.length))), MapE b2 (mapV s.lost)] := hI
 refine Wq (V9 rfl (V9 rfl (Vb rfl (V7 3 rfl (V5 (.slice _ _ _) rfl (hI.c1 rfl) (T3 [(0, .bool _)] [_] [.bool false] [0] hI rfl yy113 (fun _ => by kernel_rfl) ?_))))))
 rintro b73 w - - hI
 refine WL_app4 (z := .bool false) (by_ := 1) hI rfl rfl rfl rfl rfl rfl yy113 (by kernel_rfl) rfl (by omega) (by rfl) hI.lit0 (by rfl) (by omega) (by omega) (by exact Nat.zero_le _) ?_
 rintro A74 c74 w hA74 hc74 hI
 have hI := hI.d0
 refine Vb rfl (V7 3 rfl ?_)
 refine WL_st1 (u := .slice _ _ _) hI rfl rfl rfl rfl rfl rfl (by kernel_rfl) rfl rfl rfl ?_
 intro w hI
 refine Wn (Wq (Vj rfl (Wn ?_)))
 refine WR ?_
 replace hI : Inv S w0 w [B sb 115 (seeC A65 (s.ops.length + 1) c65 b1 b2 A74 (s.gone.length + 1) c74), Row 0 120 8 A65 (s.ops.length + 1) c65 (s.ops.flatMap opV ++ opV (newOp ⟨e0, e1, e2, e3, e4, e5, e6⟩ i)), Row 0 4 1 A74 (s.gone.length + 1) c74 (s.gone.map Value.bool ++ [.bool false]), MapE b1 (mapV (updI s.busy e0 (some s.ops.length))), MapE b2 (mapV s.lost)] := hI.d0
 refine r1_ 6 rfl (SeerPost.some (Ao' := A65) (co' := c65) (Ag' := A74) (cg' := c74) hbf ?_)
 unfold prtS OpsE BoolE
 simp only [List.length_append, List.length_singleton, List.flatMap_append, List.flatMap_cons, List.flatMap_nil, List.append_nil, List.map_append, List.map_cons, List.map_nil]
 exact hI
theorem oAt_getE {l : List Op8} {k : Nat} (hk : k < l.length) : l[k]? = some (oAt l k) := by unfold oAt; rw [List.getD_eq_getElem?_getD, List.getElem?_eq_getElem hk]; rfl
theorem opsV_lenE (l : List Op8) : (l.flatMap opV).length = l.length * 8 := flat_lenG (f := opV) (fun _ => rfl) l
theorem row_op {w : World} {b c n k j : Nat} {l : List Op8} {v : Value} (h : w.ownsRow 0 120 8 (.slice (some ⟨b, 0, none⟩) n c) n (l.flatMap opV)) (hn : n = l.length) (hk : k < l.length) (hj : (opV (oAt l k))[j]? = some v) : w.cell? ⟨b, 0 + k * 8 + j, none⟩ = some v := by
 subst hn
 have hj8 : j < 8 := by have := (List.getElem?_eq_some_iff.1 hj).1; simpa [opV] using this
 rw [Nat.add_assoc]
 exact row_cellS h ((flatN (f := opV) (fun a => rfl) l k _ (oAt_getE hk) j hj8).trans hj) (by omega)
theorem flat_end {l : List Op8} {n : Nat} (hn : n < l.length) (e : Ev) (i : Nat) : ((l.flatMap opV).set (0 + n * 8 + 7) (.int .i64 (i : Int))).set (0 + n * 8 + 5) (.int .i64 e.res) = (l.set n (endOp (oAt l n) e i)).flatMap opV := by
 have h1 := flat_setG (f := opV) (s := 8) (fun _ => rfl) (a := oAt l n) (a' := { oAt l n with ret := (i : Int) }) (j := 7) (v := .int .i64 (i : Int)) (by omega) rfl (oAt_getE hn)
 have h2 := flat_setG (f := opV) (s := 8) (fun _ => rfl) (a := { oAt l n with ret := (i : Int) }) (a' := endOp (oAt l n) e i) (j := 5) (v := .int .i64 e.res) (by omega) rfl (l := l.set n { oAt l n with ret := (i : Int) }) (k := n) (by simp [hn])
 rw [List.set_set] at h2
 rw [h2, h1, Nat.zero_add]
theorem endF_no {e : Ev} {i : Nat} {s : SeeS} (h : s.busy e.proc = none) : endF e i s = none := by unfold endF; rw [h]
theorem endF_un {e : Ev} {i n : Nat} {s : SeeS} (h : s.busy e.proc = some n) (hf : ¬ fitsOp (oAt s.ops n) e) : endF e i s = none := by unfold endF; rw [h]; exact if_neg hf
theorem endF_go {e : Ev} {i n : Nat} {s : SeeS} (h : s.busy e.proc = some n) (hf : fitsOp (oAt s.ops n) e) : endF e i s = some ⟨if e.ty = 2 then s.ops.set n (endOp (oAt s.ops n) e i) else s.ops, updI s.busy e.proc none, if e.ty = 4 then updI s.lost e.proc (some i) else s.lost, if e.ty = 3 then s.gone.set n true else s.gone⟩ := by unfold endF; rw [h]; exact if_pos hf
theorem end_one (e0 e1 e2 e3 e4 e5 e6 : Int) (i : Nat) (sb b1 b2 : Nat) (Ao : Option Addr) (co : Nat) (Ag : Option Addr) (cg : Nat) (s : SeeS) (w0 : World) (hlen : s.ops.length ≤ 100000) (hgl : s.gone.length = s.ops.length) (hbl : ∀ n, s.busy e0 = some n → n < s.ops.length)
  (hI : Inv (DL (prtS sb Ao co b1 b2 Ag cg s)) w0 w0 (prtS sb Ao co b1 b2 Ag cg s)) :
  Cq 45 #[.pointer (some ⟨sb, 0, none⟩), .agg #[.int .i64 e0, .int .i64 e1, .int .i64 e2, .int .i64 e3, .int .i64 e4, .int .i64 e5, .int .i64 e6], .int .i64 (i : Int)] w0 (SeerPost (endF ⟨e0, e1, e2, e3, e4, e5, e6⟩ i s) sb b1 b2 (DL (prtS sb Ao co b1 b2 Ag cg s)) w0) := by
 generalize hl0 : DL (prtS sb Ao co b1 b2 Ag cg s) = S at hI ⊢
 replace hI : Inv S w0 w0 [B sb 115 (seeC Ao s.ops.length co b1 b2 Ag s.gone.length cg), OpsE Ao co s.ops, BoolE Ag cg s.gone, MapE b1 (mapV s.busy), MapE b2 (mapV s.lost)] := hI
 clear hl0
 refine Vn func45 rfl ?_
 refine Wq (Tb (.agg _) (#[_, _, _, _, _, _, _]) hI rfl ?_)
 rintro b4 w - - hI
 refine Vj rfl (Wn ?_)
 cases hb : s.busy e0 with
 | none =>
  have hbv : mapV s.busy e0 = none := by unfold mapV; rw [hb]; rfl
  refine Ws (Wd (by kernel_rfl) ?_)
  refine Wi (T := []) hI.drew ?_
  intro Sx hY hZ
  have hI := hI.drew
  refine Vl 0 rfl (Vm 1 rfl (Vf 2 1 rfl (Vd 3 (.map _) rfl (fun W hW => (hY W hW).c1 rfl) (Vf 4 0 rfl (Vd 5 (.int .i64 _) rfl (fun W hW => (hY W hW).c0 rfl) ?_)))))
  refine Wt 6 rfl (fun W hW => have hI := hY W hW; (rLookN hbv (zv := .int .i64 0) rfl yy112 yy3 (by kernel_rfl) rfl rfl hI.g4)) ?_
  refine Un 7 rfl (Ts 8 rfl (Ts 9 rfl (Ty 10 rfl (Ub 11 rfl (We (by kernel_rfl) (Ws (Wq (V6 rfl (Ti rfl (Wn (Wc true rfl (Ws ?_))))))))))))
  refine Wr (T6 rfl yy45 rfl (Vp rfl (Wn ?_)))
  exact WR (r1_ 6 rfl (SeerPost.none (endF_no hb) hI))
 | some n =>
 have hbv : mapV s.busy e0 = some (.int .i64 (n : Int)) := by unfold mapV; rw [hb]; rfl
 have hn := hbl n hb
 obtain ⟨bO, _, rfl, -, -, -, -, -, -⟩ := row_openB hI.g2 (by omega)
 obtain ⟨bG, _, rfl, -, -, -, -, -, -⟩ := row_openB hI.g3 (by omega)
 refine Ws (Wd (by kernel_rfl) ?_)
 refine Wi (T := []) hI.drew ?_
 intro Sx hY hZ
 have hI := hI.drew
 refine Vl 0 rfl (Vm 1 rfl (Vf 2 1 rfl (Vd 3 (.map _) rfl (fun W hW => (hY W hW).c1 rfl) (Vf 4 0 rfl (Vd 5 (.int .i64 _) rfl (fun W hW => (hY W hW).c0 rfl) ?_)))))
 refine Wt 6 rfl (fun W hW => have hI := hY W hW; (rLookY hbv (zv := .int .i64 0) rfl yy112 yy3 (by kernel_rfl) rfl rfl hI.g4)) ?_
 refine Un 7 rfl (Ts 8 rfl (Ts 9 rfl (Ty 10 rfl (Ub 11 rfl (We (by kernel_rfl) (Ws (Wq (V6 rfl (T9 rfl (Wn (Wc false rfl (Wk ?_))))))))))))
 refine Wq (V9 rfl (Vb rfl (V7 0 rfl (V5 (.slice _ _ _) rfl (hI.c1 rfl) (V0 rfl (Tt 8 rfl yy62 rfl (Tm rfl (Wn ?_))))))))
 have hun : ¬ fitsOp (oAt s.ops n) ⟨e0, e1, e2, e3, e4, e5, e6⟩ → endF ⟨e0, e1, e2, e3, e4, e5, e6⟩ i s = none := fun hf => endF_un hb hf
 have hgo : fitsOp (oAt s.ops n) ⟨e0, e1, e2, e3, e4, e5, e6⟩ → endF ⟨e0, e1, e2, e3, e4, e5, e6⟩ i s = _ := fun hf => endF_go hb hf
 refine Wx (fun ρ w => fitsOp (oAt s.ops n) ⟨e0, e1, e2, e3, e4, e5, e6⟩ ∧ Has ρ [(0, .pointer (some ⟨sb, 0, none⟩)), (2, .int .i64 (i : Int)), (4, .pointer (some ⟨b4, 0, none⟩)), (7, .int .i64 (n : Int)), (9, .pointer (some ⟨bO, 0 + n * 8, none⟩))] ∧ Inv S w0 w [B b4 70 #[.int .i64 e0, .int .i64 e1, .int .i64 e2, .int .i64 e3, .int .i64 e4, .int .i64 e5, .int .i64 e6], B sb 115 (seeC (some ⟨bO, 0, none⟩) s.ops.length co b1 b2 (some ⟨bG, 0, none⟩) s.gone.length cg), OpsE (some ⟨bO, 0, none⟩) co s.ops, BoolE (some ⟨bG, 0, none⟩) cg s.gone, MapE b1 (mapV s.busy), MapE b2 (mapV s.lost)]) ?_ ?_
 ·by_cases f1 : (oAt s.ops n).key = e2
  rotate_left
  ·refine Ws (Wd (by kernel_rfl) ?_)
   refine Wi (T := []) hI.drew ?_
   intro Sx hY hZ
   have hI := hI.drew
   refine Vl 0 rfl (Vm 1 rfl (Th 2 1 rfl (Vd 3 (.int .i64 _) rfl (fun W hW => have hI := hY W hW; row_op hI.g2 rfl hn rfl) (Vf 4 2 rfl (Vd 5 (.int .i64 _) rfl (fun W hW => (hY W hW).c0 rfl) (Us 6 rfl (Tg 7 rfl (Vq 8 rfl rfl (Vq 9 rfl rfl (Vq 10 rfl rfl (Vq 11 rfl rfl (Vq 12 rfl rfl (Vq 13 rfl rfl ?_)))))))))))))
   refine Vq 14 rfl rfl (U4 15 rfl (Tg 16 rfl (Vq 17 rfl rfl (Vq 18 rfl rfl (Vq 19 rfl rfl (Vq 20 rfl rfl (Vq 21 rfl rfl (Vq 22 rfl rfl (Vq 23 rfl rfl (U4 24 rfl (Tg 25 rfl (Vq 26 rfl rfl (Vq 27 rfl rfl ?_)))))))))))))
   refine Vq 28 rfl rfl (Vq 29 rfl rfl (Vq 30 rfl rfl (Vq 31 rfl rfl (Vq 32 rfl rfl (U4 33 rfl (We (by kernel_rfl) (Wc true rfl (Wq (T6 rfl yy45 rfl (Vp rfl (Wn ?_)))))))))))
   exact WR (r1_ 6 rfl (SeerPost.none (hun fun hf => f1 hf.1) hI))
  by_cases f2 : (oAt s.ops n).kind = e3
  rotate_left
  ·refine Ws (Wd (by kernel_rfl) ?_)
   refine Wi (T := []) hI.drew ?_
   intro Sx hY hZ
   have hI := hI.drew
   refine Vl 0 rfl (Vm 1 rfl (Th 2 1 rfl (Vd 3 (.int .i64 _) rfl (fun W hW => have hI := hY W hW; row_op hI.g2 rfl hn rfl) (Vf 4 2 rfl (Vd 5 (.int .i64 _) rfl (fun W hW => (hY W hW).c0 rfl) (Uf 6 rfl (Tg 7 rfl (Vl 8 rfl (Vm 9 rfl (Th 10 2 rfl (Vd 11 (.int .i64 _) rfl (fun W hW => have hI := hY W hW; row_op hI.g2 rfl hn rfl) (Vf 12 3 rfl (Vd 13 (.int .i64 _) rfl (fun W hW => (hY W hW).c0 rfl) ?_)))))))))))))
   refine Us 14 rfl (Tw 15 rfl (Tg 16 rfl (Vq 17 rfl rfl (Vq 18 rfl rfl (Vq 19 rfl rfl (Vq 20 rfl rfl (Vq 21 rfl rfl (Vq 22 rfl rfl (Vq 23 rfl rfl (U4 24 rfl (Tg 25 rfl (Vq 26 rfl rfl (Vq 27 rfl rfl ?_)))))))))))))
   refine Vq 28 rfl rfl (Vq 29 rfl rfl (Vq 30 rfl rfl (Vq 31 rfl rfl (Vq 32 rfl rfl (U4 33 rfl (We (by kernel_rfl) (Wc true rfl (Wq (T6 rfl yy45 rfl (Vp rfl (Wn ?_)))))))))))
   exact WR (r1_ 6 rfl (SeerPost.none (hun fun hf => f2 hf.2.1) hI))
  by_cases f3 : (oAt s.ops n).a = e4
  rotate_left
  ·refine Ws (Wd (by kernel_rfl) ?_)
   refine Wi (T := []) hI.drew ?_
   intro Sx hY hZ
   have hI := hI.drew
   refine Vl 0 rfl (Vm 1 rfl (Th 2 1 rfl (Vd 3 (.int .i64 _) rfl (fun W hW => have hI := hY W hW; row_op hI.g2 rfl hn rfl) (Vf 4 2 rfl (Vd 5 (.int .i64 _) rfl (fun W hW => (hY W hW).c0 rfl) (Uf 6 rfl (Tg 7 rfl (Vl 8 rfl (Vm 9 rfl (Th 10 2 rfl (Vd 11 (.int .i64 _) rfl (fun W hW => have hI := hY W hW; row_op hI.g2 rfl hn rfl) (Vf 12 3 rfl (Vd 13 (.int .i64 _) rfl (fun W hW => (hY W hW).c0 rfl) ?_)))))))))))))
   refine Uf 14 rfl (Tw 15 rfl (Tg 16 rfl (Vl 17 rfl (Vm 18 rfl (Th 19 3 rfl (Vd 20 (.int .i64 _) rfl (fun W hW => have hI := hY W hW; row_op hI.g2 rfl hn rfl) (Vf 21 4 rfl (Vd 22 (.int .i64 _) rfl (fun W hW => (hY W hW).c0 rfl) (Us 23 rfl (Tw 24 rfl (Tg 25 rfl (Vq 26 rfl rfl (Vq 27 rfl rfl ?_)))))))))))))
   refine Vq 28 rfl rfl (Vq 29 rfl rfl (Vq 30 rfl rfl (Vq 31 rfl rfl (Vq 32 rfl rfl (U4 33 rfl (We (by kernel_rfl) (Wc true rfl (Wq (T6 rfl yy45 rfl (Vp rfl (Wn ?_)))))))))))
   exact WR (r1_ 6 rfl (SeerPost.none (hun fun hf => f3 hf.2.2.1) hI))
  by_cases f4 : (oAt s.ops n).b = e5
  rotate_left
  ·refine Ws (Wd (by kernel_rfl) ?_)
   refine Wi (T := []) hI.drew ?_
   intro Sx hY hZ
   have hI := hI.drew
   refine Vl 0 rfl (Vm 1 rfl (Th 2 1 rfl (Vd 3 (.int .i64 _) rfl (fun W hW => have hI := hY W hW; row_op hI.g2 rfl hn rfl) (Vf 4 2 rfl (Vd 5 (.int .i64 _) rfl (fun W hW => (hY W hW).c0 rfl) (Uf 6 rfl (Tg 7 rfl (Vl 8 rfl (Vm 9 rfl (Th 10 2 rfl (Vd 11 (.int .i64 _) rfl (fun W hW => have hI := hY W hW; row_op hI.g2 rfl hn rfl) (Vf 12 3 rfl (Vd 13 (.int .i64 _) rfl (fun W hW => (hY W hW).c0 rfl) ?_)))))))))))))
   refine Uf 14 rfl (Tw 15 rfl (Tg 16 rfl (Vl 17 rfl (Vm 18 rfl (Th 19 3 rfl (Vd 20 (.int .i64 _) rfl (fun W hW => have hI := hY W hW; row_op hI.g2 rfl hn rfl) (Vf 21 4 rfl (Vd 22 (.int .i64 _) rfl (fun W hW => (hY W hW).c0 rfl) (Uf 23 rfl (Tw 24 rfl (Tg 25 rfl (Vl 26 rfl (Vm 27 rfl ?_)))))))))))))
   refine Th 28 4 rfl (Vd 29 (.int .i64 _) rfl (fun W hW => have hI := hY W hW; row_op hI.g2 rfl hn rfl) (Vf 30 5 rfl (Vd 31 (.int .i64 _) rfl (fun W hW => (hY W hW).c0 rfl) (Us 32 rfl (Tw 33 rfl (We (by kernel_rfl) (Wc true rfl (Wq (T6 rfl yy45 rfl (Vp rfl (Wn ?_)))))))))))
   exact WR (r1_ 6 rfl (SeerPost.none (hun fun hf => f4 hf.2.2.2) hI))
  refine Ws (Wd (by kernel_rfl) ?_)
  refine Wi (T := []) hI.drew ?_
  intro Sx hY hZ
  have hI := hI.drew
  refine Vl 0 rfl (Vm 1 rfl (Th 2 1 rfl (Vd 3 (.int .i64 _) rfl (fun W hW => have hI := hY W hW; row_op hI.g2 rfl hn rfl) (Vf 4 2 rfl (Vd 5 (.int .i64 _) rfl (fun W hW => (hY W hW).c0 rfl) (Uf 6 rfl (Tg 7 rfl (Vl 8 rfl (Vm 9 rfl (Th 10 2 rfl (Vd 11 (.int .i64 _) rfl (fun W hW => have hI := hY W hW; row_op hI.g2 rfl hn rfl) (Vf 12 3 rfl (Vd 13 (.int .i64 _) rfl (fun W hW => (hY W hW).c0 rfl) ?_)))))))))))))
  refine Uf 14 rfl (Tw 15 rfl (Tg 16 rfl (Vl 17 rfl (Vm 18 rfl (Th 19 3 rfl (Vd 20 (.int .i64 _) rfl (fun W hW => have hI := hY W hW; row_op hI.g2 rfl hn rfl) (Vf 21 4 rfl (Vd 22 (.int .i64 _) rfl (fun W hW => (hY W hW).c0 rfl) (Uf 23 rfl (Tw 24 rfl (Tg 25 rfl (Vl 26 rfl (Vm 27 rfl ?_)))))))))))))
  refine Th 28 4 rfl (Vd 29 (.int .i64 _) rfl (fun W hW => have hI := hY W hW; row_op hI.g2 rfl hn rfl) (Vf 30 5 rfl (Vd 31 (.int .i64 _) rfl (fun W hW => (hY W hW).c0 rfl) (Uf 32 rfl (Tw 33 rfl (We (by kernel_rfl) (Wc false rfl (Wk ?_))))))))
  exact ⟨⟨f1, f2, f3, f4⟩, ⟨rfl, rfl, rfl, rfl, rfl, trivial⟩, hI⟩
 clear hI
 rintro ρ w ⟨hfit, hH, hI⟩
 obtain ⟨σ, rfl⟩ := hH.open
 have hgo := hgo hfit
 have olen : (if e1 = 2 then s.ops.set n (endOp (oAt s.ops n) ⟨e0, e1, e2, e3, e4, e5, e6⟩ i) else s.ops).length = s.ops.length := by split <;> simp
 have glen : (if e1 = 3 then s.gone.set n true else s.gone).length = s.gone.length := by split <;> simp
 refine Wx (fun ρ w => Has ρ [(0, .pointer (some ⟨sb, 0, none⟩)), (4, .pointer (some ⟨b4, 0, none⟩))] ∧ Inv S w0 w [B b4 70 #[.int .i64 e0, .int .i64 e1, .int .i64 e2, .int .i64 e3, .int .i64 e4, .int .i64 e5, .int .i64 e6], B sb 115 (seeC (some ⟨bO, 0, none⟩) s.ops.length co b1 b2 (some ⟨bG, 0, none⟩) s.gone.length cg), Row 0 120 8 (some ⟨bO, 0, none⟩) s.ops.length co ((if e1 = 2 then s.ops.set n (endOp (oAt s.ops n) ⟨e0, e1, e2, e3, e4, e5, e6⟩ i) else s.ops).flatMap opV), Row 0 4 1 (some ⟨bG, 0, none⟩) s.gone.length cg ((if e1 = 3 then s.gone.set n true else s.gone).map Value.bool), MapE b1 (mapV s.busy), MapE b2 (mapV (if e1 = 4 then updI s.lost e0 (some i) else s.lost))]) ?_ ?_
 ·refine Wq (V7 1 rfl (V5 (.int .i64 _) rfl (hI.c0 rfl) (Wn (Wb ?_))))
  by_cases t2 : e1 = 2
  ·refine Wq (T5 rfl (V8 rfl (Wn (Wc true rfl (Wd (by kernel_rfl) ?_)))))
   refine Wi (T := [10]) hI.d2.drew ?_
   intro Sx hY hZ
   have hI := hI.drew
   refine Vl 0 rfl (Vl 1 rfl (Vx 2 rfl (Vf 3 6 rfl (Vd 4 (.int .i64 _) rfl (fun W hW => (hY W hW).c0 rfl) (Vm 5 rfl (Th 6 7 rfl (Vu 7 rfl ?_)))))))
   refine WL_stRow 2 rfl (u := .int .i64 (i : Int)) (j := 0 + n * 8 + 7) hI rfl rfl rfl rfl rfl rfl (by kernel_rfl) rfl (by rw [opsV_lenE]; omega) ?_
   intro w hI
   simp only [List.set_cons_succ, List.set_cons_zero] at hI
   refine Wn ⟨hZ _ hI.d2, ?_⟩
   refine Vm 8 rfl (Th 9 5 rfl ?_)
   refine WT_A (by kernel_rfl) ?_
   clear hZ hY
   refine T2 10 rfl ?_
   refine WL_stRow 2 rfl (u := .int .i64 e6) (j := 0 + n * 8 + 5) hI rfl rfl rfl rfl rfl rfl (by kernel_rfl) rfl (by rw [List.length_set, opsV_lenE]; omega) ?_
   intro w hI
   simp only [List.set_cons_succ, List.set_cons_zero] at hI
   refine Wn ?_
   refine WA_end (by kernel_rfl) ?_
   rw [flat_end hn ⟨e0, e1, e2, e3, e4, e5, e6⟩ i] at hI
   rw [if_pos t2, if_neg (by omega), if_neg (by omega)]
   exact ⟨⟨rfl, rfl, trivial⟩, hI⟩
  rw [if_neg t2]
  refine Wq (Vw rfl (V8 rfl (Wn (Wc false rfl ?_))))
  by_cases t3 : e1 = 3
  ·rw [if_pos t3, if_neg (by omega)]
   refine Wq (T5 rfl (V8 rfl (Wn (Wc true rfl (Wr (V9 rfl (Vb rfl (V7 3 rfl (V5 (.slice _ _ _) rfl (hI.c1 rfl) (V0 rfl (Tp rfl yy113 rfl ?_)))))))))))
   refine WL_stRow 3 rfl (u := .bool true) (j := n) hI rfl rfl rfl rfl rfl rfl (by kernel_rfl) rfl (by simp; omega) ?_
   intro w hI
   simp only [List.set_cons_succ, List.set_cons_zero] at hI
   refine Wn ?_
   refine ⟨⟨rfl, rfl, trivial⟩, ?_⟩
   rw [List.map_set]
   exact hI
  rw [if_neg t3]
  refine Wq (Vw rfl (V8 rfl (Wn (Wc false rfl ?_))))
  by_cases t4 : e1 = 4
  ·rw [if_pos t4]
   refine Wq (T5 rfl (V8 rfl (Wn (Wc true rfl (Wd (by kernel_rfl) ?_)))))
   refine Wi (T := [7]) hI.drew ?_
   intro Sx hY hZ
   have hI := hI.drew
   refine Vl 0 rfl (Vm 1 rfl (Vf 2 2 rfl (Vd 3 (.map _) rfl (fun W hW => (hY W hW).c1 rfl) (Vf 4 0 rfl (Vd 5 (.int .i64 _) rfl (fun W hW => (hY W hW).c0 rfl) (Vx 6 rfl ?_))))))
   refine WT_A (by kernel_rfl) ?_
   clear hZ hY
   refine T2 7 rfl ?_
   refine WL_mapSet (v := .int .i64 (i : Int)) 5 rfl hI rfl rfl rfl yy112 yy3 rfl rfl rfl ?_
   intro w hI
   simp only [List.set_cons_succ, List.set_cons_zero] at hI
   rw [mapV_upd] at hI
   refine Wn ?_
   refine WA_end (by kernel_rfl) ?_
   exact ⟨⟨rfl, rfl, trivial⟩, hI⟩
  rw [if_neg t4]
  refine Wq (Vw rfl (V8 rfl (Wn (Wc false rfl (Wk ?_)))))
  exact ⟨⟨rfl, rfl, trivial⟩, hI⟩
 clear hI
 rintro ρ w ⟨hH, hI⟩
 obtain ⟨σ, rfl⟩ := hH.open
 refine Ws (Wd (by kernel_rfl) ?_)
 refine Wi (T := [6]) hI.drew ?_
 intro Sx hY hZ
 have hI := hI.drew
 refine Vl 0 rfl (Vm 1 rfl (Vf 2 1 rfl (Vd 3 (.map _) rfl (fun W hW => (hY W hW).c1 rfl) (Vf 4 0 rfl (Vd 5 (.int .i64 _) rfl (fun W hW => (hY W hW).c0 rfl) ?_)))))
 refine WT_A (by kernel_rfl) ?_
 clear hZ hY
 refine T2 6 rfl ?_
 refine WL_mapDel 4 rfl hI rfl rfl rfl yy112 yy3 rfl rfl ?_
 intro w hI
 simp only [List.set_cons_succ, List.set_cons_zero] at hI
 rw [mapV_del] at hI
 refine Wn ?_
 refine WA_end (by kernel_rfl) ?_
 refine Wq (Vj rfl (Wn ?_))
 refine WR ?_
 refine r1_ 6 rfl (SeerPost.some (Ao' := some ⟨bO, 0, none⟩) (co' := co) (Ag' := some ⟨bG, 0, none⟩) (cg' := cg) hgo ?_)
 unfold prtS OpsE BoolE
 simp only [olen, glen]
 exact hI.d0
end Go.Proofs.YtlkobbighkiojaaGreatDoor
