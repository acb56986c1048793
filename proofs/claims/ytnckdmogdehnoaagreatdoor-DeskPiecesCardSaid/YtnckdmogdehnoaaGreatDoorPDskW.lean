/- Part of the proof that a desk answers in pieces. -/
import Derived.Test.YtnckdmogdehnoaaGreatDoorPA
import Derived.Test.YtnckdmogdehnoaaGreatDoorPDskR
import Derived.Test.YtnckdmogdehnoaaGreatDoorPIntC
import Derived.Shelf.Strings.Shaped
import Derived.Test.YtnckdmogdehnoaaGreatDoorPGraphB
import Derived.Test.YtnckdmogdehnoaaGreatDoorPSxS
import Derived.Test.YtnckdmogdehnoaaGreatDoorPMod6
import Derived.Test.YtnckdmogdehnoaaGreatDoorSxY
import Derived.Test.YtnckdmogdehnoaaGreatDoorPGlob
set_option maxRecDepth 8000
set_option maxHeartbeats 4000000
set_option linter.unusedVariables false
set_option linter.unusedSimpArgs false
namespace Go.Proofs.YtnckdmogdehnoaaGreatDoor
open Tryz
open Go.RowKit
variable {H : List Ent} {w w0 : World}
def numsT (l : List Int) : List UInt8 := Lib.join (l.map Lib.itoa) [32]
def toldT (wd : List UInt8) (l : List Int) : List UInt8 := if l = [] then wd else wd ++ 32 :: numsT l
abbrev pan (x : Value) : List PanicEntry := [{ v := x, recovered := false }]
theorem rPanic {P : Program} {ρ : Env} {o : Oper} {x : Operand} {t : TypeId} {v : Value} (ho : o.op = .panic x) (hx : ev ρ x = .iface t v) : (execOp (ev ρ) o).run P w = .halt (.panic (.iface t v)) w := by
 simp [execOp, ho, hx, Instr.panic]
theorem chkE_nil (w0 : World) : Cq 54 #[.nilIface] w0 fun e w' => e = .returned (.tuple #[]) ∧ w' = w0 := by
 have hI := Inv.start (fun _ => False) w0
 exact Vm func54 Z (Wq (Td Z (Tv Z yy37 Z (Yf Z (Wk (ret0 (.inl Z) Z ⟨Z, Z⟩))))))
theorem chkE_err (t : TypeId) (v : Value) (w0 : World) : Cq 54 #[.iface t v] w0 fun e w' => e = .panicked (pan (.iface t v)) ∧ w' = w0 := by
 have hI := Inv.start (fun _ => False) w0
 exact calls_of_WP (N := Tryz.f54.ntmps) func54 Z Z Z (Wq (Vy Z (U0 Z yy37 Z (Yt Z (Wr (Vy Z (WL_panic Z (rPanic Z Z) ⟨Z, Z⟩)))))))
theorem itoa_len64 {n : Int} (h1 : -9223372036854775808 ≤ n) (h2 : n ≤ 9223372036854775807) : (Lib.itoa n).length ≤ 20 := by
 unfold Lib.itoa
 split
 ·have := dec_len 19 n.natAbs (by omega) (by omega)
  simp only [List.length_cons]; omega
 have := dec_len 19 n.toNat (by omega) (by omega)
 omega
theorem join_len : ∀ (xs : List (List UInt8)) (m : Nat), (∀ x ∈ xs, x.length ≤ m) → (Lib.join xs [32]).length ≤ xs.length * (m + 1)
 | [], m, _ => by rw [Lib.join_nil]; simp
 | x :: r, m, h => by
  have hx := h x (by simp)
  rw [Lib.join_cons, List.length_append]
  have : ∀ (r : List (List UInt8)), (∀ x ∈ r, x.length ≤ m) → (Lib.joinTail [32] r).length ≤ r.length * (m + 1) := fun r => by
   induction r with
   | nil => intro _; simp [Lib.joinTail]
   | cons y r ih =>
    intro h
    have hy := h y (by simp)
    have := ih (fun x hx => h x (by simp [hx]))
    unfold Lib.joinTail at this ⊢
    rw [List.map_cons, List.flatten_cons, List.length_append, List.length_cons, Nat.succ_mul]
    simp only [List.length_append, List.length_singleton]
    omega
  have := this r (fun x hx => h x (by simp [hx]))
  rw [List.length_cons, Nat.succ_mul]
  omega
def in64 (l : List Int) : Prop := ∀ x ∈ l, -9223372036854775808 ≤ x ∧ x ≤ 9223372036854775807
theorem numsT_len {l : List Int} (h : in64 l) : (numsT l).length ≤ l.length * 21 := by
 have := join_len (l.map Lib.itoa) 20 (fun x hx => by
  obtain ⟨n, hn, rfl⟩ := List.mem_map.1 hx
  exact itoa_len64 (h n hn).1 (h n hn).2)
 rwa [List.length_map] at this
theorem join0_any (A : Option Addr) (c : Nat) (w0 : World) : Cq 11 #[.slice A 0 c, strV [32]] w0 fun e w' => e = .returned (strV (Lib.join [] [32])) ∧ Pure w0 w' := by
 have hI := Inv.start (fun _ => False) w0
 exact Vm func11 Z (Wq (T5 Z (Wn (Ws (Wq (Va Z (Vo Z yy42 Z (Wn (Wb (Wq (Vx Z (Vc Z (Yt Z (Wq (T5 Z (Wn (WR (r1_ 4 Z ⟨Z, hI.pu⟩))))))))))))))))))
theorem numbers_any (A : Option Addr) (n c : Nat) (l : List Int) (D : Nat → Prop) (w0 : World) (h : Ints w0 D (.slice A n c) l) (hn : n = l.length) (hl : l.length ≤ 200) (h64 : in64 l) (hG : TxG w0) :
  Cq 5 #[.slice A n c] w0 fun e w' => e = .returned (strV (numsT l)) ∧ Pure w0 w' := by
 subst hn
 have hI := Inv.start (fun _ => False) w0
 refine Vm func5 Z (Wq (T5 Z (Wn (Wq (Vg Z (Wn (Wx (fun ρ w => ∃ (A3 : Option Addr) (c3 : Nat), Has ρ [(3, .slice A3 l.length c3)] ∧ Inv NF w0 w [Row 0 9 1 A3 l.length c3 (l.map fun x => strV (Lib.itoa x))]) ?_ ?_)))))))
 ·replace hI : Inv NF w0 w0 [Row 0 9 1 none 0 0 ((l.take 0).map fun x => strV (Lib.itoa x))] := hI.fresh (Pure.refl w0) (Row.nil w0 0 9 1) (fun k hk => by cases hk)
  refine Wq (Va Z (Vo Z yy41 Z (V0 Z (Wn (Wb ?_)))))
  refine Wl (fun mu ρ w => ∃ (k : Nat) (A3 : Option Addr) (c3 : Nat), mu = l.length - k ∧ k ≤ l.length ∧ Has ρ [(8, Y (k : Int)), (7, Y (l.length : Int)), (6, .slice A l.length c), (3, .slice A3 k c3)] ∧ Inv NF w0 w [Row 0 9 1 A3 k c3 ((l.take k).map fun x => strV (Lib.itoa x))]) l.length
   ⟨0, none, 0, rfl, by omega, ⟨rfl, rfl, rfl, rfl, trivial⟩, hI⟩ ?_
  clear hI
  rintro mu ρ w ⟨k, A3, c3, rfl, hk, hH, hI⟩
  obtain ⟨σ, rfl⟩ := hH.open
  by_cases hkl : k < l.length
  rotate_left
  ·obtain rfl : k = l.length := by omega
   refine Wq (Vr Z (Yg Z (WE ?_)))
   rw [List.take_length] at hI
   exact ⟨A3, c3, g1_, hI⟩
  obtain ⟨b, o, rfl, _, _, hc⟩ := h.get (k := k) (by omega)
  have hx : l[k]? = some l[k] := gE_ (by omega)
  have hx64 := h64 _ (gM_ hx)
  have htk : (l.take (k + 1)).map (fun x => strV (Lib.itoa x)) = (l.take k).map (fun x => strV (Lib.itoa x)) ++ [strV (Lib.itoa l[k])] := by
   rw [List.take_add_one, hx, List.map_append]; rfl
  generalize l[k] = x at hx hx64 htk hc
  refine Wq (Vu Z (Yu Z (Wk (Ws (Wb (Wq (Tz Z yy41 Z (V6 (Y _) Z (hI.oldp hc) (Vb Z (Wn (Wr (Va Z (V0 Z (Vd [Y _] Z func10 Z ((itoa_any x hx64.1 hx64.2 _ (hG.pure hI.pu).num).mono (okP hI fun w1 hp1 hI => T3 [(0, .string _)] [_] [.string ⟨#[]⟩] [0] hI Z yy42 (fun _ => by kernel_rfl) ?_))))))))))))))))
  rintro b15 w - - hI
  refine WL_app1 (z := .string ⟨#[]⟩) (by_ := 16) hI Z Z Z Z Z Z yy42 (by kernel_rfl) Z (by omega) (by rfl) hI.lit0 (by rfl) (by omega) (by omega) (by exact Nat.zero_le _) ?_
  rintro A16 c16 w hA16 hc16 hI
  have hI := hI.d0
  refine Vg Z (Wn ?_)
  replace hI : Inv NF w0 w [Row 0 9 1 A16 (k + 1) c16 ((l.take k).map (fun x => strV (Lib.itoa x)) ++ [strV (Lib.itoa x)])] := hI
  rw [← htk] at hI
  exact Wr (Vl Z (V0 Z (Wn ⟨l.length - (k + 1), by omega, k + 1, A16, c16, rfl, by omega, g4_, hI⟩)))
 clear hI
 rintro ρ w ⟨A3, c3, hH, hI⟩
 obtain ⟨σ, rfl⟩ := hH.open
 have hjl := numsT_len h64
 rcases l with _ | ⟨x, r⟩
 ·exact Wq (Va Z (Vd [.slice _ _ _, .string _] Z func11 Z ((join0_any A3 c3 _).mono (okP hI fun w1 hp1 hI => T5 Z (Wn (WR (r1_ 2 Z ⟨Z, hI.pu⟩)))))))
 obtain ⟨bk, _, rfl, -, -, -, -, -, -⟩ := row_openB hI.g0 (by simp)
 have hR : w.ownsRow 0 9 1 (.slice (some ⟨bk, 0, none⟩) (x :: r).length c3) (x :: r).length ((x :: r).map fun x => strV (Lib.itoa x)) := hI.g0
 have hcap : (x :: r).length ≤ c3 := by
  have h1 := hR.2
  rcases h1 with ⟨hv, _⟩ | ⟨g, cap, cur, hv, _, _, hnc, _⟩
  ·injection hv with hv; cases hv
  injection hv with _ _ hv; subst hv; exact hnc
 have hbk : bk < w.heap.size := by
  have := row_cell1 hR (k := 0) (u := strV (Lib.itoa x)) rfl
  exact World.block_lt_of_cell? w _ this
 have hj := join_any bk 0 c3 ((x :: r).map Lib.itoa) w (fun j y hy => by
  rw [Nat.zero_add]
  refine row_cell1 hR ?_
  rw [List.getElem?_map] at hy ⊢
  cases h : (x :: r)[j]? with
  | none => rw [h] at hy; cases hy
  | some z => rw [h] at hy; injection hy with hy; subst hy; rfl) hbk (by rw [List.length_map]; omega) (by rw [List.length_map]; exact hcap) (by show (numsT (x :: r)).length ≤ _; omega)
 rw [List.length_map] at hj
 change Cq 11 #[.slice (some ⟨bk, 0, none⟩) (x :: r).length c3, strV [32]] w (fun e w' => e = .returned (strV (numsT (x :: r))) ∧ Pure w w') at hj
 generalize (x :: r) = l' at *
 exact Wq (Va Z (Vd [.slice _ _ _, .string _] Z func11 Z (hj.mono (okP hI fun w1 hp1 hI => T5 Z (Wn (WR (r1_ 2 Z ⟨Z, hI.pu⟩)))))))
theorem tolds_any (wd : List UInt8) (hwd : wd.length ≤ 1000) (A : Option Addr) (n c : Nat) (l : List Int) (D : Nat → Prop) (w0 : World) (h : Ints w0 D (.slice A n c) l) (hn : n = l.length) (hl : l.length ≤ 200) (h64 : in64 l) (hG : TxG w0) :
  Cq 61 #[strV wd, .slice A n c] w0 fun e w' => e = .returned (strV (toldT wd l)) ∧ Pure w0 w' := by
 subst hn
 have hI := Inv.start (fun _ => False) w0
 have hjl := numsT_len h64
 refine Vm func61 Z ?_
 refine Wq (T5 Z (Wn ?_))
 by_cases h0 : l = []
 ·subst h0
  refine Ws (Wq (Va Z (Vo Z yy41 Z ?_)))
  refine Wv Z (by exact rEql rfl rfl rfl) ?_
  refine Wn (Wc true Z (Wq (Ta Z (T5 Z (Wn ?_)))))
  exact WR (r1_ 4 Z ⟨Z, hI.pu⟩)
 have hlen : ¬ (l.length = 0) := fun h => h0 (List.length_eq_zero_iff.1 h)
 have ht : toldT wd l = wd ++ [32] ++ numsT l := by unfold toldT; rw [if_neg h0]; simp
 have hc := (numbers_any A l.length c l D w0 h rfl hl h64 hG)
 rw [ht]
 have hb1 : wd.length + ([32] : List UInt8).length ≤ 9223372036854775807 := by simp; omega
 have hb2 : (wd ++ [32]).length + (numsT l).length ≤ 9223372036854775807 := by simp; omega
 generalize numsT l = nt at *
 refine Ws (Wq (Va Z (Vo Z yy41 Z (Vs Z (Wn (Wc false Z (Wk (Wq (Ta Z ?_)))))))))
 refine Wv Z (rStrAdd Z Z Z (by omega)) ?_
 refine Va Z (Vd [.slice _ _ _] Z func5 Z ?_)
 refine hc.mono (okP hI fun w1 hp1 hI => ?_)
 refine Wv Z (rStrAdd Z Z Z (by omega)) ?_
 refine T5 Z (Wn ?_)
 exact WR (r1_ 4 Z ⟨Z, hI.pu⟩)
def NumQ (r : Option Int) (w0 : World) (en : Ending) (w' : World) : Prop := Pure w0 w' ∧ match r with
 | some n => en = .returned (.int .i64 n) ∧ -9223372036854775808 ≤ n ∧ n ≤ 9223372036854775807
 | none => en = .panicked (pan (.iface 49 (.int .i64 3)))
theorem number_any (t : List UInt8) (ht : t.length ≤ 100000) (w0 : World) (hG : TxG w0) :
  Cq 122 #[strV t] w0 (NumQ (readN t) w0) := by
 have hI := Inv.start (fun _ => False) w0
 have hrd : readN t = match Lib.atoiAll t with
  | .ok n => if Lib.itoa n = t then some n else none
  | _ => none := rfl
 refine calls_of_WP (N := Tryz.f122.ntmps) func122 Z Z Z (Wq (Vb Z (Wn (Wx (fun ρ w => ∃ n v, Has ρ [(0, strV t), (3, Y n), (4, v)] ∧ Pure w0 w ∧ ((Lib.atoiAll t = .ok n ∧ -9223372036854775808 ≤ n ∧ n ≤ 9223372036854775807 ∧ v = .nilIface) ∨ (readN t = none ∧ ∃ T u, v = .iface T u))) ?_ ?_))))
 ·refine Wr (Ta Z (Vd [.string _] Z func153 Z ((atoi_any t (by omega) _ (hG.pure hI.pu).num).mono ?_)))
  unfold atoiPost
  rintro e w1 ⟨he, hp1⟩
  obtain ⟨n7, v8, rfl, hcase⟩ : ∃ n7 v8, e = .returned (.tuple #[.int .i64 n7, v8]) ∧ ((Lib.atoiAll t = .ok n7 ∧ -9223372036854775808 ≤ n7 ∧ n7 ≤ 9223372036854775807 ∧ v8 = .nilIface) ∨ (readN t = none ∧ ∃ T u, v8 = .iface T u)) := by
   revert he
   rw [hrd]
   cases hat : Lib.atoiAll t with
   | ok n => rintro ⟨rfl, h1, h2⟩; exact ⟨_, _, rfl, .inl ⟨rfl, h1, h2, rfl⟩⟩
   | _ => rintro ⟨n, T, u, rfl⟩; exact ⟨_, _, rfl, .inr ⟨rfl, _, _, rfl⟩⟩
  refine rV ?_
  have hI := hI.pure hp1
  exact T4 Z (Vj Z (Vj Z (Vb Z (U7 Z (Wn ⟨n7, v8, g3_, hI.pu, hcase⟩)))))
 clear hI
 rintro ρ w ⟨n, v, hH, hp, hcase⟩
 obtain ⟨σ, rfl⟩ := hH.open
 have hI := (Inv.start (fun _ => False) w0).pure hp
 rcases hcase with ⟨hat, hn1, hn2, rfl⟩ | ⟨hrn, T, u, rfl⟩
 rotate_left
 ·refine Ws (Wq (Vy Z (U0 Z yy37 Z (V7 Z (V5 Z (V5 Z (V5 Z (V5 Z (Vk Z (Yt Z (Wr (T0 Z yy49 Z (WL_panic Z (rPanic Z Z) ?_)))))))))))))
  rw [hrn]
  exact ⟨hI.pu, Z⟩
 by_cases hit : Lib.itoa n = t
 rotate_left
 ·have hrn : readN t = none := by rw [hrd, hat]; exact if_neg hit
  refine Ws (Wq (Td Z (Tv Z yy37 Z (V7 Z (V0 Z (Vd [Y _] Z func10 Z ((itoa_any n (by omega) (by omega) _ (hG.pure hI.pu).num).mono (okP hI fun w1 hp1 hI => Ta Z (Wv Z (by exact rStrNeT rfl rfl rfl (by assumption)) (Vi Z (Yt Z (Wr (T0 Z yy49 Z (WL_panic Z (rPanic Z Z) ?_))))))))))))))
  rw [hrn]
  exact ⟨hI.pu, Z⟩
 have hrn : readN t = some n := by rw [hrd, hat]; exact if_pos hit
 subst hit
 refine Ws (Wq (Td Z (Tv Z yy37 Z (V7 Z (V0 Z (Vd [Y _] Z func10 Z ((itoa_any n (by omega) (by omega) _ (hG.pure hI.pu).num).mono (okP hI fun w1 hp1 hI => Ta Z (Wv Z (rStrNeF Z Z Z Z) (Vi Z (Yf Z (Wk (Wq (V0 Z (Vb Z (Wn (WR ?_)))))))))))))))))
 rw [hrn]
 exact r1_ 2 Z ⟨hI.pu, Z, by omega, by omega⟩
theorem cutX_any (l : List UInt8) (hl : l.length ≤ 100000) (w : World) (hM : MaxOk w) :
  Cq 121 #[strV l, strV [120]] w fun e w' => e = .returned (.tuple #[strV (Lib.cut l [120]).1, strV (Lib.cut l [120]).2.1, .bool (Lib.cut l [120]).2.2]) ∧ Pure w w' := by
 obtain ⟨m, hm⟩ := hM
 have hz : (⟨l.toArray⟩ : ByteArray).size = l.length := str_size _
 refine (Any.strings_Cut { laysM145 with } ⟨l.toArray⟩ ⟨#[120]⟩ m w (by omega) hm).mono ?_
 rintro e w' ⟨rfl, n, rfl⟩
 rw [str_list, str_list]
 exact ⟨Z, (Pure.refl w).drewN n⟩
theorem cut_len (s sep : List UInt8) : (Lib.cut s sep).1.length ≤ s.length ∧ (Lib.cut s sep).2.1.length ≤ s.length := by
 unfold Lib.cut
 split
 ·simp; omega
 simp
def readS : List UInt8 → Option St
 | [] => none
 | c :: r =>
  if c.toNat = 114 ∨ c.toNat = 119 then
   if (Lib.cut r [120]).2.2 = true then
    match readN (Lib.cut r [120]).1 with
    | some x => match readN (Lib.cut r [120]).2.1 with
     | some y => some ⟨x, if c.toNat = 119 then 2 else 1, y⟩
     | none => none
    | none => none
   else none
  else if c.toNat = 99 then (readN r).map fun x => ⟨x, 3, 0⟩
  else if c.toNat = 97 then (readN r).map fun x => ⟨x, 4, 0⟩
  else none
def StepQ (r : Option St) (w0 : World) (en : Ending) (w' : World) : Prop := Pure w0 w' ∧ match r with
 | some s => en = .returned (.agg (stV s).toArray)
 | none => en = .panicked (pan (.iface 49 (.int .i64 3)))
theorem dstep_any (ch : UInt8) (r : List UInt8) (hr : r.length ≤ 90000) (w0 : World) (hG : TxG w0) (hM : MaxOk w0) :
  Cq 69 #[strV (ch :: r)] w0 (StepQ (readS (ch :: r)) w0) := by
 have hI := Inv.start (fun _ => False) w0
 obtain ⟨r1, hr1⟩ : ∃ r1, readS (ch :: r) = r1 := ⟨_, rfl⟩
 rw [hr1]
 have hcl := cut_len r [120]
 have h0 : (ch :: r)[0]? = some ch := rfl
 have hlen1 : 1 ≤ (ch :: r).length := by simp
 have hdr : (ch :: r).drop 1 = r := rfl
 obtain ⟨t, ht⟩ : ∃ t, t = ch :: r := ⟨_, rfl⟩
 rw [← ht] at h0 hlen1 hdr ⊢
 unfold readS at hr1; dsimp only at hr1
 obtain ⟨z, hz⟩ : ∃ z : Nat, ch.toNat = z := ⟨_, rfl⟩
 rw [hz] at hr1
 refine calls_of_WP (N := Tryz.f69.ntmps) func69 Z Z Z (Wq (Vz (.agg #[Y 0, Y 0, Y 0]) (#[Y 0, Y 0, Y 0]) hI Z ?_))
 rintro b2 w - - hI
 refine Wn ?_
 have h0z : ∀ (P : Program) (ρ : Env) (o : Oper) (T : TypeId) (x y : Operand) (k : IntKind) (w : World), o.op = .index T x y → P.underlying T = some .string → ev ρ x = strV t → ev ρ y = .int k ((0 : Nat) : Int) → Runs P ρ o w (.int .u8 (z : Int)) := fun P ρ o T x y k w q1 q2 q3 q4 => by
  rw [← hz]; exact rStrAt q1 q2 q3 q4 h0
 refine Ws (Wq (Ta Z (Wv Z (h0z _ _ _ _ _ _ _ _ Z yy9 Z Z) (Wn (Wb ?_)))))
 by_cases hrw : z = 114 ∨ z = 119
 rotate_left
 ·rw [if_neg hrw] at hr1
  have n1 : z ≠ 114 := fun h => hrw (.inl h)
  have n2 : z ≠ 119 := fun h => hrw (.inr h)
  refine Ws (Wq (Vs Z (Vc Z (Yf Z (Wr (Vs Z (Vc Z (Yf Z ?_))))))))
  by_cases hc : z = 99
  ·subst hc
   rw [if_pos rfl] at hr1
   refine Wq (Vx Z (Vc Z (Yt Z (Wq (Ta Z (Wv Z (rStrSlFrom (a := 1) Z yy9 Z Z (by omega)) (WL_callP Z Z Z (rCall (vs := [.string _]) Z func122 Z Z Z) ?_)))))))
   rw [hdr]
   refine (number_any r (by omega) _ (hG.pure hI.pu)).mono ?_
   rintro e w1 ⟨hp1, he⟩
   cases hrn : readN r with
   | none =>
    rw [hrn] at he hr1
    subst hr1 he
    exact .inr ⟨_, Z, (hI.pure hp1).pu, Z⟩
   | some x => ?_
   rw [hrn] at he hr1
   obtain ⟨rfl, -, -⟩ := he
   refine .inl ⟨_, Z, ?_⟩
   have hI := hI.pure hp1
   refine Tc [(0, Y _), (1, Y _)] [_, _, _] Z [Y 0, Y 0, Y 0] [0, 1] Z (fun _ => by kernel_rfl) (T2 3 (#[_, _, _]) (.agg _) hI rfl ?_)
   intro w hI
   refine Wn (WR ?_)
   subst hr1
   exact retC (n := 3) (t := 114) (.inr Z) Z Z (by kernel_rfl) (by kernel_rfl) Z hI.g0 ⟨hI.pu, Z⟩
  rw [if_neg hc] at hr1
  refine Wq (Vs Z (Vc Z (Yf Z ?_)))
  by_cases ha : z = 97
  ·subst ha
   rw [if_pos rfl] at hr1
   refine Wq (Vx Z (Vc Z (Yt Z (Wq (Ta Z (Wv Z (rStrSlFrom (a := 1) Z yy9 Z Z (by omega)) (WL_callP Z Z Z (rCall (vs := [.string _]) Z func122 Z Z Z) ?_)))))))
   rw [hdr]
   refine (number_any r (by omega) _ (hG.pure hI.pu)).mono ?_
   rintro e w1 ⟨hp1, he⟩
   cases hrn : readN r with
   | none =>
    rw [hrn] at he hr1
    subst hr1 he
    exact .inr ⟨_, Z, (hI.pure hp1).pu, Z⟩
   | some x => ?_
   rw [hrn] at he hr1
   obtain ⟨rfl, -, -⟩ := he
   refine .inl ⟨_, Z, ?_⟩
   have hI := hI.pure hp1
   refine Tc [(0, Y _), (1, Y _)] [_, _, _] Z [Y 0, Y 0, Y 0] [0, 1] Z (fun _ => by kernel_rfl) (T2 3 (#[_, _, _]) (.agg _) hI rfl ?_)
   intro w hI
   refine Wn (WR ?_)
   subst hr1
   exact retC (n := 3) (t := 114) (.inr Z) Z Z (by kernel_rfl) (by kernel_rfl) Z hI.g0 ⟨hI.pu, Z⟩
  rw [if_neg ha] at hr1
  subst hr1
  exact Wq (Vs Z (Vc Z (Yf Z (Wk (Wr (T0 Z yy49 Z (WL_panic Z (rPanic Z Z) ⟨hI.pu, Z⟩)))))))
 rw [if_pos hrw] at hr1
 refine Wx (fun ρ w => Has ρ [(0, strV t), (2, .pointer (some ⟨b2, 0, none⟩)), (8, .int .u8 (z : Int)), (9, .bool true)] ∧ Inv NF w0 w [B b2 114 #[Y 0, Y 0, Y 0]]) ?_ ?_
 ·rcases hrw with rfl | rfl
  ·exact Wq (Vx Z (Vc Z (Yt Z (Wk ⟨g4_, hI⟩))))
  exact Wq (Vs Z (Vc Z (Yf Z (Wr (Vx Z (Vc Z (Wn ⟨g4_, hI⟩)))))))
 clear hI
 rintro ρ w ⟨hH, hI⟩
 obtain ⟨σ, rfl⟩ := hH.open
 refine Wc true Z ?_
 obtain ⟨ca, hca⟩ : ∃ a, (Lib.cut r [120]).1 = a := ⟨_, rfl⟩
 obtain ⟨cb, hcb⟩ : ∃ a, (Lib.cut r [120]).2.1 = a := ⟨_, rfl⟩
 obtain ⟨cf, hcf⟩ : ∃ a, (Lib.cut r [120]).2.2 = a := ⟨_, rfl⟩
 have hcut := cutX_any r (by omega)
 rw [hca, hcb, hcf] at hcut
 rw [hca, hcb] at hcl
 rw [hca, hcb, hcf] at hr1
 refine Wq (Ta Z (Wv Z (rStrSlFrom (a := 1) Z yy9 Z Z (by omega)) (Vd [.string _, .string _] Z func121 Z ?_)))
 rw [hdr]
 refine (hcut _ (hM.pure hI.pu)).mono (okP hI fun w1 hp1 hI => T4 Z (Vj Z (Vj Z (Vj Z (T5 Z (T5 Z (Vc Z (Wn ?_))))))))
 cases cf with
 | false =>
  rw [if_neg (by decide)] at hr1
  subst hr1
  exact Ws (Wq (V7 Z (To Z (Yt Z (Wr (T0 Z yy49 Z (WL_panic Z (rPanic Z Z) ⟨hI.pu, Z⟩)))))))
 | true => ?_
 rw [if_pos rfl] at hr1
 refine Ws (Wq (V7 Z (Tf Z (Yf Z (Wk (Wq (Vb Z (Wn ?_))))))))
 obtain ⟨kd, hkd⟩ : ∃ kd : Int, (if z = 119 then 2 else 1) = kd := ⟨_, rfl⟩
 rw [hkd] at hr1
 refine Wx (fun ρ w => Has ρ [(3, strV ca), (4, strV cb), (2, .pointer (some ⟨b2, 0, none⟩)), (6, Y kd)] ∧ Inv NF w0 w [B b2 114 #[Y 0, Y 0, Y 0]]) ?_ ?_
 ·rcases hrw with rfl | rfl
  ·rw [if_neg (by decide)] at hkd
   subst hkd
   exact Wq (Ta Z (Wv Z (h0z _ _ _ _ _ _ _ _ Z yy9 Z Z) (Vs Z (Yf Z (Wk ⟨g4_, hI⟩)))))
  rw [if_pos rfl] at hkd
  subst hkd
  exact Wq (Ta Z (Wv Z (h0z _ _ _ _ _ _ _ _ Z yy9 Z Z) (Vx Z (Yt Z (Wr (Vb Z (Wn ⟨g4_, hI⟩)))))))
 clear hI
 rintro ρ w ⟨hH, hI⟩
 obtain ⟨σ, rfl⟩ := hH.open
 refine Wq (Ta Z (WL_callP Z Z Z (rCall (vs := [.string _]) Z func122 Z Z Z) ((number_any ca (by omega) _ (hG.pure hI.pu)).mono ?_)))
 rintro e w1 ⟨hp1, he⟩
 cases hrn : readN ca with
 | none =>
  rw [hrn] at he hr1
  subst hr1 he
  exact .inr ⟨_, Z, (hI.pure hp1).pu, Z⟩
 | some x => ?_
 rw [hrn] at he hr1
 obtain ⟨rfl, -, -⟩ := he
 refine .inl ⟨_, Z, ?_⟩
 have hI := hI.pure hp1
 refine V0 Z (Ta Z (WL_callP Z Z Z (rCall (vs := [.string _]) Z func122 Z Z Z) ((number_any cb (by omega) _ (hG.pure hI.pu)).mono ?_)))
 rintro e w1 ⟨hp1, he⟩
 cases hrn : readN cb with
 | none =>
  rw [hrn] at he hr1
  subst hr1 he
  exact .inr ⟨_, Z, (hI.pure hp1).pu, Z⟩
 | some y => ?_
 rw [hrn] at he hr1
 obtain ⟨rfl, -, -⟩ := he
 refine .inl ⟨_, Z, ?_⟩
 have hI := hI.pure hp1
 refine Tc [(0, Y _), (1, Y _), (2, Y _)] [_, _, _] Z [Y 0, Y 0, Y 0] [0, 1, 2] Z (fun _ => by kernel_rfl) (T2 3 (#[_, _, _]) (.agg _) hI rfl ?_)
 intro w hI
 refine Wn (WR ?_)
 subst hr1
 exact retC (n := 3) (t := 114) (.inr Z) Z Z (by kernel_rfl) (by kernel_rfl) Z hI.g0 ⟨hI.pu, Z⟩
structure Ses where
 evs : List Ev
 sts : List St
abbrev SesE (b : Nat) (A1 : Option Addr) (c1 : Nat) (A2 : Option Addr) (c2 : Nat) (s : Ses) : List Ent :=
 [B b 29 #[.slice A1 s.evs.length c1, .slice A2 s.sts.length c2], Win 167 7 A1 s.evs.length c1 (s.evs.flatMap evL), Win 114 3 A2 s.sts.length c2 (s.sts.flatMap stV)]
def SesI (w0 w : World) (b : Nat) (s : Ses) (H : List Ent) : Prop := ∃ A1 c1 A2 c2, Inv NF w0 w (SesE b A1 c1 A2 c2 s ++ H)
structure SesOk (s : Ses) : Prop where
 st : OkSteps s.sts
 ev : s.evs.length ≤ 120
 op : ∃ ops, evF s.evs = some ops
def MethQ (r : Except Int (List UInt8 × Ses)) (s : Ses) (w0 : World) (b : Nat) (H : List Ent) (en : Ending) (w' : World) : Prop := match r with
 | .ok (t, s') => en = .returned (strV t) ∧ SesI w0 w' b s' H
 | .error z => ∃ T v, en = .panicked (pan (.iface T v)) ∧ ∃ A1 c1 A2 c2, Inv NF w0 w' (ErrE (.iface T v) z :: (SesE b A1 c1 A2 c2 s ++ H))
theorem MethQ.bad {r : Except Int (List UInt8 × Ses)} {z : Int} {s : Ses} {w' : World} {b T : Nat} {v : Value} {A1 A2 : Option Addr} {c1 c2 : Nat} (hr : r = .error z) (hI : Inv NF w0 w' (ErrE (.iface T v) z :: (SesE b A1 c1 A2 c2 s ++ H))) :
  MethQ r s w0 b H (.panicked (pan (.iface T v))) w' := by subst hr; exact ⟨T, v, rfl, _, _, _, _, hI⟩
theorem MethQ.good {r : Except Int (List UInt8 × Ses)} {t : List UInt8} {s s' : Ses} {w' : World} {b : Nat} {A1 A2 : Option Addr} {c1 c2 : Nat} (hr : r = .ok (t, s')) (hI : Inv NF w0 w' (SesE b A1 c1 A2 c2 s' ++ H)) :
  MethQ r s w0 b H (.returned (strV t)) w' := by subst hr; exact ⟨rfl, _, _, _, _, hI⟩
theorem Inv.win0 {e size n c : Nat} {A : Option Addr} {xs : List Value} (i : Nat) (hi : H[i]? = some (Win e size A n c xs)) (hI : Inv NF w0 w H) : Rd w (fun _ => True) size (.slice A n c) n xs :=
 Win.rd (hI.ok _ (gM_ hi)).1 (fun _ _ => trivial)
theorem ints_blk {g T : Nat} {cs : Array Value} {l : List Int} (hb : Blk w g T cs) (hc : cs.toList = l.map (Value.int .i64)) (hn : l.length ≤ 9223372036854775807) : Ints w (fun _ => True) (.slice (some ⟨g, 0, none⟩) l.length l.length) l := by
 refine ⟨_, _, Z, Nat.le_refl _, hn, by simp, fun _ => ⟨g, 0, rfl, trivial, fun j u hj => ?_⟩⟩
 rw [hb.cell, Nat.zero_add, ← Array.getElem?_toList, hc]
 exact hj
theorem ops_any (w0 w : World) (b : Nat) (s : Ses) (A1 A2 : Option Addr) (c1 c2 : Nat) (H : List Ent) (l : List Op8) (hl : evF s.evs = some l) (hI : Inv NF w0 w (SesE b A1 c1 A2 c2 s ++ H)) (hG : TxG w0) :
  Cq 56 #[.pointer (some ⟨b, 0, none⟩)] w fun e w' => ∃ A c, e = .returned (.slice A l.length c) ∧ Inv NF w0 w' (OpsE A c l :: (SesE b A1 c1 A2 c2 s ++ H)) := by
 have hR := hI.win0 1 rfl
 generalize hH1 : SesE b A1 c1 A2 c2 s ++ H = H1 at *
 have hB : Blk w b 29 #[.slice A1 s.evs.length c1, .slice A2 s.sts.length c2] := by subst hH1; exact hI.g0
 have hf := hB.cell 0
 refine Vm func56 Z (Wq (Vg Z (Wn (Wq (T1 Z (Tj Z (V8 0 Z (V6 (.slice _ _ _) Z (hB.cell 0) (Vd [.slice _ _ _] Z func67 Z ((evopsN_any A1 s.evs.length c1 s.evs _ _ hR (hG.pure hI.pu).err).mono ?_))))))))))
 rw [hl]
 rintro e w1 ⟨A, c, rfl, hJ⟩
 refine rV ?_
 have hI := hI.app1 hJ
 refine T4 Z (Vj Z (Vj Z (Vg Z (Vw Z (Wn (Wq (Td Z (Vd [_] Z func54 Z ((chkE_nil _).mono ?_)))))))))
 rintro e w1 ⟨rfl, rfl⟩
 exact rV (Wn (Wq (Va Z (Vg Z (Wn (WR (r1_ 2 Z ⟨_, _, Z, hI⟩)))))))
theorem Rd.form2 {D : Nat → Prop} {size n c : Nat} {A : Option Addr} {xs : List Value} (h : Rd w D size (.slice A n c) n xs) : n ≤ c ∧ c ≤ 9223372036854775807 := by
 obtain ⟨A', c', hv, h1, h2⟩ := h.form
 injection hv with _ _ e
 subst e
 exact ⟨h1, h2⟩
theorem src_blkS {P : Program} {g e t size m : Nat} {news : List Value} (ht : P.underlying t = some (.slice e)) (hB : Blk w g e news.toArray) (hl : news.length = m * size) (h1 : ∀ u ∈ news, u.oneCell' = true) : Src P size t (.slice (some ⟨g, 0, none⟩) m m) m news w :=
 Src.ofSlice _ ht _ _ _ _ hl (fun j u hj => by rw [Addr.add_lit, hB.cell, Nat.zero_add]; simpa using hj) h1
def readSs : List (List UInt8) → Option (List St)
 | [] => some []
 | t :: r => match readS t with
  | some s => match readSs r with
   | some l => some (s :: l)
   | none => none
  | none => none
theorem readSs_len : ∀ {ws : List (List UInt8)} {l : List St}, readSs ws = some l → l.length = ws.length
 | [], l, h => by injection h with h; subst h; rfl
 | t :: r, l, h => by
  unfold readSs at h
  split at h
  ·split at h
   ·next hr => injection h with h; subst h; simp [readSs_len hr]
   cases h
  cases h
theorem readSs_take : ∀ (ws : List (List UInt8)) (k : Nat) (t : List UInt8) (l : List St) (x : St), ws[k]? = some t → readSs (ws.take k) = some l → readS t = some x → readSs (ws.take (k + 1)) = some (l ++ [x])
 | [], k, t, l, x, h, _, _ => by simp at h
 | y :: r, 0, t, l, x, h, h1, h2 => by
  simp at h; subst h
  simp [readSs] at h1; subst h1
  simp [readSs, h2]
 | y :: r, k + 1, t, l, x, h, h1, h2 => by
  simp at h
  rw [List.take_succ_cons] at h1 ⊢
  unfold readSs at h1 ⊢
  split at h1
  ·next s hs =>
   split at h1
   ·next l' hl' =>
    injection h1 with h1; subst h1
    rw [readSs_take r k t l' x h hl' h2]
    rfl
   cases h1
  cases h1
theorem readSs_bad : ∀ (ws : List (List UInt8)) (k : Nat) (t : List UInt8), ws[k]? = some t → readS t = none → readSs ws = none
 | [], k, t, h, _ => by simp at h
 | y :: r, 0, t, h, h2 => by
  simp at h; subst h
  simp [readSs, h2]
 | y :: r, k + 1, t, h, h2 => by
  simp at h
  unfold readSs
  rw [readSs_bad r k t h h2]
  split <;> rfl
def addF (s : Ses) (ws : List (List UInt8)) : Except Int (List UInt8 × Ses) := match readSs ws with
 | none => .error 3
 | some l => match badE (s.sts ++ l) with
  | some z => .error z
  | none => .ok (numsT [((s.sts ++ l).length : Int)], ⟨s.evs, s.sts ++ l⟩)
theorem badE_none {l : List St} (h : OkSteps l) : badE l = none := by
 unfold badE
 rw [if_neg (by have := h.1; omega), List.findSome?_eq_none_iff]
 exact fun k hk => atE_none (h.2 k (List.mem_range.1 hk))
theorem flat_one (l : List St) (x : St) : (l ++ [x]).flatMap stV = l.flatMap stV ++ stV x := by simp
def AddI (w0 w : World) (k n : Nat) (A2 Ak : Option Addr) (nk ck : Nat) (l : List St) (H : List Ent) : Prop :=
 nk = l.length ∧ (¬ 0 < k → Ak = A2 ∧ ck = n) ∧ Inv NF w0 w (Maybe (0 < k) (Win 114 3 Ak nk ck (l.flatMap stV)) :: H)
theorem stV_one (x : St) : ∀ v ∈ stV x, v.oneCell' = true := fun v hv => by
 simp [stV] at hv
 rcases hv with rfl | rfl | rfl <;> rfl
theorem add_any (w0 w : World) (b : Nat) (s : Ses) (H : List Ent) (hs : SesOk s) (ws : List (List UInt8)) (hws : ∀ t ∈ ws, t ≠ [] ∧ t.length ≤ 90000) (hwn : ws.length ≤ 100000) (A : Option Addr) (c : Nat) (hI : SesI w0 w b s (Win 9 1 A ws.length c (ws.map strV) :: H)) (hG : TxG w0) (hM : MaxOk w0) :
  Cq 39 #[.pointer (some ⟨b, 0, none⟩), .slice A ws.length c] w (MethQ (addF s ws) s w0 b (Win 9 1 A ws.length c (ws.map strV) :: H)) := by
 obtain ⟨A1, c1, A2, c2, hI⟩ := hI
 have hR2 := hI.win0 2 rfl
 have hlen := hs.st.1
 replace hI : Inv NF w0 w (B b 29 #[.slice A1 s.evs.length c1, .slice A2 s.sts.length c2] :: Win 167 7 A1 s.evs.length c1 (s.evs.flatMap evL) :: Win 114 3 A2 s.sts.length c2 (s.sts.flatMap stV) :: Win 9 1 A ws.length c (ws.map strV) :: H) := hI
 obtain ⟨hc21, hc22⟩ := hR2.form2
 refine calls_of_WP (N := Tryz.f39.ntmps) func39 Z Z Z (Wq (T5 Z (Wn (Ws (Yi hI fun Sx hY hXS hI => T7 0 Z (T8 1 Z (Vf 2 1 Z (V9 3 (.slice _ _ _) Z (fun W hW => (hY W hW).c0 Z) (T7 4 Z (T8 5 Z (Vf 6 1 Z (V9 7 (.slice _ _ _) Z (fun W hW => (hY W hW).c0 Z) (U2 8 Z yy27 Z (T7 9 Z (T8 10 Z (Vf 11 1 Z (V9 12 (.slice _ _ _) Z (fun W hW => (hY W hW).c0 Z) (U2 13 Z yy27 Z (Wt 14 Z (fun W hW => have hI := hY W hW; (rSlice3 (sz := 3) Z yy27 (by kernel_rfl) Z Z Z hc21)) (U9 15 Z (Yz (Wx (fun ρ w => ∃ (l : List St) (Ak : Option Addr) (nk ck : Nat), readSs ws = some l ∧ Has ρ [(0, .pointer (some ⟨b, 0, none⟩)), (5, .slice Ak nk ck)] ∧ AddI w0 w ws.length s.sts.length A2 Ak nk ck (s.sts ++ l) (B b 29 #[.slice A1 s.evs.length c1, .slice A2 s.sts.length c2] :: Win 167 7 A1 s.evs.length c1 (s.evs.flatMap evL) :: Win 114 3 A2 s.sts.length c2 (s.sts.flatMap stV) :: Win 9 1 A ws.length c (ws.map strV) :: H)) ?_ ?_))))))))))))))))))))))
 ·refine Wq (Va Z (Vo Z yy42 Z (V0 Z (Wn (Wb ?_)))))
  refine Wl (fun mu ρ w => ∃ (k : Nat) (l : List St) (Ak : Option Addr) (nk ck : Nat), mu = ws.length - k ∧ k ≤ ws.length ∧ readSs (ws.take k) = some l ∧ Has ρ [(25, Y (k : Int)), (24, Y (ws.length : Int)), (23, .slice A ws.length c), (0, .pointer (some ⟨b, 0, none⟩)), (5, .slice Ak nk ck)] ∧ AddI w0 w k s.sts.length A2 Ak nk ck (s.sts ++ l) (B b 29 #[.slice A1 s.evs.length c1, .slice A2 s.sts.length c2] :: Win 167 7 A1 s.evs.length c1 (s.evs.flatMap evL) :: Win 114 3 A2 s.sts.length c2 (s.sts.flatMap stV) :: Win 9 1 A ws.length c (ws.map strV) :: H)) ws.length
   ⟨0, [], A2, s.sts.length, s.sts.length, rfl, by omega, rfl, ⟨rfl, rfl, rfl, rfl, rfl, trivial⟩, by rw [List.append_nil], fun _ => ⟨rfl, rfl⟩, hI.maybe0 (by omega)⟩ ?_
  clear hI
  rintro mu ρ w ⟨k, l, Ak, nk, ck, rfl, hk, hrd, hH, hA⟩
  obtain ⟨σ, rfl⟩ := hH.open
  by_cases hkn : k < ws.length
  rotate_left
  ·obtain rfl : k = ws.length := by omega
   rw [List.take_length] at hrd
   exact Wq (Vr Z (Yg Z (WE ⟨l, Ak, nk, ck, hrd, g2_, hA⟩)))
  have hll := readSs_len hrd
  rw [List.length_take, Nat.min_eq_left hk] at hll
  have hx : ws[k]? = some ws[k] := gE_ hkn
  obtain ⟨hne, htl⟩ := hws _ (gM_ hx)
  generalize ws[k] = t at hx hne htl
  obtain ⟨hnk, hA0, hI⟩ := hA
  have hnl : nk = s.sts.length + k := by rw [hnk, List.length_append, hll]
  obtain ⟨bA, oA, rfl, _, _, hc⟩ := (hI.win0 4 rfl).get (k := k) (u := strV t) (by rw [List.getElem?_map, hx]; rfl) (by omega)
  rcases t with _ | ⟨ch, r⟩
  ·exact absurd Z hne
  refine Wq (Vu Z (Yu Z (Wk (Ws (Wb (Wq (Tz Z yy42 Z (V6 (.string _) Z hc (T5 Z (Wn (Wr (Va Z (Ta Z (WL_callP Z Z Z (rCall (vs := [.string _]) Z func69 Z Z Z) ((dstep_any ch r (by simp at htl; omega) _ (hG.pure hI.pu) (hM.pure hI.pu)).mono ?_)))))))))))))))
  rintro e w1 ⟨hp1, he⟩
  cases hrn : readS (ch :: r) with
  | none =>
   rw [hrn] at he
   subst he
   exact .inr ⟨_, Z, MethQ.bad (by unfold addF; rw [readSs_bad ws k _ hx hrn]) ((hI.pure hp1).d0.err 3)⟩
  | some x => ?_
  rw [hrn] at he
  replace he : e = .returned (.agg (stV x).toArray) := he
  subst he
  have hrd1 := readSs_take ws k _ l x hx hrd hrn
  refine .inl ⟨_, Z, ?_⟩
  have hI := hI.pure hp1
  refine T3 [(0, .agg #[_, _, _])] [_, _, _] [Y 0, Y 0, Y 0] [0] hI Z yy27 (fun _ => by kernel_rfl) ?_
  rintro b32 w - - hI
  have hsrc := src_blkS yy27 (news := stV x) (m := 1) (size := 3) hI.g0 rfl (stV_one x)
  have hI := hI.d0
  refine WL_appM (z := .agg #[Y 0, Y 0, Y 0]) (by_ := 24) (news := stV x) _ hI (fun h0 => ⟨fun _ => True, ?_, ?_⟩) Z Z Z Z Z Z yy27 (by kernel_rfl) Z (by omega) hsrc (by omega) (by omega) ?_
  ·obtain ⟨rfl, rfl⟩ := hA0 h0
   have hl0 : l = [] := List.eq_nil_of_length_eq_zero (by omega)
   subst hl0
   rw [List.append_nil] at hnk ⊢
   subst hnk
   exact Win.rd (Win.full (hI.ok _ (gM_ (i := 3) Z)).1) (fun _ _ => trivial)
  ·obtain ⟨rfl, rfl⟩ := hA0 h0
   omega
  rintro A' c' w hc3 hc4 hI
  rw [← flat_one] at hI
  exact Vg Z (Wn (Wr (Vl Z (V0 Z (Wn ⟨ws.length - (k + 1), by omega, k + 1, l ++ [x], A', nk + 1, c', rfl, by omega, hrd1, g5_, by rw [← List.append_assoc, List.length_append, ← hnk]; rfl, fun h => absurd (Nat.succ_pos k) h, by rw [← List.append_assoc]; exact hI.maybe1 (Nat.succ_pos k)⟩)))))
 clear hI
 rintro ρ w ⟨l, Ak, nk, ck, hrd, hH, hnk, hA0, hI⟩
 obtain ⟨σ, rfl⟩ := hH.open
 have hll := readSs_len hrd
 have hnl : nk = s.sts.length + ws.length := by rw [hnk, List.length_append, hll]
 have hRd : Sts w (fun _ => True) (.slice Ak nk ck) (s.sts ++ l) := by
  unfold Sts
  rw [← hnk]
  by_cases h0 : 0 < ws.length
  ·unfold Maybe at hI
   rw [if_pos h0] at hI
   exact hI.win0 0 Z
  obtain ⟨rfl, rfl⟩ := hA0 h0
  have hl0 : l = [] := List.eq_nil_of_length_eq_zero (by omega)
  subst hl0
  rw [List.append_nil] at hnk ⊢
  subst hnk
  exact Win.rd (Win.full (hI.ok _ (gM_ (i := 3) Z)).1) (fun _ _ => trivial)
 cases hb : badE (s.sts ++ l) with
 | some z =>
  refine Wq (Va Z (Vd [.slice _ _ _] Z func70 Z ((checkS_any Ak nk ck (s.sts ++ l) _ _ hRd (hG.pure hI.pu).err).mono ?_)))
  rintro e w1 ⟨⟨ho, -⟩ | ⟨-, e1, n, rfl, hE, hF, hz⟩, hp1⟩
  ·rw [badE_none ho] at hb; cases hb
  rw [hb] at hz
  injection hz with hz
  subst hz
  obtain ⟨T, v, rfl⟩ := hE.iface
  refine rV ?_
  have hI := hI.fresh hp1 (ErrE.ok hE) (fun k hk => by obtain ⟨o, ho⟩ := hk; exact hF k o ho)
  refine WL_callP Z Z Z (rCall (vs := [.iface _ _]) Z func54 Z Z Z) ((chkE_err T v _).mono ?_)
  rintro e w2 ⟨rfl, rfl⟩
  exact .inr ⟨_, Z, MethQ.bad (by unfold addF; rw [hrd]; dsimp only; rw [hb]) hI.d1⟩
 | none =>
  replace hI : Inv NF w0 w (Win 114 3 Ak nk ck ((s.sts ++ l).flatMap stV) :: B b 29 #[.slice A1 s.evs.length c1, .slice A2 s.sts.length c2] :: Win 167 7 A1 s.evs.length c1 (s.evs.flatMap evL) :: Win 9 1 A ws.length c (ws.map strV) :: H) := by
   by_cases h0 : 0 < ws.length
   ·unfold Maybe at hI
    rw [if_pos h0] at hI
    exact hI.d3
   obtain ⟨rfl, rfl⟩ := hA0 h0
   have hl0 : l = [] := List.eq_nil_of_length_eq_zero (by omega)
   subst hl0
   rw [List.append_nil] at hnk ⊢
   subst hnk
   have hI2 := hI.d0.pull 2 rfl
   exact hI2.u0 (e' := Win 114 3 Ak s.sts.length s.sts.length (s.sts.flatMap stV)) (Chg.refl _ _) (Win.ok (Win.full (hI2.ok _ (List.mem_cons_self ..)).1)) (fun k hk => .inl hk)
  have hbl : ¬ 60 < (s.sts ++ l).length := fun h => by unfold badE at hb; rw [if_pos h] at hb; cases hb
  have hadd : addF s ws = .ok (numsT [(nk : Int)], ⟨s.evs, s.sts ++ l⟩) := by unfold addF; rw [hrd]; dsimp only; rw [hb, hnk]
  refine Wq (Va Z (Vd [.slice _ _ _] Z func70 Z ((checkS_any Ak nk ck (s.sts ++ l) _ _ hRd (hG.pure hI.pu).err).mono ?_)))
  rintro e w1 ⟨⟨-, rfl⟩ | ⟨-, e1, n, rfl, hE, hF, hz⟩, hp1⟩
  rotate_left
  ·rw [hb] at hz; cases hz
  refine rV ?_
  have hI := hI.pure hp1
  refine Vd [_] Z func54 Z ((chkE_nil _).mono ?_)
  rintro e w2 ⟨rfl, rfl⟩
  refine rV (Wn (Wq (T1 Z (Va Z (Tj Z (V8 1 Z (WL_st1 (u := .slice _ _ _) hI Z Z Z Z Z Z (by kernel_rfl) Z Z Z ?_)))))))
  intro w hI
  refine Wn (Wq (Va Z (Vo Z yy27 Z (T3 [(0, Y _)] [_] [Y 0] [0] hI Z yy41 (fun _ => by kernel_rfl) ?_))))
  rintro b44 w - - hI
  refine Vd [.slice _ _ _] Z func5 Z ((numbers_any _ _ _ [(nk : Int)] (fun _ => True) _ ?_ Z (by simp) (by intro x hx; simp at hx; omega) (hG.pure hI.pu)).mono ?_)
  ·exact ints_blk hI.g0 Z (by simp)
  rintro e w1 ⟨rfl, hp1⟩
  refine rV ?_
  have hI := hI.pure hp1
  refine T5 Z (Wn (WR (r1_ 4 Z (MethQ.good (A1 := A1) (c1 := c1) (A2 := Ak) (c2 := ck) hadd ?_))))
  subst hnk
  exact hI.d0.back 2
def seeMF (s : Ses) (ws : List (List UInt8)) : Except Int (List UInt8 × Ses) := match parse1 (Lib.join ws [32]) with
 | .error z => .error z
 | .ok l => match evF (s.evs ++ l) with
  | none => .error (errO (s.evs ++ l))
  | some _ => .ok (numsT [((s.evs ++ l).length : Int)], ⟨s.evs ++ l, s.sts⟩)
theorem parse1_len {t : List UInt8} {l : List Ev} (h : parse1 t = .ok l) : l.length ≤ 1 := by
 unfold parse1 at h
 split at h
 ·injection h with h; subst h; simp
 split at h
 ·injection h with h; subst h; simp
 cases h
theorem join_no : ∀ (ws : List (List UInt8)), (∀ t ∈ ws, (10 : UInt8) ∉ t) → (10 : UInt8) ∉ Lib.join ws [32]
 | [], _ => by rw [Lib.join_nil]; simp
 | x :: r, h => by
  rw [Lib.join_cons]
  have hx := h x (by simp)
  have : ∀ (r : List (List UInt8)), (∀ t ∈ r, (10 : UInt8) ∉ t) → (10 : UInt8) ∉ Lib.joinTail [32] r := fun r => by
   induction r with
   | nil => intro _; simp [Lib.joinTail]
   | cons y r ih =>
    intro h
    have hy := h y (by simp)
    have := ih (fun t ht => h t (by simp [ht]))
    unfold Lib.joinTail at this ⊢
    rw [List.map_cons, List.flatten_cons, List.mem_append]
    rintro (h1 | h1)
    ·simp at h1; exact hy h1
    exact this h1
  rw [List.mem_append]
  rintro (h1 | h1)
  ·exact hx h1
  exact this r (fun t ht => h t (by simp [ht])) h1
theorem ev_one (l : List Ev) : ∀ v ∈ l.flatMap evL, v.oneCell' = true := fun v hv => by
 obtain ⟨e, _, he⟩ := List.mem_flatMap.1 hv
 simp [evL] at he
 rcases he with rfl | rfl | rfl | rfl | rfl | rfl | rfl <;> rfl
theorem seeM_any (w0 w : World) (b : Nat) (s : Ses) (H : List Ent) (hs : SesOk s) (ws : List (List UInt8)) (h7 : ws.length = 7) (hws : ∀ t ∈ ws, (10 : UInt8) ∉ t) (hwl : (Lib.join ws [32]).length ≤ 20000) (A : Option Addr) (c : Nat) (hI : SesI w0 w b s (Win 9 1 A ws.length c (ws.map strV) :: H)) (hG : TxG w0) (hM : MaxOk w0) :
  Cq 37 #[.pointer (some ⟨b, 0, none⟩), .slice A ws.length c] w (MethQ (seeMF s ws) s w0 b (Win 9 1 A ws.length c (ws.map strV) :: H)) := by
 obtain ⟨A1, c1, A2, c2, hI⟩ := hI
 have hR1 := hI.win0 1 rfl
 have hlen := hs.ev
 replace hI : Inv NF w0 w (B b 29 #[.slice A1 s.evs.length c1, .slice A2 s.sts.length c2] :: Win 167 7 A1 s.evs.length c1 (s.evs.flatMap evL) :: Win 114 3 A2 s.sts.length c2 (s.sts.flatMap stV) :: Win 9 1 A ws.length c (ws.map strV) :: H) := hI
 obtain ⟨hc11, hc12⟩ := hR1.form2
 have hRw := hI.win0 3 rfl
 obtain ⟨bA, oA, rfl, hbA, hcw⟩ : ∃ b o, A = some ⟨b, o, none⟩ ∧ b < w.heap.size ∧ ∀ (j : Nat) (x : List UInt8), ws[j]? = some x → w.cell? ⟨b, o + j, none⟩ = some (strV x) := by
  obtain ⟨A', c', hv, h1, h2, h3, h4⟩ := hRw
  injection hv with ha _ hcc
  subst ha hcc
  obtain ⟨b', o', rfl, _, hc⟩ := h4 (by omega)
  refine ⟨b', o', Z, ?_, fun j x hx => hc j _ (by rw [List.getElem?_map, hx]; rfl)⟩
  have : (ws.map strV)[0]? = some (strV (ws.getD 0 [])) := by
   rw [List.getElem?_map, List.getD_eq_getElem?_getD, gE_ (by omega)]; rfl
  exact World.block_lt_of_cell? w _ (hc 0 _ this)
 obtain ⟨hcc1, hcc2⟩ := hRw.form2
 have hjoin := join_any bA oA c ws w hcw hbA (by omega) (by omega) (by omega)
 have hno := join_no ws hws
 have hsee : seeMF s ws = match parse1 (Lib.join ws [32]) with
  | .error z => .error z
  | .ok l => match evF (s.evs ++ l) with
   | none => .error (errO (s.evs ++ l))
   | some _ => .ok (numsT [((s.evs ++ l).length : Int)], ⟨s.evs ++ l, s.sts⟩) := rfl
 generalize Lib.join ws [32] = t at *
 refine calls_of_WP (N := Tryz.f37.ntmps) func37 Z Z Z (Wq (T5 Z (Wn ?_)))
 cases hp : parse1 t with
 | error z =>
  rw [hp] at hsee
  refine Wq (Va Z (Vd [.slice _ _ _, .string _] Z func11 Z (hjoin.mono (okP hI fun w1 hp1 hI => Vd [.string _] Z func66 Z ((parse1_any t hno hwl _ (hG.pure hI.pu) (hM.pure hI.pu)).mono ?_)))))
  rw [hp]
  rintro e w1 ⟨x, rfl, hJ⟩
  have hI := hI.app1 hJ
  obtain ⟨T, v, rfl⟩ := IsE.iface (hI.ok _ (List.mem_cons_self ..)).1
  refine rV (T4 Z (Vj Z (Vj Z (Vg Z (Vt Z (Wn (Wq (Vy Z (WL_callP Z Z Z (rCall (vs := [.iface _ _]) Z func54 Z Z Z) ((chkE_err T v _).mono ?_))))))))))
  rintro e w2 ⟨rfl, rfl⟩
  exact .inr ⟨_, Z, MethQ.bad hsee hI⟩
 | ok l => ?_
 rw [hp] at hsee
 dsimp only at hsee
 have hl1 := parse1_len hp
 refine Wq (Va Z (Vd [.slice _ _ _, .string _] Z func11 Z (hjoin.mono (okP hI fun w1 hp1 hI => Vd [.string _] Z func66 Z ((parse1_any t hno hwl _ (hG.pure hI.pu) (hM.pure hI.pu)).mono ?_)))))
 rw [hp]
 rintro e w1 ⟨Ap, cp, rfl, hJ⟩
 have hI := hI.app1 hJ
 refine rV (T4 Z (Vj Z (Vj Z (Vg Z (Vw Z (Wn (Wq (Td Z (Vd [_] Z func54 Z ((chkE_nil _).mono ?_))))))))))
 rintro e w2 ⟨rfl, rfl⟩
 refine rV (Wn (Wx (fun ρ w => ∃ (A' : Option Addr) (nk c' : Nat), nk = (s.evs ++ l).length ∧ (¬ 0 < l.length → A' = A1 ∧ c' = s.evs.length) ∧ Has ρ [(0, .pointer (some ⟨b, 0, none⟩)), (7, .slice A' nk c')] ∧ Inv NF w0 w (Maybe (0 < l.length) (Win 167 7 A' nk c' ((s.evs ++ l).flatMap evL)) :: Row 0 167 7 Ap l.length cp (l.flatMap evL) :: B b 29 #[.slice A1 s.evs.length c1, .slice A2 s.sts.length c2] :: Win 167 7 A1 s.evs.length c1 (s.evs.flatMap evL) :: Win 114 3 A2 s.sts.length c2 (s.sts.flatMap stV) :: Win 9 1 (some ⟨bA, oA, none⟩) ws.length c (ws.map strV) :: H)) ?_ ?_))
 ·refine Yj [16] hI fun Sx hY hXS hI => T7 0 Z (T8 1 Z (Vf 2 0 Z (V9 3 (.slice _ _ _) Z (fun W hW => (hY W hW).c1 Z) (T7 4 Z (T8 5 Z (Vf 6 0 Z (V9 7 (.slice _ _ _) Z (fun W hW => (hY W hW).c1 Z) (U2 8 Z yy26 Z (T7 9 Z (T8 10 Z (Vf 11 0 Z (V9 12 (.slice _ _ _) Z (fun W hW => (hY W hW).c1 Z) (U2 13 Z yy26 Z (Wt 14 Z (fun W hW => have hI := hY W hW; (rSlice3 (sz := 7) Z yy26 (by kernel_rfl) Z Z Z hc11)) (Vp 15 Z (WT_A (by kernel_rfl) ?_))))))))))))))))
  clear hXS hY
  refine Tr 16 Z ?_
  have hRp : Rd _ (fun _ => True) 7 (.slice Ap l.length cp) l.length (l.flatMap evL) := Rd.of_own hI.g0 (fun _ _ _ => trivial)
  refine WL_appF (z := .agg zI7) (by_ := 56) (news := l.flatMap evL) _ (Win.rd (D := fun _ => True) (Win.full (hI.ok _ (gM_ (i := 2) Z)).1) (fun _ _ => trivial)) hI Z Z Z Z Z Z yy26 (by kernel_rfl) Z (by omega) (src_rd yy26 hRp (ev_one l)) (by omega) (by omega) ?_
  rintro A' c' w hc3 hc4 hA0 hI
  refine Wn (Tr 17 Z (Vg Z (Wn (WA_end (by kernel_rfl) ?_))))
  have hfm : s.evs.flatMap evL ++ l.flatMap evL = (s.evs ++ l).flatMap evL := by simp
  rw [hfm] at hI
  exact ⟨A', _, c', (List.length_append).symm, hA0, g2_, hI⟩
 clear hI
 rintro ρ w ⟨A', nk, c', hnk, hA0, hH, hI⟩
 obtain ⟨σ, rfl⟩ := hH.open
 have hnl : nk = s.evs.length + l.length := by rw [hnk, List.length_append]
 have hRd : EvsR w (fun _ => True) (.slice A' nk c') (s.evs ++ l) := by
  unfold EvsR
  rw [← hnk]
  by_cases h0 : 0 < l.length
  ·unfold Maybe at hI
   rw [if_pos h0] at hI
   exact hI.win0 0 Z
  obtain ⟨rfl, rfl⟩ := hA0 h0
  have hl0 : l = [] := List.eq_nil_of_length_eq_zero (by omega)
  subst hl0
  rw [List.append_nil] at hnk ⊢
  subst hnk
  exact Win.rd (Win.full (hI.ok _ (gM_ (i := 3) Z)).1) (fun _ _ => trivial)
 cases hev : evF (s.evs ++ l) with
 | none =>
  rw [hev] at hsee
  refine Wq (Va Z (Vd [.slice _ _ _] Z func67 Z ((evopsN_any A' nk c' (s.evs ++ l) _ _ hRd (hG.pure hI.pu).err).mono ?_)))
  rw [hev]
  rintro e w1 ⟨x, rfl, hJ⟩
  have hI := hI.app1 hJ
  obtain ⟨T, v, rfl⟩ := IsE.iface (hI.ok _ (List.mem_cons_self ..)).1
  refine rV (T4 Z (Vj Z (Vj Z (Vt Z (Wn (Wq (Vy Z (WL_callP Z Z Z (rCall (vs := [.iface _ _]) Z func54 Z Z Z) ((chkE_err T v _).mono ?_)))))))))
  rintro e w2 ⟨rfl, rfl⟩
  exact .inr ⟨_, Z, MethQ.bad hsee hI.d1.d1⟩
 | some os =>
  rw [hev] at hsee
  replace hI : Inv NF w0 w (Win 167 7 A' nk c' ((s.evs ++ l).flatMap evL) :: B b 29 #[.slice A1 s.evs.length c1, .slice A2 s.sts.length c2] :: Win 114 3 A2 s.sts.length c2 (s.sts.flatMap stV) :: Win 9 1 (some ⟨bA, oA, none⟩) ws.length c (ws.map strV) :: H) := by
   have hI := hI.d1
   by_cases h0 : 0 < l.length
   ·unfold Maybe at hI
    rw [if_pos h0] at hI
    exact hI.d2
   obtain ⟨rfl, rfl⟩ := hA0 h0
   have hl0 : l = [] := List.eq_nil_of_length_eq_zero (by omega)
   subst hl0
   rw [List.append_nil] at hnk ⊢
   subst hnk
   have hI2 := hI.d0.pull 1 rfl
   exact hI2.u0 (e' := Win 167 7 A' s.evs.length s.evs.length (s.evs.flatMap evL)) (Chg.refl _ _) (Win.ok (Win.full (hI2.ok _ (List.mem_cons_self ..)).1)) (fun k hk => .inl hk)
  refine Wq (Va Z (Vd [.slice _ _ _] Z func67 Z ((evopsN_any A' nk c' (s.evs ++ l) _ _ hRd (hG.pure hI.pu).err).mono ?_)))
  rw [hev]
  rintro e w1 ⟨Ao, co, rfl, hJ⟩
  have hI := hI.pure hJ.pu
  refine rV (T4 Z (Vj Z (Vj Z (Vw Z (Wn (Wq (Td Z (Vd [_] Z func54 Z ((chkE_nil _).mono ?_)))))))))
  rintro e w2 ⟨rfl, rfl⟩
  refine rV (Wn (Wq (T1 Z (Va Z (Tj Z (V8 0 Z (WL_st1 (u := .slice _ _ _) hI Z Z Z Z Z Z (by kernel_rfl) Z Z Z ?_)))))))
  intro w hI
  refine Wn (Wq (Va Z (Vo Z yy26 Z (T3 [(0, Y _)] [_] [Y 0] [0] hI Z yy41 (fun _ => by kernel_rfl) ?_))))
  rintro b46 w - - hI
  refine Vd [.slice _ _ _] Z func5 Z ((numbers_any _ _ _ [(nk : Int)] (fun _ => True) _ ?_ Z (by simp) (by intro x hx; simp at hx; omega) (hG.pure hI.pu)).mono ?_)
  ·exact ints_blk hI.g0 Z (by simp)
  rintro e w1 ⟨rfl, hp1⟩
  refine rV ?_
  have hI := hI.pure hp1
  refine T5 Z (Wn (WR ?_))
  rw [← hnk] at hsee
  refine r1_ 4 Z (MethQ.good (A1 := A') (c1 := c') (A2 := A2) (c2 := c2) hsee ?_)
  subst hnk
  exact hI.d0.back 1
def clearW : List UInt8 := [99, 108, 101, 97, 114]
def namesW : List UInt8 := [99, 97, 114, 101, 102, 117, 108, 32, 99, 97, 117, 115, 97, 108, 32, 99, 104, 101, 99, 107, 32, 99, 108, 97, 115, 104, 101, 115, 32, 99, 108, 101, 97, 114, 32, 101, 118, 101, 110, 116, 115, 32, 104, 101, 108, 112, 32, 111, 112, 115, 32, 113, 117, 101, 117, 101, 32, 115, 97, 109, 101, 32, 115, 101, 101, 32, 115, 101, 101, 115, 32, 115, 116, 101, 112, 115, 32, 122, 111, 110, 101, 115]
def noSes : Ses := ⟨[], []⟩
theorem Inv.winClr {S : Nat → Prop} {e : Ent} (i : Nat) (hi : H[i]? = some e) (t size : Nat) (hI : Inv S w0 w H) : Inv S w0 w (H.set i (Win t size Option.none 0 0 [])) :=
 hI.upd i hi (Chg.refl _ _) (Win.ok ⟨by simp, Nat.le_refl _, by omega, .inl ⟨rfl, rfl⟩⟩) (fun k hk => by cases hk)
theorem clear_any (w0 w : World) (b : Nat) (s : Ses) (H : List Ent) (v : Value) (hI : SesI w0 w b s H) :
  Cq 31 #[.pointer (some ⟨b, 0, none⟩), v] w (MethQ (.ok (clearW, noSes)) s w0 b H) := by
 obtain ⟨A1, c1, A2, c2, hI⟩ := hI
 replace hI : Inv NF w0 w (B b 29 #[.slice A1 s.evs.length c1, .slice A2 s.sts.length c2] :: Win 167 7 A1 s.evs.length c1 (s.evs.flatMap evL) :: Win 114 3 A2 s.sts.length c2 (s.sts.flatMap stV) :: H) := hI
 refine Vm func31 Z (Wq (T5 Z (Wn (Wq (T1 Z (Tc [] [_, _] Z [.slice none 0 0, .slice none 0 0] [] Z (fun _ => by kernel_rfl) (Tj rfl (T2 2 (#[_, _]) (.agg _) hI rfl ?_))))))))
 intro w hI
 exact Wn (Wq (T5 Z (Wn (WR (r1_ 4 Z (MethQ.good (A1 := none) (c1 := 0) (A2 := none) (c2 := 0) Z ((hI.winClr 1 Z 167 7).winClr 2 Z 114 3)))))))
theorem help_any (w0 w : World) (b : Nat) (s : Ses) (H : List Ent) (v : Value) (hI : SesI w0 w b s H) :
  Cq 33 #[.pointer (some ⟨b, 0, none⟩), v] w (MethQ (.ok (namesW, s)) s w0 b H) := by
 obtain ⟨A1, c1, A2, c2, hI⟩ := hI
 exact Vm func33 Z (Wq (T5 Z (Wn (Wq (T5 Z (Wn (WR (r1_ 4 Z (MethQ.good Z hI)))))))))
def openN (l : List Op8) : Nat := l.countP fun o => decide (o.ret = -1)
theorem openN_le (l : List Op8) : openN l ≤ l.length := List.countP_le_length
def countF (s : Ses) (l : List Op8) : Except Int (List UInt8 × Ses) := .ok (numsT [(l.length : Int), (openN l : Int)], s)
theorem count_any (w0 w : World) (b : Nat) (s : Ses) (H : List Ent) (v : Value) (l : List Op8) (hl : evF s.evs = some l) (hll : l.length ≤ 120) (hI : SesI w0 w b s H) (hG : TxG w0) :
  Cq 34 #[.pointer (some ⟨b, 0, none⟩), v] w (MethQ (countF s l) s w0 b H) := by
 obtain ⟨A1, c1, A2, c2, hI⟩ := hI
 refine Vm func34 Z (Wq (T5 Z (Wn (Wx (fun ρ w => ∃ A c, Has ρ [(5, .slice A l.length c), (6, Y ((openN (l.take 0) : Nat) : Int))] ∧ Inv NF w0 w (OpsE A c l :: (SesE b A1 c1 A2 c2 s ++ H))) ?_ ?_))))
 ·refine Wr (T1 Z (Vd [.pointer _] Z func56 Z ((ops_any w0 _ b s A1 A2 c1 c2 H l hl hI hG).mono ?_)))
  rintro e w1 ⟨A, c, rfl, hI⟩
  exact rV (Vg Z (Vb Z (Wn ⟨A, c, g2_, hI⟩)))
 clear hI
 rintro ρ w ⟨A, c, hH, hI⟩
 obtain ⟨σ, rfl⟩ := hH.open
 refine Wx (fun ρ w => Has ρ [(5, .slice A l.length c), (6, Y ((openN l : Nat) : Int))] ∧ Inv NF w0 w (OpsE A c l :: (SesE b A1 c1 A2 c2 s ++ H))) ?_ ?_
 ·refine Wq (Va Z (Vo Z yy94 Z (V0 Z (Wn (Wb ?_)))))
  refine Wl (fun mu ρ w => ∃ k : Nat, mu = l.length - k ∧ k ≤ l.length ∧ Has ρ [(13, Y (k : Int)), (12, Y (l.length : Int)), (11, .slice A l.length c), (5, .slice A l.length c), (6, Y ((openN (l.take k) : Nat) : Int))] ∧ Inv NF w0 w (OpsE A c l :: (SesE b A1 c1 A2 c2 s ++ H))) l.length
   ⟨0, rfl, by omega, ⟨rfl, rfl, rfl, rfl, rfl, trivial⟩, hI⟩ ?_
  clear hI
  rintro mu ρ w ⟨k, rfl, hk, hH, hI⟩
  obtain ⟨σ, rfl⟩ := hH.open
  by_cases hkl : k < l.length
  rotate_left
  ·obtain rfl : k = l.length := by omega
   rw [List.take_length]
   exact Wq (Vr Z (Yg Z (WE ⟨g2_, hI⟩)))
  have hop : OpsR w (fun _ => True) (.slice A l.length c) l := Rd.of_own hI.g0 (fun _ _ _ => trivial)
  obtain ⟨ab, ao, rfl, hoc⟩ := hop.at hkl
  have hnx : openN (l.take (k + 1)) = openN (l.take k) + if (oAt l k).ret = -1 then 1 else 0 := by
   unfold openN
   rw [List.take_add_one, gE_ hkl, List.countP_append]
   have : oAt l k = l[k] := by unfold oAt; rw [List.getD_eq_getElem?_getD, gE_ hkl]; rfl
   rw [this]
   simp
  have hle : openN (l.take k) ≤ 120 := Nat.le_trans (openN_le _) (by rw [List.length_take]; omega)
  generalize openN (l.take k) = m at hnx hle
  generalize hpk : oAt l k = pk at hoc hnx
  obtain ⟨p0, p1, p2, p3, p4, p5, p6, p7⟩ := pk
  simp only at hnx
  refine Wq (Vu Z (Yu Z (Wk (Ws (Wb (Wq (Th 8 Z yy94 Z (Ts 8 Z (by rfl) hoc (Vz (.agg zI8) (zI8) hI Z ?_)))))))))
  rintro b8 w - - hI
  refine T2 8 (#[_, _, _, _, _, _, _, _]) (.agg _) hI Z ?_
  intro w hI
  refine Wn ?_
  simp only [opV] at hI
  by_cases h7 : p7 = -1
  ·rw [if_pos h7] at hnx
   exact Wq (V8 7 Z (Yc hI Z Z (Vx Z (Yt Z (Wr (V0 Z (Vl Z (Vb Z (Wn (Wr (Vl Z (V0 Z (Wn ⟨l.length - (k + 1), by omega, k + 1, rfl, by omega, ⟨rfl, rfl, rfl, rfl, by rw [hnx]; rfl, trivial⟩, hI.d0⟩)))))))))))))
  rw [if_neg h7] at hnx
  exact Wq (V8 7 Z (Yc hI Z Z (Vs Z (Yf Z (Wk (Wr (Vl Z (V0 Z (Wn ⟨l.length - (k + 1), by omega, k + 1, rfl, by omega, ⟨rfl, rfl, rfl, rfl, by rw [hnx]; rfl, trivial⟩, hI.d0⟩)))))))))
 clear hI
 rintro ρ w ⟨hH, hI⟩
 obtain ⟨σ, rfl⟩ := hH.open
 have hle := openN_le l
 unfold countF
 generalize openN l = m at hle ⊢
 refine Wq (Va Z (Vo Z yy94 Z (V0 Z (T3 [(0, Y _), (1, Y _)] [_, _] [Y 0, Y 0] [0, 1] hI Z yy41 (fun _ => by kernel_rfl) ?_))))
 rintro b26 w - - hI
 refine Vd [.slice _ _ _] Z func5 Z ((numbers_any _ _ _ [(l.length : Int), (m : Int)] (fun _ => True) _ ?_ Z (by simp) (by intro x hx; simp at hx; omega) (hG.pure hI.pu)).mono ?_)
 ·exact ints_blk hI.g0 Z (by simp)
 rintro e w1 ⟨rfl, hp1⟩
 refine rV ?_
 have hI := hI.pure hp1
 exact T5 Z (Wn (WR (r1_ 4 Z (MethQ.good Z hI.d0.d0))))
def cmdL : List (Int × Nat) := [(0, 27), (0, 28), (1, 29), (0, 30), (0, 31), (0, 32), (0, 33), (0, 34), (0, 35), (1, 36), (7, 37), (0, 38), (-1, 39), (0, 40)]
def cmdV (b : Nat) (x : Int × Nat) : List Value := [.int .i64 x.1, .func (.func x.2) #[.pointer (some ⟨b, 0, none⟩)] #[]]
def cmdW : List (List UInt8) := [[99, 97, 114, 101, 102, 117, 108], [99, 97, 117, 115, 97, 108], [99, 104, 101, 99, 107], [99, 108, 97, 115, 104, 101, 115], [99, 108, 101, 97, 114], [101, 118, 101, 110, 116, 115], [104, 101, 108, 112], [111, 112, 115], [113, 117, 101, 117, 101], [115, 97, 109, 101], [115, 101, 101], [115, 101, 101, 115], [115, 116, 101, 112, 115], [122, 111, 110, 101, 115]]
theorem names_fields : Lib.fields namesW = cmdW := by decide +kernel
theorem names_ascii : ∀ (j : Nat) b, namesW[j]? = some b → b.toNat < 128 := fun j b h => by
 have hm := gM_ h
 have : ∀ b ∈ namesW, b.toNat < 128 := by decide
 exact this b hm
theorem findIdx_lt {ws : List (List UInt8)} {wd : List UInt8} {i : Nat} (h : idxN ws wd = some i) : i < ws.length := by
 unfold idxN at h
 rw [List.findIdx?_eq_some_iff_getElem] at h
 exact h.1
def FindQ (b : Nat) (nm : List UInt8) (w0 : World) (en : Ending) (w' : World) : Prop := Pure w0 w' ∧ match idxN cmdW nm with
 | none => en = .returned (.tuple #[.agg #[.int .i64 0, .nilFunc], .bool false])
 | some i => ∃ x, cmdL[i]? = some x ∧ en = .returned (.tuple #[.agg (cmdV b x).toArray, .bool true])
theorem find_any (b : Nat) (nm : List UInt8) (w0 : World) (hG : TxG w0) :
  Cq 20 #[.pointer (some ⟨b, 0, none⟩), strV nm] w0 (FindQ b nm w0) := by
 have hI := Inv.start (fun _ => False) w0
 have hii : idxI cmdW nm = match idxN cmdW nm with | some m => (m : Int) | none => -1 := rfl
 have hq : ∀ r, idxN cmdW nm = r → ∀ (en : Ending) (w' : World), Pure w0 w' → (match r with
  | none => en = .returned (.tuple #[.agg #[.int .i64 0, .nilFunc], .bool false])
  | some i => ∃ x, cmdL[i]? = some x ∧ en = .returned (.tuple #[.agg (cmdV b x).toArray, .bool true])) → FindQ b nm w0 en w' := fun r hr en w' hp h => ⟨hp, by rw [hr]; exact h⟩
 refine Vm func20 Z (Wq (Vz (.agg #[Y 0, .nilFunc]) (#[Y 0, .nilFunc]) hI Z ?_))
 rintro b4 w - - hI
 refine Vc Z (Wn ?_)
 obtain ⟨z, hz⟩ : ∃ z, idxI cmdW nm = z := ⟨_, rfl⟩
 rw [hz] at hii
 have hsx := fun g1 w1 hB => sidx_any g1 14 cmdW nm (by decide) w1 hB
 rw [hz] at hsx
 refine Wx (fun ρ w => ∃ b50, Has ρ [(0, .pointer (some ⟨b, 0, none⟩)), (1, strV nm), (4, .pointer (some ⟨b4, 0, none⟩)), (6, .slice (some ⟨b50, 0, none⟩) 14 14)] ∧ Inv NF w0 w [B b50 55 (cmdL.map (cmdV b)).flatten.toArray, B b4 55 #[Y 0, .nilFunc]]) ?_ ?_
 ·refine Wr (T1 Z (Tw [_] [] Z (Tc [(0, Y _), (1, .func _ _ _)] [_, _] Z [Y 0, .nilFunc] [0, 1] Z (fun _ => by kernel_rfl) (T1 rfl (Tw [_] [] rfl (Tc [(0, .int .i64 _), (1, .func _ _ _)] [_, _] rfl [.int .i64 0, .nilFunc] [0, 1] rfl (fun _ => by kernel_rfl) (T1 rfl (Tw [_] [] rfl (Tc [(0, .int .i64 _), (1, .func _ _ _)] [_, _] rfl [.int .i64 0, .nilFunc] [0, 1] rfl (fun _ => by kernel_rfl) (T1 rfl (Tw [_] [] rfl (Tc [(0, .int .i64 _), (1, .func _ _ _)] [_, _] rfl [.int .i64 0, .nilFunc] [0, 1] rfl (fun _ => by kernel_rfl) (T1 rfl (Tw [_] [] rfl (Tc [(0, .int .i64 _), (1, .func _ _ _)] [_, _] rfl [.int .i64 0, .nilFunc] [0, 1] rfl (fun _ => by kernel_rfl) (T1 rfl (Tw [_] [] rfl (Tc [(0, .int .i64 _), (1, .func _ _ _)] [_, _] rfl [.int .i64 0, .nilFunc] [0, 1] rfl (fun _ => by kernel_rfl) (T1 rfl (Tw [_] [] rfl (Tc [(0, .int .i64 _), (1, .func _ _ _)] [_, _] rfl [.int .i64 0, .nilFunc] [0, 1] rfl (fun _ => by kernel_rfl) (T1 rfl (Tw [_] [] rfl (Tc [(0, .int .i64 _), (1, .func _ _ _)] [_, _] rfl [.int .i64 0, .nilFunc] [0, 1] rfl (fun _ => by kernel_rfl) (T1 rfl (Tw [_] [] rfl (Tc [(0, .int .i64 _), (1, .func _ _ _)] [_, _] rfl [.int .i64 0, .nilFunc] [0, 1] rfl (fun _ => by kernel_rfl) (T1 rfl (Tw [_] [] rfl (Tc [(0, .int .i64 _), (1, .func _ _ _)] [_, _] rfl [.int .i64 0, .nilFunc] [0, 1] rfl (fun _ => by kernel_rfl) (T1 rfl (Tw [_] [] rfl (Tc [(0, .int .i64 _), (1, .func _ _ _)] [_, _] rfl [.int .i64 0, .nilFunc] [0, 1] rfl (fun _ => by kernel_rfl) (T1 rfl (Tw [_] [] rfl (Tc [(0, .int .i64 _), (1, .func _ _ _)] [_, _] rfl [.int .i64 0, .nilFunc] [0, 1] rfl (fun _ => by kernel_rfl) (T1 rfl (Tw [_] [] rfl (Tc [(0, .int .i64 _), (1, .func _ _ _)] [_, _] rfl [.int .i64 0, .nilFunc] [0, 1] rfl (fun _ => by kernel_rfl) (T1 rfl (Tw [_] [] rfl (Tc [(0, .int .i64 _), (1, .func _ _ _)] [_, _] rfl [.int .i64 0, .nilFunc] [0, 1] rfl (fun _ => by kernel_rfl) (WL_litA (e := 55) (size := 2) (cmdL.map (cmdV b)) hI rfl rfl rfl rfl rfl underlying68 (by kernel_rfl) (by kernel_rfl) rfl (by simp [cmdL, cmdV]) (by omega) ?_)))))))))))))))))))))))))))))))))))))))))))
  rintro b50 w - - hI
  exact Vg Z (Wn ⟨b50, g4_, hI⟩)
 clear hI
 rintro ρ w ⟨b50, hH, hI⟩
 obtain ⟨σ, rfl⟩ := hH.open
 refine Wq (Vd [.string _] Z func42 Z ((fields_any namesW cmdW names_fields (by decide) names_ascii _ (hG.pure hI.pu)).mono ?_))
 rintro e w1 ⟨g1, rfl, hT⟩
 refine rV ?_
 have hI := hI.app1 hT
 refine Ta Z (Vd [.slice _ _ _, .string _] Z func41 Z ((hsx g1 _ hI.g0).mono ?_))
 rintro e w1 ⟨rfl, hp1⟩
 refine rV ?_
 replace hI := (hI.pure hp1).d0
 refine Vb Z (Wn ?_)
 cases hi : idxN cmdW nm with
 | none =>
  rw [hi] at hii
  simp only at hii
  subst hii
  refine Ws (Wq (V0 Z (Vu Z (Yt Z (Wq (Tc [] [_, _] Z [Y 0, .nilFunc] [] Z (fun _ => by kernel_rfl) (Ui 2 (#[_, _]) (.agg _) hI rfl ?_)))))))
  intro w hI
  exact Vc Z (Wn (WR (retC2 (n := 2) (t := 55) (.inr Z) Z Z (by kernel_rfl) (by kernel_rfl) Z hI.g1 (hq _ hi _ _ hI.pu Z))))
 | some i =>
 have hi14 : i < 14 := findIdx_lt hi
 rw [hi] at hii
 simp only at hii
 subst hii
 obtain ⟨⟨xc, xf⟩, hx⟩ : ∃ x, cmdL[i]? = some x := ⟨_, gE_ hi14⟩
 have hcell : ∀ (q : Nat) (u : Value), ([.int .i64 xc, .func (.func xf) #[.pointer (some ⟨b, 0, none⟩)] #[]] : List Value)[q]? = some u → w1.cell? ⟨b50, 0 + i * 2 + q, none⟩ = some u := fun q u hqu => by
  have hq2 : q < 2 := (gS_ hqu).1
  have hB : Blk w1 b50 55 (cmdL.map (cmdV b)).flatten.toArray := hI.g0
  rw [← List.flatMap_def] at hB
  rw [Nat.zero_add, hB.cell, List.getElem?_toArray, flatN (s := 2) (f := cmdV b) (fun _ => rfl) cmdL i (xc, xf) hx q hq2]
  exact hqu
 refine Ws (Wq (V0 Z (Vr Z (Yf Z (Wk (Wq (Va Z (V0 Z (Wv Z (rIdx (sz := 2) (i := i) Z underlying68 (by kernel_rfl) Z Z (by omega)) (Ts 2 Z (by rfl) hcell (Ui 2 (#[_, _]) (.agg _) hI Z ?_)))))))))))
 intro w hI
 exact Vc Z (Wn (WR (retC2 (n := 2) (t := 55) (.inr Z) Z Z (by kernel_rfl) (by kernel_rfl) Z hI.g1 (hq _ hi _ _ hI.pu ⟨(xc, xf), hx, Z⟩))))
theorem sp2_any (x : Nat) (w0 : World) : Cq 19 #[.int .i32 (x : Int)] w0 fun e w' => e = .returned (.bool (spP x)) ∧ w' = w0 := by
 have hI := Inv.start (fun _ => False) w0
 refine Vm func19 Z (Wq (Vc Z (Wn (Wq (V0 Z (Wv Z (rEql Z Z Z) (Vc Z (Wn (WR (r1_ 2 Z ⟨?_, Z⟩))))))))))
 show Ending.returned (.bool (decide ((x : Int) = 32))) = _
 unfold spP
 congr 2
 by_cases h : x = 32
 ·subst h; rfl
 rw [decide_eq_false (by omega), beq_eq_false_iff_ne.2 h]
theorem ffunc2_any (s : List UInt8) (ws : List (List UInt8)) (hs : s.length ≤ 100000) (hf : Lib.goFieldsP spP ⟨s.toArray⟩ = ws.map fun (w : List UInt8) => (⟨w.toArray⟩ : ByteArray)) (w : World) :
  Cq 18 #[strV s, .func (.func 19) #[] #[]] w fun e w' => ∃ g, e = .returned (.slice (some ⟨g, 0, none⟩) ws.length ws.length) ∧ Inv NF w w' [Row w.heap.size 9 1 (some ⟨g, 0, none⟩) ws.length ws.length (ws.map strV)] := by
 have hz : (⟨s.toArray⟩ : ByteArray).size = s.length := str_size s
 refine (Any.strings_FieldsFunc_runes lays229 19 #[] (enters_of func19 Z Z) spP ⟨s.toArray⟩ w (by omega) (fun W x _ _ => (sp2_any x W).mono (by rintro e w' ⟨rfl, rfl⟩; exact ⟨rfl, 0, rfl⟩)) (by kernel_rfl) (by kernel_rfl)).mono ?_
 rintro e w' ⟨A, rfl, hA, hR, hp⟩
 rw [hf, List.length_map, List.map_map] at hR
 rw [hf, List.length_map]
 exact ⟨A, Z, (Inv.start (fun _ => False) w).fresh hp (Row.ok hR) (fun k hk => by have hk : some A = some k := hk; injection hk with hk; omega)⟩
theorem ta_nil (w : World) : (Instr.typeAssert .nilIface 20 37 true).run prog w = .ok (.tuple #[.nilIface, .bool false]) w := by kernel_rfl
theorem ta_errno (v : Value) (w : World) : (Instr.typeAssert (.iface 49 v) 20 37 true).run prog w = .ok (.tuple #[.iface 49 v, .bool true]) w := by kernel_rfl
theorem ta_pat (v : Value) (w : World) : (Instr.typeAssert (.iface patT v) 20 37 true).run prog w = .ok (.tuple #[.iface patT v, .bool true]) w := by kernel_rfl
def errW : List UInt8 := [101, 114, 114, 111, 114, 32]
def errT (z : Int) : List UInt8 := errW ++ numsT [z]
theorem recN_any (p : Value) (w : World) : CallsDIn Fence.wide 0 prog 16 #[p] .returning w fun e u2 w' => u2 = .returning ∧ (∃ v, e = .returned v) ∧ w' = w := by
 exact callsD_rec (x := .nilIface) (R := fun e w' => (∃ v, e = .returned v) ∧ w' = w) func16 Z Z Z (.inl ⟨Z, Z, Z⟩) (fun _ => Z) (fun _ => Z) Z Z Z Z (fun _ => Z) (by exact rAsgnN rfl rfl) (Wq (Td Z (Wv Z (rTA Z Z (ta_nil _)) (T4 Z (Vj Z (Vj Z (Vw Z (Vc Z (Wn (Wq (V7 Z (Yf Z (Wk (ret0 (.inl Z) Z ⟨⟨_, Z⟩, Z⟩))))))))))))))
theorem recE_any (bp T : Nat) (v old : Value) (z : Int) (hz : -1000 ≤ z ∧ z ≤ 1000) (w0 w : World) (H : List Ent) (hG : TxG w0) (hI : Inv NF w0 w (B bp 9 #[old] :: ErrE (.iface T v) z :: H)) :
  CallsDIn Fence.wide 0 prog 16 #[.pointer (some ⟨bp, 0, none⟩)] (.panicking (pan (.iface T v))) w fun e u2 w' => u2 = .panicking [{ v := .iface T v, recovered := true }] ∧ (∃ v, e = .returned v) ∧ Inv NF w0 w' (B bp 9 #[strV (errT z)] :: ErrE (.iface T v) z :: H) := by
 have hE : IsE w (.iface T v) z := (hI.ok _ (gM_ (i := 1) rfl)).1
 have hTA : (Instr.typeAssert (.iface T v) 20 37 true).run prog w = .ok (.tuple #[.iface T v, .bool true]) w := by
  rcases hE with h | ⟨b, o, h, _⟩
  ·injection h with h1 h2; subst h1 h2; exact ta_errno _ _
  injection h with h1 h2; subst h1 h2; exact ta_pat _ _
 refine callsD_rec (x := .iface T v) (R := fun e w' => (∃ v, e = .returned v) ∧ Inv NF w0 w' (B bp 9 #[strV (errT z)] :: ErrE (.iface T v) z :: H)) func16 Z Z Z (.inr ⟨_, Z, Z, Z⟩) (fun _ => Z) (fun _ => Z) Z Z Z Z (fun _ => Z) (by exact rAsgnE rfl rfl) ?_
 have hnl : (numsT [z]).length ≤ 21 := by have := numsT_len (l := [z]) (fun x hx => by simp only [List.mem_singleton] at hx; omega); simpa using this
 refine Wq (Vy Z (Wv Z (rTA Z Z hTA) (T4 Z (Vj Z (Vj Z (Vt Z (Vc Z (Wn (Wq (V7 Z (Yt Z (Wr (Vy Z (Vd [_] Z func17 Z ((tell_any _ z _ hE (hG.pure hI.pu).err).mono (okP hI fun w1 hp hI => T3 [(0, Y _)] [_] [Y 0] [0] hI Z yy41 (fun _ => by kernel_rfl) ?_))))))))))))))))
 rintro b13 w - - hI
 refine Vd [.slice _ _ _] Z func5 Z ((numbers_any _ _ _ [z] (fun _ => True) _ ?_ Z (by simp) (by intro x hx; simp only [List.mem_singleton] at hx; omega) (hG.pure hI.pu)).mono ?_)
 ·exact ints_blk hI.g0 Z (by simp)
 rintro e w1 ⟨rfl, hp3⟩
 refine rV ?_
 have hI := hI.pure hp3
 refine Wv Z (rStrAdd Z Z Z (by (simp only [List.length_append, List.length_cons, List.length_nil]; omega))) (Ui 1 #[_] (.string _) hI Z ?_)
 intro w hI
 exact Wn (ret0 (.inl Z) Z ⟨⟨_, Z⟩, hI.d0⟩)
end Go.Proofs.YtnckdmogdehnoaaGreatDoor
