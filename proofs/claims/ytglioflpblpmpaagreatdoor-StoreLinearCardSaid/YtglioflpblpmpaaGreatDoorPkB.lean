/- PkB: RecLaw, Evt1, Evt2, Evt3, Evt4, merged. -/
import Derived.Test.YtglioflpblpmpaaGreatDoorBase
import Derived.Test.YtglioflpblpmpaaGreatDoorSxB
import Derived.Test.YtglioflpblpmpaaGreatDoorProg
import Derived.Test.YtglioflpblpmpaaGreatDoorPkA
namespace Go.Proofs.YtglioflpblpmpaaGreatDoor
open Go

structure Ev where
  proc : Int
  ty : Int
  key : Int
  kind : Int
  a : Int
  b : Int
  res : Int
  deriving DecidableEq
def evL (e : Ev) : List Value := [.int .i64 e.proc, .int .i64 e.ty, .int .i64 e.key, .int .i64 e.kind, .int .i64 e.a, .int .i64 e.b, .int .i64 e.res]
def inB (n lo hi : Int) : Bool := decide (lo ≤ n) && decide (n ≤ hi)
def toldB (proc key : Int) (l : List Int) : Bool := (l.all fun n => inB n (-1000000) 1000000) && inB proc 0 7 && inB key 0 7
def evOkB (e : Ev) : Bool := toldB e.proc e.key [e.a, e.b, e.res] && inB e.ty 1 4 && inB e.kind 1 12 && !(!decide (e.res = 0) && !decide (e.ty = 2))
def bytesV (l : List Nat) : List Value := l.map fun b : Nat => Value.int .u8 (b : Int)
/-! ### Numbers -/
def zz (n : Int) : Nat := if 0 ≤ n then (2 * n).toNat else (-2 * n - 1).toNat
def unz (u : Nat) : Int := if u % 2 = 0 then ((u / 2 : Nat) : Int) else -((u / 2 : Nat) : Int) - 1
def varF : Nat → Nat → List Nat
  | 0, _ => []
  | f + 1, u => if u < 128 then [u] else (u % 128 + 128) :: varF f (u / 128)
def encN (n : Int) : List Nat := varF 10 (zz n)
/-- What is read of bytes: a byte below 128 ends it. -/
def valF : List Nat → Nat
  | [] => 0
  | c :: l => c % 128 + 128 * valF l
def numF : List Nat → Option (List Nat × List Nat)
  | [] => none
  | c :: l => if c < 128 then some ([c], l) else (numF l).map fun p => (c :: p.1, p.2)
/-! ### Events -/
def enc (e : Ev) : List Nat := [e.proc.toNat, e.ty.toNat, e.key.toNat, e.kind.toNat] ++ encN e.a ++ encN e.b ++ encN e.res
/-- What Decode reads ahead of its check. -/
def readF (l : List Nat) : Option Ev := match l with
  | p :: t :: k :: d :: r => match numF r with
    | some (x, r1) => match numF r1 with
      | some (y, r2) => match numF r2 with
        | some (z, _) => some ⟨p, t, k, d, unz (valF x), unz (valF y), unz (valF z)⟩
        | none => none
      | none => none
    | none => none
  | _ => none
def decF (l : List Nat) : Option Ev := match readF l with
  | some e => if evOkB e = true ∧ enc e = l then some e else none
  | none => none
/-! ### Frames -/
def poly : Nat := 3988292384
def crc1 (c : Nat) : Nat := if c % 2 = 1 then (c / 2) ^^^ poly else c / 2
def crcN : Nat → Nat → Nat
  | 0, c => c
  | k + 1, c => crc1 (crcN k c)
def crcB (c x : Nat) : Nat := crcN 8 (c ^^^ x)
def crcL (l : List Nat) : Nat := l.foldl crcB 4294967295
def sumF (l : List Nat) : Nat := crcL l ^^^ 4294967295
def headF (l : List Nat) : List Nat := [l.length / 256 % 256, l.length % 256, sumF l / 16777216 % 256, sumF l / 65536 % 256, sumF l / 256 % 256, sumF l % 256]
def frameF (l : List Nat) : List Nat := headF l ++ l
end Go.Proofs.YtglioflpblpmpaaGreatDoor
namespace Go.Proofs.YtglioflpblpmpaaGreatDoor
open Go.RowKit
set_option linter.unusedVariables false
set_option linter.unusedSimpArgs false

def IsErr (v : Value) : Prop := ∃ u, v = .iface 49 (.int .i64 u)

theorem ein_any (n lo hi : Int) (w : World) : Calls Tryz.prog 34 #[.int .i64 n, .int .i64 lo, .int .i64 hi] w fun e w' => e = .returned (.bool (inB n lo hi)) ∧ w = w' := by
  have hI := Inv.start (fun _ => False) w
  refine calls_of_W (N := Tryz.f34.ntmps) Tryz.func34 rfl rfl rfl ?_
  refine W_seq ?_
  refine W_region ?_
  refine WL_val rfl rfl rfl (by exact rAsgnB rfl rfl) ?_
  refine WL_nil ?_
  by_cases h : lo ≤ n
  · refine W_seq ?_
    refine W_region ?_
    refine WL_val rfl rfl rfl (by exact rMoveI rfl rfl) ?_
    refine WL_val rfl rfl rfl (by exact rMoveI rfl rfl) ?_
    refine WL_val rfl rfl rfl (by exact rGeqT rfl rfl rfl (by omega)) ?_
    refine WL_val rfl rfl rfl (by exact rMoveB rfl rfl) ?_
    refine WL_val rfl rfl rfl (by exact rMoveI rfl rfl) ?_
    refine WL_val rfl rfl rfl (by exact rMoveI rfl rfl) ?_
    refine WL_val rfl rfl rfl (by exact rLeq rfl rfl rfl) ?_
    refine WL_val rfl rfl rfl (by exact rPickTB rfl rfl rfl) ?_
    refine WL_val rfl rfl rfl (by exact rAsgnB rfl rfl) ?_
    refine WL_nil ?_
    refine W_ret ?_
    refine ret1 6 (.inr rfl) rfl ⟨?_, rfl⟩
    show Ending.returned (.bool (decide (n ≤ hi))) = _
    simp [inB, h]
  · refine W_seq ?_
    refine W_region ?_
    refine WL_val rfl rfl rfl (by exact rMoveI rfl rfl) ?_
    refine WL_val rfl rfl rfl (by exact rMoveI rfl rfl) ?_
    refine WL_val rfl rfl rfl (by exact rGeqF rfl rfl rfl (by omega)) ?_
    refine WL_val rfl rfl rfl (by exact rMoveB rfl rfl) ?_
    refine WL_skip rfl rfl rfl ?_
    refine WL_skip rfl rfl rfl ?_
    refine WL_skip rfl rfl rfl ?_
    refine WL_val rfl rfl rfl (by exact rPickFB rfl rfl rfl) ?_
    refine WL_val rfl rfl rfl (by exact rAsgnB rfl rfl) ?_
    refine WL_nil ?_
    refine W_ret ?_
    refine ret1 6 (.inr rfl) rfl ⟨?_, rfl⟩
    show Ending.returned (.bool false) = _
    simp [inB, h]

set_option maxHeartbeats 1000000 in
theorem told_any (proc key : Int) (A : Option Addr) (n c : Nat) (l : List Int) (D : Nat → Prop) (w0 : World) (h : Ints w0 D (.slice A n c) l) (hl : l.length = n) (hn : n ≤ 1000) :
    Calls Tryz.prog 33 #[.int .i64 proc, .int .i64 key, .slice A n c] w0 fun e w' => e = .returned (.bool (toldB proc key l)) ∧ w0 = w' := by
  have hI := Inv.start (fun _ => False) w0
  refine calls_of_W (N := Tryz.f33.ntmps) Tryz.func33 rfl rfl rfl ?_
  refine W_seq ?_
  refine W_region ?_
  refine WL_val rfl rfl rfl (by exact rAsgnB rfl rfl) ?_
  refine WL_nil ?_
  refine W_seq ?_
  refine W_seq ?_
  refine W_region ?_
  refine WL_val rfl rfl rfl (by exact rMoveS rfl rfl) ?_
  refine WL_val rfl rfl rfl (rLen rfl Tryz.underlying37 rfl) ?_
  refine WL_val rfl rfl rfl (by exact rMoveI rfl rfl) ?_
  refine WL_nil ?_
  refine W_block ?_
  refine W_loop (fun ρ w => ∃ k : Nat, k ≤ n ∧ Has ρ [(11, .int .i64 k), (10, .int .i64 n), (9, .slice A n c), (0, .int .i64 proc), (1, .int .i64 key)] ∧ (∀ y ∈ l.take k, inB y (-1000000) 1000000 = true) ∧ w = w0) (fun ρ _ => n - cnt (ρ 11))
    ⟨0, by omega, ⟨rfl, rfl, rfl, rfl, rfl, trivial⟩, by simp, rfl⟩ ?_
  rintro ρ w ⟨k, hk, hH, hno, rfl⟩
  obtain ⟨σ, rfl⟩ := hH.open
  by_cases hkn : k < n
  · obtain ⟨b, o, rfl, _, _, hc⟩ := h.get (k := k) (by omega)
    have hx : l[k]? = some l[k] := List.getElem?_eq_getElem (by omega)
    refine W_seq ?_
    refine W_region ?_
    refine WL_val rfl rfl rfl (by exact rLssT rfl rfl rfl (by omega)) ?_
    refine WL_nil ?_
    refine W_seq ?_
    refine W_cond true rfl ?_
    refine W_skip ?_
    refine W_seq ?_
    refine W_block ?_
    refine W_seq ?_
    refine W_region ?_
    refine WL_val rfl rfl rfl (by exact rIdx1 rfl Tryz.underlying37 (by kernel_rfl) rfl rfl (by omega)) ?_
    refine WL_val rfl rfl rfl (by exact rLd (v := .int .i64 _) rfl (by kernel_rfl) rfl (by exact hI.oldp hc)) ?_
    refine WL_val rfl rfl rfl (by exact rAsgnI rfl rfl) ?_
    refine WL_nil ?_
    refine W_seq ?_
    refine W_region ?_
    refine WL_val rfl rfl rfl (by exact rMoveI rfl rfl) ?_
    refine WL_call rfl rfl rfl (rCall (vs := [.int .i64 _, .int .i64 _, .int .i64 _]) rfl Tryz.func34 rfl rfl rfl) ?_
    refine (ein_any _ _ _ _).mono ?_
    rintro e w1 ⟨rfl, rfl⟩
    refine ⟨_, rfl, ?_⟩
    cases hb : inB l[k] (-1000000) 1000000 with
    | true =>
      refine WL_val rfl rfl rfl (by exact rNotT rfl rfl) ?_
      refine WL_nil ?_
      refine W_cond false rfl ?_
      refine W_skip ?_
      refine W_region ?_
      refine WL_val rfl rfl rfl (by exact rInc rfl rfl rfl (by omega)) ?_
      refine WL_val rfl rfl rfl (by exact rMoveI rfl rfl) ?_
      refine WL_nil ?_
      refine ⟨⟨k + 1, by omega, ⟨rfl, rfl, rfl, rfl, rfl, trivial⟩, fun y hy => ?_, rfl⟩, by show n - ((k + 1 : Nat) : Int).toNat < n - (k : Int).toNat; omega⟩
      rw [List.take_succ_eq_append_getElem (by omega)] at hy
      rcases List.mem_append.1 hy with hy | hy
      · exact hno y hy
      · rw [List.mem_singleton.1 hy]; exact hb
    | false =>
      refine WL_val rfl rfl rfl (by exact rNotF rfl rfl) ?_
      refine WL_nil ?_
      refine W_cond true rfl ?_
      refine W_seq ?_
      refine W_region ?_
      refine WL_val rfl rfl rfl (by exact rAsgnB rfl rfl) ?_
      refine WL_nil ?_
      refine W_ret ?_
      refine ret1 6 (.inr rfl) rfl ⟨?_, rfl⟩
      have hf : (l.all fun n => inB n (-1000000) 1000000) = false := by
        rw [List.all_eq_false]
        exact ⟨l[k], List.getElem_mem _, by simp [hb]⟩
      show Ending.returned (.bool false) = _
      simp [toldB, hf]
  · refine W_seq ?_
    refine W_region ?_
    refine WL_val rfl rfl rfl (by exact rLssF rfl rfl rfl (by omega)) ?_
    refine WL_nil ?_
    refine W_seq ?_
    refine W_cond false rfl ?_
    refine W_exit ?_
    have hall : (l.all fun n => inB n (-1000000) 1000000) = true := by
      rw [List.take_of_length_le (by omega)] at hno
      exact List.all_eq_true.2 hno
    have ht : toldB proc key l = (inB proc 0 7 && inB key 0 7) := by simp [toldB, hall]
    rw [ht]
    refine W_seq ?_
    refine W_region ?_
    refine WL_val rfl rfl rfl (by exact rMoveI rfl rfl) ?_
    refine WL_call rfl rfl rfl (rCall (vs := [.int .i64 _, .int .i64 _, .int .i64 _]) rfl Tryz.func34 rfl rfl rfl) ?_
    refine (ein_any _ _ _ _).mono ?_
    rintro e w1 ⟨rfl, rfl⟩
    refine ⟨_, rfl, ?_⟩
    cases hb : inB proc 0 7 with
    | true =>
      refine WL_val rfl rfl rfl (by exact rMoveB rfl rfl) ?_
      refine WL_val rfl rfl rfl (by exact rMoveI rfl rfl) ?_
      refine WL_call rfl rfl rfl (rCall (vs := [.int .i64 _, .int .i64 _, .int .i64 _]) rfl Tryz.func34 rfl rfl rfl) ?_
      refine (ein_any _ _ _ _).mono ?_
      rintro e w1 ⟨rfl, rfl⟩
      refine ⟨_, rfl, ?_⟩
      refine WL_val rfl rfl rfl (by exact rPickTB rfl rfl rfl) ?_
      refine WL_val rfl rfl rfl (by exact rAsgnB rfl rfl) ?_
      refine WL_nil ?_
      refine W_ret ?_
      exact ret1 6 (.inr rfl) rfl ⟨rfl, rfl⟩
    | false =>
      refine WL_val rfl rfl rfl (by exact rMoveB rfl rfl) ?_
      refine WL_skip rfl rfl rfl ?_
      refine WL_skip rfl rfl rfl ?_
      refine WL_val rfl rfl rfl (by exact rPickFB rfl rfl rfl) ?_
      refine WL_val rfl rfl rfl (by exact rAsgnB rfl rfl) ?_
      refine WL_nil ?_
      refine W_ret ?_
      exact ret1 6 (.inr rfl) rfl ⟨rfl, rfl⟩

theorem ints_lit {w : World} {g T n : Nat} {l : List Int} {cs : Array Value} (hb : Blk w g T cs) (h : cs.toList = l.map (Value.int .i64)) (hn : l.length = n) (hle : n ≤ 1000) : Ints w (fun k => k < w.heap.size) (.slice (some ⟨g, 0, none⟩) n n) l := by
  subst hn
  exact ⟨_, _, rfl, Nat.le_refl _, by omega, by simp, fun _ => ⟨g, 0, rfl, hb.lt, fun j u hj => by rw [Nat.zero_add, hb.cell]; rw [← h] at hj; simpa using hj⟩⟩
def CheckPost (w : World) (e : Ev) (en : Ending) (w' : World) : Prop := Pure w w' ∧ ((evOkB e = true ∧ en = .returned .nilIface) ∨ (evOkB e = false ∧ ∃ x, IsErr x ∧ en = .returned x))
set_option maxHeartbeats 1000000 in
theorem check_any (e : Ev) (w0 : World) : Calls Tryz.prog 15 #[.agg (evL e).toArray] w0 (CheckPost w0 e) := by
  obtain ⟨p, ty, ky, kd, a, b, r⟩ := e
  have hI := Inv.start (fun _ => False) w0
  refine calls_of_W (N := Tryz.f15.ntmps) Tryz.func15 rfl rfl rfl ?_
  refine W_seq ?_
  refine W_region ?_
  refine WL_box (u := .agg _) (vs := #[_, _, _, _, _, _, _]) hI rfl rfl rfl rfl rfl rfl ?_
  clear hI; rintro b1 w - - hI
  refine WL_val rfl rfl rfl (by exact rAsgnN rfl rfl) ?_
  refine WL_nil ?_
  refine W_seq ?_
  refine W_block ?_
  refine W_seq ?_
  refine W_region ?_
  refine WL_val rfl rfl rfl (by exact rFldN (off := 0) rfl (by kernel_rfl) rfl) ?_
  refine WL_val rfl rfl rfl (by exact rLd (v := .int .i64 _) rfl (by kernel_rfl) rfl (by exact hI.c0 rfl)) ?_
  refine WL_val rfl rfl rfl (by exact rFldN (off := 2) rfl (by kernel_rfl) rfl) ?_
  refine WL_val rfl rfl rfl (by exact rLd (v := .int .i64 _) rfl (by kernel_rfl) rfl (by exact hI.c0 rfl)) ?_
  refine WL_val rfl rfl rfl (by exact rFldN (off := 4) rfl (by kernel_rfl) rfl) ?_
  refine WL_val rfl rfl rfl (by exact rLd (v := .int .i64 _) rfl (by kernel_rfl) rfl (by exact hI.c0 rfl)) ?_
  refine WL_val rfl rfl rfl (by exact rFldN (off := 5) rfl (by kernel_rfl) rfl) ?_
  refine WL_val rfl rfl rfl (by exact rLd (v := .int .i64 _) rfl (by kernel_rfl) rfl (by exact hI.c0 rfl)) ?_
  refine WL_val rfl rfl rfl (by exact rFldN (off := 6) rfl (by kernel_rfl) rfl) ?_
  refine WL_val rfl rfl rfl (by exact rLd (v := .int .i64 _) rfl (by kernel_rfl) rfl (by exact hI.c0 rfl)) ?_
  refine WL_lit (vs := [_, _, _]) (qs := [(0, .int .i64 _), (1, .int .i64 _), (2, .int .i64 _)]) [.int .i64 0, .int .i64 0, .int .i64 0] [0, 1, 2] hI rfl rfl rfl rfl rfl rfl Tryz.underlying37 (fun _ => by kernel_rfl) ?_
  clear hI; rintro b14 w - - hI
  refine WL_call rfl rfl rfl (rCall (vs := [.int .i64 _, .int .i64 _, .slice _ _ _]) rfl Tryz.func33 rfl rfl rfl) ?_
  refine (told_any p ky _ 3 3 [a, b, r] (fun k => k < w.heap.size) _ (ints_lit hI.g0 rfl rfl (by omega)) rfl (by omega)).mono ?_
  rintro en w1 ⟨rfl, rfl⟩
  refine ⟨_, rfl, ?_⟩
  cases h1 : toldB p ky [a, b, r] with
  | false =>
    refine WL_val rfl rfl rfl (by exact rNotF rfl rfl) ?_
    refine WL_val rfl rfl rfl (by exact rAsgnB rfl rfl) ?_
    refine WL_nil ?_
    refine W_cond true rfl ?_
    refine W_seq ?_
    refine W_region ?_
    refine WL_val rfl rfl rfl (rIface rfl Tryz.underlying49 rfl rfl) ?_
    refine WL_val rfl rfl rfl (by exact rAsgnE rfl rfl) ?_
    refine WL_nil ?_
    refine W_ret ?_
    exact ret1 2 (.inr rfl) rfl ⟨hI.pu, .inr ⟨by simp [evOkB, h1], _, ⟨_, rfl⟩, rfl⟩⟩
  | true =>
    refine WL_val rfl rfl rfl (by exact rNotT rfl rfl) ?_
    refine WL_val rfl rfl rfl (by exact rAsgnB rfl rfl) ?_
    refine WL_nil ?_
    refine W_cond false rfl ?_
    refine W_seq_cut (fun ρ w => Has ρ [(18, .bool (!(inB ty 1 4 && inB kd 1 12 && !(!decide (r = 0) && !decide (ty = 2)))))] ∧ Inv (fun _ => False) w0 w []) ?_ ?_
    · refine W_seq ?_
      refine W_region ?_
      refine WL_val rfl rfl rfl (by exact rFldN (off := 1) rfl (by kernel_rfl) rfl) ?_
      refine WL_val rfl rfl rfl (by exact rLd (v := .int .i64 _) rfl (by kernel_rfl) rfl (by exact hI.c1 rfl)) ?_
      refine WL_call rfl rfl rfl (rCall (vs := [.int .i64 _, .int .i64 _, .int .i64 _]) rfl Tryz.func34 rfl rfl rfl) ?_
      refine (ein_any _ _ _ _).mono ?_
      rintro en w1 ⟨rfl, rfl⟩
      refine ⟨_, rfl, ?_⟩
      cases h2 : inB ty 1 4 with
      | false =>
        refine WL_val rfl rfl rfl (by exact rNotF rfl rfl) ?_
        refine WL_val rfl rfl rfl (by exact rMoveB rfl rfl) ?_
        refine WL_skip rfl rfl rfl ?_
        refine WL_skip rfl rfl rfl ?_
        refine WL_skip rfl rfl rfl ?_
        refine WL_skip rfl rfl rfl ?_
        refine WL_val rfl rfl rfl (by exact rPickTB rfl rfl rfl) ?_
        refine WL_val rfl rfl rfl (by exact rAsgnB rfl rfl) ?_
        refine WL_nil ?_
        refine W_cond true rfl ?_
        refine W_skip ?_
        exact ⟨⟨rfl, trivial⟩, hI.d0.d0⟩
      | true =>
        refine WL_val rfl rfl rfl (by exact rNotT rfl rfl) ?_
        refine WL_val rfl rfl rfl (by exact rMoveB rfl rfl) ?_
        refine WL_val rfl rfl rfl (by exact rFldN (off := 3) rfl (by kernel_rfl) rfl) ?_
        refine WL_val rfl rfl rfl (by exact rLd (v := .int .i64 _) rfl (by kernel_rfl) rfl (by exact hI.c1 rfl)) ?_
        refine WL_call rfl rfl rfl (rCall (vs := [.int .i64 _, .int .i64 _, .int .i64 _]) rfl Tryz.func34 rfl rfl rfl) ?_
        refine (ein_any _ _ _ _).mono ?_
        rintro en w1 ⟨rfl, rfl⟩
        refine ⟨_, rfl, ?_⟩
        cases h3 : inB kd 1 12 with
        | false =>
          refine WL_val rfl rfl rfl (by exact rNotF rfl rfl) ?_
          refine WL_val rfl rfl rfl (by exact rPickFB rfl rfl rfl) ?_
          refine WL_val rfl rfl rfl (by exact rAsgnB rfl rfl) ?_
          refine WL_nil ?_
          refine W_cond true rfl ?_
          refine W_skip ?_
          exact ⟨⟨rfl, trivial⟩, hI.d0.d0⟩
        | true =>
          refine WL_val rfl rfl rfl (by exact rNotT rfl rfl) ?_
          refine WL_val rfl rfl rfl (by exact rPickFB rfl rfl rfl) ?_
          refine WL_val rfl rfl rfl (by exact rAsgnB rfl rfl) ?_
          refine WL_nil ?_
          refine W_cond false rfl ?_
          by_cases hr : r = 0
          · refine W_region ?_
            refine WL_val rfl rfl rfl (by exact rFldN (off := 6) rfl (by kernel_rfl) rfl) ?_
            refine WL_val rfl rfl rfl (by exact rLd (v := .int .i64 _) rfl (by kernel_rfl) rfl (by exact hI.c1 rfl)) ?_
            refine WL_val rfl rfl rfl (by exact rNeqF rfl rfl rfl (by omega)) ?_
            refine WL_val rfl rfl rfl (by exact rMoveB rfl rfl) ?_
            refine WL_skip rfl rfl rfl ?_
            refine WL_skip rfl rfl rfl ?_
            refine WL_skip rfl rfl rfl ?_
            refine WL_val rfl rfl rfl (by exact rPickFB rfl rfl rfl) ?_
            refine WL_val rfl rfl rfl (by exact rAsgnB rfl rfl) ?_
            refine WL_nil ?_
            refine ⟨⟨?_, trivial⟩, hI.d0.d0⟩
            show Value.bool false = _
            simp [hr]
          · refine W_region ?_
            refine WL_val rfl rfl rfl (by exact rFldN (off := 6) rfl (by kernel_rfl) rfl) ?_
            refine WL_val rfl rfl rfl (by exact rLd (v := .int .i64 _) rfl (by kernel_rfl) rfl (by exact hI.c1 rfl)) ?_
            refine WL_val rfl rfl rfl (by exact rNeqT rfl rfl rfl (by omega)) ?_
            refine WL_val rfl rfl rfl (by exact rMoveB rfl rfl) ?_
            refine WL_val rfl rfl rfl (by exact rFldN (off := 1) rfl (by kernel_rfl) rfl) ?_
            refine WL_val rfl rfl rfl (by exact rLd (v := .int .i64 _) rfl (by kernel_rfl) rfl (by exact hI.c1 rfl)) ?_
            refine WL_val rfl rfl rfl (by exact rNeq rfl rfl rfl) ?_
            refine WL_val rfl rfl rfl (by exact rPickTB rfl rfl rfl) ?_
            refine WL_val rfl rfl rfl (by exact rAsgnB rfl rfl) ?_
            refine WL_nil ?_
            refine ⟨⟨?_, trivial⟩, hI.d0.d0⟩
            show Value.bool (!decide (ty = 2)) = _
            simp [hr]
    · clear hI
      rintro ρ w ⟨hH, hI⟩
      obtain ⟨σ, rfl⟩ := hH.open
      have hall : evOkB ⟨p, ty, ky, kd, a, b, r⟩ = (inB ty 1 4 && inB kd 1 12 && !(!decide (r = 0) && !decide (ty = 2))) := by unfold evOkB; simp only [h1, Bool.true_and]
      cases hz : (inB ty 1 4 && inB kd 1 12 && !(!decide (r = 0) && !decide (ty = 2))) with
      | false =>
        refine W_cond true rfl ?_
        refine W_seq ?_
        refine W_region ?_
        refine WL_val rfl rfl rfl (rIface rfl Tryz.underlying49 rfl rfl) ?_
        refine WL_val rfl rfl rfl (by exact rAsgnE rfl rfl) ?_
        refine WL_nil ?_
        refine W_ret ?_
        exact ret1 2 (.inr rfl) rfl ⟨hI.pu, .inr ⟨by rw [hall, hz], _, ⟨_, rfl⟩, rfl⟩⟩
      | true =>
        refine W_cond false rfl ?_
        refine W_skip ?_
        refine W_seq ?_
        refine W_region ?_
        refine WL_val rfl rfl rfl (by exact rAsgnN rfl rfl) ?_
        refine WL_nil ?_
        refine W_ret ?_
        exact ret1 2 (.inr rfl) rfl ⟨hI.pu, .inl ⟨by rw [hall, hz], rfl⟩⟩

end Go.Proofs.YtglioflpblpmpaaGreatDoor
namespace Go.Proofs.YtglioflpblpmpaaGreatDoor
open Go.RowKit
set_option linter.unusedVariables false
set_option linter.unusedSimpArgs false
def befB (p q : Op8) : Bool := decide (0 ≤ p.ret) && decide (p.ret < q.call)
set_option maxHeartbeats 1000000 in
theorem before_one (p0 p1 p2 p3 p4 p5 p6 p7 q0 q1 q2 q3 q4 q5 q6 q7 : Int) (w0 : World) : Calls Tryz.prog 21 #[.agg #[.int .i64 p0, .int .i64 p1, .int .i64 p2, .int .i64 p3, .int .i64 p4, .int .i64 p5, .int .i64 p6, .int .i64 p7], .agg #[.int .i64 q0, .int .i64 q1, .int .i64 q2, .int .i64 q3, .int .i64 q4, .int .i64 q5, .int .i64 q6, .int .i64 q7]] w0 fun en w' => en = .returned (.bool (befB ⟨p0, p1, p2, p3, p4, p5, p6, p7⟩ ⟨q0, q1, q2, q3, q4, q5, q6, q7⟩)) ∧ Pure w0 w' := by
  have hI := Inv.start (fun _ => False) w0
  refine calls_of_W (N := Tryz.f21.ntmps) Tryz.func21 rfl rfl rfl ?_
  refine W_seq ?_
  refine W_region ?_
  refine WL_box (u := .agg _) (vs := #[_, _, _, _, _, _, _, _]) hI rfl rfl rfl rfl rfl rfl ?_
  clear hI; rintro b2 w - - hI
  refine WL_box (u := .agg _) (vs := #[_, _, _, _, _, _, _, _]) hI rfl rfl rfl rfl rfl rfl ?_
  clear hI; rintro b3 w - - hI
  refine WL_val rfl rfl rfl (by exact rAsgnB rfl rfl) ?_
  refine WL_nil ?_
  obtain ⟨r, hr⟩ : ∃ r, befB ⟨p0, p1, p2, p3, p4, p5, p6, p7⟩ ⟨q0, q1, q2, q3, q4, q5, q6, q7⟩ = r := ⟨_, rfl⟩
  rw [hr]
  have hr' : (decide (0 ≤ p7) && decide (p7 < q6)) = r := hr
  by_cases h : 0 ≤ p7
  · rw [decide_eq_true h, Bool.true_and] at hr'
    by_cases h2 : p7 < q6
    · rw [decide_eq_true h2] at hr'; subst hr'
      refine W_seq ?_
      refine W_region ?_
      refine WL_val rfl rfl rfl (by exact rFldN (off := 7) rfl (by kernel_rfl) rfl) ?_
      refine WL_val rfl rfl rfl (by exact rLd (v := .int .i64 _) rfl (by kernel_rfl) rfl (by exact hI.c1 rfl)) ?_
      refine WL_val rfl rfl rfl (by exact rGeqT rfl rfl rfl (by omega)) ?_
      refine WL_val rfl rfl rfl (by exact rMoveB rfl rfl) ?_
      refine WL_val rfl rfl rfl (by exact rFldN (off := 7) rfl (by kernel_rfl) rfl) ?_
      refine WL_val rfl rfl rfl (by exact rLd (v := .int .i64 _) rfl (by kernel_rfl) rfl (by exact hI.c1 rfl)) ?_
      refine WL_val rfl rfl rfl (by exact rFldN (off := 6) rfl (by kernel_rfl) rfl) ?_
      refine WL_val rfl rfl rfl (by exact rLd (v := .int .i64 _) rfl (by kernel_rfl) rfl (by exact hI.c0 rfl)) ?_
      refine WL_val rfl rfl rfl (by exact rLssT rfl rfl rfl (by omega)) ?_
      refine WL_val rfl rfl rfl (by exact rPickTB rfl rfl rfl) ?_
      refine WL_val rfl rfl rfl (by exact rAsgnB rfl rfl) ?_
      refine WL_nil ?_
      refine W_ret ?_
      exact ret1 4 (.inr rfl) rfl ⟨rfl, hI.pu⟩
    · rw [decide_eq_false h2] at hr'; subst hr'
      refine W_seq ?_
      refine W_region ?_
      refine WL_val rfl rfl rfl (by exact rFldN (off := 7) rfl (by kernel_rfl) rfl) ?_
      refine WL_val rfl rfl rfl (by exact rLd (v := .int .i64 _) rfl (by kernel_rfl) rfl (by exact hI.c1 rfl)) ?_
      refine WL_val rfl rfl rfl (by exact rGeqT rfl rfl rfl (by omega)) ?_
      refine WL_val rfl rfl rfl (by exact rMoveB rfl rfl) ?_
      refine WL_val rfl rfl rfl (by exact rFldN (off := 7) rfl (by kernel_rfl) rfl) ?_
      refine WL_val rfl rfl rfl (by exact rLd (v := .int .i64 _) rfl (by kernel_rfl) rfl (by exact hI.c1 rfl)) ?_
      refine WL_val rfl rfl rfl (by exact rFldN (off := 6) rfl (by kernel_rfl) rfl) ?_
      refine WL_val rfl rfl rfl (by exact rLd (v := .int .i64 _) rfl (by kernel_rfl) rfl (by exact hI.c0 rfl)) ?_
      refine WL_val rfl rfl rfl (by exact rLssF rfl rfl rfl (by omega)) ?_
      refine WL_val rfl rfl rfl (by exact rPickTB rfl rfl rfl) ?_
      refine WL_val rfl rfl rfl (by exact rAsgnB rfl rfl) ?_
      refine WL_nil ?_
      refine W_ret ?_
      exact ret1 4 (.inr rfl) rfl ⟨rfl, hI.pu⟩
  · rw [decide_eq_false h, Bool.false_and] at hr'; subst hr'
    refine W_seq ?_
    refine W_region ?_
    refine WL_val rfl rfl rfl (by exact rFldN (off := 7) rfl (by kernel_rfl) rfl) ?_
    refine WL_val rfl rfl rfl (by exact rLd (v := .int .i64 _) rfl (by kernel_rfl) rfl (by exact hI.c1 rfl)) ?_
    refine WL_val rfl rfl rfl (by exact rGeqF rfl rfl rfl (by omega)) ?_
    refine WL_val rfl rfl rfl (by exact rMoveB rfl rfl) ?_
    refine WL_skip rfl rfl rfl ?_
    refine WL_skip rfl rfl rfl ?_
    refine WL_skip rfl rfl rfl ?_
    refine WL_skip rfl rfl rfl ?_
    refine WL_skip rfl rfl rfl ?_
    refine WL_val rfl rfl rfl (by exact rPickFB rfl rfl rfl) ?_
    refine WL_val rfl rfl rfl (by exact rAsgnB rfl rfl) ?_
    refine WL_nil ?_
    refine W_ret ?_
    exact ret1 4 (.inr rfl) rfl ⟨rfl, hI.pu⟩
theorem before_any (p q : Op8) (w0 : World) : Calls Tryz.prog 21 #[.agg (opV p).toArray, .agg (opV q).toArray] w0 fun en w' => en = .returned (.bool (befB p q)) ∧ Pure w0 w' := by
  obtain ⟨p0, p1, p2, p3, p4, p5, p6, p7⟩ := p
  obtain ⟨q0, q1, q2, q3, q4, q5, q6, q7⟩ := q
  exact before_one p0 p1 p2 p3 p4 p5 p6 p7 q0 q1 q2 q3 q4 q5 q6 q7 w0
/-- Whether an op may stand behind others. -/
def ordOk (o : Op8) (ah : List Op8) : Prop := ¬ (o.call < 0) ∧ ¬ (0 < ah.length ∧ o.call ≤ (oAt ah (ah.length - 1)).call) ∧ ¬ (o.ret ≠ -1 ∧ o.ret ≤ o.call) ∧ ¬ (o.ret = -1 ∧ o.res ≠ 0)
def twiceAt (o : Op8) (n : Int) : Prop := n ≠ -1 ∧ (n = o.call ∨ n = o.ret)
def OkOp (o : Op8) (ah : List Op8) : Prop :=
  toldB o.proc o.key [o.a, o.b, o.res, o.call, o.ret] = true ∧ inB o.kind 1 12 = true ∧ ordOk o ah ∧
    (∀ k, k < ah.length → ¬ twiceAt o (oAt ah k).call ∧ ¬ twiceAt o (oAt ah k).ret) ∧ (∀ k, k < ah.length → (oAt ah k).proc = o.proc → befB (oAt ah k) o = true)
/-- An error that isn't api.ErrNone. -/
def IsErr8 (v : Value) : Prop := ∃ u : Int, v = .iface 49 (.int .i64 u) ∧ u ≠ 8
theorem IsErr8.any {v : Value} (h : IsErr8 v) : IsErr v := by obtain ⟨u, h1, _⟩ := h; exact ⟨u, h1⟩
def OpPost (o : Op8) (ah : List Op8) (w0 : World) (en : Ending) (w' : World) : Prop := Pure w0 w' ∧ ((OkOp o ah ∧ en = .returned .nilIface) ∨ (¬ OkOp o ah ∧ ∃ x, IsErr8 x ∧ en = .returned x))
theorem OpPost.bad {o : Op8} {ah : List Op8} {w0 w' : World} {z : Int} (h : ¬ OkOp o ah) (hp : Pure w0 w') (hz : z ≠ 8 := by decide) : OpPost o ah w0 (.returned (.iface 49 (.int .i64 z))) w' := ⟨hp, .inr ⟨h, _, ⟨z, rfl, hz⟩, rfl⟩⟩
end Go.Proofs.YtglioflpblpmpaaGreatDoor
namespace Go.Proofs.YtglioflpblpmpaaGreatDoor
open Go.RowKit
set_option linter.unusedVariables false
set_option linter.unusedSimpArgs false
set_option maxHeartbeats 4000000 in
theorem checkOp_one (o0 o1 o2 o3 o4 o5 o6 o7 : Int) (A : Option Addr) (n c : Nat) (ah : List Op8) (D : Nat → Prop) (w0 : World) (h : OpsR w0 D (.slice A n c) ah) (hn40 : n ≤ 1000) :
    Calls Tryz.prog 75 #[.agg #[.int .i64 o0, .int .i64 o1, .int .i64 o2, .int .i64 o3, .int .i64 o4, .int .i64 o5, .int .i64 o6, .int .i64 o7], .slice A n c] w0 (OpPost ⟨o0, o1, o2, o3, o4, o5, o6, o7⟩ ah w0) := by
  obtain ⟨hn, hc1, hc2⟩ := h.len
  subst hn
  have hI := Inv.start (fun _ => False) w0
  refine calls_of_W (N := Tryz.f75.ntmps) Tryz.func75 rfl rfl rfl ?_
  refine W_seq ?_
  refine W_region ?_
  refine WL_box (u := .agg _) (vs := #[_, _, _, _, _, _, _, _]) hI rfl rfl rfl rfl rfl rfl ?_
  clear hI; rintro b2 w - - hI
  refine WL_val rfl rfl rfl (by exact rAsgnN rfl rfl) ?_
  refine WL_nil ?_
  refine W_seq ?_
  refine W_region ?_
  refine WL_val rfl rfl rfl (by exact rFldN (off := 7) rfl (by kernel_rfl) rfl) ?_
  refine WL_val rfl rfl rfl (by exact rLd (v := .int .i64 _) rfl (by kernel_rfl) rfl (by exact hI.c0 rfl)) ?_
  refine WL_val rfl rfl rfl (rEql rfl rfl rfl) ?_
  refine WL_val rfl rfl rfl (by exact rAsgnB rfl rfl) ?_
  refine WL_nil ?_
  refine W_seq ?_
  refine W_block ?_
  cases ht : toldB o0 o1 [o3, o4, o5, o6, o7] with
  | false =>
    refine W_seq ?_
    refine W_region ?_
    refine WL_val rfl rfl rfl (by exact rFldN (off := 0) rfl (by kernel_rfl) rfl) ?_
    refine WL_val rfl rfl rfl (by exact rLd (v := .int .i64 _) rfl (by kernel_rfl) rfl (by exact hI.c0 rfl)) ?_
    refine WL_val rfl rfl rfl (by exact rFldN (off := 1) rfl (by kernel_rfl) rfl) ?_
    refine WL_val rfl rfl rfl (by exact rLd (v := .int .i64 _) rfl (by kernel_rfl) rfl (by exact hI.c0 rfl)) ?_
    refine WL_val rfl rfl rfl (by exact rFldN (off := 3) rfl (by kernel_rfl) rfl) ?_
    refine WL_val rfl rfl rfl (by exact rLd (v := .int .i64 _) rfl (by kernel_rfl) rfl (by exact hI.c0 rfl)) ?_
    refine WL_val rfl rfl rfl (by exact rFldN (off := 4) rfl (by kernel_rfl) rfl) ?_
    refine WL_val rfl rfl rfl (by exact rLd (v := .int .i64 _) rfl (by kernel_rfl) rfl (by exact hI.c0 rfl)) ?_
    refine WL_val rfl rfl rfl (by exact rFldN (off := 5) rfl (by kernel_rfl) rfl) ?_
    refine WL_val rfl rfl rfl (by exact rLd (v := .int .i64 _) rfl (by kernel_rfl) rfl (by exact hI.c0 rfl)) ?_
    refine WL_val rfl rfl rfl (by exact rFldN (off := 6) rfl (by kernel_rfl) rfl) ?_
    refine WL_val rfl rfl rfl (by exact rLd (v := .int .i64 _) rfl (by kernel_rfl) rfl (by exact hI.c0 rfl)) ?_
    refine WL_val rfl rfl rfl (by exact rFldN (off := 7) rfl (by kernel_rfl) rfl) ?_
    refine WL_val rfl rfl rfl (by exact rLd (v := .int .i64 _) rfl (by kernel_rfl) rfl (by exact hI.c0 rfl)) ?_
    refine WL_lit (vs := [_, _, _, _, _]) (qs := [(0, .int .i64 _), (1, .int .i64 _), (2, .int .i64 _), (3, .int .i64 _), (4, .int .i64 _)]) [.int .i64 0, .int .i64 0, .int .i64 0, .int .i64 0, .int .i64 0] [0, 1, 2, 3, 4] hI rfl rfl rfl rfl rfl rfl Tryz.underlying37 (fun _ => by kernel_rfl) ?_
    clear hI; rintro b30 w - - hI
    refine WL_call rfl rfl rfl (rCall (vs := [.int .i64 _, .int .i64 _, .slice _ _ _]) rfl Tryz.func33 rfl rfl rfl) ?_
    refine (told_any o0 o1 _ 5 5 [o3, o4, o5, o6, o7] _ _ (ints_lit hI.g0 rfl rfl (by omega)) rfl (by omega)).mono ?_
    rw [ht]
    rintro e w1 ⟨rfl, rfl⟩
    refine ⟨_, rfl, ?_⟩
    refine WL_val rfl rfl rfl (by exact rNotF rfl rfl) ?_
    refine WL_val rfl rfl rfl (by exact rAsgnB rfl rfl) ?_
    refine WL_nil ?_
    refine W_cond true rfl ?_
    refine W_seq ?_
    refine W_region ?_
    refine WL_val rfl rfl rfl (rIface rfl Tryz.underlying49 rfl rfl) ?_
    refine WL_val rfl rfl rfl (by exact rAsgnE rfl rfl) ?_
    refine WL_nil ?_
    refine W_ret ?_
    exact ret1 4 (.inr rfl) rfl (OpPost.bad (fun hh => by have := hh.1; rw [show toldB _ _ _ = false from ht] at this; cases this) hI.pu)
  | true =>
  refine W_seq ?_
  refine W_region ?_
  refine WL_val rfl rfl rfl (by exact rFldN (off := 0) rfl (by kernel_rfl) rfl) ?_
  refine WL_val rfl rfl rfl (by exact rLd (v := .int .i64 _) rfl (by kernel_rfl) rfl (by exact hI.c0 rfl)) ?_
  refine WL_val rfl rfl rfl (by exact rFldN (off := 1) rfl (by kernel_rfl) rfl) ?_
  refine WL_val rfl rfl rfl (by exact rLd (v := .int .i64 _) rfl (by kernel_rfl) rfl (by exact hI.c0 rfl)) ?_
  refine WL_val rfl rfl rfl (by exact rFldN (off := 3) rfl (by kernel_rfl) rfl) ?_
  refine WL_val rfl rfl rfl (by exact rLd (v := .int .i64 _) rfl (by kernel_rfl) rfl (by exact hI.c0 rfl)) ?_
  refine WL_val rfl rfl rfl (by exact rFldN (off := 4) rfl (by kernel_rfl) rfl) ?_
  refine WL_val rfl rfl rfl (by exact rLd (v := .int .i64 _) rfl (by kernel_rfl) rfl (by exact hI.c0 rfl)) ?_
  refine WL_val rfl rfl rfl (by exact rFldN (off := 5) rfl (by kernel_rfl) rfl) ?_
  refine WL_val rfl rfl rfl (by exact rLd (v := .int .i64 _) rfl (by kernel_rfl) rfl (by exact hI.c0 rfl)) ?_
  refine WL_val rfl rfl rfl (by exact rFldN (off := 6) rfl (by kernel_rfl) rfl) ?_
  refine WL_val rfl rfl rfl (by exact rLd (v := .int .i64 _) rfl (by kernel_rfl) rfl (by exact hI.c0 rfl)) ?_
  refine WL_val rfl rfl rfl (by exact rFldN (off := 7) rfl (by kernel_rfl) rfl) ?_
  refine WL_val rfl rfl rfl (by exact rLd (v := .int .i64 _) rfl (by kernel_rfl) rfl (by exact hI.c0 rfl)) ?_
  refine WL_lit (vs := [_, _, _, _, _]) (qs := [(0, .int .i64 _), (1, .int .i64 _), (2, .int .i64 _), (3, .int .i64 _), (4, .int .i64 _)]) [.int .i64 0, .int .i64 0, .int .i64 0, .int .i64 0, .int .i64 0] [0, 1, 2, 3, 4] hI rfl rfl rfl rfl rfl rfl Tryz.underlying37 (fun _ => by kernel_rfl) ?_
  clear hI; rintro b30 w - - hI
  refine WL_call rfl rfl rfl (rCall (vs := [.int .i64 _, .int .i64 _, .slice _ _ _]) rfl Tryz.func33 rfl rfl rfl) ?_
  refine (told_any o0 o1 _ 5 5 [o3, o4, o5, o6, o7] _ _ (ints_lit hI.g0 rfl rfl (by omega)) rfl (by omega)).mono ?_
  rw [ht]
  rintro e w1 ⟨rfl, rfl⟩
  refine ⟨_, rfl, ?_⟩
  refine WL_val rfl rfl rfl (by exact rNotT rfl rfl) ?_
  refine WL_val rfl rfl rfl (by exact rAsgnB rfl rfl) ?_
  refine WL_nil ?_
  refine W_cond false rfl ?_
  replace hI := hI.d0
  cases hkd : inB o2 1 12 with
  | false =>
    refine W_seq ?_
    refine W_region ?_
    refine WL_val rfl rfl rfl (by exact rFldN (off := 2) rfl (by kernel_rfl) rfl) ?_
    refine WL_val rfl rfl rfl (by exact rLd (v := .int .i64 _) rfl (by kernel_rfl) rfl (by exact hI.c0 rfl)) ?_
    refine WL_call rfl rfl rfl (rCall (vs := [.int .i64 _, .int .i64 _, .int .i64 _]) rfl Tryz.func34 rfl rfl rfl) ?_
    refine (ein_any o2 1 12 _).mono ?_
    rw [hkd]
    rintro e w1 ⟨rfl, rfl⟩
    refine ⟨_, rfl, ?_⟩
    refine WL_val rfl rfl rfl (by exact rNotF rfl rfl) ?_
    refine WL_val rfl rfl rfl (by exact rAsgnB rfl rfl) ?_
    refine WL_nil ?_
    refine W_cond true rfl ?_
    refine W_seq ?_
    refine W_region ?_
    refine WL_val rfl rfl rfl (rIface rfl Tryz.underlying49 rfl rfl) ?_
    refine WL_val rfl rfl rfl (by exact rAsgnE rfl rfl) ?_
    refine WL_nil ?_
    refine W_ret ?_
    exact ret1 4 (.inr rfl) rfl (OpPost.bad (fun hh => by have := hh.2.1; rw [show inB _ _ _ = false from hkd] at this; cases this) hI.pu)
  | true =>
  refine W_seq ?_
  refine W_region ?_
  refine WL_val rfl rfl rfl (by exact rFldN (off := 2) rfl (by kernel_rfl) rfl) ?_
  refine WL_val rfl rfl rfl (by exact rLd (v := .int .i64 _) rfl (by kernel_rfl) rfl (by exact hI.c0 rfl)) ?_
  refine WL_call rfl rfl rfl (rCall (vs := [.int .i64 _, .int .i64 _, .int .i64 _]) rfl Tryz.func34 rfl rfl rfl) ?_
  refine (ein_any o2 1 12 _).mono ?_
  rw [hkd]
  rintro e w1 ⟨rfl, rfl⟩
  refine ⟨_, rfl, ?_⟩
  refine WL_val rfl rfl rfl (by exact rNotT rfl rfl) ?_
  refine WL_val rfl rfl rfl (by exact rAsgnB rfl rfl) ?_
  refine WL_nil ?_
  refine W_cond false rfl ?_
  refine W_seq_cut (fun ρ w => ∃ bb : Bool, (bb = true ↔ ¬ ordOk ⟨o0, o1, o2, o3, o4, o5, o6, o7⟩ ah) ∧ Has ρ [(40, .bool bb), (1, .slice A ah.length c), (2, .pointer (some ⟨b2, 0, none⟩))] ∧ Inv (fun _ => False) w0 w [B b2 62 #[.int .i64 o0, .int .i64 o1, .int .i64 o2, .int .i64 o3, .int .i64 o4, .int .i64 o5, .int .i64 o6, .int .i64 o7]]) ?_ ?_
  · by_cases c1 : o6 < 0
    · refine W_seq ?_
      refine W_region ?_
      refine WL_val rfl rfl rfl (by exact rFldN (off := 6) rfl (by kernel_rfl) rfl) ?_
      refine WL_val rfl rfl rfl (by exact rLd (v := .int .i64 _) rfl (by kernel_rfl) rfl (by exact hI.c0 rfl)) ?_
      refine WL_val rfl rfl rfl (by exact rLssT rfl rfl rfl (by omega)) ?_
      refine WL_val rfl rfl rfl (by exact rAsgnB rfl rfl) ?_
      refine WL_nil ?_
      refine W_cond true rfl ?_
      refine W_skip ?_
      exact ⟨true, by simp; exact fun hh => hh.1 c1, ⟨rfl, rfl, rfl, trivial⟩, hI⟩
    refine W_seq ?_
    refine W_region ?_
    refine WL_val rfl rfl rfl (by exact rFldN (off := 6) rfl (by kernel_rfl) rfl) ?_
    refine WL_val rfl rfl rfl (by exact rLd (v := .int .i64 _) rfl (by kernel_rfl) rfl (by exact hI.c0 rfl)) ?_
    refine WL_val rfl rfl rfl (by exact rLssF rfl rfl rfl (by omega)) ?_
    refine WL_val rfl rfl rfl (by exact rAsgnB rfl rfl) ?_
    refine WL_nil ?_
    refine W_cond false rfl ?_
    obtain ⟨lb, hlb⟩ : ∃ lb : Bool, (lb = true ↔ (0 < ah.length ∧ o6 ≤ (oAt ah (ah.length - 1)).call)) := ⟨decide (0 < ah.length ∧ o6 ≤ (oAt ah (ah.length - 1)).call), by simp⟩
    refine W_seq_cut (fun ρ w => Has ρ [(40, .bool lb), (1, .slice A ah.length c), (2, .pointer (some ⟨b2, 0, none⟩)), (5, .bool (decide (o7 = -1)))] ∧ Inv (fun _ => False) w0 w [B b2 62 #[.int .i64 o0, .int .i64 o1, .int .i64 o2, .int .i64 o3, .int .i64 o4, .int .i64 o5, .int .i64 o6, .int .i64 o7]]) ?_ ?_
    · rcases Nat.eq_zero_or_pos ah.length with h0 | h0
      · have : lb = false := by
          cases lb
          · rfl
          · have := hlb.1 rfl; omega
        subst this
        refine W_draw (by kernel_rfl) ?_
        refine WA_inv (T := []) hI.drew ?_
        intro Sx hSx hXS
        replace hI := hI.drew
        refine WT_take 0 rfl rfl (by kernel_rfl) (hXS _ hI) rfl (fun W hW => have hI := hSx W hW; (by exact rMoveS rfl rfl)) ?_
        refine WT_take 1 rfl rfl (by kernel_rfl) (hXS _ hI) rfl (fun W hW => have hI := hSx W hW; (rLen rfl Tryz.underlying32 rfl)) ?_
        refine WT_take 2 rfl rfl (by kernel_rfl) (hXS _ hI) rfl (fun W hW => have hI := hSx W hW; (by exact rGtrF rfl rfl rfl (by omega))) ?_
        refine WT_take 3 rfl rfl (by kernel_rfl) (hXS _ hI) rfl (fun W hW => have hI := hSx W hW; (by exact rMoveB rfl rfl)) ?_
        refine WT_skip 4 rfl rfl (by kernel_rfl) (hXS _ hI) rfl ?_
        refine WT_skip 5 rfl rfl (by kernel_rfl) (hXS _ hI) rfl ?_
        refine WT_skip 6 rfl rfl (by kernel_rfl) (hXS _ hI) rfl ?_
        refine WT_skip 7 rfl rfl (by kernel_rfl) (hXS _ hI) rfl ?_
        refine WT_skip 8 rfl rfl (by kernel_rfl) (hXS _ hI) rfl ?_
        refine WT_skip 9 rfl rfl (by kernel_rfl) (hXS _ hI) rfl ?_
        refine WT_skip 10 rfl rfl (by kernel_rfl) (hXS _ hI) rfl ?_
        refine WT_skip 11 rfl rfl (by kernel_rfl) (hXS _ hI) rfl ?_
        refine WT_skip 12 rfl rfl (by kernel_rfl) (hXS _ hI) rfl ?_
        refine WT_skip 13 rfl rfl (by kernel_rfl) (hXS _ hI) rfl ?_
        refine WT_take 14 rfl rfl (by kernel_rfl) (hXS _ hI) rfl (fun W hW => have hI := hSx W hW; (by exact rPickFB rfl rfl rfl)) ?_
        refine WT_take 15 rfl rfl (by kernel_rfl) (hXS _ hI) rfl (fun W hW => have hI := hSx W hW; (by exact rAsgnB rfl rfl)) ?_
        refine WT_end (by kernel_rfl) ?_
        exact ⟨⟨rfl, rfl, rfl, rfl, trivial⟩, hI⟩
      · obtain ⟨ab, ao, rfl, hoc⟩ := h.at (show ah.length - 1 < ah.length by omega)
        have hcl := hoc 6 _ rfl
        by_cases hle : o6 ≤ (oAt ah (ah.length - 1)).call
        · have : lb = true := hlb.2 ⟨h0, hle⟩
          subst this
          refine W_draw (by kernel_rfl) ?_
          refine WA_inv (T := []) hI.drew ?_
          intro Sx hSx hXS
          replace hI := hI.drew
          refine WT_take 0 rfl rfl (by kernel_rfl) (hXS _ hI) rfl (fun W hW => have hI := hSx W hW; (by exact rMoveS rfl rfl)) ?_
          refine WT_take 1 rfl rfl (by kernel_rfl) (hXS _ hI) rfl (fun W hW => have hI := hSx W hW; (rLen rfl Tryz.underlying32 rfl)) ?_
          refine WT_take 2 rfl rfl (by kernel_rfl) (hXS _ hI) rfl (fun W hW => have hI := hSx W hW; (by exact rGtrT rfl rfl rfl (by omega))) ?_
          refine WT_take 3 rfl rfl (by kernel_rfl) (hXS _ hI) rfl (fun W hW => have hI := hSx W hW; (by exact rMoveB rfl rfl)) ?_
          refine WT_take 4 rfl rfl (by kernel_rfl) (hXS _ hI) rfl (fun W hW => have hI := hSx W hW; (by exact rFldN (off := 6) rfl (by kernel_rfl) rfl)) ?_
          refine WT_take 5 rfl rfl (by kernel_rfl) (hXS _ hI) rfl (fun W hW => have hI := hSx W hW; (by exact rLd (v := .int .i64 _) rfl (by kernel_rfl) rfl (by exact hI.c0 rfl))) ?_
          refine WT_take 6 rfl rfl (by kernel_rfl) (hXS _ hI) rfl (fun W hW => have hI := hSx W hW; (by exact rMoveS rfl rfl)) ?_
          refine WT_take 7 rfl rfl (by kernel_rfl) (hXS _ hI) rfl (fun W hW => have hI := hSx W hW; (by exact rMoveS rfl rfl)) ?_
          refine WT_take 8 rfl rfl (by kernel_rfl) (hXS _ hI) rfl (fun W hW => have hI := hSx W hW; (rLen rfl Tryz.underlying32 rfl)) ?_
          refine WT_take 9 rfl rfl (by kernel_rfl) (hXS _ hI) rfl (fun W hW => have hI := hSx W hW; (rDecN (a := ah.length) (b := 1) rfl rfl rfl (by omega) (by omega))) ?_
          refine WT_take 10 rfl rfl (by kernel_rfl) (hXS _ hI) rfl (fun W hW => have hI := hSx W hW; (rIdx (sz := 8) (i := ah.length - 1) rfl Tryz.underlying32 (by kernel_rfl) rfl rfl (by omega))) ?_
          refine WT_take 11 rfl rfl (by kernel_rfl) (hXS _ hI) rfl (fun W hW => have hI := hSx W hW; (by exact rFld (off := 6) rfl (by kernel_rfl) rfl)) ?_
          refine WT_take 12 rfl rfl (by kernel_rfl) (hXS _ hI) rfl (fun W hW => have hI := hSx W hW; (by exact rLd (v := .int .i64 _) rfl (by kernel_rfl) rfl (by exact hI.oldp hcl))) ?_
          refine WT_take 13 rfl rfl (by kernel_rfl) (hXS _ hI) rfl (fun W hW => have hI := hSx W hW; (by exact rLeqT rfl rfl rfl (by omega))) ?_
          refine WT_take 14 rfl rfl (by kernel_rfl) (hXS _ hI) rfl (fun W hW => have hI := hSx W hW; (by exact rPickTB rfl rfl rfl)) ?_
          refine WT_take 15 rfl rfl (by kernel_rfl) (hXS _ hI) rfl (fun W hW => have hI := hSx W hW; (by exact rAsgnB rfl rfl)) ?_
          refine WT_end (by kernel_rfl) ?_
          exact ⟨⟨rfl, rfl, rfl, rfl, trivial⟩, hI⟩
        · have : lb = false := by
            cases lb
            · rfl
            · exact absurd (hlb.1 rfl).2 hle
          subst this
          refine W_draw (by kernel_rfl) ?_
          refine WA_inv (T := []) hI.drew ?_
          intro Sx hSx hXS
          replace hI := hI.drew
          refine WT_take 0 rfl rfl (by kernel_rfl) (hXS _ hI) rfl (fun W hW => have hI := hSx W hW; (by exact rMoveS rfl rfl)) ?_
          refine WT_take 1 rfl rfl (by kernel_rfl) (hXS _ hI) rfl (fun W hW => have hI := hSx W hW; (rLen rfl Tryz.underlying32 rfl)) ?_
          refine WT_take 2 rfl rfl (by kernel_rfl) (hXS _ hI) rfl (fun W hW => have hI := hSx W hW; (by exact rGtrT rfl rfl rfl (by omega))) ?_
          refine WT_take 3 rfl rfl (by kernel_rfl) (hXS _ hI) rfl (fun W hW => have hI := hSx W hW; (by exact rMoveB rfl rfl)) ?_
          refine WT_take 4 rfl rfl (by kernel_rfl) (hXS _ hI) rfl (fun W hW => have hI := hSx W hW; (by exact rFldN (off := 6) rfl (by kernel_rfl) rfl)) ?_
          refine WT_take 5 rfl rfl (by kernel_rfl) (hXS _ hI) rfl (fun W hW => have hI := hSx W hW; (by exact rLd (v := .int .i64 _) rfl (by kernel_rfl) rfl (by exact hI.c0 rfl))) ?_
          refine WT_take 6 rfl rfl (by kernel_rfl) (hXS _ hI) rfl (fun W hW => have hI := hSx W hW; (by exact rMoveS rfl rfl)) ?_
          refine WT_take 7 rfl rfl (by kernel_rfl) (hXS _ hI) rfl (fun W hW => have hI := hSx W hW; (by exact rMoveS rfl rfl)) ?_
          refine WT_take 8 rfl rfl (by kernel_rfl) (hXS _ hI) rfl (fun W hW => have hI := hSx W hW; (rLen rfl Tryz.underlying32 rfl)) ?_
          refine WT_take 9 rfl rfl (by kernel_rfl) (hXS _ hI) rfl (fun W hW => have hI := hSx W hW; (rDecN (a := ah.length) (b := 1) rfl rfl rfl (by omega) (by omega))) ?_
          refine WT_take 10 rfl rfl (by kernel_rfl) (hXS _ hI) rfl (fun W hW => have hI := hSx W hW; (rIdx (sz := 8) (i := ah.length - 1) rfl Tryz.underlying32 (by kernel_rfl) rfl rfl (by omega))) ?_
          refine WT_take 11 rfl rfl (by kernel_rfl) (hXS _ hI) rfl (fun W hW => have hI := hSx W hW; (by exact rFld (off := 6) rfl (by kernel_rfl) rfl)) ?_
          refine WT_take 12 rfl rfl (by kernel_rfl) (hXS _ hI) rfl (fun W hW => have hI := hSx W hW; (by exact rLd (v := .int .i64 _) rfl (by kernel_rfl) rfl (by exact hI.oldp hcl))) ?_
          refine WT_take 13 rfl rfl (by kernel_rfl) (hXS _ hI) rfl (fun W hW => have hI := hSx W hW; (by exact rLeqF rfl rfl rfl (by omega))) ?_
          refine WT_take 14 rfl rfl (by kernel_rfl) (hXS _ hI) rfl (fun W hW => have hI := hSx W hW; (by exact rPickTB rfl rfl rfl)) ?_
          refine WT_take 15 rfl rfl (by kernel_rfl) (hXS _ hI) rfl (fun W hW => have hI := hSx W hW; (by exact rAsgnB rfl rfl)) ?_
          refine WT_end (by kernel_rfl) ?_
          exact ⟨⟨rfl, rfl, rfl, rfl, trivial⟩, hI⟩
    clear hI
    rintro ρ w ⟨hH, hI⟩
    obtain ⟨σ, rfl⟩ := hH.open
    cases lb with
    | true =>
      refine W_cond true rfl ?_
      refine W_skip ?_
      exact ⟨true, by simp; exact fun hh => hh.2.1 (hlb.1 rfl), ⟨rfl, rfl, rfl, trivial⟩, hI⟩
    | false =>
    have hnl : ¬ (0 < ah.length ∧ o6 ≤ (oAt ah (ah.length - 1)).call) := fun hh => by have := hlb.2 hh; cases this
    refine W_cond false rfl ?_
    by_cases hu : o7 = -1
    · rw [decide_eq_true hu]
      refine W_seq ?_
      refine W_region ?_
      refine WL_val rfl rfl rfl (by exact rMoveB rfl rfl) ?_
      refine WL_val rfl rfl rfl (by exact rNotT rfl rfl) ?_
      refine WL_val rfl rfl rfl (by exact rMoveB rfl rfl) ?_
      refine WL_skip rfl rfl rfl ?_
      refine WL_skip rfl rfl rfl ?_
      refine WL_skip rfl rfl rfl ?_
      refine WL_skip rfl rfl rfl ?_
      refine WL_skip rfl rfl rfl ?_
      refine WL_val rfl rfl rfl (by exact rPickFB rfl rfl rfl) ?_
      refine WL_val rfl rfl rfl (by exact rAsgnB rfl rfl) ?_
      refine WL_nil ?_
      refine W_cond false rfl ?_
      by_cases hres : o5 = 0
      · refine W_region ?_
        refine WL_val rfl rfl rfl (by exact rMoveB rfl rfl) ?_
        refine WL_val rfl rfl rfl (by exact rMoveB rfl rfl) ?_
        refine WL_val rfl rfl rfl (by exact rFldN (off := 5) rfl (by kernel_rfl) rfl) ?_
        refine WL_val rfl rfl rfl (by exact rLd (v := .int .i64 _) rfl (by kernel_rfl) rfl (by exact hI.c0 rfl)) ?_
        refine WL_val rfl rfl rfl (by exact rNeqF rfl rfl rfl (by omega)) ?_
        refine WL_val rfl rfl rfl (by exact rPickTB rfl rfl rfl) ?_
        refine WL_val rfl rfl rfl (by exact rAsgnB rfl rfl) ?_
        refine WL_nil ?_
        exact ⟨false, by simp; exact ⟨by exact c1, hnl, fun hh => hh.1 hu, fun hh => hh.2 hres⟩, ⟨rfl, rfl, rfl, trivial⟩, hI⟩
      · refine W_region ?_
        refine WL_val rfl rfl rfl (by exact rMoveB rfl rfl) ?_
        refine WL_val rfl rfl rfl (by exact rMoveB rfl rfl) ?_
        refine WL_val rfl rfl rfl (by exact rFldN (off := 5) rfl (by kernel_rfl) rfl) ?_
        refine WL_val rfl rfl rfl (by exact rLd (v := .int .i64 _) rfl (by kernel_rfl) rfl (by exact hI.c0 rfl)) ?_
        refine WL_val rfl rfl rfl (by exact rNeqT rfl rfl rfl (by omega)) ?_
        refine WL_val rfl rfl rfl (by exact rPickTB rfl rfl rfl) ?_
        refine WL_val rfl rfl rfl (by exact rAsgnB rfl rfl) ?_
        refine WL_nil ?_
        exact ⟨true, by simp; exact fun hh => hh.2.2.2 ⟨hu, hres⟩, ⟨rfl, rfl, rfl, trivial⟩, hI⟩
    · rw [decide_eq_false hu]
      by_cases hrc : o7 ≤ o6
      · refine W_seq ?_
        refine W_region ?_
        refine WL_val rfl rfl rfl (by exact rMoveB rfl rfl) ?_
        refine WL_val rfl rfl rfl (by exact rNotF rfl rfl) ?_
        refine WL_val rfl rfl rfl (by exact rMoveB rfl rfl) ?_
        refine WL_val rfl rfl rfl (by exact rFldN (off := 7) rfl (by kernel_rfl) rfl) ?_
        refine WL_val rfl rfl rfl (by exact rLd (v := .int .i64 _) rfl (by kernel_rfl) rfl (by exact hI.c0 rfl)) ?_
        refine WL_val rfl rfl rfl (by exact rFldN (off := 6) rfl (by kernel_rfl) rfl) ?_
        refine WL_val rfl rfl rfl (by exact rLd (v := .int .i64 _) rfl (by kernel_rfl) rfl (by exact hI.c0 rfl)) ?_
        refine WL_val rfl rfl rfl (by exact rLeqT rfl rfl rfl (by omega)) ?_
        refine WL_val rfl rfl rfl (by exact rPickTB rfl rfl rfl) ?_
        refine WL_val rfl rfl rfl (by exact rAsgnB rfl rfl) ?_
        refine WL_nil ?_
        refine W_cond true rfl ?_
        refine W_skip ?_
        exact ⟨true, by simp; exact fun hh => hh.2.2.1 ⟨hu, hrc⟩, ⟨rfl, rfl, rfl, trivial⟩, hI⟩
      · refine W_seq ?_
        refine W_region ?_
        refine WL_val rfl rfl rfl (by exact rMoveB rfl rfl) ?_
        refine WL_val rfl rfl rfl (by exact rNotF rfl rfl) ?_
        refine WL_val rfl rfl rfl (by exact rMoveB rfl rfl) ?_
        refine WL_val rfl rfl rfl (by exact rFldN (off := 7) rfl (by kernel_rfl) rfl) ?_
        refine WL_val rfl rfl rfl (by exact rLd (v := .int .i64 _) rfl (by kernel_rfl) rfl (by exact hI.c0 rfl)) ?_
        refine WL_val rfl rfl rfl (by exact rFldN (off := 6) rfl (by kernel_rfl) rfl) ?_
        refine WL_val rfl rfl rfl (by exact rLd (v := .int .i64 _) rfl (by kernel_rfl) rfl (by exact hI.c0 rfl)) ?_
        refine WL_val rfl rfl rfl (by exact rLeqF rfl rfl rfl (by omega)) ?_
        refine WL_val rfl rfl rfl (by exact rPickTB rfl rfl rfl) ?_
        refine WL_val rfl rfl rfl (by exact rAsgnB rfl rfl) ?_
        refine WL_nil ?_
        refine W_cond false rfl ?_
        refine W_region ?_
        refine WL_val rfl rfl rfl (by exact rMoveB rfl rfl) ?_
        refine WL_val rfl rfl rfl (by exact rMoveB rfl rfl) ?_
        refine WL_skip rfl rfl rfl ?_
        refine WL_skip rfl rfl rfl ?_
        refine WL_skip rfl rfl rfl ?_
        refine WL_val rfl rfl rfl (by exact rPickFB rfl rfl rfl) ?_
        refine WL_val rfl rfl rfl (by exact rAsgnB rfl rfl) ?_
        refine WL_nil ?_
        exact ⟨false, by simp; exact ⟨by exact c1, hnl, fun hh => hrc hh.2, fun hh => hu hh.1⟩, ⟨rfl, rfl, rfl, trivial⟩, hI⟩
  clear hI
  rintro ρ w ⟨bb, hbb, hH, hI⟩
  obtain ⟨σ, rfl⟩ := hH.open
  cases bb with
  | true =>
    refine W_cond true rfl ?_
    refine W_seq ?_
    refine W_region ?_
    refine WL_val rfl rfl rfl (rIface rfl Tryz.underlying49 rfl rfl) ?_
    refine WL_val rfl rfl rfl (by exact rAsgnE rfl rfl) ?_
    refine WL_nil ?_
    refine W_ret ?_
    exact ret1 4 (.inr rfl) rfl (OpPost.bad (fun hh => hbb.1 rfl hh.2.2.1) hI.pu)
  | false =>
  have hord : ordOk ⟨o0, o1, o2, o3, o4, o5, o6, o7⟩ ah := by
    rcases Classical.em (ordOk ⟨o0, o1, o2, o3, o4, o5, o6, o7⟩ ah) with h1 | h1
    · exact h1
    · have := hbb.2 h1; cases this
  refine W_cond false rfl ?_
  refine W_skip ?_
  refine W_seq_cut (fun ρ w => (∀ k, k < ah.length → ¬ twiceAt ⟨o0, o1, o2, o3, o4, o5, o6, o7⟩ (oAt ah k).call ∧ ¬ twiceAt ⟨o0, o1, o2, o3, o4, o5, o6, o7⟩ (oAt ah k).ret) ∧ Has ρ [(1, .slice A ah.length c), (2, .pointer (some ⟨b2, 0, none⟩))] ∧ Inv (fun _ => False) w0 w [B b2 62 #[.int .i64 o0, .int .i64 o1, .int .i64 o2, .int .i64 o3, .int .i64 o4, .int .i64 o5, .int .i64 o6, .int .i64 o7]]) ?_ ?_
  · refine W_seq ?_
    refine W_region ?_
    refine WL_val rfl rfl rfl (by exact rMoveS rfl rfl) ?_
    refine WL_val rfl rfl rfl (rLen rfl Tryz.underlying32 rfl) ?_
    refine WL_val rfl rfl rfl (by exact rMoveI rfl rfl) ?_
    refine WL_nil ?_
    refine W_block ?_
    refine W_loopN (fun mu ρ w => ∃ k : Nat, mu = ah.length - k ∧ k ≤ ah.length ∧ (∀ j, j < k → ¬ twiceAt ⟨o0, o1, o2, o3, o4, o5, o6, o7⟩ (oAt ah j).call ∧ ¬ twiceAt ⟨o0, o1, o2, o3, o4, o5, o6, o7⟩ (oAt ah j).ret) ∧ Has ρ [(77, .int .i64 (k : Int)), (76, .int .i64 (ah.length : Int)), (75, .slice A ah.length c), (1, .slice A ah.length c), (2, .pointer (some ⟨b2, 0, none⟩))] ∧ Inv (fun _ => False) w0 w [B b2 62 #[.int .i64 o0, .int .i64 o1, .int .i64 o2, .int .i64 o3, .int .i64 o4, .int .i64 o5, .int .i64 o6, .int .i64 o7]]) ah.length
      ⟨0, rfl, by omega, fun j hj => by omega, ⟨rfl, rfl, rfl, rfl, rfl, trivial⟩, hI⟩ ?_
    clear hI
    rintro mu ρ w ⟨k, rfl, hk, hall, hH, hI⟩
    obtain ⟨σ, rfl⟩ := hH.open
    by_cases hkl : k < ah.length
    rotate_left
    · obtain rfl : k = ah.length := by omega
      refine W_seq ?_
      refine W_region ?_
      refine WL_val rfl rfl rfl (by exact rLssF rfl rfl rfl (by omega)) ?_
      refine WL_nil ?_
      refine W_seq ?_
      refine W_cond false rfl ?_
      refine W_exit ?_
      exact ⟨hall, ⟨rfl, rfl, trivial⟩, hI⟩
    obtain ⟨ab, ao, rfl, hoc⟩ := h.at hkl
    generalize hpk : oAt ah k = pk at hoc
    obtain ⟨p0, p1, p2, p3, p4, p5, p6, p7⟩ := pk
    refine W_seq ?_
    refine W_region ?_
    refine WL_val rfl rfl rfl (by exact rLssT rfl rfl rfl (by omega)) ?_
    refine WL_nil ?_
    refine W_seq ?_
    refine W_cond true rfl ?_
    refine W_skip ?_
    refine W_seq_cut (fun ρ w => (¬ twiceAt ⟨o0, o1, o2, o3, o4, o5, o6, o7⟩ p6 ∧ ¬ twiceAt ⟨o0, o1, o2, o3, o4, o5, o6, o7⟩ p7) ∧ Has ρ [(77, .int .i64 (k : Int)), (76, .int .i64 (ah.length : Int)), (75, .slice (some ⟨ab, ao, none⟩) ah.length c), (1, .slice (some ⟨ab, ao, none⟩) ah.length c), (2, .pointer (some ⟨b2, 0, none⟩))] ∧ Inv (fun _ => False) w0 w [B b2 62 #[.int .i64 o0, .int .i64 o1, .int .i64 o2, .int .i64 o3, .int .i64 o4, .int .i64 o5, .int .i64 o6, .int .i64 o7]]) ?_ ?_
    rotate_left
    · clear hI
      rintro ρ w ⟨hno, hH, hI⟩
      obtain ⟨σ, rfl⟩ := hH.open
      refine W_region ?_
      refine WL_val rfl rfl rfl (by exact rInc rfl rfl rfl (by omega)) ?_
      refine WL_val rfl rfl rfl (by exact rMoveI rfl rfl) ?_
      refine WL_nil ?_
      refine ⟨ah.length - (k + 1), by omega, k + 1, rfl, by omega, fun j hj => ?_, ⟨rfl, rfl, rfl, rfl, rfl, trivial⟩, hI⟩
      rcases Nat.lt_or_ge j k with h1 | h1
      · exact hall j h1
      · obtain rfl : j = k := by omega
        rw [hpk]; exact hno
    refine W_block ?_
    refine W_seq ?_
    refine W_region ?_
    refine WL_val rfl rfl rfl (rIdx (sz := 8) rfl Tryz.underlying32 (by kernel_rfl) rfl rfl (by omega)) ?_
    refine WL_val rfl rfl rfl (by exact rLdA (n := 8) rfl (by kernel_rfl) (by kernel_rfl) rfl (by rfl) (fun k u hk => hI.oldp (hoc k u hk))) ?_
    refine WL_alloc (u := .agg #[.int .i64 0, .int .i64 0, .int .i64 0, .int .i64 0, .int .i64 0, .int .i64 0, .int .i64 0, .int .i64 0]) (vs := #[.int .i64 0, .int .i64 0, .int .i64 0, .int .i64 0, .int .i64 0, .int .i64 0, .int .i64 0, .int .i64 0]) hI rfl rfl rfl rfl (by kernel_rfl) rfl ?_
    clear hI; rintro b7 w - - hI
    refine WL_stw0 (u := .agg _) (vs := #[_, _, _, _, _, _, _, _]) (n := 8) hI rfl rfl rfl rfl rfl rfl (by kernel_rfl) rfl rfl rfl ?_
    clear hI; intro w hI
    refine WL_nil ?_
    simp only [opV] at hI
    refine W_seq ?_
    refine W_region ?_
    refine WL_val rfl rfl rfl (by exact rFldN (off := 6) rfl (by kernel_rfl) rfl) ?_
    refine WL_val rfl rfl rfl (by exact rLd (v := .int .i64 _) rfl (by kernel_rfl) rfl (by exact hI.c0 rfl)) ?_
    refine WL_val rfl rfl rfl (by exact rFldN (off := 7) rfl (by kernel_rfl) rfl) ?_
    refine WL_val rfl rfl rfl (by exact rLd (v := .int .i64 _) rfl (by kernel_rfl) rfl (by exact hI.c0 rfl)) ?_
    refine WL_lit (vs := [_, _]) (qs := [(0, .int .i64 _), (1, .int .i64 _)]) [.int .i64 0, .int .i64 0] [0, 1] hI rfl rfl rfl rfl rfl rfl Tryz.underlying37 (fun _ => by kernel_rfl) ?_
    clear hI; rintro b85 w - - hI
    refine WL_val rfl rfl rfl (rLen rfl Tryz.underlying37 rfl) ?_
    refine WL_val rfl rfl rfl (by exact rMoveI rfl rfl) ?_
    refine WL_nil ?_
    refine W_block ?_
    refine W_loopN (fun mu ρ w => ∃ m : Nat, mu = 2 - m ∧ m ≤ 2 ∧ (0 < m → ¬ twiceAt ⟨o0, o1, o2, o3, o4, o5, o6, o7⟩ p6) ∧ (1 < m → ¬ twiceAt ⟨o0, o1, o2, o3, o4, o5, o6, o7⟩ p7) ∧ Has ρ [(87, .int .i64 (m : Int)), (86, .int .i64 2), (85, .slice (some ⟨b85, 0, none⟩) 2 2), (77, .int .i64 (k : Int)), (76, .int .i64 (ah.length : Int)), (75, .slice (some ⟨ab, ao, none⟩) ah.length c), (1, .slice (some ⟨ab, ao, none⟩) ah.length c), (2, .pointer (some ⟨b2, 0, none⟩))] ∧ Inv (fun _ => False) w0 w [B b85 3 #[.int .i64 p6, .int .i64 p7], B b2 62 #[.int .i64 o0, .int .i64 o1, .int .i64 o2, .int .i64 o3, .int .i64 o4, .int .i64 o5, .int .i64 o6, .int .i64 o7]]) 2
      ⟨0, rfl, by omega, fun h => by omega, fun h => by omega, ⟨rfl, rfl, rfl, rfl, rfl, rfl, rfl, rfl, trivial⟩, hI.d1⟩ ?_
    clear hI
    rintro mu ρ w ⟨m, rfl, hm, hm0, hm1, hH, hI⟩
    obtain ⟨σ, rfl⟩ := hH.open
    by_cases hm2 : m < 2
    rotate_left
    · obtain rfl : m = 2 := by omega
      refine W_seq ?_
      refine W_region ?_
      refine WL_val rfl rfl rfl (by exact rLssF rfl rfl rfl (by omega)) ?_
      refine WL_nil ?_
      refine W_seq ?_
      refine W_cond false rfl ?_
      refine W_exit ?_
      exact ⟨⟨hm0 (by omega), hm1 (by omega)⟩, ⟨rfl, rfl, rfl, rfl, rfl, trivial⟩, hI.d0⟩
    obtain ⟨z, hz, hzt⟩ : ∃ z : Int, (#[.int .i64 p6, .int .i64 p7] : Array Value)[m]? = some (.int .i64 z) ∧ (z = p6 ∧ m = 0 ∨ z = p7 ∧ m = 1) := by
      match m, hm2 with
      | 0, _ => exact ⟨p6, rfl, .inl ⟨rfl, rfl⟩⟩
      | 1, _ => exact ⟨p7, rfl, .inr ⟨rfl, rfl⟩⟩
    refine W_seq ?_
    refine W_region ?_
    refine WL_val rfl rfl rfl (by exact rLssT rfl rfl rfl (by omega)) ?_
    refine WL_nil ?_
    refine W_seq ?_
    refine W_cond true rfl ?_
    refine W_skip ?_
    refine W_seq ?_
    refine W_block ?_
    refine W_seq ?_
    refine W_region ?_
    refine WL_val rfl rfl rfl (by exact rIdx0 rfl Tryz.underlying37 (by kernel_rfl) rfl rfl rfl (by omega)) ?_
    refine WL_val rfl rfl rfl (by exact rLd (v := .int .i64 _) rfl (by kernel_rfl) rfl (by exact (hI.c0 hz))) ?_
    refine WL_val rfl rfl rfl (by exact rAsgnI rfl rfl) ?_
    refine WL_nil ?_
    have hbadz : twiceAt ⟨o0, o1, o2, o3, o4, o5, o6, o7⟩ z → ¬ OkOp ⟨o0, o1, o2, o3, o4, o5, o6, o7⟩ ah := fun ht hh => by
      have := hh.2.2.2.1 k hkl
      rw [hpk] at this
      rcases hzt with ⟨rfl, _⟩ | ⟨rfl, _⟩
      · exact this.1 ht
      · exact this.2 ht
    have hgo : ¬ twiceAt ⟨o0, o1, o2, o3, o4, o5, o6, o7⟩ z → (0 < m + 1 → ¬ twiceAt ⟨o0, o1, o2, o3, o4, o5, o6, o7⟩ p6) ∧ (1 < m + 1 → ¬ twiceAt ⟨o0, o1, o2, o3, o4, o5, o6, o7⟩ p7) := fun hnt => by
      rcases hzt with ⟨rfl, rfl⟩ | ⟨rfl, rfl⟩
      · exact ⟨fun _ => hnt, fun h => by omega⟩
      · exact ⟨fun _ => hm0 (by omega), fun _ => hnt⟩
    by_cases z1 : z = -1
    · have hnt : ¬ twiceAt ⟨o0, o1, o2, o3, o4, o5, o6, o7⟩ z := fun ht => ht.1 z1
      refine W_seq ?_
      refine W_region ?_
      refine WL_val rfl rfl rfl (by exact rMoveI rfl rfl) ?_
      refine WL_val rfl rfl rfl (by exact rNeqF rfl rfl rfl (by omega)) ?_
      refine WL_val rfl rfl rfl (by exact rMoveB rfl rfl) ?_
      refine WL_skip rfl rfl rfl ?_
      refine WL_skip rfl rfl rfl ?_
      refine WL_skip rfl rfl rfl ?_
      refine WL_skip rfl rfl rfl ?_
      refine WL_skip rfl rfl rfl ?_
      refine WL_skip rfl rfl rfl ?_
      refine WL_skip rfl rfl rfl ?_
      refine WL_skip rfl rfl rfl ?_
      refine WL_skip rfl rfl rfl ?_
      refine WL_skip rfl rfl rfl ?_
      refine WL_val rfl rfl rfl (by exact rPickFB rfl rfl rfl) ?_
      refine WL_nil ?_
      refine W_cond false rfl ?_
      refine W_skip ?_
      refine W_region ?_
      refine WL_val rfl rfl rfl (by exact rInc rfl rfl rfl (by omega)) ?_
      refine WL_val rfl rfl rfl (by exact rMoveI rfl rfl) ?_
      refine WL_nil ?_
      exact ⟨2 - (m + 1), by omega, m + 1, rfl, by omega, (hgo hnt).1, (hgo hnt).2, ⟨rfl, rfl, rfl, rfl, rfl, rfl, rfl, rfl, trivial⟩, hI⟩
    by_cases z2 : z = o6
    · refine W_seq ?_
      refine W_region ?_
      refine WL_val rfl rfl rfl (by exact rMoveI rfl rfl) ?_
      refine WL_val rfl rfl rfl (by exact rNeqT rfl rfl rfl (by omega)) ?_
      refine WL_val rfl rfl rfl (by exact rMoveB rfl rfl) ?_
      refine WL_val rfl rfl rfl (by exact rMoveI rfl rfl) ?_
      refine WL_val rfl rfl rfl (by exact rFldN (off := 6) rfl (by kernel_rfl) rfl) ?_
      refine WL_val rfl rfl rfl (by exact rLd (v := .int .i64 _) rfl (by kernel_rfl) rfl (by exact hI.c1 rfl)) ?_
      refine WL_val rfl rfl rfl (by exact rEqlT rfl rfl rfl (by omega)) ?_
      refine WL_val rfl rfl rfl (by exact rMoveB rfl rfl) ?_
      refine WL_skip rfl rfl rfl ?_
      refine WL_skip rfl rfl rfl ?_
      refine WL_skip rfl rfl rfl ?_
      refine WL_skip rfl rfl rfl ?_
      refine WL_val rfl rfl rfl (by exact rPickTB rfl rfl rfl) ?_
      refine WL_val rfl rfl rfl (by exact rPickTB rfl rfl rfl) ?_
      refine WL_nil ?_
      refine W_cond true rfl ?_
      refine W_seq ?_
      refine W_region ?_
      refine WL_val rfl rfl rfl (rIface rfl Tryz.underlying49 rfl rfl) ?_
      refine WL_val rfl rfl rfl (by exact rAsgnE rfl rfl) ?_
      refine WL_nil ?_
      refine W_ret ?_
      exact ret1 4 (.inr rfl) rfl (OpPost.bad (hbadz ⟨z1, .inl z2⟩) hI.pu)
    by_cases z3 : z = o7
    · refine W_seq ?_
      refine W_region ?_
      refine WL_val rfl rfl rfl (by exact rMoveI rfl rfl) ?_
      refine WL_val rfl rfl rfl (by exact rNeqT rfl rfl rfl (by omega)) ?_
      refine WL_val rfl rfl rfl (by exact rMoveB rfl rfl) ?_
      refine WL_val rfl rfl rfl (by exact rMoveI rfl rfl) ?_
      refine WL_val rfl rfl rfl (by exact rFldN (off := 6) rfl (by kernel_rfl) rfl) ?_
      refine WL_val rfl rfl rfl (by exact rLd (v := .int .i64 _) rfl (by kernel_rfl) rfl (by exact hI.c1 rfl)) ?_
      refine WL_val rfl rfl rfl (by exact rEqlF rfl rfl rfl (by omega)) ?_
      refine WL_val rfl rfl rfl (by exact rMoveB rfl rfl) ?_
      refine WL_val rfl rfl rfl (by exact rMoveI rfl rfl) ?_
      refine WL_val rfl rfl rfl (by exact rFldN (off := 7) rfl (by kernel_rfl) rfl) ?_
      refine WL_val rfl rfl rfl (by exact rLd (v := .int .i64 _) rfl (by kernel_rfl) rfl (by exact hI.c1 rfl)) ?_
      refine WL_val rfl rfl rfl (by exact rEqlT rfl rfl rfl (by omega)) ?_
      refine WL_val rfl rfl rfl (by exact rPickFB rfl rfl rfl) ?_
      refine WL_val rfl rfl rfl (by exact rPickTB rfl rfl rfl) ?_
      refine WL_nil ?_
      refine W_cond true rfl ?_
      refine W_seq ?_
      refine W_region ?_
      refine WL_val rfl rfl rfl (rIface rfl Tryz.underlying49 rfl rfl) ?_
      refine WL_val rfl rfl rfl (by exact rAsgnE rfl rfl) ?_
      refine WL_nil ?_
      refine W_ret ?_
      exact ret1 4 (.inr rfl) rfl (OpPost.bad (hbadz ⟨z1, .inr z3⟩) hI.pu)
    have hnt : ¬ twiceAt ⟨o0, o1, o2, o3, o4, o5, o6, o7⟩ z := fun ht => by rcases ht.2 with h1 | h1; exact z2 h1; exact z3 h1
    refine W_seq ?_
    refine W_region ?_
    refine WL_val rfl rfl rfl (by exact rMoveI rfl rfl) ?_
    refine WL_val rfl rfl rfl (by exact rNeqT rfl rfl rfl (by omega)) ?_
    refine WL_val rfl rfl rfl (by exact rMoveB rfl rfl) ?_
    refine WL_val rfl rfl rfl (by exact rMoveI rfl rfl) ?_
    refine WL_val rfl rfl rfl (by exact rFldN (off := 6) rfl (by kernel_rfl) rfl) ?_
    refine WL_val rfl rfl rfl (by exact rLd (v := .int .i64 _) rfl (by kernel_rfl) rfl (by exact hI.c1 rfl)) ?_
    refine WL_val rfl rfl rfl (by exact rEqlF rfl rfl rfl (by omega)) ?_
    refine WL_val rfl rfl rfl (by exact rMoveB rfl rfl) ?_
    refine WL_val rfl rfl rfl (by exact rMoveI rfl rfl) ?_
    refine WL_val rfl rfl rfl (by exact rFldN (off := 7) rfl (by kernel_rfl) rfl) ?_
    refine WL_val rfl rfl rfl (by exact rLd (v := .int .i64 _) rfl (by kernel_rfl) rfl (by exact hI.c1 rfl)) ?_
    refine WL_val rfl rfl rfl (by exact rEqlF rfl rfl rfl (by omega)) ?_
    refine WL_val rfl rfl rfl (by exact rPickFB rfl rfl rfl) ?_
    refine WL_val rfl rfl rfl (by exact rPickTB rfl rfl rfl) ?_
    refine WL_nil ?_
    refine W_cond false rfl ?_
    refine W_skip ?_
    refine W_region ?_
    refine WL_val rfl rfl rfl (by exact rInc rfl rfl rfl (by omega)) ?_
    refine WL_val rfl rfl rfl (by exact rMoveI rfl rfl) ?_
    refine WL_nil ?_
    exact ⟨2 - (m + 1), by omega, m + 1, rfl, by omega, (hgo hnt).1, (hgo hnt).2, ⟨rfl, rfl, rfl, rfl, rfl, rfl, rfl, rfl, trivial⟩, hI⟩
  clear hI
  rintro ρ w ⟨hall1, hH, hI⟩
  obtain ⟨σ, rfl⟩ := hH.open
  refine W_seq ?_
  refine W_seq ?_
  refine W_region ?_
  refine WL_val rfl rfl rfl (by exact rMoveS rfl rfl) ?_
  refine WL_val rfl rfl rfl (rLen rfl Tryz.underlying32 rfl) ?_
  refine WL_val rfl rfl rfl (by exact rMoveI rfl rfl) ?_
  refine WL_nil ?_
  refine W_block ?_
  refine W_loopN (fun mu ρ w => ∃ k : Nat, mu = ah.length - k ∧ k ≤ ah.length ∧ (∀ j, j < k → (oAt ah j).proc = o0 → befB (oAt ah j) ⟨o0, o1, o2, o3, o4, o5, o6, o7⟩ = true) ∧ Has ρ [(110, .int .i64 (k : Int)), (109, .int .i64 (ah.length : Int)), (108, .slice A ah.length c), (2, .pointer (some ⟨b2, 0, none⟩))] ∧ Inv (fun _ => False) w0 w [B b2 62 #[.int .i64 o0, .int .i64 o1, .int .i64 o2, .int .i64 o3, .int .i64 o4, .int .i64 o5, .int .i64 o6, .int .i64 o7]]) ah.length
    ⟨0, rfl, by omega, fun j hj => by omega, ⟨rfl, rfl, rfl, rfl, trivial⟩, hI⟩ ?_
  clear hI
  rintro mu ρ w ⟨k, rfl, hk, hall, hH, hI⟩
  obtain ⟨σ, rfl⟩ := hH.open
  by_cases hkl : k < ah.length
  rotate_left
  · obtain rfl : k = ah.length := by omega
    refine W_seq ?_
    refine W_region ?_
    refine WL_val rfl rfl rfl (by exact rLssF rfl rfl rfl (by omega)) ?_
    refine WL_nil ?_
    refine W_seq ?_
    refine W_cond false rfl ?_
    refine W_exit ?_
    refine W_seq ?_
    refine W_region ?_
    refine WL_val rfl rfl rfl (by exact rAsgnN rfl rfl) ?_
    refine WL_nil ?_
    refine W_ret ?_
    exact ret1 4 (.inr rfl) rfl ⟨hI.pu, .inl ⟨⟨ht, hkd, hord, hall1, hall⟩, rfl⟩⟩
  obtain ⟨ab, ao, rfl, hoc⟩ := h.at hkl
  generalize hpk : oAt ah k = pk at hoc
  obtain ⟨p0, p1, p2, p3, p4, p5, p6, p7⟩ := pk
  refine W_seq ?_
  refine W_region ?_
  refine WL_val rfl rfl rfl (by exact rLssT rfl rfl rfl (by omega)) ?_
  refine WL_nil ?_
  refine W_seq ?_
  refine W_cond true rfl ?_
  refine W_skip ?_
  refine W_seq ?_
  refine W_block ?_
  refine W_seq ?_
  refine W_region ?_
  refine WL_val rfl rfl rfl (rIdx (sz := 8) rfl Tryz.underlying32 (by kernel_rfl) rfl rfl (by omega)) ?_
  refine WL_val rfl rfl rfl (by exact rLdA (n := 8) rfl (by kernel_rfl) (by kernel_rfl) rfl (by rfl) (fun k u hk => hI.oldp (hoc k u hk))) ?_
  refine WL_alloc (u := .agg #[.int .i64 0, .int .i64 0, .int .i64 0, .int .i64 0, .int .i64 0, .int .i64 0, .int .i64 0, .int .i64 0]) (vs := #[.int .i64 0, .int .i64 0, .int .i64 0, .int .i64 0, .int .i64 0, .int .i64 0, .int .i64 0, .int .i64 0]) hI rfl rfl rfl rfl (by kernel_rfl) rfl ?_
  clear hI; rintro b11 w - - hI
  refine WL_stw0 (u := .agg _) (vs := #[_, _, _, _, _, _, _, _]) (n := 8) hI rfl rfl rfl rfl rfl rfl (by kernel_rfl) rfl rfl rfl ?_
  clear hI; intro w hI
  refine WL_nil ?_
  simp only [opV] at hI
  have hnext : (p0 = o0 → befB ⟨p0, p1, p2, p3, p4, p5, p6, p7⟩ ⟨o0, o1, o2, o3, o4, o5, o6, o7⟩ = true) → ∀ j, j < k + 1 → (oAt ah j).proc = o0 → befB (oAt ah j) ⟨o0, o1, o2, o3, o4, o5, o6, o7⟩ = true := fun hb j hj => by
    rcases Nat.lt_or_ge j k with h1 | h1
    · exact hall j h1
    · obtain rfl : j = k := by omega
      rw [hpk]; exact hb
  by_cases hpp : p0 = o0
  · cases hbf : befB ⟨p0, p1, p2, p3, p4, p5, p6, p7⟩ ⟨o0, o1, o2, o3, o4, o5, o6, o7⟩ with
    | true =>
      refine W_seq ?_
      refine W_region ?_
      refine WL_val rfl rfl rfl (by exact rFldN (off := 0) rfl (by kernel_rfl) rfl) ?_
      refine WL_val rfl rfl rfl (by exact rLd (v := .int .i64 _) rfl (by kernel_rfl) rfl (by exact hI.c0 rfl)) ?_
      refine WL_val rfl rfl rfl (by exact rFldN (off := 0) rfl (by kernel_rfl) rfl) ?_
      refine WL_val rfl rfl rfl (by exact rLd (v := .int .i64 _) rfl (by kernel_rfl) rfl (by exact hI.c1 rfl)) ?_
      refine WL_val rfl rfl rfl (by exact rEqlT rfl rfl rfl (by omega)) ?_
      refine WL_val rfl rfl rfl (by exact rMoveB rfl rfl) ?_
      refine WL_val rfl rfl rfl (by exact rLdB (n := 8) rfl (by kernel_rfl) (by kernel_rfl) rfl rfl hI.g0) ?_
      refine WL_val rfl rfl rfl (by exact rLdB (n := 8) rfl (by kernel_rfl) (by kernel_rfl) rfl rfl hI.g1) ?_
      refine WL_call rfl rfl rfl (rCall (vs := [.agg _, .agg _]) rfl Tryz.func21 rfl rfl rfl) ?_
      refine (before_one p0 p1 p2 p3 p4 p5 p6 p7 o0 o1 o2 o3 o4 o5 o6 o7 _).mono ?_
      rw [hbf]
      rintro e w1 ⟨rfl, hp⟩
      refine ⟨_, rfl, ?_⟩
      replace hI := hI.pure hp
      refine WL_val rfl rfl rfl (by exact rNotT rfl rfl) ?_
      refine WL_val rfl rfl rfl (by exact rPickTB rfl rfl rfl) ?_
      refine WL_nil ?_
      refine W_cond false rfl ?_
      refine W_skip ?_
      replace hI := hI.d0
      refine W_region ?_
      refine WL_val rfl rfl rfl (by exact rInc rfl rfl rfl (by omega)) ?_
      refine WL_val rfl rfl rfl (by exact rMoveI rfl rfl) ?_
      refine WL_nil ?_
      exact ⟨ah.length - (k + 1), by omega, k + 1, rfl, by omega, hnext (fun _ => hbf), ⟨rfl, rfl, rfl, rfl, trivial⟩, hI⟩
    | false =>
      refine W_seq ?_
      refine W_region ?_
      refine WL_val rfl rfl rfl (by exact rFldN (off := 0) rfl (by kernel_rfl) rfl) ?_
      refine WL_val rfl rfl rfl (by exact rLd (v := .int .i64 _) rfl (by kernel_rfl) rfl (by exact hI.c0 rfl)) ?_
      refine WL_val rfl rfl rfl (by exact rFldN (off := 0) rfl (by kernel_rfl) rfl) ?_
      refine WL_val rfl rfl rfl (by exact rLd (v := .int .i64 _) rfl (by kernel_rfl) rfl (by exact hI.c1 rfl)) ?_
      refine WL_val rfl rfl rfl (by exact rEqlT rfl rfl rfl (by omega)) ?_
      refine WL_val rfl rfl rfl (by exact rMoveB rfl rfl) ?_
      refine WL_val rfl rfl rfl (by exact rLdB (n := 8) rfl (by kernel_rfl) (by kernel_rfl) rfl rfl hI.g0) ?_
      refine WL_val rfl rfl rfl (by exact rLdB (n := 8) rfl (by kernel_rfl) (by kernel_rfl) rfl rfl hI.g1) ?_
      refine WL_call rfl rfl rfl (rCall (vs := [.agg _, .agg _]) rfl Tryz.func21 rfl rfl rfl) ?_
      refine (before_one p0 p1 p2 p3 p4 p5 p6 p7 o0 o1 o2 o3 o4 o5 o6 o7 _).mono ?_
      rw [hbf]
      rintro e w1 ⟨rfl, hp⟩
      refine ⟨_, rfl, ?_⟩
      replace hI := hI.pure hp
      refine WL_val rfl rfl rfl (by exact rNotF rfl rfl) ?_
      refine WL_val rfl rfl rfl (by exact rPickTB rfl rfl rfl) ?_
      refine WL_nil ?_
      refine W_cond true rfl ?_
      refine W_seq ?_
      refine W_region ?_
      refine WL_val rfl rfl rfl (rIface rfl Tryz.underlying49 rfl rfl) ?_
      refine WL_val rfl rfl rfl (by exact rAsgnE rfl rfl) ?_
      refine WL_nil ?_
      refine W_ret ?_
      exact ret1 4 (.inr rfl) rfl (OpPost.bad (fun hh => by have := hh.2.2.2.2 k hkl (by rw [hpk]; exact hpp); rw [hpk, hbf] at this; cases this) hI.pu)
  · refine W_seq ?_
    refine W_region ?_
    refine WL_val rfl rfl rfl (by exact rFldN (off := 0) rfl (by kernel_rfl) rfl) ?_
    refine WL_val rfl rfl rfl (by exact rLd (v := .int .i64 _) rfl (by kernel_rfl) rfl (by exact hI.c0 rfl)) ?_
    refine WL_val rfl rfl rfl (by exact rFldN (off := 0) rfl (by kernel_rfl) rfl) ?_
    refine WL_val rfl rfl rfl (by exact rLd (v := .int .i64 _) rfl (by kernel_rfl) rfl (by exact hI.c1 rfl)) ?_
    refine WL_val rfl rfl rfl (by exact rEqlF rfl rfl rfl (by omega)) ?_
    refine WL_val rfl rfl rfl (by exact rMoveB rfl rfl) ?_
    refine WL_skip rfl rfl rfl ?_
    refine WL_skip rfl rfl rfl ?_
    refine WL_skip rfl rfl rfl ?_
    refine WL_skip rfl rfl rfl ?_
    refine WL_val rfl rfl rfl (by exact rPickFB rfl rfl rfl) ?_
    refine WL_nil ?_
    refine W_cond false rfl ?_
    refine W_skip ?_
    replace hI := hI.d0
    refine W_region ?_
    refine WL_val rfl rfl rfl (by exact rInc rfl rfl rfl (by omega)) ?_
    refine WL_val rfl rfl rfl (by exact rMoveI rfl rfl) ?_
    refine WL_nil ?_
    exact ⟨ah.length - (k + 1), by omega, k + 1, rfl, by omega, hnext (fun e => absurd e hpp), ⟨rfl, rfl, rfl, rfl, trivial⟩, hI⟩
end Go.Proofs.YtglioflpblpmpaaGreatDoor
namespace Go.Proofs.YtglioflpblpmpaaGreatDoor
open Go.RowKit
set_option linter.unusedVariables false
set_option linter.unusedSimpArgs false
theorem OpsR.take {w : World} {D : Nat → Prop} {A : Option Addr} {n c : Nat} {l : List Op8} (h : OpsR w D (.slice A n c) l) (k : Nat) (hk : k ≤ l.length) : OpsR w D (.slice A k c) (l.take k) := by
  obtain ⟨hn, hc1, hc2⟩ := h.len
  have hlk : (l.take k).length = k := by simp; omega
  unfold OpsR
  rw [hlk]
  refine ⟨A, c, rfl, by omega, hc2, ?_, fun h0 => ?_⟩
  · have : ∀ l : List Op8, (l.flatMap opV).length = l.length * 8 := by
      intro l
      induction l with
      | nil => rfl
      | cons s l ih => rw [List.flatMap_cons, List.length_append, ih]; simp [opV]; omega
    rw [this, hlk]
  · obtain ⟨A1, c1, hv, _, _, _, hcell⟩ := h
    injection hv with e1 e2 e3
    subst e1 e3
    obtain ⟨b, o, hbo, hD, hcl⟩ := hcell (by omega)
    refine ⟨b, o, hbo, hD, fun j u hj => hcl j u ?_⟩
    have e : l.flatMap opV = (l.take k).flatMap opV ++ (l.drop k).flatMap opV := by rw [← List.flatMap_append, List.take_append_drop]
    rw [e, List.getElem?_append_left (List.getElem?_eq_some_iff.1 hj).1]
    exact hj
def OkOps (l : List Op8) : Prop := l.length ≤ 40 ∧ ∀ k, k < l.length → OkOp (oAt l k) (l.take k)
def OpsPost8 (l : List Op8) (w0 : World) (en : Ending) (w' : World) : Prop := Pure w0 w' ∧ ((OkOps l ∧ en = .returned .nilIface) ∨ (¬ OkOps l ∧ ∃ x, IsErr8 x ∧ en = .returned x))
def OpsPost (l : List Op8) (w0 : World) (en : Ending) (w' : World) : Prop := Pure w0 w' ∧ ((OkOps l ∧ en = .returned .nilIface) ∨ (¬ OkOps l ∧ ∃ x, IsErr x ∧ en = .returned x))
set_option maxHeartbeats 2000000 in
theorem checkOps8_any (A : Option Addr) (n c : Nat) (l : List Op8) (D : Nat → Prop) (w0 : World) (h : OpsR w0 D (.slice A n c) l) : Calls Tryz.prog 56 #[.slice A n c] w0 (OpsPost8 l w0) := by
  obtain ⟨hn, hc1, hc2⟩ := h.len
  subst hn
  have hI := Inv.start (fun _ => False) w0
  refine calls_of_W (N := Tryz.f56.ntmps) Tryz.func56 rfl rfl rfl ?_
  refine W_seq ?_
  refine W_region ?_
  refine WL_val rfl rfl rfl (by exact rAsgnN rfl rfl) ?_
  refine WL_nil ?_
  by_cases h40 : l.length ≤ 40
  rotate_left
  · refine W_seq ?_
    refine W_seq ?_
    refine W_region ?_
    refine WL_val rfl rfl rfl (by exact rMoveS rfl rfl) ?_
    refine WL_val rfl rfl rfl (rLen rfl Tryz.underlying32 rfl) ?_
    refine WL_val rfl rfl rfl (by exact rGtrT rfl rfl rfl (by omega)) ?_
    refine WL_nil ?_
    refine W_cond true rfl ?_
    refine W_seq ?_
    refine W_region ?_
    refine WL_val rfl rfl rfl (rIface rfl Tryz.underlying49 rfl rfl) ?_
    refine WL_val rfl rfl rfl (by exact rAsgnE rfl rfl) ?_
    refine WL_nil ?_
    refine W_ret ?_
    exact ret1 2 (.inr rfl) rfl ⟨hI.pu, .inr ⟨fun hh => h40 hh.1, _, ⟨_, rfl, by decide⟩, rfl⟩⟩
  refine W_seq ?_
  refine W_seq ?_
  refine W_region ?_
  refine WL_val rfl rfl rfl (by exact rMoveS rfl rfl) ?_
  refine WL_val rfl rfl rfl (rLen rfl Tryz.underlying32 rfl) ?_
  refine WL_val rfl rfl rfl (by exact rGtrF rfl rfl rfl (by omega)) ?_
  refine WL_nil ?_
  refine W_cond false rfl ?_
  refine W_skip ?_
  refine W_seq ?_
  refine W_seq ?_
  refine W_region ?_
  refine WL_val rfl rfl rfl (by exact rMoveS rfl rfl) ?_
  refine WL_val rfl rfl rfl (rLen rfl Tryz.underlying32 rfl) ?_
  refine WL_val rfl rfl rfl (by exact rMoveI rfl rfl) ?_
  refine WL_nil ?_
  refine W_block ?_
  refine W_loopN (fun mu ρ w => ∃ k : Nat, mu = l.length - k ∧ k ≤ l.length ∧ (∀ j, j < k → OkOp (oAt l j) (l.take j)) ∧ Has ρ [(12, .int .i64 (k : Int)), (11, .int .i64 (l.length : Int)), (10, .slice A l.length c), (0, .slice A l.length c)] ∧ Inv (fun _ => False) w0 w []) l.length
    ⟨0, rfl, by omega, fun j hj => by omega, ⟨rfl, rfl, rfl, rfl, trivial⟩, hI⟩ ?_
  clear hI
  rintro mu ρ w ⟨k, rfl, hk, hall, hH, hI⟩
  obtain ⟨σ, rfl⟩ := hH.open
  by_cases hkl : k < l.length
  rotate_left
  · obtain rfl : k = l.length := by omega
    refine W_seq ?_
    refine W_region ?_
    refine WL_val rfl rfl rfl (by exact rLssF rfl rfl rfl (by omega)) ?_
    refine WL_nil ?_
    refine W_seq ?_
    refine W_cond false rfl ?_
    refine W_exit ?_
    refine W_seq ?_
    refine W_region ?_
    refine WL_val rfl rfl rfl (by exact rAsgnN rfl rfl) ?_
    refine WL_nil ?_
    refine W_ret ?_
    exact ret1 2 (.inr rfl) rfl ⟨hI.pu, .inl ⟨⟨h40, hall⟩, rfl⟩⟩
  obtain ⟨ab, ao, rfl, hoc⟩ := h.at hkl
  have htk := h.take k hk
  generalize hpk : oAt l k = pk at hoc
  obtain ⟨p0, p1, p2, p3, p4, p5, p6, p7⟩ := pk
  refine W_seq ?_
  refine W_region ?_
  refine WL_val rfl rfl rfl (by exact rLssT rfl rfl rfl (by omega)) ?_
  refine WL_nil ?_
  refine W_seq ?_
  refine W_cond true rfl ?_
  refine W_skip ?_
  refine W_seq ?_
  refine W_block ?_
  refine W_seq ?_
  refine W_region ?_
  refine WL_val rfl rfl rfl (by exact rMoveI rfl rfl) ?_
  refine WL_val rfl rfl rfl (rIdx (sz := 8) rfl Tryz.underlying32 (by kernel_rfl) rfl rfl (by omega)) ?_
  refine WL_val rfl rfl rfl (by exact rLdA (n := 8) rfl (by kernel_rfl) (by kernel_rfl) rfl (by rfl) (fun k u hk => hI.oldp (hoc k u hk))) ?_
  refine WL_alloc (u := .agg #[.int .i64 0, .int .i64 0, .int .i64 0, .int .i64 0, .int .i64 0, .int .i64 0, .int .i64 0, .int .i64 0]) (vs := #[.int .i64 0, .int .i64 0, .int .i64 0, .int .i64 0, .int .i64 0, .int .i64 0, .int .i64 0, .int .i64 0]) hI rfl rfl rfl rfl (by kernel_rfl) rfl ?_
  clear hI; rintro b4 w - - hI
  refine WL_val rfl rfl rfl (by exact rAsgnI rfl rfl) ?_
  refine WL_stw0 (u := .agg _) (vs := #[_, _, _, _, _, _, _, _]) (n := 8) hI rfl rfl rfl rfl rfl rfl (by kernel_rfl) rfl rfl rfl ?_
  clear hI; intro w hI
  refine WL_nil ?_
  simp only [opV] at hI
  by_cases hop : OkOp ⟨p0, p1, p2, p3, p4, p5, p6, p7⟩ (l.take k)
  · refine W_seq ?_
    refine W_draw (by kernel_rfl) ?_
    refine WA_inv (T := []) hI.drew ?_
    intro Sx hSx hXS
    replace hI := hI.drew
    refine WT_take 0 rfl rfl (by kernel_rfl) (hXS _ hI) rfl (fun W hW => have hI := hSx W hW; (by exact rLdB (n := 8) rfl (by kernel_rfl) (by kernel_rfl) rfl rfl hI.g0)) ?_
    refine WT_take 1 rfl rfl (by kernel_rfl) (hXS _ hI) rfl (fun W hW => have hI := hSx W hW; (by exact rMoveS rfl rfl)) ?_
    refine WT_take 2 rfl rfl (by kernel_rfl) (hXS _ hI) rfl (fun W hW => have hI := hSx W hW; (by exact rMoveI rfl rfl)) ?_
    refine WT_take 3 rfl rfl (by kernel_rfl) (hXS _ hI) rfl (fun W hW => have hI := hSx W hW; (rSliceTo (sz := 8) (i := k) rfl Tryz.underlying32 (by kernel_rfl) rfl rfl (by omega))) ?_
    refine WT_one 4 rfl (by kernel_rfl) rfl ?_
    refine WL_call rfl rfl rfl (rCall (vs := [.agg _, .slice _ _ _]) rfl Tryz.func75 rfl rfl rfl) ?_
    refine (checkOp_one p0 p1 p2 p3 p4 p5 p6 p7 _ k c (l.take k) D _ (htk.pure hI.pu) (by omega)).mono ?_
    rintro e w1 ⟨hp, ⟨_, rfl⟩ | ⟨hbad, _⟩⟩
    rotate_left
    · exact absurd hop hbad
    refine ⟨_, rfl, ?_⟩
    replace hI := hI.pure hp
    refine WL_nil ⟨hXS _ hI, ?_⟩
    refine WT_take 5 rfl rfl (by kernel_rfl) (hXS _ hI) rfl (fun W hW => have hI := hSx W hW; (by exact rAsgnN rfl rfl)) ?_
    refine WT_end (by kernel_rfl) ?_
    refine W_seq ?_
    refine W_region ?_
    refine WL_val rfl rfl rfl (by exact rMoveN rfl rfl) ?_
    refine WL_val rfl rfl rfl (by exact rNilNe rfl Tryz.underlying27 rfl) ?_
    refine WL_nil ?_
    refine W_cond false rfl ?_
    refine W_skip ?_
    replace hI := hI.d0
    refine W_region ?_
    refine WL_val rfl rfl rfl (by exact rInc rfl rfl rfl (by omega)) ?_
    refine WL_val rfl rfl rfl (by exact rMoveI rfl rfl) ?_
    refine WL_nil ?_
    refine ⟨l.length - (k + 1), by omega, k + 1, rfl, by omega, fun j hj => ?_, ⟨rfl, rfl, rfl, rfl, trivial⟩, hI⟩
    rcases Nat.lt_or_ge j k with h1 | h1
    · exact hall j h1
    · obtain rfl : j = k := by omega
      rw [hpk]; exact hop
  · refine W_seq ?_
    refine W_draw (by kernel_rfl) ?_
    refine WA_inv (T := []) hI.drew ?_
    intro Sx hSx hXS
    replace hI := hI.drew
    refine WT_take 0 rfl rfl (by kernel_rfl) (hXS _ hI) rfl (fun W hW => have hI := hSx W hW; (by exact rLdB (n := 8) rfl (by kernel_rfl) (by kernel_rfl) rfl rfl hI.g0)) ?_
    refine WT_take 1 rfl rfl (by kernel_rfl) (hXS _ hI) rfl (fun W hW => have hI := hSx W hW; (by exact rMoveS rfl rfl)) ?_
    refine WT_take 2 rfl rfl (by kernel_rfl) (hXS _ hI) rfl (fun W hW => have hI := hSx W hW; (by exact rMoveI rfl rfl)) ?_
    refine WT_take 3 rfl rfl (by kernel_rfl) (hXS _ hI) rfl (fun W hW => have hI := hSx W hW; (rSliceTo (sz := 8) (i := k) rfl Tryz.underlying32 (by kernel_rfl) rfl rfl (by omega))) ?_
    refine WT_one 4 rfl (by kernel_rfl) rfl ?_
    refine WL_call rfl rfl rfl (rCall (vs := [.agg _, .slice _ _ _]) rfl Tryz.func75 rfl rfl rfl) ?_
    refine (checkOp_one p0 p1 p2 p3 p4 p5 p6 p7 _ k c (l.take k) D _ (htk.pure hI.pu) (by omega)).mono ?_
    rintro e w1 ⟨hp, ⟨hgood, _⟩ | ⟨_, x, ⟨u, rfl, hu8⟩, rfl⟩⟩
    · exact absurd hgood hop
    refine ⟨_, rfl, ?_⟩
    replace hI := hI.pure hp
    refine WL_nil ⟨hXS _ hI, ?_⟩
    refine WT_take 5 rfl rfl (by kernel_rfl) (hXS _ hI) rfl (fun W hW => have hI := hSx W hW; (by exact rAsgnE rfl rfl)) ?_
    refine WT_end (by kernel_rfl) ?_
    refine W_seq ?_
    refine W_region ?_
    refine WL_val rfl rfl rfl (by exact rMoveE rfl rfl) ?_
    refine WL_val rfl rfl rfl (by exact rIfaceNe rfl Tryz.underlying27 rfl rfl) ?_
    refine WL_nil ?_
    refine W_cond true rfl ?_
    refine W_seq ?_
    refine W_region ?_
    refine WL_val rfl rfl rfl (by exact rMoveE rfl rfl) ?_
    refine WL_val rfl rfl rfl (by exact rAsgnE rfl rfl) ?_
    refine WL_nil ?_
    refine W_ret ?_
    exact ret1 2 (.inr rfl) rfl ⟨hI.pu, .inr ⟨fun hh => by have := hh.2 k hkl; rw [hpk] at this; exact hop this, _, ⟨_, rfl, hu8⟩, rfl⟩⟩
theorem checkOps_any (A : Option Addr) (n c : Nat) (l : List Op8) (D : Nat → Prop) (w0 : World) (h : OpsR w0 D (.slice A n c) l) : Calls Tryz.prog 56 #[.slice A n c] w0 (OpsPost l w0) :=
  (checkOps8_any A n c l D w0 h).mono fun e w' hh => ⟨hh.1, hh.2.imp id fun ⟨h1, x, h2, h3⟩ => ⟨h1, x, h2.any, h3⟩⟩
end Go.Proofs.YtglioflpblpmpaaGreatDoor
