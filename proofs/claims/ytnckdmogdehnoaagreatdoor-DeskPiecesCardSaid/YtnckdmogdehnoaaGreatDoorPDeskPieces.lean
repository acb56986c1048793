/- Part of the proof that a desk answers in pieces. -/
import Derived.Test.YtnckdmogdehnoaaGreatDoorPA
import Derived.Test.YtnckdmogdehnoaaGreatDoorPDskW
import Derived.Test.YtnckdmogdehnoaaGreatDoorPLin5
import Derived.Test.YtnckdmogdehnoaaGreatDoorPCau4
import Derived.Test.YtnckdmogdehnoaaGreatDoorQueB
import Derived.Test.YtnckdmogdehnoaaGreatDoorPCau2
import Derived.Test.YtnckdmogdehnoaaGreatDoorPDskR
import Derived.Test.YtnckdmogdehnoaaGreatDoorPDskY
import Derived.Test.YtnckdmogdehnoaaGreatDoorPSxS
set_option maxRecDepth 8000
set_option maxHeartbeats 4000000
set_option linter.unusedVariables false
set_option linter.unusedSimpArgs false
namespace Go.Proofs.YtnckdmogdehnoaaGreatDoor
open Tryz
open Go.RowKit
variable {a b z z' : Int} {l : List Op8}
theorem runE_len : ∀ (r : List Ev) (i : Nat) (s s' : SeeS), runE r i s = some s' → s'.ops.length ≤ s.ops.length + r.length
 | [], i, s, s', h => by
  rw [runE] at h
  injection h with h
  subst h
  exact Nat.le_add_right _ _
 | e :: r, i, s, s', h => by
  rw [runE] at h
  obtain ⟨s1, hs, h⟩ := Option.bind_eq_some_iff.1 h
  have h1 := stepE_len hs
  have h2 := runE_len r (i + 1) s1 s' h
  rw [List.length_cons]
  omega
theorem evF_ops {evs : List Ev} (h : evF evs = some l) : l.length ≤ 120 ∧ (l.length ≤ 40 → OkOps l) := by
 obtain ⟨s, h1, h3, h2, rfl⟩ := evF_some h
 refine ⟨?_, out_ok h2 h1⟩
 have := runE_len _ _ _ _ h3
 have h0 : initE.ops.length = 0 := rfl
 unfold outF
 rw [List.length_map]
 unfold keptF
 exact Nat.le_trans (List.length_filter_le _ _) (by rw [List.length_range]; omega)
theorem err_one {K O : Nat → Prop} {n : Nat} (hdn : ∀ a b, a ≤ b → K b → K a) (hO : ∀ k, K (k + 1) → O k) 
  (h : ∃ k, k < n ∧ K k ∧ ((¬ O k ∧ z = 3) ∨ (O k ∧ ¬ K (k + 1) ∧ z = 9))) (h' : ∃ k, k < n ∧ K k ∧ ((¬ O k ∧ z' = 3) ∨ (O k ∧ ¬ K (k + 1) ∧ z' = 9))) : z = z' := by
 obtain ⟨k, _, h1, h2⟩ := h
 obtain ⟨k', _, q1, q2⟩ := h'
 have b1 : ¬ K (k + 1) := fun hk => by
  rcases h2 with ⟨h3, _⟩ | ⟨_, h3, _⟩
  ·exact h3 (hO k hk)
  exact h3 hk
 have b2 : ¬ K (k' + 1) := fun hk => by
  rcases q2 with ⟨h3, _⟩ | ⟨_, h3, _⟩
  ·exact h3 (hO k' hk)
  exact h3 hk
 have hkk : k = k' := by
  rcases Nat.lt_trichotomy k k' with h | h | h
  ·exact absurd (hdn (k + 1) k' h q1) b1
  ·exact h
  exact absurd (hdn (k' + 1) k h h1) b2
 subst hkk
 rcases h2 with ⟨h3, h4⟩ | ⟨h3, _, h4⟩ <;> rcases q2 with ⟨q3, q4⟩ | ⟨q3, _, q4⟩
 ·rw [h4, q4]
 ·exact absurd q3 h3
 ·exact absurd h3 q3
 rw [h4, q4]
section
variable {l : List Op8}
theorem ZErr.one (h40 : l.length ≤ 40 → OkOps l) (h : ZErr l z) (h' : ZErr l z') : z = z' := by
 rcases Nat.lt_or_ge 40 l.length with h0 | h0
 ·rw [h.2.1 h0, h'.2.1 h0]
 exact err_one (K := OkZk l) (O := fun k => OkZ1 (oAt l 0).key (oAt l k)) (fun a b hab hb => ⟨fun i hi => hb.1 i (by omega), fun i j hij hj => hb.2 i j hij (by omega)⟩) (fun k hk => hk.1 k (by omega)) (h.2.2 (h40 h0)) (h'.2.2 (h40 h0))
theorem QErr.one (h40 : l.length ≤ 40 → OkOps l) (h : QErr l z) (h' : QErr l z') : z = z' := by
 rcases Nat.lt_or_ge 40 l.length with h0 | h0
 ·rw [h.1 h0, h'.1 h0]
 exact err_one (K := OkQk l) (O := fun k => OkQ1 (oAt l 0).key (oAt l k)) (fun a b hab hb => ⟨fun i hi => hb.1 i (by omega), fun i j hij hj => hb.2 i j hij (by omega)⟩) (fun k hk => hk.1 k (by omega)) (h.2 (h40 h0)) (h'.2 (h40 h0))
theorem CErr.one (h40 : l.length ≤ 40 → OkOps l) (h : CErr l z) (h' : CErr l z') : z = z' := by
 rcases Nat.lt_or_ge 40 l.length with h0 | h0
 ·rw [h.1 h0, h'.1 h0]
 exact err_one (K := OkCk l) (O := fun k => OkC1 (oAt l k)) (fun a b hab hb => ⟨fun i hi => hb.1 i (by omega), fun i j hij hj => hb.2 i j hij (by omega)⟩) (fun k hk => hk.1 k (by omega)) (h.2 (h40 h0)) (h'.2 (h40 h0))
theorem ZErr.le (h40 : l.length ≤ 40 → OkOps l) (h : ZErr l z) : -1000 ≤ z ∧ z ≤ 1000 := by
 rcases Nat.lt_or_ge 40 l.length with h0 | h0
 ·have := h.2.1 h0; omega
 obtain ⟨k, _, _, ⟨_, h1⟩ | ⟨_, _, h1⟩⟩ := h.2.2 (h40 h0) <;> omega
theorem QErr.le (h40 : l.length ≤ 40 → OkOps l) (h : QErr l z) : -1000 ≤ z ∧ z ≤ 1000 := by
 rcases Nat.lt_or_ge 40 l.length with h0 | h0
 ·have := h.1 h0; omega
 obtain ⟨k, _, _, ⟨_, h1⟩ | ⟨_, _, h1⟩⟩ := h.2 (h40 h0) <;> omega
theorem CErr.le (h40 : l.length ≤ 40 → OkOps l) (h : CErr l z) : -1000 ≤ z ∧ z ≤ 1000 := by
 rcases Nat.lt_or_ge 40 l.length with h0 | h0
 ·have := h.1 h0; omega
 obtain ⟨k, _, _, ⟨_, h1⟩ | ⟨_, _, h1⟩⟩ := h.2 (h40 h0) <;> omega
theorem FindsN.one {code code' a' b' : Int} (h : FindsN l code a b) (h' : FindsN l code' a' b') : code = code' ∧ a = a' ∧ b = b' := by
 rcases h with ⟨i, h1, h2, h3, rfl, rfl, rfl⟩ | ⟨ht, i, h1, h2, h3, rfl, rfl, rfl⟩ | ⟨ht, hall, h⟩ <;> rcases h' with ⟨j, q1, q2, q3, rfl, rfl, rfl⟩ | ⟨qt, j, q1, q2, q3, rfl, rfl, rfl⟩ | ⟨qt, qall, h'⟩
 ·obtain rfl : i = j := by
   rcases Nat.lt_trichotomy i j with h | h | h
   ·exact absurd h2 (q3 i h)
   ·exact h
   exact absurd q2 (h3 j h)
  exact ⟨Z, Z, Z⟩
 ·exact absurd ⟨i, h1, h2⟩ qt
 ·exact absurd ⟨i, h1, h2⟩ qt
 ·exact absurd ⟨j, q1, q2⟩ ht
 ·obtain rfl : i = j := by
   rcases Nat.lt_trichotomy i j with h | h | h
   ·rw [q3 i h] at h2; cases h2
   ·exact h
   rw [h3 j h] at q2; cases q2
  exact ⟨Z, Z, Z⟩
 ·rw [qall i h1] at h2; cases h2
 ·exact absurd ⟨j, q1, q2⟩ ht
 ·rw [hall j q1] at q2; cases q2
 rcases h with ⟨h, rfl, rfl, rfl⟩ | ⟨z, i, k, hz, h, rfl, rfl, rfl⟩ <;> rcases h' with ⟨h', rfl, rfl, rfl⟩ | ⟨z', i', k', hz', h', rfl, rfl, rfl⟩
 ·exact ⟨Z, Z, Z⟩
 ·exact absurd h'.2.2.1 (h z' i' k' h'.1 h'.2.1 (.inl hz'))
 ·exact absurd h.2.2.1 (h' z i k h.1 h.2.1 (.inl hz))
 obtain ⟨rfl, rfl, rfl⟩ := h.one h'
 exact ⟨Z, Z, Z⟩
theorem FindsN.le {code : Int} (h : FindsN l code a b) (hl : l.length ≤ 120) : ∀ x ∈ [code, a, b], -1000 ≤ x ∧ x ≤ 1000 := by
 have key : (0 ≤ code ∧ code ≤ 4) ∧ (0 ≤ a ∧ a ≤ 120) ∧ (0 ≤ b ∧ b ≤ 120) := by
  rcases h with ⟨i, h1, h2, h3, rfl, rfl, rfl⟩ | ⟨ht, i, h1, h2, h3, rfl, rfl, rfl⟩ | ⟨ht, hall, ⟨_, rfl, rfl, rfl⟩ | ⟨z, i, k, hz, ⟨h1, h2, _⟩, rfl, rfl, rfl⟩⟩ <;> omega
 intro x hx
 simp at hx
 omega
theorem QFindsN.le {code : Int} (h : QFindsN l code a b) (hl : l.length ≤ 120) : ∀ x ∈ [code, a, b], -1000 ≤ x ∧ x ≤ 1000 := by
 have key : (0 ≤ code ∧ code ≤ 4) ∧ (0 ≤ a ∧ a ≤ 120) ∧ (0 ≤ b ∧ b ≤ 120) := by
  obtain ⟨thin, _, ⟨rfl, rfl, rfl, _⟩ | ⟨q, h1, h2, rfl, h3, _⟩⟩ := h
  ·omega
  rcases h3 with ⟨_, i, k, h3, h4, rfl, rfl, _⟩ | ⟨h3, _⟩
  ·omega
  cases h3
 intro x hx
 simp at hx
 omega
theorem FtN.le (hZ : OkZ l) {ok : Bool} (h : FtN l ok a b) : ∀ x ∈ [a, b], -1000000 ≤ x ∧ x ≤ 1000000 := by
 have hv : ∀ v, domZ l v → -1000000 ≤ v ∧ v ≤ 1000000 := fun v hv => by
  rcases hv with rfl | ⟨j, hj, _, rfl⟩
  ·omega
  exact told_num (hZ.ops.2 j hj).1 (oAt l j).a (by simp)
 obtain ⟨L, ⟨vs, _, d1, p1, _⟩, ⟨_, _, rfl, rfl⟩ | ⟨i, k, h1, _, rfl, rfl⟩⟩ := h
 ·intro x hx
  simp at hx
  omega
 have hat : ∀ i, i < L.length → -1000000 ≤ (zAt L i).v ∧ (zAt L i).v ≤ 1000000 := fun i hi => by
  obtain ⟨v, m1, m2⟩ := List.mem_map.1 (p1.mem_iff.1 (zAt_mem hi))
  rw [← m2]
  exact hv v ((d1 v).1 m1)
 have a1 := hat i h1.1
 have a2 := hat k h1.2.1
 intro x hx
 simp at hx
 rcases hx with rfl | rfl
 ·exact a1
 exact a2
end
abbrev Rs := Except Int (List UInt8 × Ses)
instance : Inhabited Rs := ⟨.error 0⟩
def OutOk : Rs → Prop
 | .ok (t, s) => t.length ≤ 50000 ∧ SesOk s
 | .error z => -1000 ≤ z ∧ z ≤ 1000
theorem OutOk.nums {s : Ses} {l : List Int} (hs : SesOk s) (h64 : in64 l) (hl : l.length ≤ 200) : OutOk (.ok (numsT l, s)) := ⟨by have := numsT_len h64; omega, hs⟩
def fitsW : List UInt8 := [102, 105, 116, 115]
def ZonesR (s : Ses) (l : List Op8) (r : Rs) : Prop :=
 (¬ OkZ l ∧ ∃ z, ZErr l z ∧ r = .error z) ∨ (OkZ l ∧ ThinZ l ∧ r = .error 8) ∨
 (OkZ l ∧ ¬ ThinZ l ∧ ∃ ok a b, FtN l ok a b ∧ r = .ok (if ok = true then fitsW else numsT [a, b], s))
def QueueR (s : Ses) (l : List Op8) (r : Rs) : Prop := (¬ OkQ l ∧ ∃ z, QErr l z ∧ r = .error z) ∨ (OkQ l ∧ ∃ code a b, QFindsN l code a b ∧ r = .ok (numsT [code, a, b], s))
def CausalR (s : Ses) (l : List Op8) (r : Rs) : Prop := (¬ OkC l ∧ ∃ z, CErr l z ∧ r = .error z) ∨ (OkC l ∧ ∃ code a b, FindsN l code a b ∧ r = .ok (numsT [code, a, b], s))
noncomputable def zonesF (s : Ses) (l : List Op8) : Rs := pickR (ZonesR s l)
noncomputable def queueF (s : Ses) (l : List Op8) : Rs := pickR (QueueR s l)
noncomputable def causalF (s : Ses) (l : List Op8) : Rs := pickR (CausalR s l)
section
variable {s : Ses} {l : List Op8} {r : Rs}
theorem zonesF_eq (h40 : l.length ≤ 40 → OkOps l) (h : ZonesR s l r) : zonesF s l = r := pickR_eq h fun r' h' => by
 rcases h with ⟨h1, z, h2, rfl⟩ | ⟨h1, h2, rfl⟩ | ⟨h1, h2, ok, a, b, h3, rfl⟩ <;> rcases h' with ⟨q1, z', q2, rfl⟩ | ⟨q1, q2, rfl⟩ | ⟨q1, q2, ok', a', b', q3, rfl⟩
 ·rw [h2.one h40 q2]
 ·exact absurd q1 h1
 ·exact absurd q1 h1
 ·exact absurd h1 q1
 ·rfl
 ·exact absurd h2 q2
 ·exact absurd h1 q1
 ·exact absurd q2 h2
 obtain ⟨rfl, rfl, rfl⟩ := h3.one h1 q3
 rfl
theorem queueF_eq (h40 : l.length ≤ 40 → OkOps l) (h : QueueR s l r) : queueF s l = r := pickR_eq h fun r' h' => by
 rcases h with ⟨h1, z, h2, rfl⟩ | ⟨h1, code, a, b, h3, rfl⟩ <;> rcases h' with ⟨q1, z', q2, rfl⟩ | ⟨q1, code', a', b', q3, rfl⟩
 ·rw [h2.one h40 q2]
 ·exact absurd q1 h1
 ·exact absurd h1 q1
 obtain ⟨rfl, rfl, rfl⟩ := h3.one q3
 rfl
theorem causalF_eq (h40 : l.length ≤ 40 → OkOps l) (h : CausalR s l r) : causalF s l = r := pickR_eq h fun r' h' => by
 rcases h with ⟨h1, z, h2, rfl⟩ | ⟨h1, code, a, b, h3, rfl⟩ <;> rcases h' with ⟨q1, z', q2, rfl⟩ | ⟨q1, code', a', b', q3, rfl⟩
 ·rw [h2.one h40 q2]
 ·exact absurd q1 h1
 ·exact absurd h1 q1
 obtain ⟨rfl, rfl, rfl⟩ := h3.one q3
 rfl
def objsW : List (List UInt8) := [[114, 101, 103, 105, 115, 116, 101, 114], [99, 111, 117, 110, 116, 101, 114], [115, 101, 116], [113, 117, 101, 117, 101], [115, 116, 97, 99, 107], [109, 117, 116, 101, 120]]
def validW : List UInt8 := [118, 97, 108, 105, 100]
def invalidW : List UInt8 := [105, 110, 118, 97, 108, 105, 100]
def unknownW : List UInt8 := [117, 110, 107, 110, 111, 119, 110]
end
theorem opsE_rd {w w0 : World} {A : Option Addr} {c : Nat} {H : List Ent} (hI : Inv NF w0 w (OpsE A c l :: H)) : OpsR w (fun _ => True) (.slice A l.length c) l := Rd.of_own hI.g0 (fun _ _ _ => trivial)
theorem in64_le {l : List Int} (h : ∀ x ∈ l, -1000000 ≤ x ∧ x ≤ 1000000) : in64 l := fun x hx => by have := h x hx; omega
theorem in64_le1 {l : List Int} (h : ∀ x ∈ l, -1000 ≤ x ∧ x ≤ 1000) : in64 l := fun x hx => by have := h x hx; omega
theorem fitsT_any (s : Ses) (A : Option Addr) (c : Nat) (l : List Op8) (h40 : l.length ≤ 40 → OkOps l) (D : Nat → Prop) (w0 : World) (h : OpsR w0 D (.slice A l.length c) l) :
  Cq 71 #[.slice A l.length c] w0 fun en w' => ∃ (ok : Bool) (a b : Int) (er : Value), en = .returned (.tuple #[.bool ok, .int .i64 a, .int .i64 b, er]) ∧ Pure w0 w' ∧
   ((er = .nilIface ∧ in64 [a, b] ∧ ZonesR s l (.ok (if ok = true then fitsW else numsT [a, b], s))) ∨ ∃ z, er = .iface 49 (.int .i64 z) ∧ (-1000 ≤ z ∧ z ≤ 1000) ∧ ZonesR s l (.error z)) :=
 (fitsN_any A _ c l D w0 h).mono fun e w' ⟨hp, h⟩ => by
  rcases h with ⟨h1, z, hz, rfl⟩ | ⟨h1, h2, rfl⟩ | ⟨h1, h2, ok, a, b, h3, rfl⟩
  ·exact ⟨_, _, _, _, Z, hp, .inr ⟨z, Z, hz.le h40, .inl ⟨h1, z, hz, Z⟩⟩⟩
  ·exact ⟨_, _, _, _, Z, hp, .inr ⟨8, Z, by omega, .inr (.inl ⟨h1, h2, rfl⟩)⟩⟩
  exact ⟨_, _, _, _, Z, hp, .inl ⟨Z, in64_le (h3.le h1), .inr (.inr ⟨h1, h2, ok, a, b, h3, Z⟩)⟩⟩
theorem qfindsT_any (s : Ses) (A : Option Addr) (c : Nat) (l : List Op8) (h120 : l.length ≤ 120) (h40 : l.length ≤ 40 → OkOps l) (D : Nat → Prop) (w0 : World) (h : OpsR w0 D (.slice A l.length c) l) :
  Cq 64 #[.slice A l.length c] w0 fun en w' => ∃ (code a b : Int) (er : Value), en = .returned (.tuple #[.int .i64 code, .int .i64 a, .int .i64 b, er]) ∧ Pure w0 w' ∧
   ((er = .nilIface ∧ in64 [code, a, b] ∧ QueueR s l (.ok (numsT [code, a, b], s))) ∨ ∃ z, er = .iface 49 (.int .i64 z) ∧ (-1000 ≤ z ∧ z ≤ 1000) ∧ QueueR s l (.error z)) :=
 (qfindsN_any A _ c l D w0 h).mono fun e w' ⟨hp, h⟩ => by
  rcases h with ⟨h1, z, hz, rfl⟩ | ⟨h1, code, a, b, rfl, h3⟩
  ·exact ⟨_, _, _, _, Z, hp, .inr ⟨z, Z, hz.le h40, .inl ⟨h1, z, hz, Z⟩⟩⟩
  exact ⟨_, _, _, _, Z, hp, .inl ⟨Z, in64_le1 (h3.le h120), .inr ⟨h1, code, a, b, h3, Z⟩⟩⟩
theorem cfindsT_any (s : Ses) (A : Option Addr) (c : Nat) (l : List Op8) (h120 : l.length ≤ 120) (h40 : l.length ≤ 40 → OkOps l) (D : Nat → Prop) (w0 : World) (h : OpsR w0 D (.slice A l.length c) l) :
  Cq 55 #[.slice A l.length c] w0 fun en w' => ∃ (code a b : Int) (er : Value), en = .returned (.tuple #[.int .i64 code, .int .i64 a, .int .i64 b, er]) ∧ Pure w0 w' ∧
   ((er = .nilIface ∧ in64 [code, a, b] ∧ CausalR s l (.ok (numsT [code, a, b], s))) ∨ ∃ z, er = .iface 49 (.int .i64 z) ∧ (-1000 ≤ z ∧ z ≤ 1000) ∧ CausalR s l (.error z)) :=
 (cfindsN_any A _ c l D w0 h).mono fun e w' ⟨hp, h⟩ => by
  rcases h with ⟨h1, z, hz, rfl⟩ | ⟨h1, code, a, b, rfl, h3⟩
  ·exact ⟨_, _, _, _, Z, hp, .inr ⟨z, Z, hz.le h40, .inl ⟨h1, z, hz, Z⟩⟩⟩
  exact ⟨_, _, _, _, Z, hp, .inl ⟨Z, in64_le1 (h3.le h120), .inr ⟨h1, code, a, b, h3, Z⟩⟩⟩
theorem zonesM_any (w0 w : World) (b : Nat) (s : Ses) (H : List Ent) (v : Value) (hs : SesOk s) (l : List Op8) (hl : evF s.evs = some l) (hI : SesI w0 w b s H) (hG : TxG w0) :
  Cq 40 #[.pointer (some ⟨b, 0, none⟩), v] w (fun en w' => MethQ (zonesF s l) s w0 b H en w' ∧ OutOk (zonesF s l)) := by
 obtain ⟨A1, c1, A2, c2, hI⟩ := hI
 obtain ⟨h120, h40⟩ := evF_ops hl
 refine calls_of_WP (N := Tryz.f40.ntmps) func40 Z Z Z (Wq (T5 Z (Wn (Wq (T1 Z (Vd [.pointer _] Z func56 Z ((ops_any w0 _ b s A1 A2 c1 c2 H l hl hI hG).mono ?_)))))))
 rintro e w1 ⟨A, c, rfl, hI⟩
 refine rV (Vd [.slice _ _ _] Z func71 Z ((fitsT_any s A c l h40 _ _ (opsE_rd hI)).mono ?_))
 rintro e w2 ⟨ok, a, bb, er, rfl, hp2, hR⟩
 refine rV ?_
 replace hI := (hI.pure hp2).d0
 refine T4 Z (Vj Z (Vj Z (Vj Z (Vj Z (Vc Z (Vb Z (Vb Z (U7 Z (Wn ?_)))))))))
 rcases hR with ⟨rfl, h64, hR⟩ | ⟨z, rfl, hz, hR⟩
 rotate_left
 ·refine Wq (Vy Z (WL_callP Z Z Z (rCall (vs := [.iface _ _]) Z func54 Z Z Z) ((chkE_err 49 (Y z) _).mono ?_)))
  rintro e w3 ⟨rfl, rfl⟩
  exact .inr ⟨_, Z, MethQ.bad (zonesF_eq h40 hR) (hI.err z), by rw [zonesF_eq h40 hR]; exact hz⟩
 refine Wq (Td Z (Vd [_] Z func54 Z ((chkE_nil _).mono ?_)))
 rintro e w3 ⟨rfl, rfl⟩
 refine rV (Wn ?_)
 cases ok with
 | true =>
  exact Ws (Wq (V7 Z (Yt Z (Wq (T5 Z (Wn (WR (r1_ 4 Z ⟨MethQ.good (zonesF_eq h40 hR) hI, by rw [zonesF_eq h40 hR]; exact ⟨by rw [if_pos rfl]; decide, hs⟩⟩))))))))
 | false => ?_
 refine Ws (Wq (V7 Z (Yf Z (Wk (Wq (V0 Z (V0 Z (T3 [(0, Y _), (1, Y _)] [_, _] [Y 0, Y 0] [0, 1] hI Z yy41 (fun _ => by kernel_rfl) ?_))))))))
 rintro b22 w - - hI
 refine Vd [.slice _ _ _] Z func5 Z ((numbers_any _ _ _ [a, bb] (fun _ => True) _ ?_ Z (by simp) h64 (hG.pure hI.pu)).mono ?_)
 ·exact ints_blk hI.g0 Z (by simp)
 rintro e w3 ⟨rfl, hp3⟩
 refine rV ?_
 have hI := hI.pure hp3
 exact T5 Z (Wn (WR (r1_ 4 Z ⟨MethQ.good (zonesF_eq h40 hR) hI.d0, by rw [zonesF_eq h40 hR]; exact OutOk.nums hs h64 (by simp)⟩)))
theorem queueM_any (w0 w : World) (b : Nat) (s : Ses) (H : List Ent) (v : Value) (hs : SesOk s) (l : List Op8) (hl : evF s.evs = some l) (hI : SesI w0 w b s H) (hG : TxG w0) :
  Cq 35 #[.pointer (some ⟨b, 0, none⟩), v] w (fun en w' => MethQ (queueF s l) s w0 b H en w' ∧ OutOk (queueF s l)) := by
 obtain ⟨A1, c1, A2, c2, hI⟩ := hI
 obtain ⟨h120, h40⟩ := evF_ops hl
 refine calls_of_WP (N := Tryz.f35.ntmps) func35 Z Z Z (Wq (T5 Z (Wn (Wq (T1 Z (Vd [.pointer _] Z func56 Z ((ops_any w0 _ b s A1 A2 c1 c2 H l hl hI hG).mono ?_)))))))
 rintro e w1 ⟨A, c, rfl, hI⟩
 refine rV (Vd [.slice _ _ _] Z func64 Z ((qfindsT_any s A c l h120 h40 _ _ (opsE_rd hI)).mono ?_))
 rintro e w2 ⟨code, a, bb, er, rfl, hp2, hR⟩
 refine rV ?_
 replace hI := (hI.pure hp2).d0
 refine T4 Z (Vj Z (Vj Z (Vj Z (Vj Z (Vb Z (Vb Z (Vb Z (U7 Z (Wn ?_)))))))))
 rcases hR with ⟨rfl, h64, hR⟩ | ⟨z, rfl, hz, hR⟩
 rotate_left
 ·refine Wq (Vy Z (WL_callP Z Z Z (rCall (vs := [.iface _ _]) Z func54 Z Z Z) ((chkE_err 49 (Y z) _).mono ?_)))
  rintro e w3 ⟨rfl, rfl⟩
  exact .inr ⟨_, Z, MethQ.bad (queueF_eq h40 hR) (hI.err z), by rw [queueF_eq h40 hR]; exact hz⟩
 refine Wq (Td Z (Vd [_] Z func54 Z ((chkE_nil _).mono ?_)))
 rintro e w3 ⟨rfl, rfl⟩
 refine rV (Wn (Wq (V0 Z (V0 Z (V0 Z (T3 [(0, Y _), (1, Y _), (2, Y _)] [_, _, _] [Y 0, Y 0, Y 0] [0, 1, 2] hI Z yy41 (fun _ => by kernel_rfl) ?_))))))
 rintro b22 w - - hI
 refine Vd [.slice _ _ _] Z func5 Z ((numbers_any _ _ _ [code, a, bb] (fun _ => True) _ ?_ Z (by simp) h64 (hG.pure hI.pu)).mono ?_)
 ·exact ints_blk hI.g0 Z (by simp)
 rintro e w3 ⟨rfl, hp3⟩
 refine rV ?_
 have hI := hI.pure hp3
 exact T5 Z (Wn (WR (r1_ 4 Z ⟨MethQ.good (queueF_eq h40 hR) hI.d0, by rw [queueF_eq h40 hR]; exact OutOk.nums hs h64 (by simp)⟩)))
theorem causalM_any (w0 w : World) (b : Nat) (s : Ses) (H : List Ent) (v : Value) (hs : SesOk s) (l : List Op8) (hl : evF s.evs = some l) (hI : SesI w0 w b s H) (hG : TxG w0) :
  Cq 28 #[.pointer (some ⟨b, 0, none⟩), v] w (fun en w' => MethQ (causalF s l) s w0 b H en w' ∧ OutOk (causalF s l)) := by
 obtain ⟨A1, c1, A2, c2, hI⟩ := hI
 obtain ⟨h120, h40⟩ := evF_ops hl
 refine calls_of_WP (N := Tryz.f28.ntmps) func28 Z Z Z (Wq (T5 Z (Wn (Wq (T1 Z (Vd [.pointer _] Z func56 Z ((ops_any w0 _ b s A1 A2 c1 c2 H l hl hI hG).mono ?_)))))))
 rintro e w1 ⟨A, c, rfl, hI⟩
 refine rV (Vd [.slice _ _ _] Z func55 Z ((cfindsT_any s A c l h120 h40 _ _ (opsE_rd hI)).mono ?_))
 rintro e w2 ⟨code, a, bb, er, rfl, hp2, hR⟩
 refine rV ?_
 replace hI := (hI.pure hp2).d0
 refine T4 Z (Vj Z (Vj Z (Vj Z (Vj Z (Vb Z (Vb Z (Vb Z (U7 Z (Wn ?_)))))))))
 rcases hR with ⟨rfl, h64, hR⟩ | ⟨z, rfl, hz, hR⟩
 rotate_left
 ·refine Wq (Vy Z (WL_callP Z Z Z (rCall (vs := [.iface _ _]) Z func54 Z Z Z) ((chkE_err 49 (Y z) _).mono ?_)))
  rintro e w3 ⟨rfl, rfl⟩
  exact .inr ⟨_, Z, MethQ.bad (causalF_eq h40 hR) (hI.err z), by rw [causalF_eq h40 hR]; exact hz⟩
 refine Wq (Td Z (Vd [_] Z func54 Z ((chkE_nil _).mono ?_)))
 rintro e w3 ⟨rfl, rfl⟩
 refine rV (Wn (Wq (V0 Z (V0 Z (V0 Z (T3 [(0, Y _), (1, Y _), (2, Y _)] [_, _, _] [Y 0, Y 0, Y 0] [0, 1, 2] hI Z yy41 (fun _ => by kernel_rfl) ?_))))))
 rintro b22 w - - hI
 refine Vd [.slice _ _ _] Z func5 Z ((numbers_any _ _ _ [code, a, bb] (fun _ => True) _ ?_ Z (by simp) h64 (hG.pure hI.pu)).mono ?_)
 ·exact ints_blk hI.g0 Z (by simp)
 rintro e w3 ⟨rfl, hp3⟩
 refine rV ?_
 have hI := hI.pure hp3
 exact T5 Z (Wn (WR (r1_ 4 Z ⟨MethQ.good (causalF_eq h40 hR) hI.d0, by rw [causalF_eq h40 hR]; exact OutOk.nums hs h64 (by simp)⟩)))
def objsS : List UInt8 := [114, 101, 103, 105, 115, 116, 101, 114, 32, 99, 111, 117, 110, 116, 101, 114, 32, 115, 101, 116, 32, 113, 117, 101, 117, 101, 32, 115, 116, 97, 99, 107, 32, 109, 117, 116, 101, 120]
theorem objs_fields : Lib.fields objsS = objsW := by decide +kernel
theorem objs_ascii : ∀ (j : Nat) b, objsS[j]? = some b → b.toNat < 128 := fun j b h => by
 have hm := gM_ h
 have : ∀ b ∈ objsS, b.toNat < 128 := by decide
 exact this b hm
structure ByC (F : Nat) (ab : Op8 → Op8 → Bool) : Prop where
 fn : ∃ fn, prog.funcs[F]? = some fn ∧ (fn.name == "runtime.NumGoroutine") = false ∧ fn.body.isNone = false
 call : ∀ (o : Int) (A : Option Addr) (n c : Nat) (l : List Op8) (bud : Int) (D : Nat → Prop) (w0 : World), OpsR w0 D (.slice A n c) l → KnOk w0 → Cq F #[.int .i64 o, .slice A n c, .int .i64 bud] w0 (VerdPostN o l ab bud w0)
theorem by_check : ByC 58 befB := ⟨⟨_, func58, rfl, rfl⟩, chkN_any⟩
theorem by_same : ByC 65 procB := ⟨⟨_, func65, rfl, rfl⟩, sameN_any⟩
def verdT (s : Ses) (r : Int × SSt) : Rs := if r.1 = 1 then .ok (toldT validW r.2.ord, s) else if r.1 = 2 then .ok (invalidW, s) else .ok (unknownW, s)
noncomputable def searchF (s : Ses) (l : List Op8) (nm : List UInt8) (ab : Op8 → Op8 → Bool) : Rs := match idxN objsW nm with
 | none => .error 5
 | some i => open Classical in if OkLin (1 + (i : Int)) l 20000 then verdT s (verdF (1 + (i : Int)) l ab 20000) else .error (if 40 < l.length then 4 else 1)
theorem idxN_lt {ws : List (List UInt8)} {wd : List UInt8} {i : Nat} (h : idxN ws wd = some i) : i < ws.length := by
 unfold idxN at h
 rw [List.findIdx?_eq_some_iff_getElem] at h
 exact h.1
theorem verd_ord {o : Int} {ab : Op8 → Op8 → Bool} {bud : Nat} (h : (verdF o l ab bud).1 = 1) (h40 : l.length ≤ 40) : (verdF o l ab bud).2.ord.length ≤ 41 ∧ in64 (verdF o l ab bud).2.ord := by
 have h1 := enter_ord (o := o) (l := l) (ab := ab) (bud := bud) (l.length + 1) (startS o)
 have h2 := (verd_sound h).2.rng
 refine ⟨?_, fun x hx => by have := h2 x hx; omega⟩
 have : (startS o).ord.length = 0 := rfl
 unfold verdF
 omega
theorem searchM_any (w0 w : World) (b : Nat) (s : Ses) (H : List Ent) (nm : List UInt8) (F : Nat) (ab : Op8 → Op8 → Bool) (hB : ByC F ab) (l : List Op8) (hl : evF s.evs = some l) (hI : SesI w0 w b s H) (hG : TxG w0) (hK : KnOk w0) :
  Cq 57 #[.pointer (some ⟨b, 0, none⟩), strV nm, .func (.func F) #[] #[]] w (MethQ (searchF s l nm ab) s w0 b H) := by
 obtain ⟨A1, c1, A2, c2, hI⟩ := hI
 obtain ⟨h120, h40⟩ := evF_ops hl
 obtain ⟨⟨fn, f1, f2, f3⟩, hcall⟩ := hB
 obtain ⟨r, hr⟩ : ∃ r, searchF s l nm ab = r := ⟨_, rfl⟩
 rw [hr]
 unfold searchF at hr
 have hii : idxI objsW nm = match idxN objsW nm with | some m => (m : Int) | none => -1 := rfl
 refine calls_of_WP (N := Tryz.f57.ntmps) func57 Z Z Z (Wq (T5 Z (Wn (Wq (Vd [.string _] Z func42 Z ((fields_any objsS objsW objs_fields (by decide) objs_ascii _ (hG.pure hI.pu)).mono ?_))))))
 rintro e w1 ⟨g1, rfl, hT⟩
 refine rV ?_
 have hI := hI.app1 hT
 refine Ta Z (Vd [.slice _ _ _, .string _] Z func41 Z ((sidx_any g1 _ objsW nm (by decide) _ hI.g0).mono ?_))
 rintro e w1 ⟨rfl, hp1⟩
 refine rV ?_
 replace hI := (hI.pure hp1).d0
 refine Vb Z (Wn ?_)
 cases hi : idxN objsW nm with
 | none =>
  rw [hi] at hr hii
  simp only at hr hii
  rw [hii]
  exact Ws (Wq (V0 Z (Vu Z (Yt Z (Wr (T0 Z yy49 Z (WL_panic Z (rPanic Z Z) (MethQ.bad hr.symm (hI.err 5)))))))))
 | some i =>
 have hi6 : i < 6 := idxN_lt hi
 rw [hi] at hr hii
 simp only at hr hii
 rw [hii]
 refine Ws (Wq (V0 Z (Vr Z (Yf Z (Wk ?_)))))
 by_cases hok : OkLin (1 + (i : Int)) l 20000
 ·rw [if_pos hok] at hr
  refine Wq (Ua Z (V0 Z (Wv Z (by exact rAdd rfl rfl rfl (by omega)) (T1 Z (Vd [.pointer _] Z func56 Z ((ops_any w0 _ b s A1 A2 c1 c2 H l hl hI hG).mono ?_))))))
  rintro e w1 ⟨A, c, rfl, hI⟩
  refine rV (WL_call Z Z Z (rCallF (f := F) (first := []) (cap := []) (vs := [Y _, .slice _ _ _, Y _]) Z Z f1 f2 f3 Z) ((hcall _ A _ c l 20000 _ _ (opsE_rd hI) (hK.pure hI.pu)).mono ?_))
  rintro e w2 (⟨-, A', c', rfl, hT⟩ | ⟨hno, -⟩)
  rotate_left
  ·exact absurd hok hno
  refine rV ?_
  replace hI := (hI.app1 hT).d1
  refine T4 Z (Vj Z (Vj Z (Vz (.agg #[Y 0, .slice none 0 0, Y 0]) (#[Y 0, .slice none 0 0, Y 0]) hI Z ?_)))
  rintro b8 w - - hI
  refine T2 3 (#[_, _, _]) (.agg _) hI Z ?_
  intro w hI
  refine Vw Z (Wn (Wq (Td Z (Vd [_] Z func54 Z ((chkE_nil _).mono ?_)))))
  rintro e w3 ⟨rfl, rfl⟩
  refine rV (Wn ?_)
  have hord := fun h => verd_ord (o := 1 + (i : Int)) (l := l) (ab := ab) (bud := 20000) h hok.2.2.2.2.1.1
  unfold verdT at hr
  unfold ordF at hI
  simp only [show (20000 : Int).toNat = 20000 from rfl] at hI
  generalize verdF (1 + (i : Int)) l ab 20000 = R at hr hI hord
  obtain ⟨z, s'⟩ := R
  simp only at hr hI hord
  refine Ws (Wq (V8 0 Z (Yc hI Z Z (Wn (Wb ?_)))))
  by_cases h1 : z = 1
  ·rw [if_pos h1] at hr hI
   obtain ⟨hl41, h64⟩ := hord h1
   refine Wq (Vx Z (Vc Z (Yt Z (Wq (V8 1 Z (V6 (.slice _ _ _) Z (hI.c0 Z) (Vd [.string _, .slice _ _ _] Z func61 Z ((tolds_any validW (by decide) A' _ c' s'.ord (fun _ => True) _ ?_ Z (by omega) h64 (hG.pure hI.pu)).mono ?_))))))))
   ·exact Rd.of_own hI.g1 (fun _ _ _ => trivial)
   rintro e w3 ⟨rfl, hp3⟩
   refine rV ?_
   have hI := hI.pure hp3
   exact T5 Z (Wn (WR (r1_ 6 Z (MethQ.good hr.symm hI.d0.d0))))
  rw [if_neg h1] at hr hI
  by_cases h2 : z = 2
  ·rw [if_pos h2] at hr
   exact Wq (Vs Z (Vc Z (Yf Z (Wq (Vx Z (Vc Z (Yt Z (Ws (Wr (T5 Z (Wn (WR (r1_ 6 Z (MethQ.good hr.symm hI.d0.d0))))))))))))))
  rw [if_neg h2] at hr
  exact Wq (Vs Z (Vc Z (Yf Z (Wq (Vs Z (Vc Z (Yf Z (Wk (Ws (Wr (T5 Z (Wn (WR (r1_ 6 Z (MethQ.good hr.symm hI.d0.d0)))))))))))))))
 rw [if_neg hok] at hr
 refine Wq (Ua Z (V0 Z (Wv Z (by exact rAdd rfl rfl rfl (by omega)) (T1 Z (Vd [.pointer _] Z func56 Z ((ops_any w0 _ b s A1 A2 c1 c2 H l hl hI hG).mono ?_))))))
 rintro e w1 ⟨A, c, rfl, hI⟩
 refine rV (WL_call Z Z Z (rCallF (f := F) (first := []) (cap := []) (vs := [Y _, .slice _ _ _, Y _]) Z Z f1 f2 f3 Z) ((hcall _ A _ c l 20000 _ _ (opsE_rd hI) (hK.pure hI.pu)).mono ?_))
 rintro e w2 (⟨hok', -⟩ | ⟨-, ⟨z, hz, rfl⟩, hp2⟩)
 ·exact absurd hok' hok
 refine rV ?_
 replace hI := (hI.pure hp2).d0
 refine T4 Z (Vj Z (Vj Z (Vz (.agg #[Y 0, .slice none 0 0, Y 0]) (#[Y 0, .slice none 0 0, Y 0]) hI Z ?_)))
 rintro b8 w - - hI
 refine T2 3 (#[_, _, _]) (.agg _) hI Z ?_
 intro w hI
 refine Vt Z (Wn ?_)
 have hzz : z = if 40 < l.length then 4 else 1 := by
  obtain ⟨z1, z2⟩ := hz (by omega) (by omega) (by omega) (by omega)
  by_cases h4 : 40 < l.length
  ·rw [if_pos h4]; exact z1 h4
  rw [if_neg h4]; exact z2 (h40 (by omega))
 refine Wq (Vy Z (WL_callP Z Z Z (rCall (vs := [.iface _ _]) Z func54 Z Z Z) ((chkE_err 49 (Y z) _).mono ?_)))
 rintro e w3 ⟨rfl, rfl⟩
 exact .inr ⟨_, Z, MethQ.bad (by rw [← hr, hzz]) ((hI.d0).err z)⟩
theorem checkM_any (w0 w : World) (b : Nat) (s : Ses) (H : List Ent) (wd : List UInt8) (A : Option Addr) (c : Nat) (l : List Op8) (hl : evF s.evs = some l) (hI : SesI w0 w b s (Win 9 1 A 1 c [strV wd] :: H)) (hG : TxG w0) (hK : KnOk w0) :
  Cq 29 #[.pointer (some ⟨b, 0, none⟩), .slice A 1 c] w (MethQ (searchF s l wd befB) s w0 b (Win 9 1 A 1 c [strV wd] :: H)) := by
 have hI0 := hI
 obtain ⟨A1, c1, A2, c2, hI⟩ := hI0
 obtain ⟨bA, oA, rfl, -, -, hc⟩ := (hI.win0 3 rfl).get (k := 0) (u := strV wd) rfl (by omega)
 clear hI
 refine calls_of_WP (N := Tryz.f29.ntmps) func29 Z Z Z (Wq (T5 Z (Wn (Wq (T1 Z (Va Z (Wv Z (by exact rIdx1 (i := 0) rfl yy42 (by kernel_rfl) rfl rfl (by omega)) (V6 (.string _) Z hc (WL_callP Z Z Z (rCall (vs := [.pointer _, .string _, .func (.func 58) #[] #[]]) Z func57 Z Z Z) ((searchM_any w0 _ b s _ wd 58 befB by_check l hl hI hG hK).mono ?_))))))))))
 rintro e w1 hM
 cases hr : searchF s l wd befB with
 | error z =>
  rw [hr] at hM
  obtain ⟨T, v, rfl, hM⟩ := hM
  exact .inr ⟨_, Z, T, v, Z, hM⟩
 | ok x =>
  obtain ⟨t, s'⟩ := x
  rw [hr] at hM
  obtain ⟨rfl, hM⟩ := hM
  exact .inl ⟨_, Z, (U7 Z (Wn (WR (r1_ 4 Z ⟨Z, hM⟩))))⟩
theorem sameM_any (w0 w : World) (b : Nat) (s : Ses) (H : List Ent) (wd : List UInt8) (A : Option Addr) (c : Nat) (l : List Op8) (hl : evF s.evs = some l) (hI : SesI w0 w b s (Win 9 1 A 1 c [strV wd] :: H)) (hG : TxG w0) (hK : KnOk w0) :
  Cq 36 #[.pointer (some ⟨b, 0, none⟩), .slice A 1 c] w (MethQ (searchF s l wd procB) s w0 b (Win 9 1 A 1 c [strV wd] :: H)) := by
 have hI0 := hI
 obtain ⟨A1, c1, A2, c2, hI⟩ := hI0
 obtain ⟨bA, oA, rfl, -, -, hc⟩ := (hI.win0 3 rfl).get (k := 0) (u := strV wd) rfl (by omega)
 clear hI
 refine calls_of_WP (N := Tryz.f36.ntmps) func36 Z Z Z (Wq (T5 Z (Wn (Wq (T1 Z (Va Z (Wv Z (by exact rIdx1 (i := 0) rfl yy42 (by kernel_rfl) rfl rfl (by omega)) (V6 (.string _) Z hc (WL_callP Z Z Z (rCall (vs := [.pointer _, .string _, .func (.func 65) #[] #[]]) Z func57 Z Z Z) ((searchM_any w0 _ b s _ wd 65 procB by_same l hl hI hG hK).mono ?_))))))))))
 rintro e w1 hM
 cases hr : searchF s l wd procB with
 | error z =>
  rw [hr] at hM
  obtain ⟨T, v, rfl, hM⟩ := hM
  exact .inr ⟨_, Z, T, v, Z, hM⟩
 | ok x =>
  obtain ⟨t, s'⟩ := x
  rw [hr] at hM
  obtain ⟨rfl, hM⟩ := hM
  exact .inl ⟨_, Z, (U7 Z (Wn (WR (r1_ 4 Z ⟨Z, hM⟩))))⟩
noncomputable def runC (s : Ses) (i : Nat) (ws : List (List UInt8)) : Rs := match i with
 | 0 => carefulF s
 | 1 => causalF s ((evF s.evs).getD [])
 | 2 => searchF s ((evF s.evs).getD []) (ws.getD 0 []) befB
 | 3 => clashesF s
 | 4 => .ok (clearW, noSes)
 | 5 => listF s
 | 6 => .ok (namesW, s)
 | 7 => countF s ((evF s.evs).getD [])
 | 8 => queueF s ((evF s.evs).getD [])
 | 9 => searchF s ((evF s.evs).getD []) (ws.getD 0 []) procB
 | 10 => seeMF s ws
 | 11 => seesT s
 | 12 => addF s ws
 | _ => zonesF s ((evF s.evs).getD [])
theorem toldT_len {wd : List UInt8} {l : List Int} (hw : wd.length ≤ 100) (hl : l.length ≤ 200) (h64 : in64 l) : (toldT wd l).length ≤ 50000 := by
 have := numsT_len h64
 unfold toldT
 split
 ·omega
 simp only [List.length_append, List.length_singleton, List.length_cons]
 omega
theorem cycTo_in {n : Nat} {f : Nat → Nat → Bool} {b l : Nat} (hb : b < n) : ∀ k, ∀ v ∈ cycTo n f b l k, v < n
 | 0, v, hv => by
  rw [cycTo, List.mem_singleton] at hv
  omega
 | k + 1, v, hv => by
  rw [cycTo] at hv
  split at hv
  ·next x hx =>
   rcases List.mem_append.1 hv with h | h
   ·exact cycTo_in hb k v h
   rw [List.mem_singleton.1 h]
   unfold nextC at hx
   have := List.mem_of_find?_eq_some hx
   simp at this
   omega
  exact cycTo_in hb k v hv
theorem cyc_in {f : Nat → Nat → Bool} {cl : List Nat} (h : cycF 8 f = some cl) : ∀ v ∈ cl, v < 8 := by
 unfold cycF at h
 obtain ⟨⟨b, l⟩, hb, rfl⟩ := Option.map_eq_some_iff.1 h
 exact cycTo_in (bestTo_some hb).1 _
theorem replaceK_len (old new : List UInt8) : ∀ (k : Nat) (s : List UInt8), (Lib.replaceK old new k s).length ≤ s.length + k * new.length
 | 0, s => by simp [Lib.replaceK]
 | k + 1, s => by
  rw [Lib.replaceK]
  split
  ·exact Nat.le_add_right _ _
  have := replaceK_len old new k (s.drop ((Lib.index s old).toNat + old.length))
  rw [List.length_drop] at this
  simp only [List.length_append, List.length_take, Nat.succ_mul]
  omega
theorem replaceAll_len (s old new : List UInt8) (hn : new.length ≤ 2) : (Lib.replaceAll s old new).length ≤ s.length + (s.length + 1) * 2 := by
 unfold Lib.replaceAll Lib.replace
 split
 ·omega
 have h1 := replaceK_len old new (Lib.replaceNum s old (-1)) s
 have h2 : Lib.replaceNum s old (-1) ≤ s.length + 1 := by
  unfold Lib.replaceNum
  rw [if_pos (.inl (by omega))]
  exact Lib.count_le s old
 have h3 : Lib.replaceNum s old (-1) * new.length ≤ (s.length + 1) * 2 := Nat.mul_le_mul h2 hn
 omega
theorem SesOk.text {s : Ses} (h : SesOk s) : (textE s.evs).length ≤ 7080 := by
 obtain ⟨os, ho⟩ := h.op
 have h1 := evF_evT ho
 unfold evT at h1
 split at h1
 ·next h2 =>
  have := textE_len s.evs (fun e he => EvOk.of (List.all_eq_true.1 h2.2 e he))
  have := h.ev
  omega
 cases h1
theorem SesOk.none : SesOk noSes := ⟨⟨by simp [noSes], fun k hk => by simp [noSes] at hk⟩, by simp [noSes], [], by decide⟩
theorem okSteps_of {l : List St} (h : badE l = none) : OkSteps l := by
 unfold badE at h
 split at h
 ·cases h
 next h60 =>
 rw [List.findSome?_eq_none_iff] at h
 refine ⟨by omega, fun k hk => ?_⟩
 have h1 := h k (List.mem_range.2 hk)
 unfold atE at h1
 split at h1
 ·cases h1
 next h2 =>
 split at h1
 ·cases h1
 next h3 => exact ⟨h2, by simpa using h3⟩
theorem errC_le (e : Ev) : 1 ≤ errC e ∧ errC e ≤ 2 := by
 unfold errC
 split <;> omega
theorem errR_le : ∀ (l : List Ev) (i : Nat) (s : SeeS), 0 ≤ errR l i s ∧ errR l i s ≤ 12
 | [], _, _ => by simp [errR]
 | e :: r, i, s => by
  rw [errR]
  split
  ·unfold errS
   have := errC_le e
   split
   ·split <;> omega
   omega
  exact errR_le r _ _
theorem errO_le (l : List Ev) : 0 ≤ errO l ∧ errO l ≤ 12 := by
 unfold errO
 split
 ·exact errR_le _ _ _
 omega
theorem parse1_err {t : List UInt8} (h : parse1 t = .error z) : 0 ≤ z ∧ z ≤ 12 := by
 unfold parse1 at h
 split at h
 ·cases h
 unfold parseW at h
 split at h
 ·cases h
 next z' h1 =>
 injection h with h
 subst h
 split at h1
 ·unfold parseE at h1
  split at h1
  ·split at h1
   ·injection h1 with h1; omega
   split at h1
   ·cases h1
   injection h1 with h1
   have := errC_le { evW (wordsF t) with ty := 1 + idxI typeWs (wAt (wordsF t) 1), kind := 1 + idxI kindWs (wAt (wordsF t) 2) }
   omega
  injection h1 with h1; omega
 injection h1 with h1; omega
section
variable {s : Ses} (hs : SesOk s)
include hs
theorem out_careful : OutOk (carefulF s) := ⟨by have := carT_len [(carTo s.sts s.sts.length).1, (carTo s.sts s.sts.length).2.1, (carTo s.sts s.sts.length).2.2] 3 (by omega); omega, hs⟩
theorem out_clashes : OutOk (clashesF s) := by
 unfold clashesF
 split
 ·next od ho =>
  have hspec := orderTo_spec 8 od ho
  have hlt : ∀ v ∈ od.filter (inC s.sts), v < 8 := fun v hv => hspec.2.2.1 v (List.mem_filter.1 hv).1
  have hll : (od.filter (inC s.sts)).length ≤ 8 := Nat.le_trans (List.length_filter_le _ _) (by rw [hspec.1]; exact Nat.le_refl _)
  exact ⟨toldT_len (by decide) (by rw [List.length_map]; omega) (in64_nat hlt), hs⟩
 split
 ·next ho _ cl hcy =>
  have hll := cyc_len hcy
  have hcl := cyc_in hcy
  exact ⟨toldT_len (by decide) (by rw [List.length_map]; omega) (in64_nat hcl), hs⟩
 show (-1000 : Int) ≤ 0 ∧ (0 : Int) ≤ 1000; omega
theorem out_list : OutOk (listF s) := by
 have h1 := trim_len (textE s.evs) [10]
 have h2 := hs.text
 have h3 := replaceAll_len (Lib.trimSuffix (textE s.evs) [10]) [10] [59, 32] (by decide)
 exact ⟨by omega, hs⟩
theorem out_count (hl : l.length ≤ 120) : OutOk (countF s l) := OutOk.nums hs (fun x hx => by have := openN_le l; simp at hx; omega) (by simp)
theorem out_search {nm : List UInt8} {ab : Op8 → Op8 → Bool} : OutOk (searchF s l nm ab) := by
 unfold searchF
 split
 ·show (-1000 : Int) ≤ 5 ∧ (5 : Int) ≤ 1000; omega
 split
 ·next i _ hok =>
  unfold verdT
  split
  ·next h1 =>
   obtain ⟨h2, h3⟩ := verd_ord h1 hok.2.2.2.2.1.1
   exact ⟨toldT_len (by decide) (by omega) h3, hs⟩
  split
  ·exact ⟨by decide, hs⟩
  exact ⟨by decide, hs⟩
 split
 ·show (-1000 : Int) ≤ 4 ∧ (4 : Int) ≤ 1000; omega
 show (-1000 : Int) ≤ 1 ∧ (1 : Int) ≤ 1000; omega
theorem out_see (ws : List (List UInt8)) : OutOk (seeMF s ws) := by
 unfold seeMF
 split
 ·next z hz => have := parse1_err hz; show -1000 ≤ z ∧ z ≤ 1000; omega
 next l hl =>
 split
 ·have := errO_le (s.evs ++ l); show -1000 ≤ errO (s.evs ++ l) ∧ errO (s.evs ++ l) ≤ 1000; omega
 next os ho =>
 obtain ⟨_, h1, _⟩ := evF_some ho
 exact OutOk.nums ⟨hs.st, h1, os, ho⟩ (fun x hx => by simp only [List.mem_singleton] at hx; omega) (by simp)
theorem out_sees : OutOk (seesT s) := by
 unfold seesT
 split
 ·next q hq =>
  obtain ⟨h1, h2⟩ := sees_in hq
  exact ⟨toldT_len (by decide) (by rw [List.length_map]; omega) (in64_nat h2), hs⟩
 next z hz =>
 unfold seesF at hz
 split at hz
 ·injection hz with hz; show -1000 ≤ z ∧ z ≤ 1000; omega
 split at hz
 ·cases hz
 split at hz
 ·cases hz
 injection hz with hz; show -1000 ≤ z ∧ z ≤ 1000; omega
theorem out_add (ws : List (List UInt8)) : OutOk (addF s ws) := by
 unfold addF
 split
 ·show (-1000 : Int) ≤ 3 ∧ (3 : Int) ≤ 1000; omega
 next l hl =>
 split
 ·next z hz => have := badE_mem hz; show -1000 ≤ z ∧ z ≤ 1000; omega
 next hb =>
 have ho := okSteps_of hb
 have := ho.1
 exact OutOk.nums ⟨ho, hs.ev, hs.op⟩ (fun x hx => by simp only [List.mem_singleton] at hx; omega) (by simp)
end
structure OkWs (ws : List (List UInt8)) : Prop where
 word : ∀ t ∈ ws, t ≠ [] ∧ t.length ≤ 90000
 line : ∀ t ∈ ws, (10 : UInt8) ∉ t
 num : ws.length ≤ 100000
 len : (Lib.join ws [32]).length ≤ 20000
theorem cmd_any (w0 w : World) (b : Nat) (s : Ses) (H : List Ent) (hs : SesOk s) (i : Nat) (x : Int × Nat) (hx : cmdL[i]? = some x) (ws : List (List UInt8)) (hcnt : x.1 = -1 ∨ x.1 = (ws.length : Int)) (hws : OkWs ws)
  (A : Option Addr) (c : Nat) (hI : SesI w0 w b s (Win 9 1 A ws.length c (ws.map strV) :: H)) (hG : TxG w0) (hM : MaxOk w0) (hK : KnOk w0) :
  Cq x.2 #[.pointer (some ⟨b, 0, none⟩), .slice A ws.length c] w fun en w' => MethQ (runC s i ws) s w0 b (Win 9 1 A ws.length c (ws.map strV) :: H) en w' ∧ OutOk (runC s i ws) := by
 obtain ⟨os, ho⟩ := hs.op
 have hos : (evF s.evs).getD [] = os := by rw [ho]; rfl
 have h120 := (evF_ops ho).1
 have put : ∀ {f : Nat} {r : Rs}, OutOk r → Cq f #[.pointer (some ⟨b, 0, none⟩), .slice A ws.length c] w (MethQ r s w0 b (Win 9 1 A ws.length c (ws.map strV) :: H)) → Cq f #[.pointer (some ⟨b, 0, none⟩), .slice A ws.length c] w fun en w' => MethQ r s w0 b (Win 9 1 A ws.length c (ws.map strV) :: H) en w' ∧ OutOk r := fun ho h => h.mono fun _ _ h => ⟨h, ho⟩
 have one : ws.length = 1 → ∃ wd, ws = [wd] := fun h => by
  match ws, h with
  | [wd], _ => exact ⟨wd, rfl⟩
 have hi : i < 14 := (gS_ hx).1
 have cases14 : i = 0 ∨ i = 1 ∨ i = 2 ∨ i = 3 ∨ i = 4 ∨ i = 5 ∨ i = 6 ∨ i = 7 ∨ i = 8 ∨ i = 9 ∨ i = 10 ∨ i = 11 ∨ i = 12 ∨ i = 13 := by omega
 rcases cases14 with rfl | rfl | rfl | rfl | rfl | rfl | rfl | rfl | rfl | rfl | rfl | rfl | rfl | rfl
 ·rw [show cmdL[0]? = some (0, 27) from rfl] at hx
  injection hx with hx
  subst hx
  rw [show runC s 0 ws = carefulF s from rfl]
  exact put (out_careful hs) (carefulM_any w0 w b s _ _ hs hI hG)
 ·rw [show cmdL[1]? = some (0, 28) from rfl] at hx
  injection hx with hx
  subst hx
  rw [show runC s 1 ws = causalF s ((evF s.evs).getD []) from rfl]
  rw [hos]
  exact causalM_any w0 w b s _ _ hs os ho hI hG
 ·rw [show cmdL[2]? = some (1, 29) from rfl] at hx
  injection hx with hx
  subst hx
  obtain ⟨wd, rfl⟩ := one (by rcases hcnt with h | h <;> simp only at h <;> omega)
  rw [show runC s 2 [wd] = searchF s ((evF s.evs).getD []) wd befB from rfl]
  rw [hos]
  exact put (out_search hs) (checkM_any w0 w b s H wd A c os ho hI hG hK)
 ·rw [show cmdL[3]? = some (0, 30) from rfl] at hx
  injection hx with hx
  subst hx
  rw [show runC s 3 ws = clashesF s from rfl]
  exact put (out_clashes hs) (clashesM_any w0 w b s _ _ hs hI hG)
 ·rw [show cmdL[4]? = some (0, 31) from rfl] at hx
  injection hx with hx
  subst hx
  rw [show runC s 4 ws = .ok (clearW, noSes) from rfl]
  exact put ⟨by decide, SesOk.none⟩ (clear_any w0 w b s _ _ hI)
 ·rw [show cmdL[5]? = some (0, 32) from rfl] at hx
  injection hx with hx
  subst hx
  rw [show runC s 5 ws = listF s from rfl]
  exact put (out_list hs) (list_any w0 w b s _ _ hs hI hG hM (by have := hs.text; omega))
 ·rw [show cmdL[6]? = some (0, 33) from rfl] at hx
  injection hx with hx
  subst hx
  rw [show runC s 6 ws = .ok (namesW, s) from rfl]
  exact put ⟨by decide, hs⟩ (help_any w0 w b s _ _ hI)
 ·rw [show cmdL[7]? = some (0, 34) from rfl] at hx
  injection hx with hx
  subst hx
  rw [show runC s 7 ws = countF s ((evF s.evs).getD []) from rfl]
  rw [hos]
  exact put (out_count hs h120) (count_any w0 w b s _ _ os ho h120 hI hG)
 ·rw [show cmdL[8]? = some (0, 35) from rfl] at hx
  injection hx with hx
  subst hx
  rw [show runC s 8 ws = queueF s ((evF s.evs).getD []) from rfl]
  rw [hos]
  exact queueM_any w0 w b s _ _ hs os ho hI hG
 ·rw [show cmdL[9]? = some (1, 36) from rfl] at hx
  injection hx with hx
  subst hx
  obtain ⟨wd, rfl⟩ := one (by rcases hcnt with h | h <;> simp only at h <;> omega)
  rw [show runC s 9 [wd] = searchF s ((evF s.evs).getD []) wd procB from rfl]
  rw [hos]
  exact put (out_search hs) (sameM_any w0 w b s H wd A c os ho hI hG hK)
 ·rw [show cmdL[10]? = some (7, 37) from rfl] at hx
  injection hx with hx
  subst hx
  rw [show runC s 10 ws = seeMF s ws from rfl]
  exact put (out_see hs ws) (seeM_any w0 w b s H hs ws (by rcases hcnt with h | h <;> simp only at h <;> omega) hws.line hws.len A c hI hG hM)
 ·rw [show cmdL[11]? = some (0, 38) from rfl] at hx
  injection hx with hx
  subst hx
  rw [show runC s 11 ws = seesT s from rfl]
  exact put (out_sees hs) (seesM_any w0 w b s _ _ hs hI hG)
 ·rw [show cmdL[12]? = some (-1, 39) from rfl] at hx
  injection hx with hx
  subst hx
  rw [show runC s 12 ws = addF s ws from rfl]
  exact put (out_add hs ws) (add_any w0 w b s H hs ws hws.word hws.num A c hI hG hM)
 rw [show cmdL[13]? = some (0, 40) from rfl] at hx
 injection hx with hx
 subst hx
 rw [show runC s 13 ws = zonesF s ((evF s.evs).getD []) from rfl]
 rw [hos]
 exact zonesM_any w0 w b s _ _ hs os ho hI hG
def okW : List UInt8 := [111, 107]
noncomputable def ansW (s : Ses) : List (List UInt8) → List UInt8 × Ses
 | [] => (okW, s)
 | nm :: ws => match idxN cmdW nm with
  | none => (errT 3, s)
  | some i => match cmdL[i]? with
   | none => (errT 3, s)
   | some x => if x.1 ≠ -1 ∧ x.1 ≠ (ws.length : Int) then (errT 3, s) else match runC s i ws with
    | .ok r => r
    | .error z => (errT z, s)
noncomputable def ansF (s : Ses) (line : List UInt8) : List UInt8 × Ses := ansW s (wordsF line)
def ansQ (w0 : World) (b b4 : Nat) (s : Ses) (r : List UInt8 × Ses) (H : List Ent) : XPost
 | .normal, ρ, w | .ret, ρ, w => ρ 4 = .pointer (some ⟨b4, 0, none⟩) ∧ SesOk r.2 ∧ r.1.length ≤ 50000 ∧ ∃ A1 c1 A2 c2, Inv NF w0 w (B b4 9 #[strV r.1] :: (SesE b A1 c1 A2 c2 r.2 ++ H))
 | .panic c, ρ, w => ρ 4 = .pointer (some ⟨b4, 0, none⟩) ∧ ∃ T v z old, c = pan (.iface T v) ∧ (-1000 ≤ z ∧ z ≤ 1000) ∧ r = (errT z, s) ∧ ∃ A1 c1 A2 c2, Inv NF w0 w (B b4 9 #[old] :: ErrE (.iface T v) z :: (SesE b A1 c1 A2 c2 s ++ H))
 | _, _, _ => False
theorem ansQ_exits {w0 : World} {b b4 : Nat} {s : Ses} {r : List UInt8 × Ses} {H : List Ent} (e : Exit) (ρ : Env) (w : World) (h : ansQ w0 b b4 s r H e ρ w) : e = .normal ∨ e = .ret ∨ ∃ c, e = .panic c := by
 cases e <;> first | exact .inl rfl | exact .inr (.inl rfl) | exact .inr (.inr ⟨_, rfl⟩) | exact h.elim
theorem errT_len (hz : -1000 ≤ z ∧ z ≤ 1000) : (errT z).length ≤ 50000 := by
 have := numsT_len (l := [z]) (fun x hx => by simp only [List.mem_singleton] at hx; omega)
 unfold errT errW
 simp only [List.length_append, List.length_cons, List.length_nil] at this ⊢
 omega
theorem cmd_fn {i : Nat} {x : Int × Nat} (hx : cmdL[i]? = some x) : ∃ fn, prog.funcs[x.2]? = some fn ∧ (fn.name == "runtime.NumGoroutine") = false ∧ fn.body.isNone = false := by
 have hm := gM_ hx
 simp only [cmdL, List.mem_cons, List.not_mem_nil, or_false] at hm
 rcases hm with rfl | rfl | rfl | rfl | rfl | rfl | rfl | rfl | rfl | rfl | rfl | rfl | rfl | rfl
 ·exact ⟨_, func27, Z, Z⟩
 ·exact ⟨_, func28, Z, Z⟩
 ·exact ⟨_, func29, Z, Z⟩
 ·exact ⟨_, func30, Z, Z⟩
 ·exact ⟨_, func31, Z, Z⟩
 ·exact ⟨_, func32, Z, Z⟩
 ·exact ⟨_, func33, Z, Z⟩
 ·exact ⟨_, func34, Z, Z⟩
 ·exact ⟨_, func35, Z, Z⟩
 ·exact ⟨_, func36, Z, Z⟩
 ·exact ⟨_, func37, Z, Z⟩
 ·exact ⟨_, func38, Z, Z⟩
 ·exact ⟨_, func39, Z, Z⟩
 exact ⟨_, func40, Z, Z⟩
def AnsQ (r : List UInt8 × Ses) (w0 : World) (b : Nat) (H : List Ent) (e : Ending) (w : World) : Prop := e = .returned (strV r.1) ∧ SesOk r.2 ∧ r.1.length ≤ 50000 ∧ SesI w0 w b r.2 H
theorem ans_any (w0 w : World) (b : Nat) (s : Ses) (H : List Ent) (hs : SesOk s) (line : List UInt8) (hl : line.length ≤ 20000) (hnl : (10 : UInt8) ∉ line) (hI : SesI w0 w b s H) (hG : TxG w0) (hM : MaxOk w0) (hK : KnOk w0) :
  Cq 8 #[.pointer (some ⟨b, 0, none⟩), strV line] w (AnsQ (ansF s line) w0 b H) := by
 obtain ⟨A1, c1, A2, c2, hI⟩ := hI
 obtain ⟨r, hr⟩ : ∃ r, ansF s line = r := ⟨_, rfl⟩
 rw [hr]
 refine calls_of_WX (N := Tryz.f8.ntmps) func8 Z Z Z ?_
 refine WX_seqW ?_
 refine Wr (Vz (.string ⟨#[]⟩) (#[.string ⟨#[]⟩]) hI Z ?_)
 rintro b4 w - - hI
 refine Wn ?_
 refine WX_defer (d := { target := .fn (.func 16) #[.pointer (some ⟨b4, 0, none⟩)], args := #[] }) Z Z Z Z Z (rFunc (l := []) (m := [_]) Z Z Z) (rDefer (first := []) (cap := [_]) (vs := []) (xs := []) Z Z Z) ?_
 refine WX_RP (Q' := ansQ w0 b b4 s r H) ?_ (fun e ρ' a w' he ha hq => ?_) ansQ_exits (fun c a w' ha hq => ?_)
 rotate_left
 ·have hq' : ρ' 4 = .pointer (some ⟨b4, 0, none⟩) ∧ SesOk r.2 ∧ r.1.length ≤ 50000 ∧ ∃ A1 c1 A2 c2, Inv NF w0 w' (B b4 9 #[strV r.1] :: (SesE b A1 c1 A2 c2 r.2 ++ H)) := by
   rcases he with rfl | rfl <;> exact hq
  obtain ⟨h4, hok, hlen, A1, c1, A2, c2, hJ⟩ := hq'
  refine leaves_def (f := 16) (args := #[.pointer (some ⟨b4, 0, none⟩)]) he ha.defers Z ((recN_any _ w').mono ?_)
  rintro e u' w2 ⟨rfl, hv, rfl⟩
  exact ⟨Z, hv, _, ret_cell Tryz.results8 (by kernel_rfl) ((ha.get 4).trans h4) (hJ.c0 Z), Z, hok, hlen, A1, c1, A2, c2, hJ.d0⟩
 ·obtain ⟨h4, T, v, z, old, rfl, hz, hrr, A1, c1, A2, c2, hJ⟩ := hq
  refine leaves_rec (f := 16) (args := #[.pointer (some ⟨b4, 0, none⟩)]) ha Z ((recE_any b4 T v old z hz w0 w' _ hG hJ).mono ?_)
  rintro e u' w2 ⟨rfl, hv, hJ⟩
  refine ⟨Z, hv, _, ret_cell Tryz.results8 (by kernel_rfl) h4 (hJ.c0 Z), ?_⟩
  rw [hrr]
  exact ⟨Z, hs, errT_len hz, A1, c1, A2, c2, hJ.d1.d0⟩
 obtain ⟨hwne, hwsum⟩ := words_ok line
 have hwn : ∀ t ∈ wordsF line, (10 : UInt8) ∉ t := fun t ht h => hnl (word_mem ht h)
 have hwl : ∀ t ∈ wordsF line, t.length ≤ 20000 := fun t ht => Nat.le_trans (word_len ht) hl
 have hwc := words_len line
 have hwf := wordsF_eq line
 unfold ansF at hr
 generalize wordsF line = ws at *
 refine Rd.Ws ?_
 refine Rd.Wr ?_
 refine Ta Z (Vd [.string _, .func _ _ _] Z func18 Z ?_)
 refine (ffunc2_any line ws (by omega) hwf _).mono ?_
 rintro e w1 ⟨g1, rfl, hT⟩
 refine rV ?_
 replace hI := (hI.app1 hT).winOf
 refine Vg Z (Wn ?_)
 cases ws with
 | nil =>
  refine Rd.Ws ?_
  refine Rd.Ws ?_
  refine Rd.Wr ?_
  refine Va Z (Vo Z yy42 Z ?_)
  refine Wv Z (by exact rEql rfl rfl rfl) ?_
  refine Wn ?_
  refine Rd.Wc true Z ?_
  refine Rd.Ws ?_
  refine Rd.Wr ?_
  refine Ui 1 #[_] (.string _) hI Z ?_
  intro w hI
  refine Wn ?_
  refine Rd.WR ?_
  subst hr
  exact ⟨Z, hs, by show okW.length ≤ 50000; decide, A1, c1, A2, c2, hI.d0⟩
 | cons nm ws =>
 have hwc0 : (nm :: ws).length = ws.length + 1 := rfl
 simp only [List.map_cons] at hI
 obtain ⟨gg, oo, hge, hc0⟩ := hI.winGet (j := 0) rfl
 injection hge with hge
 injection hge with hge1 hge2
 subst hge1 hge2
 refine Rd.Ws ?_
 refine Rd.Ws ?_
 refine Rd.Wr ?_
 refine Va Z (Vo Z yy42 Z (Vs Z (Wn ?_)))
 refine Rd.Wc false Z ?_
 refine Rd.Wk ?_
 have hI0 := hI
 unfold ansW at hr
 dsimp only at hr
 cases hfr : idxN cmdW nm with
 | none =>
  rw [hfr] at hr
  simp only at hr
  refine Rd.Ws ?_
  refine Rd.Wr ?_
  refine T1 Z (Va Z ?_)
  refine Wv Z (by exact rIdx0 (i := 0) rfl yy42 (by kernel_rfl) rfl rfl rfl (by omega)) ?_
  refine V6 (.string _) Z hc0 (Vd [.pointer _, .string _] Z func20 Z ?_)
  refine (find_any b nm _ (hG.pure hI.pu)).mono ?_
  rintro e w2 ⟨hp2, he⟩
  rw [hfr] at he
  replace he : e = .returned (.tuple #[.agg #[.int .i64 0, .nilFunc], .bool false]) := he
  subst he
  refine rV ?_
  have hI := hI.pure hp2
  refine T4 Z (Vj Z (Vj Z (Vz (.agg #[Y 0, .nilFunc]) (#[Y 0, .nilFunc]) hI Z ?_)))
  rintro b6 w - - hI
  refine T2 2 (#[_, _]) (.agg _) hI Z ?_
  intro w hI
  refine Vc Z (Wn ?_)
  refine Rd.Ws ?_
  refine Rd.Ws ?_
  refine Rd.Wr ?_
  refine V7 Z (To Z (V7 Z (V5 Z (V5 Z (V5 Z (V5 Z (V5 Z (V5 Z (V5 Z (V5 Z (V5 Z (V5 Z (V5 Z ?_)))))))))))))
  refine Vk Z (Wn ?_)
  refine Rd.Wc true Z ?_
  refine Rd.Wr ?_
  refine T0 Z yy49 Z ?_
  refine WL_panic Z (rPanic Z Z) ?_
  exact ⟨Z, _, _, 3, _, Z, by omega, hr.symm, A1, c1, A2, c2, ((hI.d0.d0).err 3).sw0⟩
 | some i =>
 rw [hfr] at hr
 simp only at hr
 refine Rd.Ws ?_
 refine Rd.Wr ?_
 refine T1 Z (Va Z ?_)
 refine Wv Z (by exact rIdx0 (i := 0) rfl yy42 (by kernel_rfl) rfl rfl rfl (by omega)) ?_
 refine V6 (.string _) Z hc0 (Vd [.pointer _, .string _] Z func20 Z ?_)
 refine (find_any b nm _ (hG.pure hI.pu)).mono ?_
 rintro e w2 ⟨hp2, he⟩
 rw [hfr] at he
 obtain ⟨⟨xc, xf⟩, hx, rfl⟩ := he
 refine rV ?_
 have hI := hI.pure hp2
 simp only [cmdV]
 refine T4 Z (Vj Z (Vj Z (Vz (.agg #[Y 0, .nilFunc]) (#[Y 0, .nilFunc]) hI Z ?_)))
 rintro b6 w - - hI
 refine T2 2 (#[_, _]) (.agg _) hI Z ?_
 intro w hI
 refine Vc Z (Wn ?_)
 rw [hx] at hr
 simp only at hr
 have hend : (xc ≠ -1 ∧ xc ≠ (ws.length : Int)) → r = (errT 3, s) := fun h => by rw [if_pos h] at hr; exact hr.symm
 refine Rd.Wx (fun ρ w => (xc = -1 ∨ xc = (ws.length : Int)) ∧ Has ρ [(0, .pointer (some ⟨b, 0, none⟩)), (4, .pointer (some ⟨b4, 0, none⟩)), (5, .slice (some ⟨g1, 0, none⟩) (ws.length + 1) (ws.length + 1)), (6, .pointer (some ⟨b6, 0, none⟩))] ∧ Inv NF w0 w (B b6 55 #[Y xc, .func (.func xf) #[.pointer (some ⟨b, 0, none⟩)] #[]] :: Win 9 1 (some ⟨g1, 0, none⟩) (ws.length + 1) (ws.length + 1) (strV nm :: ws.map strV) :: B b4 9 #[strV []] :: (SesE b A1 c1 A2 c2 s ++ H))) ?_ ?_
 ·by_cases hm : xc = -1
  ·refine Rd.Ws ?_
   refine Rd.Wr ?_
   refine V7 Z (Tf Z (V7 Z (V8 0 Z (Yc hI Z Z (Ty Z (V7 Z (V5 Z (V5 Z (V5 Z (V5 Z (V5 Z (V5 Z (Vi Z ?_)))))))))))))
   refine Vi Z (Wn ?_)
   refine Rd.Wc false Z ?_
   refine Rd.Wk ?_
   exact ⟨.inl hm, g4_, hI⟩
  by_cases hn : xc = (ws.length : Int)
  ·refine Rd.Ws ?_
   refine Rd.Wr ?_
   refine V7 Z (Tf Z (V7 Z (V8 0 Z (Yc hI Z Z (Tn Z (V7 Z (V8 0 Z (Yc hI Z Z (Va Z (Vo Z yy42 Z (Uj Z (Ty Z (Vk Z ?_)))))))))))))
   refine Vi Z (Wn ?_)
   refine Rd.Wc false Z ?_
   refine Rd.Wk ?_
   exact ⟨.inr hn, g4_, hI⟩
  refine Rd.Ws ?_
  refine Rd.Wr ?_
  refine V7 Z (Tf Z (V7 Z (V8 0 Z (Yc hI Z Z (Tn Z (V7 Z (V8 0 Z (Yc hI Z Z (Va Z (Vo Z yy42 Z (Uj Z (Tn Z (Vk Z ?_)))))))))))))
  refine Vi Z (Wn ?_)
  refine Rd.Wc true Z ?_
  refine Rd.Wr ?_
  refine T0 Z yy49 Z ?_
  refine WL_panic Z (rPanic Z Z) ?_
  exact ⟨Z, _, _, 3, _, Z, by omega, hend ⟨hm, hn⟩, A1, c1, A2, c2, ((hI.d0.d0).err 3).sw0⟩
 clear hI hI0
 rintro ρ w ⟨hcnt, hH, hI⟩
 obtain ⟨σ, rfl⟩ := hH.open
 rw [if_neg (fun h => by rcases hcnt with h1 | h1; exact h.1 h1; exact h.2 h1)] at hr
 obtain ⟨fn, f1, f2, f3⟩ := cmd_fn hx
 have hsum : sumW ws ≤ 20000 := by
  unfold sumW at hwsum ⊢
  rw [List.map_cons, List.sum_cons] at hwsum
  have : nm.length ≠ 0 := fun h => hwne nm (by simp) (List.eq_nil_of_length_eq_zero h)
  omega
 have hjl := join_sum ws
 have hws : OkWs ws := ⟨fun t ht => ⟨hwne t (by simp [ht]), Nat.le_trans (hwl t (by simp [ht])) (by omega)⟩, fun t ht => hwn t (by simp [ht]), by omega, by omega⟩
 refine Rd.Ws ?_
 refine Rd.Wd (by kernel_rfl) ?_
 refine Wi (T := [4, 5]) hI.drew ?_
 intro Sx hY hXS
 have hI := hI.drew
 refine Vf 0 1 Z (V9 1 (.func _ _ _) Z (fun W hW => (hY W hW).c0 Z) (Vp 2 Z ?_))
 refine Wt 3 Z (fun W hW => have hI := hY W hW; (rSliceFromG (sz := 1) (i := 1) Z yy42 (by kernel_rfl) Z Z (by omega))) ?_
 refine WT_A (by kernel_rfl) ?_
 clear hXS hY
 refine Tr 4 Z ?_
 refine WL_callP Z Z Z (rCallF (f := xf) (first := [_]) (cap := []) (vs := [.pointer _, .slice _ _ _]) Z Z f1 f2 f3 Z) ?_
 refine (cmd_any w0 _ b s (B b4 9 #[strV []] :: H) hs i (xc, xf) hx ws hcnt hws _ _ (⟨A1, c1, A2, c2, (Inv.winTail (n := ws.length) (c := ws.length + 1) hI.d0).perm (List.perm_append_comm_assoc [_, _] [_, _, _] H)⟩) hG hM hK).mono ?_
 rintro e w3 ⟨hQ, hO⟩
 cases hrc : runC s i ws with
 | error z =>
  rw [hrc] at hQ hO hr
  obtain ⟨T, v, rfl, A1, c1, A2, c2, hJ⟩ := hQ
  exact .inr ⟨_, Z, Z, T, v, z, _, Z, hO, hr.symm, A1, c1, A2, c2, (hJ.perm ((List.perm_append_comm_assoc [_, _, _] [_, _] H).cons _)).d1.sw0⟩
 | ok x => ?_
 obtain ⟨t, s'⟩ := x
 rw [hrc] at hQ hO hr
 obtain ⟨rfl, A1, c1, A2, c2, hJ⟩ := hQ
 refine .inl ⟨_, Z, ?_⟩
 replace hI := (hJ.perm (List.perm_append_comm_assoc [_, _, _] [_, _] H)).d0
 refine Wn (Tr 5 Z ?_)
 refine T2 1 #[_] (.string _) hI Z ?_
 intro w hI
 refine Wn ?_
 refine WA_end (by kernel_rfl) ?_
 refine Rd.WR ?_
 subst hr
 exact ⟨Z, hO.2, hO.1, A1, c1, A2, c2, hI⟩
noncomputable def stepL (p : List UInt8 × Ses) (L : List UInt8) : List UInt8 × Ses := (p.1 ++ ((ansF p.2 L).1 ++ [10]), (ansF p.2 L).2)
noncomputable def goL (Ls : List (List UInt8)) : List UInt8 × Ses := Ls.foldl stepL ([], noSes)
noncomputable def sesF (t : List UInt8) : List UInt8 := if 20000 < t.length then errT 4 ++ [10] else (goL (splitL (chopL t))).1
theorem goL_succ {Ls : List (List UInt8)} {k : Nat} {t : List UInt8} (h : Ls[k]? = some t) : goL (Ls.take (k + 1)) = stepL (goL (Ls.take k)) t := by
 unfold goL
 rw [List.take_add_one, h, List.foldl_append]
 rfl
abbrev SesP (b3 b4 bs n0 : Nat) (p : Value) (A : Option Addr) (c : Nat) (A1 : Option Addr) (c1 : Nat) (A2 : Option Addr) (c2 : Nat) (r : List UInt8 × Ses) : List Ent :=
 B b3 25 #[.pointer (some ⟨bs, 0, none⟩)] :: B b4 33 #[p, .slice A r.1.length c] :: Row n0 5 1 A r.1.length c (bytesL r.1) :: SesE bs A1 c1 A2 c2 r.2
def SesJ (w0 : World) (b3 b4 bs : Nat) (Ls : List (List UInt8)) (k : Nat) (X : Nat → Prop) (V : World) : Prop :=
 ∃ p A c A1 c1 A2 c2, (p = .pointer none ∨ p = .pointer (some ⟨b4, 0, none⟩)) ∧ Inv NF w0 V (SesP b3 b4 bs w0.heap.size p A c A1 c1 A2 c2 (goL (Ls.take k))) ∧
  (∀ e ∈ SesP b3 b4 bs w0.heap.size p A c A1 c1 A2 c2 (goL (Ls.take k)), ∀ j, e.D j → X j) ∧ SesOk (goL (Ls.take k)).2 ∧ (goL (Ls.take k)).1.length ≤ 50001 * k
theorem session_any (t : List UInt8) (ht : t.length ≤ 100000) (w0 : World) (hG : TxG w0) (hM : MaxOk w0) (hK : KnOk w0) :
  Cq 4 #[strV t] w0 fun e w' => e = .returned (strV (sesF t)) ∧ Pure w0 w' := by
 have hI := Inv.start (fun _ => False) w0
 obtain ⟨r, hr⟩ : ∃ r, sesF t = r := ⟨_, rfl⟩
 rw [hr]
 unfold sesF at hr
 refine calls_of_WX (N := Tryz.f4.ntmps) func4 Z Z Z (WX_seqW (Wr (T5 Z (Wn (WX_seqW ?_)))))
 by_cases hbig : 20000 < t.length
 ·rw [if_pos hbig] at hr
  have h4 : in64 [4] := fun x hx => by simp only [List.mem_singleton] at hx; omega
  have hnl : (numsT [4]).length ≤ 21 := by simpa using numsT_len h4
  refine Wq (Ta Z (Wv Z (rStrLen Z yy9 Z) (U6 Z (Yt Z (Wq (T3 [(0, Y _)] [_] [Y 0] [0] hI Z yy41 (fun _ => by kernel_rfl) ?_))))))
  rintro b9 w - - hI
  refine Vd [.slice _ _ _] Z func5 Z ((numbers_any _ _ _ [4] (fun _ => True) _ ?_ Z (by simp) h4 (hG.pure hI.pu)).mono ?_)
  ·exact ints_blk hI.g0 Z (by simp)
  rintro e w1 ⟨rfl, hp1⟩
  refine rV ?_
  have hI := hI.pure hp1
  refine Wv Z (rStrAdd Z Z Z (by (simp only [List.length_append, List.length_cons, List.length_nil]; omega))) (Wv Z (rStrAdd Z Z Z (by (simp only [List.length_append, List.length_cons, List.length_nil]; omega))) (T5 Z (Wn (WR ?_))))
  intro a ha
  refine leaves_retQ0 ha (r1_ 2 Z ⟨?_, hI.pu⟩)
  rw [← hr]
  rfl
 rw [if_neg hbig] at hr
 refine Wq (Ta Z (Wv Z (rStrLen Z yy9 Z) (U3 Z (Yf Z (Wk (WX_seqW (Wr (Tc [] [_, _] Z [.slice none 0 0, .slice none 0 0] [] Z (fun _ => by kernel_rfl) (Tq (.agg _) (#[_, _]) hI rfl ?_)))))))))
 rintro b14 w - - hI
 refine Vz (.pointer none) (#[.pointer none]) hI Z ?_
 rintro b3 w - - hI
 refine T2 1 #[_] (.pointer _) hI Z ?_
 intro w hI
 refine Wn (WX_seqW (Wr (Vz (.agg #[.pointer none, .slice none 0 0]) (#[.pointer none, .slice none 0 0]) hI Z ?_)))
 rintro b4 w - - hI
 refine Wn (WX_seq (WX_seqW (Wr (Ta Z (Vd [.string _] Z func6 Z ((lined_any t _).mono ?_))))))
 rintro e w1 ⟨g1, rfl, hT⟩
 refine rV ?_
 have hI := hI.app1 hT
 refine Wn ?_
 have hpu := hI.pu
 have hM1 := hM.pure hpu
 have kg : w1.cell? ⟨g1, 0, none⟩ = some (strV t) := hI.c0 rfl
 have hg1lt : g1 < w1.heap.size := hI.lt
 have o4 : w0.heap.size ≤ b4 := (hI.own _ (gM_ (i := 1) rfl) b4 rfl).resolve_left id
 have hw01 := hpu.size
 obtain ⟨Ls, hLs⟩ : ∃ Ls, splitL (chopL t) = Ls := ⟨_, rfl⟩
 have hseq := Rd.lineD_seq t ht g1 w1 kg hM1
 rw [hLs] at hseq hr
 have hLl : ∀ L ∈ Ls, (10 : UInt8) ∉ L ∧ L.length ≤ 20000 := fun L hL => by
  rw [← hLs] at hL
  have h1 := splitL_mem _ L hL
  have h2 := chopL_len t
  exact ⟨h1.1, by omega⟩
 have hLn : Ls.length ≤ 20001 := by
  rw [← hLs]
  have h1 := splitL_len (chopL t)
  have h2 := chopL_len t
  omega
 have hI1 : Inv NF w0 w1 (B g1 9 #[strV t] :: SesP b3 b4 b14 w0.heap.size (.pointer none) none 0 none 0 none 0 ([], noSes)) := by
  have e1 := (hI.fresh (e := Row w0.heap.size 5 1 none 0 0 []) (Pure.refl _) (Row.nil _ _ 5 1) (fun k hk => by cases hk))
  have e2 := (e1.fresh (e := Win 167 7 none 0 0 []) (Pure.refl _) (Win.ok ⟨by simp, Nat.le_refl _, by omega, .inl ⟨rfl, rfl⟩⟩) (fun k hk => by cases hk))
  have e3 := (e2.fresh (e := Win 114 3 none 0 0 []) (Pure.refl _) (Win.ok ⟨by simp, Nat.le_refl _, by omega, .inl ⟨rfl, rfl⟩⟩) (fun k hk => by cases hk))
  exact ((((((e3.pull 1 Z).pull 6 Z).pull 3 Z).pull 5 Z).pull 6 Z).pull 6 Z)
 have hS0 : SesJ w0 b3 b4 b14 Ls 0 (DL (SesP b3 b4 b14 w0.heap.size (.pointer none) none 0 none 0 none 0 ([], noSes))) w1 :=
  ⟨_, _, _, _, _, _, _, .inl rfl, hI1.d0, fun e he j hj => ⟨e, he, hj⟩, SesOk.none, by simp [goL]⟩
 have hgX : ∀ j, DL (SesP b3 b4 b14 w0.heap.size (.pointer none) none 0 none 0 none 0 ([], noSes)) j → j ≠ g1 ∧ j < w1.heap.size := fun j ⟨e, he, hj⟩ =>
  ⟨fun h => (List.pairwise_cons.1 hI1.apart).1 e he g1 rfl (h ▸ hj), (hI1.ok e (List.mem_cons_of_mem _ he)).2.1 j hj⟩
 generalize DL (SesP b3 b4 b14 w0.heap.size (.pointer none) none 0 none 0 none 0 ([], noSes)) = X0 at hS0 hgX
 clear hI hI1
 refine WX_block ?_
 refine WX_rangeRel (A := LinD Ls) (n := Ls.length) (M := fun k => k = g1) (w0 := w1) Z (enters_of func12 Z Z) hseq (Pure.refl _) X0 hgX (fun x hx => by subst hx; exact hg1lt)
  (fun k args V V' h _ => h) (SesJ w0 b3 b4 b14 Ls) (fun k X V V' h hc => ?_) hS0 (fun k args V ⟨s, _, h1⟩ => by subst h1; rfl) (by decide) ?_ ?_
 ·obtain ⟨p, A, c, A1, c1, A2, c2, h1, h2, h3, h4⟩ := h
  exact ⟨p, A, c, A1, c1, A2, c2, h1, h2.asideX h3 hw01 hc, h3, h4⟩
 ·rintro k X args V hkl ⟨L, hL, rfl⟩ - hsV
  refine Rd.Wr (T5 Z (Wn ⟨Z, Z, fun V2 _ hI2 hs2 => ?_⟩))
  obtain ⟨p, A, c, A1, c1, A2, c2, hp, hJ, hX, hok, hlen⟩ := hI2
  have hgo := goL_succ hL
  have hLm := hLl L (gM_ hL)
  have hkn : k ≤ 20001 := by omega
  unfold SesJ
  rw [hgo]
  generalize goL (Ls.take k) = pr at hJ hX hok hlen ⊢
  obtain ⟨out, s⟩ := pr
  simp only at hok hlen
  have hI := hJ.keepX hX
  unfold stepL
  have hans := fun w1 H hI1 => ans_any w0 w1 b14 s H hok L hLm.2 hLm.1 hI1 hG hM hK
  generalize ansF s L = pa at hans ⊢
  obtain ⟨ta, s'⟩ := pa
  simp only
  refine Rd.Wb (Rd.Wr (V6 (.pointer _) Z (hI.c1 Z) (Ta Z (Vd [.pointer _, .string _] Z func8 Z ((hans _ _ ⟨A1, c1, A2, c2, hI.perm (List.perm_append_comm (l₁ := [_, _, _, _]))⟩).mono ?_)))))
  rintro e w2 ⟨rfl, hok', hlen', A1', c1', A2', c2', hI⟩
  refine rV ?_
  have hI := hI.perm (List.perm_append_comm (l₁ := [_, _, _]))
  simp only at hok' hlen'
  refine Wv Z (rStrAdd Z Z Z (by (simp only [List.length_append, List.length_cons, List.length_nil]; omega))) (Vd [.pointer _, .string _] Z func7 Z ((wrsI_any _ w0 _ b4 w0.heap.size p A c out (ta ++ [10]) _ hp (Nat.le_refl _) (by rw [List.length_append]; simp only [List.length_singleton]; omega) ((hI.pull 3 Z).pull 3 Z)).mono ?_))
  rintro e w3 ⟨v, A', c', rfl, hI⟩
  refine rV (Wn ?_)
  have hI := hI.perm (List.perm_append_comm_assoc [_, _] [_, _] _)
  exact ⟨hJ.chgX hI, _, A', c', A1', c1', A2', c2', .inr Z, hI.d0, hI.ownedX, hok', by simp only [List.length_append, List.length_singleton]; omega⟩
 rintro X V ⟨p, A, c, A1, c1, A2, c2, hp, hI, hX, hok, hlen⟩ hD a ha
 rw [List.take_length] at hI hlen
 generalize goL Ls = pr at hI hlen hr
 obtain ⟨out, s⟩ := pr
 simp only at hr hlen
 subst hr
 refine (WX_R (?_ : Rd.W none _ _ _ _ (exitQ Tryz.f4.ntmps fun e a w => bodyPostM Fence.wide 0 prog Tryz.f4 _ e (wd (markD w1.heap.size) a) w) _ _) (fun e ρ' a w' ha q => q.get ha)) a ha
 have hDb : some w1.heap.size ≠ some b4 := fun h => by
  injection h with h
  have : Blk V b4 33 #[p, .slice A out.length c] := hI.g1
  unfold Blk at this
  rw [← h, hD] at this
  cases this
 refine Rd.Ws (Rd.Wr (Vd [.pointer _] Z func9 Z ((bstrK_any w0.heap.size b4 out _ (isB_of hp o4 ((hI.pull 2 Z).pull 2 Z)) hI.chg.size).mono ?_)))
 rintro e w2 ⟨rfl, hb, hk⟩
 refine rV (T5 Z (Wn (Rd.WR ?_)))
 intro a ha
 have hD2 := hk _ _ hD hDb (fun c fz h => by cases h)
 have has := Aside.put (n := w1.heap.size) (.deferred none) (Nat.le_refl _) hD2 rfl
 refine leaves_retQ ha hD2 (r1_ 2 Z ⟨Z, ?_⟩)
 exact Below.trans (Below.trans hI.pu hb) ⟨has.os, has.tape, has.output, has.size, fun k hk => by
  have h2 : w0.heap.size ≤ V.heap.size := hI.chg.size
  have h3 := hb.size
  exact has.old (by omega) (by omega)⟩
theorem fold_pre : ∀ (Ls : List (List UInt8)) (p : List UInt8 × Ses), ∃ r, (Ls.foldl stepL p).1 = p.1 ++ r
 | [], p => ⟨[], by simp⟩
 | L :: Ls, p => by
  obtain ⟨r, hr⟩ := fold_pre Ls (stepL p L)
  refine ⟨((ansF p.2 L).1 ++ [10]) ++ r, ?_⟩
  rw [List.foldl_cons, hr]
  unfold stepL
  simp only [List.append_assoc]
theorem ses_pre (f s : List UInt8) (h : f.length + s.length ≤ 1200) : ∃ r, sesF (f ++ [10] ++ s) = sesF (f ++ [10]) ++ r := by
 have h1 : ¬ 20000 < (f ++ [10] ++ s).length := by simp; omega
 have h2 : ¬ 20000 < (f ++ [10]).length := by simp; omega
 unfold sesF
 rw [if_neg h1, if_neg h2, chopL_nl]
 by_cases hs : s = []
 ·subst hs
  refine ⟨[], ?_⟩
  rw [List.append_nil, List.append_nil, chopL_nl]
 have e : f ++ [10] ++ s = f ++ 10 :: s := by simp
 rw [e, chopL_app f s hs, splitL_app]
 unfold goL
 rw [List.foldl_append]
 exact fold_pre _ _
def askT : List UInt8 := [115, 116, 101, 112, 115, 32, 114, 48, 120, 49, 32, 99, 48, 10, 120, 10]
def askW : List (List UInt8) := [[115, 116, 101, 112, 115], [114, 48, 120, 49], [99, 48]]
def tellT : List UInt8 := [50, 10, 101, 114, 114, 111, 114, 32, 51, 10]
theorem words_join (ws : List (List UInt8)) (h : ∀ w ∈ ws, w ≠ [] ∧ ∀ c ∈ w, wordB c = true) : wordsF (Lib.join ws [32]) = ws := by
 unfold wordsF
 rw [fields_line ws h, List.map_map]
 exact List.map_id ws
theorem ask_one : ansF noSes (Lib.join askW [32]) = ([50], ⟨[], [⟨0, 1, 1⟩, ⟨0, 3, 0⟩]⟩) := by
 unfold ansF
 rw [words_join askW (by decide +kernel)]
 have h1 : idxN cmdW [115, 116, 101, 112, 115] = some 12 := by decide +kernel
 have h3 : addF noSes [[114, 48, 120, 49], [99, 48]] = .ok ([50], ⟨[], [⟨0, 1, 1⟩, ⟨0, 3, 0⟩]⟩) := by
  have e1 : readSs [[114, 48, 120, 49], [99, 48]] = some [⟨0, 1, 1⟩, ⟨0, 3, 0⟩] := by decide +kernel
  have e2 : badE [⟨0, 1, 1⟩, ⟨0, 3, 0⟩] = none := by decide +kernel
  have e3 : numsT [2] = [50] := by decide +kernel
  unfold addF
  rw [e1]
  show (match badE [⟨0, 1, 1⟩, ⟨0, 3, 0⟩] with
   | some z => Except.error z
   | none => Except.ok (numsT [2], (⟨[], [⟨0, 1, 1⟩, ⟨0, 3, 0⟩]⟩ : Ses))) = _
  rw [e2]
  show Except.ok (numsT [2], _) = _
  rw [e3]
 show ansW noSes ([115, 116, 101, 112, 115] :: [[114, 48, 120, 49], [99, 48]]) = _
 unfold ansW
 dsimp only
 rw [h1]
 dsimp only
 obtain ⟨x, hx, hxc⟩ : ∃ x, cmdL[12]? = some x ∧ x.1 = -1 := ⟨_, rfl, rfl⟩
 rw [hx]
 dsimp only
 rw [if_neg (fun h => h.1 hxc), show runC noSes 12 [[114, 48, 120, 49], [99, 48]] = addF noSes [[114, 48, 120, 49], [99, 48]] from rfl, h3]
theorem ask_two (s : Ses) : ansF s (Lib.join [[120]] [32]) = (errT 3, s) := by
 unfold ansF
 rw [words_join [[120]] (by decide +kernel)]
 have h1 : idxN cmdW [120] = none := by decide +kernel
 unfold ansW
 dsimp only
 rw [h1]
theorem ask_tell : sesF askT = tellT := by
 have h1 : splitL (chopL askT) = [Lib.join askW [32], Lib.join [[120]] [32]] := by decide +kernel
 have h2 : errT 3 = [101, 114, 114, 111, 114, 32, 51] := by decide +kernel
 unfold sesF
 rw [if_neg (by decide), h1]
 unfold goL
 rw [List.foldl_cons, List.foldl_cons, List.foldl_nil]
 unfold stepL
 dsimp only
 rw [ask_one]
 dsimp only
 rw [ask_two, h2]
 rfl
theorem law_any (f s : List UInt8) (w0 : World) (hG : TxG w0) (hM : MaxOk w0) (hK : KnOk w0) (h64 : f.length + s.length ≤ 9223372036854775807) :
  Cq 3 #[strV f, strV s] w0 fun e w' => e = .returned (.bool true) ∧ Below w0.heap.size w0 w' := by
 have hI := Inv.start (fun _ => False) w0
 refine Vm func3 Z (Wq (Vc Z (Wn ?_)))
 by_cases hbig : 1200 < f.length + s.length
 ·exact Ws (Wq (Ta Z (Wv Z (rStrLen Z yy9 Z) (Ta Z (Wv Z (rStrLen Z yy9 Z) (Wv Z (by exact rAdd rfl rfl rfl (by omega)) (U6 Z (Yt Z (Wq (Vc Z (Wn (WR (r1_ 4 Z ⟨Z, hI.pu⟩)))))))))))))
 refine Ws (Wq (Ta Z (Wv Z (rStrLen Z yy9 Z) (Ta Z (Wv Z (rStrLen Z yy9 Z) (Wv Z (by exact rAdd rfl rfl rfl (by omega)) (U3 Z (Yf Z (Wk ?_)))))))))
 have hask := session_any askT (by decide)
 rw [ask_tell] at hask
 refine Ws (Wq (Vd [.string _] Z func4 Z ((hask _ (hG.pure hI.pu) (hM.pure hI.pu) (hK.pure hI.pu)).mono (okP hI fun w1 hp1 hI => Wv Z (rStrNeF (l := tellT) (m := tellT) Z Z Z Z) (Yf Z (Wk ?_))))))
 obtain ⟨r, hr⟩ := ses_pre f s (by omega)
 have hs1 := session_any (f ++ [10]) (by simp; omega)
 have hs2 := session_any (f ++ [10] ++ s) (by simp; omega)
 rw [hr] at hs2
 generalize sesF (f ++ [10]) = a at hs1 hs2
 refine Wq (Ta Z (Wv Z (rStrAdd Z Z Z (by (simp only [List.length_append, List.length_cons, List.length_nil]; omega))) (Vd [.string _] Z func4 Z ((hs1 _ (hG.pure hI.pu) (hM.pure hI.pu) (hK.pure hI.pu)).mono (okP hI fun w1 hp1 hI => T5 Z (Wn (Wq (Ta Z (Wv Z (rStrAdd Z Z Z (by (simp only [List.length_append, List.length_cons, List.length_nil]; omega))) (Ta Z (Wv Z (rStrAdd Z Z Z (by (simp only [List.length_append, List.length_cons, List.length_nil]; omega))) (Vd [.string _] Z func4 Z ((hs2 _ (hG.pure hI.pu) (hM.pure hI.pu) (hK.pure hI.pu)).mono (okP hI fun w1 hp1 hI => T5 Z (Wn ?_)))))))))))))))
 have hle : a.length ≤ (a ++ r).length := by simp
 have htk : (a ++ r).take a.length = a := by simp
 exact Wq (Ta Z (Wv Z (rStrLen Z yy9 Z) (Ta Z (Wv Z (rStrLen Z yy9 Z) (Wv Z (rLeqT Z Z Z (by omega)) (V7 Z (Ta Z (Ta Z (Wv Z (rStrLen Z yy9 Z) (Wv Z (rStrSlTo (l := a ++ r) (b := a.length) Z yy9 Z Z hle) (Ta Z (Wv Z (rStrEqT Z Z Z htk) (Vk Z (Vc Z (Wn (WR (r1_ 4 Z ⟨Z, hI.pu⟩)))))))))))))))))
end Go.Proofs.YtnckdmogdehnoaaGreatDoor
