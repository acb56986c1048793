/- FarmBack. -/
import Derived.Test.YtlkobbighkiojaaGreatDoorPA
import Derived.Test.YtlkobbighkiojaaGreatDoorPBak9
import Derived.Test.YtlkobbighkiojaaGreatDoorPStoB
import Derived.Test.YtlkobbighkiojaaGreatDoorPEvo2
import Derived.Test.YtlkobbighkiojaaGreatDoorProg
import Derived.Tactics
import Derived.Tactics2
import Derived.Defers
import Derived.Laws.Pointers
import Derived.Laws.LoneSync
import Derived.RegionTactic
import Derived.RegionCalls
import Derived.ChangeAlike
import Derived.Test.YtlkobbighkiojaaGreatDoorPSxI
import Derived.Shelf.Strings.FieldsFuncAny
set_option maxHeartbeats 8000000
set_option linter.unusedVariables false
set_option linter.unusedSimpArgs false
namespace Go.Proofs.YtlkobbighkiojaaGreatDoor
open Tryz
open Go.RowKit
theorem lookup_nil (R : Nat) (w0 : World) (tb : Value) (hN : NdAt w0 R [] 0 [] none tb) :
  Cq 269 #[at0 R, strV [], .bool false] w0 fun e w' => e = .returned (.tuple #[strV [], .int .i64 0, .bool false]) ∧ Pure w0 w' := by
 have hI := Inv.start (fun _ => False) w0
 have c1 := hN.pri
 refine Vn func269 rfl ?_
 refine Wq (T4 rfl (Vc rfl (V8 rfl (Wn (Wq (Vc rfl (Wn (Wq (V9 rfl (Vb rfl ?_))))))))))
 refine V7 0 rfl (Tm rfl (Wn (Wq (Vc rfl (Wn ?_)))))
 refine Wx (fun ρ w => Has ρ [(6, strV []), (7, .int .i64 0), (8, .bool false)] ∧ Inv NF w0 w []) ?_ ?_
 ·refine Wb ?_
  refine Wl (fun mu ρ w => Has ρ [(11, .int .i64 0), (10, at0 R), (9, .int .i64 0), (8, .bool false), (7, .int .i64 0), (6, strV []), (2, .bool false), (1, strV []), (0, at0 R)] ∧ Inv NF w0 w []) 0 ⟨⟨rfl, rfl, rfl, rfl, rfl, rfl, rfl, rfl, rfl, trivial⟩, hI⟩ ?_
  clear hI
  rintro mu ρ w ⟨hH, hI⟩
  obtain ⟨σ, rfl⟩ := hH.open
  refine Ws (Wq (V9 rfl ?_))
  refine Wv rfl (rPtrNe rfl yy346 rfl rfl) ?_
  refine Wn (Wc true rfl (Wk (Wb (Ws (Wq (V9 rfl (Vb rfl (V7 1 rfl (V5 (.int .i64 _) rfl (hI.oldp c1) (V0 rfl (Tc rfl (V6 rfl ?_))))))))))))
  refine V4 rfl (V4 rfl (V4 rfl (V4 rfl (V4 rfl (V4 rfl (V4 rfl (V4 rfl (V4 rfl (Ve rfl (Wn (Wc false rfl (Wk (Ws ?_)))))))))))))
  refine Wq (Vh rfl (Uj rfl (Wn (Wc true rfl ?_))))
  refine WE ?_
  exact ⟨⟨rfl, rfl, rfl, trivial⟩, hI⟩
 clear hI
 rintro ρ w ⟨hH, hI⟩
 obtain ⟨σ, rfl⟩ := hH.open
 refine WR ?_
 exact ret3 6 7 8 (.inr rfl) rfl ⟨rfl, hI.pu⟩
section
variable {S : Nat → Prop} {w0 w : World} {H : List Ent}
theorem aws_any (p : Nat) (l s : List UInt8) (hl : l.length + s.length ≤ 1000000) (A : Option Addr) (c : Nat) (hI : Inv S w0 w (B p 406 #[.slice A l.length c] :: Win 5 1 A l.length c (bytesL l) :: H)) :
  Cq 290 #[at0 p, strV s] w fun e w' => e = .returned (.tuple #[.int .i64 (s.length : Int), .nilIface]) ∧ ∃ A' c', Inv S w0 w' (B p 406 #[.slice A' (l ++ s).length c'] :: Win 5 1 A' (l ++ s).length c' (bytesL (l ++ s)) :: H) := by
 refine Vn func290 rfl ?_
 refine Wq (Vc rfl (Vj rfl (Wn (Wq (V9 rfl (V9 rfl (Vb rfl (V5 (.slice _ _ _) rfl (hI.c0 rfl) (Vh rfl ?_)))))))))
 have hI := hI.perm (List.Perm.swap _ _ _)
 refine WL_appW (z := .int .u8 0) (by_ := 1) _ hI rfl rfl rfl rfl rfl rfl underlying406 (by kernel_rfl) rfl (by omega) (src_str yy9 s) (by omega) (by omega) ?_
 rintro A' c' w hc1 hc2 hI
 have hI := hI.perm (List.Perm.swap _ _ _)
 refine Vb rfl ?_
 refine WL_st0 (u := .slice _ _ _) (j := 0) hI rfl rfl rfl rfl rfl rfl (by kernel_rfl) rfl rfl rfl ?_
 intro w hI
 refine Wn (Wq (Vh rfl (T0 rfl yy9 rfl (Vc rfl (Vj rfl (Wn ?_))))))
 refine WR ?_
 refine r2_ 4 5 rfl ⟨rfl, A', c', ?_⟩
 rw [List.length_append, show bytesL (l ++ s) = bytesL l ++ bytesL s from List.map_append]
 exact hI
theorem gsw_any (p : Nat) (w0 : World) : Cq 268 #[.iface 407 (at0 p)] w0 fun e w' => e = .returned (.iface 407 (at0 p)) ∧ Pure w0 w' := by
 have hI := Inv.start (fun _ => False) w0
 refine Vn func268 rfl ?_
 refine Wq (Vj rfl (Wn (Wq (Vy rfl ?_))))
 refine Wv rfl (rTA (r := .tuple #[.iface 407 (at0 p), .bool true]) rfl rfl (by kernel_rfl)) ?_
 refine Vz rfl (Vg rfl (Vg rfl (Vp rfl (V8 rfl (Wn (Ws (Wq (V6 rfl (T9 rfl (Wn (Wc false rfl (Wk ?_))))))))))))
 refine Wq (Vy rfl (Vp rfl (Wn ?_)))
 exact WR (r1_ 2 rfl ⟨rfl, hI.pu⟩)
end
structure GenAt (w : World) (R : Nat) : Prop where
 rep : RepAt w R
 go : ∃ tb a, NdAt w R [] 0 [] none (sl12 tb) ∧ w.cell? ⟨tb, 1, none⟩ = some (at0 a) ∧ ∀ i, i < 12 → i ≠ 1 → w.cell? ⟨tb, i, none⟩ = some nilP
 lk : ∀ (b : UInt8) (s : List UInt8), spI b.toNat < 5 → ∃ d, 0 < d ∧ LkP w d R (escB b ++ s) [b] (escB b).length
theorem GenAt.pure {w w' : World} {R : Nat} (h : GenAt w R) (hp : Pure w w') : GenAt w' R := by
 have hI := (Inv.start (fun _ => False) w).pure hp
 have hN : ∀ {n v p pre nx tb}, NdAt w n v p pre nx tb → NdAt w' n v p pre nx tb := fun h => ⟨hI.oldp h.val, hI.oldp h.pri, hI.oldp h.pre, hI.oldp h.nxt, hI.oldp h.tab⟩
 have hL : ∀ {d n s v k}, LkP w d n s v k → LkP w' d n s v k := fun h => by
  induction h with
  | leaf hp hn => exact .leaf hp (hN hn)
  | tab hn hc hcell _ ih => exact .tab (hN hn) hc (hI.oldp hcell) ih
  | pre hn _ ih => exact .pre (hN hn) ih
 obtain ⟨tb, a, h1, h2, h3⟩ := h.go
 exact ⟨⟨hI.oldp h.rep.sz, fun b => hI.oldp (h.rep.mp b)⟩, ⟨tb, a, hN h1, hI.oldp h2, fun i hi hne => hI.oldp (h3 i hi hne)⟩, fun b s hb => by
  obtain ⟨d, hd, hk⟩ := h.lk b s hb
  exact ⟨d, hd, hL hk⟩⟩
theorem mpF_1 : ∀ n : Nat, n < 256 → (mpF (UInt8.ofNat n) = 1 → n = 38) := by decide +kernel
def eP (t : List UInt8) (k : Nat) : Nat := (escF (t.take k)).length
def iP (t : List UInt8) (k : Nat) : Nat := if k ≤ t.length then eP t k else (escF t).length + 1
theorem iP_le {t : List UInt8} {k : Nat} (h : k ≤ t.length) : iP t k = eP t k := if_pos h
theorem iP_end {t : List UInt8} : iP t (t.length + 1) = (escF t).length + 1 := if_neg (by omega)
theorem eP_all (t : List UInt8) : eP t t.length = (escF t).length := by unfold eP; rw [List.take_length]
theorem eP_le (t : List UInt8) (k : Nat) : eP t k ≤ (escF t).length := escF_take_le t k
theorem eP_next {t : List UInt8} {k : Nat} {b : UInt8} (h : t[k]? = some b) : eP t (k + 1) = eP t k + (escB b).length := by
 unfold eP
 rw [take_at h, escF_app, List.length_append, show escF [b] = escB b by rw [escF_cons, escF_nil, List.append_nil]]
theorem escF_drop (t : List UInt8) (k : Nat) : (escF t).drop (eP t k) = escF (t.drop k) := by
 conv => lhs; rw [show escF t = escF (t.take k) ++ escF (t.drop k) by rw [← escF_app, List.take_append_drop]]
 unfold eP
 rw [List.drop_left]
theorem escF_at {t : List UInt8} {k : Nat} {b : UInt8} (h : t[k]? = some b) : (escF t).drop (eP t k) = escB b ++ escF (t.drop (k + 1)) := by
 obtain ⟨hk, rfl⟩ := List.getElem?_eq_some_iff.1 h
 rw [escF_drop, List.drop_eq_getElem_cons hk]; rfl
theorem escF_mid {t : List UInt8} {la k : Nat} (h : la ≤ k) (hk : k ≤ t.length) (hp : ∀ j b, la ≤ j → j < k → t[j]? = some b → ¬ spI b.toNat < 5) : ((escF t).drop (eP t la)).take (eP t k - eP t la) = (t.drop la).take (k - la) ∧ eP t la ≤ eP t k ∧ t.take k = t.take la ++ (t.drop la).take (k - la) := by
 have e1 : t.take k = t.take la ++ (t.drop la).take (k - la) := by
  conv => lhs; rw [show k = la + (k - la) by omega, List.take_add]
 have e2 : escF ((t.drop la).take (k - la)) = (t.drop la).take (k - la) := escF_plain2 _ fun b hb => by
  obtain ⟨j, hj⟩ := List.getElem?_of_mem hb
  have hj' : j < k - la := by
   have := (List.getElem?_eq_some_iff.1 hj).1
   rw [List.length_take] at this
   omega
  rw [List.getElem?_take_of_lt hj', List.getElem?_drop] at hj
  exact hp (la + j) b (by omega) (by omega) hj
 have e3 : eP t k = eP t la + ((t.drop la).take (k - la)).length := by
  unfold eP
  rw [e1, escF_app, List.length_append, e2]
 refine ⟨?_, by omega, e1⟩
 have e5 := escF_app ((t.drop la).take (k - la)) ((t.drop la).drop (k - la))
 rw [List.take_append_drop, e2] at e5
 rw [escF_drop, e3, Nat.add_sub_cancel_left, e5, List.take_left]
theorem esc_38 {b : UInt8} (h : spI b.toNat < 5) : (escB b)[0]? = some 38 := by
 have : ∀ n : Nat, n < 256 → spI n < 5 → (escB (UInt8.ofNat n))[0]? = some 38 := by decide +kernel
 have h1 := this b.toNat b.toNat_lt h
 rwa [UInt8.ofNat_toNat] at h1
theorem rBytesNil {P : Program} {ρ : Env} {o : Oper} {w : World} {x : Operand} {src dst e : TypeId} {c : Nat} (ho : o.op = .convert src dst x) (hs : P.underlying src = some (.slice e)) (he : P.underlying e = some (.int .u8)) (hd : P.underlying dst = some .string) (hx : ev ρ x = .slice none 0 c) : Runs P ρ o w (strV []) := by
 have h : (Conv.bytesToString (.slice none 0 c)).run P w = .ok (strV []) w := by rfl
 simp [Runs, execOp, ho, hx, convert, run_underlying hs, run_underlying he, run_underlying hd, h]
theorem mpF_le (b : UInt8) : mpF b ≤ 12 := by
 unfold mpF
 repeat' split
 all_goals omega
theorem mpF_pl {b : UInt8} (h : ¬ spI b.toNat < 5) : mpF b ≠ 1 := fun e => by
 have h1 := mpF_1 b.toNat b.toNat_lt (by rw [UInt8.ofNat_toNat]; exact e)
 rw [h1] at h
 exact h (by decide)
section
variable {S : Nat → Prop} {w0 w : World} {H : List Ent}
set_option maxRecDepth 4000 in
theorem gws_any (R p : Nat) (t : List UInt8) (ht : t.length ≤ 1000) (hSR : ∀ w' X, Inv S w0 w' (X ++ H) → GenAt w' R) (A : Option Addr) (c : Nat) (hI : Inv S w0 w (B p 406 #[.slice A 0 c] :: Win 5 1 A 0 c [] :: H)) :
  Cq 267 #[at0 R, .iface 407 (at0 p), strV (escF t)] w fun e w' => (∃ v, e = .returned v) ∧ ∃ A' c', Inv S w0 w' (B p 406 #[.slice A' t.length c'] :: Win 5 1 A' t.length c' (bytesL t) :: H) := by
 have hle := escF_len t
 refine Vn func267 rfl ?_
 refine Wq (Vc rfl (Vj rfl (Wn (Wq (Vy rfl (Va [_] rfl func268 rfl ?_))))))
 refine (gsw_any p _).mono (okP hI fun w1 hp hI => ?_)
 refine Vp rfl (Wn (Wq (Vc rfl (Vc rfl (Wn (Wq (V8 rfl (Wn ?_))))))))
 refine Wx (fun ρ w => ∃ (la : Nat) (A : Option Addr) (c : Nat) (z : Int), la ≤ t.length ∧ (∀ j b, la ≤ j → t[j]? = some b → ¬ spI b.toNat < 5) ∧ Has ρ [(9, .int .i64 (eP t la : Int)), (8, .iface 407 (at0 p)), (7, .nilIface), (6, .int .i64 z), (2, strV (escF t))] ∧ Inv S w0 w (B p 406 #[.slice A la c] :: Win 5 1 A la c (bytesL (t.take la)) :: H)) ?_ ?_
 ·refine Wq (Vc rfl (Wn (Wb ?_)))
  refine Wl (fun mu ρ w => ∃ (k la : Nat) (A : Option Addr) (c : Nat) (z wn : Int), mu = t.length + 1 - k ∧ k ≤ t.length + 1 ∧ la ≤ k ∧ la ≤ t.length ∧ (∀ j b, la ≤ j → j < k → t[j]? = some b → ¬ spI b.toNat < 5) ∧ Has ρ [(12, .int .i64 (iP t k : Int)), (11, .bool false), (10, .int .i64 wn), (9, .int .i64 (eP t la : Int)), (8, .iface 407 (at0 p)), (7, .nilIface), (6, .int .i64 z), (2, strV (escF t)), (0, at0 R)] ∧ Inv S w0 w (B p 406 #[.slice A la c] :: Win 5 1 A la c (bytesL (t.take la)) :: H)) (t.length + 1)
   ⟨0, 0, A, c, 0, 0, by omega, by omega, by omega, by omega, fun j b h1 h2 => by omega, ⟨rfl, rfl, rfl, rfl, rfl, rfl, rfl, rfl, rfl, trivial⟩, hI⟩ ?_
  clear hI
  rintro mu ρ w ⟨k, la, A, c, z, wn, rfl, hk, hlk, hla, hpl, hH, hI⟩
  obtain ⟨σ, rfl⟩ := hH.open
  have hG : ∀ w' X, Inv S w0 w' (X ++ H) → GenAt w' R := hSR
  by_cases hkt : k = t.length + 1
  ·subst hkt
   rw [iP_end]
   refine Ws (Wq (V0 rfl (Vh rfl (T0 rfl yy9 rfl ?_))))
   refine Wv rfl (by exact rLeqF rfl rfl rfl (by omega)) ?_
   refine Wn (Wc false rfl ?_)
   refine WE ?_
   exact ⟨la, A, c, z, hla, fun j b h1 h2 => hpl j b h1 (by have := (List.getElem?_eq_some_iff.1 h2).1; omega) h2, ⟨rfl, rfl, rfl, rfl, rfl, trivial⟩, hI⟩
  have hkl : k ≤ t.length := by omega
  have hie := iP_le hkl
  have hel := eP_le t k
  rw [hie]
  by_cases hke : k = t.length
  ·subst hke
   have hee := eP_all t
   refine Ws (Wq (V0 rfl (Vh rfl (T0 rfl yy9 rfl (Up rfl (Wn (Wc true rfl (Wk (Wb (Ws (Ws (Wr ?_))))))))))))
   refine V0 rfl (Vh rfl (T0 rfl yy9 rfl (U2 rfl (V6 rfl (V4 rfl (V4 rfl (V4 rfl (V4 rfl (V4 rfl (V4 rfl (Ve rfl (Wn (Wc false rfl ?_)))))))))))))
   refine Wk ?_
   have hnil : (escF t).drop (eP t t.length) = [] := by rw [hee, List.drop_length]
   refine Wq (V9 rfl (Vh rfl (V0 rfl ?_)))
   refine Wv rfl (rStrSlFrom (a := eP t t.length) rfl yy9 rfl rfl (by omega)) ?_
   refine V6 rfl (Va [.pointer _, .string _, .bool _] rfl func269 rfl ?_)
   rw [hnil]
   obtain ⟨tb, a, hN, ha, hnl⟩ := (hSR _ [_, _] hI).go
   refine (lookup_nil R _ _ hN).mono (okP hI fun w1 hp hI => ?_)
   refine Vz rfl (Vg rfl (Vg rfl (Vg rfl (T4 rfl (Vc rfl (V8 rfl (Wn (Wq (V6 rfl (V6 rfl (V4 rfl (V4 rfl ?_))))))))))))
   refine Ve rfl (V8 rfl (Wn (Ws (Wq (V6 rfl (Wn (Wc false rfl (Wk (Wr (V0 rfl (Vv rfl (Vc rfl ?_))))))))))))
   refine Wn ?_
   exact ⟨t.length + 1 - (t.length + 1), by omega, t.length + 1, la, A, c, z, _, rfl, by omega, by omega, hla, fun j b h1 h2 h3 => hpl j b h1 (by have := (List.getElem?_eq_some_iff.1 h3).1; omega) h3, ⟨by rw [iP_end, ← hee]; rfl, rfl, rfl, rfl, rfl, rfl, rfl, rfl, rfl, trivial⟩, hI⟩
  have hkl' : k < t.length := by omega
  obtain ⟨b, hb⟩ : ∃ b, t[k]? = some b := ⟨_, List.getElem?_eq_getElem hkl'⟩
  have hat := escF_at hb
  have hEn := eP_next hb
  have hEl := eP_le t (k + 1)
  have hlb := escB_len b
  have hin : iP t (k + 1) = eP t (k + 1) := iP_le hkl'
  refine Ws (Wq (V0 rfl (Vh rfl (T0 rfl yy9 rfl (Up rfl (Wn (Wc true rfl (Wk (Wb ?_)))))))))
  obtain ⟨tb, a, hN, ha, hnl⟩ := (hSR _ [_, _] hI).go
  refine Ws (Wq (V0 rfl (Vh rfl (T0 rfl yy9 rfl (U1 rfl (V6 rfl (V9 rfl (Vb rfl (V7 0 rfl (V7 1 rfl (V5 (.int .i64 _) rfl hN.pri (T5 rfl ?_))))))))))))
  refine Vk rfl (Wn (Wc true rfl ?_))
  by_cases hsp : spI b.toNat < 5
  rotate_left
  ·have hx : (escF t)[eP t k]? = some b := by
    have := congrArg (·[0]?) hat
    simp only [List.getElem?_drop, Nat.add_zero, esc_pl hsp] at this
    exact this
   have hm := mpF_le b
   have hm1 := mpF_pl hsp
   rw [esc_pl hsp] at hEn
   simp only [List.length_cons, List.length_nil] at hEn
   refine Ws (Wd (by kernel_rfl) ?_)
   refine Wi (T := []) hI.drew ?_
   intro Sx hY hZ
   have hI := hI.drew
   refine Vl 0 rfl (U6 1 rfl (Vx 2 rfl ?_))
   refine Wt 3 rfl (fun W hW => have hI := hY W hW; (rStrAt (c := b) (i := eP t k) rfl yy9 rfl rfl hx)) ?_
   refine Vm 4 rfl (Vf 5 6 rfl ?_)
   refine Wt 6 rfl (fun W hW => have hI := hY W hW; (rIdxAj (i := b.toNat) rfl yy156 (by kernel_rfl) rfl rfl rfl b.toNat_lt)) ?_
   refine Vd 7 (.int .u8 _) rfl (fun W hW => have hI := hY W hW; (hSR _ [_, _] hI).rep.mp b) ?_
   refine Wt 8 rfl (fun W hW => have hI := hY W hW; (rConv_i64 rfl yy5 yy3 rfl (by omega))) ?_
   refine Ty 9 rfl (We (by kernel_rfl) ?_)
   obtain ⟨tb, a, hN, ha, hnl⟩ := (hSR _ [_, _] hI).go
   have hsz := (hSR _ [_, _] hI).rep.sz
   by_cases h12 : mpF b = 12
   ·refine Wq (V0 rfl (V9 rfl (Vb rfl (V7 5 rfl (V5 (.int .i64 _) rfl hsz (T5 rfl (V6 rfl (V4 rfl (V4 rfl (V4 rfl (V4 rfl (V4 rfl ?_))))))))))))
    refine V4 rfl (V4 rfl (V4 rfl (V4 rfl (Vk rfl (Wn (Wc true rfl (Wq (V0 rfl (Vv rfl (Vc rfl (Wn ?_)))))))))))
    refine WE ?_
    exact ⟨t.length + 1 - (k + 1), by omega, k + 1, la, A, c, z, _, rfl, by omega, by omega, hla, fun j x h1 h2 h3 => (by
     by_cases hjk : j < k
     ·exact hpl j x h1 hjk h3
     obtain rfl : j = k := by omega
     rw [hb] at h3
     rw [← Option.some.inj h3]; exact hsp), ⟨by rw [hin, hEn]; rfl, rfl, rfl, rfl, rfl, rfl, rfl, rfl, rfl, trivial⟩, hI⟩
   have hnl' := hnl (mpF b) (by omega) hm1
   refine Wq (V0 rfl (V9 rfl (Vb rfl (V7 5 rfl (V5 (.int .i64 _) rfl hsz (Vw rfl (V6 rfl (V9 rfl (Vb rfl (V7 0 rfl (V7 4 rfl (V5 (.slice _ _ _) rfl hN.tab ?_))))))))))))
   refine V0 rfl ?_
   refine Wv rfl (rIdxS0 (i := mpF b) rfl yy347 (by kernel_rfl) rfl rfl (by omega)) ?_
   refine V5 nilP rfl hnl' ?_
   refine Wv rfl (rPtrEqN rfl yy346 rfl rfl) ?_
   refine Ve rfl (Wn (Wc true rfl (Wq (V0 rfl (Vv rfl (Vc rfl (Wn ?_)))))))
   refine WE ?_
   exact ⟨t.length + 1 - (k + 1), by omega, k + 1, la, A, c, z, _, rfl, by omega, by omega, hla, fun j x h1 h2 h3 => (by
    by_cases hjk : j < k
    ·exact hpl j x h1 hjk h3
    obtain rfl : j = k := by omega
    rw [hb] at h3
    rw [← Option.some.inj h3]; exact hsp), ⟨by rw [hin, hEn]; rfl, rfl, rfl, rfl, rfl, rfl, rfl, rfl, rfl, trivial⟩, hI⟩
  obtain ⟨hsp1, hsp2⟩ := esc_sp hsp
  have hx : (escF t)[eP t k]? = some 38 := by
   have := congrArg (·[0]?) hat
   simp only [List.getElem?_drop, Nat.add_zero] at this
   rw [this, List.getElem?_append_left (by omega)]
   exact esc_38 hsp
  have hm : mpF 38 = 1 := by decide
  obtain ⟨hmid, hmle, htk⟩ := escF_mid hlk hkl hpl
  have htb : t.take (k + 1) = t.take k ++ [b] := take_at hb
  have hll : (t.take la).length = la := by rw [List.length_take]; omega
  have hlk2 : (t.take k).length = k := by rw [List.length_take]; omega
  refine Ws (Wd (by kernel_rfl) ?_)
  refine Wi (T := []) hI.drew ?_
  intro Sx hY hZ
  have hI := hI.drew
  refine Vl 0 rfl (U6 1 rfl (Vx 2 rfl ?_))
  refine Wt 3 rfl (fun W hW => have hI := hY W hW; (rStrAt (c := 38) (i := eP t k) rfl yy9 rfl rfl hx)) ?_
  refine Vm 4 rfl (Vf 5 6 rfl ?_)
  refine Wt 6 rfl (fun W hW => have hI := hY W hW; (rIdxAj (i := (38 : UInt8).toNat) rfl yy156 (by kernel_rfl) rfl rfl rfl (by decide))) ?_
  refine Vd 7 (.int .u8 _) rfl (fun W hW => have hI := hY W hW; (hSR _ [_, _] hI).rep.mp 38) ?_
  refine Wt 8 rfl (fun W hW => have hI := hY W hW; (rConv_i64 rfl yy5 yy3 rfl (by rw [hm]; decide))) ?_
  refine Ty 9 rfl (We (by kernel_rfl) ?_)
  obtain ⟨tb, a, hN, ha, hnl⟩ := (hSR _ [_, _] hI).go
  have hsz := (hSR _ [_, _] hI).rep.sz
  refine Wq (V0 rfl (V9 rfl (Vb rfl (V7 5 rfl (V5 (.int .i64 _) rfl hsz (Vw rfl (V6 rfl (V9 rfl (Vb rfl (V7 0 rfl (V7 4 rfl (V5 (.slice _ _ _) rfl hN.tab ?_))))))))))))
  refine V0 rfl ?_
  refine Wv rfl (rIdxS0 (i := mpF 38) rfl yy347 (by kernel_rfl) rfl rfl (by decide)) ?_
  refine V5 (at0 _) rfl ha ?_
  refine Wv rfl (rPtrEq rfl yy346 rfl rfl) ?_
  refine Ve rfl (Wn (Wc false rfl (Wk (Wq (V9 rfl (Vh rfl (V0 rfl ?_)))))))
  refine Wv rfl (rStrSlFrom (a := eP t k) rfl yy9 rfl rfl (by omega)) ?_
  refine V6 rfl (Va [.pointer _, .string _, .bool _] rfl func269 rfl ?_)
  rw [hat]
  obtain ⟨d, hd, hL⟩ := (hSR _ [_, _] hI).lk b (escF (t.drop (k + 1))) hsp
  refine (lookup_any R _ [b] d _ _ (hSR _ [_, _] hI).rep (by rw [← hat, List.length_drop]; omega) hd hL).mono (okP hI fun w1 hp hI => ?_)
  refine Vz rfl (Vg rfl (Vg rfl (Vg rfl (T4 rfl (Vc rfl (V8 rfl (Wn (Wq (V6 rfl (V6 rfl (V0 rfl (Vw rfl ?_))))))))))))
  refine Vk rfl (V8 rfl (Wn (Ws (Wq (V6 rfl (Wn (Wc true rfl ?_)))))))
  refine Wx (fun ρ w => ∃ (A : Option Addr) (c : Nat), Has ρ [(15, .int .i64 ((escB b).length : Int)), (14, strV [b]), (12, .int .i64 (eP t k : Int)), (11, .bool false), (10, .int .i64 (((t.drop la).take (k - la)).length : Int)), (8, .iface 407 (at0 p)), (7, .nilIface), (6, .int .i64 z), (2, strV (escF t)), (0, at0 R)] ∧ Inv S w0 w (B p 406 #[.slice A k c] :: Win 5 1 A k c (bytesL (t.take k)) :: H)) ?_ ?_
  ·skip
   refine Wd (by kernel_rfl) ?_
   refine Wi (T := [8]) hI.drew ?_
   intro Sx hY hZ
   have hI := hI.drew
   refine Wt 0 rfl (fun W hW => have hI := hY W hW; (by exact rMoveE rfl rfl)) ?_
   refine U6 1 rfl (Vx 2 rfl (Vx 3 rfl ?_))
   refine Wt 4 rfl (fun W hW => have hI := hY W hW; (rStrSl rfl yy9 rfl rfl rfl (by omega) (by omega))) ?_
   refine Wt 5 rfl (fun W hW => have hI := hY W hW; (rFunc (l := [.iface 407 (at0 p)]) (m := []) rfl rfl rfl)) ?_
   refine Wt 6 rfl (fun W hW => have hI := hY W hW; ((show Runs _ _ _ _ (.func (.method "WriteString") #[.iface 407 (at0 p)] #[]) from by unfold Runs; kernel_rfl))) ?_
   refine Wt 7 rfl (fun W hW => have hI := hY W hW; (by exact rMoveE rfl rfl)) ?_
   refine WT_A (by kernel_rfl) ?_
   clear hZ hY
   refine T2 8 rfl ?_
   refine WL_call rfl rfl rfl (rCallI (f := 290) (vs := [.string _]) rfl rfl rfl (fun _ => by kernel_rfl)) ?_
   rw [hmid]
   refine (aws_any p (t.take la) ((t.drop la).take (k - la)) (by rw [hll, List.length_take, List.length_drop]; omega) A c (by rw [hll]; exact hI)).mono ?_
   rintro e w1 ⟨rfl, A1, c1, hI1⟩
   refine rV ?_
   rw [← htk, hlk2] at hI1
   clear hI
   have hI := hI1
   clear hI1
   refine Wn (T2 9 rfl ?_)
   refine Vz rfl (Wn ?_)
   refine WA_T (fun _ => True) [] ?_
   refine WT_two 10 11 rfl rfl (by kernel_rfl) rfl rfl ?_ ?_
   ·refine Vg rfl ?_
    refine Wn ⟨trivial, ?_⟩
    refine Wt 11 rfl (hS := trivial) (fun W _ => (rExtr rfl rfl rfl)) ?_
    refine Wt 12 rfl (hS := trivial) (fun W _ => (by exact rAsgnI rfl rfl)) ?_
    refine Wt 13 rfl (hS := trivial) (fun W _ => (by exact rAsgnN rfl rfl)) ?_
    refine We (by kernel_rfl) ?_
    exact ⟨_, _, ⟨rfl, rfl, rfl, rfl, rfl, rfl, rfl, rfl, rfl, rfl, trivial⟩, hI⟩
   refine Vg rfl ?_
   refine Wn ⟨trivial, ?_⟩
   refine Wt 10 rfl (hS := trivial) (fun W _ => (rExtr rfl rfl rfl)) ?_
   refine Wt 12 rfl (hS := trivial) (fun W _ => (by exact rAsgnI rfl rfl)) ?_
   refine Wt 13 rfl (hS := trivial) (fun W _ => (by exact rAsgnN rfl rfl)) ?_
   refine We (by kernel_rfl) ?_
   exact ⟨_, _, ⟨rfl, rfl, rfl, rfl, rfl, rfl, rfl, rfl, rfl, rfl, trivial⟩, hI⟩
  clear hI
  rintro ρ w ⟨A, c, hH, hI⟩
  obtain ⟨σ, rfl⟩ := hH.open
  refine Wq (V0 rfl (V0 rfl ?_))
  refine Wv rfl (by exact rAddW rfl rfl rfl) ?_
  refine Vc rfl (Wn (Ws (Wq (T8 rfl (Te rfl yy34 rfl (Wn (Wc false rfl (Wk (Wq (Vy rfl (Vh rfl ?_)))))))))))
  refine WL_call rfl rfl rfl (rCallI (f := 290) (vs := [.string _]) rfl rfl rfl (fun _ => by kernel_rfl)) ?_
  refine (aws_any p (t.take k) [b] (by rw [hlk2]; simp only [List.length_cons, List.length_nil]; omega) A c (by rw [hlk2]; exact hI)).mono ?_
  rintro e w1 ⟨rfl, A1, c1, hI1⟩
  refine rV ?_
  rw [← htb, show (t.take (k + 1)).length = k + 1 by rw [List.length_take]; omega] at hI1
  clear hI
  have hI := hI1
  clear hI1
  refine Vz rfl (Vg rfl (Vg rfl (Vc rfl (Vj rfl (Wn (Wq (V0 rfl (V0 rfl ?_))))))))
  refine Wv rfl (by exact rAddW rfl rfl rfl) ?_
  refine Vc rfl (Wn (Ws (Wq (T8 rfl (Te rfl yy34 rfl (Wn (Wc false rfl (Wk (Wq (V0 rfl (V0 rfl ?_)))))))))))
  refine Wv rfl (rAddNN rfl rfl rfl (by omega)) ?_
  refine Vc rfl (Wn (Wq (V0 rfl (Vc rfl (Wn ?_)))))
  refine WE ?_
  exact ⟨t.length + 1 - (k + 1), by omega, k + 1, k + 1, _, _, _, _, rfl, by omega, by omega, by omega, fun j x h1 h2 => by omega, ⟨by rw [hin, hEn]; rfl, rfl, rfl, by rw [hEn]; rfl, rfl, rfl, rfl, rfl, rfl, trivial⟩, hI⟩
 clear hI
 rintro ρ w ⟨la, A, c, z, hla, hpl, hH, hI⟩
 obtain ⟨σ, rfl⟩ := hH.open
 have hel := eP_le t la
 have hee := eP_all t
 obtain ⟨hmid, hmle, htk⟩ := escF_mid hla (Nat.le_refl t.length) (fun j b h1 h2 h3 => hpl j b h1 h3)
 have hll : (t.take la).length = la := by rw [List.length_take]; omega
 rw [List.take_length] at htk
 by_cases hd : eP t la = (escF t).length
 ·refine Ws (Wq (V0 rfl (Vh rfl (T0 rfl yy9 rfl (U2 rfl (Wn (Wc false rfl (Wk ?_))))))))
  refine WR ?_
  have hz : (t.drop la).take (t.length - la) = [] := by
   rw [← hmid, hd, List.drop_length, List.take_nil]
  rw [hz, List.append_nil] at htk
  have hlt : la = t.length := by rw [← hll, ← htk]
  subst hlt
  rw [List.take_length] at hI
  exact r2_ 6 7 rfl ⟨⟨_, rfl⟩, _, _, hI⟩
 have hdr : (escF t).drop (eP t la) = (t.drop la).take (t.length - la) := by
  rw [← hmid, hee, List.take_of_length_le (by rw [List.length_drop]; exact Nat.le_refl _)]
 refine Ws (Wq (V0 rfl (Vh rfl (T0 rfl yy9 rfl (U1 rfl (Wn (Wc true rfl ?_)))))))
 refine Wx (fun ρ w => ∃ (A : Option Addr) (c : Nat) (wn : Int), Has ρ [(10, .int .i64 wn), (7, .nilIface), (6, .int .i64 z)] ∧ Inv S w0 w (B p 406 #[.slice A t.length c] :: Win 5 1 A t.length c (bytesL t) :: H)) ?_ ?_
 ·refine Wd (by kernel_rfl) ?_
  refine Wi (T := [7]) hI.drew ?_
  intro Sx hY hZ
  have hI := hI.drew
  refine Wt 0 rfl (fun W hW => have hI := hY W hW; (by exact rMoveE rfl rfl)) ?_
  refine U6 1 rfl (Vx 2 rfl ?_)
  refine Wt 3 rfl (fun W hW => have hI := hY W hW; (rStrSlFrom (a := eP t la) rfl yy9 rfl rfl (by omega))) ?_
  refine Wt 4 rfl (fun W hW => have hI := hY W hW; (rFunc (l := [.iface 407 (at0 p)]) (m := []) rfl rfl rfl)) ?_
  refine Wt 5 rfl (fun W hW => have hI := hY W hW; ((show Runs _ _ _ _ (.func (.method "WriteString") #[.iface 407 (at0 p)] #[]) from by unfold Runs; kernel_rfl))) ?_
  refine Wt 6 rfl (fun W hW => have hI := hY W hW; (by exact rMoveE rfl rfl)) ?_
  refine WT_A (by kernel_rfl) ?_
  clear hZ hY
  refine T2 7 rfl ?_
  refine WL_call rfl rfl rfl (rCallI (f := 290) (vs := [.string _]) rfl rfl rfl (fun _ => by kernel_rfl)) ?_
  rw [hdr]
  refine (aws_any p (t.take la) ((t.drop la).take (t.length - la)) (by rw [hll, List.length_take, List.length_drop]; omega) A c (by rw [hll]; exact hI)).mono ?_
  rintro e w1 ⟨rfl, A1, c1, hI1⟩
  refine rV ?_
  rw [← htk] at hI1
  clear hI
  have hI := hI1
  clear hI1
  refine Wn (T2 8 rfl ?_)
  refine Vz rfl (Wn ?_)
  refine WA_T (fun _ => True) [] ?_
  refine WT_two 9 10 rfl rfl (by kernel_rfl) rfl rfl ?_ ?_
  ·refine Vg rfl ?_
   refine Wn ⟨trivial, ?_⟩
   refine Wt 10 rfl (hS := trivial) (fun W _ => (rExtr rfl rfl rfl)) ?_
   refine Wt 11 rfl (hS := trivial) (fun W _ => (by exact rAsgnI rfl rfl)) ?_
   refine Wt 12 rfl (hS := trivial) (fun W _ => (by exact rAsgnN rfl rfl)) ?_
   refine We (by kernel_rfl) ?_
   exact ⟨_, _, _, ⟨rfl, rfl, rfl, trivial⟩, hI⟩
  refine Vg rfl ?_
  refine Wn ⟨trivial, ?_⟩
  refine Wt 9 rfl (hS := trivial) (fun W _ => (rExtr rfl rfl rfl)) ?_
  refine Wt 11 rfl (hS := trivial) (fun W _ => (by exact rAsgnI rfl rfl)) ?_
  refine Wt 12 rfl (hS := trivial) (fun W _ => (by exact rAsgnN rfl rfl)) ?_
  refine We (by kernel_rfl) ?_
  exact ⟨_, _, _, ⟨rfl, rfl, rfl, trivial⟩, hI⟩
 clear hI
 rintro ρ w ⟨A, c, wn, hH, hI⟩
 obtain ⟨σ, rfl⟩ := hH.open
 refine Wr (V0 rfl (V0 rfl ?_))
 refine Wv rfl (by exact rAddW rfl rfl rfl) ?_
 refine Vc rfl (Wn ?_)
 exact WR (r2_ 6 7 rfl ⟨⟨_, rfl⟩, _, _, hI⟩)
theorem grep_any (R : Nat) (t : List UInt8) (ht : t.length ≤ 1000) (w0 : World) (hG : GenAt w0 R) :
  Cq 266 #[at0 R, strV (escF t)] w0 fun e w' => e = .returned (strV t) ∧ Pure w0 w' := by
 have hI := Inv.start (fun _ => False) w0
 have hle := escF_len t
 refine Vn func266 rfl ?_
 refine Wq (T4 rfl (Wn (Wq (Vh rfl (T0 rfl yy9 rfl ?_)))))
 refine WL_mkRoom (z := .int .u8 0) (by_ := 1) (m := (escF t).length) hI rfl rfl rfl rfl rfl rfl underlying406 (by kernel_rfl) rfl (by omega) (by omega) ?_
 rintro tr w - - hI
 refine T1 (.slice none 0 0) (#[.slice none 0 0]) hI rfl ?_
 rintro b5 w - - hI
 refine T7 1 (#[.slice (some ⟨tr, 0, none⟩) 0 (escF t).length]) (.slice (some ⟨tr, 0, none⟩) 0 (escF t).length) hI rfl ?_
 intro w hI
 refine Wn (Wq (V9 rfl (T6 rfl underlying407 rfl (Vh rfl (Va [.pointer _, _, .string _] rfl func267 rfl ?_)))))
 refine (gws_any R _ t ht (fun w' X h => hG.pure h.pu) _ _ hI).mono ?_
 rintro e w1 ⟨⟨v, rfl⟩, A', c', hI1⟩
 refine rV ?_
 clear hI
 have hI := hI1
 clear hI1
 refine Wn ?_
 have hW := (hI.ok (Win 5 1 A' t.length c' (bytesL t)) (by simp)).1
 obtain ⟨-, hnc, -, hA⟩ := hW
 rcases hA with ⟨rfl, hc0⟩ | ⟨g, o, cur, rfl, hb, -, hcur⟩
 ·have hnil : t = [] := List.eq_nil_of_length_eq_zero (by omega)
  subst hnil
  refine Wq (V5 (.slice _ _ _) rfl (hI.c0 rfl) ?_)
  refine Wv rfl (rBytesNil rfl underlying406 yy5 yy9 rfl) ?_
  refine T4 rfl (Wn ?_)
  exact WR (r1_ 4 rfl ⟨rfl, hI.pu⟩)
 refine Wq (V5 (.slice _ _ _) rfl (hI.c0 rfl) ?_)
 refine Wv rfl (rBytesStrL t rfl underlying406 yy5 yy9 rfl rfl (fun j b hb' => by rw [hb.cell]; exact hcur j _ (by unfold bytesL; rw [List.getElem?_map, hb']; rfl))) ?_
 refine T4 rfl (Wn ?_)
 exact WR (r1_ 4 rfl ⟨rfl, hI.pu⟩)
end
theorem bufA_zero (s : List UInt8) : bufA s 0 (escF s).length = rep (.int .u8 0) (escF s).length := by
 unfold bufA rep
 rw [List.take_zero, escF_nil]
 simp [bytesL]
theorem bufA_full {s : List UInt8} {j : Nat} {b : UInt8} (h : (escF s)[j]? = some b) : (bufA s s.length (escF s).length)[j]? = some (.int .u8 (b.toNat : Int)) := by
 unfold bufA
 rw [List.take_length, Nat.sub_self, List.replicate_zero, List.append_nil, List.getElem?_toArray]
 unfold bytesL
 rw [List.getElem?_map, h]; rfl
theorem bufA_next1 {s : List UInt8} {i : Nat} {b : UInt8} (h : s[i]? = some b) (hsp : ¬ spI b.toNat < 5) : (bufA s i (escF s).length).setIfInBounds (escF (s.take i)).length (.int .u8 (b.toNat : Int)) = bufA s (i + 1) (escF s).length := by
 have := bufA_next h
 rw [esc_pl hsp] at this
 exact this
theorem src_row {w : World} {g : Nat} {l : List UInt8} (h : ∀ (i : Nat) (c : UInt8), l[i]? = some c → w.cell? ⟨g, i, none⟩ = some (.int .u8 (c.toNat : Int))) (j : Nat) (v : Value) (hj : (bytesL l)[j]? = some v) : w.cell? ((⟨g, 0, none⟩ : Addr).add j) = some v := by
 rw [Addr.add_lit, Nat.zero_add]
 unfold bytesL at hj
 rw [List.getElem?_map] at hj
 cases hc : l[j]? with
 | none => rw [hc] at hj; cases hj
 | some c =>
  rw [hc] at hj
  obtain rfl := Option.some.inj hj
  exact h j c hc
theorem bytes_one {l : List UInt8} {v : Value} (h : v ∈ bytesL l) : v.oneCell' = true := by
 obtain ⟨c, _, rfl⟩ := List.mem_map.1 h
 rfl
theorem sumA_mono (s : List UInt8) {a b : Nat} (h : a ≤ b) : sumA s a ≤ sumA s b := by
 induction h with
 | refl => exact Nat.le_refl _
 | step _ ih => rw [sumA]; omega
set_option maxRecDepth 4000 in
theorem brep_any (rb : Nat) (s : List UInt8) (hs : s.length ≤ 1000) (w0 : World) (hB : BsrAt w0 rb) :
  Cq 272 #[.pointer (some ⟨rb, 0, none⟩), strV s] w0 fun e w' => e = .returned (strV (escF s)) ∧ Pure w0 w' := by
 obtain ⟨G, C, g, o, ct, hT, hTr, hS, hC⟩ := hB.go
 have hI := Inv.start (fun _ => False) w0
 have hle := (escF_len s).2
 refine Vn func272 rfl ?_
 refine Wq (T4 rfl (Wn (Wq (Vh rfl (T0 rfl yy9 rfl (Vc rfl (Wn (Wq (V8 rfl (Wn ?_))))))))))
 refine Wx (fun ρ w => ∃ any : Bool, (any = false → escF s = s) ∧ Has ρ [(6, .bool any), (5, .int .i64 ((escF s).length : Int)), (1, strV s), (0, .pointer (some ⟨rb, 0, none⟩))] ∧ Inv NF w0 w []) ?_ ?_
 ·by_cases h40 : 40 ≤ s.length
  ·refine Wq (V9 rfl (Vb rfl (V7 256 rfl (V5 (.slice _ _ _) rfl (hI.oldp hTr) (Vs rfl yy72 rfl ?_)))))
   refine Wv rfl (rMulNN (a := 5) (b := 8) rfl rfl rfl (by omega)) ?_
   refine Vh rfl (T0 rfl yy9 rfl (Up rfl (Wn (Wc true rfl (Wq (V9 rfl (Vb rfl (V7 256 rfl (V5 (.slice _ _ _) rfl (hI.oldp hTr) (Vs rfl yy72 rfl (V0 rfl (Wn ?_))))))))))))
   refine Wb ?_
   refine Wl (fun mu ρ w => ∃ (k : Nat) (any : Bool), mu = 5 - k ∧ k ≤ 5 ∧ (any = false → ∀ j, j < k → s.count (UInt8.ofNat (spO j)) = 0) ∧ Has ρ [(32, .int .i64 (k : Int)), (31, .int .i64 5), (30, .slice (some ⟨g, o, none⟩) 5 ct), (6, .bool any), (5, .int .i64 ((s.length + sumA s k : Nat) : Int)), (1, strV s), (0, .pointer (some ⟨rb, 0, none⟩))] ∧ Inv NF w0 w []) 5
    ⟨0, false, rfl, by omega, fun _ j hj => by omega, ⟨rfl, rfl, rfl, rfl, rfl, rfl, rfl, trivial⟩, hI⟩ ?_
   clear hI
   rintro mu ρ w ⟨k, any, rfl, hk, hany, hH, hI⟩
   obtain ⟨σ, rfl⟩ := hH.open
   by_cases hk5 : k < 5
   rotate_left
   ·obtain rfl : k = 5 := by omega
    refine Wq (Vr rfl (Wn (Ws (Wc false rfl ?_))))
    refine WE ?_
    exact ⟨any, fun h => escF_plain s (hany h), ⟨rfl, by rw [escF_sum]; rfl, rfl, rfl, trivial⟩, hI⟩
   have hck := hS k hk5
   have hle2 := escF_sum s
   refine Wq (Vt rfl (Wn (Ws (Wc true rfl (Wk (Ws (Wb (Wq (U8 rfl yy72 rfl (V5 (.string _) rfl (hI.oldp hck) (T4 rfl ?_)))))))))))
   refine Wn (Wq (Vh rfl (Vh rfl (Va [.string _, .string _] rfl func137 rfl ?_))))
   refine (count_any s (UInt8.ofNat (spO k)) _).mono ?_
   rintro e w1 ⟨rfl, rfl⟩
   refine rV ?_
   refine Vc rfl (Wn ?_)
   by_cases hc0 : s.count (UInt8.ofNat (spO k)) = 0
   ·refine Wq (V0 rfl (U2 rfl (Wn (Wc false rfl (Wk (Wr (Vv rfl (V0 rfl (Wn ?_)))))))))
    refine ⟨5 - (k + 1), by omega, k + 1, any, rfl, by omega, fun h j hj => ?_, ⟨rfl, rfl, rfl, rfl, ?_, rfl, rfl, trivial⟩, hI⟩
    ·by_cases hjk : j < k
     ·exact hany h j hjk
     obtain rfl : j = k := by omega
     exact hc0
    rw [show sumA s (k + 1) = sumA s k by rw [sumA, hc0, Nat.zero_mul, Nat.add_zero]]; rfl
   obtain ⟨-, -, -, -, -, h6⟩ := escL_at k hk5
   obtain ⟨h7, h8⟩ := spN_ne k hk5
   have hm1 : s.count (UInt8.ofNat (spO k)) * ((spN k).length - 1) ≤ 1000 * 4 := Nat.mul_le_mul (Nat.le_trans List.count_le_length hs) (by omega)
   have hsum : s.length + sumA s k + s.count (UInt8.ofNat (spO k)) * ((spN k).length - 1) ≤ 10000 := by
    have : sumA s (k + 1) ≤ sumA s 5 := sumA_mono s (by omega)
    rw [sumA] at this
    omega
   have hck2 : w0.cell? ⟨rb, spO k, none⟩ = some (.slice (some ⟨G k, 0, none⟩) (spN k).length (C k)) := by
    have h9 := hT _ (spO_lt k hk5)
    unfold tbK at h9
    rw [(spI_iff hk5).2 rfl, if_pos hk5] at h9
    exact h9
   refine Wq (V0 rfl (U1 rfl (Wn (Wc true rfl (Ws (Wd (by kernel_rfl) ?_))))))
   refine Wi (T := []) hI.drew ?_
   intro Sx hY hZ
   have hI := hI.drew
   refine Vx 0 rfl (Vx 1 rfl (Vl 2 rfl (U6 3 rfl (Uq 4 (UInt8.ofNat (spO k)) 0 rfl yy9 rfl (Vm 5 rfl (Vf 6 0 rfl ?_))))))
   refine Wt 7 rfl (fun W hW => have hI := hY W hW; (rIdxA0 (i := spO k) rfl yy286 (by kernel_rfl) rfl rfl (by rw [h6]) (spO_lt k hk5))) ?_
   refine Vd 8 (.slice _ _ _) rfl (fun W hW => (hY W hW).oldp hck2) (Ui 9 rfl yy133 rfl ?_)
   refine Wt 10 rfl (fun W hW => have hI := hY W hW; (rSubNN (b := 1) rfl rfl rfl (by omega) (by omega))) ?_
   refine Wt 11 rfl (fun W hW => have hI := hY W hW; (rMulNN rfl rfl rfl (by omega))) ?_
   refine Wt 12 rfl (fun W hW => have hI := hY W hW; (rAddNN rfl rfl rfl (by omega))) ?_
   refine Ty 13 rfl (We (by kernel_rfl) (Wr (V8 rfl (Wn (Wr (Vv rfl (V0 rfl (Wn ?_))))))))
   exact ⟨5 - (k + 1), by omega, k + 1, true, rfl, by omega, (fun h => by cases h), ⟨rfl, rfl, rfl, rfl, by rw [sumA, ← Nat.add_assoc]; rfl, rfl, rfl, trivial⟩, hI⟩
  refine Wq (V9 rfl (Vb rfl (V7 256 rfl (V5 (.slice _ _ _) rfl (hI.oldp hTr) (Vs rfl yy72 rfl ?_)))))
  refine Wv rfl (rMulNN (a := 5) (b := 8) rfl rfl rfl (by omega)) ?_
  refine Vh rfl (T0 rfl yy9 rfl ?_)
  refine Wv rfl (by exact rLeqF rfl rfl rfl (by omega)) ?_
  refine Wn (Wc false rfl (Wq (Vc rfl (Wn (Wb ?_)))))
  refine Wl (fun mu ρ w => ∃ (i : Nat) (any : Bool), mu = s.length - i ∧ i ≤ s.length ∧ (any = false → ∀ b ∈ s.take i, ¬ spI b.toNat < 5) ∧ Has ρ [(10, .int .i64 (i : Int)), (6, .bool any), (5, .int .i64 (((escF (s.take i)).length + (s.length - i) : Nat) : Int)), (1, strV s), (0, .pointer (some ⟨rb, 0, none⟩))] ∧ Inv NF w0 w []) s.length
   ⟨0, false, rfl, by omega, (fun _ b hb => by rw [List.take_zero] at hb; cases hb), ⟨rfl, rfl, ?_, rfl, rfl, trivial⟩, hI⟩ ?_
  ·rw [List.take_zero, escF_nil, List.length_nil, Nat.zero_add, Nat.sub_zero]; rfl
  clear hI
  rintro mu ρ w ⟨i, any, rfl, hi, hany, hH, hI⟩
  obtain ⟨σ, rfl⟩ := hH.open
  by_cases hil : i < s.length
  rotate_left
  ·obtain rfl : i = s.length := by omega
   refine Ws (Wq (V0 rfl (Vh rfl (T0 rfl yy9 rfl (Vr rfl (Wn (Wc false rfl ?_)))))))
   refine WE ?_
   rw [List.take_length] at hany
   exact ⟨any, fun h => escF_plain2 s (hany h), ⟨rfl, by rw [List.take_length, Nat.sub_self, Nat.add_zero]; rfl, rfl, rfl, trivial⟩, hI⟩
  obtain ⟨b, hb⟩ : ∃ b, s[i]? = some b := ⟨_, List.getElem?_eq_getElem hil⟩
  have hE := escF_take_le s i
  have hE2 := escF_take_le s (i + 1)
  have hta := take_at hb
  have hlb := escB_len b
  have hEn : (escF (s.take (i + 1))).length = (escF (s.take i)).length + (escB b).length := by
   rw [hta, escF_app, List.length_append, show escF [b] = escB b by rw [escF_cons, escF_nil, List.append_nil]]
  have hcb := hT b.toNat b.toNat_lt
  refine Ws (Wq (V0 rfl (Vh rfl (T0 rfl yy9 rfl (Vt rfl (Wn (Wc true rfl (Wk (Ws (Wb (Ws (Wr ?_))))))))))))
  refine Vh rfl (V0 rfl (Ua rfl yy9 rfl ?_))
  refine Vc rfl (Wn ?_)
  by_cases hsp : spI b.toNat < 5
  ·rw [tbK_sp hsp] at hcb
   refine Wq (V9 rfl (V0 rfl (Vb rfl (V7 0 rfl ?_))))
   refine Wv rfl (rIdxA0 (i := b.toNat) rfl yy286 (by kernel_rfl) rfl rfl rfl b.toNat_lt) ?_
   refine V5 (.slice _ _ _) rfl (hI.oldp hcb) ?_
   refine Wv rfl (rNeSlNF rfl yy133 rfl) ?_
   refine Wn (Wc true rfl (Wq (V0 rfl (V9 rfl (V0 rfl (Vb rfl (V7 0 rfl ?_)))))))
   refine Wv rfl (rIdxA0 (i := b.toNat) rfl yy286 (by kernel_rfl) rfl rfl rfl b.toNat_lt) ?_
   refine V5 (.slice _ _ _) rfl (hI.oldp hcb) (Vs rfl yy133 rfl ?_)
   refine Wv rfl (rSubNN (b := 1) rfl rfl rfl (by omega) (by omega)) ?_
   refine Wv rfl (rAddNN rfl rfl rfl (by omega)) ?_
   refine Vc rfl (Wn (Wr (V8 rfl (Wn (Wr (V0 rfl (Vv rfl (Vc rfl (Wn ?_)))))))))
   refine ⟨s.length - (i + 1), by omega, i + 1, true, rfl, by omega, (fun h => by cases h), ⟨rfl, rfl, ?_, rfl, rfl, trivial⟩, hI⟩
   rw [hEn, show (escF (s.take i)).length + (escB b).length + (s.length - (i + 1)) = (escF (s.take i)).length + (s.length - i) + ((escB b).length - 1) by omega]; rfl
  rw [tbK_pl hsp] at hcb
  refine Wq (V9 rfl (V0 rfl (Vb rfl (V7 0 rfl ?_))))
  refine Wv rfl (rIdxA0 (i := b.toNat) rfl yy286 (by kernel_rfl) rfl rfl rfl b.toNat_lt) ?_
  refine V5 (.slice _ _ _) rfl (hI.oldp hcb) ?_
  refine Wv rfl (rNeSlNT rfl yy133 rfl) ?_
  refine Wn (Wc false rfl (Wk (Wr (V0 rfl (Vv rfl (Vc rfl (Wn ?_)))))))
  refine ⟨s.length - (i + 1), by omega, i + 1, any, rfl, by omega, fun h c hc => ?_, ⟨rfl, rfl, ?_, rfl, rfl, trivial⟩, hI⟩
  ·rw [hta] at hc
   rcases List.mem_append.1 hc with hc | hc
   ·exact hany h c hc
   rw [List.mem_singleton.1 hc]; exact hsp
  rw [esc_pl hsp] at hEn
  rw [hEn, show (escF (s.take i)).length + [b].length + (s.length - (i + 1)) = (escF (s.take i)).length + (s.length - i) by simp only [List.length_cons, List.length_nil]; omega]; rfl
 clear hI
 rintro ρ w ⟨any, hany, hH, hI⟩
 obtain ⟨σ, rfl⟩ := hH.open
 cases any with
 | false =>
  refine Ws (Wq (V6 rfl (Ti rfl (Wn (Wc true rfl (Wq (Vh rfl (T4 rfl (Wn ?_)))))))))
  exact WR (r1_ 4 rfl ⟨by rw [hany rfl]; rfl, hI.pu⟩)
 | true =>
  refine Ws (Wq (V6 rfl (T9 rfl (Wn (Wc false rfl (Wk (Wq (V0 rfl ?_))))))))
  refine WL_mk (by_ := 1) (z := .int .u8 0) hI rfl rfl rfl rfl rfl rfl yy133 (by kernel_rfl) rfl (by omega) (by omega) ?_
  rintro b85 w - - hI
  refine Vo rfl (Wn ?_)
  rw [← bufA_zero s] at hI
  refine Wq (Vc rfl (Wn (Ws (Wq (Vc rfl (Wn (Wb ?_)))))))
  refine Wl (fun mu ρ w => ∃ (i : Nat), mu = s.length - i ∧ i ≤ s.length ∧ Has ρ [(14, .int .i64 (i : Int)), (13, .int .i64 ((escF (s.take i)).length : Int)), (12, .slice (some ⟨b85, 0, none⟩) (escF s).length (escF s).length), (1, strV s), (0, .pointer (some ⟨rb, 0, none⟩))] ∧ Inv NF w0 w [B b85 5 (bufA s i (escF s).length)]) s.length
   ⟨0, rfl, by omega, ⟨rfl, rfl, rfl, rfl, rfl, trivial⟩, hI⟩ ?_
  clear hI
  rintro mu ρ w ⟨i, rfl, hi, hH, hI⟩
  obtain ⟨σ, rfl⟩ := hH.open
  by_cases hil : i < s.length
  rotate_left
  ·obtain rfl : i = s.length := by omega
   refine Ws (Wq (V0 rfl (Vh rfl (T0 rfl yy9 rfl (Vr rfl (Wn (Wc false rfl ?_)))))))
   refine WE ?_
   refine Wq (Vi rfl ?_)
   refine Wv rfl (rBytesStrL (escF s) rfl yy133 yy5 yy9 rfl rfl (fun j b hb => by rw [Nat.zero_add]; exact hI.c0 (bufA_full hb))) ?_
   refine T4 rfl (Wn ?_)
   exact WR (r1_ 4 rfl ⟨rfl, hI.pu⟩)
  obtain ⟨b, hb⟩ : ∃ b, s[i]? = some b := ⟨_, List.getElem?_eq_getElem hil⟩
  have hE := escF_take_le s i
  have hE2 := escF_take_le s (i + 1)
  have hta := take_at hb
  have hlb := escB_len b
  have hEn : (escF (s.take (i + 1))).length = (escF (s.take i)).length + (escB b).length := by
   rw [hta, escF_app, List.length_append, show escF [b] = escB b by rw [escF_cons, escF_nil, List.append_nil]]
  have hcb := hT b.toNat b.toNat_lt
  refine Ws (Wq (V0 rfl (Vh rfl (T0 rfl yy9 rfl (Vt rfl (Wn (Wc true rfl (Wk (Ws (Wb (Ws (Wr ?_))))))))))))
  refine Vh rfl (V0 rfl (Ua rfl yy9 rfl ?_))
  refine Vc rfl (Wn ?_)
  by_cases hsp : spI b.toNat < 5
  ·rw [tbK_sp hsp] at hcb
   have hsrc := hC _ hsp
   rw [← (esc_sp hsp).1] at hsrc
   refine Wq (V9 rfl (V0 rfl (Vb rfl (V7 0 rfl ?_))))
   refine Wv rfl (rIdxA0 (i := b.toNat) rfl yy286 (by kernel_rfl) rfl rfl rfl b.toNat_lt) ?_
   refine V5 (.slice _ _ _) rfl (hI.oldp hcb) ?_
   refine Wv rfl (rNeSlNF rfl yy133 rfl) ?_
   refine Wn (Wc true rfl (Wd (by kernel_rfl) ?_))
   refine WA_T (fun _ => True) [] ?_
   refine Wt 0 rfl (hS := trivial) (fun W _ => (by exact rMoveI rfl rfl)) ?_
   refine WT_true ?_
   refine Wi (T := [10]) hI.d0.drew ?_
   intro Sx hY hZ
   have hI := hI.drew
   refine Ta 1 rfl (Vx 2 rfl ?_)
   refine Wt 3 rfl (fun W hW => have hI := hY W hW; (rSliceFrom (sz := 1) (i := (escF (s.take i)).length) rfl yy133 (by kernel_rfl) rfl rfl (by omega) (by omega))) ?_
   refine Vl 4 rfl (Vx 5 rfl (Vm 6 rfl (Vf 7 0 rfl ?_)))
   refine Wt 8 rfl (fun W hW => have hI := hY W hW; (rIdxA0 (i := b.toNat) rfl yy286 (by kernel_rfl) rfl rfl rfl b.toNat_lt)) ?_
   refine Vd 9 (.slice _ _ _) rfl (fun W hW => (hY W hW).oldp hcb) ?_
   refine WT_A (by kernel_rfl) ?_
   clear hZ hY
   refine T2 10 rfl ?_
   refine WL_copy (bytesL (escB b)) hI rfl rfl rfl rfl rfl rfl yy133 (by kernel_rfl) (bytesL_len _) (by omega) (fun j v hj => hI.oldp (src_row hsrc j v hj)) (by rw [bufA_size]; omega) (fun v hv => bytes_one hv) ?_
   intro w hI
   rw [Nat.zero_add, Nat.mul_one, bufA_next hb] at hI
   refine Wn (T2 11 rfl ?_)
   refine Wv rfl (rAddNN rfl rfl rfl (by omega)) ?_
   refine Wn (T2 12 rfl ?_)
   refine Vc rfl (Wn ?_)
   refine WA_end (by kernel_rfl) ?_
   refine Wr (V0 rfl (Vv rfl (Vc rfl (Wn ?_))))
   exact ⟨s.length - (i + 1), by omega, i + 1, rfl, by omega, ⟨rfl, by rw [hEn]; rfl, rfl, rfl, rfl, trivial⟩, hI⟩
  rw [tbK_pl hsp] at hcb
  rw [esc_pl hsp] at hEn
  simp only [List.length_cons, List.length_nil] at hEn
  refine Wq (V9 rfl (V0 rfl (Vb rfl (V7 0 rfl ?_))))
  refine Wv rfl (rIdxA0 (i := b.toNat) rfl yy286 (by kernel_rfl) rfl rfl rfl b.toNat_lt) ?_
  refine V5 (.slice _ _ _) rfl (hI.oldp hcb) ?_
  refine Wv rfl (rNeSlNT rfl yy133 rfl) ?_
  refine Wn (Wc false rfl (Wq (Vi rfl (V0 rfl (V0 rfl ?_)))))
  refine Wv rfl (rIdx (sz := 1) (i := (escF (s.take i)).length) rfl yy133 (by kernel_rfl) rfl rfl (by omega)) ?_
  refine WL_st0 (u := .int .u8 (b.toNat : Int)) (j := 0 + (escF (s.take i)).length * 1) (cs' := bufA s (i + 1) (escF s).length) hI rfl rfl rfl rfl rfl rfl (by kernel_rfl) rfl (by rw [bufA_size, Nat.zero_add, Nat.mul_one]; exact Nat.ble_eq_true_of_le (by omega)) (by rw [Nat.zero_add, Nat.mul_one]; exact bufA_next1 hb hsp) ?_
  intro w hI
  refine Wn (Wr (V0 rfl (Vv rfl (Vc rfl (Wn (Wr (V0 rfl (Vv rfl (Vc rfl (Wn ?_))))))))))
  exact ⟨s.length - (i + 1), by omega, i + 1, rfl, by omega, ⟨rfl, by rw [hEn]; rfl, rfl, rfl, rfl, trivial⟩, hI⟩
end Go.Proofs.YtlkobbighkiojaaGreatDoor
namespace Go.Proofs.YtlkobbighkiojaaGreatDoor
open Tryz
theorem onDisable (w : World) : (callFunc 205 #[]).run prog w = .ok (.value (.tuple #[])) w := run_call_mark0 func205 (by kernel_rfl) (by kernel_rfl) (by kernel_rfl) .disable (by kernel_rfl) w
theorem onEnable (w : World) : (callFunc 207 #[]).run prog w = .ok (.value (.tuple #[])) w := run_call_mark0 func207 (by kernel_rfl) (by kernel_rfl) (by kernel_rfl) .enable (by kernel_rfl) w
theorem onAcquire (a : Addr) (w : World) : (callFunc 208 #[.pointer (some a)]).run prog w = .ok (.value (.tuple #[])) w := run_call_marked func208 (by kernel_rfl) (by kernel_rfl) (by kernel_rfl) .acquire (by kernel_rfl) a w
theorem onRelease (a : Addr) (w : World) : (callFunc 210 #[.pointer (some a)]).run prog w = .ok (.value (.tuple #[])) w := run_call_marked func210 (by kernel_rfl) (by kernel_rfl) (by kernel_rfl) .releaseMerge (by kernel_rfl) a w
set_option maxRecDepth 100000 in
theorem onStore (a : Addr) (x : Value) (u : FrameMode) (w : World) (hc : w.cell? a = some x) (hz : w.frozen? a = false) :
  CallsD prog 150 #[.pointer (some a), .bool true] u w fun e u' w' => u' = u ∧ (e = .returned (.tuple #[]) ∧ w' = w.drew.setCell a (.int .u32 1)) := by
 have hc' : w.drew.cell? a = some x := by go_simp
 have hz' : w.drew.frozen? a = false := by go_simp
 have hst := run_call_store (P := prog) func189 (by kernel_rfl) (by kernel_rfl) (by kernel_rfl) (by kernel_rfl) (k := .u32) (y := 1) hc' hz'
 go_enter_d func150, Tryz.ntmps150
 go_wp2
 go_region_calls
 all_goals (go_end0; exact ⟨rfl, rfl⟩)
set_option maxRecDepth 100000 in
theorem onUnlock (a : Addr) (u : FrameMode) (w : World) (hc : w.cell? a = some (.int .i32 1)) (hz : w.frozen? a = false) :
  CallsD prog 149 #[.pointer (some a)] u w fun e u' w' => u' = u ∧ (e = .returned (.tuple #[]) ∧ w' = w.setCell a (.int .i32 0)) := by
 have hd := onDisable
 have he := onEnable
 have hr := onRelease
 have hadd := run_call_add (P := prog) func211 (by kernel_rfl) (by kernel_rfl) (by kernel_rfl) .i32 (by kernel_rfl) (y := -1) (s := 0) hc hz (by simp [go_sem]; rfl)
 have hcv := run_convert_to_unsafe (P := prog) (src := 365) (dst := 258) underlying365 underlying258 (by kernel_rfl) hc
 go_enter_d func149, Tryz.ntmps149
 go_wp2
 go_end0
 go_wp2
 go_end0
 exact ⟨rfl, rfl⟩
set_option maxRecDepth 100000 in
theorem onLock (a : Addr) (w : World) (hc : w.cell? a = some (.int .i32 0)) (hz : w.frozen? a = false) :
  Cq 148 #[.pointer (some a)] w fun e w' => e = .returned (.tuple #[]) ∧ w' = w.setCell a (.int .i32 1) := by
 have hd := onDisable
 have he := onEnable
 have ha := onAcquire
 have hcas := run_call_cas_hit (P := prog) func206 (by kernel_rfl) (by kernel_rfl) (by kernel_rfl) .i32 (by kernel_rfl) (y := 1) hc hz
 have hc' : (w.setCell a (.int .i32 1)).cell? a = some (.int .i32 1) := World.cell?_setCell_same w a _ hc
 have hcv := run_convert_to_unsafe (P := prog) (src := 365) (dst := 258) underlying365 underlying258 (by kernel_rfl) hc'
 go_enter func148, Tryz.ntmps148
 go_wp2
 refine bodyPost_ret (results_none rfl _ _ _) rfl ?_
 go_wp2
 go_end0
 exact ⟨rfl, rfl⟩
set_option maxRecDepth 100000 in
theorem onSlow (b : Nat) (w : World) (Post : World → Prop) (h0 : w.cell? ⟨b, 0, none⟩ = some (.int .u32 0)) (h1 : w.cell? ⟨b, 1, none⟩ = some (.int .i32 0)) (f0 : w.frozen? ⟨b, 0, none⟩ = false) (f1 : w.frozen? ⟨b, 1, none⟩ = false)
  (hF : Cq 58 #[.pointer (some ⟨b, 0, none⟩)] (w.setCell ⟨b, 1, none⟩ (.int .i32 1)) fun e w2 => e = .returned (.tuple #[]) ∧ w2.cell? ⟨b, 0, none⟩ = some (.int .u32 0) ∧ w2.cell? ⟨b, 1, none⟩ = some (.int .i32 1) ∧ w2.frozen? ⟨b, 0, none⟩ = false ∧ w2.frozen? ⟨b, 1, none⟩ = false ∧ Post w2) :
  Cq 101 #[.pointer (some ⟨b, 0, none⟩), .func (.func 58) #[.pointer (some ⟨b, 0, none⟩)] #[]] w fun e w' => e = .returned (.tuple #[]) ∧ ∃ w2, Post w2 ∧ w' = (w2.drew.setCell ⟨b, 0, none⟩ (.int .u32 1)).setCell ⟨b, 1, none⟩ (.int .i32 0) := by
 have hl := run_call_load (P := prog) func147 (by kernel_rfl) (by kernel_rfl) (by kernel_rfl) .u32 (by kernel_rfl) (w := w.setCell ⟨b, 1, none⟩ (.int .i32 1)) (a := ⟨b, 0, none⟩) (x := 0) ((World.cell?_setCell_other _ ⟨b, 1, none⟩ ⟨b, 0, none⟩ _ (by simp)).trans h0)
 have hnot : ∀ (x : Bool) (w : World), (Op.unary .not (.bool x)).run prog w = .ok (.bool (!x)) w := fun _ _ => rfl
 go_enter_defers func101, Tryz.ntmps101
 go_wp2_with (go_at_call 148; refine (onLock ⟨b, 1, none⟩ _ (by go_simp) (by go_simp)).mono ?_; rintro e w' ⟨rfl, rfl⟩)
 go_wp2_with (first | (go_at_call 100; go_in) | (go_at_call 58; refine hF.mono ?_; rintro e w2 ⟨rfl, g0, g1, k0, k1, hP⟩))
 go_wp2
 refine leaves_cons (f := 150) (args := #[.pointer (some ⟨b, 0, none⟩), .bool true]) (by simp) (by simp [go_sem]) ?_
 refine (onStore ⟨b, 0, none⟩ (.int .u32 0) .returning _ g0 k0).mono ?_
 rintro e u' w'' ⟨rfl, rfl, rfl⟩
 refine leaves_cons (f := 149) (args := #[.pointer (some ⟨b, 1, none⟩)]) (by simp [settle]) (by simp [go_sem]) ?_
 refine (onUnlock ⟨b, 1, none⟩ _ _ ?_ (by simp [k1])).mono ?_
 ·refine (World.cell?_setCell_other _ ⟨b, 0, none⟩ ⟨b, 1, none⟩ _ (by simp)).trans ?_
  rw [World.cell?_drew]
  exact g1
 rintro e u' w'' ⟨rfl, rfl, rfl⟩
 simp [Leaves, settle, results, Tryz.results101]
 exact ⟨w2, hP, rfl⟩
set_option maxRecDepth 100000 in
theorem onDo (b : Nat) (w : World) (Post : World → Prop) (h0 : w.cell? ⟨b, 0, none⟩ = some (.int .u32 0)) (h1 : w.cell? ⟨b, 1, none⟩ = some (.int .i32 0)) (f0 : w.frozen? ⟨b, 0, none⟩ = false) (f1 : w.frozen? ⟨b, 1, none⟩ = false)
  (hF : Cq 58 #[.pointer (some ⟨b, 0, none⟩)] (w.setCell ⟨b, 1, none⟩ (.int .i32 1)) fun e w2 => e = .returned (.tuple #[]) ∧ w2.cell? ⟨b, 0, none⟩ = some (.int .u32 0) ∧ w2.cell? ⟨b, 1, none⟩ = some (.int .i32 1) ∧ w2.frozen? ⟨b, 0, none⟩ = false ∧ w2.frozen? ⟨b, 1, none⟩ = false ∧ Post w2) :
  Cq 57 #[.pointer (some ⟨b, 0, none⟩), .func (.func 58) #[.pointer (some ⟨b, 0, none⟩)] #[]] w fun e w' => e = .returned (.tuple #[]) ∧ ∃ w2, Post w2 ∧ w' = (w2.drew.setCell ⟨b, 0, none⟩ (.int .u32 1)).setCell ⟨b, 1, none⟩ (.int .i32 0) := by
 have hl := run_call_load (P := prog) func147 (by kernel_rfl) (by kernel_rfl) (by kernel_rfl) .u32 (by kernel_rfl) h0
 have hnot : ∀ (x : Bool) (w : World), (Op.unary .not (.bool x)).run prog w = .ok (.bool (!x)) w := fun _ _ => rfl
 go_enter func57, Tryz.ntmps57
 go_wp2_with (first | (go_at_call 101; refine (onSlow b w Post h0 h1 f0 f1 hF).mono ?_; rintro e w' ⟨rfl, w2, hP, rfl⟩) | (go_at_call 100; go_in))
 go_end0
 exact ⟨rfl, w2, hP, rfl⟩
open Go.RowKit
theorem sp_cases {b : UInt8} (h : spI b.toNat < 5) : b = 39 ∨ b = 34 ∨ b = 62 ∨ b = 60 ∨ b = 38 := by
 have h1 := (spI_iff h).1 rfl
 have h2 : b = UInt8.ofNat (spO (spI b.toNat)) := by rw [← h1, UInt8.ofNat_toNat]
 obtain h3 | h3 | h3 | h3 | h3 : spI b.toNat = 0 ∨ spI b.toNat = 1 ∨ spI b.toNat = 2 ∨ spI b.toNat = 3 ∨ spI b.toNat = 4 := by omega
 all_goals (rw [h3] at h2; rw [h2]; decide)
def gparts (R tb a b c d e f g h i j k l m tC tA : Nat) : List Ent := B R 351 (gnA (mixF 256) 12 (sl12 tb)) :: [lf m [38] 2, nd l [109, 112, 59] (pt m) nilT, B tA 346 (((tb2 0 7 g h).setIfInBounds 8 (at0 j)).setIfInBounds 6 (at0 l)), lf k [60] 4, nd j [116, 59] (pt k) nilT, lf i [62] 6, nd h [116, 59] (pt i) nilT, nd g [51] (pt c) nilT, nd a [] none (sl12 tA), lf f [34] 8, nd e [59] (pt f) nilT, B tC 346 (tb2 4 3 d e), nd d [59] (pt b) nilT, nd c [] none (sl12 tC), lf b [39] 10, B tb 346 (rt0 a)]
theorem gen_of {S : Nat → Prop} {w0 w : World} {H : List Ent} {R tb a b c d e f g h i j k l m tC tA : Nat} (hI : Inv S w0 w (gparts R tb a b c d e f g h i j k l m tC tA ++ H)) : GenAt w R := by
 have hN : ∀ (x n : Nat) (v : List UInt8) (p : Int) (pre : List UInt8) (nx : Option Addr) (tv : Value), (gparts R tb a b c d e f g h i j k l m tC tA ++ H)[x]? = some (B n 349 (tnC v p pre nx tv)) → NdAt w n v p pre nx tv := fun x n v p pre nx tv hx =>
  ⟨hI.cell x hx rfl, hI.cell x hx rfl, hI.cell x hx rfl, hI.cell x hx rfl, hI.cell x hx rfl⟩
 have hRt : NdAt w R [] 0 [] none (sl12 tb) := ⟨hI.cell 0 rfl rfl, hI.cell 0 rfl rfl, hI.cell 0 rfl gnA_2, hI.cell 0 rfl rfl, hI.cell 0 rfl gnA_4⟩
 have ha := hN 9 a [] 0 [] none (sl12 tA) rfl
 have hc := hN 14 c [] 0 [] none (sl12 tC) rfl
 have root : ∀ {dd k v s}, LkP w dd a s v k → LkP w (dd + 1) R (38 :: s) v (k + 1) := fun hk => .tab hRt (by decide) (hI.cell 16 rfl rfl) hk
 refine ⟨⟨hI.cell 0 rfl gnA_5, fun x => ?_⟩, ⟨tb, a, hRt, hI.cell 16 rfl rfl, fun x hx hne => hI.cell 16 rfl ?_⟩, fun x s hx => ?_⟩
 ·rw [hI.cell 0 rfl (gnA_at x.toNat_lt), show mixF 256 x.toNat = mpN x.toNat by unfold mixF; rw [if_pos x.toNat_lt], mpN_mpF]
 ·unfold rt0
  rw [Array.getElem?_setIfInBounds_ne (fun q => hne q.symm)]
  exact rep_get _ hx
 obtain rfl | rfl | rfl | rfl | rfl := sp_cases hx
 ·exact ⟨5, by omega, root (.tab (c := 35) ha (by decide) (hI.cell 3 rfl rfl) (.pre (c := 51) (q := []) (hN 8 g [] 0 [51] (pt c) nilT rfl) (.tab (c := 57) hc (by decide) (hI.cell 12 rfl rfl) (.pre (c := 59) (q := []) (hN 13 d [] 0 [59] (pt b) nilT rfl) (.leaf (by decide) (hN 15 b [39] 10 [] none nilT rfl))))))⟩
 ·exact ⟨5, by omega, root (.tab (c := 35) ha (by decide) (hI.cell 3 rfl rfl) (.pre (c := 51) (q := []) (hN 8 g [] 0 [51] (pt c) nilT rfl) (.tab (c := 52) hc (by decide) (hI.cell 12 rfl rfl) (.pre (c := 59) (q := []) (hN 11 e [] 0 [59] (pt f) nilT rfl) (.leaf (by decide) (hN 10 f [34] 8 [] none nilT rfl))))))⟩
 ·exact ⟨3, by omega, root (.tab (c := 103) ha (by decide) (hI.cell 3 rfl rfl) (.pre (c := 116) (q := [59]) (hN 7 h [] 0 [116, 59] (pt i) nilT rfl) (.leaf (by decide) (hN 6 i [62] 6 [] none nilT rfl))))⟩
 ·exact ⟨3, by omega, root (.tab (c := 108) ha (by decide) (hI.cell 3 rfl rfl) (.pre (c := 116) (q := [59]) (hN 5 j [] 0 [116, 59] (pt k) nilT rfl) (.leaf (by decide) (hN 4 k [60] 4 [] none nilT rfl))))⟩
 exact ⟨3, by omega, root (.tab (c := 97) ha (by decide) (hI.cell 3 rfl rfl) (.pre (c := 109) (q := [112, 59]) (hN 2 l [] 0 [109, 112, 59] (pt m) nilT rfl) (.leaf (by decide) (hN 1 m [38] 2 [] none nilT rfl))))⟩
theorem bsr_of {S : Nat → Prop} {w0 w : World} {H : List Ent} {rb ct : Nat} {A : Option Addr} {G C : Nat → Nat} (hI : Inv S w0 w ([B rb 288 (bsrA G C 5 (.slice A 5 ct)), Win 9 1 A 5 ct (trS 5), RcE G 5] ++ H)) : BsrAt w rb := by
 have hW := (hI.ok (Win 9 1 A 5 ct (trS 5)) (by simp)).1
 have hR := (hI.ok (RcE G 5) (by simp)).1
 obtain ⟨-, hnc, -, hA⟩ := hW
 rcases hA with ⟨rfl, hc0⟩ | ⟨g, o, cur, rfl, hb, -, hcur⟩
 ·omega
 refine ⟨G, C, g, o, ct, fun n hn => hI.cell 0 rfl (bsrA_at hn), hI.cell 0 rfl bsrA_tr, fun j hj => ?_, fun j hj => (hR j hj).2⟩
 rw [hb.cell]
 refine hcur j _ ?_
 unfold trS
 rw [List.getElem?_map, List.getElem?_range hj]; rfl
theorem Inv.dropL {S : Nat → Prop} {w0 w : World} {H : List Ent} : ∀ {L : List Ent}, Inv S w0 w (L ++ H) → Inv S w0 w H
 | [], h => h
 | _ :: L, h => Inv.dropL (L := L) (Inv.d0 h)
def BuildP (T : TypeId) (Good : World → Nat → Prop) (W : World) (e : Ending) (w' : World) : Prop :=
 ∃ (x : Nat) (L : List Ent), e = .returned (.iface T (at0 x)) ∧ Inv NF W w' L ∧ ∀ (S : Nat → Prop) (w0 w : World) (H : List Ent), Inv S w0 w (L ++ H) → Good w x
theorem buildP_esc (r g o c : Nat) (w0 : World) (h4 : w0.cell? ⟨r, 4, none⟩ = some (.slice (some ⟨g, o, none⟩) 10 c)) (hc : ∀ (j : Nat) x, escL[j]? = some x → w0.cell? ⟨g, o + j, none⟩ = some (strV x)) :
  Cq 102 #[at0 r] w0 (BuildP 289 BsrAt w0) := by
 refine (build_esc r g o c w0 h4 hc).mono ?_
 rintro e w' ⟨rb, G, C, A, ct, rfl, hI⟩
 exact ⟨rb, _, rfl, hI, fun S w0 w H h => bsr_of h⟩
set_option maxRecDepth 4000 in
theorem buildP_gen (r g o c : Nat) (w0 : World) (h4 : w0.cell? ⟨r, 4, none⟩ = some (.slice (some ⟨g, o, none⟩) 10 c)) (hc : ∀ (j : Nat) x, escR[j]? = some x → w0.cell? ⟨g, o + j, none⟩ = some (strV x)) :
  Cq 102 #[at0 r] w0 (BuildP 282 GenAt w0) := by
 have hI := Inv.start (fun _ => False) w0
 have hc0 := hc 0 [38, 35, 51, 57, 59] rfl
 have hl : ([38, 35, 51, 57, 59] : List UInt8).length = 5 := rfl
 refine Vn func102 rfl ?_
 refine Wq (Vj rfl (Wn (Wq (V9 rfl (Vb rfl (V7 4 rfl (V5 (.slice _ _ _) rfl (hI.oldp h4) (Vo rfl (Wn (Ws (Ws ?_)))))))))))
 refine Wr (Vi rfl (Vs rfl yy72 rfl (Vw rfl (V6 rfl (V4 rfl (V4 rfl (V4 rfl (V4 rfl (V4 rfl (Ve rfl (Wn (Wc false rfl (Wk ?_)))))))))))))
 refine Wq (V8 rfl (Wn (Ws (Wq (Vc rfl (Wn (Wb ?_)))))))
 refine Wl (fun mu ρ w => Has ρ [(5, .int .i64 0), (4, .bool true), (3, .slice (some ⟨g, o, none⟩) 10 c)] ∧ Inv NF w0 w []) 0 ⟨⟨rfl, rfl, rfl, trivial⟩, hI⟩ ?_
 clear hI
 rintro mu ρ w ⟨hH, hI⟩
 obtain ⟨σ, rfl⟩ := hH.open
 refine Ws (Wq (V0 rfl (Vi rfl (Vs rfl yy72 rfl (Vt rfl (Wn (Wc true rfl (Wk (Ws (Wb (Ws (Ws ?_))))))))))))
 refine Wr (Vi rfl (V0 rfl ?_))
 refine Wv rfl (rIdx (sz := 1) (i := 0) rfl yy72 (by kernel_rfl) rfl rfl (by decide)) ?_
 refine V5 (.string _) rfl (hI.oldp hc0) (T0 rfl yy9 rfl (U1 rfl (Wn (Wc true rfl (Wq (Vi rfl (Va [.slice _ _ _] rfl func152 rfl ?_)))))))
 refine (mkgen_any g o c _ (fun j x hx => hI.oldp (hc j x hx))).mono ?_
 rintro e w1 ⟨R, tb, w5, rfl, hRt, hI5, a, b, c', d, e', f, g', h, i, j, k, l, m, tC, tA, hJ⟩
 refine rV ?_
 have hK := Inv.callB (X := [_]) hI5 hJ
 refine T6 rfl underlying282 rfl (Vp rfl (Wn ?_))
 exact WR (r1_ 2 rfl ⟨R, gparts R tb a b c' d e' f g' h i j k l m tC tA, rfl, ⟨(hI.chg.trans hK.chg), hK.ok, fun x hx y hy => .inr (by have := (hK.own x hx y hy).resolve_left id; have := hI.pu.size; omega), hK.apart⟩, fun S w0 w H h => gen_of h⟩)
section
variable {S : Nat → Prop} {w0 w : World} {H : List Ent}
theorem bonce_any (T : TypeId) (Good : World → Nat → Prop) (r : Nat) (lk : Value) (sv : Value) (hI : Inv S w0 w (B r 154 #[.int .u32 0, lk, .int .u32 0, .nilIface, sv] :: H))
  (hb : ∀ W, Inv S w0 W (B r 154 #[.int .u32 0, lk, .int .u32 0, .nilIface, sv] :: H) → Cq 102 #[at0 r] W (BuildP T Good W)) :
  Cq 58 #[at0 r] w fun e w' => e = .returned (.tuple #[]) ∧ ∃ (x : Nat) (L : List Ent), Inv S w0 w' (B r 154 #[.int .u32 0, lk, .int .u32 0, .iface T (at0 x), .slice none 0 0] :: (L ++ H)) ∧ ∀ (S : Nat → Prop) (w0 w : World) (H : List Ent), Inv S w0 w (L ++ H) → Good w x := by
 refine Vn func58 rfl ?_
 refine Wq (V9 rfl (V9 rfl (Va [.pointer _] rfl func102 rfl ?_)))
 refine (hb _ hI).mono ?_
 rintro e w1 ⟨x, L, rfl, hJ, hG⟩
 refine rV ?_
 replace hI := (hI.app hJ).perm List.perm_middle
 refine Vb rfl (V7 3 rfl ?_)
 refine WL_st0 (u := .iface T (at0 x)) (j := 3) hI rfl rfl rfl rfl rfl rfl (by kernel_rfl) rfl rfl rfl ?_
 intro w hI
 refine Wn (Wr (V9 rfl (Vb rfl (V7 4 rfl (Ue (.slice _ _ _) hI rfl ?_)))))
 intro w hI
 refine Wn ?_
 exact ret0 (.inl rfl) rfl ⟨rfl, x, L, hI, hG⟩
theorem rplc_any (T : TypeId) (Good : World → Nat → Prop) (F : FuncId) (s out : List UInt8) (r : Nat) (sv : Value) (hI : Inv S w0 w (B r 154 (repC 0 .nilIface sv) :: H))
  (hb : ∀ W, Inv S w0 W (B r 154 #[.int .u32 0, .int .i32 1, .int .u32 0, .nilIface, sv] :: H) → Cq 102 #[at0 r] W (BuildP T Good W))
  (hm : ∀ (x : Nat) (w : World), (callMethod (.iface T (at0 x)) "Replace" #[strV s]).run prog w = .ok (.enter F #[at0 x, strV s]) w)
  (hR : ∀ (W : World) (x : Nat), Good W x → Cq F #[at0 x, strV s] W fun e w' => e = .returned (strV out) ∧ Pure W w') :
  Cq 25 #[at0 r, strV s] w fun e w' => e = .returned (strV out) ∧ Inv S w0 w' H := by
 refine Vn func25 rfl ?_
 refine Wq (T4 rfl (Wn (Wq (V9 rfl (Vb rfl (V7 0 rfl (V9 rfl ?_)))))))
 refine Wv rfl (rFunc (l := [at0 r]) (m := []) rfl rfl rfl) ?_
 refine Va [.pointer _, .func _ _ _] rfl func57 rfl ?_
 have hI1 : Inv S w0 _ (B r 154 #[.int .u32 0, .int .i32 1, .int .u32 0, .nilIface, sv] :: H) := hI.s0 1 (.int .i32 1)
 refine (onDo r _ (fun w2 => ∃ (x : Nat) (L : List Ent), Inv S w0 w2 (B r 154 #[.int .u32 0, .int .i32 1, .int .u32 0, .iface T (at0 x), .slice none 0 0] :: (L ++ H)) ∧ ∀ (S : Nat → Prop) (w0 w : World) (H : List Ent), Inv S w0 w (L ++ H) → Good w x) (hI.c0 rfl) (hI.c0 rfl) (hI.f0 0) (hI.f0 1) ((bonce_any T Good r _ sv hI1 hb).mono ?_)).mono ?_
 ·rintro e w2 ⟨rfl, x, L, hJ, hG⟩
  exact ⟨rfl, hJ.c0 rfl, hJ.c0 rfl, hJ.f0 0, hJ.f0 1, x, L, hJ, hG⟩
 rintro e w' ⟨rfl, w2, ⟨x, L, hJ, hG⟩, rfl⟩
 refine rV ?_
 clear hI hI1
 have hI : Inv S w0 _ (B r 154 #[.int .u32 1, .int .i32 0, .int .u32 0, .iface T (at0 x), .slice none 0 0] :: (L ++ H)) := (hJ.drew.s0 0 (.int .u32 1)).s0 1 (.int .i32 0)
 refine Wn ?_
 have hg : Good _ x := hG S w0 _ H hI.d0
 refine Wq (V9 rfl (Vb rfl (V7 3 rfl ?_)))
 refine Wv rfl (rLd rfl (by kernel_rfl) rfl (by exact hI.c0 rfl)) ?_
 refine Vh rfl ?_
 refine WL_call rfl rfl rfl (rCallI (f := F) (vs := [_]) rfl rfl rfl (fun w => hm _ w)) ?_
 refine (hR _ x hg).mono (okP hI fun w1 hp hI => ?_)
 refine T4 rfl (Wn ?_)
 exact WR (r1_ 4 rfl ⟨rfl, (hI.d0 : Inv S w0 _ (L ++ H)).dropL⟩)
end
section
variable {S : Nat → Prop} {w0 w : World} {H : List Ent}
theorem rev_any (g : Nat) (hI : Inv S w0 w (B g 9 (escL.map strV).toArray :: H)) :
  Cq 107 #[.slice (some ⟨g, 0, none⟩) 10 10] w fun e w' => e = .returned (.tuple #[]) ∧ Inv S w0 w' (B g 9 (escR.map strV).toArray :: H) := by
 have hB : Blk w g 9 (escL.map strV).toArray := hI.g0
 refine (Any.slices_Reverse_string_cells lays2_17 g 0 10 10 (fun i => byB (escL.getD i [])) w (by omega) (fun i hi => ?_) (fun j hj => hB.frozen _)).mono ?_
 ·rw [hB.cell, Nat.zero_add, List.getElem?_toArray, List.getElem?_map, List.getD_eq_getElem?_getD]
  have hlt : i < escL.length := hi
  rw [List.getElem?_eq_getElem hlt]; rfl
 rintro e w' ⟨rfl, q, rfl⟩
 refine ⟨rfl, ?_⟩
 have hd : Inv S w0 (w.drewN q) (B g 9 (escL.map strV).toArray :: H) := hI.pure ((Pure.refl w).drewN q)
 have hB2 : Blk (w.drewN q) g 9 (escL.map strV).toArray := hd.g0
 refine hd.upd 0 rfl (Chg.setCells (S := (B g 9 (escL.map strV).toArray).D) (b := g) (.inl rfl) _ _ (Chg.refl (B g 9 (escL.map strV).toArray).D _)) (B.ok ?_) (fun _ hk => .inl hk)
 exact hB2.setCells _ 0
theorem win_cells {X : Ent} {e n c g o : Nat} {xs : List Value} (hI : Inv S w0 w (X :: Win e 1 (some ⟨g, o, none⟩) n c xs :: H)) (j : Nat) (u : Value) (hj : xs[j]? = some u) : w.cell? ⟨g, o + j, none⟩ = some u := by
 obtain ⟨g', o', hA, hc⟩ := (hI.perm (List.Perm.swap _ _ _)).winGet hj
 injection hA with hA
 injection hA with h1 h2
 subst h1 h2
 exact hc
theorem win_some {X : Ent} {e n c : Nat} {A : Option Addr} {xs : List Value} {u : Value} (hI : Inv S w0 w (X :: Win e 1 A n c xs :: H)) (hj : xs[0]? = some u) : ∃ g o, A = some ⟨g, o, none⟩ := by
 obtain ⟨g', o', hA, _⟩ := (hI.perm (List.Perm.swap _ _ _)).winGet hj
 exact ⟨g', o', hA⟩
theorem strV_at {l : List (List UInt8)} {j : Nat} {x : List UInt8} (h : l[j]? = some x) : (l.map strV)[j]? = some (strV x) := by rw [List.getElem?_map, h]; rfl
theorem rplc_esc (s : List UInt8) (hs : s.length ≤ 1000) (r : Nat) (A : Option Addr) (c : Nat) (hI : Inv S w0 w (B r 154 (repC 0 .nilIface (.slice A 10 c)) :: Win 9 1 A 10 c (escL.map strV) :: H)) :
  Cq 25 #[at0 r, strV s] w fun e w' => e = .returned (strV (escF s)) ∧ Inv S w0 w' H := by
 obtain ⟨g, o, rfl⟩ := win_some hI rfl
 refine (rplc_any 289 BsrAt 272 s (escF s) r _ hI (fun W hW => buildP_esc r g o c W (hW.c0 rfl) (fun j x hx => win_cells hW j _ (strV_at hx))) (fun x w => by kernel_rfl) (fun W x hG => brep_any x s hs W hG)).mono ?_
 rintro e w' ⟨rfl, hJ⟩
 exact ⟨rfl, hJ.d0⟩
theorem rplc_gen (t : List UInt8) (ht : t.length ≤ 1000) (r : Nat) (A : Option Addr) (c : Nat) (hI : Inv S w0 w (B r 154 (repC 0 .nilIface (.slice A 10 c)) :: Win 9 1 A 10 c (escR.map strV) :: H)) :
  Cq 25 #[at0 r, strV (escF t)] w fun e w' => e = .returned (strV t) ∧ Inv S w0 w' H := by
 obtain ⟨g, o, rfl⟩ := win_some hI rfl
 refine (rplc_any 282 GenAt 266 (escF t) t r _ hI (fun W hW => buildP_gen r g o c W (hW.c0 rfl) (fun j x hx => win_cells hW j _ (strV_at hx))) (fun x w => by kernel_rfl) (fun W x hG => grep_any x t ht W hG)).mono ?_
 rintro e w' ⟨rfl, hJ⟩
 exact ⟨rfl, hJ.d0⟩
end
theorem unesc_any (t : List UInt8) (ht : t.length ≤ 1000) (w0 : World) : Cq 64 #[strV (escF t)] w0 fun e w' => e = .returned (strV t) ∧ Pure w0 w' := by
 have hI := Inv.start (fun _ => False) w0
 refine Vn func64 rfl ?_
 refine Wq (T4 rfl (Wn (Wq (Va [] rfl func24 rfl ?_))))
 refine (escapes_any _).mono ?_
 rintro e w1 ⟨g, rfl, hT⟩
 refine rV ?_
 have hI := hI.app1 hT
 refine Vo rfl (Wn (Wq (Vi rfl (Va [.slice _ _ _] rfl func107 rfl ?_))))
 refine (rev_any g hI).mono ?_
 rintro e w1 ⟨rfl, hJ⟩
 refine rV ?_
 clear hI
 have hI := hJ
 clear hJ
 refine Wn (Wq (Vi rfl (Va [.slice _ _ _] rfl func23 rfl ?_)))
 refine (newrep_any _ (fun _ => True) _ _ _ _ 10 escR rfl (Rd.of_own (inv_rowOf hI 10 rfl (by omega)).g0 (fun _ _ _ => trivial)) hI).mono ?_
 rintro e w1 ⟨r, A', c', rfl, hJ⟩
 refine rV ?_
 clear hI
 have hI := hJ
 clear hJ
 refine Vh rfl (Va [.pointer _, .string _] rfl func25 rfl ?_)
 refine (rplc_gen t ht r A' c' hI).mono ?_
 rintro e w1 ⟨rfl, hJ⟩
 refine rV ?_
 clear hI
 have hI := hJ
 clear hJ
 refine T4 rfl (Wn ?_)
 exact WR (r1_ 2 rfl ⟨rfl, hI.pu⟩)
def TextPost (r : Option (List UInt8)) (w0 : World) (en : Ending) (w' : World) : Prop := Pure w0 w' ∧ match r with
 | some t => en = .returned (.tuple #[strV t, .nilIface])
 | none => ∃ T v, en = .returned (.tuple #[strV [], .iface T v])
theorem TextPost.no {r : Option (List UInt8)} {w0 w' : World} {T : TypeId} {v : Value} (h : r = none) (hp : Pure w0 w') : TextPost r w0 (.returned (.tuple #[strV [], .iface T v])) w' := by subst h; exact ⟨hp, T, v, rfl⟩
theorem text_any (A : Option Addr) (n c : Nat) (l : List Ev) (D : Nat → Prop) (w0 : World) (h : EvsR w0 D (.slice A n c) l) (hG : TxG w0) : Cq 21 #[.slice A n c] w0 (TextPost (evT l) w0) := by
 obtain ⟨hn, hc1, hc2⟩ := h.len
 subst hn
 have hI := Inv.start (fun _ => False) w0
 refine Vn func21 rfl ?_
 refine Wq (T4 rfl (Vj rfl (Wn ?_)))
 by_cases h120 : l.length ≤ 120
 rotate_left
 ·refine Ws (Wq (Vi rfl (Vs rfl yy28 rfl (Tq rfl (Wn (Wc true rfl (Wq (T6 rfl yy45 rfl (T4 rfl (Vp rfl (Wn ?_)))))))))))
  exact WR (r2_ 2 3 rfl (TextPost.no (by unfold evT; exact if_neg fun h => h120 h.1) hI.pu))
 refine Ws (Wq (Vi rfl (Vs rfl yy28 rfl (Tc rfl (Wn (Wc false rfl (Wk (Wq (T1 (.agg #[.pointer none, .slice none 0 0]) (#[.pointer none, .slice none 0 0]) hI rfl ?_)))))))))
 rintro b4 w - - hI
 refine Wn ?_
 have hle : w0.heap.size ≤ b4 := (hI.own _ (List.mem_cons_self ..) b4 rfl).resolve_left id
 have hB0 : IsB w0.heap.size b4 [] w := .of_blk hI.g0 hle
 refine Wx (fun ρ w => l.all evOkB = true ∧ Has ρ [(4, .pointer (some ⟨b4, 0, none⟩))] ∧ IsB w0.heap.size b4 (textE l) w ∧ Pure w0 w) ?_ ?_
 ·refine Wq (Vi rfl (Vs rfl yy28 rfl (V0 rfl (Wn (Wb ?_)))))
  refine Wl (fun mu ρ w => ∃ k : Nat, mu = l.length - k ∧ k ≤ l.length ∧ (l.take k).all evOkB = true ∧ Has ρ [(17, .int .i64 (k : Int)), (16, .int .i64 (l.length : Int)), (15, .slice A l.length c), (4, .pointer (some ⟨b4, 0, none⟩))] ∧ IsB w0.heap.size b4 (textE (l.take k)) w ∧ Pure w0 w) l.length
   ⟨0, rfl, by omega, rfl, ⟨rfl, rfl, rfl, rfl, trivial⟩, hB0, hI.pu⟩ ?_
  clear hI hB0 hle
  rintro mu ρ w9 ⟨k, rfl, hk, hok, hH, hB, hp⟩
  obtain ⟨σ, rfl⟩ := hH.open
  have hI := Inv.start (fun _ => False) w9
  by_cases hkl : k < l.length
  rotate_left
  ·obtain rfl : k = l.length := by omega
   rw [List.take_length] at hok hB
   refine Wq (Vr rfl (Wn (Ws (Wc false rfl ?_))))
   refine WE ?_
   exact ⟨hok, ⟨rfl, trivial⟩, hB, hp⟩
  obtain ⟨bA, oA, rfl, hoc⟩ := (h.pure hp).at hkl
  have hget := evAt_get hkl
  have htk : l.take (k + 1) = l.take k ++ [evAt l k] := by
   have := hget
   rw [List.getElem?_eq_getElem hkl] at this
   injection this with this
   rw [List.take_add_one, List.getElem?_eq_getElem hkl, this]; rfl
  have hG9 := hG.pure hp
  have hno : evOkB (evAt l k) = false → evT l = none := fun hf => by
   unfold evT
   refine if_neg fun h => ?_
   rw [List.all_eq_true.1 h.2 _ (List.mem_of_getElem? hget)] at hf
   cases hf
  have htxl := textE_len (l.take k) (evOk_all hok)
  have hlk : (l.take k).length = k := by rw [List.length_take]; omega
  generalize hpk : evAt l k = pk at hoc hno htk
  obtain ⟨e0, e1, e2, e3, e4, e5, e6⟩ := pk
  refine Wq (Vt rfl (Wn (Ws (Wc true rfl (Wk (Ws (Wb (Wq (V0 rfl (Tt 7 rfl yy28 rfl (Uo 7 rfl (by rfl) (fun k u hk => hI.oldp (hoc k u hk)) ?_)))))))))))
  refine T1 (.agg zI7) (zI7) hI rfl ?_
  rintro b6 w - - hI
  refine Vc rfl (T7 7 (#[_, _, _, _, _, _, _]) (.agg _) hI rfl ?_)
  intro w hI
  refine Wn ?_
  simp only [evL] at hI
  refine Wx (fun ρ w => evOkB ⟨e0, e1, e2, e3, e4, e5, e6⟩ = true ∧ Has ρ [(17, .int .i64 (k : Int)), (16, .int .i64 (l.length : Int)), (15, .slice (some ⟨bA, oA, none⟩) l.length c), (4, .pointer (some ⟨b4, 0, none⟩)), (6, .pointer (some ⟨b6, 0, none⟩))] ∧ Inv NF w9 w [B b6 70 #[.int .i64 e0, .int .i64 e1, .int .i64 e2, .int .i64 e3, .int .i64 e4, .int .i64 e5, .int .i64 e6]]) ?_ ?_
  ·refine Wx (fun ρ w => ∃ v7, Has ρ [(7, v7), (17, .int .i64 (k : Int)), (16, .int .i64 (l.length : Int)), (15, .slice (some ⟨bA, oA, none⟩) l.length c), (4, .pointer (some ⟨b4, 0, none⟩)), (6, .pointer (some ⟨b6, 0, none⟩)), (5, .int .i64 (k : Int))] ∧ Inv NF w9 w [B b6 70 #[.int .i64 e0, .int .i64 e1, .int .i64 e2, .int .i64 e3, .int .i64 e4, .int .i64 e5, .int .i64 e6]] ∧ ((evOkB ⟨e0, e1, e2, e3, e4, e5, e6⟩ = true ∧ v7 = .nilIface) ∨ (evOkB ⟨e0, e1, e2, e3, e4, e5, e6⟩ = false ∧ ∃ z : Int, v7 = .iface 45 (.int .i64 z)))) ?_ ?_
   ·refine Wr (Tu 7 rfl hI.g0 (Va [.agg _] rfl func43 rfl ?_))
    refine (check_any ⟨e0, e1, e2, e3, e4, e5, e6⟩ _).mono ?_
    rintro e w1 ⟨hp1, hr⟩
    obtain ⟨v7, rfl⟩ : ∃ v, e = .returned v := by rcases hr with ⟨_, rfl⟩ | ⟨_, x, _, rfl⟩ <;> exact ⟨_, rfl⟩
    refine rV ?_
    have hI := hI.pure hp1
    refine Tn rfl (Wn ?_)
    refine ⟨v7, ⟨rfl, rfl, rfl, rfl, rfl, rfl, rfl, trivial⟩, hI, ?_⟩
    rcases hr with ⟨q1, q2⟩ | ⟨q1, x, ⟨z, rfl⟩, q2⟩
    ·injection q2 with q2; exact .inl ⟨q1, q2⟩
    injection q2 with q2; exact .inr ⟨q1, z, q2⟩
   clear hI
   rintro ρ w ⟨v7, hH, hI, hv⟩
   obtain ⟨σ, rfl⟩ := hH.open
   rcases hv with ⟨hv, rfl⟩ | ⟨hv, z, rfl⟩
   ·refine Wq (T8 rfl (Te rfl yy34 rfl (Wn (Wc false rfl (Wk ?_)))))
    exact ⟨hv, ⟨rfl, rfl, rfl, rfl, rfl, trivial⟩, hI⟩
   refine Wq (Vy rfl (Tl rfl yy34 rfl (Wn (Wc true rfl (Wq (Vy rfl (V0 rfl (Va [_, .int .i64 _] rfl func46 rfl ?_))))))))
   refine (at_any z k _ (hG9.pure hI.pu).err).mono ?_
   rintro e w1 ⟨⟨b, rfl⟩, hp1⟩
   refine rV ?_
   have hI := hI.pure hp1
   refine T4 rfl (Vp rfl (Wn ?_))
   exact WR (r2_ 2 3 rfl (TextPost.no (hno hv) (Pure.trans hp hI.pu)))
  clear hI
  rintro ρ w ⟨hev, hH, hI⟩
  obtain ⟨σ, rfl⟩ := hH.open
  have he := EvOk.of hev
  obtain ⟨⟨p1, p2⟩, ⟨k1, k2⟩, ⟨t1, t2⟩, ⟨d1, d2⟩, ⟨a1, a2⟩, ⟨b1, b2⟩, ⟨r1, r2⟩⟩ := id he
  dsimp only at p1 p2 k1 k2 t1 t2 d1 d2 a1 a2 b1 b2 r1 r2
  obtain ⟨t, rfl⟩ : ∃ t : Nat, e1 = (t : Int) + 1 := ⟨(e1 - 1).toNat, by omega⟩
  obtain ⟨d, rfl⟩ : ∃ d : Nat, e3 = (d : Int) + 1 := ⟨(e3 - 1).toNat, by omega⟩
  generalize hpk2 : (⟨e0, (t : Int) + 1, e2, (d : Int) + 1, e4, e5, e6⟩ : Ev) = pk at he htk hev
  have hty : (typeWs.map strV).toArray[t]? = some (strV (tyW pk)) := by
   have h1 := he.tyAt
   subst hpk2
   rw [show (((t : Int) + 1) - 1).toNat = t by omega] at h1
   rw [List.getElem?_toArray, List.getElem?_map, h1]; rfl
  have hkd : (kindWs.map strV).toArray[d]? = some (strV (kdW pk)) := by
   have h1 := he.kdAt
   subst hpk2
   rw [show (((d : Int) + 1) - 1).toNat = d by omega] at h1
   rw [List.getElem?_toArray, List.getElem?_map, h1]; rfl
  refine Wx (fun ρ w => ∃ g, Has ρ [(8, .slice (some ⟨g, 0, none⟩) 3 3), (17, .int .i64 (k : Int)), (16, .int .i64 (l.length : Int)), (15, .slice (some ⟨bA, oA, none⟩) l.length c), (4, .pointer (some ⟨b4, 0, none⟩)), (6, .pointer (some ⟨b6, 0, none⟩))] ∧ Inv NF w9 w [B g 9 #[strV (Lib.itoa e0), strV (tyW pk), strV (kdW pk)], B b6 70 #[.int .i64 e0, .int .i64 ((t : Int) + 1), .int .i64 e2, .int .i64 ((d : Int) + 1), .int .i64 e4, .int .i64 e5, .int .i64 e6]]) ?_ ?_
  ·refine Wd (by kernel_rfl) ?_
   refine Wi (T := []) hI.drew ?_
   intro Sx hY hZ
   have hI := hI.drew
   refine Vf 0 0 rfl (Vd 1 (.int .i64 _) rfl (fun W hW => (hY W hW).c0 rfl) (Vf 4 1 rfl (Vd 5 (.int .i64 _) rfl (fun W hW => (hY W hW).c0 rfl) ?_)))
   refine Wt 6 rfl (fun W hW => have hI := hY W hW; (by exact rSub rfl rfl rfl (by omega))) ?_
   refine Vf 10 3 rfl (Vd 11 (.int .i64 _) rfl (fun W hW => (hY W hW).c0 rfl) ?_)
   refine Wt 12 rfl (fun W hW => have hI := hY W hW; (by exact rSub rfl rfl rfl (by omega))) ?_
   refine Vu 2 rfl ?_
   refine Va [.int .i64 _] rfl func22 rfl ?_
   refine (itoa_any e0 (by omega) (by omega) _ (hG9.pure hI.pu).num).mono (okP hI fun w1 hp1 hI => ?_)
   refine Wn ⟨hZ _ hI, ?_⟩
   refine Vu 3 rfl ?_
   refine Va [.string _] rfl func26 rfl ?_
   refine (fields_any typeS typeWs fields_typeS (by decide) typeS_ascii _ (hG9.pure hI.pu)).mono ?_
   rintro e w1 ⟨g1, rfl, hT⟩
   refine rV ?_
   have hI := hI.app1 hT
   refine Wn ⟨hZ _ hI.d0, ?_⟩
   refine Wt 7 rfl (fun W hW => have hI := hY W hW; (rIdx (sz := 1) (i := t) rfl yy72 (by kernel_rfl) rfl (congrArg (Value.int .i64) (by omega)) (by show _ < 4; omega))) ?_
   refine WT_two 8 9 rfl rfl (by kernel_rfl) rfl rfl ?_ ?_
   ·refine V5 (.string _) rfl (at_mul (hI.c0 hty)) ?_
    refine Wn ⟨hZ _ hI.d0, ?_⟩
    refine Vu 9 rfl ?_
    refine Va [.string _] rfl func26 rfl ?_
    refine (fields_any kindS kindWs fields_kindS (by decide) kindS_ascii _ (hG9.pure hI.pu)).mono ?_
    rintro e w1 ⟨g2, rfl, hT⟩
    refine rV ?_
    have hI := hI.app1 hT
    refine Wn ⟨hZ _ hI.d0.d0, ?_⟩
    refine Wt 13 rfl (fun W hW => have hI := hY W hW; (rIdx (sz := 1) (i := d) rfl yy72 (by kernel_rfl) rfl (congrArg (Value.int .i64) (by omega)) (by show _ < 12; omega))) ?_
    refine Vu 14 rfl ?_
    refine V5 (.string _) rfl (at_mul (hI.c0 hkd)) ?_
    refine Wn ⟨hZ _ hI.d0.d0, ?_⟩
    refine Vu 15 rfl ?_
    refine T3 [(0, .string _), (1, .string _), (2, .string _)] [_, _, _] [.string ⟨#[]⟩, .string ⟨#[]⟩, .string ⟨#[]⟩] [0, 1, 2] hI rfl yy72 (fun _ => by kernel_rfl) ?_
    rintro b44 w - - hI
    refine Wn ⟨hZ _ hI.d0.d0.d0, ?_⟩
    refine Ur 16 (hS_ := hZ _ hI.d0.d0.d0) rfl (We (by kernel_rfl) ?_)
    exact ⟨_, ⟨rfl, rfl, rfl, rfl, rfl, rfl, trivial⟩, hI.d1.d1⟩
   refine Va [.string _] rfl func26 rfl ?_
   refine (fields_any kindS kindWs fields_kindS (by decide) kindS_ascii _ (hG9.pure hI.pu)).mono ?_
   rintro e w1 ⟨g2, rfl, hT⟩
   refine rV ?_
   have hI := hI.app1 hT
   refine Wn ⟨hZ _ hI.d0.d0, ?_⟩
   refine Wt 13 rfl (fun W hW => have hI := hY W hW; (rIdx (sz := 1) (i := d) rfl yy72 (by kernel_rfl) rfl (congrArg (Value.int .i64) (by omega)) (by show _ < 12; omega))) ?_
   refine WT_two 8 14 rfl rfl (by kernel_rfl) rfl rfl ?_ ?_
   ·refine V5 (.string _) rfl (at_mul (hI.c1 hty)) ?_
    refine Wn ⟨hZ _ hI.d0.d0, ?_⟩
    refine Vu 14 rfl ?_
    refine V5 (.string _) rfl (at_mul (hI.c0 hkd)) ?_
    refine Wn ⟨hZ _ hI.d0.d0, ?_⟩
    refine Vu 15 rfl ?_
    refine T3 [(0, .string _), (1, .string _), (2, .string _)] [_, _, _] [.string ⟨#[]⟩, .string ⟨#[]⟩, .string ⟨#[]⟩] [0, 1, 2] hI rfl yy72 (fun _ => by kernel_rfl) ?_
    rintro b44 w - - hI
    refine Wn ⟨hZ _ hI.d0.d0.d0, ?_⟩
    refine Ur 16 (hS_ := hZ _ hI.d0.d0.d0) rfl (We (by kernel_rfl) ?_)
    exact ⟨_, ⟨rfl, rfl, rfl, rfl, rfl, rfl, trivial⟩, hI.d1.d1⟩
   refine V5 (.string _) rfl (at_mul (hI.c0 hkd)) ?_
   refine Wn ⟨hZ _ hI.d0.d0, ?_⟩
   refine Vu 8 rfl ?_
   refine V5 (.string _) rfl (at_mul (hI.c1 hty)) ?_
   refine Wn ⟨hZ _ hI.d0.d0, ?_⟩
   refine Vu 15 rfl ?_
   refine T3 [(0, .string _), (1, .string _), (2, .string _)] [_, _, _] [.string ⟨#[]⟩, .string ⟨#[]⟩, .string ⟨#[]⟩] [0, 1, 2] hI rfl yy72 (fun _ => by kernel_rfl) ?_
   rintro b44 w - - hI
   refine Wn ⟨hZ _ hI.d0.d0.d0, ?_⟩
   refine Ur 16 (hS_ := hZ _ hI.d0.d0.d0) rfl (We (by kernel_rfl) ?_)
   exact ⟨_, ⟨rfl, rfl, rfl, rfl, rfl, rfl, trivial⟩, hI.d1.d1⟩
  clear hI
  rintro ρ w ⟨g, hH, hI⟩
  obtain ⟨σ, rfl⟩ := hH.open
  have hw7 : (wordsE pk).length = 7 := rfl
  replace hI := inv_rowOf hI 3 rfl (by omega)
  have hw3 : #[strV (Lib.itoa e0), strV (tyW pk), strV (kdW pk)].toList = ((wordsE pk).take (3 + 0)).map strV := by subst hpk2; rfl
  rw [hw3] at hI
  refine Wx (fun ρ w => ∃ A' c', Has ρ [(8, .slice A' 7 c'), (17, .int .i64 (k : Int)), (16, .int .i64 (l.length : Int)), (15, .slice (some ⟨bA, oA, none⟩) l.length c), (4, .pointer (some ⟨b4, 0, none⟩))] ∧ Inv NF w9 w [Row 0 9 1 A' 7 c' ((wordsE pk).map strV)]) ?_ ?_
  ·refine Wq (V7 2 rfl (V5 (.int .i64 _) rfl (hI.c1 rfl) (V7 4 rfl (V5 (.int .i64 _) rfl (hI.c1 rfl) (V7 5 rfl (V5 (.int .i64 _) rfl (hI.c1 rfl) (V7 6 rfl (V5 (.int .i64 _) rfl (hI.c1 rfl) (T3 [(0, .int .i64 _), (1, .int .i64 _), (2, .int .i64 _), (3, .int .i64 _)] [_, _, _, _] [.int .i64 0, .int .i64 0, .int .i64 0, .int .i64 0] [0, 1, 2, 3] hI rfl yy26 (fun _ => by kernel_rfl) ?_)))))))))
   rintro b53 w - - hI
   refine Vs rfl yy26 rfl (V0 rfl (Wn (Wb ?_)))
   refine Wl (fun mu ρ w => ∃ (j : Nat) (A' : Option Addr) (c' : Nat), mu = 4 - j ∧ j ≤ 4 ∧ Has ρ [(55, .int .i64 (j : Int)), (54, .int .i64 4), (53, .slice (some ⟨b53, 0, none⟩) 4 4), (8, .slice A' (3 + j) c'), (17, .int .i64 (k : Int)), (16, .int .i64 (l.length : Int)), (15, .slice (some ⟨bA, oA, none⟩) l.length c), (4, .pointer (some ⟨b4, 0, none⟩))] ∧ Inv NF w9 w [B b53 3 #[.int .i64 e2, .int .i64 e4, .int .i64 e5, .int .i64 e6], Row 0 9 1 A' (3 + j) c' (((wordsE pk).take (3 + j)).map strV)]) 4
    ⟨0, _, _, rfl, by omega, ⟨rfl, rfl, rfl, rfl, rfl, rfl, rfl, rfl, trivial⟩, hI.d2⟩ ?_
   clear hI
   rintro mu ρ w ⟨j, A', c', rfl, hj, hH, hI⟩
   obtain ⟨σ, rfl⟩ := hH.open
   by_cases hj4 : j < 4
   rotate_left
   ·obtain rfl : j = 4 := by omega
    refine Wq (Vr rfl (Wn (Ws (Wc false rfl ?_))))
    refine WE ?_
    exact ⟨A', c', ⟨rfl, rfl, rfl, rfl, rfl, trivial⟩, hI.d0⟩
   obtain ⟨z, hz, hzw, hz1, hz2⟩ : ∃ z : Int, (#[.int .i64 e2, .int .i64 e4, .int .i64 e5, .int .i64 e6] : Array Value)[j]? = some (.int .i64 z) ∧ (wordsE pk)[3 + j]? = some (Lib.itoa z) ∧ -1000000 ≤ z ∧ z ≤ 1000000 := by
    subst hpk2
    match j, hj4 with
    | 0, _ => exact ⟨e2, rfl, rfl, by omega, by omega⟩
    | 1, _ => exact ⟨e4, rfl, rfl, a1, a2⟩
    | 2, _ => exact ⟨e5, rfl, rfl, b1, b2⟩
    | 3, _ => exact ⟨e6, rfl, rfl, r1, r2⟩
   have hnext : ((wordsE pk).take (3 + (j + 1))).map strV = ((wordsE pk).take (3 + j)).map strV ++ [strV (Lib.itoa z)] := by
    rw [show 3 + (j + 1) = (3 + j) + 1 by omega, List.take_add_one, hzw, List.map_append]; rfl
   refine Wq (Vt rfl (Wn (Ws (Wc true rfl (Wk (Ws (Wb (Wq (Tp rfl yy26 rfl (V5 (.int .i64 _) rfl (hI.c0 hz) (Vc rfl ?_)))))))))))
   refine Wn (Wr (Vi rfl (V0 rfl (Va [.int .i64 _] rfl func22 rfl ?_))))
   refine (itoa_any z (by omega) (by omega) _ (hG9.pure hI.pu).num).mono (okP hI fun w1 hp1 hI => ?_)
   refine T3 [(0, .string _)] [_] [.string ⟨#[]⟩] [0] hI rfl yy72 (fun _ => by kernel_rfl) ?_
   rintro b62 w - - hI
   refine WL_app2 (z := .string ⟨#[]⟩) (by_ := 16) hI rfl rfl rfl rfl rfl rfl yy72 (by kernel_rfl) rfl (by omega) (by rfl) hI.lit0 (by rfl) (by omega) (by omega) (by exact Nat.zero_le _) ?_
   rintro A63 c63 w hA63 hc63 hI
   have hI := hI.d0
   refine Vo rfl (Wn (Wr (Vv rfl (V0 rfl (Wn ?_)))))
   refine ⟨4 - (j + 1), by omega, j + 1, A63, c63, rfl, by omega, ⟨rfl, rfl, rfl, rfl, rfl, rfl, rfl, rfl, trivial⟩, ?_⟩
   rw [hnext]
   exact hI
  clear hI
  rintro ρ w ⟨A', c', hH, hI⟩
  obtain ⟨σ, rfl⟩ := hH.open
  obtain ⟨g7, o7, rfl⟩ := row_addrS hI.g0 (by omega) (by omega)
  have hcells := fun (i : Nat) (x : List UInt8) (hx : (wordsE pk)[i]? = some x) => row_cellS hI.g0 (i := i) (u := strV x) (by rw [List.getElem?_map, hx]; rfl) (by omega)
  obtain ⟨hg7c, _⟩ : 7 ≤ c' ∧ True := ⟨(row_openB hI.g0 (by omega)).choose_spec.choose_spec.2.2.2.1, trivial⟩
  have hlin := lineE_len he
  have hg7l : g7 < w.heap.size := World.block_lt_of_cell? w _ (hcells 0 _ rfl)
  refine Wr (Vi rfl (Va [.slice _ _ _, .string _] rfl func27 rfl ?_))
  refine (join_any g7 o7 c' (wordsE pk) _ hcells hg7l (by omega) (by omega) (by show (lineE pk).length ≤ _; omega)).mono (okP hI fun w1 hp1 hI => ?_)
  refine Wv rfl (rStrAdd rfl rfl rfl (by show (lineE pk).length + 1 ≤ _; omega)) ?_
  refine Va [.pointer _, .string _] rfl func54 rfl ?_
  refine (wrs_any w0.heap.size b4 _ (lineE pk ++ [10]) _ (hB.pure hI.pu) (by rw [List.length_append]; show _ + ((lineE pk).length + 1) ≤ _; omega) (Pure.trans hp hI.pu).size).mono ?_
  rintro e w1 ⟨⟨v, rfl⟩, hB1, hb1⟩
  refine rV ?_
  replace hp := Below.trans (Pure.trans hp hI.pu) hb1
  have hI := Inv.start (fun _ => False) w1
  refine Wn (Wr (Vv rfl (V0 rfl (Wn ?_))))
  exact ⟨l.length - (k + 1), by omega, k + 1, rfl, by omega, by rw [htk, List.all_append, hok]; simpa using hev, ⟨rfl, rfl, rfl, rfl, trivial⟩, by rw [htk, textE_snoc]; exact hB1, hp⟩
 clear hI hB0
 rintro ρ w ⟨hall, hH, hB, hp⟩
 obtain ⟨σ, rfl⟩ := hH.open
 have hI := Inv.start (fun _ => False) w
 refine Wq (Va [.pointer _] rfl func55 rfl ?_)
 refine (bstr_any w0.heap.size b4 _ _ hB hp.size).mono ?_
 rintro e w1 ⟨rfl, hb1⟩
 refine rV ?_
 replace hp := Below.trans hp hb1
 refine T4 rfl (Vj rfl (Wn ?_))
 refine WR ?_
 refine r2_ 2 3 rfl ?_
 unfold TextPost evT
 rw [if_pos ⟨h120, hall⟩]
 exact ⟨hp, rfl⟩
section
variable {S : Nat → Prop} {w0 w : World} {H : List Ent}
theorem Inv.addE (h : Inv S w0 w H) : Inv S w0 w (⟨fun _ => False, fun _ => True⟩ :: H) :=
 h.fresh (Pure.refl _) (Ent.mk_ok trivial (fun k hk => hk.elim) (fun _ _ _ _ _ _ => trivial)) (fun k hk => hk.elim)
theorem wjoin_any (A : Option Addr) (c n : Nat) (ws : List (List UInt8)) (hn : ws.length = n) (hN : n ≤ 100) (hlen : (Lib.join ws [32]).length ≤ 100000) (hI : Inv S w0 w (Win 9 1 A n c (ws.map strV) :: H)) :
  Cq 27 #[.slice A n c, strV [32]] w fun e w' => e = .returned (strV (Lib.join ws [32])) ∧ Pure w w' := by
 cases ws with
 | nil =>
  subst hn
  refine (Any.strings_Join_none lays156 extra156 A c (byB [32]) w).mono ?_
  rintro e w' ⟨rfl, rfl⟩
  exact ⟨rfl, Pure.refl _⟩
 | cons x ws =>
  obtain ⟨g, o, rfl, hc0⟩ := hI.winGet (j := 0) (u := strV x) rfl
  have hW := (hI.ok _ (List.mem_cons_self ..)).1
  obtain ⟨-, hnc, -, -⟩ := hW
  have hcells : ∀ (j : Nat) y, (x :: ws)[j]? = some y → w.cell? ⟨g, o + j, none⟩ = some (strV y) := fun j y hy => by
   obtain ⟨g', o', hA, hc⟩ := hI.winGet (j := j) (u := strV y) (strV_at hy)
   injection hA with hA
   injection hA with h1 h2
   subst h1 h2
   exact hc
  subst hn
  exact join_any g o c (x :: ws) w hcells (World.block_lt_of_cell? w _ hc0) (by omega) hnc hlen
end
def itoL (l : List Nat) : List (List UInt8) := l.map fun n : Nat => Lib.itoa (n : Int)
theorem itoL_next {l : List Nat} {k n : Nat} (h : l[k]? = some n) : ((itoL (l.take k)).map strV) ++ [strV (Lib.itoa (n : Int))] = (itoL (l.take (k + 1))).map strV := by
 obtain ⟨hk, rfl⟩ := List.getElem?_eq_some_iff.1 h
 unfold itoL
 rw [List.take_add_one, List.getElem?_eq_getElem hk]
 simp only [Option.toList_some, List.map_append, List.map_cons, List.map_nil]
theorem ordS_len : ∀ (l : List Nat), (∀ n ∈ l, n ≤ 1000000) → (ordS l).length ≤ 9 * l.length := by
 intro l h
 unfold ordS
 cases l with
 | nil => rw [List.map_nil, Lib.join_nil]; exact Nat.zero_le _
 | cons a l =>
  rw [List.map_cons, Lib.join_cons, List.length_append, List.length_cons]
  have h1 := itoaT_len (n := (a : Int)) (by omega) (by have := h a List.mem_cons_self; omega)
  have h2 : ∀ (r : List Nat), (∀ n ∈ r, n ≤ 1000000) → (Lib.joinTail [32] (r.map fun n : Nat => Lib.itoa (n : Int))).length ≤ 9 * r.length := by
   intro r hr
   induction r with
   | nil => exact Nat.zero_le _
   | cons b r ih =>
    have h3 := itoaT_len (n := (b : Int)) (by omega) (by have := hr b List.mem_cons_self; omega)
    have h4 := ih fun n hn => hr n (List.mem_cons_of_mem _ hn)
    unfold Lib.joinTail at h4 ⊢
    rw [List.map_cons, List.map_cons, List.flatten_cons, List.length_append, List.length_append, List.length_cons]
    simp only [List.length_cons, List.length_nil]
    omega
  have h5 := h2 l fun n hn => h n (List.mem_cons_of_mem _ hn)
  omega
set_option maxRecDepth 4000 in
theorem page_any (title : List UInt8) (ht : title.length ≤ 1000) (evs : List Ev) (A1 : Option Addr) (c1 : Nat) (hev : evT evs = some (textE evs)) (hevl : (textE evs).length ≤ 10000) (z : Nat) (hz : z < 3) (ord : List Nat) (hol : ord.length ≤ 40) (hob : ∀ n ∈ ord, n ≤ 1000000) (A2 : Option Addr) (c2 : Nat) (en : Nat) (hen : en ≤ 1000000) (D1 D2 : Nat → Prop) (w0 : World)
  (hE : EvsR w0 D1 (.slice A1 evs.length c1) evs) (hO : Rd w0 D2 1 (.slice A2 ord.length c2) ord.length (ord.map fun n : Nat => Value.int .i64 (n : Int))) (hG : TxG w0) :
  Cq 7 #[.agg #[strV title, .slice A1 evs.length c1, .int .i64 ((z + 1 : Nat) : Int), .slice A2 ord.length c2, .int .i64 (en : Int)]] w0 fun e w' => e = .returned (.tuple #[strV (pageF title z en ord (textE evs)), .nilIface]) ∧ Pure w0 w' := by
 have hI := Inv.start (fun _ => False) w0
 refine Vn func7 rfl ?_
 refine Wq (Tb (.agg _) (#[_, _, _, _, _]) hI rfl ?_)
 rintro b1 w - - hI
 refine T4 rfl (Vj rfl (Wn (Wq (V7 1 rfl (V5 (.slice _ _ _) rfl (hI.c0 rfl) (Va [.slice _ _ _] rfl func21 rfl ?_))))))
 refine (text_any A1 evs.length c1 evs D1 _ (Rd.pure hE hI.pu) (hG.pure hI.pu)).mono ?_
 rw [hev]
 rintro e w1 ⟨hp, rfl⟩
 refine rV ?_
 have hI := hI.pure hp
 refine Vz rfl (Vg rfl (Vg rfl (T4 rfl (Vj rfl (Wn (Ws (Wb (Wq (T8 rfl (Te rfl yy34 rfl (V8 rfl (Wn ?_))))))))))))
 refine Wc false rfl (Wq (V7 2 rfl (Tj rfl (V5 (.int .i64 _) rfl (hI.c0 rfl) (Vr rfl (V6 rfl (V7 2 rfl (Tj rfl (V5 (.int .i64 _) rfl (hI.c0 rfl) (Tc rfl (Ve rfl (V6 rfl ?_))))))))))))
 refine V7 2 rfl (Tf 1 rfl (V5 (.slice _ _ _) rfl (hI.c0 rfl) (Vs rfl yy26 rfl (Tc rfl (Ve rfl (V6 rfl (V7 0 rfl (V5 (.string _) rfl (hI.c0 rfl) (T0 rfl yy9 rfl (Tc rfl (Ve rfl (V8 rfl (Wn ?_)))))))))))))
 refine Wc false rfl (Wk (Wq (Vo rfl (Wn ?_))))
 obtain ⟨RP, hRP⟩ : ∃ RP : Array Value, RP = #[strV title, .slice A1 evs.length c1, .int .i64 ((z + 1 : Nat) : Int), .slice A2 ord.length c2, .int .i64 (en : Int)] := ⟨_, rfl⟩
 have hI := hI.fresh (Pure.refl _) (Win.ok (e := 9) (size := 1) (A := none) (n := 0) (c := 0) (xs := []) ⟨rfl, Nat.le_refl _, by omega, .inl ⟨rfl, rfl⟩⟩) (fun k hk => by cases hk)
 refine Wx (fun ρ w => ∃ A c, Has ρ [(6, .slice A ord.length c), (4, strV (textE evs)), (1, at0 b1)] ∧ Inv NF w0 w [Win 9 1 A ord.length c ((itoL ord).map strV), B b1 32 #[strV title, .slice A1 evs.length c1, .int .i64 ((z + 1 : Nat) : Int), .slice A2 ord.length c2, .int .i64 (en : Int)]]) ?_ ?_
 ·refine Wq (V7 2 rfl (Tf 1 rfl (V5 (.slice _ _ _) rfl (hI.c1 rfl) (Vs rfl yy26 rfl (V0 rfl (Wn (Wb ?_)))))))
  refine Wl (fun mu ρ w => ∃ (k : Nat) (A : Option Addr) (c : Nat), mu = ord.length - k ∧ k ≤ ord.length ∧ Has ρ [(50, .int .i64 (k : Int)), (49, .int .i64 (ord.length : Int)), (48, .slice A2 ord.length c2), (6, .slice A k c), (4, strV (textE evs)), (1, at0 b1)] ∧ Inv NF w0 w [Win 9 1 A k c ((itoL (ord.take k)).map strV), B b1 32 #[strV title, .slice A1 evs.length c1, .int .i64 ((z + 1 : Nat) : Int), .slice A2 ord.length c2, .int .i64 (en : Int)]]) ord.length
   ⟨0, none, 0, rfl, by omega, ⟨rfl, rfl, rfl, rfl, rfl, rfl, trivial⟩, hI⟩ ?_
  clear hI
  rintro mu ρ w ⟨k, A, c, rfl, hk, hH, hI⟩
  obtain ⟨σ, rfl⟩ := hH.open
  by_cases hkl : k < ord.length
  rotate_left
  ·obtain rfl : k = ord.length := by omega
   rw [List.take_length] at hI
   refine Wq (Vr rfl (Wn (Ws (Wc false rfl ?_))))
   refine WE ?_
   exact ⟨A, c, ⟨rfl, rfl, rfl, trivial⟩, hI⟩
  obtain ⟨n, hn⟩ : ∃ n, ord[k]? = some n := ⟨_, List.getElem?_eq_getElem hkl⟩
  have hnb := hob n (List.mem_of_getElem? hn)
  obtain ⟨b, o, hA2, _, _, hc⟩ := Rd.get hO (k := k) (u := .int .i64 (n : Int)) (by rw [List.getElem?_map, hn]; rfl) (by omega)
  subst hA2
  refine Wq (Vt rfl (Wn (Ws (Wc true rfl (Wk (Ws (Wb (Wq (U8 rfl yy26 rfl (V5 (.int .i64 _) rfl (hI.oldp hc) (Vc rfl ?_)))))))))))
  refine Wn (Wr (Vi rfl (V0 rfl (Va [.int .i64 _] rfl func22 rfl ?_))))
  refine (itoa_any (n : Int) (by omega) (by omega) _ (hG.pure hI.pu).num).mono (okP hI fun w1 hp hI => ?_)
  refine T3 [(0, .string _)] [_] [.string ⟨#[]⟩] [0] hI rfl yy72 (fun _ => by kernel_rfl) ?_
  rintro b57 w - - hI
  have hsrc := src_blk yy72 (news := [strV (Lib.itoa (n : Int))]) hI.g0 (fun v hv => by rw [List.mem_singleton.1 hv]; rfl)
  have hI := hI.d0
  refine WL_appW (z := .string ⟨#[]⟩) (by_ := 16) (news := [strV (Lib.itoa (n : Int))]) _ hI rfl rfl rfl rfl rfl rfl yy72 (by kernel_rfl) rfl (by omega) hsrc (by show k + 1 ≤ _; omega) (by show (k + 1) * _ ≤ _; omega) ?_
  rintro A' c' w hc3 hc4 hI
  rw [itoL_next hn] at hI
  refine Vo rfl (Wn (Wr (Vv rfl (V0 rfl (Wn ?_)))))
  exact ⟨ord.length - (k + 1), by omega, k + 1, _, _, rfl, by omega, ⟨rfl, rfl, rfl, rfl, rfl, rfl, trivial⟩, hI⟩
 clear hI
 rintro ρ w ⟨A, c, hH, hI⟩
 obtain ⟨σ, rfl⟩ := hH.open
 refine Wx (fun ρ w => Has ρ [(9, strV (escF title)), (6, .slice A ord.length c), (4, strV (textE evs)), (1, at0 b1)] ∧ Inv NF w0 w [Win 9 1 A ord.length c ((itoL ord).map strV), B b1 32 #[strV title, .slice A1 evs.length c1, .int .i64 ((z + 1 : Nat) : Int), .slice A2 ord.length c2, .int .i64 (en : Int)]]) ?_ ?_
 ·refine Wd (by kernel_rfl) ?_
  refine Wi (T := []) hI.drew ?_
  intro Sx hY hZ
  have hI := hI.drew
  refine Vf 2 0 rfl (Vd 3 (.string _) rfl (fun W hW => (hY W hW).c1 rfl) (Vu 0 rfl ?_))
  refine Va [] rfl func24 rfl ?_
  refine (escapes_any _).mono ?_
  rintro e w1 ⟨g, rfl, hT⟩
  refine rV ?_
  have hI := hI.app1 hT
  refine Wn ⟨hZ _ hI.d0, ?_⟩
  refine Vu 1 rfl ?_
  refine Va [.slice _ _ _] rfl func23 rfl ?_
  refine (newrep_any _ (fun _ => True) _ _ _ _ 10 escL rfl (Rd.of_own (inv_rowOf hI 10 rfl (by omega)).g0 (fun _ _ _ => trivial)) hI).mono ?_
  rintro e w1 ⟨r, A', c', rfl, hJ⟩
  refine rV ?_
  clear hI
  have hI := hJ.d2
  clear hJ
  refine Wn ⟨hZ _ hI.d0.d0, ?_⟩
  refine Vu 4 rfl ?_
  refine Va [.pointer _, .string _] rfl func25 rfl ?_
  refine (rplc_esc title ht r A' c' hI).mono ?_
  rintro e w1 ⟨rfl, hJ⟩
  refine rV ?_
  clear hI
  have hI := hJ.addE.addE
  clear hJ
  refine Wn ⟨hZ _ hI.d0.d0, ?_⟩
  refine Wt 5 rfl (fun W hW => have hI := hY W hW; (by exact rAsgnStr rfl rfl)) ?_
  refine We (by kernel_rfl) ?_
  exact ⟨⟨rfl, rfl, rfl, rfl, trivial⟩, hI.d0.d0⟩
 clear hI
 rintro ρ w ⟨hH, hI⟩
 obtain ⟨σ, rfl⟩ := hH.open
 have hcd : (codeWs.map strV).toArray[z]? = some (strV (codeW z)) := by
  rw [List.getElem?_toArray]
  exact strV_at (codeW_ok z hz).2.2.2
 have hcl := (codeW_ok z hz).2.2.1
 have hil := itoaT_len (n := (en : Int)) (by omega) (by omega)
 have hv1 : (codeW z).length + [(32 : UInt8)].length ≤ 9223372036854775807 := by simp only [List.length_cons, List.length_nil]; omega
 have hv2 : (codeW z ++ [(32 : UInt8)]).length + (Lib.itoa (en : Int)).length ≤ 9223372036854775807 := by simp only [List.length_append, List.length_cons, List.length_nil]; omega
 refine Wx (fun ρ w => Has ρ [(10, strV (verdS z en)), (9, strV (escF title)), (6, .slice A ord.length c), (4, strV (textE evs)), (1, at0 b1)] ∧ Inv NF w0 w [Win 9 1 A ord.length c ((itoL ord).map strV), B b1 32 #[strV title, .slice A1 evs.length c1, .int .i64 ((z + 1 : Nat) : Int), .slice A2 ord.length c2, .int .i64 (en : Int)]]) ?_ ?_
 ·refine Wd (by kernel_rfl) ?_
  refine Wi (T := []) hI.drew ?_
  intro Sx hY hZ
  have hI := hI.drew
  refine Vf 1 2 rfl (U9 2 rfl (Vd 3 (.int .i64 _) rfl (fun W hW => (hY W hW).c1 rfl) ?_))
  refine Wt 4 rfl (fun W hW => have hI := hY W hW; (rSubNN (a := z + 1) (b := 1) rfl rfl rfl (by omega) (by omega))) ?_
  refine Vf 8 2 rfl (Th 9 2 rfl (Vd 10 (.int .i64 _) rfl (fun W hW => (hY W hW).c1 rfl) (Vu 0 rfl ?_)))
  refine Va [.string _] rfl func26 rfl ?_
  refine (fields_any codeS codeWs fields_codeS (by decide) codeS_ascii _ (hG.pure hI.pu)).mono ?_
  rintro e w1 ⟨g1, rfl, hT⟩
  refine rV ?_
  have hI := hI.app1 hT
  refine Wn ⟨hZ _ hI.d0, ?_⟩
  refine Wt 5 rfl (fun W hW => have hI := hY W hW; (rIdx (sz := 1) (i := z) rfl yy72 (by kernel_rfl) rfl (congrArg (Value.int .i64) (by omega)) (by show _ < 3; omega))) ?_
  refine WT_two 6 11 rfl rfl (by kernel_rfl) rfl rfl ?_ ?_
  ·refine V5 (.string _) rfl (at_mul (hI.c0 hcd)) ?_
   refine Wn ⟨hZ _ hI.d0, ?_⟩
   refine Wt 7 rfl (fun W hW => have hI := hY W hW; (rStrAdd rfl rfl rfl hv1)) ?_
   refine Vu 11 rfl ?_
   refine Va [.int .i64 _] rfl func22 rfl ?_
   refine (itoa_any (en : Int) (by omega) (by omega) _ (hG.pure hI.pu).num).mono (okP hI fun w1 hp1 hI => ?_)
   refine Wn ⟨hZ _ hI.d0, ?_⟩
   refine Wt 12 rfl (fun W hW => have hI := hY W hW; (rStrAdd rfl rfl rfl hv2)) ?_
   refine Wt 13 rfl (fun W hW => have hI := hY W hW; (by exact rAsgnStr rfl rfl)) ?_
   refine We (by kernel_rfl) ?_
   exact ⟨⟨by show strV (codeW z ++ [32] ++ Lib.itoa (en : Int)) = strV (verdS z en); rw [List.append_assoc]; rfl, rfl, rfl, rfl, rfl, trivial⟩, hI.d0⟩
  refine Va [.int .i64 _] rfl func22 rfl ?_
  refine (itoa_any (en : Int) (by omega) (by omega) _ (hG.pure hI.pu).num).mono (okP hI fun w1 hp1 hI => ?_)
  refine Wn ⟨hZ _ hI.d0, ?_⟩
  refine Vu 6 rfl ?_
  refine V5 (.string _) rfl (at_mul (hI.c0 hcd)) ?_
  refine Wn ⟨hZ _ hI.d0, ?_⟩
  refine Wt 7 rfl (fun W hW => have hI := hY W hW; (rStrAdd rfl rfl rfl hv1)) ?_
  refine Wt 12 rfl (fun W hW => have hI := hY W hW; (rStrAdd rfl rfl rfl hv2)) ?_
  refine Wt 13 rfl (fun W hW => have hI := hY W hW; (by exact rAsgnStr rfl rfl)) ?_
  refine We (by kernel_rfl) ?_
  exact ⟨⟨by show strV (codeW z ++ [32] ++ Lib.itoa (en : Int)) = strV (verdS z en); rw [List.append_assoc]; rfl, rfl, rfl, rfl, rfl, trivial⟩, hI.d0⟩
 clear hI
 rintro ρ w ⟨hH, hI⟩
 obtain ⟨σ, rfl⟩ := hH.open
 have hel := (escF_len title).2
 have hor := ordS_len ord hob
 have q1 : hBg.length + (escF title).length ≤ 9223372036854775807 := by have : hBg.length = 4 := rfl; omega
 have q2 : (hBg ++ escF title).length + eHd.length ≤ 9223372036854775807 := by have : hBg.length = 4 := rfl; have : eHd.length = 9 := rfl; rw [List.length_append]; omega
 have hvl : (verdS z en).length ≤ 30 := by unfold verdS; rw [List.length_append, List.length_cons]; omega
 have q3 : (hBg ++ escF title ++ eHd).length + (verdS z en).length ≤ 9223372036854775807 := by have : hBg.length = 4 := rfl; have : eHd.length = 9 := rfl; simp only [List.length_append]; omega
 have q4 : (hBg ++ escF title ++ eHd ++ verdS z en).length + ePt.length ≤ 9223372036854775807 := by have : hBg.length = 4 := rfl; have : eHd.length = 9 := rfl; have : ePt.length = 8 := rfl; simp only [List.length_append]; omega
 have q5 : (hBg ++ escF title ++ eHd ++ verdS z en ++ ePt).length + (ordS ord).length ≤ 9223372036854775807 := by have : hBg.length = 4 := rfl; have : eHd.length = 9 := rfl; have : ePt.length = 8 := rfl; simp only [List.length_append]; omega
 have q6 : (hBg ++ escF title ++ eHd ++ verdS z en ++ ePt ++ ordS ord).length + bTx.length ≤ 9223372036854775807 := by have : hBg.length = 4 := rfl; have : eHd.length = 9 := rfl; have : ePt.length = 8 := rfl; have : bTx.length = 11 := rfl; simp only [List.length_append]; omega
 have q7 : (hBg ++ escF title ++ eHd ++ verdS z en ++ ePt ++ ordS ord ++ bTx).length + (textE evs).length ≤ 9223372036854775807 := by have : hBg.length = 4 := rfl; have : eHd.length = 9 := rfl; have : ePt.length = 8 := rfl; have : bTx.length = 11 := rfl; simp only [List.length_append]; omega
 have q8 : (hBg ++ escF title ++ eHd ++ verdS z en ++ ePt ++ ordS ord ++ bTx ++ textE evs).length + eTx.length ≤ 9223372036854775807 := by have : hBg.length = 4 := rfl; have : eHd.length = 9 := rfl; have : ePt.length = 8 := rfl; have : bTx.length = 11 := rfl; have : eTx.length = 7 := rfl; simp only [List.length_append]; omega
 refine Wq (Vh rfl ?_)
 refine Wv rfl (rStrAdd (l := hBg) rfl rfl rfl q1) ?_
 refine Wv rfl (rStrAdd (m := eHd) rfl rfl rfl q2) ?_
 refine Vh rfl ?_
 refine Wv rfl (rStrAdd rfl rfl rfl q3) ?_
 refine Wv rfl (rStrAdd (m := ePt) rfl rfl rfl q4) ?_
 refine Vi rfl (Va [.slice _ _ _, .string _] rfl func27 rfl ?_)
 refine (wjoin_any A c ord.length (itoL ord) (by simp [itoL]) (by omega) (by show (ordS ord).length ≤ _; omega) hI).mono (okP hI fun w1 hp1 hI => ?_)
 refine Wv rfl (rStrAdd rfl rfl rfl q5) ?_
 refine Wv rfl (rStrAdd (m := bTx) rfl rfl rfl q6) ?_
 refine Vh rfl ?_
 refine Wv rfl (rStrAdd rfl rfl rfl q7) ?_
 refine Wv rfl (rStrAdd (m := eTx) rfl rfl rfl q8) ?_
 refine T4 rfl (Vj rfl (Wn ?_))
 exact WR (r2_ 2 3 rfl ⟨rfl, hI.pu⟩)
theorem spc_any (x : Nat) (w0 : World) : Cq 164 #[.int .i32 (x : Int)] w0 fun e w' => e = .returned (.bool (spP x)) ∧ w' = w0 := by
 have hI := Inv.start (fun _ => False) w0
 refine Vn func164 rfl ?_
 refine Wq (V8 rfl (Wn (Wq (V0 rfl ?_))))
 refine Wv rfl (rEql rfl rfl rfl) ?_
 refine V8 rfl (Wn ?_)
 refine WR ?_
 refine r1_ 2 rfl ⟨?_, rfl⟩
 show Ending.returned (.bool (decide ((x : Int) = 32))) = _
 unfold spP
 congr 2
 by_cases h : x = 32
 ·subst h; rfl
 rw [decide_eq_false (by omega), beq_eq_false_iff_ne.2 h]
def piecesV (l : List Ev) : Array Value := ((l.map lineE ++ [[]]).map strV).toArray
theorem split_any (l : List Ev) (hl : l.length ≤ 120) (h : ∀ e ∈ l, EvOk e) (w : World) (hM : MaxOk w) :
  Cq 49 #[strV (textE l), strV [10]] w fun e w' => ∃ g, e = .returned (.slice (some ⟨g, 0, none⟩) (l.length + 1) (l.length + 1)) ∧ Inv NF w w' [B g 9 (piecesV l)] := by
 obtain ⟨m, hm⟩ := hM
 have hs : (⟨(textE l).toArray⟩ : ByteArray).size = (textE l).length := str_size _
 have ht := textE_len l h
 refine (Any.strings_Split { laysM146 with } laysM146.i9 ⟨(textE l).toArray⟩ ⟨#[10]⟩ m w (by omega) hm (by decide)).mono ?_
 rintro e w' ⟨rfl, rfl⟩
 rw [text_split l h, text_count l h, List.map_map]
 exact ⟨_, rfl, (Inv.start (fun _ => False) w).box _ _⟩
theorem ffunc_any (s : List UInt8) (ws : List (List UInt8)) (hs : s.length ≤ 100000) (hf : Lib.goFieldsP spP ⟨s.toArray⟩ = ws.map fun (w : List UInt8) => (⟨w.toArray⟩ : ByteArray)) (w : World) :
  Cq 59 #[strV s, .func (.func 164) #[] #[]] w fun e w' => ∃ g, e = .returned (.slice (some ⟨g, 0, none⟩) ws.length ws.length) ∧ Inv NF w w' [Row w.heap.size 9 1 (some ⟨g, 0, none⟩) ws.length ws.length (ws.map strV)] := by
 have hz : (⟨s.toArray⟩ : ByteArray).size = s.length := str_size s
 refine (Any.strings_FieldsFunc_runes lays229 164 #[] (enters_of func164 rfl rfl) spP ⟨s.toArray⟩ w (by omega) (fun W x _ _ => (spc_any x W).mono (by rintro e w' ⟨rfl, rfl⟩; exact ⟨rfl, 0, rfl⟩)) (by kernel_rfl) (by kernel_rfl)).mono ?_
 rintro e w' ⟨A, rfl, hA, hR, hp⟩
 rw [hf, List.length_map, List.map_map] at hR
 rw [hf, List.length_map]
 exact ⟨A, rfl, (Inv.start (fun _ => False) w).fresh hp (Row.ok hR) (fun k hk => by have hk : some A = some k := hk; injection hk with hk; omega)⟩
theorem lines_any (s : List UInt8) (w0 : World) : Cq 110 #[strV s] w0 fun e w' => ∃ g, e = .returned (.func (.func 163) #[] #[.pointer (some ⟨g, 0, none⟩)]) ∧ Inv NF w0 w' [B g 9 #[strV s]] := by
 have hI := Inv.start (fun _ => False) w0
 refine Vn func110 rfl ?_
 refine Wq (Tb (.string _) #[_] hI rfl ?_)
 rintro b1 w - - hI
 refine Tn rfl (Wn (Ws (Wr ?_)))
 refine Wv rfl (rFunc (l := []) (m := [_]) rfl rfl rfl) ?_
 refine Wv rfl (by exact rAsgnF rfl rfl) ?_
 refine Wn ?_
 exact WR (r1_ 2 rfl ⟨_, rfl, hI⟩)
def LinA (l : List Ev) (k : Nat) (args : Array Value) (w : World) : Prop := ∃ (z : Int) (A : Option Addr) (c : Nat), args = #[.int .i64 z, .slice A 7 c] ∧ Rd w (fun _ => True) 1 (.slice A 7 c) 7 ((wordsE (evAt l k)).map strV)
theorem Rd.cells {w w' : World} {D : Nat → Prop} {size n : Nat} {v : Value} {xs : List Value} (h : Rd w D size v n xs) (hc : ∀ p u, w.cell? p = some u → w'.cell? p = some u) : Rd w' D size v n xs := by
 obtain ⟨A, c, h1, h2, h3, h4, h5⟩ := h
 refine ⟨A, c, h1, h2, h3, h4, fun hn => ?_⟩
 obtain ⟨b, o, q1, q2, q3⟩ := h5 hn
 exact ⟨b, o, q1, q2, fun j u hj => hc _ _ (q3 j u hj)⟩
theorem LinA.keep {l : List Ev} : ∀ k args V V', LinA l k args V → (∀ p v, V.cell? p = some v → V'.cell? p = some v) → LinA l k args V' := by
 rintro k args V V' ⟨z, A, c, h1, h2⟩ h
 exact ⟨z, A, c, h1, h2.cells h⟩
namespace Rd
theorem lines_seq (l : List Ev) (hl : l.length ≤ 120) (h : ∀ e ∈ l, EvOk e) (g : Nat) (w : World) (hg : w.cell? ⟨g, 0, none⟩ = some (strV (textE l))) (hM : MaxOk w) :
  SeqRel prog 163 #[.pointer (some ⟨g, 0, none⟩)] l.length (LinA l) w (fun k => k = g) := by
 intro y X0 J W hp hX0 hJ hy h0
 replace hg := ((Inv.start (fun _ => False) w).pure hp).oldp hg
 replace hM := hM.pure hp
 have hgl : g < W.heap.size := World.block_lt_of_cell? W _ hg
 have hI := Inv.start (fun _ => False) W
 refine calls_of_W (N := Tryz.f163.ntmps) func163 rfl rfl rfl ?_
 refine Ws ?_
 refine Wr ?_
 refine WL_val rfl rfl rfl (by exact rAsgnI rfl rfl) ?_
 refine Wn ?_
 refine Ws ?_
 refine Wr ?_
 refine WL_val rfl rfl rfl (by exact rLd (v := .string _) rfl (by kernel_rfl) rfl (by exact hI.oldp hg)) ?_
 refine WL_call rfl rfl rfl (rCall (vs := [.string _, .string _]) rfl func49 rfl rfl rfl) ?_
 refine (split_any l hl h _ (hM.pure hI.pu)).mono ?_
 rintro e w1 ⟨g1, rfl, hT⟩
 refine rV ?_
 have hI := hI.app1 hT
 refine WL_val rfl rfl rfl (rLen rfl underlying72 rfl) ?_
 refine WL_val rfl rfl rfl (by exact rMoveI rfl rfl) ?_
 refine Wn ?_
 have hg1 : W.heap.size ≤ g1 := (hI.own _ (List.mem_cons_self ..) g1 rfl).resolve_left id
 have hB := hI.g0
 have hJ1 := hJ _ _ _ _ h0 (hI.pu.chg (notX W.heap.size X0))
 have hgw := hI.oldp hg
 have hsz := hI.pu.size
 have hX0' : ∀ b, X0 b → b ≠ g ∧ b ≠ g1 := fun b hb => ⟨(hX0 b hb).1, by have := (hX0 b hb).2; omega⟩
 refine Wb ?_
 refine Wl (fun mu ρ V => ∃ (k : Nat) (z : Int) (X : Nat → Prop), mu = l.length + 1 - k ∧ k ≤ l.length + 1 ∧ 0 ≤ z ∧ z ≤ 1000 * k ∧ Has ρ [(10, .int .i64 (k : Int)), (9, .int .i64 ((l.length + 1 : Nat) : Int)), (8, .slice (some ⟨g1, 0, none⟩) (l.length + 1) (l.length + 1)), (3, .int .i64 z), (0, .func (.yield y) #[] #[]), (1, .pointer (some ⟨g, 0, none⟩))] ∧ J (min k l.length) X V ∧ (∀ b, X b → b ≠ g ∧ b ≠ g1) ∧ Blk V g1 9 (piecesV l) ∧ W.heap.size ≤ V.heap.size) (l.length + 1)
  ⟨0, 0, X0, rfl, by omega, by omega, by omega, ⟨rfl, rfl, rfl, rfl, rfl, rfl, trivial⟩, by rw [Nat.zero_min]; exact hJ1, hX0', hB, hsz⟩ ?_
 clear hI
 rintro mu ρ V ⟨k, z, X, rfl, hk, hz0, hz1, hH, hJk, hX, hBV, hsV⟩
 obtain ⟨σ, rfl⟩ := hH.open
 have hI := Inv.start (fun _ => False) V
 by_cases hkn : k < l.length + 1
 rotate_left
 ·obtain rfl : k = l.length + 1 := by omega
  rw [Nat.min_eq_right (by omega)] at hJk
  refine Ws ?_
  refine Wr ?_
  refine WL_val rfl rfl rfl (by exact rLssF rfl rfl rfl (by omega)) ?_
  refine Wn ?_
  refine Ws ?_
  refine Wc false rfl ?_
  refine WE ?_
  exact ret0 (.inl rfl) rfl ⟨⟨_, rfl⟩, X, hJk⟩
 obtain ⟨s, hs, hsl⟩ : ∃ s : List UInt8, (piecesV l)[k]? = some (strV s) ∧ ((k < l.length ∧ s = lineE (evAt l k) ∧ EvOk (evAt l k)) ∨ (k = l.length ∧ s = [])) := by
  unfold piecesV
  rw [List.getElem?_toArray, List.getElem?_map]
  by_cases hkl : k < l.length
  ·refine ⟨lineE (evAt l k), ?_, .inl ⟨hkl, rfl, h _ (List.mem_of_getElem? (evAt_get hkl))⟩⟩
   rw [List.getElem?_append_left (by simpa using hkl), List.getElem?_map, evAt_get hkl]; rfl
  obtain rfl : k = l.length := by omega
  refine ⟨[], ?_, .inr ⟨rfl, rfl⟩⟩
  rw [List.getElem?_append_right (by simp)]; simp
 have hcs : V.cell? ⟨g1, k, none⟩ = some (strV s) := by rw [hBV.cell]; exact hs
 have hlt1 := hBV.lt
 refine Ws ?_
 refine Wr ?_
 refine WL_val rfl rfl rfl (by exact rLssT rfl rfl rfl (by omega)) ?_
 refine Wn ?_
 refine Ws ?_
 refine Wc true rfl ?_
 refine Wk ?_
 refine Ws ?_
 refine Wb ?_
 refine Ws ?_
 refine Wr ?_
 refine WL_val rfl rfl rfl (by exact rIdx0 rfl underlying72 (by kernel_rfl) rfl rfl rfl (by omega)) ?_
 refine WL_val rfl rfl rfl (by exact rLd (v := .string _) rfl (by kernel_rfl) rfl (by exact hI.oldp hcs)) ?_
 refine WL_val rfl rfl rfl (by exact rAsgnStr rfl rfl) ?_
 refine Wn ?_
 rcases hsl with ⟨hkl, rfl, hek⟩ | ⟨rfl, rfl⟩
 ·have hll := lineE_len hek
  refine Ws ?_
  refine Wr ?_
  refine WL_val rfl rfl rfl (by exact rMoveStr rfl rfl) ?_
  refine WL_call rfl rfl rfl (rCall (vs := [.string _, .func _ _ _]) rfl func59 rfl rfl rfl) ?_
  refine (ffunc_any _ (wordsE (evAt l k)) (by omega) (line_fields hek) _).mono ?_
  rintro e w1 ⟨g2, rfl, hT⟩
  refine rV ?_
  have hI := hI.app1 hT
  refine WL_val rfl rfl rfl (by exact rAsgnS rfl rfl) ?_
  refine Wn ?_
  have hJ2 := hJ _ _ _ _ hJk (hI.pu.chg (notX W.heap.size X))
  rw [Nat.min_eq_left (by omega)] at hJ2
  have hA : LinA l k #[.int .i64 z, .slice (some ⟨g2, 0, none⟩) 7 7] w1 := ⟨z, _, _, rfl, Rd.of_own hI.g0 (fun _ _ _ => trivial)⟩
  have hs1 := hI.pu.size
  have hB1 := Blk.chg hBV (hI.pu.chg (fun _ => False)) id
  refine Ws ?_
  refine Ws ?_
  refine W_regionI 7 ?_
  refine WL_val rfl rfl rfl (by exact rMoveS rfl rfl) ?_
  refine WL_val rfl rfl rfl (rLen rfl underlying72 rfl) ?_
  refine WL_val rfl rfl rfl (by exact rGtr rfl rfl rfl) ?_
  refine WL_val rfl rfl rfl (by exact rMoveB rfl rfl) ?_
  refine WL_val rfl rfl rfl (by exact rMoveF rfl rfl) ?_
  refine WL_val rfl rfl rfl (by exact rMoveI rfl rfl) ?_
  refine WL_val rfl rfl rfl (by exact rMoveS rfl rfl) ?_
  refine Wn ?_
  refine WI_yield rfl rfl rfl rfl (rYield rfl rfl rfl) ?_
  refine (hy k X _ _ hkl hA hJ2 (by omega)).mono ?_
  clear hI
  rintro e w2 ⟨rfl, hJ3, hc3⟩
  have hI := Inv.start (fun _ => False) w2
  have hs2 := hc3.size
  refine ⟨_, rfl, WI_of ?_⟩
  refine WL_val rfl rfl rfl (by exact rNotT rfl rfl) ?_
  refine WL_val rfl rfl rfl (by exact rPickTB rfl rfl rfl) ?_
  refine Wn ?_
  refine Wc false rfl ?_
  refine Wk ?_
  refine Wr ?_
  refine WL_val rfl rfl rfl (by exact rMoveI rfl rfl) ?_
  refine WL_val rfl rfl rfl (by exact rMoveStr rfl rfl) ?_
  refine WL_val rfl rfl rfl (rStrLen rfl underlying9 rfl) ?_
  refine WL_val rfl rfl rfl (by exact rInc rfl rfl rfl (by omega)) ?_
  refine WL_val rfl rfl rfl (by exact rAdd rfl rfl rfl (by omega)) ?_
  refine WL_val rfl rfl rfl (by exact rAsgnI rfl rfl) ?_
  refine Wn ?_
  refine Wr ?_
  refine WL_val rfl rfl rfl (by exact rInc rfl rfl rfl (by omega)) ?_
  refine WL_val rfl rfl rfl (by exact rMoveI rfl rfl) ?_
  refine Wn ?_
  refine ⟨l.length + 1 - (k + 1), by omega, k + 1, z + (((lineE (evAt l k)).length : Int) + 1), ownX X w1 w2, rfl, by omega, by omega, by omega, ⟨rfl, rfl, rfl, rfl, rfl, rfl, trivial⟩, ?_, fun b hb => ?_, Blk.chg hB1 hc3 (fun hx => (hX _ hx).2 rfl), by omega⟩
  ·rw [Nat.min_eq_left (by omega)]; exact hJ3
  rcases hb with hb | hb
  ·exact hX b hb
  omega
 refine Ws ?_
 refine Wr ?_
 refine WL_val rfl rfl rfl (by exact rMoveStr rfl rfl) ?_
 refine WL_call rfl rfl rfl (rCall (vs := [.string _, .func _ _ _]) rfl func59 rfl rfl rfl) ?_
 refine (ffunc_any [] [] (by decide) empty_fields _).mono ?_
 rintro e w1 ⟨g2, rfl, hT⟩
 refine rV ?_
 have hI := hI.app1 hT
 refine WL_val rfl rfl rfl (by exact rAsgnS rfl rfl) ?_
 refine Wn ?_
 have hJ2 := hJ _ _ _ _ hJk (hI.pu.chg (notX W.heap.size X))
 have hs1 := hI.pu.size
 have hB1 := Blk.chg hBV (hI.pu.chg (fun _ => False)) id
 rw [Nat.min_self] at hJ2
 refine Ws ?_
 refine Ws ?_
 refine Wr ?_
 refine WL_val rfl rfl rfl (by exact rMoveS rfl rfl) ?_
 refine WL_val rfl rfl rfl (rLen rfl underlying72 rfl) ?_
 refine WL_val rfl rfl rfl (by exact rGtr rfl rfl rfl) ?_
 refine WL_val rfl rfl rfl (by exact rMoveB rfl rfl) ?_
 refine WL_skip rfl rfl rfl ?_
 refine WL_skip rfl rfl rfl ?_
 refine WL_skip rfl rfl rfl ?_
 refine WL_skip rfl rfl rfl ?_
 refine WL_skip rfl rfl rfl ?_
 refine WL_val rfl rfl rfl (by exact rPickFB rfl rfl rfl) ?_
 refine Wn ?_
 refine Wc false rfl ?_
 refine Wk ?_
 refine Wr ?_
 refine WL_val rfl rfl rfl (by exact rMoveI rfl rfl) ?_
 refine WL_val rfl rfl rfl (by exact rMoveStr rfl rfl) ?_
 refine WL_val rfl rfl rfl (rStrLen rfl underlying9 rfl) ?_
 refine WL_val rfl rfl rfl (by exact rAddW rfl rfl rfl) ?_
 refine WL_val rfl rfl rfl (by exact rAddW rfl rfl rfl) ?_
 refine WL_val rfl rfl rfl (by exact rAsgnI rfl rfl) ?_
 refine Wn ?_
 refine Wr ?_
 refine WL_val rfl rfl rfl (by exact rInc rfl rfl rfl (by omega)) ?_
 refine WL_val rfl rfl rfl (by exact rMoveI rfl rfl) ?_
 refine Wn ?_
 have hw1 : IntKind.i64.wrap (((0 : Nat) : Int) + 1) = 1 := wrap64_in (by omega) (by omega)
 have hw2 : IntKind.i64.wrap (z + 1) = z + 1 := wrap64_in (by omega) (by omega)
 refine ⟨l.length + 1 - (l.length + 1), by omega, l.length + 1, _, X, rfl, by omega, ?_, ?_, ⟨rfl, rfl, rfl, rfl, rfl, rfl, trivial⟩, by rw [Nat.min_eq_right (by omega)]; exact hJ2, hX, hB1, by omega⟩
 ·show 0 ≤ IntKind.i64.wrap (z + IntKind.i64.wrap (((0 : Nat) : Int) + 1))
  rw [hw1, hw2]; omega
 show IntKind.i64.wrap (z + IntKind.i64.wrap (((0 : Nat) : Int) + 1)) ≤ _
 rw [hw1, hw2]; omega
end Rd
theorem ret2P {P : Program} {ρ : Env} {w : World} {g g' t u : Nat} {v v' : Value} {fn : Func} {R : Ending → World → Prop} {e : Exit} {a s : Tmp} (he : e = .normal ∨ e = .ret) (hr : fn.results = #[.cell a t, .cell s u]) (ha : ρ a = .pointer (some ⟨g, 0, none⟩)) (hs : ρ s = .pointer (some ⟨g', 0, none⟩)) (ht : plainB P t = true) (hu : plainB P u = true)
  (h1 : w.cell? ⟨g, 0, none⟩ = some v) (h2 : w.cell? ⟨g', 0, none⟩ = some v') (h : R (.returned (.tuple #[v, v'])) w) : retQ P fn R e ρ w := by
 refine retQ_intro he fun b hb' => ⟨_, ?_, h⟩
 have h3 := hb'.get a
 have h4 := hb'.get s
 rw [ha] at h3
 rw [hs] at h4
 simp only [Array.getD_eq_getD_getElem?] at h3 h4
 simp [results, hr, h3, h4, asAddr, loadVar, run_isAgg_plain ht, run_isAgg_plain hu, h1, h2]
theorem Inv.notX {S : Nat → Prop} {w V V' : World} {H : List Ent} {n : Nat} {X : Nat → Prop} (h : Inv S w V H) (hc : Chg (notX n X) V V') (hn : w.heap.size ≤ n) (hD : ∀ e ∈ H, ∀ k, e.D k → k < n ∨ X k) : Inv S w V' H :=
 ⟨h.chg.trans' hc (fun k hk hx => by have := hx.1; omega), fun e he => (h.ok e he).chg hc (fun k hk hx => by
  rcases hD e he k hk with h1 | h1
  ·have := hx.1; omega
  exact hx.2 h1), h.own, h.apart⟩
def ParI (l : List Ev) (b4 : Nat) (w1 : World) (k : Nat) (X : Nat → Prop) (V : World) : Prop :=
 X b4 ∧ b4 < w1.heap.size ∧ ∃ (A' : Option Addr) (c' : Nat), (∀ p, A' = some p → X p.block) ∧ Inv (fun x => x = b4) w1 V [Row 0 70 7 A' k c' ((l.take k).flatMap evL), B b4 28 #[.slice A' k c']]
theorem ParI.notX {l : List Ev} {b4 : Nat} {w1 : World} : ∀ k X V V', ParI l b4 w1 k X V → Chg (notX w1.heap.size X) V V' → ParI l b4 w1 k X V' := by
 rintro k X V V' ⟨h1, h2, A', c', h3, h4⟩ hc
 refine ⟨h1, h2, A', c', h3, h4.notX hc (Nat.le_refl _) fun e he k hk => ?_⟩
 rcases List.mem_cons.1 he with rfl | he
 ·have hk : A'.map (·.block) = some k := hk
  cases A' with
  | none => cases hk
  | some p => injection hk with hk; subst hk; exact .inr (h3 p rfl)
 rw [List.mem_singleton.1 he] at hk
 have hk : k = b4 := hk
 exact .inl (by omega)
theorem parseL_any (l : List Ev) (hl : l.length ≤ 120) (hev : l.all evOkB = true) (w0 : World) (hG : TxG w0) (hM : MaxOk w0) :
  Cq 67 #[strV (textE l)] w0 fun en w' => ∃ A' c', en = .returned (.tuple #[.slice A' l.length c', .nilIface]) ∧ Inv NF w0 w' [Row 0 70 7 A' l.length c' (l.flatMap evL)] := by
 have h := evOk_all hev
 have htl := textE_len l h
 have hI := Inv.start (fun _ => False) w0
 refine calls_of_WX (N := Tryz.f67.ntmps) func67 rfl rfl rfl ?_
 refine WX_seqW ?_
 refine Wr (T1 (.slice none 0 0) (#[.slice none 0 0]) hI rfl ?_)
 rintro b2 w - - hI
 refine T1 .nilIface #[.nilIface] hI rfl ?_
 rintro b3 w - - hI
 refine Wn ?_
 refine WX_seqW ?_
 refine Wq (Vh rfl (T0 rfl yy9 rfl (Tc rfl (Wn (Wc false rfl (Wk ?_))))))
 refine WX_seqW ?_
 refine Wr (T1 (.slice none 0 0) (#[.slice none 0 0]) hI rfl ?_)
 rintro b4 w - - hI
 refine Wn ?_
 refine WX_seq ?_
 refine WX_seqW ?_
 refine Wr (Vh rfl (Va [.string _] rfl func110 rfl ?_))
 refine (lines_any (textE l) _).mono ?_
 rintro e w1 ⟨g1, rfl, hT⟩
 refine rV ?_
 have hI := hI.app1 hT
 refine Wn ?_
 have hpu := hI.pu
 have hM1 := hM.pure hpu
 have hB4 : Blk w1 b4 28 #[.slice none 0 0] := hI.g1
 have hb4 : w0.heap.size ≤ b4 := (hI.own _ (List.mem_of_getElem? (i := 1) rfl) b4 rfl).resolve_left id
 have kg : w1.cell? ⟨g1, 0, none⟩ = some (strV (textE l)) := hI.c0 rfl
 have k2 : w1.cell? ⟨b2, 0, none⟩ = some (.slice none 0 0) := hI.c3 rfl
 have k3 : w1.cell? ⟨b3, 0, none⟩ = some .nilIface := hI.c2 rfl
 have n41 : ¬ b4 = g1 := hI.disj (i := 1) (j := 0) rfl rfl (by decide) b4 rfl
 have n42 : ¬ b4 = b2 := hI.disj (i := 1) (j := 3) rfl rfl (by decide) b4 rfl
 have n43 : ¬ b4 = b3 := hI.disj (i := 1) (j := 2) rfl rfl (by decide) b4 rfl
 have n23 : ¬ b2 = b3 := hI.disj (i := 3) (j := 2) rfl rfl (by decide) b2 rfl
 have o2 : w0.heap.size ≤ b2 := (hI.own _ (List.mem_of_getElem? (i := 3) rfl) b2 rfl).resolve_left id
 have o3 : w0.heap.size ≤ b3 := (hI.own _ (List.mem_of_getElem? (i := 2) rfl) b3 rfl).resolve_left id
 have lt4 : b4 < w1.heap.size := hB4.lt
 have lt1 : g1 < w1.heap.size := hI.lt
 have hB2 : Blk w1 b2 28 #[.slice none 0 0] := hI.g3
 have hB3 : Blk w1 b3 34 #[.nilIface] := hI.g2
 clear hI
 refine WX_block ?_
 refine WX_rangeRel (A := LinA l) (n := l.length) (M := fun k => k = g1) (w0 := w1) rfl (enters_of func163 rfl rfl)
  (Rd.lines_seq l hl h g1 w1 kg hM1) (Pure.refl _) (fun x => x = b4)
  (fun x hx => by subst hx; exact ⟨n41, lt4⟩)
  (fun x hx => by subst hx; exact lt1)
  LinA.keep (ParI l b4 w1) ParI.notX
  ⟨rfl, lt4, none, 0, (fun p hp => by cases hp), (Inv.own1 hB4).fresh (Pure.refl _) (Row.nil _ 0 70 7) (fun k hk => by simp [Row] at hk)⟩
  (fun k args V ⟨z, A, c, h1, _⟩ => by subst h1; rfl) (by decide) ?_ ?_
 ·rintro k X args V hkl hA - hsV
  obtain ⟨z, Aw, cw, rfl, -⟩ := hA
  have hevk : evOkB (evAt l k) = true := List.all_eq_true.1 hev _ (List.mem_of_getElem? (evAt_get hkl))
  have htk : (l.take (k + 1)).flatMap evL = (l.take k).flatMap evL ++ evL (evAt l k) := by
   have := evAt_get hkl
   rw [List.take_add_one, this, List.flatMap_append]; simp
  --@rd
  refine Rd.Ws ?_
  refine Rd.Wr ?_
  refine Vc rfl (Wn ?_)
  refine Rd.Wr ?_
  refine Vo rfl (Wn ?_)
  refine ⟨rfl, rfl, fun V2 hA2 hI2 hs2 => ?_⟩
  obtain ⟨z2, Aw2, cw2, he2, hR⟩ := hA2
  obtain ⟨rfl, rfl, rfl⟩ : z = z2 ∧ Aw = Aw2 ∧ cw = cw2 := by simpa using he2
  obtain ⟨hXb, -, A', c', hXA, hIV⟩ := hI2
  have hI : Inv (DL [Row 0 70 7 A' k c' ((l.take k).flatMap evL), B b4 28 #[.slice A' k c']]) V2 V2 [Row 0 70 7 A' k c' ((l.take k).flatMap evL), B b4 28 #[.slice A' k c']] := Inv.from (H := []) hIV
  have hpV : Pure w0 V2 := (Chg.trans' (hpu.chg NF) hIV.chg (fun i hi h => by have h : i = b4 := h; omega)).toPure
  have hGV := hG.pure hpV
  have hpar := evparse_any (evAt l k) hevk Aw cw _ V2 hR hGV
  generalize evAt l k = pk at hpar hevk htk
  obtain ⟨e0, e1, e2, e3, e4, e5, e6⟩ := pk
  refine Rd.Wb ?_
  refine Rd.Ws ?_
  refine Rd.Wr ?_
  refine Vi rfl (Va [.slice _ _ _] rfl func111 rfl ?_)
  refine hpar.mono (okP hI fun w2 hp2 hI => ?_)
  refine Vz rfl (Vg rfl (Vg rfl (T1 (.agg zI7) (zI7) hI rfl ?_)))
  rintro b7 w - - hI
  refine T7 7 (#[_, _, _, _, _, _, _]) (.agg _) hI rfl ?_
  intro w hI
  refine Vj rfl (Wn ?_)
  replace hI : Inv _ V2 _ [B b7 70 #[.int .i64 e0, .int .i64 e1, .int .i64 e2, .int .i64 e3, .int .i64 e4, .int .i64 e5, .int .i64 e6], Row 0 70 7 A' k c' ((l.take k).flatMap evL), B b4 28 #[.slice A' k c']] := hI
  refine Rd.Ws ?_
  refine Rd.Ws ?_
  refine Rd.Wr ?_
  refine T8 rfl ?_
  refine Wv rfl (by exact rNilEq rfl yy34 rfl) ?_
  refine V6 rfl (V5 (.slice _ _ _) rfl (hI.c2 rfl) (Vs rfl yy28 rfl (Vw rfl (Vk rfl (Wn ?_)))))
  refine Rd.Wc false rfl ?_
  refine Rd.Wk ?_
  refine Rd.Ws ?_
  refine Rd.Ws ?_
  refine Rd.Wr ?_
  refine T8 rfl (Te rfl yy34 rfl (Wn ?_))
  refine Rd.Wc false rfl ?_
  refine Rd.Wk ?_
  refine Rd.Wr ?_
  refine V5 (.slice _ _ _) rfl (hI.c2 rfl) (Tu 7 rfl hI.g0 (T3 [(0, .agg #[_, _, _, _, _, _, _])] [_, _, _, _, _, _, _] [.int .i64 0, .int .i64 0, .int .i64 0, .int .i64 0, .int .i64 0, .int .i64 0, .int .i64 0] [0] hI rfl yy28 (fun _ => by kernel_rfl) ?_))
  rintro b37 w - - hI
  refine WL_app2 (z := .agg zI7) (by_ := 56) hI rfl rfl rfl rfl rfl rfl yy28 (by kernel_rfl) rfl (by omega) (by rfl) hI.lit0 (by rfl) (by omega) (by omega) (by exact Nat.zero_le _) ?_
  rintro A38 c38 w hA38 hc38 hI
  have hI := hI.d0
  refine WL_stw2 (u := .slice _ _ _) (vs := #[_]) (n := 1) hI rfl rfl rfl rfl rfl rfl (by kernel_rfl) rfl rfl rfl ?_
  intro w hI
  refine Wn ?_
  have hDX : ∀ kk, DL [Row 0 70 7 A' k c' ((l.take k).flatMap evL), B b4 28 #[.slice A' k c']] kk → X kk := by
   rintro kk ⟨e, he, hk⟩
   rcases List.mem_cons.1 he with rfl | he
   ·have hk : A'.map (·.block) = some kk := hk
    cases A' with
    | none => cases hk
    | some p => injection hk with hk; subst hk; exact hXA p rfl
   rw [List.mem_singleton.1 he] at hk
   have hk : kk = b4 := hk
   subst hk; exact hXb
  have hI := hI.d0
  refine ⟨hI.chg.mono fun kk _ hk => hDX kk hk, .inl hXb, lt4, A38, c38, fun p hp => ?_, ?_⟩
  ·rcases hI.own _ (List.mem_cons_self ..) p.block (by rw [hp]; rfl) with hk | hk
   ·exact .inl (hDX _ hk)
   exact .inr ⟨hk, (hI.ok _ (List.mem_cons_self ..)).2.1 p.block (by rw [hp]; rfl)⟩
  ·have := Inv.turnL (H := []) hIV hI
   rw [htk]; exact this
  --@dr
 rintro X V ⟨hXb, -, A', c', hXA, hIV⟩ hD9 a ha
 rw [List.take_length] at hIV
 refine (WX_R (?_ : Rd.W none _ _ _ _ (fun e ρ w => ∀ a, Fit Tryz.f67.ntmps ρ a → bodyPostM Fence.wide 0 prog Tryz.f67 _ e (wd (markD w1.heap.size) a) w) _ _) (fun e ρ' a w' ha q => q a ha)) a ha
 have hDn : ∀ (b : Nat), b < w1.heap.size → ¬ b4 = b → ∀ x ∈ [Row 0 70 7 A' l.length c' (l.flatMap evL), B b4 28 #[.slice A' l.length c']], ¬ x.D b := by
  intro b hb hbn x hx hk
  rcases hIV.own x hx b hk with h1 | h1
  ·exact hbn h1.symm
  omega
 have hfin : Inv NF w0 V [B b3 34 #[.nilIface], B b2 28 #[.slice none 0 0], Row 0 70 7 A' l.length c' (l.flatMap evL), B b4 28 #[.slice A' l.length c']] := by
  have h0 : Inv NF w0 V [Row 0 70 7 A' l.length c' (l.flatMap evL), B b4 28 #[.slice A' l.length c']] :=
   ⟨Chg.trans' (hpu.chg NF) hIV.chg (fun i hi h => by have h : i = b4 := h; omega), hIV.ok, fun e he k hk => by
    rcases hIV.own e he k hk with h | h
    ·have h : k = b4 := h
     exact .inr (by omega)
    exact .inr (by have := hpu.size; omega), hIV.apart⟩
  refine ((h0.cons (e := B b2 28 #[.slice none 0 0]) (B.ok (Blk.chg hB2 hIV.chg (fun h => n42 h.symm))) (fun k hk => ?_) (fun x hx k hk => ?_)).cons (e := B b3 34 #[.nilIface]) (B.ok (Blk.chg hB3 hIV.chg (fun h => n43 h.symm))) (fun k hk => ?_) (fun x hx k hk => ?_))
  ·have hk : k = b2 := hk
   exact .inr (by omega)
  ·have hk : k = b2 := hk
   subst hk; exact hDn _ hB2.lt n42 x hx
  ·have hk : k = b3 := hk
   exact .inr (by omega)
  have hk : k = b3 := hk
  subst hk
  rcases List.mem_cons.1 hx with rfl | hx
  ·exact fun h => n23 h.symm
  exact hDn _ hB3.lt n43 x hx
 have hI : Inv (DL [B b3 34 #[.nilIface], B b2 28 #[.slice none 0 0], Row 0 70 7 A' l.length c' (l.flatMap evL), B b4 28 #[.slice A' l.length c']]) V V [B b3 34 #[.nilIface], B b2 28 #[.slice none 0 0], Row 0 70 7 A' l.length c' (l.flatMap evL), B b4 28 #[.slice A' l.length c']] := Inv.from (H := []) hfin
 have hcl : ∀ e ∈ [B b3 34 #[.nilIface], B b2 28 #[.slice none 0 0], Row 0 70 7 A' l.length c' (l.flatMap evL), B b4 28 #[.slice A' l.length c']], cellsE V e := fun e he => by
  simp only [List.mem_cons, List.not_mem_nil, or_false] at he
  rcases he with rfl | rfl | rfl | rfl
  ·exact B.cells (hfin.ok _ (by simp))
  ·exact B.cells (hfin.ok _ (by simp))
  ·exact Row.cells (hfin.ok _ (by simp))
  exact B.cells (hfin.ok _ (by simp))
 have hDd : ¬ DL [B b3 34 #[.nilIface], B b2 28 #[.slice none 0 0], Row 0 70 7 A' l.length c' (l.flatMap evL), B b4 28 #[.slice A' l.length c']] w1.heap.size := by
  rintro ⟨e, he, hk⟩
  obtain ⟨o, h1, h2⟩ := hcl e he _ hk
  rw [hD9] at h1
  injection h1 with h1
  subst h1
  cases h2
 --@rd
 refine Rd.Ws ?_
 refine Rd.Wr ?_
 refine V5 (.slice _ _ _) rfl (hI.c3 rfl) ?_
 refine WL_stw1 (u := .slice _ _ _) (vs := #[_]) (n := 1) hI rfl rfl rfl rfl rfl rfl (by kernel_rfl) rfl rfl rfl ?_
 intro w hI
 refine T7 1 #[_] _ hI rfl ?_
 intro w hI
 refine Wn ?_
 refine Rd.WR ?_
 intro a ha
 replace hI : Inv (DL [B b3 34 #[.nilIface], B b2 28 #[.slice none 0 0], Row 0 70 7 A' l.length c' (l.flatMap evL), B b4 28 #[.slice A' l.length c']]) V _ [B b3 34 #[.nilIface], B b2 28 #[.slice A' l.length c'], Row 0 70 7 A' l.length c' (l.flatMap evL), B b4 28 #[.slice A' l.length c']] := hI
 have hend := Inv.turnL (H := []) hfin hI
 have hD8 := (hI.chg.block _ (Array.getElem?_eq_some_iff.1 hD9).1 hDd).trans hD9
 have has := Aside.put (n := w1.heap.size) (.deferred none) (Nat.le_refl _) hD8 rfl
 have hce : ∀ e ∈ [B b3 34 #[.nilIface], B b2 28 #[.slice A' l.length c'], Row 0 70 7 A' l.length c' (l.flatMap evL), B b4 28 #[.slice A' l.length c']], cellsE _ e := fun e he => by
  simp only [List.mem_cons, List.not_mem_nil, or_false] at he
  rcases he with rfl | rfl | rfl | rfl
  ·exact B.cells (hend.ok _ (by simp))
  ·exact B.cells (hend.ok _ (by simp))
  ·exact Row.cells (hend.ok _ (by simp))
  exact B.cells (hend.ok _ (by simp))
 refine leaves_retQ ha hD8 (ret2P (.inr rfl) rfl rfl rfl (by kernel_rfl) (by kernel_rfl) (has.cell (hI.c1 rfl)) (has.cell (hI.c0 rfl)) ⟨A', c', rfl, ?_⟩)
 exact (hend.aside has (by have := hpu.size; omega) hce).d0.d0.d1
 --@dr
end Go.Proofs.YtlkobbighkiojaaGreatDoor
