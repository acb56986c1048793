/- Part of the proof that a desk answers in pieces. -/
import Derived.Test.YtnckdmogdehnoaaGreatDoorPA
import Derived.Test.YtnckdmogdehnoaaGreatDoorPGraphB
import Derived.Test.YtnckdmogdehnoaaGreatDoorPSxS
import Derived.Test.YtnckdmogdehnoaaGreatDoorPGlob
import Derived.Test.YtnckdmogdehnoaaGreatDoorPTxtLaw
import Derived.Shelf.Strings.SplitShaped
import Derived.Shelf.Strings.OnBuilder
import Derived.Shelf.Strings.BuilderK
import Derived.Test.YtnckdmogdehnoaaGreatDoorPIntC
import Derived.Test.YtnckdmogdehnoaaGreatDoorPSxI
import Derived.Shelf.Strings.FieldsFuncAny
import Derived.Test.YtnckdmogdehnoaaGreatDoorSxJ
set_option maxRecDepth 8000
set_option maxHeartbeats 8000000
set_option linter.unusedVariables false
set_option linter.unusedSimpArgs false
namespace Go.Proofs.YtnckdmogdehnoaaGreatDoor
open Tryz
open Go.RowKit
variable {e : Ev} {z : Int} {H : List Ent} {l : List Ev} {b b2 c i k n : Nat} {D S : Nat → Prop} {v : Value} {w w' w0 : World}
section
variable {P : Program} {ρ : Env} {o : Oper} {w : World} {x y : Operand} {t kt et b : Nat} {q : IntKind} {zv v : Value} {a : Int} {g : Int → Option Value}
theorem rLookY (h : g a = some v) (ho : o.op = .lookup t x y true) (ht : P.underlying t = some (.map kt et)) (hk : P.underlying kt = some (.int q)) (hz : (P.info? et).bind (·.zero) = some zv) (hx : ev ρ x = .map (some b)) (hy : ev ρ y = .int .i64 a) (hM : MapIs w b g) : Runs P ρ o w (.tuple #[v, .bool true]) := by
 have := rLook (P := P) ho ht hk hz hx hy hM
 rwa [h] at this
theorem rLookN (h : g a = none) (ho : o.op = .lookup t x y true) (ht : P.underlying t = some (.map kt et)) (hk : P.underlying kt = some (.int q)) (hz : (P.info? et).bind (·.zero) = some zv) (hx : ev ρ x = .map (some b)) (hy : ev ρ y = .int .i64 a) (hM : MapIs w b g) : Runs P ρ o w (.tuple #[zv, .bool false]) := by
 have := rLook (P := P) ho ht hk hz hx hy hM
 rwa [h] at this
end
abbrev OpsE (A : Option Addr) (c : Nat) (ops : List Op8) : Ent := Row 0 106 8 A ops.length c (ops.flatMap opV)
abbrev BoolE (A : Option Addr) (c : Nat) (l : List Bool) : Ent := Row 0 4 1 A l.length c (l.map Value.bool)
def mapV (g : Int → Option Nat) : Int → Option Value := fun k => (g k).map fun n => .int .i64 (n : Int)
theorem mapV_upd (g : Int → Option Nat) (k : Int) (n : Nat) : (fun j => if j = k then some (Value.int .i64 (n : Int)) else mapV g j) = mapV (updI g k (some n)) := by
 funext j
 unfold mapV updI
 by_cases h : j = k
 ·rw [if_pos h, if_pos h]; rfl
 rw [if_neg h, if_neg h]
theorem mapV_del (g : Int → Option Nat) (k : Int) : (fun j => if j = k then none else mapV g j) = mapV (updI g k none) := by
 funext j
 unfold mapV updI
 by_cases h : j = k
 ·rw [if_pos h, if_pos h]; rfl
 rw [if_neg h, if_neg h]
def seeC (Ao : Option Addr) (no co b1 b2 : Nat) (Ag : Option Addr) (ng cg : Nat) : Array Value := #[.slice Ao no co, .map (some b1), .map (some b2), .slice Ag ng cg]
def prtS (sb : Nat) (Ao : Option Addr) (co b1 b2 : Nat) (Ag : Option Addr) (cg : Nat) (s : SeeS) : List Ent :=
 [B sb 183 (seeC Ao s.ops.length co b1 b2 Ag s.gone.length cg), OpsE Ao co s.ops, BoolE Ag cg s.gone, MapE b1 (mapV s.busy), MapE b2 (mapV s.lost)]
def SeerPostN (z0 : Int) (r : Option SeeS) (sb b1 b2 : Nat) (S : Nat → Prop) (w0 : World) (en : Ending) (w' : World) : Prop := match r with
 | none => Inv S w0 w' [] ∧ en = .returned (.iface 49 (.int .i64 z0))
 | some s' => en = .returned .nilIface ∧ ∃ Ao' co' Ag' cg', Inv S w0 w' (prtS sb Ao' co' b1 b2 Ag' cg' s')
theorem Inv.none {S : Nat → Prop} {w0 w : World} {H : List Ent} (h : Inv S w0 w H) : Inv S w0 w [] := ⟨h.chg, by simp, by simp, .nil⟩
theorem SeerPostN.none {r : Option SeeS} {sb b1 b2 : Nat} {S : Nat → Prop} {w0 w' : World} {H : List Ent} {z : Int} (h : r = Option.none) (hI : Inv S w0 w' H) : SeerPostN z r sb b1 b2 S w0 (.returned (.iface 49 (.int .i64 z))) w' := by subst h; exact ⟨hI.none, rfl⟩
theorem SeerPostN.some {z : Int} {r : Option SeeS} {s' : SeeS} {sb b1 b2 : Nat} {S : Nat → Prop} {w0 w' : World} {Ao' Ag' : Option Addr} {co' cg' : Nat} (h : r = Option.some s') (hI : Inv S w0 w' (prtS sb Ao' co' b1 b2 Ag' cg' s')) : SeerPostN z r sb b1 b2 S w0 (.returned .nilIface) w' := by subst h; exact ⟨rfl, Ao', co', Ag', cg', hI⟩
theorem beginN_one (e0 e1 e2 e3 e4 e5 e6 : Int) (i : Nat) (sb b1 b2 : Nat) (Ao : Option Addr) (co : Nat) (Ag : Option Addr) (cg : Nat) (s : SeeS) (w0 : World) (hlen : s.ops.length ≤ 100000) (hgl : s.gone.length = s.ops.length)
  (hI : Inv (DL (prtS sb Ao co b1 b2 Ag cg s)) w0 w0 (prtS sb Ao co b1 b2 Ag cg s)) :
  Cq 114 #[.pointer (some ⟨sb, 0, none⟩), .agg #[.int .i64 e0, .int .i64 e1, .int .i64 e2, .int .i64 e3, .int .i64 e4, .int .i64 e5, .int .i64 e6], .int .i64 (i : Int)] w0 (SeerPostN 6 (beginF ⟨e0, e1, e2, e3, e4, e5, e6⟩ i s) sb b1 b2 (DL (prtS sb Ao co b1 b2 Ag cg s)) w0) := by
 generalize hl0 : DL (prtS sb Ao co b1 b2 Ag cg s) = S at hI ⊢
 replace hI : Inv S w0 w0 [B sb 183 (seeC Ao s.ops.length co b1 b2 Ag s.gone.length cg), OpsE Ao co s.ops, BoolE Ag cg s.gone, MapE b1 (mapV s.busy), MapE b2 (mapV s.lost)] := hI
 refine Vm func114 Z (Wq (Tq (.agg _) (#[_, _, _, _, _, _, _]) hI Z ?_))
 rintro b4 w - - hI
 refine Vw Z (Wn ?_)
 cases hb : s.busy e0 with
 | some nb =>
  have hbv : mapV s.busy e0 = some (.int .i64 (nb : Int)) := by unfold mapV; rw [hb]; rfl
  exact Ws (Yi hI fun Sx hY hXS hI => T7 0 Z (T8 1 Z (Vf 2 1 Z (V9 3 (.map _) Z (fun W hW => (hY W hW).c1 Z) (Vf 4 0 Z (Ye 5 hY Z Z (Wt 6 Z (fun W hW => have hI := hY W hW; (rLookY hbv (zv := Y 0) Z yy171 yy3 (by kernel_rfl) Z Z hI.g4)) (Ub 7 Z (Ti 8 Z (Ti 9 Z (Tl 10 Z (Tg 11 Z (Yz (Ws (Ws (Yi hI fun Sx hY hXS hI => T7 0 Z (T8 1 Z (Vf 2 2 Z (V9 3 (.map _) Z (fun W hW => (hY W hW).c1 Z) (Vf 4 0 Z (Ye 5 hY Z Z (Wt 6 Z (fun W hW => have hI := hY W hW; (rLook (zv := Y 0) Z yy171 yy3 (by kernel_rfl) Z Z hI.g5)) (Ub 7 Z (Ti 8 Z (Ti 9 Z (Wt 10 Z (fun W hW => have hI := hY W hW; (by exact rAsgn rfl)) (Tg 11 Z (Yz (Wq (V7 Z (V7 Z (V5 Z (Vk Z (Yt Z (Wq (T0 Z yy49 Z (Vt Z (Wn (WR (r1_ 6 Z (SeerPostN.none (by unfold beginF; exact if_pos (.inl (by show s.busy e0 ≠ none; rw [hb]; simp))) hI)))))))))))))))))))))))))))))))))))))))))
 | none =>
 have hbv : mapV s.busy e0 = none := by unfold mapV; rw [hb]; rfl
 refine Ws (Yi hI fun Sx hY hXS hI => T7 0 Z (T8 1 Z (Vf 2 1 Z (V9 3 (.map _) Z (fun W hW => (hY W hW).c1 Z) (Vf 4 0 Z (Ye 5 hY Z Z (Wt 6 Z (fun W hW => have hI := hY W hW; (rLookN hbv (zv := Y 0) Z yy171 yy3 (by kernel_rfl) Z Z hI.g4)) (Ub 7 Z (Ti 8 Z (Ti 9 Z (Tl 10 Z (Tg 11 Z (Yz ?_)))))))))))))
 cases hl : s.lost e0 with
 | some nl =>
  have hlv : mapV s.lost e0 = some (.int .i64 (nl : Int)) := by unfold mapV; rw [hl]; rfl
  exact Ws (Ws (Yi hI fun Sx hY hXS hI => T7 0 Z (T8 1 Z (Vf 2 2 Z (V9 3 (.map _) Z (fun W hW => (hY W hW).c1 Z) (Vf 4 0 Z (Ye 5 hY Z Z (Wt 6 Z (fun W hW => have hI := hY W hW; (rLookY hlv (zv := Y 0) Z yy171 yy3 (by kernel_rfl) Z Z hI.g5)) (Ub 7 Z (Ti 8 Z (Ti 9 Z (Tl 10 Z (Tg 11 Z (Yz (Wq (V7 Z (V7 Z (V7 Z (Vi Z (Yt Z (Wq (T0 Z yy49 Z (Vt Z (Wn (WR (r1_ 6 Z (SeerPostN.none (by unfold beginF; exact if_pos (.inr (by show s.lost e0 ≠ none; rw [hl]; simp))) hI)))))))))))))))))))))))))))
 | none =>
 have hlv : mapV s.lost e0 = none := by unfold mapV; rw [hl]; rfl
 refine Ws (Ws (Yi hI fun Sx hY hXS hI => T7 0 Z (T8 1 Z (Vf 2 2 Z (V9 3 (.map _) Z (fun W hW => (hY W hW).c1 Z) (Vf 4 0 Z (Ye 5 hY Z Z (Wt 6 Z (fun W hW => have hI := hY W hW; (rLookN hlv (zv := Y 0) Z yy171 yy3 (by kernel_rfl) Z Z hI.g5)) (Ub 7 Z (Ti 8 Z (Ti 9 Z (Tl 10 Z (Tg 11 Z (Yz (Wq (V7 Z (V7 Z (V7 Z (Vi Z (Yf Z (Wk ?_)))))))))))))))))))))
 have hbf : beginF ⟨e0, e1, e2, e3, e4, e5, e6⟩ i s = some ⟨s.ops ++ [newOp ⟨e0, e1, e2, e3, e4, e5, e6⟩ i], updI s.busy e0 (some s.ops.length), s.lost, s.gone ++ [false]⟩ := by
  unfold beginF
  refine if_neg ?_
  rintro (h | h)
  ·exact h hb
  exact h hl
 refine Ws (Yj [11] hI fun Sx hY hXS hI => T7 0 Z (T8 1 Z (Vf 2 1 Z (V9 3 (.map _) Z (fun W hW => (hY W hW).c1 Z) (Vf 4 0 Z (Ye 5 hY Z Z (T7 6 Z (T8 7 Z (Vf 8 0 Z (V9 9 (.slice _ _ _) Z (fun W hW => (hY W hW).c1 Z) (U2 10 Z yy94 Z (WT_A (by kernel_rfl) ?_))))))))))))
 clear hXS hY
 refine Tr 11 Z (WL_mapSet (v := Y (s.ops.length : Int)) 4 Z hI Z Z Z yy171 yy3 Z Z Z ?_)
 intro w hI
 simp only [List.set_cons_succ, List.set_cons_zero] at hI
 rw [mapV_upd] at hI
 refine Wn (WA_end (by kernel_rfl) (Ws (Wd (by kernel_rfl) (Wi (T := [21]) hI.d2.drew ?_))))
 intro Sx hY hXS
 have hI := hI.drew
 refine T7 0 Z (T7 1 Z (T8 2 Z (Vf 3 0 Z (V9 4 (.slice _ _ _) Z (fun W hW => (hY W hW).c1 Z) (Vf 5 0 Z (Ye 6 hY Z Z (Vf 7 2 Z (Ye 8 hY Z Z (Vf 9 3 Z (Ye 10 hY Z Z (Vf 11 4 Z (Ye 12 hY Z Z (Vf 13 5 Z (Ye 14 hY Z Z (Vh 15 Z (Wt 16 Z (fun W hW => have hI := hY W hW; (rBuild (qs := [(0, Y _), (1, Y _), (2, Y _), (3, Y _), (4, Y _), (6, Y _), (7, Y _)]) (vs := [_, _, _, _, _, _, _, _]) [Y 0, Y 0, Y 0, Y 0, Y 0, Y 0, Y 0, Y 0] [0, 1, 2, 3, 4, 6, 7] Z Z Z (fun _ => by kernel_rfl))) (Vq 17 rfl (T3 [(0, .agg #[_, _, _, _, _, _, _, _])] [_, _, _, _, _, _, _, _] [.int .i64 0, .int .i64 0, .int .i64 0, .int .i64 0, .int .i64 0, .int .i64 0, .int .i64 0, .int .i64 0] [0] hI rfl yy94 (fun _ => by kernel_rfl) ?_))))))))))))))))))
 rintro b64 w - - hI
 refine Wn ⟨hXS _ hI.d0.d2, (Vq 18 Z (WL_app3 (z := .agg zI8) (by_ := 64) hI Z Z Z Z Z Z yy94 (by kernel_rfl) Z (by omega) (by rfl) hI.lit0 (by rfl) (by omega) (by omega) (by exact Nat.zero_le _) ?_))⟩
 rintro A65 c65 w hA65 hc65 hI
 have hI := hI.d0
 refine Wn ⟨hXS _ hI.d2, (T8 19 Z (Vf 20 0 Z (WT_A (by kernel_rfl) ?_)))⟩
 clear hXS hY
 refine Tr 21 Z (WL_st1 (u := .slice _ _ _) hI Z Z Z Z Z Z (by kernel_rfl) Z Z Z ?_)
 intro w hI
 refine Wn (WA_end (by kernel_rfl) ?_)
 replace hI : Inv S w0 w [B b4 167 #[.int .i64 e0, .int .i64 e1, .int .i64 e2, .int .i64 e3, .int .i64 e4, .int .i64 e5, .int .i64 e6], B sb 183 (seeC A65 (s.ops.length + 1) c65 b1 b2 Ag s.gone.length cg), Row 0 106 8 A65 (s.ops.length + 1) c65 (s.ops.flatMap opV ++ opV (newOp ⟨e0, e1, e2, e3, e4, e5, e6⟩ i)), BoolE Ag cg s.gone, MapE b1 (mapV (updI s.busy e0 (some s.ops.length))), MapE b2 (mapV s.lost)] := hI
 refine Wq (T1 Z (T1 Z (Tj Z (V8 3 Z (V6 (.slice _ _ _) Z (hI.c1 Z) (T3 [(0, .bool _)] [_] [.bool false] [0] hI Z yy91 (fun _ => by kernel_rfl) ?_))))))
 rintro b73 w - - hI
 refine WL_app4 (z := .bool false) (by_ := 1) hI Z Z Z Z Z Z yy91 (by kernel_rfl) Z (by omega) (by rfl) hI.lit0 (by rfl) (by omega) (by omega) (by exact Nat.zero_le _) ?_
 rintro A74 c74 w hA74 hc74 hI
 have hI := hI.d0
 refine Tj Z (V8 3 Z (WL_st1 (u := .slice _ _ _) hI Z Z Z Z Z Z (by kernel_rfl) Z Z Z ?_))
 intro w hI
 refine Wn (Wq (Vw Z (Wn (WR ?_))))
 replace hI : Inv S w0 w [B sb 183 (seeC A65 (s.ops.length + 1) c65 b1 b2 A74 (s.gone.length + 1) c74), Row 0 106 8 A65 (s.ops.length + 1) c65 (s.ops.flatMap opV ++ opV (newOp ⟨e0, e1, e2, e3, e4, e5, e6⟩ i)), Row 0 4 1 A74 (s.gone.length + 1) c74 (s.gone.map Value.bool ++ [.bool false]), MapE b1 (mapV (updI s.busy e0 (some s.ops.length))), MapE b2 (mapV s.lost)] := hI.d0
 refine r1_ 6 Z (SeerPostN.some (Ao' := A65) (co' := c65) (Ag' := A74) (cg' := c74) hbf ?_)
 unfold prtS OpsE BoolE
 simp only [List.length_append, List.length_singleton, List.flatMap_append, List.flatMap_cons, List.flatMap_nil, List.append_nil, List.map_append, List.map_cons, List.map_nil]
 exact hI
theorem oAt_getE {l : List Op8} {k : Nat} (hk : k < l.length) : l[k]? = some (oAt l k) := by unfold oAt; rw [List.getD_eq_getElem?_getD, gE_ hk]; rfl
theorem opsV_lenE (l : List Op8) : (l.flatMap opV).length = l.length * 8 := flat_lenG (f := opV) (fun _ => rfl) l
theorem row_op {w : World} {b c n k j : Nat} {l : List Op8} {v : Value} (h : w.ownsRow 0 106 8 (.slice (some ⟨b, 0, none⟩) n c) n (l.flatMap opV)) (hn : n = l.length) (hk : k < l.length) (hj : (opV (oAt l k))[j]? = some v) : w.cell? ⟨b, 0 + k * 8 + j, none⟩ = some v := by
 subst hn
 have hj8 : j < 8 := by have := (gS_ hj).1; simpa [opV] using this
 rw [Nat.add_assoc]
 exact row_cellS h ((flatN (f := opV) (fun a => Z) l k _ (oAt_getE hk) j hj8).trans hj) (by omega)
theorem flat_end {l : List Op8} {n : Nat} (hn : n < l.length) (e : Ev) (i : Nat) : ((l.flatMap opV).set (0 + n * 8 + 7) (.int .i64 (i : Int))).set (0 + n * 8 + 5) (.int .i64 e.res) = (l.set n (endOp (oAt l n) e i)).flatMap opV := by
 have h1 := flat_setG (f := opV) (s := 8) (fun _ => rfl) (a := oAt l n) (a' := { oAt l n with ret := (i : Int) }) (j := 7) (v := .int .i64 (i : Int)) (by omega) rfl (oAt_getE hn)
 have h2 := flat_setG (f := opV) (s := 8) (fun _ => rfl) (a := { oAt l n with ret := (i : Int) }) (a' := endOp (oAt l n) e i) (j := 5) (v := .int .i64 e.res) (by omega) rfl (l := l.set n { oAt l n with ret := (i : Int) }) (k := n) (by simp [hn])
 rw [List.set_set] at h2
 rw [h2, h1, Nat.zero_add]
theorem endF_no {e : Ev} {i : Nat} {s : SeeS} (h : s.busy e.proc = none) : endF e i s = none := by unfold endF; rw [h]
theorem endF_un {e : Ev} {i n : Nat} {s : SeeS} (h : s.busy e.proc = some n) (hf : ¬ fitsOp (oAt s.ops n) e) : endF e i s = none := by unfold endF; rw [h]; exact if_neg hf
theorem endF_go {e : Ev} {i n : Nat} {s : SeeS} (h : s.busy e.proc = some n) (hf : fitsOp (oAt s.ops n) e) : endF e i s = some ⟨if e.ty = 2 then s.ops.set n (endOp (oAt s.ops n) e i) else s.ops, updI s.busy e.proc none, if e.ty = 4 then updI s.lost e.proc (some i) else s.lost, if e.ty = 3 then s.gone.set n true else s.gone⟩ := by unfold endF; rw [h]; exact if_pos hf
theorem endN_one (e0 e1 e2 e3 e4 e5 e6 : Int) (i : Nat) (sb b1 b2 : Nat) (Ao : Option Addr) (co : Nat) (Ag : Option Addr) (cg : Nat) (s : SeeS) (w0 : World) (hlen : s.ops.length ≤ 100000) (hgl : s.gone.length = s.ops.length) (hbl : ∀ n, s.busy e0 = some n → n < s.ops.length)
  (hI : Inv (DL (prtS sb Ao co b1 b2 Ag cg s)) w0 w0 (prtS sb Ao co b1 b2 Ag cg s)) :
  Cq 115 #[.pointer (some ⟨sb, 0, none⟩), .agg #[.int .i64 e0, .int .i64 e1, .int .i64 e2, .int .i64 e3, .int .i64 e4, .int .i64 e5, .int .i64 e6], .int .i64 (i : Int)] w0 (SeerPostN 12 (endF ⟨e0, e1, e2, e3, e4, e5, e6⟩ i s) sb b1 b2 (DL (prtS sb Ao co b1 b2 Ag cg s)) w0) := by
 generalize hl0 : DL (prtS sb Ao co b1 b2 Ag cg s) = S at hI ⊢
 replace hI : Inv S w0 w0 [B sb 183 (seeC Ao s.ops.length co b1 b2 Ag s.gone.length cg), OpsE Ao co s.ops, BoolE Ag cg s.gone, MapE b1 (mapV s.busy), MapE b2 (mapV s.lost)] := hI
 clear hl0
 refine Vm func115 Z (Wq (Tq (.agg _) (#[_, _, _, _, _, _, _]) hI Z ?_))
 rintro b4 w - - hI
 refine Vw Z (Wn ?_)
 cases hb : s.busy e0 with
 | none =>
  have hbv : mapV s.busy e0 = none := by unfold mapV; rw [hb]; rfl
  exact Ws (Yi hI fun Sx hY hXS hI => T7 0 Z (T8 1 Z (Vf 2 1 Z (V9 3 (.map _) Z (fun W hW => (hY W hW).c1 Z) (Vf 4 0 Z (Ye 5 hY Z Z (Wt 6 Z (fun W hW => have hI := hY W hW; (rLookN hbv (zv := Y 0) Z yy171 yy3 (by kernel_rfl) Z Z hI.g4)) (Ub 7 Z (Ti 8 Z (Ti 9 Z (Tl 10 Z (Tg 11 Z (Yz (Ws (Wq (V7 Z (To Z (Yt Z (Ws (Wr (T0 Z yy49 Z (Vt Z (Wn (WR (r1_ 6 Z (SeerPostN.none (endF_no hb) hI))))))))))))))))))))))))))
 | some n =>
 have hbv : mapV s.busy e0 = some (.int .i64 (n : Int)) := by unfold mapV; rw [hb]; rfl
 have hn := hbl n hb
 obtain ⟨bO, _, rfl, -, -, -, -, -, -⟩ := row_openB hI.g2 (by omega)
 obtain ⟨bG, _, rfl, -, -, -, -, -, -⟩ := row_openB hI.g3 (by omega)
 refine Ws (Yi hI fun Sx hY hXS hI => T7 0 Z (T8 1 Z (Vf 2 1 Z (V9 3 (.map _) Z (fun W hW => (hY W hW).c1 Z) (Vf 4 0 Z (Ye 5 hY Z Z (Wt 6 Z (fun W hW => have hI := hY W hW; (rLookY hbv (zv := Y 0) Z yy171 yy3 (by kernel_rfl) Z Z hI.g4)) (Ub 7 Z (Ti 8 Z (Ti 9 Z (Tl 10 Z (Tg 11 Z (Yz (Ws (Wq (V7 Z (Tf Z (Yf Z (Wk (Wq (T1 Z (Tj Z (V8 0 Z (V6 (.slice _ _ _) Z (hI.c1 Z) (V0 Z (Th 8 Z yy94 Z (Wv Z (by exact rAsgnP rfl rfl) (Wn ?_))))))))))))))))))))))))))))
 have hun : ¬ fitsOp (oAt s.ops n) ⟨e0, e1, e2, e3, e4, e5, e6⟩ → endF ⟨e0, e1, e2, e3, e4, e5, e6⟩ i s = none := fun hf => endF_un hb hf
 have hgo : fitsOp (oAt s.ops n) ⟨e0, e1, e2, e3, e4, e5, e6⟩ → endF ⟨e0, e1, e2, e3, e4, e5, e6⟩ i s = _ := fun hf => endF_go hb hf
 refine Wx (fun ρ w => fitsOp (oAt s.ops n) ⟨e0, e1, e2, e3, e4, e5, e6⟩ ∧ Has ρ [(0, .pointer (some ⟨sb, 0, none⟩)), (2, Y (i : Int)), (4, .pointer (some ⟨b4, 0, none⟩)), (7, Y (n : Int)), (9, .pointer (some ⟨bO, 0 + n * 8, none⟩))] ∧ Inv S w0 w [B b4 167 #[Y e0, Y e1, Y e2, Y e3, Y e4, Y e5, Y e6], B sb 183 (seeC (some ⟨bO, 0, none⟩) s.ops.length co b1 b2 (some ⟨bG, 0, none⟩) s.gone.length cg), OpsE (some ⟨bO, 0, none⟩) co s.ops, BoolE (some ⟨bG, 0, none⟩) cg s.gone, MapE b1 (mapV s.busy), MapE b2 (mapV s.lost)]) ?_ ?_
 ·by_cases f1 : (oAt s.ops n).key = e2
  rotate_left
  ·exact Ws (Yi hI fun Sx hY hXS hI => T7 0 Z (T8 1 Z (T9 2 1 Z (V9 3 (Y _) Z (fun W hW => have hI := hY W hW; row_op hI.g2 Z hn Z) (Vf 4 2 Z (Ye 5 hY Z Z (U4 6 Z (Ve 7 Z (V4 8 Z Z (V4 9 Z Z (V4 10 Z Z (V4 11 Z Z (V4 12 Z Z (V4 13 Z Z (V4 14 Z Z (Vv 15 Z (Ve 16 Z (V4 17 Z Z (V4 18 Z Z (V4 19 Z Z (V4 20 Z Z (V4 21 Z Z (V4 22 Z Z (V4 23 Z Z (Vv 24 Z (Ve 25 Z (V4 26 Z Z (V4 27 Z Z (V4 28 Z Z (V4 29 Z Z (V4 30 Z Z (V4 31 Z Z (V4 32 Z Z (Vv 33 Z (Yz (Wc true Z (Wq (T0 Z yy49 Z (Vt Z (Wn (WR (r1_ 6 Z (SeerPostN.none (hun fun hf => f1 hf.1) hI)))))))))))))))))))))))))))))))))))))))))))
  by_cases f2 : (oAt s.ops n).kind = e3
  rotate_left
  ·exact Ws (Yi hI fun Sx hY hXS hI => T7 0 Z (T8 1 Z (T9 2 1 Z (V9 3 (Y _) Z (fun W hW => have hI := hY W hW; row_op hI.g2 Z hn Z) (Vf 4 2 Z (Ye 5 hY Z Z (Tu 6 Z (Ve 7 Z (T7 8 Z (T8 9 Z (T9 10 2 Z (V9 11 (Y _) Z (fun W hW => have hI := hY W hW; row_op hI.g2 Z hn Z) (Vf 12 3 Z (Ye 13 hY Z Z (U4 14 Z (Vn 15 Z (Ve 16 Z (V4 17 Z Z (V4 18 Z Z (V4 19 Z Z (V4 20 Z Z (V4 21 Z Z (V4 22 Z Z (V4 23 Z Z (Vv 24 Z (Ve 25 Z (V4 26 Z Z (V4 27 Z Z (V4 28 Z Z (V4 29 Z Z (V4 30 Z Z (V4 31 Z Z (V4 32 Z Z (Vv 33 Z (Yz (Wc true Z (Wq (T0 Z yy49 Z (Vt Z (Wn (WR (r1_ 6 Z (SeerPostN.none (hun fun hf => f2 hf.2.1) hI)))))))))))))))))))))))))))))))))))))))))))
  by_cases f3 : (oAt s.ops n).a = e4
  rotate_left
  ·exact Ws (Yi hI fun Sx hY hXS hI => T7 0 Z (T8 1 Z (T9 2 1 Z (V9 3 (Y _) Z (fun W hW => have hI := hY W hW; row_op hI.g2 Z hn Z) (Vf 4 2 Z (Ye 5 hY Z Z (Tu 6 Z (Ve 7 Z (T7 8 Z (T8 9 Z (T9 10 2 Z (V9 11 (Y _) Z (fun W hW => have hI := hY W hW; row_op hI.g2 Z hn Z) (Vf 12 3 Z (Ye 13 hY Z Z (Tu 14 Z (Vn 15 Z (Ve 16 Z (T7 17 Z (T8 18 Z (T9 19 3 Z (V9 20 (Y _) Z (fun W hW => have hI := hY W hW; row_op hI.g2 Z hn Z) (Vf 21 4 Z (Ye 22 hY Z Z (U4 23 Z (Vn 24 Z (Ve 25 Z (V4 26 Z Z (V4 27 Z Z (V4 28 Z Z (V4 29 Z Z (V4 30 Z Z (V4 31 Z Z (V4 32 Z Z (Vv 33 Z (Yz (Wc true Z (Wq (T0 Z yy49 Z (Vt Z (Wn (WR (r1_ 6 Z (SeerPostN.none (hun fun hf => f3 hf.2.2.1) hI)))))))))))))))))))))))))))))))))))))))))))
  by_cases f4 : (oAt s.ops n).b = e5
  rotate_left
  ·exact Ws (Yi hI fun Sx hY hXS hI => T7 0 Z (T8 1 Z (T9 2 1 Z (V9 3 (Y _) Z (fun W hW => have hI := hY W hW; row_op hI.g2 Z hn Z) (Vf 4 2 Z (Ye 5 hY Z Z (Tu 6 Z (Ve 7 Z (T7 8 Z (T8 9 Z (T9 10 2 Z (V9 11 (Y _) Z (fun W hW => have hI := hY W hW; row_op hI.g2 Z hn Z) (Vf 12 3 Z (Ye 13 hY Z Z (Tu 14 Z (Vn 15 Z (Ve 16 Z (T7 17 Z (T8 18 Z (T9 19 3 Z (V9 20 (Y _) Z (fun W hW => have hI := hY W hW; row_op hI.g2 Z hn Z) (Vf 21 4 Z (Ye 22 hY Z Z (Tu 23 Z (Vn 24 Z (Ve 25 Z (T7 26 Z (T8 27 Z (T9 28 4 Z (V9 29 (Y _) Z (fun W hW => have hI := hY W hW; row_op hI.g2 Z hn Z) (Vf 30 5 Z (Ye 31 hY Z Z (U4 32 Z (Vn 33 Z (Yz (Wc true Z (Wq (T0 Z yy49 Z (Vt Z (Wn (WR (r1_ 6 Z (SeerPostN.none (hun fun hf => f4 hf.2.2.2) hI)))))))))))))))))))))))))))))))))))))))))))
  exact Ws (Yi hI fun Sx hY hXS hI => T7 0 Z (T8 1 Z (T9 2 1 Z (V9 3 (Y _) Z (fun W hW => have hI := hY W hW; row_op hI.g2 Z hn Z) (Vf 4 2 Z (Ye 5 hY Z Z (Tu 6 Z (Ve 7 Z (T7 8 Z (T8 9 Z (T9 10 2 Z (V9 11 (Y _) Z (fun W hW => have hI := hY W hW; row_op hI.g2 Z hn Z) (Vf 12 3 Z (Ye 13 hY Z Z (Tu 14 Z (Vn 15 Z (Ve 16 Z (T7 17 Z (T8 18 Z (T9 19 3 Z (V9 20 (Y _) Z (fun W hW => have hI := hY W hW; row_op hI.g2 Z hn Z) (Vf 21 4 Z (Ye 22 hY Z Z (Tu 23 Z (Vn 24 Z (Ve 25 Z (T7 26 Z (T8 27 Z (T9 28 4 Z (V9 29 (Y _) Z (fun W hW => have hI := hY W hW; row_op hI.g2 Z hn Z) (Vf 30 5 Z (Ye 31 hY Z Z (Tu 32 Z (Vn 33 Z (Yz (Wc false Z (Wk ⟨⟨f1, f2, f3, f4⟩, g5_, hI⟩)))))))))))))))))))))))))))))))))))))
 clear hI
 rintro ρ w ⟨hfit, hH, hI⟩
 obtain ⟨σ, rfl⟩ := hH.open
 have hgo := hgo hfit
 have olen : (if e1 = 2 then s.ops.set n (endOp (oAt s.ops n) ⟨e0, e1, e2, e3, e4, e5, e6⟩ i) else s.ops).length = s.ops.length := by split <;> simp
 have glen : (if e1 = 3 then s.gone.set n true else s.gone).length = s.gone.length := by split <;> simp
 refine Wx (fun ρ w => Has ρ [(0, .pointer (some ⟨sb, 0, none⟩)), (4, .pointer (some ⟨b4, 0, none⟩))] ∧ Inv S w0 w [B b4 167 #[Y e0, Y e1, Y e2, Y e3, Y e4, Y e5, Y e6], B sb 183 (seeC (some ⟨bO, 0, none⟩) s.ops.length co b1 b2 (some ⟨bG, 0, none⟩) s.gone.length cg), Row 0 106 8 (some ⟨bO, 0, none⟩) s.ops.length co ((if e1 = 2 then s.ops.set n (endOp (oAt s.ops n) ⟨e0, e1, e2, e3, e4, e5, e6⟩ i) else s.ops).flatMap opV), Row 0 4 1 (some ⟨bG, 0, none⟩) s.gone.length cg ((if e1 = 3 then s.gone.set n true else s.gone).map Value.bool), MapE b1 (mapV s.busy), MapE b2 (mapV (if e1 = 4 then updI s.lost e0 (some i) else s.lost))]) ?_ ?_
 ·refine Wq (V8 1 Z (Yc hI Z Z (Wn (Wb ?_))))
  by_cases t2 : e1 = 2
  ·refine Wq (Vx Z (Vc Z (Yt Z (Wd (by kernel_rfl) (Wi (T := [10]) hI.d2.drew ?_)))))
   intro Sx hY hXS
   have hI := hI.drew
   refine T7 0 Z (T7 1 Z (Vh 2 Z (Vf 3 6 Z (Ye 4 hY Z Z (T8 5 Z (T9 6 7 Z (Vq 7 Z (WL_stRow 2 Z (u := Y (i : Int)) (j := 0 + n * 8 + 7) hI Z Z Z Z Z Z (by kernel_rfl) Z (by rw [opsV_lenE]; omega) ?_))))))))
   intro w hI
   simp only [List.set_cons_succ, List.set_cons_zero] at hI
   refine Wn ⟨hXS _ hI.d2, (T8 8 Z (T9 9 5 Z (WT_A (by kernel_rfl) ?_)))⟩
   clear hXS hY
   refine Tr 10 Z (WL_stRow 2 Z (u := Y e6) (j := 0 + n * 8 + 5) hI Z Z Z Z Z Z (by kernel_rfl) Z (by rw [List.length_set, opsV_lenE]; omega) ?_)
   intro w hI
   simp only [List.set_cons_succ, List.set_cons_zero] at hI
   refine Wn (WA_end (by kernel_rfl) ?_)
   rw [flat_end hn ⟨e0, e1, e2, e3, e4, e5, e6⟩ i] at hI
   rw [if_pos t2, if_neg (by omega), if_neg (by omega)]
   exact ⟨g2_, hI⟩
  rw [if_neg t2]
  refine Wq (Vs Z (Vc Z (Yf Z ?_)))
  by_cases t3 : e1 = 3
  ·rw [if_pos t3, if_neg (by omega)]
   refine Wq (Vx Z (Vc Z (Yt Z (Wr (T1 Z (Tj Z (V8 3 Z (V6 (.slice _ _ _) Z (hI.c1 Z) (V0 Z (T6 Z yy91 Z (WL_stRow 3 Z (u := .bool true) (j := n) hI Z Z Z Z Z Z (by kernel_rfl) Z (by simp; omega) ?_)))))))))))
   intro w hI
   simp only [List.set_cons_succ, List.set_cons_zero] at hI
   refine Wn ⟨g2_, ?_⟩
   rw [List.map_set]
   exact hI
  rw [if_neg t3]
  refine Wq (Vs Z (Vc Z (Yf Z ?_)))
  by_cases t4 : e1 = 4
  ·rw [if_pos t4]
   refine Wq (Vx Z (Vc Z (Yt Z (Yj [7] hI fun Sx hY hXS hI => T7 0 Z (T8 1 Z (Vf 2 2 Z (V9 3 (.map _) Z (fun W hW => (hY W hW).c1 Z) (Vf 4 0 Z (Ye 5 hY Z Z (Vh 6 Z (WT_A (by kernel_rfl) ?_)))))))))))
   clear hXS hY
   refine Tr 7 Z (WL_mapSet (v := Y (i : Int)) 5 Z hI Z Z Z yy171 yy3 Z Z Z ?_)
   intro w hI
   simp only [List.set_cons_succ, List.set_cons_zero] at hI
   rw [mapV_upd] at hI
   exact Wn (WA_end (by kernel_rfl) ⟨g2_, hI⟩)
  rw [if_neg t4]
  exact Wq (Vs Z (Vc Z (Yf Z (Wk ⟨g2_, hI⟩))))
 clear hI
 rintro ρ w ⟨hH, hI⟩
 obtain ⟨σ, rfl⟩ := hH.open
 refine Ws (Yj [6] hI fun Sx hY hXS hI => T7 0 Z (T8 1 Z (Vf 2 1 Z (V9 3 (.map _) Z (fun W hW => (hY W hW).c1 Z) (Vf 4 0 Z (Ye 5 hY Z Z (WT_A (by kernel_rfl) ?_)))))))
 clear hXS hY
 refine Tr 6 Z (WL_mapDel 4 Z hI Z Z Z yy171 yy3 Z Z ?_)
 intro w hI
 simp only [List.set_cons_succ, List.set_cons_zero] at hI
 rw [mapV_del] at hI
 refine Wn (WA_end (by kernel_rfl) (Wq (Vw Z (Wn (WR (r1_ 6 Z (SeerPostN.some (Ao' := some ⟨bO, 0, none⟩) (co' := co) (Ag' := some ⟨bG, 0, none⟩) (cg' := cg) hgo ?_)))))))
 unfold prtS OpsE BoolE
 simp only [olen, glen]
 exact hI.d0
theorem at_any (z : Int) (i : Int) (w0 : World) (hg : GlobOk w0) : Cq 102 #[.iface 49 (.int .i64 z), .int .i64 i] w0 fun en w' => (∃ b, en = .returned (.iface 199 (.pointer (some ⟨b, 0, none⟩)))) ∧ Pure w0 w' := by
 have hI := Inv.start (fun _ => False) w0
 refine Vm func102 Z (Wq (Vw Z (Wn (Wq (Vy Z (Vd [_] Z func17 Z ((tell_any _ z _ (.inl Z) (hI.oldp hg)).mono (okP hI fun w1 hp hI => V0 Z (Tc [(0, Y _), (1, Y _)] [_, _] Z [Y 0, Y 0] [0, 1] Z (fun _ => by kernel_rfl) (Tq (.agg _) (#[_, _]) hI rfl ?_))))))))))
 rintro b9 w - - hI
 exact T0 Z underlying199 Z (Vt Z (Wn (WR (r1_ 4 Z ⟨⟨_, Z⟩, hI.pu⟩))))
def EvsR (w : World) (D : Nat → Prop) (v : Value) (l : List Ev) : Prop := Rd w D 7 v l.length (l.flatMap evL)
def evAt (l : List Ev) (k : Nat) : Ev := l.getD k ⟨0, 0, 0, 0, 0, 0, 0⟩
theorem evAt_get {l : List Ev} {k : Nat} (hk : k < l.length) : l[k]? = some (evAt l k) := by unfold evAt; rw [List.getD_eq_getElem?_getD, gE_ hk]; rfl
theorem EvsR.pure {w w' : World} {D : Nat → Prop} {v : Value} {l : List Ev} (h : EvsR w D v l) (hp : Pure w w') : EvsR w' D v l := Rd.pure h hp
theorem EvsR.at {w : World} {D : Nat → Prop} {A : Option Addr} {n c : Nat} {l : List Ev} (h : EvsR w D (.slice A n c) l) {k : Nat} (hk : k < l.length) : ∃ b o, A = some ⟨b, o, none⟩ ∧ ∀ (j : Nat) (u : Value), (evL (evAt l k))[j]? = some u → w.cell? ⟨b, o + k * 7 + j, none⟩ = some u := by
 obtain ⟨A1, c1, hv, hnc, hcm, hlen, hcell⟩ := h
 injection hv with e1 e2 e3
 subst e1 e3
 obtain ⟨b, o, hbo, _, hcl⟩ := hcell (by omega)
 refine ⟨b, o, hbo, fun j u hj => ?_⟩
 have hj8 : j < 7 := by have := (gS_ hj).1; simpa [evL] using this
 rw [Nat.add_assoc]
 refine hcl _ u ?_
 rw [flatN (f := evL) (fun a => rfl) l k _ (evAt_get hk) j hj8]
 exact hj
theorem EvsR.len {w : World} {D : Nat → Prop} {A : Option Addr} {n c : Nat} {l : List Ev} (h : EvsR w D (.slice A n c) l) : n = l.length ∧ n ≤ c ∧ c ≤ 9223372036854775807 := by
 obtain ⟨A', c', he, h1, h2⟩ := Rd.form h
 injection he with _ e2 e3
 subst e2 e3
 exact ⟨Z, h1, h2⟩
def errS (e : Ev) : Int := if evOkB e = true then (if e.ty = 1 then 6 else 12) else errC e
def errR : List Ev → Nat → SeeS → Int
 | [], _, _ => 0
 | e :: r, i, s => match stepE e i s with
  | none => errS e
  | some s' => errR r (i + 1) s'
def errO (l : List Ev) : Int := if l.length ≤ 120 then errR l 0 initE else 4
def EvPostN (r : Option (List Op8)) (z : Int) (w0 : World) (en : Ending) (w' : World) : Prop := match r with
 | none => ∃ x, en = .returned (.tuple #[.slice none 0 0, x]) ∧ Inv NF w0 w' [ErrE x z]
 | some out => ∃ A' c', en = .returned (.tuple #[.slice A' out.length c', .nilIface]) ∧ Inv NF w0 w' [OpsE A' c' out]
theorem EvPostN.no {r : Option (List Op8)} {z : Int} {w0 w' : World} {x : Value} (h : r = none) (hI : Inv NF w0 w' [ErrE x z]) : EvPostN r z w0 (.returned (.tuple #[.slice none 0 0, x])) w' := by subst h; exact ⟨x, rfl, hI⟩
theorem EvPostN.yes {r : Option (List Op8)} {z : Int} {out : List Op8} {w0 w' : World} {A' : Option Addr} {c' : Nat} (h : r = some out) (hI : Inv NF w0 w' [OpsE A' c' out]) : EvPostN r z w0 (.returned (.tuple #[.slice A' out.length c', .nilIface])) w' := by subst h; exact ⟨A', c', rfl, hI⟩
theorem IsE.iface {w : World} {e : Value} {n : Int} (h : IsE w e n) : ∃ t v, e = .iface t v := by
 rcases h with rfl | ⟨b, o, rfl, _⟩ <;> exact ⟨_, _, rfl⟩
theorem row_cell1 {w : World} {e b n c k : Nat} {xs : List Value} {u : Value} (h : w.ownsRow 0 e 1 (.slice (some ⟨b, 0, none⟩) n c) n xs) (hk : xs[k]? = some u) : w.cell? ⟨b, k, none⟩ = some u := by
 have hn : 0 < n := by
  have h1 := (gS_ hk).1
  have h2 : xs.length = n * 1 := h.1
  omega
 have := row_cellS h hk hn
 rwa [Nat.zero_add] at this
theorem stepE_len {e : Ev} {i : Nat} {s s' : SeeS} (h : stepE e i s = some s') : s'.ops.length ≤ s.ops.length + 1 := by
 unfold stepE at h
 split at h
 rotate_left
 ·cases h
 split at h
 ·unfold beginF at h
  split at h
  ·cases h
  injection h with h; subst h; simp
 unfold endF at h
 split at h
 ·cases h
 split at h
 ·injection h with h
  subst h
  simp only
  split <;> simp
 cases h
theorem evopsN_any (A : Option Addr) (n c : Nat) (l : List Ev) (D : Nat → Prop) (w0 : World) (h : EvsR w0 D (.slice A n c) l) (hg : GlobOk w0) : Cq 67 #[.slice A n c] w0 (EvPostN (evF l) (errO l) w0) := by
 obtain ⟨hn, hc1, hc2⟩ := h.len
 subst hn
 have hI := Inv.start (fun _ => False) w0
 refine Vm func67 Z (Wq (Vg Z (Vw Z (Wn ?_))))
 by_cases h120 : l.length ≤ 120
 rotate_left
 ·refine Ws (Wq (Va Z (Vo Z yy26 Z (U6 Z (Yt Z (Wq (T0 Z yy49 Z (Vg Z (Vt Z (Wn (WR ?_)))))))))))
  have he4 : errO l = 4 := by unfold errO; exact if_neg h120
  rw [he4]
  exact r2_ 2 3 Z (EvPostN.no (by unfold evF; exact if_neg h120) (hI.err 4))
 have hev : evF l = (runE (l.drop 0) 0 initE).map outF := by unfold evF; exact if_pos h120
 have hez : errO l = errR (l.drop 0) 0 initE := by unfold errO; exact if_pos h120
 refine Ws (Wq (Va Z (Vo Z yy26 Z (U3 Z (Yf Z (Wk (Ws (Wr (WL_mkMap hI Z Z Z Z ?_)))))))))
 rintro b15 w hI
 refine WL_mkMap hI Z Z Z Z ?_
 rintro b16 w hI
 refine Tc [(1, .map _), (2, .map _)] [_, _, _, _] Z [.slice none 0 0, .map none, .map none, .slice none 0 0] [1, 2] Z (fun _ => by kernel_rfl) (Tq (.agg _) (#[_, _, _, _]) hI rfl ?_)
 rintro b18 w - - hI
 refine Wv Z (by exact rAsgnP rfl rfl) (Wn ?_)
 replace hI : Inv NF w0 w (prtS b18 none 0 b15 b16 none 0 initE) := by
  have h1 := (hI.sw1).fresh (e := BoolE none 0 []) (Pure.refl w) (Row.nil w 0 4 1) (fun k hk => by cases hk)
  have h2 := (h1.sw0).fresh (e := OpsE none 0 []) (Pure.refl w) (Row.nil w 0 106 8) (fun k hk => by cases hk)
  exact h2.sw0
 refine Wx (fun ρ w => ∃ (s : SeeS) (Ao : Option Addr) (co : Nat) (Ag : Option Addr) (cg : Nat), evF l = some (outF s) ∧ SeeOk l l.length s ∧ s.ops.length ≤ l.length ∧ Has ρ [(4, .pointer (some ⟨b18, 0, none⟩))] ∧ Inv NF w0 w (prtS b18 Ao co b15 b16 Ag cg s)) ?_ ?_
 ·refine Wq (Va Z (Vo Z yy26 Z (V0 Z (Wn (Wb ?_)))))
  refine Wl (fun mu ρ w => ∃ (k : Nat) (s : SeeS) (Ao : Option Addr) (co : Nat) (Ag : Option Addr) (cg : Nat), mu = l.length - k ∧ k ≤ l.length ∧ (evF l = (runE (l.drop k) k s).map outF ∧ errO l = errR (l.drop k) k s) ∧ SeeOk l k s ∧ s.ops.length ≤ k ∧ Has ρ [(21, Y (k : Int)), (20, Y (l.length : Int)), (19, .slice A l.length c), (4, .pointer (some ⟨b18, 0, none⟩))] ∧ Inv NF w0 w (prtS b18 Ao co b15 b16 Ag cg s)) l.length
   ⟨0, initE, none, 0, none, 0, rfl, by omega, ⟨hev, hez⟩, seeOk_init l, Nat.le_refl _, ⟨rfl, rfl, rfl, rfl, trivial⟩, hI⟩ ?_
  clear hI hev hez
  rintro mu ρ w ⟨k, s, Ao, co, Ag, cg, rfl, hk, ⟨hev, hez⟩, hok, hsl, hH, hI⟩
  obtain ⟨σ, rfl⟩ := hH.open
  by_cases hkl : k < l.length
  rotate_left
  ·obtain rfl : k = l.length := by omega
   rw [List.drop_of_length_le (Nat.le_refl _)] at hev
   exact Wq (Vr Z (Yg Z (WE ⟨s, Ao, co, Ag, cg, hev, hok, hsl, g1_, hI⟩)))
  obtain ⟨bA, oA, rfl, hoc⟩ := (h.pure hI.pu).at hkl
  have hget := evAt_get hkl
  have hdrop : l.drop k = evAt l k :: l.drop (k + 1) := by
   rw [List.drop_eq_getElem_cons hkl]
   congr 1
   have := hget
   rw [gE_ hkl] at this
   injection this
  rw [hdrop, runE] at hev
  rw [hdrop, errR] at hez
  have hstep := fun s' (hs : stepE (evAt l k) k s = some s') => seeOk_step hok hget hs
  have hbl := fun n (hb : s.busy (evAt l k).proc = some n) => (hok.busy _ n hb).1
  have hgl := hok.glen
  generalize hpk : evAt l k = pk at hoc hev hez hstep hbl
  obtain ⟨e0, e1, e2, e3, e4, e5, e6⟩ := pk
  refine Wq (Vu Z (Yu Z (Wk (Ws (Wb (Wq (V0 Z (Th 7 Z yy26 Z (Ts 7 Z (by rfl) hoc (Vz (.agg zI7) (zI7) hI Z ?_))))))))))
  rintro b6 w - - hI
  refine Vb Z (T2 7 (#[_, _, _, _, _, _, _]) (.agg _) hI Z ?_)
  intro w hI
  refine Wn ?_
  simp only [evL] at hI
  refine Wx (fun ρ w => ∃ v7, Has ρ [(7, v7), (21, Y (k : Int)), (20, Y (l.length : Int)), (19, .slice (some ⟨bA, oA, none⟩) l.length c), (4, .pointer (some ⟨b18, 0, none⟩)), (5, Y (k : Int)), (6, .pointer (some ⟨b6, 0, none⟩))] ∧ Inv NF w0 w (B b6 167 #[Y e0, Y e1, Y e2, Y e3, Y e4, Y e5, Y e6] :: prtS b18 Ao co b15 b16 Ag cg s) ∧ ((evOkB ⟨e0, e1, e2, e3, e4, e5, e6⟩ = true ∧ v7 = .nilIface) ∨ (evOkB ⟨e0, e1, e2, e3, e4, e5, e6⟩ = false ∧ v7 = .iface 49 (Y (errC ⟨e0, e1, e2, e3, e4, e5, e6⟩))))) ?_ ?_
  ·refine Wr (Tt 7 Z hI.g0 (Vd [.agg _] Z func101 Z ((checkN_any ⟨e0, e1, e2, e3, e4, e5, e6⟩ _).mono ?_)))
   rintro e w1 ⟨hp, hr⟩
   obtain ⟨v7, rfl⟩ : ∃ v, e = .returned v := by rcases hr with ⟨_, rfl⟩ | ⟨_, rfl⟩ <;> exact ⟨_, rfl⟩
   refine rV ?_
   have hI := hI.pure hp
   refine U7 Z (Wn ⟨v7, g7_, hI, ?_⟩)
   rcases hr with ⟨q1, q2⟩ | ⟨q1, q2⟩
   ·injection q2 with q2; exact .inl ⟨q1, q2⟩
   injection q2 with q2; exact .inr ⟨q1, q2⟩
  clear hI
  rintro ρ w ⟨v7, hH, hI, hv⟩
  obtain ⟨σ, rfl⟩ := hH.open
  refine Wx (fun ρ w => ∃ v7, Has ρ [(7, v7), (21, Y (k : Int)), (20, Y (l.length : Int)), (19, .slice (some ⟨bA, oA, none⟩) l.length c), (4, .pointer (some ⟨b18, 0, none⟩)), (5, Y (k : Int))] ∧ ((stepE ⟨e0, e1, e2, e3, e4, e5, e6⟩ k s = none ∧ v7 = .iface 49 (Y (errS ⟨e0, e1, e2, e3, e4, e5, e6⟩)) ∧ Inv NF w0 w []) ∨ (∃ s', stepE ⟨e0, e1, e2, e3, e4, e5, e6⟩ k s = some s' ∧ v7 = .nilIface ∧ ∃ Ao co Ag cg, Inv NF w0 w (prtS b18 Ao co b15 b16 Ag cg s')))) ?_ ?_
  ·refine Wb ?_
   rcases hv with ⟨hv, rfl⟩ | ⟨hv, rfl⟩
   rotate_left
   ·exact Wq (Vy Z (U0 Z yy37 Z (Vc Z (Yt Z (Wk ⟨_, g6_, .inl ⟨by unfold stepE; rw [hv]; rfl, by unfold errS; rw [hv]; rfl, hI.none⟩⟩)))))
   refine Wq (Td Z (Tv Z yy37 Z (Vc Z (Yf Z ?_))))
   replace hI : Inv NF w0 w (prtS b18 Ao co b15 b16 Ag cg s ++ [B b6 167 #[.int .i64 e0, .int .i64 e1, .int .i64 e2, .int .i64 e3, .int .i64 e4, .int .i64 e5, .int .i64 e6]]) := hI.perm (List.perm_append_comm (l₁ := [_]))
   by_cases t1 : e1 = 1
   ·have hse : stepE ⟨e0, e1, e2, e3, e4, e5, e6⟩ k s = beginF ⟨e0, e1, e2, e3, e4, e5, e6⟩ k s := by unfold stepE; rw [if_pos hv]; exact if_pos t1
    have hsz : errS ⟨e0, e1, e2, e3, e4, e5, e6⟩ = 6 := by unfold errS; rw [if_pos hv]; exact if_pos t1
    refine Wq (V8 1 Z (V6 (Y _) Z (hI.c5 Z) (Vx Z (Vc Z (Yt Z (Wr (T1 Z (Tt 7 Z hI.g5 (V0 Z (Vd [.pointer _, .agg _, Y _] Z func114 Z ((beginN_one e0 e1 e2 e3 e4 e5 e6 k b18 b15 b16 Ao co Ag cg s _ (by omega) hgl hI.from).mono ?_)))))))))))
    rintro e w1 hP
    rw [hse]
    unfold SeerPostN at hP
    generalize beginF ⟨e0, e1, e2, e3, e4, e5, e6⟩ k s = r at hP ⊢
    obtain ⟨v, rfl, hQ⟩ : ∃ v, e = .returned v ∧ ((r = none ∧ v = .iface 49 (.int .i64 (errS ⟨e0, e1, e2, e3, e4, e5, e6⟩)) ∧ Inv NF w0 w1 []) ∨ ∃ s', r = some s' ∧ v = .nilIface ∧ ∃ Ao co Ag cg, Inv NF w0 w1 (prtS b18 Ao co b15 b16 Ag cg s')) := by
     cases r with
     | none => obtain ⟨q1, rfl⟩ := hP; exact ⟨_, rfl, .inl ⟨rfl, by rw [hsz], (hI.turnL q1).none⟩⟩
     | some s' => obtain ⟨rfl, A1, c1, A2, c2, q1⟩ := hP; exact ⟨_, rfl, .inr ⟨s', rfl, rfl, A1, c1, A2, c2, (hI.turnL q1).d5⟩⟩
    exact rV (U7 Z (Wn ⟨_, g6_, hQ⟩))
   have hse : stepE ⟨e0, e1, e2, e3, e4, e5, e6⟩ k s = endF ⟨e0, e1, e2, e3, e4, e5, e6⟩ k s := by unfold stepE; rw [if_pos hv]; exact if_neg t1
   have hsz : errS ⟨e0, e1, e2, e3, e4, e5, e6⟩ = 12 := by unfold errS; rw [if_pos hv]; exact if_neg t1
   refine Wq (V8 1 Z (V6 (Y _) Z (hI.c5 Z) (Vs Z (Vc Z (Yf Z (Wr (T1 Z (Tt 7 Z hI.g5 (V0 Z (Vd [.pointer _, .agg _, Y _] Z func115 Z ((endN_one e0 e1 e2 e3 e4 e5 e6 k b18 b15 b16 Ao co Ag cg s _ (by omega) hgl hbl hI.from).mono ?_)))))))))))
   rintro e w1 hP
   rw [hse]
   unfold SeerPostN at hP
   generalize endF ⟨e0, e1, e2, e3, e4, e5, e6⟩ k s = r at hP ⊢
   obtain ⟨v, rfl, hQ⟩ : ∃ v, e = .returned v ∧ ((r = none ∧ v = .iface 49 (.int .i64 (errS ⟨e0, e1, e2, e3, e4, e5, e6⟩)) ∧ Inv NF w0 w1 []) ∨ ∃ s', r = some s' ∧ v = .nilIface ∧ ∃ Ao co Ag cg, Inv NF w0 w1 (prtS b18 Ao co b15 b16 Ag cg s')) := by
    cases r with
    | none => obtain ⟨q1, rfl⟩ := hP; exact ⟨_, rfl, .inl ⟨rfl, by rw [hsz], (hI.turnL q1).none⟩⟩
    | some s' => obtain ⟨rfl, A1, c1, A2, c2, q1⟩ := hP; exact ⟨_, rfl, .inr ⟨s', rfl, rfl, A1, c1, A2, c2, (hI.turnL q1).d5⟩⟩
   exact rV (U7 Z (Wn ⟨_, g6_, hQ⟩))
  clear hI hv
  rintro ρ w ⟨v7, hH, hP⟩
  obtain ⟨σ, rfl⟩ := hH.open
  rcases hP with ⟨hs, rfl, hI⟩ | ⟨s', hs, rfl, Ao', co', Ag', cg', hI⟩
  ·refine Wq (Vy Z (U0 Z yy37 Z (Yt Z (Wq (Vy Z (V0 Z (Vd [_, Y _] Z func102 Z ((atN_any (errS ⟨e0, e1, e2, e3, e4, e5, e6⟩) k _ (hI.oldp hg)).mono ?_))))))))
   rintro e w1 ⟨x, rfl, hT⟩
   refine rV ?_
   have hI := hI.app1 hT
   refine Vg Z (U7 Z (Wn (WR ?_)))
   rw [hs] at hez
   rw [hez]
   exact r2_ 2 3 Z (EvPostN.no (by rw [hev, hs]; rfl) hI)
  rw [hs] at hev hez
  have hok' := hstep s' hs
  have hl' : s'.ops.length ≤ k + 1 := by
   have := stepE_len hs
   omega
  exact Wq (Td Z (Tv Z yy37 Z (Yf Z (Wk (Wr (Vl Z (V0 Z (Wn ⟨l.length - (k + 1), by omega, k + 1, s', Ao', co', Ag', cg', rfl, by omega, ⟨hev, hez⟩, hok', hl', g4_, hI⟩))))))))
 clear hI hev hez
 rintro ρ w ⟨s, Ao, co, Ag, cg, hev, hok, hsl, hH, hI⟩
 obtain ⟨σ, rfl⟩ := hH.open
 refine Wq (Vg Z (Wn (Wx (fun ρ w => ∃ (A8 : Option Addr) (c8 : Nat), Has ρ [(8, .slice A8 (outF s).length c8)] ∧ Inv NF w0 w [OpsE A8 c8 (outF s)]) ?_ ?_)))
 ·replace hI : Inv NF w0 w (OpsE none 0 ((keptF s 0).map (oAt s.ops)) :: prtS b18 Ao co b15 b16 Ag cg s) := hI.fresh (Pure.refl w) (Row.nil w 0 106 8) (fun k hk => by cases hk)
  refine Wq (T1 Z (Tj Z (V8 0 Z (V6 (.slice _ _ _) Z (hI.c1 Z) (Vo Z yy94 Z (V0 Z (Wn (Wb ?_))))))))
  refine Wl (fun mu ρ w => ∃ (k : Nat) (A8 : Option Addr) (c8 : Nat), mu = s.ops.length - k ∧ k ≤ s.ops.length ∧ Has ρ [(54, Y (k : Int)), (53, Y (s.ops.length : Int)), (52, .slice Ao s.ops.length co), (4, .pointer (some ⟨b18, 0, none⟩)), (8, .slice A8 ((keptF s k).map (oAt s.ops)).length c8)] ∧ Inv NF w0 w (OpsE A8 c8 ((keptF s k).map (oAt s.ops)) :: prtS b18 Ao co b15 b16 Ag cg s)) s.ops.length
   ⟨0, _, _, rfl, by omega, ⟨rfl, rfl, rfl, rfl, rfl, trivial⟩, hI⟩ ?_
  clear hI
  rintro mu ρ w ⟨k, A8, c8, rfl, hk, hH, hI⟩
  obtain ⟨σ, rfl⟩ := hH.open
  by_cases hkl : k < s.ops.length
  rotate_left
  ·obtain rfl : k = s.ops.length := by omega
   refine Wq (Vr Z (Yg Z (WE ⟨A8, c8, g1_, hI.d5.d4.d3.d2.d1⟩)))
  have hglen := hok.glen
  obtain ⟨bO, _, rfl, -, -, -, -, -, -⟩ := row_openB hI.g2 (by omega)
  obtain ⟨bG, _, rfl, -, -, -, -, -, -⟩ := row_openB hI.g3 (by omega)
  have hkc : ((keptF s k).map (oAt s.ops)).length ≤ 120 := by
   have : (keptF s k).length ≤ (List.range k).length := List.length_filter_le ..
   simp at this ⊢
   omega
  have hgc : (s.gone.map Value.bool)[k]? = some (.bool (goneAt s k)) := by
   unfold goneAt
   rw [List.getElem?_map, List.getD_eq_getElem?_getD, gE_ (show k < s.gone.length by omega)]
   rfl
  have hoc : ∀ (j : Nat) (u : Value), (opV (oAt s.ops k))[j]? = some u → w.cell? ⟨bO, 0 + k * 8 + j, none⟩ = some u := fun j u hj => row_op hI.g2 rfl hkl hj
  refine Wq (Vu Z (Yu Z (Wk (Ws (Wb (Wq (V0 Z (Th 8 Z yy94 Z (Ts 8 Z (by rfl) hoc (Vz (.agg zI8) (zI8) hI Z ?_))))))))))
  rintro b10 w - - hI
  refine Vb Z (T2 8 (#[_, _, _, _, _, _, _, _]) (.agg _) hI Z ?_)
  intro w hI
  refine Wn ?_
  have hks := keptF_succ s k
  change keptF s (k + 1) = keptF s k ++ (if goneAt s k = true then [] else [k]) at hks
  cases hg1 : goneAt s k with
  | true =>
   rw [hg1] at hgc hks
   refine Wq (T1 Z (Tj Z (V8 3 Z (V6 (.slice _ _ _) Z (hI.c2 Z) (V0 Z (T6 Z yy91 Z (V6 (.bool _) Z (row_cell1 hI.g4 hgc) (Tf Z (Yf Z (Wk ?_))))))))))
   have hI := hI.d0
   refine Wr (Vl Z (V0 Z (Wn ⟨s.ops.length - (k + 1), by omega, k + 1, A8, c8, rfl, by omega, ?_, ?_⟩)))
   ·rw [hks]; simp only [if_true, List.append_nil]; exact ⟨rfl, rfl, rfl, rfl, rfl, trivial⟩
   rw [hks]; simp only [if_true, List.append_nil]; exact hI
  | false =>
   rw [hg1] at hgc hks
   refine Wq (T1 Z (Tj Z (V8 3 Z (V6 (.slice _ _ _) Z (hI.c2 Z) (V0 Z (T6 Z yy91 Z (V6 (.bool _) Z (row_cell1 hI.g4 hgc) (To Z (Yt Z (Wr (Va Z (Tt 8 Z hI.g0 (T3 [(0, .agg #[_, _, _, _, _, _, _, _])] [_, _, _, _, _, _, _, _] [Y 0, Y 0, Y 0, Y 0, Y 0, Y 0, Y 0, Y 0] [0] hI Z yy94 (fun _ => by kernel_rfl) ?_)))))))))))))
   rintro b69 w - - hI
   refine WL_app2 (z := .agg zI8) (by_ := 64) hI Z Z Z Z Z Z yy94 (by kernel_rfl) Z (by omega) (by rfl) hI.lit0 (by rfl) (by omega) (by omega) (by exact Nat.zero_le _) ?_
   rintro A70 c70 w hA70 hc70 hI
   have hI := hI.d0
   refine Vg Z (Wn ?_)
   replace hI : Inv NF w0 w (Row 0 106 8 A70 (((keptF s k).map (oAt s.ops)).length + 1) c70 (((keptF s k).map (oAt s.ops)).flatMap opV ++ opV (oAt s.ops k)) :: prtS b18 (some ⟨bO, 0, none⟩) co b15 b16 (some ⟨bG, 0, none⟩) cg s) := hI.d0
   have hks : (keptF s (k + 1)).map (oAt s.ops) = (keptF s k).map (oAt s.ops) ++ [oAt s.ops k] := by rw [hks]; simp
   refine Wr (Vl Z (V0 Z (Wn ⟨s.ops.length - (k + 1), by omega, k + 1, A70, c70, rfl, by omega, ?_, ?_⟩)))
   ·rw [hks, List.length_append]; exact ⟨rfl, rfl, rfl, rfl, rfl, trivial⟩
   rw [hks]
   unfold OpsE
   rw [List.length_append, List.flatMap_append, List.flatMap_cons, List.flatMap_nil, List.append_nil]
   exact hI
 clear hI
 rintro ρ w ⟨A8, c8, hH, hI⟩
 obtain ⟨σ, rfl⟩ := hH.open
 exact Wq (Va Z (Vg Z (Vw Z (Wn (WR (r2_ 2 3 Z (EvPostN.yes hev hI)))))))
structure TxG (w : World) : Prop where
 num : NumG w
 err : GlobOk w
 spc : Lib.TabIs prog w "strings.asciiSpace" .u8 Lib.asciiSpaceTab
theorem gspcN : prog.globalNamed "strings.asciiSpace" = some 1 := by kernel_rfl
theorem TxG.pure {w w' : World} (h : TxG w) (hp : Pure w w') : TxG w' :=
 ⟨h.num.chg (hp.chg NF) NoG.none, ((Inv.start (fun _ => False) w).pure hp).oldp h.err, var_keep gspcN (hp.chg NF) id h.spc⟩
theorem fields_any (l : List UInt8) (ws : List (List UInt8)) (hf : Lib.fields l = ws) (hl : l.length ≤ 1000) (ha : ∀ (j : Nat) b, l[j]? = some b → b.toNat < 128) (w : World) (hG : TxG w) :
  Cq 42 #[strV l] w fun e w' => ∃ g, e = .returned (.slice (some ⟨g, 0, none⟩) ws.length ws.length) ∧ Inv NF w w' [B g 9 (ws.map strV).toArray] := by
 have hs : (⟨l.toArray⟩ : ByteArray).size = l.length := str_size l
 refine (Any.strings_Fields_laid laysM157 ⟨l.toArray⟩ w (by omega) ha hG.spc).mono ?_
 rintro e w' ⟨rfl, rfl⟩
 rw [str_list, hf]
 exact ⟨_, Z, (Inv.start (fun _ => False) w).box _ _⟩
theorem extra156 : Builder.Extra prog Tryz.lays156_ren := ⟨⟨by kernel_rfl, by kernel_rfl⟩, underlying5, isAgg5, sizeOf5, zeroValue5, by kernel_rfl, by kernel_rfl, by kernel_rfl, by decide⟩
theorem extra166 : Builder.Extra prog Tryz.lays166_ren := ⟨⟨by kernel_rfl, by kernel_rfl⟩, underlying5, isAgg5, sizeOf5, zeroValue5, by kernel_rfl, by kernel_rfl, by kernel_rfl, by decide⟩
theorem extra169 : Builder.Extra prog Tryz.lays169_ren := ⟨⟨by kernel_rfl, by kernel_rfl⟩, underlying5, isAgg5, sizeOf5, zeroValue5, by kernel_rfl, by kernel_rfl, by kernel_rfl, by decide⟩
theorem join_any (bk o c : Nat) (xs : List (List UInt8)) (w : World) (hc : ∀ (j : Nat) x, xs[j]? = some x → w.cell? ⟨bk, o + j, none⟩ = some (strV x)) (hbk : bk < w.heap.size) (hN : xs.length ≤ 1000) (hcap : xs.length ≤ c)
  (hlen : (Lib.join xs [32]).length ≤ 100000) : Cq 11 #[.slice (some ⟨bk, o, none⟩) xs.length c, strV [32]] w fun e w' => e = .returned (strV (Lib.join xs [32])) ∧ Pure w w' := by
 have e1 : (xs.map (fun (x : List UInt8) => (⟨x.toArray⟩ : ByteArray))).map (·.data.toList) = xs := by rw [List.map_map]; exact List.map_id xs
 have := Any.strings_Join lays156 extra156 bk o c (xs.map fun x => ⟨x.toArray⟩) ⟨#[32]⟩ w (fun j x hx => by
  rw [List.getElem?_map] at hx
  cases h : xs[j]? with
  | none => rw [h] at hx; cases hx
  | some y =>
   rw [h] at hx
   injection hx with hx
   subst hx
   exact hc j y h) hbk (by rw [List.length_map]; omega) (by rw [List.length_map]; exact hcap) (by rw [e1]; show (Lib.join xs [32]).length ≤ _; omega)
 rw [List.length_map, e1] at this
 exact this
theorem inv_rowOf {S : Nat → Prop} {w0 w : World} {H : List Ent} {g e : Nat} {cs : Array Value} (hI : Inv S w0 w (B g e cs :: H)) (n : Nat) (hn : cs.size = n) (hm : n ≤ 1000000) : Inv S w0 w (Row 0 e 1 (some ⟨g, 0, none⟩) n n cs.toList :: H) :=
 hI.u0 (e' := Row 0 e 1 (some ⟨g, 0, none⟩) n n cs.toList) (Chg.refl _ _) (Row.of_blk hI.g0 (Nat.zero_le _) (by omega) (by omega)) (fun k hk => .inl (by have : some g = some k := hk; injection this with this; exact this.symm))
abbrev IsB (B b : Nat) (l : List UInt8) (w : World) : Prop := Lib.IsBuilderF 33 5 B b (Lib.byteCells l) w
theorem BuilderAtF.pure' {T e : TypeId} {B b : Nat} {p : Value} {bs : List Value} {w w' : World} (h : Lib.BuilderAtF T e B b p bs w) (hp : Pure w w') : Lib.BuilderAtF T e B b p bs w' := by
 obtain ⟨hB, v, hb, ⟨h1, h2⟩, hne⟩ := h
 have hk : ∀ {k : Nat} {o : Obj}, w.heap[k]? = some o → w'.heap[k]? = some o := fun {k o} h => (hp.block k (Array.getElem?_eq_some_iff.1 h).1).trans h
 refine ⟨hB, v, hk hb, ⟨h1, ?_⟩, hne⟩
 rcases h2 with h2 | ⟨g, cap, cur, fz, q1, q2, q3, q4, q5, q6, q7, q8⟩
 ·exact .inl h2
 exact .inr ⟨g, cap, cur, fz, q1, q2, hk q3, q4, q5, q6, q7, q8⟩
theorem IsB.pure {B b : Nat} {l : List UInt8} {w w' : World} (h : IsB B b l w) (hp : Pure w w') : IsB B b l w' := h.elim (fun x => .inl (BuilderAtF.pure' x hp)) (fun x => .inr (BuilderAtF.pure' x hp))
theorem IsB.of_blk {w : World} {B b : Nat} (h : Blk w b 33 #[.pointer none, .slice none 0 0]) (hB : B ≤ b) : IsB B b [] w := .inl ⟨hB, _, h, World.ownsRowF_nil _ _ _ _, by simp [Value.ownBlock]⟩
theorem wrs_any (B b : Nat) (l s : List UInt8) (w : World) (h : IsB B b l w) (hlen : l.length + s.length ≤ 100000000000) (hB : B ≤ w.heap.size) :
  Cq 7 #[.pointer (some ⟨b, 0, none⟩), strV s] w fun e w' => (∃ v, e = .returned v) ∧ IsB B b (l ++ s) w' ∧ Below B w w' := by
 have hs : (⟨s.toArray⟩ : ByteArray).size = s.length := str_size s
 refine (Any.Builder_WriteString_k lays166 extra166 B b _ ⟨s.toArray⟩ w h (by rw [Lib.byteCells_length]; omega) hB).mono ?_
 rintro e w' ⟨rfl, h1, h2, -⟩
 refine ⟨⟨_, Z⟩, .inr ?_, h2⟩
 rw [Lib.byteCells_append]
 rw [Lib.strCells_eq] at h1
 exact h1
theorem bstr_any (B b : Nat) (l : List UInt8) (w : World) (h : IsB B b l w) (hB : B ≤ w.heap.size) :
  Cq 9 #[.pointer (some ⟨b, 0, none⟩)] w fun e w' => e = .returned (strV l) ∧ Below B w w' := by
 refine (Any.Builder_String_any_k lays169 extra169 B b l w h hB).mono ?_
 rintro e w' ⟨rfl, _, h2, -⟩
 exact ⟨Z, h2⟩
theorem rPtrEqN {P : Program} {ρ : Env} {o : Oper} {w : World} {x y : Operand} {t t' el : Nat} (ho : o.op = .binOp .eql t x y t') (ht : P.underlying t = some (.pointer el)) (hx : ev ρ x = .pointer none) (hy : ev ρ y = .pointer none) : Runs P ρ o w (.bool true) := by
 have h := run_equal (P := P) (w := w) (t := t) (x := .pointer none) (y := .pointer none) (r := true) (fun d => by simp [Op.equalIn, run_underlying ht])
 simp [Runs, execOp, ho, hx, hy, eqGuard, binOp, h]
def evP (e : Ev) (k : Nat) : Array Value := #[.int .i64 (if 0 < k then e.proc else 0), .int .i64 0, .int .i64 (if 3 < k then e.key else 0), .int .i64 0, .int .i64 (if 4 < k then e.a else 0), .int .i64 (if 5 < k then e.b else 0), .int .i64 (if 6 < k then e.res else 0)]
def ptrsP (b : Nat) : Array Value := #[.pointer (some ⟨b, 0, none⟩), .pointer none, .pointer none, .pointer (some ⟨b, 2, none⟩), .pointer (some ⟨b, 4, none⟩), .pointer (some ⟨b, 5, none⟩), .pointer (some ⟨b, 6, none⟩)]
def readN (t : List UInt8) : Option Int := match Lib.atoiAll t with
 | .ok n => if Lib.itoa n = t then some n else none
 | _ => none
def idxN (ws : List (List UInt8)) (wd : List UInt8) : Option Nat := ws.findIdx? (fun x => decide (x = wd))
def idxI (ws : List (List UInt8)) (wd : List UInt8) : Int := match idxN ws wd with
 | some m => (m : Int)
 | none => -1
theorem idxI_some {ws : List (List UInt8)} {wd : List UInt8} {m : Nat} (h1 : ws[m]? = some wd) (h2 : ∀ j, j < m → ws[j]? ≠ some wd) : idxI ws wd = (m : Int) := by
 have : idxN ws wd = some m := by
  unfold idxN
  rw [List.findIdx?_eq_some_iff_getElem]
  obtain ⟨hm1, hm2⟩ := gS_ h1
  refine ⟨hm1, by simp [hm2], fun j hj => ?_⟩
  have := h2 j hj
  rw [gE_ (by omega)] at this
  simpa using this
 unfold idxI
 rw [this]
theorem idxI_none {ws : List (List UInt8)} {wd : List UInt8} (h2 : ∀ j, j < ws.length → ws[j]? ≠ some wd) : idxI ws wd = -1 := by
 have : idxN ws wd = none := by
  unfold idxN
  rw [List.findIdx?_eq_none_iff]
  intro x hx
  obtain ⟨j, hj, rfl⟩ := List.getElem_of_mem hx
  have := h2 j hj
  rw [gE_ hj] at this
  simpa using this
 unfold idxI
 rw [this]
theorem idxI_le (ws : List (List UInt8)) (wd : List UInt8) : -1 ≤ idxI ws wd ∧ idxI ws wd < (ws.length : Int) ∨ idxI ws wd = -1 := by
 unfold idxI
 cases h : idxN ws wd with
 | none => exact .inr rfl
 | some m =>
  left
  unfold idxN at h
  rw [List.findIdx?_eq_some_iff_getElem] at h
  obtain ⟨h1, _⟩ := h
  simp only
  omega
theorem indexN_any (l : List UInt8) (ws : List (List UInt8)) (wd : List UInt8) (hf : Lib.fields l = ws) (hl : l.length ≤ 1000) (ha : ∀ (j : Nat) b, l[j]? = some b → b.toNat < 128) (hws : ws.length ≤ 1000) (w0 : World) (hG : TxG w0) :
  Cq 154 #[strV l, strV wd] w0 fun e w' => e = .returned (.int .i64 (idxI ws wd)) ∧ Pure w0 w' := by
 have hI := Inv.start (fun _ => False) w0
 refine Vm func154 Z (Wq (Vb Z (Wn (Wx (fun ρ w => idxI ws wd = -1 ∧ Inv NF w0 w []) ?_ ?_))))
 ·refine Wq (Ta Z (Vd [.string _] Z func42 Z ((fields_any l ws hf hl ha _ (hG.pure hI.pu)).mono ?_)))
  rintro e w1 ⟨g1, rfl, hT⟩
  refine rV ?_
  have hI := hI.app1 hT
  refine Vo Z yy42 Z (V0 Z (Wn (Wb ?_)))
  refine Wl (fun mu ρ w => ∃ k : Nat, mu = ws.length - k ∧ k ≤ ws.length ∧ (∀ j, j < k → ws[j]? ≠ some wd) ∧ Has ρ [(10, Y (k : Int)), (9, Y (ws.length : Int)), (8, .slice (some ⟨g1, 0, none⟩) ws.length ws.length), (1, strV wd)] ∧ Inv NF w0 w [B g1 9 (ws.map strV).toArray]) ws.length
   ⟨0, rfl, by omega, fun j hj => by omega, ⟨rfl, rfl, rfl, rfl, trivial⟩, hI⟩ ?_
  clear hI
  rintro mu ρ w ⟨k, rfl, hk, hno, hH, hI⟩
  obtain ⟨σ, rfl⟩ := hH.open
  by_cases hkl : k < ws.length
  rotate_left
  ·obtain rfl : k = ws.length := by omega
   exact Wq (Vr Z (Yg Z (WE ⟨idxI_none hno, hI.d0⟩)))
  have hks : (ws.map strV).toArray[k]? = some (strV ws[k]) := by
   rw [List.getElem?_toArray, List.getElem?_map, gE_ hkl]; rfl
  have hkg : ws[k]? = some ws[k] := gE_ hkl
  generalize ws[k] = wk at hks hkg
  refine Wq (Vu Z (Yu Z (Wk (Ws (Wb (Wq (V0 Z (T6 Z yy42 Z (V6 (.string _) Z (hI.c0 hks) (Vb Z (T5 Z (Wn ?_))))))))))))
  by_cases hwe : wk = wd
  ·have hidx := idxI_some (hwe ▸ hkg) hno
   exact Wq (Ta Z (Ta Z (Wv Z (by exact rStrEqT rfl rfl rfl (by assumption)) (Yt Z (Wq (V0 Z (Vb Z (Wn (WR (r1_ 4 Z ⟨by rw [hidx]; rfl, hI.pu⟩))))))))))
  refine Wq (Ta Z (Ta Z (Wv Z (by exact rStrEqF rfl rfl rfl (by assumption)) (Yf Z (Wk (Wr (Vl Z (V0 Z (Wn ⟨ws.length - (k + 1), by omega, k + 1, rfl, by omega, fun j hj => ?_, g4_, hI⟩)))))))))
  rcases Nat.lt_or_ge j k with h1 | h1
  ·exact hno j h1
  obtain rfl : j = k := by omega
  rw [hkg]
  exact fun h => hwe (Option.some.inj h)
 clear hI
 rintro ρ w ⟨hn, hI⟩
 exact Wq (Vb Z (Wn (WR (r1_ 4 Z ⟨by rw [hn]; rfl, hI.pu⟩))))
def numAt (k : Nat) : Bool := !(k == 1 || k == 2)
abbrev wAt (ws : List (List UInt8)) (k : Nat) : List UInt8 := ws.getD k []
def numP (ws : List (List UInt8)) (k : Nat) : Int := (readN (wAt ws k)).getD 0
def evW (ws : List (List UInt8)) : Ev := ⟨numP ws 0, 0, numP ws 3, 0, numP ws 4, numP ws 5, numP ws 6⟩
def parseE (ws : List (List UInt8)) : Except Int Ev :=
 if (List.range 7).all (fun k => !numAt k || (readN (wAt ws k)).isSome) = true then
  if idxI typeWs (wAt ws 1) < 0 ∨ idxI kindWs (wAt ws 2) < 0 then .error 5
  else if evOkB { evW ws with ty := 1 + idxI typeWs (wAt ws 1), kind := 1 + idxI kindWs (wAt ws 2) } = true then .ok { evW ws with ty := 1 + idxI typeWs (wAt ws 1), kind := 1 + idxI kindWs (wAt ws 2) }
   else .error (errC { evW ws with ty := 1 + idxI typeWs (wAt ws 1), kind := 1 + idxI kindWs (wAt ws 2) })
 else .error 3
theorem parse_stepN (ws : List (List UInt8)) (b k : Nat) (hk : k < 7) : (numAt k = false ∧ (ptrsP b)[k]? = some (.pointer none) ∧ evP (evW ws) (k + 1) = evP (evW ws) k) ∨
  ∃ (f : Nat), numAt k = true ∧ (ptrsP b)[k]? = some (.pointer (some ⟨b, f, none⟩)) ∧ f < 7 ∧ (evP (evW ws) k).setIfInBounds f (.int .i64 (numP ws k)) = evP (evW ws) (k + 1) := by
 match k, hk with
 | 0, _ => exact .inr ⟨0, rfl, rfl, by omega, rfl⟩
 | 1, _ => exact .inl ⟨rfl, rfl, rfl⟩
 | 2, _ => exact .inl ⟨rfl, rfl, rfl⟩
 | 3, _ => exact .inr ⟨2, rfl, rfl, by omega, rfl⟩
 | 4, _ => exact .inr ⟨4, rfl, rfl, by omega, rfl⟩
 | 5, _ => exact .inr ⟨5, rfl, rfl, by omega, rfl⟩
 | 6, _ => exact .inr ⟨6, rfl, rfl, by omega, rfl⟩
def ParseQ (r : Except Int Ev) (w0 : World) (en : Ending) (w' : World) : Prop := Pure w0 w' ∧ match r with
 | .ok e => en = .returned (.tuple #[.agg (evL e).toArray, .nilIface])
 | .error z => ∃ e, en = .returned (.tuple #[.agg (evL e).toArray, .iface 49 (.int .i64 z)])
theorem ParseQ.no {r : Except Int Ev} {w0 w' : World} {z : Int} {e : Ev} (h : r = .error z) (hp : Pure w0 w') : ParseQ r w0 (.returned (.tuple #[.agg (evL e).toArray, .iface 49 (.int .i64 z)])) w' := by subst h; exact ⟨hp, e, rfl⟩
theorem ParseQ.yes {r : Except Int Ev} {w0 w' : World} {e : Ev} (h : r = .ok e) (hp : Pure w0 w') : ParseQ r w0 (.returned (.tuple #[.agg (evL e).toArray, .nilIface])) w' := by subst h; exact ⟨hp, rfl⟩
theorem parseN_any (ws : List (List UInt8)) (h7 : ws.length = 7) (hlen : ∀ x ∈ ws, x.length ≤ 100000) (A : Option Addr) (c : Nat) (D : Nat → Prop) (w0 : World) (h : Rd w0 D 1 (.slice A 7 c) 7 (ws.map strV)) (hG : TxG w0) :
  Cq 113 #[.slice A 7 c] w0 (ParseQ (parseE ws) w0) := by
 obtain ⟨bA, oA, rfl, hcw, hc7⟩ : ∃ bA oA, A = some ⟨bA, oA, none⟩ ∧ (∀ k, k < 7 → w0.cell? ⟨bA, oA + k, none⟩ = some (strV (wAt ws k))) ∧ 7 ≤ c ∧ c ≤ 9223372036854775807 := by
  obtain ⟨A', c', hv, h1, h2, h3, h4⟩ := h
  injection hv with ha _ hcc
  subst ha hcc
  obtain ⟨b, o, rfl, _, hc⟩ := h4 (by omega)
  refine ⟨b, o, Z, fun k hk => hc k _ ?_, h1, h2⟩
  rw [List.getElem?_map, gE_ (by omega)]
  show some (strV ws[k]) = some (strV (ws.getD k []))
  rw [List.getD_eq_getElem?_getD, gE_ (by omega)]
  rfl
 have hln : ∀ k, k < 7 → (wAt ws k).length ≤ 100000 := fun k hk => by
  have : wAt ws k = ws[k] := by show ws.getD k [] = _; rw [List.getD_eq_getElem?_getD, gE_ (by omega)]; rfl
  rw [this]
  exact hlen _ (List.getElem_mem _)
 clear h
 have hI := Inv.start (fun _ => False) w0
 refine Vm func113 Z (Wq (Vz (.agg zI7) (zI7) hI Z ?_))
 rintro b2 w - - hI
 refine Vw Z (Wn (Ws (Wq (Va Z (Vo Z yy42 Z (Ty Z (Yf Z (Wk (Wq (Vz (.agg zI7) (zI7) hI Z ?_))))))))))
 rintro b4 w - - hI
 refine Wn (Wx (fun ρ w => (∀ j, j < 7 → numAt j = true → (readN (wAt ws j)).isSome = true) ∧ Has ρ [(0, .slice (some ⟨bA, oA, none⟩) 7 c), (4, .pointer (some ⟨b4, 0, none⟩)), (2, .pointer (some ⟨b2, 0, none⟩))] ∧ Inv NF w0 w [B b4 167 (evP (evW ws) 7), B b2 167 zI7]) ?_ ?_)
 ·refine Wq (V8 0 Z (V8 2 Z (V8 4 Z (V8 5 Z (V8 6 Z (T3 [(0, .pointer _), (1, .pointer _), (2, .pointer _), (3, .pointer _), (4, .pointer _), (5, .pointer _), (6, .pointer _)] [_, _, _, _, _, _, _] [.pointer none, .pointer none, .pointer none, .pointer none, .pointer none, .pointer none, .pointer none] [0, 1, 2, 3, 4, 5, 6] hI Z underlying243 (fun _ => by kernel_rfl) ?_))))))
  rintro b21 w - - hI
  refine Vo Z underlying243 Z (V0 Z (Wn (Wb ?_)))
  refine Wl (fun mu ρ w => ∃ k : Nat, mu = 7 - k ∧ k ≤ 7 ∧ (∀ j, j < k → numAt j = true → (readN (wAt ws j)).isSome = true) ∧ Has ρ [(23, Y (k : Int)), (22, Y 7), (21, .slice (some ⟨b21, 0, none⟩) 7 7), (0, .slice (some ⟨bA, oA, none⟩) 7 c), (4, .pointer (some ⟨b4, 0, none⟩)), (2, .pointer (some ⟨b2, 0, none⟩))] ∧ Inv NF w0 w [B b21 242 (ptrsP b4), B b4 167 (evP (evW ws) k), B b2 167 zI7]) 7
   ⟨0, rfl, by omega, fun j hj => by omega, ⟨rfl, rfl, rfl, rfl, rfl, rfl, trivial⟩, hI⟩ ?_
  clear hI
  rintro mu ρ w ⟨k, rfl, hk, hgd, hH, hI⟩
  obtain ⟨σ, rfl⟩ := hH.open
  by_cases hk7 : k < 7
  rotate_left
  ·obtain rfl : k = 7 := by omega
   exact Wq (Vr Z (Yg Z (WE ⟨hgd, g3_, hI.d0⟩)))
  refine Wq (Vu Z (Yu Z (Wk (Ws (Wb ?_)))))
  rcases parse_stepN ws b4 k hk7 with ⟨hna, hpk, hnx⟩ | ⟨f, hna, hpk, hf, hnx⟩
  ·refine Wq (V0 Z (T6 Z underlying243 Z (V6 (.pointer _) Z (hI.c0 hpk) (Vb Z (Wv Z (by exact rAsgnP rfl rfl) (Wn (Ws (Wq (T1 Z (Wv Z (rPtrEqN Z underlying242 Z Z) (Yt Z (WE (Wr (Vl Z (V0 Z (Wn ⟨7 - (k + 1), by omega, k + 1, rfl, by omega, fun j hj hj2 => ?_, g6_, by rw [hnx]; exact hI⟩))))))))))))))))
   rcases Nat.lt_or_ge j k with h1 | h1
   ·exact hgd j h1 hj2
   obtain rfl : j = k := by omega
   rw [hna] at hj2; cases hj2
  have hck := hcw k hk7
  have hlk := hln k hk7
  have hbad : readN (wAt ws k) = none → parseE ws = .error 3 := fun hn => by
   unfold parseE
   refine if_neg fun hall => ?_
   rw [List.all_eq_true] at hall
   have := hall k (List.mem_range.2 hk7)
   rw [hna, hn] at this
   cases this
  have hsuc : ∀ z, readN (wAt ws k) = some z → numP ws k = z ∧ ∀ j, j < k + 1 → numAt j = true → (readN (wAt ws j)).isSome = true := fun z hz => ⟨by unfold numP; rw [hz]; rfl, fun j hj hj2 => by
   rcases Nat.lt_or_ge j k with h1 | h1
   ·exact hgd j h1 hj2
   obtain rfl : j = k := by omega
   rw [hz]; rfl⟩
  generalize hwk : wAt ws k = wk at hck hlk hbad hsuc
  refine Wq (V0 Z (T6 Z underlying243 Z (V6 (.pointer _) Z (hI.c0 hpk) (Vb Z (Wv Z (by exact rAsgnP rfl rfl) (Wn (Ws (Wq (T1 Z (Wv Z (rPtrEq Z underlying242 Z Z) (Yf Z (Wk ?_))))))))))))
  have hrd : readN wk = match Lib.atoiAll wk with
   | .ok n => if Lib.itoa n = wk then some n else none
   | _ => none := rfl
  refine Wx (fun ρ w => Has ρ [(23, Y (k : Int)), (22, Y 7), (21, .slice (some ⟨b21, 0, none⟩) 7 7), (0, .slice (some ⟨bA, oA, none⟩) 7 c), (4, .pointer (some ⟨b4, 0, none⟩)), (2, .pointer (some ⟨b2, 0, none⟩)), (5, Y (k : Int)), (6, .pointer (some ⟨b4, f, none⟩))] ∧ Inv NF w0 w [B b21 242 (ptrsP b4), B b4 167 (evP (evW ws) k), B b2 167 zI7] ∧ ((∃ n, Lib.atoiAll wk = .ok n ∧ -9223372036854775808 ≤ n ∧ n ≤ 9223372036854775807 ∧ ρ 7 = Y n ∧ ρ 8 = .nilIface) ∨ (readN wk = none ∧ ∃ n T u, ρ 7 = Y n ∧ ρ 8 = .iface T u))) ?_ ?_
  ·refine Wr (Va Z (V0 Z (Tz Z yy42 Z (V6 (.string _) Z (hI.oldp hck) (Vd [.string _] Z func153 Z ((atoi_any wk (by omega) _ (hG.pure hI.pu).num).mono ?_))))))
   unfold atoiPost
   rintro e w1 ⟨he, hp1⟩
   obtain ⟨n7, v8, rfl, hcase⟩ : ∃ n7 v8, e = .returned (.tuple #[.int .i64 n7, v8]) ∧ ((Lib.atoiAll wk = .ok n7 ∧ -9223372036854775808 ≤ n7 ∧ n7 ≤ 9223372036854775807 ∧ v8 = .nilIface) ∨ (readN wk = none ∧ ∃ T u, v8 = .iface T u)) := by
    revert he
    rw [hrd]
    cases hat : Lib.atoiAll wk with
    | ok n => rintro ⟨rfl, h1, h2⟩; exact ⟨_, _, rfl, .inl ⟨rfl, h1, h2, rfl⟩⟩
    | _ => rintro ⟨n, T, u, rfl⟩; exact ⟨_, _, rfl, .inr ⟨rfl, _, _, rfl⟩⟩
   refine rV ?_
   have hI := hI.pure hp1
   refine T4 Z (Vj Z (Vj Z (Vb Z (U7 Z (Wn ⟨g8_, hI, ?_⟩)))))
   rcases hcase with ⟨q1, q2, q3, rfl⟩ | ⟨q1, T, u, rfl⟩
   ·exact .inl ⟨n7, q1, q2, q3, Z, Z⟩
   exact .inr ⟨q1, n7, T, u, Z, Z⟩
  clear hI
  rintro ρ w ⟨hH, hI, hcase⟩
  have hH7 : ∃ n v, Has ρ [(23, .int .i64 (k : Int)), (22, .int .i64 7), (21, .slice (some ⟨b21, 0, none⟩) 7 7), (0, .slice (some ⟨bA, oA, none⟩) 7 c), (4, .pointer (some ⟨b4, 0, none⟩)), (2, .pointer (some ⟨b2, 0, none⟩)), (5, .int .i64 (k : Int)), (6, .pointer (some ⟨b4, f, none⟩)), (7, .int .i64 n), (8, v)] ∧ ((Lib.atoiAll wk = .ok n ∧ -9223372036854775808 ≤ n ∧ n ≤ 9223372036854775807 ∧ v = .nilIface) ∨ (readN wk = none ∧ ∃ T u, v = .iface T u)) := by
   obtain ⟨q1, q2, q3, q4, q5, q6, q7, q8, -⟩ := hH
   rcases hcase with ⟨n, r1, r2, r3, r4, r5⟩ | ⟨r1, n, T, u, r4, r5⟩
   ·exact ⟨n, _, ⟨q1, q2, q3, q4, q5, q6, q7, q8, r4, r5, trivial⟩, .inl ⟨r1, r2, r3, Z⟩⟩
   exact ⟨n, _, ⟨q1, q2, q3, q4, q5, q6, q7, q8, r4, r5, trivial⟩, .inr ⟨r1, T, u, Z⟩⟩
  clear hH hcase
  obtain ⟨n, v8, hH, hcase⟩ := hH7
  obtain ⟨σ, rfl⟩ := hH.open
  rcases hcase with ⟨hat, hn1, hn2, rfl⟩ | ⟨hrn, T, u, rfl⟩
  rotate_left
  ·refine Ws (Ws (Yi hI fun Sx hY hXS hI => Wt 0 Z (fun W hW => have hI := hY W hW; (by exact rMoveE rfl rfl)) (Wt 1 Z (fun W hW => have hI := hY W hW; (by exact rIfaceNe rfl yy37 rfl rfl)) (Ve 2 Z (V4 3 Z Z (V4 4 Z Z (V4 5 Z Z (V4 6 Z Z (V4 7 Z Z (V4 8 Z Z (V4 9 Z Z (Vv 10 Z (Yz (Wc true Z (Wq (Tc [] [_, _, _, _, _, _, _] Z [Y 0, Y 0, Y 0, Y 0, Y 0, Y 0, Y 0] [] Z (fun _ => by kernel_rfl) (T0 rfl yy49 rfl (WL_stw2 (u := .agg _) (vs := #[_, _, _, _, _, _, _]) (n := 7) hI rfl rfl rfl rfl rfl rfl (by kernel_rfl) rfl rfl rfl ?_))))))))))))))))))
   intro w hI
   exact Vt Z (Wn (WR (retC2 (n := 7) (t := 167) (.inr Z) Z Z (by kernel_rfl) (by kernel_rfl) Z hI.g2 (ParseQ.no (e := ⟨0, 0, 0, 0, 0, 0, 0⟩) (hbad hrn) hI.pu))))
  by_cases hit : Lib.itoa n = wk
  rotate_left
  ·have hrn : readN wk = none := by rw [hrd, hat]; exact if_neg hit
   refine Ws (Ws (Yi hI fun Sx hY hXS hI => Wt 0 Z (fun W hW => have hI := hY W hW; (by exact rMoveN rfl rfl)) (Wt 1 Z (fun W hW => have hI := hY W hW; (by exact rNilNe rfl yy37 rfl)) (Ve 2 Z (Vh 3 Z (Vp 5 Z (Vh 6 Z (Uo 7 Z yy42 Z (V9 8 (.string _) Z (Yo hY hck) (Vq 4 Z (Vd [Y _] Z func10 Z ((itoa_any n (by omega) (by omega) _ (hG.pure hI.pu).num).mono (okP hI fun w1 hp1 hI => Wn ⟨hXS _ hI, (Wt 9 Z (fun W hW => have hI := hY W hW; (by exact rStrNeT rfl rfl rfl (by assumption))) (Vn 10 Z (Yz (Wc true Z (Wq (Tc [] [_, _, _, _, _, _, _] Z [Y 0, Y 0, Y 0, Y 0, Y 0, Y 0, Y 0] [] Z (fun _ => by kernel_rfl) (T0 rfl yy49 rfl (WL_stw2 (u := .agg _) (vs := #[_, _, _, _, _, _, _]) (n := 7) hI rfl rfl rfl rfl rfl rfl (by kernel_rfl) rfl rfl rfl ?_))))))))⟩)))))))))))))
   intro w hI
   exact Vt Z (Wn (WR (retC2 (n := 7) (t := 167) (.inr Z) Z Z (by kernel_rfl) (by kernel_rfl) Z hI.g2 (ParseQ.no (e := ⟨0, 0, 0, 0, 0, 0, 0⟩) (hbad hrn) hI.pu))))
  have hrn : readN wk = some n := by rw [hrd, hat]; exact if_pos hit
  obtain ⟨hnp, hgd'⟩ := hsuc n hrn
  rw [hnp] at hnx
  subst hit
  refine Ws (Ws (Yi hI fun Sx hY hXS hI => Wt 0 Z (fun W hW => have hI := hY W hW; (by exact rMoveN rfl rfl)) (Wt 1 Z (fun W hW => have hI := hY W hW; (by exact rNilNe rfl yy37 rfl)) (Ve 2 Z (Vh 3 Z (Vp 5 Z (Vh 6 Z (Uo 7 Z yy42 Z (V9 8 (.string _) Z (Yo hY hck) (Vq 4 Z (Vd [Y _] Z func10 Z ((itoa_any n (by omega) (by omega) _ (hG.pure hI.pu).num).mono (okP hI fun w1 hp1 hI => Wn ⟨hXS _ hI, (Wt 9 Z (fun W hW => have hI := hY W hW; (rStrNeF Z Z Z Z)) (Vn 10 Z (Yz (Wc false Z (Wk (Wr (T1 Z (V0 Z (Tj Z (WL_st1 (u := Y n) hI Z Z Z Z Z Z (by kernel_rfl) Z (by show Nat.blt f 7 = true; rw [Nat.blt_eq]; exact hf) hnx ?_))))))))))⟩)))))))))))))
  rintro w hI
  exact Wn (Wr (Vl Z (V0 Z (Wn ⟨7 - (k + 1), by omega, k + 1, rfl, by omega, hgd', g6_, hI⟩))))
 clear hI
 rintro ρ w ⟨hgd, hH, hI⟩
 obtain ⟨σ, rfl⟩ := hH.open
 have hall : (List.range 7).all (fun k => !numAt k || (readN (wAt ws k)).isSome) = true := by
  rw [List.all_eq_true]
  intro k hk
  have hk7 := List.mem_range.1 hk
  cases hn : numAt k with
  | false => rfl
  | true => rw [hgd k hk7 hn]; rfl
 have hpe : parseE ws = _ := if_pos hall
 have hc1 := hcw 1 (by omega)
 have hc2 := hcw 2 (by omega)
 have ht := idxI_le typeWs (wAt ws 1)
 have hd := idxI_le kindWs (wAt ws 2)
 have htl : typeWs.length ≤ 1000 := by decide
 have hdl : kindWs.length ≤ 1000 := by decide
 obtain ⟨t, ht0⟩ : ∃ t, idxI typeWs (wAt ws 1) = t := ⟨_, rfl⟩
 obtain ⟨d, hd0⟩ : ∃ d, idxI kindWs (wAt ws 2) = d := ⟨_, rfl⟩
 have htl' : (typeWs.length : Int) ≤ 1000 := by decide
 have hdl' : (kindWs.length : Int) ≤ 1000 := by decide
 rw [ht0] at hpe ht
 rw [hd0] at hpe hd
 refine Ws (Yi hI fun Sx hY hXS hI => Vp 0 Z (Wt 1 Z (fun W hW => have hI := hY W hW; (by exact rIdx1 (i := 1) rfl yy42 (by kernel_rfl) rfl rfl (by omega))) (V9 2 (.string _) Z (Yo hY hc1) (Vp 4 Z (Wt 5 Z (fun W hW => have hI := hY W hW; (by exact rIdx1 (i := 2) rfl yy42 (by kernel_rfl) rfl rfl (by omega))) (V9 6 (.string _) Z (Yo hY hc2) (Vq 3 Z (Vd [.string _, .string _] Z func154 Z ((indexN_any typeS typeWs (wAt ws 1) fields_typeS (by decide) typeS_ascii (by decide) _ (hG.pure hI.pu)).mono ?_)))))))))
 rw [ht0]
 rintro e w1 ⟨rfl, hp1⟩
 refine rV ?_
 have hI := hI.pure hp1
 refine Wn ⟨hXS _ hI, (Vq 7 Z (Vd [.string _, .string _] Z func154 Z ((indexN_any kindS kindWs (wAt ws 2) fields_kindS (by decide) kindS_ascii (by decide) _ (hG.pure hI.pu)).mono ?_)))⟩
 rw [hd0]
 rintro e w1 ⟨rfl, hp1⟩
 refine rV ?_
 have hI := hI.pure hp1
 refine Wn ⟨hXS _ hI, (Tl 8 Z (Tl 9 Z (Yz ?_)))⟩
 by_cases ht1 : t < 0
 ·rw [if_pos (.inl ht1)] at hpe
  refine Ws (Wq (V0 Z (Vu Z (V7 Z (V5 Z (V5 Z (Vk Z (Yt Z (Wq (Tc [] [_, _, _, _, _, _, _] Z [Y 0, Y 0, Y 0, Y 0, Y 0, Y 0, Y 0] [] Z (fun _ => by kernel_rfl) (T0 rfl yy49 rfl (Ui 7 (#[_, _, _, _, _, _, _]) (.agg _) hI rfl ?_))))))))))))
  intro w hI
  exact Vt Z (Wn (WR (retC2 (n := 7) (t := 167) (.inr Z) Z Z (by kernel_rfl) (by kernel_rfl) Z hI.g1 (ParseQ.no (e := ⟨0, 0, 0, 0, 0, 0, 0⟩) hpe hI.pu))))
 by_cases hd1 : d < 0
 ·rw [if_pos (.inr hd1)] at hpe
  refine Ws (Wq (V0 Z (Vr Z (V7 Z (V0 Z (Vu Z (Vi Z (Yt Z (Wq (Tc [] [_, _, _, _, _, _, _] Z [Y 0, Y 0, Y 0, Y 0, Y 0, Y 0, Y 0] [] Z (fun _ => by kernel_rfl) (T0 rfl yy49 rfl (Ui 7 (#[_, _, _, _, _, _, _]) (.agg _) hI rfl ?_))))))))))))
  intro w hI
  exact Vt Z (Wn (WR (retC2 (n := 7) (t := 167) (.inr Z) Z Z (by kernel_rfl) (by kernel_rfl) Z hI.g1 (ParseQ.no (e := ⟨0, 0, 0, 0, 0, 0, 0⟩) hpe hI.pu))))
 rw [if_neg (fun h => h.elim ht1 hd1)] at hpe
 refine Ws (Wq (V0 Z (Vr Z (V7 Z (V0 Z (Vr Z (Vi Z (Yf Z (Wk ?_)))))))))
 obtain ⟨tn, rfl⟩ : ∃ tn : Nat, t = tn := ⟨t.toNat, by omega⟩
 obtain ⟨dn, rfl⟩ : ∃ dn : Nat, d = dn := ⟨d.toNat, by omega⟩
 replace hI : Inv NF w0 _ [B b4 167 #[.int .i64 (numP ws 0), .int .i64 0, .int .i64 (numP ws 3), .int .i64 0, .int .i64 (numP ws 4), .int .i64 (numP ws 5), .int .i64 (numP ws 6)], B b2 167 zI7] := hI
 have hev : ({ evW ws with ty := 1 + (tn : Int), kind := 1 + (dn : Int) } : Ev) = ⟨numP ws 0, 1 + (tn : Int), numP ws 3, 1 + (dn : Int), numP ws 4, numP ws 5, numP ws 6⟩ := rfl
 rw [hev] at hpe
 have htb : (tn : Int) ≤ 1000 := by omega
 have hdb : (dn : Int) ≤ 1000 := by omega
 generalize numP ws 0 = p at *
 generalize numP ws 3 = ky at *
 generalize numP ws 4 = ea at *
 generalize numP ws 5 = eb at *
 generalize numP ws 6 = r at *
 refine Wq (V0 Z (Wv Z (by exact rAdd rfl rfl rfl (by omega)) (V0 Z (Wv Z (by exact rAdd rfl rfl rfl (by omega)) (V8 1 Z (WL_st0 (u := Y _) hI Z Z Z Z Z Z (by kernel_rfl) Z Z Z ?_))))))
 intro w hI
 refine V8 3 Z (WL_st0 (u := Y _) hI Z Z Z Z Z Z (by kernel_rfl) Z Z Z ?_)
 intro w hI
 refine Wn ?_
 cases hok : evOkB ⟨p, 1 + (tn : Int), ky, 1 + (dn : Int), ea, eb, r⟩ with
 | true =>
  rw [if_pos hok] at hpe
  refine Ws (Wd (by kernel_rfl) (Wi (T := []) hI.d1.drew ?_))
  intro Sx hY hXS
  have hI := hI.drew
  refine Ul 0 7 Z (fun W hW => (hY W hW).g0) (Ul 1 7 Z (fun W hW => (hY W hW).g0) (Vq 2 Z (Vd [.agg _] Z func101 Z ((checkN_any ⟨p, 1 + (tn : Int), ky, 1 + (dn : Int), ea, eb, r⟩ _).mono ?_))))
  rintro e w1 ⟨hp1, ⟨_, rfl⟩ | ⟨hr, _⟩⟩
  rotate_left
  ·rw [hok] at hr; cases hr
  refine rV ?_
  have hI := hI.pure hp1
  refine Wn ⟨hXS _ hI.d1, (Vq 3 Z (Ui 7 (#[_, _, _, _, _, _, _]) (.agg _) hI Z ?_))⟩
  intro w hI
  exact Wn ⟨hXS _ hI.d1, (Wt 4 Z (fun W hW => have hI := hY W hW; (by exact rAsgnN rfl rfl)) (Yz (WR (retC2 (n := 7) (t := 167) (.inr Z) Z Z (by kernel_rfl) (by kernel_rfl) Z hI.g1 (ParseQ.yes hpe hI.pu)))))⟩
 | false =>
  rw [if_neg (by rw [hok]; decide)] at hpe
  refine Ws (Wd (by kernel_rfl) (Wi (T := []) hI.d1.drew ?_))
  intro Sx hY hXS
  have hI := hI.drew
  refine Ul 0 7 Z (fun W hW => (hY W hW).g0) (Ul 1 7 Z (fun W hW => (hY W hW).g0) (Vq 2 Z (Vd [.agg _] Z func101 Z ((checkN_any ⟨p, 1 + (tn : Int), ky, 1 + (dn : Int), ea, eb, r⟩ _).mono ?_))))
  rintro e w1 ⟨hp1, ⟨hr, _⟩ | ⟨_, rfl⟩⟩
  ·rw [hok] at hr; cases hr
  refine rV ?_
  have hI := hI.pure hp1
  refine Wn ⟨hXS _ hI.d1, (Vq 3 Z (Ui 7 (#[_, _, _, _, _, _, _]) (.agg _) hI Z ?_))⟩
  intro w hI
  exact Wn ⟨hXS _ hI.d1, (Wt 4 Z (fun W hW => have hI := hY W hW; (by exact rAsgnE rfl rfl)) (Yz (WR (retC2 (n := 7) (t := 167) (.inr Z) Z Z (by kernel_rfl) (by kernel_rfl) Z hI.g1 (ParseQ.no (e := ⟨p, 1 + (tn : Int), ky, 1 + (dn : Int), ea, eb, r⟩) hpe hI.pu)))))⟩
theorem spc_any (x : Nat) (w0 : World) : Cq 152 #[.int .i32 (x : Int)] w0 fun e w' => e = .returned (.bool (spP x)) ∧ w' = w0 := by
 have hI := Inv.start (fun _ => False) w0
 refine Vm func152 Z (Wq (Vc Z (Wn (Wq (V0 Z (Wv Z (rEql Z Z Z) (Vc Z (Wn (WR (r1_ 2 Z ⟨?_, Z⟩))))))))))
 show Ending.returned (.bool (decide ((x : Int) = 32))) = _
 unfold spP
 congr 2
 by_cases h : x = 32
 ·subst h; rfl
 rw [decide_eq_false (by omega), beq_eq_false_iff_ne.2 h]
theorem ffunc_any (s : List UInt8) (ws : List (List UInt8)) (hs : s.length ≤ 100000) (hf : Lib.goFieldsP spP ⟨s.toArray⟩ = ws.map fun (w : List UInt8) => (⟨w.toArray⟩ : ByteArray)) (w : World) :
  Cq 18 #[strV s, .func (.func 152) #[] #[]] w fun e w' => ∃ g, e = .returned (.slice (some ⟨g, 0, none⟩) ws.length ws.length) ∧ Inv NF w w' [Row w.heap.size 9 1 (some ⟨g, 0, none⟩) ws.length ws.length (ws.map strV)] := by
 have hz : (⟨s.toArray⟩ : ByteArray).size = s.length := str_size s
 refine (Any.strings_FieldsFunc_runes lays229 152 #[] (enters_of func152 Z Z) spP ⟨s.toArray⟩ w (by omega) (fun W x _ _ => (spc_any x W).mono (by rintro e w' ⟨rfl, rfl⟩; exact ⟨rfl, 0, rfl⟩)) (by kernel_rfl) (by kernel_rfl)).mono ?_
 rintro e w' ⟨A, rfl, hA, hR, hp⟩
 rw [hf, List.length_map, List.map_map] at hR
 rw [hf, List.length_map]
 exact ⟨A, Z, (Inv.start (fun _ => False) w).fresh hp (Row.ok hR) (fun k hk => by have hk : some A = some k := hk; injection hk with hk; omega)⟩
theorem lines_any (s : List UInt8) (w0 : World) : Cq 112 #[strV s] w0 fun e w' => ∃ g, e = .returned (.func (.func 151) #[] #[.pointer (some ⟨g, 0, none⟩)]) ∧ Inv NF w0 w' [B g 9 #[strV s]] := by
 have hI := Inv.start (fun _ => False) w0
 refine Vm func112 Z (Wq (Tq (.string _) #[_] hI Z ?_))
 rintro b1 w - - hI
 exact U7 Z (Wn (Wq (Tw [] [_] Z (Wv Z (by exact rAsgnF rfl rfl) (Wn (WR (r1_ 2 Z ⟨_, Z, hI⟩)))))))
theorem Rd.cells {w w' : World} {D : Nat → Prop} {size n : Nat} {v : Value} {xs : List Value} (h : Rd w D size v n xs) (hc : ∀ p u, w.cell? p = some u → w'.cell? p = some u) : Rd w' D size v n xs := by
 obtain ⟨A, c, h1, h2, h3, h4, h5⟩ := h
 refine ⟨A, c, h1, h2, h3, h4, fun hn => ?_⟩
 obtain ⟨b, o, q1, q2, q3⟩ := h5 hn
 exact ⟨b, o, q1, q2, fun j u hj => hc _ _ (q3 j u hj)⟩
namespace Rd
end Rd
theorem ret2P {P : Program} {ρ : Env} {w : World} {g g' t u : Nat} {v v' : Value} {fn : Func} {R : Ending → World → Prop} {e : Exit} {a s : Tmp} (he : e = .normal ∨ e = .ret) (hr : fn.results = #[.cell a t, .cell s u]) (ha : ρ a = .pointer (some ⟨g, 0, none⟩)) (hs : ρ s = .pointer (some ⟨g', 0, none⟩)) (ht : plainB P t = true) (hu : plainB P u = true)
  (h1 : w.cell? ⟨g, 0, none⟩ = some v) (h2 : w.cell? ⟨g', 0, none⟩ = some v') (h : R (.returned (.tuple #[v, v'])) w) : retQ P fn R e ρ w := by
 refine retQ_intro he fun b hb' => ⟨_, ?_, h⟩
 have h3 := hb'.get a
 have h4 := hb'.get s
 rw [ha] at h3
 rw [hs] at h4
 simp only [Array.getD_eq_getD_getElem?] at h3 h4
 simp [results, hr, h3, h4, asAddr, loadVar, run_isAgg_plain ht, run_isAgg_plain hu, h1, h2]
theorem Inv.notX {S : Nat → Prop} {w V V' : World} {H : List Ent} {n : Nat} {X : Nat → Prop} (h : Inv S w V H) (hc : Chg (notX n X) V V') (hn : w.heap.size ≤ n) (hD : ∀ e ∈ H, ∀ k, e.D k → k < n ∨ X k) : Inv S w V' H :=
 ⟨h.chg.trans' hc (fun k hk hx => by have := hx.1; omega), fun e he => (h.ok e he).chg hc (fun k hk hx => by
  rcases hD e he k hk with h1 | h1
  ·have := hx.1; omega
  exact hx.2 h1), h.own, h.apart⟩
theorem splitG_any (t : List UInt8) (ht : t.length ≤ 100000) (w : World) (hM : MaxOk w) :
  Cq 13 #[strV t, strV [10]] w fun e w' => ∃ g, e = .returned (.slice (some ⟨g, 0, none⟩) (splitL t).length (splitL t).length) ∧ Inv NF w w' [B g 9 ((splitL t).map strV).toArray] := by
 obtain ⟨m, hm⟩ := hM
 have hs : (⟨t.toArray⟩ : ByteArray).size = t.length := str_size _
 refine (Any.strings_Split { laysM146 with } laysM146.i9 ⟨t.toArray⟩ ⟨#[10]⟩ m w (by omega) hm (by decide)).mono ?_
 rintro e w' ⟨rfl, rfl⟩
 rw [splitL_split t, splitL_count t, List.map_map]
 exact ⟨_, Z, (Inv.start (fun _ => False) w).box _ _⟩
def parseW (ws : List (List UInt8)) : Except Int Ev := if ws.length = 7 then parseE ws else .error 3
theorem parseW_any (ws : List (List UInt8)) (hlen : ∀ x ∈ ws, x.length ≤ 100000) (n : Nat) (hn : n = ws.length) (A : Option Addr) (c : Nat) (D : Nat → Prop) (w0 : World) (h : Rd w0 D 1 (.slice A n c) n (ws.map strV)) (hG : TxG w0) :
  Cq 113 #[.slice A n c] w0 (ParseQ (parseW ws) w0) := by
 subst hn
 by_cases h7 : ws.length = 7
 ·have hp : parseW ws = parseE ws := if_pos h7
  rw [hp]
  rw [h7] at h ⊢
  exact parseN_any ws h7 hlen A c D w0 h hG
 have hp : parseW ws = .error 3 := if_neg h7
 have hI := Inv.start (fun _ => False) w0
 have hn63 : ws.length ≤ 9223372036854775807 := by
  obtain ⟨A', c', hv, h1, h2, h3, h4⟩ := h
  omega
 refine Vm func113 Z (Wq (Vz (.agg zI7) (zI7) hI Z ?_))
 rintro b2 w - - hI
 refine Vw Z (Wn (Ws (Wq (Va Z (Vo Z yy42 Z (Tn Z (Yt Z (Wq (Tc [] [_, _, _, _, _, _, _] Z [Y 0, Y 0, Y 0, Y 0, Y 0, Y 0, Y 0] [] Z (fun _ => by kernel_rfl) (T0 rfl yy49 rfl (T2 7 (#[_, _, _, _, _, _, _]) (.agg _) hI rfl ?_)))))))))))
 intro w hI
 exact Vt Z (Wn (WR (retC2 (n := 7) (t := 167) (.inr Z) Z Z (by kernel_rfl) (by kernel_rfl) Z hI.g0 (ParseQ.no (e := ⟨0, 0, 0, 0, 0, 0, 0⟩) hp hI.pu))))
def Lin1 (ws : List (List UInt8)) (k : Nat) (args : Array Value) (w : World) : Prop := ∃ (z : Int) (A : Option Addr) (c : Nat), args = #[.int .i64 z, .slice A ws.length c] ∧ Rd w (fun _ => True) 1 (.slice A ws.length c) ws.length (ws.map strV)
theorem Lin1.keep {ws : List (List UInt8)} : ∀ k args V V', Lin1 ws k args V → (∀ p v, V.cell? p = some v → V'.cell? p = some v) → Lin1 ws k args V' := by
 rintro k args V V' ⟨z, A, c, h1, h2⟩ h
 exact ⟨z, A, c, h1, h2.cells h⟩
def oneIf (ws : List (List UInt8)) : Nat := if ws = [] then 0 else 1
namespace Rd
theorem lines1_seq (t : List UInt8) (hnl : 10 ∉ t) (ht : t.length ≤ 20000) (ws : List (List UInt8)) (hws : wordsF t = ws) (g : Nat) (w : World) (hg : w.cell? ⟨g, 0, none⟩ = some (strV t)) (hM : MaxOk w) :
  SeqRelX prog 151 #[.pointer (some ⟨g, 0, none⟩)] (oneIf ws) (Lin1 ws) w (fun k => k = g) := by
 intro y X0 J Jx W hp hX0 hJ hJx hy h0
 replace hg := ((Inv.start (fun _ => False) w).pure hp).oldp hg
 replace hM := hM.pure hp
 have hgl : g < W.heap.size := World.block_lt_of_cell? W _ hg
 have hI := Inv.start (fun _ => False) W
 have hsp : splitL t = [t] := splitL_no t hnl
 have hwf := wordsF_eq t
 rw [hws] at hwf
 have hwn : ws.length ≤ t.length + 1 := by rw [← hws]; exact words_len t
 refine calls_of_W (N := Tryz.f151.ntmps) func151 Z Z Z ?_
 refine Ws (Wr (Vb Z (Wn (Ws (Wr (V6 (.string _) Z (hI.oldp hg) (Vd [.string _, .string _] Z func13 Z ?_)))))))
 refine (splitG_any t (by omega) _ (hM.pure hI.pu)).mono ?_
 rw [hsp]
 rintro e w1 ⟨g1, rfl, hT⟩
 refine rV ?_
 have hI := hI.app1 hT
 refine Vo Z underlying42 Z (V0 Z (Wn ?_))
 have hg1 : W.heap.size ≤ g1 := (hI.own _ (List.mem_cons_self ..) g1 rfl).resolve_left id
 have hB : Blk w1 g1 9 #[strV t] := hI.g0
 have hJ1 := hJ _ _ _ _ h0 (hI.pu.chg (notX W.heap.size X0))
 have hsz := hI.pu.size
 have hX0' : ∀ b, X0 b → b ≠ g ∧ b ≠ g1 := fun b hb => ⟨(hX0 b hb).1, by have := (hX0 b hb).2; omega⟩
 refine Wb ?_
 refine Wl (fun mu ρ V => ∃ (k : Nat) (z : Int) (X : Nat → Prop), mu = 1 - k ∧ k ≤ 1 ∧ 0 ≤ z ∧ z ≤ 30000 * k ∧ Has ρ [(10, Y (k : Int)), (9, Y ((1 : Nat) : Int)), (8, .slice (some ⟨g1, 0, none⟩) 1 1), (3, Y z), (0, .func (.yield y) #[] #[]), (1, .pointer (some ⟨g, 0, none⟩))] ∧ J (min k (oneIf ws)) X V ∧ (∀ b, X b → b ≠ g ∧ b ≠ g1) ∧ Blk V g1 9 #[strV t] ∧ W.heap.size ≤ V.heap.size) 1
  ⟨0, 0, X0, rfl, by omega, by omega, by omega, ⟨rfl, rfl, rfl, rfl, rfl, rfl, trivial⟩, by rw [Nat.zero_min]; exact hJ1, hX0', hB, hsz⟩ ?_
 clear hI
 rintro mu ρ V ⟨k, z, X, rfl, hk, hz0, hz1, hH, hJk, hX, hBV, hsV⟩
 obtain ⟨σ, rfl⟩ := hH.open
 have hI := Inv.start (fun _ => False) V
 by_cases hkn : k < 1
 rotate_left
 ·obtain rfl : k = 1 := by omega
  rw [Nat.min_eq_right (by unfold oneIf; split <;> omega)] at hJk
  refine Ws (Wr (Vr Z (Wn (Ws (Wc false Z ?_)))))
  refine WE ?_
  exact ret0 (.inl Z) Z ⟨⟨_, Z⟩, .inl ⟨X, hJk⟩⟩
 obtain rfl : k = 0 := by omega
 obtain rfl : z = 0 := by omega
 have hcs : V.cell? ⟨g1, 0, none⟩ = some (strV t) := by rw [hBV.cell]; rfl
 have hlt1 := hBV.lt
 refine Ws (Wr (Vu Z (Wn (Ws (Wc true Z (Wk (Ws (Wb (Ws (Wr (T6 Z underlying42 Z (V6 (.string _) Z (hI.oldp hcs) (T5 Z ?_)))))))))))))
 refine Wn (Ws (Wr (Ta Z (Vd [.string _, .func _ _ _] Z func18 Z ?_))))
 refine (ffunc_any t ws (by omega) hwf _).mono ?_
 rintro e w1 ⟨g2, rfl, hT⟩
 refine rV ?_
 have hI := hI.app1 hT
 refine Vg Z (Wn ?_)
 have hJ2 := hJ _ _ _ _ hJk (hI.pu.chg (notX W.heap.size X))
 rw [Nat.zero_min] at hJ2
 have hs1 := hI.pu.size
 have hB1 := Blk.chg hBV (hI.pu.chg (fun _ => False)) id
 have hw1 : IntKind.i64.wrap ((t.length : Int) + 1) = (t.length : Int) + 1 := wrap64_in (by omega) (by omega)
 have hw2 : IntKind.i64.wrap (0 + ((t.length : Int) + 1)) = (t.length : Int) + 1 := by rw [wrap64_in (by omega) (by omega)]; omega
 by_cases hwe : ws = []
 ·have hn0 : oneIf ws = 0 := if_pos hwe
  have hl0 : ws.length = 0 := by rw [hwe]; rfl
  refine Ws (Ws (Wr (Va Z (Vo Z underlying42 Z (U3 Z (V7 Z (V5 Z (V5 Z (V5 Z (V5 Z (V5 Z (Vi Z (Wn ?_)))))))))))))
  refine Wc false Z (Wk (Wr (V0 Z (Ta Z ?_))))
  refine WL_val Z Z Z (rStrLen Z underlying9 Z) ?_
  refine Vl Z ?_
  refine WL_val Z Z Z (by exact rAdd rfl rfl rfl (by omega)) ?_
  refine Vb Z (Wn (Wr (Vl Z (V0 Z (Wn ?_)))))
  refine ⟨1 - 1, by omega, 1, (t.length : Int) + 1, X, rfl, by omega, by omega, by omega, ⟨rfl, rfl, rfl, ?_, rfl, rfl, trivial⟩, by rw [hn0]; exact hJ2, hX, hB1, by omega⟩
  show Value.int .i64 (0 + ((t.length + 1 : Nat) : Int)) = Value.int .i64 ((t.length : Int) + 1)
  congr 1; omega
 have hn1 : oneIf ws = 1 := if_neg hwe
 have hl1 : 0 < ws.length := List.length_pos_iff.2 hwe
 have hA : Lin1 ws 0 #[.int .i64 0, .slice (some ⟨g2, 0, none⟩) ws.length ws.length] w1 := ⟨0, _, _, rfl, Rd.of_own hI.g0 (fun _ _ _ => trivial)⟩
 refine Ws (Ws ?_)
 refine W_regionI 7 ?_
 refine Va Z (Vo Z underlying42 Z (U6 Z (V7 Z (Ua Z (V0 Z (Va Z (Wn ?_)))))))
 refine WI_yield Z Z Z Z (rYield Z Z Z) ?_
 refine (hy 0 X _ _ (by omega) hA hJ2 (by omega)).mono ?_
 clear hI
 rintro e w2 ⟨⟨rfl, hJ3⟩ | ⟨rfl, hJ3⟩, hc3⟩
 ·have hI := Inv.start (fun _ => False) w2
  have hs2 := hc3.size
  refine ⟨_, Z, WI_of ?_⟩
  refine Tf Z (Vk Z (Wn (Wc false Z (Wk (Wr (V0 Z (Ta Z ?_)))))))
  refine WL_val Z Z Z (rStrLen Z underlying9 Z) ?_
  refine Vl Z ?_
  refine WL_val Z Z Z (by exact rAdd rfl rfl rfl (by omega)) ?_
  refine Vb Z (Wn (Wr (Vl Z (V0 Z (Wn ?_)))))
  refine ⟨1 - 1, by omega, 1, (t.length : Int) + 1, ownX X w1 w2, rfl, by omega, by omega, by omega, ⟨rfl, rfl, rfl, ?_, rfl, rfl, trivial⟩, ?_, fun b hb => ?_, Blk.chg hB1 hc3 (fun hx => (hX _ hx).2 rfl), by omega⟩
  ·show Value.int .i64 (0 + ((t.length + 1 : Nat) : Int)) = Value.int .i64 ((t.length : Int) + 1)
   congr 1; omega
  ·rw [hn1]; exact hJ3
  rcases hb with hb | hb
  ·exact hX b hb
  omega
 have hI := Inv.start (fun _ => False) w2
 refine ⟨_, Z, WI_of ?_⟩
 refine To Z (Vk Z (Wn (Wc true Z ?_)))
 refine WR ?_
 exact ret0 (.inr Z) Z ⟨⟨_, Z⟩, .inr ⟨_, hJ3⟩⟩
end Rd
theorem ErrE.cells {w : World} {x : Value} {z : Int} (h : (ErrE x z).ok w) : cellsE w (ErrE x z) := fun k hk => by
 have h1 : IsE w x z := h.1
 obtain ⟨o, rfl⟩ := hk
 rcases h1 with h1 | ⟨b, o', h1, hc⟩
 ·injection h1 with h1; exact absurd h1 (by decide)
 injection h1 with _ h1
 injection h1 with h1
 injection h1 with h1
 injection h1 with h1 _
 subst h1
 have hc : w.cell? ⟨k, o', none⟩ = some (.int .i64 z) := hc
 unfold World.cell? at hc
 cases hb : w.heap[k]? with
 | none => simp [hb] at hc
 | some ob =>
  refine ⟨ob, Z, ?_⟩
  cases ob <;> first | rfl | (simp [hb] at hc)
theorem Inv.monoS {S S' : Nat → Prop} {w0 w : World} {H : List Ent} (h : Inv S w0 w H) (hS : ∀ k, S k → S' k) : Inv S' w0 w H := ⟨h.chg.mono (fun k _ hk => hS k hk), h.ok, fun e he k hk => (h.own e he k hk).imp (hS k) id, h.apart⟩
def parse1 (t : List UInt8) : Except Int (List Ev) := if wordsF t = [] then .ok [] else match parseW (wordsF t) with
 | .ok e => .ok [e]
 | .error z => .error z
def Parse1Q (r : Except Int (List Ev)) (w0 : World) (en : Ending) (w' : World) : Prop := match r with
 | .ok l => ∃ A' c', en = .returned (.tuple #[.slice A' l.length c', .nilIface]) ∧ Inv NF w0 w' [Row 0 167 7 A' l.length c' (l.flatMap evL)]
 | .error z => ∃ x, en = .returned (.tuple #[.slice none 0 0, x]) ∧ Inv NF w0 w' [ErrE x z]
def P1I (e : Ev) (b2 b3 b4 : Nat) (w1 : World) (k : Nat) (X : Nat → Prop) (V : World) : Prop :=
 (X b2 ∧ X b3 ∧ X b4) ∧ (b2 < w1.heap.size ∧ b3 < w1.heap.size ∧ b4 < w1.heap.size) ∧ ∃ (A' : Option Addr) (c' : Nat), (∀ p, A' = some p → X p.block) ∧ Inv (fun x => x = b2 ∨ x = b3 ∨ x = b4) w1 V [Row 0 167 7 A' k c' (([e].take k).flatMap evL), B b4 26 #[.slice A' k c'], B b3 37 #[.nilIface], B b2 26 #[.slice none 0 0]]
def P1X (z : Int) (b2 b3 b4 : Nat) (w1 : World) (X : Nat → Prop) (V : World) : Prop :=
 (X b2 ∧ X b3 ∧ X b4) ∧ (b2 < w1.heap.size ∧ b3 < w1.heap.size ∧ b4 < w1.heap.size) ∧ ∃ x : Value, (∀ k, (ErrE x z).D k → X k) ∧ Inv (fun x => x = b2 ∨ x = b3 ∨ x = b4) w1 V [ErrE x z, B b3 37 #[x], B b2 26 #[.slice none 0 0]]
theorem P1I.keep {e : Ev} {b2 b3 b4 : Nat} {w1 : World} : ∀ k X V V', P1I e b2 b3 b4 w1 k X V → Chg (notX w1.heap.size X) V V' → P1I e b2 b3 b4 w1 k X V' := by
 rintro k X V V' ⟨h1, h2, A', c', h3, h4⟩ hc
 refine ⟨h1, h2, A', c', h3, h4.notX hc (Nat.le_refl _) fun e he k hk => ?_⟩
 simp only [List.mem_cons, List.not_mem_nil, or_false] at he
 rcases he with rfl | rfl | rfl | rfl
 ·have hk : A'.map (·.block) = some k := hk
  cases A' with
  | none => cases hk
  | some p => injection hk with hk; subst hk; exact .inr (h3 p rfl)
 ·have hk : k = b4 := hk
  exact .inl (by omega)
 ·have hk : k = b3 := hk
  exact .inl (by omega)
 have hk : k = b2 := hk
 exact .inl (by omega)
theorem P1X.keep {z : Int} {b2 b3 b4 : Nat} {w1 : World} : ∀ X V V', P1X z b2 b3 b4 w1 X V → Chg (notX w1.heap.size X) V V' → P1X z b2 b3 b4 w1 X V' := by
 rintro X V V' ⟨h1, h2, x, h3, h4⟩ hc
 refine ⟨h1, h2, x, h3, h4.notX hc (Nat.le_refl _) fun e he k hk => ?_⟩
 simp only [List.mem_cons, List.not_mem_nil, or_false] at he
 rcases he with rfl | rfl | rfl
 ·exact .inr (h3 k hk)
 ·have hk : k = b3 := hk
  exact .inl (by omega)
 have hk : k = b2 := hk
 exact .inl (by omega)
theorem parse1_any (t : List UInt8) (hnl : 10 ∉ t) (ht : t.length ≤ 20000) (w0 : World) (hG : TxG w0) (hM : MaxOk w0) :
  Cq 66 #[strV t] w0 (Parse1Q (parse1 t) w0) := by
 have hI := Inv.start (fun _ => False) w0
 obtain ⟨ws, hws⟩ : ∃ ws, wordsF t = ws := ⟨_, rfl⟩
 have hwl : ∀ x ∈ ws, x.length ≤ 100000 := fun x hx => by
  rw [← hws] at hx
  have := word_len hx
  omega
 refine calls_of_WX (N := Tryz.f66.ntmps) func66 Z Z Z (WX_seqW (Wr (Vz (.slice none 0 0) (#[.slice none 0 0]) hI Z ?_)))
 rintro b2 w - - hI
 refine Vz .nilIface #[.nilIface] hI Z ?_
 rintro b3 w - - hI
 refine Wn (WX_seqW (Wq (Ta Z (Wv Z (rStrLen Z yy9 Z) (U3 Z (Yf Z (Wk (WX_seqW (Wr (Vz (.slice none 0 0) (#[.slice none 0 0]) hI Z ?_))))))))))
 rintro b4 w - - hI
 refine Wn (WX_seq (WX_seqW (Wr (Ta Z (Vd [.string _] Z func112 Z ((lines_any t _).mono ?_))))))
 rintro e w1 ⟨g1, rfl, hT⟩
 refine rV ?_
 have hI := hI.app1 hT
 refine Wn ?_
 have hpu := hI.pu
 have hM1 := hM.pure hpu
 have hg1lt : g1 < w1.heap.size := hI.lt
 have kg : w1.cell? ⟨g1, 0, none⟩ = some (strV t) := hI.c0 rfl
 have n41 : ¬ b4 = g1 := hI.disj (i := 1) (j := 0) rfl rfl (by decide) b4 rfl
 have n31 : ¬ b3 = g1 := hI.disj (i := 2) (j := 0) rfl rfl (by decide) b3 rfl
 have n21 : ¬ b2 = g1 := hI.disj (i := 3) (j := 0) rfl rfl (by decide) b2 rfl
 have lt4 : b4 < w1.heap.size := (show Blk w1 b4 26 #[.slice none 0 0] from hI.g1).lt
 have lt3 : b3 < w1.heap.size := (show Blk w1 b3 37 #[.nilIface] from hI.g2).lt
 have lt2 : b2 < w1.heap.size := (show Blk w1 b2 26 #[.slice none 0 0] from hI.g3).lt
 have o2 : w0.heap.size ≤ b2 := (hI.own _ (gM_ (i := 3) rfl) b2 rfl).resolve_left id
 have o3 : w0.heap.size ≤ b3 := (hI.own _ (gM_ (i := 2) rfl) b3 rfl).resolve_left id
 have o4 : w0.heap.size ≤ b4 := (hI.own _ (gM_ (i := 1) rfl) b4 rfl).resolve_left id
 have hI0 : Inv (fun x => x = b2 ∨ x = b3 ∨ x = b4) w1 w1 [Row 0 167 7 none 0 0 [], B b4 26 #[.slice none 0 0], B b3 37 #[.nilIface], B b2 26 #[.slice none 0 0]] := by
  have h1 : Inv (DL [B b4 26 #[.slice none 0 0], B b3 37 #[.nilIface], B b2 26 #[.slice none 0 0]]) w1 w1 [B b4 26 #[.slice none 0 0], B b3 37 #[.nilIface], B b2 26 #[.slice none 0 0]] := Inv.from (H := []) hI.d0
  have h2 : Inv (fun x => x = b2 ∨ x = b3 ∨ x = b4) w1 w1 [B b4 26 #[.slice none 0 0], B b3 37 #[.nilIface], B b2 26 #[.slice none 0 0]] := h1.monoS fun k hk => by
   obtain ⟨e, he, hk⟩ := hk
   simp only [List.mem_cons, List.not_mem_nil, or_false] at he
   rcases he with rfl | rfl | rfl
   ·exact .inr (.inr hk)
   ·exact .inr (.inl hk)
   exact .inl hk
  exact h2.fresh (Pure.refl _) (Row.nil _ 0 167 7) (fun k hk => by simp [Row] at hk)
 clear hI
 obtain ⟨e, z, hez⟩ : ∃ (e : Ev) (z : Int), parseW ws = .ok e ∨ parseW ws = .error z := by
  cases h : parseW ws with
  | ok e => exact ⟨e, 0, .inl rfl⟩
  | error z => exact ⟨⟨0, 0, 0, 0, 0, 0, 0⟩, z, .inr rfl⟩
 have hp1 : parse1 t = if ws = [] then .ok [] else match parseW ws with
  | .ok e => .ok [e]
  | .error z => .error z := by unfold parse1; rw [hws]
 refine WX_block ?_
 refine WX_rangeRelX (A := Lin1 ws) (n := oneIf ws) (M := fun k => k = g1) (w0 := w1) Z (enters_of func151 Z Z)
  (Rd.lines1_seq t hnl ht ws hws g1 w1 kg hM1) (Pure.refl _) (fun x => x = b2 ∨ x = b3 ∨ x = b4)
  (fun x hx => by rcases hx with rfl | rfl | rfl; exact ⟨n21, lt2⟩; exact ⟨n31, lt3⟩; exact ⟨n41, lt4⟩)
  (fun x hx => by subst hx; exact hg1lt)
  Lin1.keep (fun k X V => P1I e b2 b3 b4 w1 k X V ∧ (k = 0 ∨ parseW ws = .ok e)) (fun X V => P1X z b2 b3 b4 w1 X V ∧ ws ≠ [] ∧ parseW ws = .error z) (fun k X V V' h hc => ⟨P1I.keep k X V V' h.1 hc, h.2⟩) (fun X V V' h hc => ⟨P1X.keep X V V' h.1 hc, h.2⟩)
  ⟨⟨⟨.inl rfl, .inr (.inl rfl), .inr (.inr rfl)⟩, ⟨lt2, lt3, lt4⟩, none, 0, (fun p hp => by cases hp), hI0⟩, .inl rfl⟩
  (fun k args V ⟨z, A, c, h1, _⟩ => by subst h1; rfl) (by decide) ?_ ?_ ?_
 ·rintro k X args V hkl hA - hsV
  obtain rfl : k = 0 := by unfold oneIf at hkl; split at hkl <;> omega
  have hwne : ws ≠ [] := by unfold oneIf at hkl; split at hkl; omega; assumption
  obtain ⟨zp, Aw, cw, rfl, -⟩ := hA
  refine Rd.Ws (Rd.Wr (Vb Z (Wn (Rd.Wr (Vg Z (Wn ⟨Z, Z, fun V2 hA2 hI2 hs2 => ?_⟩))))))
  obtain ⟨z2, Aw2, cw2, he2, hR⟩ := hA2
  obtain ⟨rfl, rfl, rfl⟩ : zp = z2 ∧ Aw = Aw2 ∧ cw = cw2 := by simpa using he2
  obtain ⟨⟨⟨hX2, hX3, hX4⟩, -, A', c', hXA, hIV⟩, -⟩ := hI2
  have hI : Inv (DL [Row 0 167 7 A' 0 c' [], B b4 26 #[.slice A' 0 c'], B b3 37 #[.nilIface], B b2 26 #[.slice none 0 0]]) V2 V2 [Row 0 167 7 A' 0 c' [], B b4 26 #[.slice A' 0 c'], B b3 37 #[.nilIface], B b2 26 #[.slice none 0 0]] := Inv.from (H := []) hIV
  have hpV : Pure w0 V2 := (Chg.trans' (hpu.chg NF) hIV.chg (fun i hi h => by have h : i = b2 ∨ i = b3 ∨ i = b4 := h; omega)).toPure
  have hGV := hG.pure hpV
  have hpar := parseW_any ws hwl ws.length rfl Aw cw _ V2 hR hGV
  have hDX : ∀ kk, DL [Row 0 167 7 A' 0 c' [], B b4 26 #[.slice A' 0 c'], B b3 37 #[.nilIface], B b2 26 #[.slice none 0 0]] kk → X kk := by
   rintro kk ⟨e, he, hk⟩
   simp only [List.mem_cons, List.not_mem_nil, or_false] at he
   rcases he with rfl | rfl | rfl | rfl
   ·have hk : A'.map (·.block) = some kk := hk
    cases A' with
    | none => cases hk
    | some p => injection hk with hk; subst hk; exact hXA p rfl
   ·have hk : kk = b4 := hk
    subst hk; exact hX4
   ·have hk : kk = b3 := hk
    subst hk; exact hX3
   have hk : kk = b2 := hk
   subst hk; exact hX2
  rcases hez with hok | hbad
  ·rw [hok] at hpar
   obtain ⟨e0, e1, e2, e3, e4, e5, e6⟩ := e
   refine Rd.Wb (Rd.Ws (Rd.Wr (Va Z (Vd [.slice _ _ _] Z func113 Z (hpar.mono ?_)))))
   rintro e w2 ⟨hp2, rfl⟩
   refine rV ?_
   have hI := hI.pure hp2
   refine T4 Z (Vj Z (Vj Z (Vz (.agg zI7) (zI7) hI Z ?_)))
   rintro b7 w - - hI
   refine T2 7 (#[_, _, _, _, _, _, _]) (.agg _) hI Z ?_
   intro w hI
   refine Vw Z (Wn ?_)
   replace hI : Inv _ V2 _ [B b7 167 #[.int .i64 e0, .int .i64 e1, .int .i64 e2, .int .i64 e3, .int .i64 e4, .int .i64 e5, .int .i64 e6], Row 0 167 7 A' 0 c' [], B b4 26 #[.slice A' 0 c'], B b3 37 #[.nilIface], B b2 26 #[.slice none 0 0]] := hI
   refine Rd.Ws (Rd.Ws (Rd.Wr (Td Z (Wv Z (by exact rNilEq rfl yy37 rfl) (V7 Z (V6 (.slice _ _ _) Z (hI.c2 Z) (Vo Z yy26 Z (Vs Z (Vk Z (Wn (Rd.Wc false Z (Rd.Wk (Rd.Ws (Rd.Ws (Rd.Wr (Td Z (Tv Z yy37 Z (Wn (Rd.Wc false Z (Rd.Wk (Rd.Wr (V6 (.slice _ _ _) Z (hI.c2 Z) (Tt 7 Z hI.g0 (T3 [(0, .agg #[_, _, _, _, _, _, _])] [_, _, _, _, _, _, _] [Y 0, Y 0, Y 0, Y 0, Y 0, Y 0, Y 0] [0] hI Z yy26 (fun _ => by kernel_rfl) ?_))))))))))))))))))))))))
   rintro b37 w - - hI
   refine WL_app2 (z := .agg zI7) (by_ := 56) hI Z Z Z Z Z Z yy26 (by kernel_rfl) Z (by omega) (by rfl) hI.lit0 (by rfl) (by omega) (by omega) (by exact Nat.zero_le _) ?_
   rintro A38 c38 w hA38 hc38 hI
   have hI := hI.d0
   refine WL_stw2 (u := .slice _ _ _) (vs := #[_]) (n := 1) hI Z Z Z Z Z Z (by kernel_rfl) Z Z Z ?_
   intro w hI
   refine Wn ?_
   have hI := hI.d0
   refine ⟨hI.chg.mono fun kk _ hk => hDX kk hk, ⟨⟨.inl hX2, .inl hX3, .inl hX4⟩, ⟨lt2, lt3, lt4⟩, A38, c38, fun p hp => ?_, ?_⟩, .inr hok⟩
   ·rcases hI.own _ (List.mem_cons_self ..) p.block (by rw [hp]; rfl) with hk | hk
    ·exact .inl (hDX _ hk)
    exact .inr ⟨hk, (hI.ok _ (List.mem_cons_self ..)).2.1 p.block (by rw [hp]; rfl)⟩
   exact Inv.turnL (H := []) hIV hI
  ·rw [hbad] at hpar
   refine Rd.Wb (Rd.Ws (Rd.Wr (Va Z (Vd [.slice _ _ _] Z func113 Z (hpar.mono ?_)))))
   rintro e w2 ⟨hp2, ⟨e0, e1, e2, e3, e4, e5, e6⟩, rfl⟩
   refine rV ?_
   have hI := hI.pure hp2
   refine T4 Z (Vj Z (Vj Z (Vz (.agg zI7) (zI7) hI Z ?_)))
   rintro b7 w - - hI
   refine T2 7 (#[_, _, _, _, _, _, _]) (.agg _) hI Z ?_
   intro w hI
   refine Vt Z (Wn ?_)
   replace hI : Inv _ V2 _ [B b7 167 #[.int .i64 e0, .int .i64 e1, .int .i64 e2, .int .i64 e3, .int .i64 e4, .int .i64 e5, .int .i64 e6], Row 0 167 7 A' 0 c' [], B b4 26 #[.slice A' 0 c'], B b3 37 #[.nilIface], B b2 26 #[.slice none 0 0]] := hI
   refine Rd.Ws (Rd.Ws (Rd.Wr (Vy Z (Wv Z (by exact rIfaceEq rfl yy37 rfl rfl) (V7 Z (V5 Z (V5 Z (V5 Z (Vi Z (Wn (Rd.Wc false Z (Rd.Wk (Rd.Ws (Rd.Ws (Rd.Wr (Vy Z (U0 Z yy37 Z (Wn (Rd.Wc true Z ?_)))))))))))))))))))
   have hpw := Inv.turnL (H := []) hIV hI
   have hpW : Pure w0 w := (Chg.trans' (hpu.chg NF) hpw.chg (fun i hi h => by have h : i = b2 ∨ i = b3 ∨ i = b4 := h; omega)).toPure
   refine Rd.Ws (Rd.Wr (Vy Z (V0 Z (Vd [_, Y _] Z func102 Z ((atN_any z zp _ (hG.pure hpW).err).mono ?_)))))
   rintro e w2 ⟨x, rfl, hT⟩
   obtain ⟨tx, vx, rfl⟩ := IsE.iface (hT.ok _ (List.mem_cons_self ..)).1
   refine rV ?_
   have hI := hI.app1 hT
   refine WL_stw5 (u := .slice _ _ _) (vs := #[_]) (n := 1) hI Z Z Z Z Z Z (by kernel_rfl) Z Z Z ?_
   intro w hI
   refine WL_stw4 (u := _) (vs := #[_]) (n := 1) hI Z Z Z Z Z Z (by kernel_rfl) Z Z Z ?_
   intro w hI
   refine Wn (Rd.WR ?_)
   have hI := hI.d1.d1.d1
   refine ⟨hI.chg.mono fun kk _ hk => hDX kk hk, ⟨⟨.inl hX2, .inl hX3, .inl hX4⟩, ⟨lt2, lt3, lt4⟩, .iface tx vx, fun k hk => ?_, Inv.turnL (H := []) hIV hI⟩, hwne, hbad⟩
   rcases hI.own _ (List.mem_cons_self ..) k hk with h1 | h1
   ·exact .inl (hDX _ h1)
   exact .inr ⟨h1, (hI.ok _ (List.mem_cons_self ..)).2.1 k hk⟩
 ·rintro X V ⟨⟨-, -, A', c', hXA, hIV⟩, hkok⟩ hD9 a ha
  obtain ⟨n1, hn1⟩ : ∃ n1, oneIf ws = n1 := ⟨_, rfl⟩
  have hres : parse1 t = .ok ([e].take n1) ∧ ([e].take n1).length = n1 := by
   rw [hp1, ← hn1]
   unfold oneIf
   by_cases hw : ws = []
   ·rw [if_pos hw, if_pos hw]; exact ⟨rfl, rfl⟩
   rw [if_neg hw, if_neg hw]
   rcases hkok with h | h
   ·unfold oneIf at h; rw [if_neg hw] at h; cases h
   rw [h]; exact ⟨rfl, rfl⟩
  rw [hn1] at hIV
  clear hn1 hkok
  refine (WX_R (?_ : Rd.W none _ _ _ _ (exitQ Tryz.f66.ntmps fun e a w => bodyPostM Fence.wide 0 prog Tryz.f66 _ e (wd (markD w1.heap.size) a) w) _ _) (fun e ρ' a w' ha q => q.get ha)) a ha
  obtain ⟨ls, hls⟩ : ∃ ls, [e].take n1 = ls := ⟨_, rfl⟩
  rw [hls] at hIV hres
  obtain ⟨hr1, hr2⟩ := hres
  subst hr2
  have hfin : Inv NF w0 V [B b3 37 #[.nilIface], B b2 26 #[.slice none 0 0], Row 0 167 7 A' ls.length c' (ls.flatMap evL), B b4 26 #[.slice A' ls.length c']] := by
   have h0 : Inv NF w0 V [Row 0 167 7 A' ls.length c' (ls.flatMap evL), B b4 26 #[.slice A' ls.length c'], B b3 37 #[.nilIface], B b2 26 #[.slice none 0 0]] :=
    ⟨Chg.trans' (hpu.chg NF) hIV.chg (fun i hi h => by have h : i = b2 ∨ i = b3 ∨ i = b4 := h; omega), hIV.ok, fun e he k hk => by
     rcases hIV.own e he k hk with h | h
     ·have h : k = b2 ∨ k = b3 ∨ k = b4 := h
      exact .inr (by omega)
     exact .inr (by have := hpu.size; omega), hIV.apart⟩
   exact h0.perm (List.perm_append_comm (l₁ := [_, _]))
  have hI : Inv (DL [B b3 37 #[.nilIface], B b2 26 #[.slice none 0 0], Row 0 167 7 A' ls.length c' (ls.flatMap evL), B b4 26 #[.slice A' ls.length c']]) V V [B b3 37 #[.nilIface], B b2 26 #[.slice none 0 0], Row 0 167 7 A' ls.length c' (ls.flatMap evL), B b4 26 #[.slice A' ls.length c']] := Inv.from (H := []) hfin
  have hcl : ∀ e ∈ [B b3 37 #[.nilIface], B b2 26 #[.slice none 0 0], Row 0 167 7 A' ls.length c' (ls.flatMap evL), B b4 26 #[.slice A' ls.length c']], cellsE V e := fun e he => by
   simp only [List.mem_cons, List.not_mem_nil, or_false] at he
   rcases he with rfl | rfl | rfl | rfl
   ·exact B.cells (hfin.ok _ (by simp))
   ·exact B.cells (hfin.ok _ (by simp))
   ·exact Row.cells (hfin.ok _ (by simp))
   exact B.cells (hfin.ok _ (by simp))
  have hDd : ¬ DL [B b3 37 #[.nilIface], B b2 26 #[.slice none 0 0], Row 0 167 7 A' ls.length c' (ls.flatMap evL), B b4 26 #[.slice A' ls.length c']] w1.heap.size := by
   rintro ⟨e, he, hk⟩
   obtain ⟨o, h1, h2⟩ := hcl e he _ hk
   rw [hD9] at h1
   injection h1 with h1
   subst h1
   cases h2
  have hll : ls.length ≤ 1 := by rw [← hls]; simp; omega
  refine Rd.Ws (Rd.Wr (V6 (.slice _ _ _) Z (hI.c3 Z) (Ui 1 #[_] (.slice _ _ _) hI Z ?_)))
  intro w hI
  refine T2 1 #[_] _ hI Z ?_
  intro w hI
  refine Wn (Rd.WR ?_)
  intro a ha
  replace hI : Inv (DL [B b3 37 #[.nilIface], B b2 26 #[.slice none 0 0], Row 0 167 7 A' ls.length c' (ls.flatMap evL), B b4 26 #[.slice A' ls.length c']]) V _ [B b3 37 #[.nilIface], B b2 26 #[.slice A' ls.length c'], Row 0 167 7 A' ls.length c' (ls.flatMap evL), B b4 26 #[.slice A' ls.length c']] := hI
  have hend := Inv.turnL (H := []) hfin hI
  have hD8 := (hI.chg.block _ (Array.getElem?_eq_some_iff.1 hD9).1 hDd).trans hD9
  have has := Aside.put (n := w1.heap.size) (.deferred none) (Nat.le_refl _) hD8 rfl
  have hce : ∀ e ∈ [B b3 37 #[.nilIface], B b2 26 #[.slice A' ls.length c'], Row 0 167 7 A' ls.length c' (ls.flatMap evL), B b4 26 #[.slice A' ls.length c']], cellsE _ e := fun e he => by
   simp only [List.mem_cons, List.not_mem_nil, or_false] at he
   rcases he with rfl | rfl | rfl | rfl
   ·exact B.cells (hend.ok _ (by simp))
   ·exact B.cells (hend.ok _ (by simp))
   ·exact Row.cells (hend.ok _ (by simp))
   exact B.cells (hend.ok _ (by simp))
  refine leaves_retQ ha hD8 (ret2P (.inr Z) Z Z Z (by kernel_rfl) (by kernel_rfl) (has.cell (hI.c1 Z)) (has.cell (hI.c0 Z)) ?_)
  rw [hr1]
  exact ⟨A', c', Z, (hend.aside has (by have := hpu.size; omega) hce).d0.d0.d1⟩
 rintro X V ⟨⟨-, -, x, hxX, hIV⟩, hwne, hbad⟩ hD9
 have hr1 : parse1 t = .error z := by rw [hp1, if_neg hwne, hbad]
 have hend : Inv NF w0 V [ErrE x z, B b3 37 #[x], B b2 26 #[.slice none 0 0]] :=
  ⟨Chg.trans' (hpu.chg NF) hIV.chg (fun i hi h => by have h : i = b2 ∨ i = b3 ∨ i = b4 := h; omega), hIV.ok, fun e he k hk => by
   rcases hIV.own e he k hk with h | h
   ·have h : k = b2 ∨ k = b3 ∨ k = b4 := h
    exact .inr (by omega)
   exact .inr (by have := hpu.size; omega), hIV.apart⟩
 have has := Aside.put (n := w1.heap.size) (.deferred none) (Nat.le_refl _) hD9 rfl
 have hce : ∀ e ∈ [ErrE x z, B b3 37 #[x], B b2 26 #[.slice none 0 0]], cellsE V e := fun e he => by
  simp only [List.mem_cons, List.not_mem_nil, or_false] at he
  rcases he with rfl | rfl | rfl
  ·exact ErrE.cells (hend.ok _ (by simp))
  ·exact B.cells (hend.ok _ (by simp))
  exact B.cells (hend.ok _ (by simp))
 intro a ha
 refine wpIn_ret ?_
 show bodyPostM Fence.wide 0 prog Tryz.f66 _ .ret (wd (markD w1.heap.size) a) V
 refine leaves_retQ ha hD9 (ret2P (.inr Z) Z Z Z (by kernel_rfl) (by kernel_rfl) (has.cell (hend.c2 Z)) (has.cell (hend.c1 Z)) ?_)
 rw [hr1]
 exact ⟨x, Z, (hend.aside has (by have := hpu.size; omega) hce).d1.d1⟩
theorem sidx_any (g c : Nat) (ws : List (List UInt8)) (wd : List UInt8) (hws : ws.length ≤ 1000) (w0 : World) (hB : Blk w0 g 9 (ws.map strV).toArray) :
  Cq 41 #[.slice (some ⟨g, 0, none⟩) ws.length c, strV wd] w0 fun e w' => e = .returned (.int .i64 (idxI ws wd)) ∧ Pure w0 w' := by
 have hI := Inv.start (fun _ => False) w0
 refine Vm func41 Z (Wq (Vb Z (Wn (Wx (fun ρ w => idxI ws wd = -1 ∧ Inv NF w0 w []) ?_ ?_))))
 ·refine Wq (Va Z (Vo Z yy42 Z (V0 Z (Wn (Wb ?_)))))
  refine Wl (fun mu ρ w => ∃ k : Nat, mu = ws.length - k ∧ k ≤ ws.length ∧ (∀ j, j < k → ws[j]? ≠ some wd) ∧ Has ρ [(8, Y (k : Int)), (7, Y (ws.length : Int)), (0, .slice (some ⟨g, 0, none⟩) ws.length c), (1, strV wd)] ∧ Inv NF w0 w []) ws.length
   ⟨0, rfl, by omega, fun j hj => by omega, ⟨rfl, rfl, rfl, rfl, trivial⟩, hI⟩ ?_
  clear hI
  rintro mu ρ w ⟨k, rfl, hk, hno, hH, hI⟩
  obtain ⟨σ, rfl⟩ := hH.open
  by_cases hkl : k < ws.length
  rotate_left
  ·obtain rfl : k = ws.length := by omega
   exact Wq (Vr Z (Yg Z (WE ⟨idxI_none hno, hI⟩)))
  have hks : (ws.map strV).toArray[k]? = some (strV ws[k]) := by
   rw [List.getElem?_toArray, List.getElem?_map, gE_ hkl]; rfl
  have hkg : ws[k]? = some ws[k] := gE_ hkl
  generalize ws[k] = wk at hks hkg
  have hcell : w0.cell? ⟨g, k, none⟩ = some (strV wk) := by rw [hB.cell]; exact hks
  refine Wq (Vu Z (Yu Z (Wk (Ws (Wb (Wq (V0 Z (Vb Z (Wn ?_)))))))))
  by_cases hwe : wd = wk
  ·have hidx := idxI_some (hwe.symm ▸ hkg) hno
   exact Wq (Ta Z (Va Z (V0 Z (T6 Z yy42 Z (V6 (.string _) Z (hI.oldp hcell) (Wv Z (by exact rStrEqT rfl rfl rfl (by assumption)) (Yt Z (Wq (V0 Z (Vb Z (Wn (WR (r1_ 4 Z ⟨by rw [hidx]; rfl, hI.pu⟩)))))))))))))
  refine Wq (Ta Z (Va Z (V0 Z (T6 Z yy42 Z (V6 (.string _) Z (hI.oldp hcell) (Wv Z (by exact rStrEqF rfl rfl rfl (by assumption)) (Yf Z (Wk (Wr (Vl Z (V0 Z (Wn ⟨ws.length - (k + 1), by omega, k + 1, rfl, by omega, fun j hj => ?_, g4_, hI⟩))))))))))))
  rcases Nat.lt_or_ge j k with h1 | h1
  ·exact hno j h1
  obtain rfl : j = k := by omega
  rw [hkg]
  exact fun h => hwe (Option.some.inj h).symm
 clear hI
 rintro ρ w ⟨hn, hI⟩
 exact Wq (Vb Z (Wn (WR (r1_ 4 Z ⟨by rw [hn]; rfl, hI.pu⟩))))
end Go.Proofs.YtnckdmogdehnoaaGreatDoor
