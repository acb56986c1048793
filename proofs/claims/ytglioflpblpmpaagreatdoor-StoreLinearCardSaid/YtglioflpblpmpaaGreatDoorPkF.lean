/- PkF: Evo1, Evo2, Tella, Tell, Evo3, merged. -/
import Derived.Test.YtglioflpblpmpaaGreatDoorPkC
import Derived.Test.YtglioflpblpmpaaGreatDoorPkD
import Derived.Test.YtglioflpblpmpaaGreatDoorSxA
import Derived.Test.YtglioflpblpmpaaGreatDoorProg
import Derived.Laws.Externs
import Derived.Stop.Asserts
namespace Go.Proofs.YtglioflpblpmpaaGreatDoor
open Go.RowKit
set_option linter.unusedVariables false
set_option linter.unusedSimpArgs false
section
variable {P : Program} {ρ : Env} {o : Oper} {w : World} {x y : Operand} {t kt et b : Nat} {q : IntKind} {zv v : Value} {a : Int} {g : Int → Option Value}
theorem rLookY (h : g a = some v) (ho : o.op = .lookup t x y true) (ht : P.underlying t = some (.map kt et)) (hk : P.underlying kt = some (.int q)) (hz : (P.info? et).bind (·.zero) = some zv) (hx : ev ρ x = .map (some b)) (hy : ev ρ y = .int .i64 a) (hM : MapIs w b g) : Runs P ρ o w (.tuple #[v, .bool true]) := by
  have := rLook (P := P) ho ht hk hz hx hy hM
  rwa [h] at this
theorem rLookN (h : g a = none) (ho : o.op = .lookup t x y true) (ht : P.underlying t = some (.map kt et)) (hk : P.underlying kt = some (.int q)) (hz : (P.info? et).bind (·.zero) = some zv) (hx : ev ρ x = .map (some b)) (hy : ev ρ y = .int .i64 a) (hM : MapIs w b g) : Runs P ρ o w (.tuple #[zv, .bool false]) := by
  have := rLook (P := P) ho ht hk hz hx hy hM
  rwa [h] at this
end
abbrev OpsE (A : Option Addr) (c : Nat) (ops : List Op8) : Ent := Row 0 62 8 A ops.length c (ops.flatMap opV)
abbrev BoolE (A : Option Addr) (c : Nat) (l : List Bool) : Ent := Row 0 4 1 A l.length c (l.map Value.bool)
def mapV (g : Int → Option Nat) : Int → Option Value := fun k => (g k).map fun n => .int .i64 (n : Int)
theorem mapV_upd (g : Int → Option Nat) (k : Int) (n : Nat) : (fun j => if j = k then some (Value.int .i64 (n : Int)) else mapV g j) = mapV (updI g k (some n)) := by
  funext j
  unfold mapV updI
  by_cases h : j = k
  · rw [if_pos h, if_pos h]; rfl
  · rw [if_neg h, if_neg h]
theorem mapV_del (g : Int → Option Nat) (k : Int) : (fun j => if j = k then none else mapV g j) = mapV (updI g k none) := by
  funext j
  unfold mapV updI
  by_cases h : j = k
  · rw [if_pos h, if_pos h]; rfl
  · rw [if_neg h, if_neg h]
def seeC (Ao : Option Addr) (no co b1 b2 : Nat) (Ag : Option Addr) (ng cg : Nat) : Array Value := #[.slice Ao no co, .map (some b1), .map (some b2), .slice Ag ng cg]
/-- The parts of a seer. -/
def prtS (sb : Nat) (Ao : Option Addr) (co b1 b2 : Nat) (Ag : Option Addr) (cg : Nat) (s : SeeS) : List Ent :=
  [B sb 57 (seeC Ao s.ops.length co b1 b2 Ag s.gone.length cg), OpsE Ao co s.ops, BoolE Ag cg s.gone, MapE b1 (mapV s.busy), MapE b2 (mapV s.lost)]
def SeerPost (r : Option SeeS) (sb b1 b2 : Nat) (S : Nat → Prop) (w0 : World) (en : Ending) (w' : World) : Prop := match r with
  | none => Inv S w0 w' [] ∧ ∃ z : Int, en = .returned (.iface 49 (.int .i64 z))
  | some s' => en = .returned .nilIface ∧ ∃ Ao' co' Ag' cg', Inv S w0 w' (prtS sb Ao' co' b1 b2 Ag' cg' s')
theorem Inv.none {S : Nat → Prop} {w0 w : World} {H : List Ent} (h : Inv S w0 w H) : Inv S w0 w [] := ⟨h.chg, by simp, by simp, .nil⟩
theorem SeerPost.none {r : Option SeeS} {sb b1 b2 : Nat} {S : Nat → Prop} {w0 w' : World} {H : List Ent} {z : Int} (h : r = Option.none) (hI : Inv S w0 w' H) : SeerPost r sb b1 b2 S w0 (.returned (.iface 49 (.int .i64 z))) w' := by subst h; exact ⟨hI.none, z, rfl⟩
theorem SeerPost.some {r : Option SeeS} {s' : SeeS} {sb b1 b2 : Nat} {S : Nat → Prop} {w0 w' : World} {Ao' Ag' : Option Addr} {co' cg' : Nat} (h : r = Option.some s') (hI : Inv S w0 w' (prtS sb Ao' co' b1 b2 Ag' cg' s')) : SeerPost r sb b1 b2 S w0 (.returned .nilIface) w' := by subst h; exact ⟨rfl, Ao', co', Ag', cg', hI⟩
set_option maxHeartbeats 8000000 in
theorem begin_one (e0 e1 e2 e3 e4 e5 e6 : Int) (i : Nat) (sb b1 b2 : Nat) (Ao : Option Addr) (co : Nat) (Ag : Option Addr) (cg : Nat) (s : SeeS) (w0 : World) (hlen : s.ops.length ≤ 100000) (hgl : s.gone.length = s.ops.length)
    (hI : Inv (DL (prtS sb Ao co b1 b2 Ag cg s)) w0 w0 (prtS sb Ao co b1 b2 Ag cg s)) :
    Calls Tryz.prog 16 #[.pointer (some ⟨sb, 0, none⟩), .agg #[.int .i64 e0, .int .i64 e1, .int .i64 e2, .int .i64 e3, .int .i64 e4, .int .i64 e5, .int .i64 e6], .int .i64 (i : Int)] w0 (SeerPost (beginF ⟨e0, e1, e2, e3, e4, e5, e6⟩ i s) sb b1 b2 (DL (prtS sb Ao co b1 b2 Ag cg s)) w0) := by
  generalize hl0 : DL (prtS sb Ao co b1 b2 Ag cg s) = S at hI ⊢
  replace hI : Inv S w0 w0 [B sb 57 (seeC Ao s.ops.length co b1 b2 Ag s.gone.length cg), OpsE Ao co s.ops, BoolE Ag cg s.gone, MapE b1 (mapV s.busy), MapE b2 (mapV s.lost)] := hI
  refine calls_of_W (N := Tryz.f16.ntmps) Tryz.func16 rfl rfl rfl ?_
  refine W_seq ?_
  refine W_region ?_
  refine WL_box (u := .agg _) (vs := #[_, _, _, _, _, _, _]) hI rfl rfl rfl rfl rfl rfl ?_
  clear hI; rintro b4 w - - hI
  refine WL_val rfl rfl rfl (by exact rAsgnN rfl rfl) ?_
  refine WL_nil ?_
  cases hb : s.busy e0 with
  | some nb =>
    have hbv : mapV s.busy e0 = some (.int .i64 (nb : Int)) := by unfold mapV; rw [hb]; rfl
    refine W_seq ?_
    refine W_draw (by kernel_rfl) ?_
    refine WA_inv (T := []) hI.drew ?_
    intro Sx hSx hXS
    replace hI := hI.drew
    refine WT_take 0 rfl rfl (by kernel_rfl) (hXS _ hI) rfl (fun W hW => have hI := hSx W hW; (by exact rMoveP rfl rfl)) ?_
    refine WT_take 1 rfl rfl (by kernel_rfl) (hXS _ hI) rfl (fun W hW => have hI := hSx W hW; (rNilChk rfl rfl)) ?_
    refine WT_take 2 rfl rfl (by kernel_rfl) (hXS _ hI) rfl (fun W hW => have hI := hSx W hW; (by exact rFldN (off := 1) rfl (by kernel_rfl) rfl)) ?_
    refine WT_take 3 rfl rfl (by kernel_rfl) (hXS _ hI) rfl (fun W hW => have hI := hSx W hW; (by exact rLd (v := .map _) rfl (by kernel_rfl) rfl (by exact hI.c1 rfl))) ?_
    refine WT_take 4 rfl rfl (by kernel_rfl) (hXS _ hI) rfl (fun W hW => have hI := hSx W hW; (by exact rFldN (off := 0) rfl (by kernel_rfl) rfl)) ?_
    refine WT_take 5 rfl rfl (by kernel_rfl) (hXS _ hI) rfl (fun W hW => have hI := hSx W hW; (by exact rLd (v := .int .i64 _) rfl (by kernel_rfl) rfl (by exact hI.c0 rfl))) ?_
    refine WT_take 6 rfl rfl (by kernel_rfl) (hXS _ hI) rfl (fun W hW => have hI := hSx W hW; (rLookY hbv (zv := .int .i64 0) rfl Tryz.underlying54 Tryz.underlying3 (by kernel_rfl) rfl rfl hI.g4)) ?_
    refine WT_take 7 rfl rfl (by kernel_rfl) (hXS _ hI) rfl (fun W hW => have hI := hSx W hW; (by exact rMoveT rfl rfl)) ?_
    refine WT_take 8 rfl rfl (by kernel_rfl) (hXS _ hI) rfl (fun W hW => have hI := hSx W hW; (rExtr rfl rfl rfl)) ?_
    refine WT_take 9 rfl rfl (by kernel_rfl) (hXS _ hI) rfl (fun W hW => have hI := hSx W hW; (rExtr rfl rfl rfl)) ?_
    refine WT_take 10 rfl rfl (by kernel_rfl) (hXS _ hI) rfl (fun W hW => have hI := hSx W hW; (by exact rAsgnI rfl rfl)) ?_
    refine WT_take 11 rfl rfl (by kernel_rfl) (hXS _ hI) rfl (fun W hW => have hI := hSx W hW; (by exact rAsgnB rfl rfl)) ?_
    refine WT_end (by kernel_rfl) ?_
    refine W_seq ?_
    refine W_seq ?_
    refine W_draw (by kernel_rfl) ?_
    refine WA_inv (T := []) hI.drew ?_
    intro Sx hSx hXS
    replace hI := hI.drew
    refine WT_take 0 rfl rfl (by kernel_rfl) (hXS _ hI) rfl (fun W hW => have hI := hSx W hW; (by exact rMoveP rfl rfl)) ?_
    refine WT_take 1 rfl rfl (by kernel_rfl) (hXS _ hI) rfl (fun W hW => have hI := hSx W hW; (rNilChk rfl rfl)) ?_
    refine WT_take 2 rfl rfl (by kernel_rfl) (hXS _ hI) rfl (fun W hW => have hI := hSx W hW; (by exact rFldN (off := 2) rfl (by kernel_rfl) rfl)) ?_
    refine WT_take 3 rfl rfl (by kernel_rfl) (hXS _ hI) rfl (fun W hW => have hI := hSx W hW; (by exact rLd (v := .map _) rfl (by kernel_rfl) rfl (by exact hI.c1 rfl))) ?_
    refine WT_take 4 rfl rfl (by kernel_rfl) (hXS _ hI) rfl (fun W hW => have hI := hSx W hW; (by exact rFldN (off := 0) rfl (by kernel_rfl) rfl)) ?_
    refine WT_take 5 rfl rfl (by kernel_rfl) (hXS _ hI) rfl (fun W hW => have hI := hSx W hW; (by exact rLd (v := .int .i64 _) rfl (by kernel_rfl) rfl (by exact hI.c0 rfl))) ?_
    refine WT_take 6 rfl rfl (by kernel_rfl) (hXS _ hI) rfl (fun W hW => have hI := hSx W hW; (rLook (zv := .int .i64 0) rfl Tryz.underlying54 Tryz.underlying3 (by kernel_rfl) rfl rfl hI.g5)) ?_
    refine WT_take 7 rfl rfl (by kernel_rfl) (hXS _ hI) rfl (fun W hW => have hI := hSx W hW; (by exact rMoveT rfl rfl)) ?_
    refine WT_take 8 rfl rfl (by kernel_rfl) (hXS _ hI) rfl (fun W hW => have hI := hSx W hW; (rExtr rfl rfl rfl)) ?_
    refine WT_take 9 rfl rfl (by kernel_rfl) (hXS _ hI) rfl (fun W hW => have hI := hSx W hW; (rExtr rfl rfl rfl)) ?_
    refine WT_take 10 rfl rfl (by kernel_rfl) (hXS _ hI) rfl (fun W hW => have hI := hSx W hW; (by exact rAsgn rfl)) ?_
    refine WT_take 11 rfl rfl (by kernel_rfl) (hXS _ hI) rfl (fun W hW => have hI := hSx W hW; (by exact rAsgnB rfl rfl)) ?_
    refine WT_end (by kernel_rfl) ?_
    refine W_seq ?_
    refine W_region ?_
    refine WL_val rfl rfl rfl (by exact rMoveB rfl rfl) ?_
    refine WL_val rfl rfl rfl (by exact rMoveB rfl rfl) ?_
    refine WL_skip rfl rfl rfl ?_
    refine WL_val rfl rfl rfl (by exact rPickTB rfl rfl rfl) ?_
    refine WL_nil ?_
    refine W_cond true rfl ?_
    refine W_seq ?_
    refine W_region ?_
    refine WL_val rfl rfl rfl (rIface rfl Tryz.underlying49 rfl rfl) ?_
    refine WL_val rfl rfl rfl (by exact rAsgnE rfl rfl) ?_
    refine WL_nil ?_
    refine W_ret ?_
    exact ret1 6 (.inr rfl) rfl (SeerPost.none (by unfold beginF; exact if_pos (.inl (by show s.busy e0 ≠ none; rw [hb]; simp))) hI)
  | none =>
  have hbv : mapV s.busy e0 = none := by unfold mapV; rw [hb]; rfl
  refine W_seq ?_
  refine W_draw (by kernel_rfl) ?_
  refine WA_inv (T := []) hI.drew ?_
  intro Sx hSx hXS
  replace hI := hI.drew
  refine WT_take 0 rfl rfl (by kernel_rfl) (hXS _ hI) rfl (fun W hW => have hI := hSx W hW; (by exact rMoveP rfl rfl)) ?_
  refine WT_take 1 rfl rfl (by kernel_rfl) (hXS _ hI) rfl (fun W hW => have hI := hSx W hW; (rNilChk rfl rfl)) ?_
  refine WT_take 2 rfl rfl (by kernel_rfl) (hXS _ hI) rfl (fun W hW => have hI := hSx W hW; (by exact rFldN (off := 1) rfl (by kernel_rfl) rfl)) ?_
  refine WT_take 3 rfl rfl (by kernel_rfl) (hXS _ hI) rfl (fun W hW => have hI := hSx W hW; (by exact rLd (v := .map _) rfl (by kernel_rfl) rfl (by exact hI.c1 rfl))) ?_
  refine WT_take 4 rfl rfl (by kernel_rfl) (hXS _ hI) rfl (fun W hW => have hI := hSx W hW; (by exact rFldN (off := 0) rfl (by kernel_rfl) rfl)) ?_
  refine WT_take 5 rfl rfl (by kernel_rfl) (hXS _ hI) rfl (fun W hW => have hI := hSx W hW; (by exact rLd (v := .int .i64 _) rfl (by kernel_rfl) rfl (by exact hI.c0 rfl))) ?_
  refine WT_take 6 rfl rfl (by kernel_rfl) (hXS _ hI) rfl (fun W hW => have hI := hSx W hW; (rLookN hbv (zv := .int .i64 0) rfl Tryz.underlying54 Tryz.underlying3 (by kernel_rfl) rfl rfl hI.g4)) ?_
  refine WT_take 7 rfl rfl (by kernel_rfl) (hXS _ hI) rfl (fun W hW => have hI := hSx W hW; (by exact rMoveT rfl rfl)) ?_
  refine WT_take 8 rfl rfl (by kernel_rfl) (hXS _ hI) rfl (fun W hW => have hI := hSx W hW; (rExtr rfl rfl rfl)) ?_
  refine WT_take 9 rfl rfl (by kernel_rfl) (hXS _ hI) rfl (fun W hW => have hI := hSx W hW; (rExtr rfl rfl rfl)) ?_
  refine WT_take 10 rfl rfl (by kernel_rfl) (hXS _ hI) rfl (fun W hW => have hI := hSx W hW; (by exact rAsgnI rfl rfl)) ?_
  refine WT_take 11 rfl rfl (by kernel_rfl) (hXS _ hI) rfl (fun W hW => have hI := hSx W hW; (by exact rAsgnB rfl rfl)) ?_
  refine WT_end (by kernel_rfl) ?_
  cases hl : s.lost e0 with
  | some nl =>
    have hlv : mapV s.lost e0 = some (.int .i64 (nl : Int)) := by unfold mapV; rw [hl]; rfl
    refine W_seq ?_
    refine W_seq ?_
    refine W_draw (by kernel_rfl) ?_
    refine WA_inv (T := []) hI.drew ?_
    intro Sx hSx hXS
    replace hI := hI.drew
    refine WT_take 0 rfl rfl (by kernel_rfl) (hXS _ hI) rfl (fun W hW => have hI := hSx W hW; (by exact rMoveP rfl rfl)) ?_
    refine WT_take 1 rfl rfl (by kernel_rfl) (hXS _ hI) rfl (fun W hW => have hI := hSx W hW; (rNilChk rfl rfl)) ?_
    refine WT_take 2 rfl rfl (by kernel_rfl) (hXS _ hI) rfl (fun W hW => have hI := hSx W hW; (by exact rFldN (off := 2) rfl (by kernel_rfl) rfl)) ?_
    refine WT_take 3 rfl rfl (by kernel_rfl) (hXS _ hI) rfl (fun W hW => have hI := hSx W hW; (by exact rLd (v := .map _) rfl (by kernel_rfl) rfl (by exact hI.c1 rfl))) ?_
    refine WT_take 4 rfl rfl (by kernel_rfl) (hXS _ hI) rfl (fun W hW => have hI := hSx W hW; (by exact rFldN (off := 0) rfl (by kernel_rfl) rfl)) ?_
    refine WT_take 5 rfl rfl (by kernel_rfl) (hXS _ hI) rfl (fun W hW => have hI := hSx W hW; (by exact rLd (v := .int .i64 _) rfl (by kernel_rfl) rfl (by exact hI.c0 rfl))) ?_
    refine WT_take 6 rfl rfl (by kernel_rfl) (hXS _ hI) rfl (fun W hW => have hI := hSx W hW; (rLookY hlv (zv := .int .i64 0) rfl Tryz.underlying54 Tryz.underlying3 (by kernel_rfl) rfl rfl hI.g5)) ?_
    refine WT_take 7 rfl rfl (by kernel_rfl) (hXS _ hI) rfl (fun W hW => have hI := hSx W hW; (by exact rMoveT rfl rfl)) ?_
    refine WT_take 8 rfl rfl (by kernel_rfl) (hXS _ hI) rfl (fun W hW => have hI := hSx W hW; (rExtr rfl rfl rfl)) ?_
    refine WT_take 9 rfl rfl (by kernel_rfl) (hXS _ hI) rfl (fun W hW => have hI := hSx W hW; (rExtr rfl rfl rfl)) ?_
    refine WT_take 10 rfl rfl (by kernel_rfl) (hXS _ hI) rfl (fun W hW => have hI := hSx W hW; (by exact rAsgnI rfl rfl)) ?_
    refine WT_take 11 rfl rfl (by kernel_rfl) (hXS _ hI) rfl (fun W hW => have hI := hSx W hW; (by exact rAsgnB rfl rfl)) ?_
    refine WT_end (by kernel_rfl) ?_
    refine W_seq ?_
    refine W_region ?_
    refine WL_val rfl rfl rfl (by exact rMoveB rfl rfl) ?_
    refine WL_val rfl rfl rfl (by exact rMoveB rfl rfl) ?_
    refine WL_val rfl rfl rfl (by exact rMoveB rfl rfl) ?_
    refine WL_val rfl rfl rfl (by exact rPickFB rfl rfl rfl) ?_
    refine WL_nil ?_
    refine W_cond true rfl ?_
    refine W_seq ?_
    refine W_region ?_
    refine WL_val rfl rfl rfl (rIface rfl Tryz.underlying49 rfl rfl) ?_
    refine WL_val rfl rfl rfl (by exact rAsgnE rfl rfl) ?_
    refine WL_nil ?_
    refine W_ret ?_
    exact ret1 6 (.inr rfl) rfl (SeerPost.none (by unfold beginF; exact if_pos (.inr (by show s.lost e0 ≠ none; rw [hl]; simp))) hI)
  | none =>
  have hlv : mapV s.lost e0 = none := by unfold mapV; rw [hl]; rfl
  refine W_seq ?_
  refine W_seq ?_
  refine W_draw (by kernel_rfl) ?_
  refine WA_inv (T := []) hI.drew ?_
  intro Sx hSx hXS
  replace hI := hI.drew
  refine WT_take 0 rfl rfl (by kernel_rfl) (hXS _ hI) rfl (fun W hW => have hI := hSx W hW; (by exact rMoveP rfl rfl)) ?_
  refine WT_take 1 rfl rfl (by kernel_rfl) (hXS _ hI) rfl (fun W hW => have hI := hSx W hW; (rNilChk rfl rfl)) ?_
  refine WT_take 2 rfl rfl (by kernel_rfl) (hXS _ hI) rfl (fun W hW => have hI := hSx W hW; (by exact rFldN (off := 2) rfl (by kernel_rfl) rfl)) ?_
  refine WT_take 3 rfl rfl (by kernel_rfl) (hXS _ hI) rfl (fun W hW => have hI := hSx W hW; (by exact rLd (v := .map _) rfl (by kernel_rfl) rfl (by exact hI.c1 rfl))) ?_
  refine WT_take 4 rfl rfl (by kernel_rfl) (hXS _ hI) rfl (fun W hW => have hI := hSx W hW; (by exact rFldN (off := 0) rfl (by kernel_rfl) rfl)) ?_
  refine WT_take 5 rfl rfl (by kernel_rfl) (hXS _ hI) rfl (fun W hW => have hI := hSx W hW; (by exact rLd (v := .int .i64 _) rfl (by kernel_rfl) rfl (by exact hI.c0 rfl))) ?_
  refine WT_take 6 rfl rfl (by kernel_rfl) (hXS _ hI) rfl (fun W hW => have hI := hSx W hW; (rLookN hlv (zv := .int .i64 0) rfl Tryz.underlying54 Tryz.underlying3 (by kernel_rfl) rfl rfl hI.g5)) ?_
  refine WT_take 7 rfl rfl (by kernel_rfl) (hXS _ hI) rfl (fun W hW => have hI := hSx W hW; (by exact rMoveT rfl rfl)) ?_
  refine WT_take 8 rfl rfl (by kernel_rfl) (hXS _ hI) rfl (fun W hW => have hI := hSx W hW; (rExtr rfl rfl rfl)) ?_
  refine WT_take 9 rfl rfl (by kernel_rfl) (hXS _ hI) rfl (fun W hW => have hI := hSx W hW; (rExtr rfl rfl rfl)) ?_
  refine WT_take 10 rfl rfl (by kernel_rfl) (hXS _ hI) rfl (fun W hW => have hI := hSx W hW; (by exact rAsgnI rfl rfl)) ?_
  refine WT_take 11 rfl rfl (by kernel_rfl) (hXS _ hI) rfl (fun W hW => have hI := hSx W hW; (by exact rAsgnB rfl rfl)) ?_
  refine WT_end (by kernel_rfl) ?_
  refine W_seq ?_
  refine W_region ?_
  refine WL_val rfl rfl rfl (by exact rMoveB rfl rfl) ?_
  refine WL_val rfl rfl rfl (by exact rMoveB rfl rfl) ?_
  refine WL_val rfl rfl rfl (by exact rMoveB rfl rfl) ?_
  refine WL_val rfl rfl rfl (by exact rPickFB rfl rfl rfl) ?_
  refine WL_nil ?_
  refine W_cond false rfl ?_
  refine W_skip ?_
  have hbf : beginF ⟨e0, e1, e2, e3, e4, e5, e6⟩ i s = some ⟨s.ops ++ [newOp ⟨e0, e1, e2, e3, e4, e5, e6⟩ i], updI s.busy e0 (some s.ops.length), s.lost, s.gone ++ [false]⟩ := by
    unfold beginF
    refine if_neg ?_
    rintro (h | h)
    · exact h hb
    · exact h hl
  refine W_seq ?_
  refine W_draw (by kernel_rfl) ?_
  refine WA_inv (T := [11]) hI.drew ?_
  intro Sx hSx hXS
  replace hI := hI.drew
  refine WT_take 0 rfl rfl (by kernel_rfl) (hXS _ hI) rfl (fun W hW => have hI := hSx W hW; (by exact rMoveP rfl rfl)) ?_
  refine WT_take 1 rfl rfl (by kernel_rfl) (hXS _ hI) rfl (fun W hW => have hI := hSx W hW; (rNilChk rfl rfl)) ?_
  refine WT_take 2 rfl rfl (by kernel_rfl) (hXS _ hI) rfl (fun W hW => have hI := hSx W hW; (by exact rFldN (off := 1) rfl (by kernel_rfl) rfl)) ?_
  refine WT_take 3 rfl rfl (by kernel_rfl) (hXS _ hI) rfl (fun W hW => have hI := hSx W hW; (by exact rLd (v := .map _) rfl (by kernel_rfl) rfl (by exact hI.c1 rfl))) ?_
  refine WT_take 4 rfl rfl (by kernel_rfl) (hXS _ hI) rfl (fun W hW => have hI := hSx W hW; (by exact rFldN (off := 0) rfl (by kernel_rfl) rfl)) ?_
  refine WT_take 5 rfl rfl (by kernel_rfl) (hXS _ hI) rfl (fun W hW => have hI := hSx W hW; (by exact rLd (v := .int .i64 _) rfl (by kernel_rfl) rfl (by exact hI.c0 rfl))) ?_
  refine WT_take 6 rfl rfl (by kernel_rfl) (hXS _ hI) rfl (fun W hW => have hI := hSx W hW; (by exact rMoveP rfl rfl)) ?_
  refine WT_take 7 rfl rfl (by kernel_rfl) (hXS _ hI) rfl (fun W hW => have hI := hSx W hW; (rNilChk rfl rfl)) ?_
  refine WT_take 8 rfl rfl (by kernel_rfl) (hXS _ hI) rfl (fun W hW => have hI := hSx W hW; (by exact rFldN (off := 0) rfl (by kernel_rfl) rfl)) ?_
  refine WT_take 9 rfl rfl (by kernel_rfl) (hXS _ hI) rfl (fun W hW => have hI := hSx W hW; (by exact rLd (v := .slice _ _ _) rfl (by kernel_rfl) rfl (by exact hI.c1 rfl))) ?_
  refine WT_take 10 rfl rfl (by kernel_rfl) (hXS _ hI) rfl (fun W hW => have hI := hSx W hW; (rLen rfl Tryz.underlying32 rfl)) ?_
  refine WT_A (by kernel_rfl) ?_
  clear hXS hSx
  refine WA_one 11 rfl (by kernel_rfl) ?_
  refine WL_mapSet (v := .int .i64 (s.ops.length : Int)) 4 rfl hI rfl rfl rfl Tryz.underlying54 Tryz.underlying3 rfl rfl rfl ?_
  clear hI; intro w hI
  simp only [List.set_cons_succ, List.set_cons_zero] at hI
  rw [mapV_upd] at hI
  refine WL_nil ?_
  refine WA_end (by kernel_rfl) ?_
  refine W_seq ?_
  refine W_draw (by kernel_rfl) ?_
  refine WA_inv (T := [21]) hI.d2.drew ?_
  intro Sx hSx hXS
  replace hI := hI.drew
  refine WT_take 0 rfl rfl (by kernel_rfl) (hXS _ hI.d2) rfl (fun W hW => have hI := hSx W hW; (by exact rMoveP rfl rfl)) ?_
  refine WT_take 1 rfl rfl (by kernel_rfl) (hXS _ hI.d2) rfl (fun W hW => have hI := hSx W hW; (by exact rMoveP rfl rfl)) ?_
  refine WT_take 2 rfl rfl (by kernel_rfl) (hXS _ hI.d2) rfl (fun W hW => have hI := hSx W hW; (rNilChk rfl rfl)) ?_
  refine WT_take 3 rfl rfl (by kernel_rfl) (hXS _ hI.d2) rfl (fun W hW => have hI := hSx W hW; (by exact rFldN (off := 0) rfl (by kernel_rfl) rfl)) ?_
  refine WT_take 4 rfl rfl (by kernel_rfl) (hXS _ hI.d2) rfl (fun W hW => have hI := hSx W hW; (by exact rLd (v := .slice _ _ _) rfl (by kernel_rfl) rfl (by exact hI.c1 rfl))) ?_
  refine WT_take 5 rfl rfl (by kernel_rfl) (hXS _ hI.d2) rfl (fun W hW => have hI := hSx W hW; (by exact rFldN (off := 0) rfl (by kernel_rfl) rfl)) ?_
  refine WT_take 6 rfl rfl (by kernel_rfl) (hXS _ hI.d2) rfl (fun W hW => have hI := hSx W hW; (by exact rLd (v := .int .i64 _) rfl (by kernel_rfl) rfl (by exact hI.c0 rfl))) ?_
  refine WT_take 7 rfl rfl (by kernel_rfl) (hXS _ hI.d2) rfl (fun W hW => have hI := hSx W hW; (by exact rFldN (off := 2) rfl (by kernel_rfl) rfl)) ?_
  refine WT_take 8 rfl rfl (by kernel_rfl) (hXS _ hI.d2) rfl (fun W hW => have hI := hSx W hW; (by exact rLd (v := .int .i64 _) rfl (by kernel_rfl) rfl (by exact hI.c0 rfl))) ?_
  refine WT_take 9 rfl rfl (by kernel_rfl) (hXS _ hI.d2) rfl (fun W hW => have hI := hSx W hW; (by exact rFldN (off := 3) rfl (by kernel_rfl) rfl)) ?_
  refine WT_take 10 rfl rfl (by kernel_rfl) (hXS _ hI.d2) rfl (fun W hW => have hI := hSx W hW; (by exact rLd (v := .int .i64 _) rfl (by kernel_rfl) rfl (by exact hI.c0 rfl))) ?_
  refine WT_take 11 rfl rfl (by kernel_rfl) (hXS _ hI.d2) rfl (fun W hW => have hI := hSx W hW; (by exact rFldN (off := 4) rfl (by kernel_rfl) rfl)) ?_
  refine WT_take 12 rfl rfl (by kernel_rfl) (hXS _ hI.d2) rfl (fun W hW => have hI := hSx W hW; (by exact rLd (v := .int .i64 _) rfl (by kernel_rfl) rfl (by exact hI.c0 rfl))) ?_
  refine WT_take 13 rfl rfl (by kernel_rfl) (hXS _ hI.d2) rfl (fun W hW => have hI := hSx W hW; (by exact rFldN (off := 5) rfl (by kernel_rfl) rfl)) ?_
  refine WT_take 14 rfl rfl (by kernel_rfl) (hXS _ hI.d2) rfl (fun W hW => have hI := hSx W hW; (by exact rLd (v := .int .i64 _) rfl (by kernel_rfl) rfl (by exact hI.c0 rfl))) ?_
  refine WT_take 15 rfl rfl (by kernel_rfl) (hXS _ hI.d2) rfl (fun W hW => have hI := hSx W hW; (by exact rMoveI rfl rfl)) ?_
  refine WT_take 16 rfl rfl (by kernel_rfl) (hXS _ hI.d2) rfl (fun W hW => have hI := hSx W hW; (rBuild (qs := [(0, .int .i64 _), (1, .int .i64 _), (2, .int .i64 _), (3, .int .i64 _), (4, .int .i64 _), (6, .int .i64 _), (7, .int .i64 _)]) (vs := [_, _, _, _, _, _, _, _]) [.int .i64 0, .int .i64 0, .int .i64 0, .int .i64 0, .int .i64 0, .int .i64 0, .int .i64 0, .int .i64 0] [0, 1, 2, 3, 4, 6, 7] rfl rfl rfl (fun _ => by kernel_rfl))) ?_
  refine WT_one 17 rfl (by kernel_rfl) rfl ?_
  refine WL_lit (vs := [_, _, _, _, _, _, _, _]) (qs := [(0, .agg #[_, _, _, _, _, _, _, _])]) [.int .i64 0, .int .i64 0, .int .i64 0, .int .i64 0, .int .i64 0, .int .i64 0, .int .i64 0, .int .i64 0] [0] hI rfl rfl rfl rfl rfl rfl Tryz.underlying32 (fun _ => by kernel_rfl) ?_
  clear hI; rintro b64 w - - hI
  refine WL_nil ⟨hXS _ hI.d0.d2, ?_⟩
  refine WT_one 18 rfl (by kernel_rfl) rfl ?_
  refine WL_app3 (z := .agg #[.int .i64 0, .int .i64 0, .int .i64 0, .int .i64 0, .int .i64 0, .int .i64 0, .int .i64 0, .int .i64 0]) (by_ := 64) hI rfl rfl rfl rfl rfl rfl Tryz.underlying32 (by kernel_rfl) rfl (by omega) (by rfl) hI.lit0 (by rfl) (by omega) (by omega) (by exact Nat.zero_le _) ?_
  clear hI; rintro A65 c65 w hA65 hc65 hI
  replace hI := hI.d0
  refine WL_nil ⟨hXS _ hI.d2, ?_⟩
  refine WT_take 19 rfl rfl (by kernel_rfl) (hXS _ hI.d2) rfl (fun W hW => have hI := hSx W hW; (rNilChk rfl rfl)) ?_
  refine WT_take 20 rfl rfl (by kernel_rfl) (hXS _ hI.d2) rfl (fun W hW => have hI := hSx W hW; (by exact rFldN (off := 0) rfl (by kernel_rfl) rfl)) ?_
  refine WT_A (by kernel_rfl) ?_
  clear hXS hSx
  refine WA_one 21 rfl (by kernel_rfl) ?_
  refine WL_st1 (u := .slice _ _ _) hI rfl rfl rfl rfl rfl rfl (by kernel_rfl) rfl rfl rfl ?_
  clear hI; intro w hI
  refine WL_nil ?_
  refine WA_end (by kernel_rfl) ?_
  replace hI : Inv S w0 w [B b4 48 #[.int .i64 e0, .int .i64 e1, .int .i64 e2, .int .i64 e3, .int .i64 e4, .int .i64 e5, .int .i64 e6], B sb 57 (seeC A65 (s.ops.length + 1) c65 b1 b2 Ag s.gone.length cg), Row 0 62 8 A65 (s.ops.length + 1) c65 (s.ops.flatMap opV ++ opV (newOp ⟨e0, e1, e2, e3, e4, e5, e6⟩ i)), BoolE Ag cg s.gone, MapE b1 (mapV (updI s.busy e0 (some s.ops.length))), MapE b2 (mapV s.lost)] := hI
  refine W_seq ?_
  refine W_region ?_
  refine WL_val rfl rfl rfl (by exact rMoveP rfl rfl) ?_
  refine WL_val rfl rfl rfl (by exact rMoveP rfl rfl) ?_
  refine WL_val rfl rfl rfl (rNilChk rfl rfl) ?_
  refine WL_val rfl rfl rfl (by exact rFldN (off := 3) rfl (by kernel_rfl) rfl) ?_
  refine WL_val rfl rfl rfl (by exact rLd (v := .slice _ _ _) rfl (by kernel_rfl) rfl (by exact hI.c1 rfl)) ?_
  refine WL_lit (vs := [_]) (qs := [(0, .bool _)]) [.bool false] [0] hI rfl rfl rfl rfl rfl rfl Tryz.underlying55 (fun _ => by kernel_rfl) ?_
  clear hI; rintro b73 w - - hI
  refine WL_app4 (z := .bool false) (by_ := 1) hI rfl rfl rfl rfl rfl rfl Tryz.underlying55 (by kernel_rfl) rfl (by omega) (by rfl) hI.lit0 (by rfl) (by omega) (by omega) (by exact Nat.zero_le _) ?_
  clear hI; rintro A74 c74 w hA74 hc74 hI
  replace hI := hI.d0
  refine WL_val rfl rfl rfl (rNilChk rfl rfl) ?_
  refine WL_val rfl rfl rfl (by exact rFldN (off := 3) rfl (by kernel_rfl) rfl) ?_
  refine WL_st1 (u := .slice _ _ _) hI rfl rfl rfl rfl rfl rfl (by kernel_rfl) rfl rfl rfl ?_
  clear hI; intro w hI
  refine WL_nil ?_
  refine W_seq ?_
  refine W_region ?_
  refine WL_val rfl rfl rfl (by exact rAsgnN rfl rfl) ?_
  refine WL_nil ?_
  refine W_ret ?_
  replace hI : Inv S w0 w [B sb 57 (seeC A65 (s.ops.length + 1) c65 b1 b2 A74 (s.gone.length + 1) c74), Row 0 62 8 A65 (s.ops.length + 1) c65 (s.ops.flatMap opV ++ opV (newOp ⟨e0, e1, e2, e3, e4, e5, e6⟩ i)), Row 0 4 1 A74 (s.gone.length + 1) c74 (s.gone.map Value.bool ++ [.bool false]), MapE b1 (mapV (updI s.busy e0 (some s.ops.length))), MapE b2 (mapV s.lost)] := hI.d0
  refine ret1 6 (.inr rfl) rfl (SeerPost.some (Ao' := A65) (co' := c65) (Ag' := A74) (cg' := c74) hbf ?_)
  unfold prtS OpsE BoolE
  simp only [List.length_append, List.length_singleton, List.flatMap_append, List.flatMap_cons, List.flatMap_nil, List.append_nil, List.map_append, List.map_cons, List.map_nil]
  exact hI
end Go.Proofs.YtglioflpblpmpaaGreatDoor
namespace Go.Proofs.YtglioflpblpmpaaGreatDoor
open Go.RowKit
set_option linter.unusedVariables false
set_option linter.unusedSimpArgs false
theorem oAt_getE {l : List Op8} {k : Nat} (hk : k < l.length) : l[k]? = some (oAt l k) := by unfold oAt; rw [List.getD_eq_getElem?_getD, List.getElem?_eq_getElem hk]; rfl
theorem opsV_lenE (l : List Op8) : (l.flatMap opV).length = l.length * 8 := flat_lenG (f := opV) (fun _ => rfl) l
theorem row_op {w : World} {b c n k j : Nat} {l : List Op8} {v : Value} (h : w.ownsRow 0 62 8 (.slice (some ⟨b, 0, none⟩) n c) n (l.flatMap opV)) (hn : n = l.length) (hk : k < l.length) (hj : (opV (oAt l k))[j]? = some v) : w.cell? ⟨b, 0 + k * 8 + j, none⟩ = some v := by
  subst hn
  have hj8 : j < 8 := by have := (List.getElem?_eq_some_iff.1 hj).1; simpa [opV] using this
  rw [Nat.add_assoc]
  exact row_cellS h ((flatN (f := opV) (fun a => rfl) l k _ (oAt_getE hk) j hj8).trans hj) (by omega)
theorem flat_end {l : List Op8} {n : Nat} (hn : n < l.length) (e : Ev) (i : Nat) : ((l.flatMap opV).set (0 + n * 8 + 7) (.int .i64 (i : Int))).set (0 + n * 8 + 5) (.int .i64 e.res) = (l.set n (endOp (oAt l n) e i)).flatMap opV := by
  have h1 := flat_setG (f := opV) (s := 8) (fun _ => rfl) (a := oAt l n) (a' := { oAt l n with ret := (i : Int) }) (j := 7) (v := .int .i64 (i : Int)) (by omega) rfl (oAt_getE hn)
  have h2 := flat_setG (f := opV) (s := 8) (fun _ => rfl) (a := { oAt l n with ret := (i : Int) }) (a' := endOp (oAt l n) e i) (j := 5) (v := .int .i64 e.res) (by omega) rfl (l := l.set n { oAt l n with ret := (i : Int) }) (k := n) (by simp [hn])
  rw [List.set_set] at h2
  rw [h2, h1, Nat.zero_add]
theorem endF_no {e : Ev} {i : Nat} {s : SeeS} (h : s.busy e.proc = none) : endF e i s = none := by unfold endF; rw [h]
theorem endF_un {e : Ev} {i n : Nat} {s : SeeS} (h : s.busy e.proc = some n) (hf : ¬ fitsOp (oAt s.ops n) e) : endF e i s = none := by unfold endF; rw [h]; exact if_neg hf
theorem endF_go {e : Ev} {i n : Nat} {s : SeeS} (h : s.busy e.proc = some n) (hf : fitsOp (oAt s.ops n) e) : endF e i s = some ⟨if e.ty = 2 then s.ops.set n (endOp (oAt s.ops n) e i) else s.ops, updI s.busy e.proc none, if e.ty = 4 then updI s.lost e.proc (some i) else s.lost, if e.ty = 3 then s.gone.set n true else s.gone⟩ := by unfold endF; rw [h]; exact if_pos hf
set_option maxHeartbeats 8000000 in
theorem end_one (e0 e1 e2 e3 e4 e5 e6 : Int) (i : Nat) (sb b1 b2 : Nat) (Ao : Option Addr) (co : Nat) (Ag : Option Addr) (cg : Nat) (s : SeeS) (w0 : World) (hlen : s.ops.length ≤ 100000) (hgl : s.gone.length = s.ops.length) (hbl : ∀ n, s.busy e0 = some n → n < s.ops.length)
    (hI : Inv (DL (prtS sb Ao co b1 b2 Ag cg s)) w0 w0 (prtS sb Ao co b1 b2 Ag cg s)) :
    Calls Tryz.prog 17 #[.pointer (some ⟨sb, 0, none⟩), .agg #[.int .i64 e0, .int .i64 e1, .int .i64 e2, .int .i64 e3, .int .i64 e4, .int .i64 e5, .int .i64 e6], .int .i64 (i : Int)] w0 (SeerPost (endF ⟨e0, e1, e2, e3, e4, e5, e6⟩ i s) sb b1 b2 (DL (prtS sb Ao co b1 b2 Ag cg s)) w0) := by
  generalize hl0 : DL (prtS sb Ao co b1 b2 Ag cg s) = S at hI ⊢
  replace hI : Inv S w0 w0 [B sb 57 (seeC Ao s.ops.length co b1 b2 Ag s.gone.length cg), OpsE Ao co s.ops, BoolE Ag cg s.gone, MapE b1 (mapV s.busy), MapE b2 (mapV s.lost)] := hI
  clear hl0
  refine calls_of_W (N := Tryz.f17.ntmps) Tryz.func17 rfl rfl rfl ?_
  refine W_seq ?_
  refine W_region ?_
  refine WL_box (u := .agg _) (vs := #[_, _, _, _, _, _, _]) hI rfl rfl rfl rfl rfl rfl ?_
  clear hI; rintro b4 w - - hI
  refine WL_val rfl rfl rfl (by exact rAsgnN rfl rfl) ?_
  refine WL_nil ?_
  cases hb : s.busy e0 with
  | none =>
    have hbv : mapV s.busy e0 = none := by unfold mapV; rw [hb]; rfl
    refine W_seq ?_
    refine W_draw (by kernel_rfl) ?_
    refine WA_inv (T := []) hI.drew ?_
    intro Sx hSx hXS
    replace hI := hI.drew
    refine WT_take 0 rfl rfl (by kernel_rfl) (hXS _ hI) rfl (fun W hW => have hI := hSx W hW; (by exact rMoveP rfl rfl)) ?_
    refine WT_take 1 rfl rfl (by kernel_rfl) (hXS _ hI) rfl (fun W hW => have hI := hSx W hW; (rNilChk rfl rfl)) ?_
    refine WT_take 2 rfl rfl (by kernel_rfl) (hXS _ hI) rfl (fun W hW => have hI := hSx W hW; (by exact rFldN (off := 1) rfl (by kernel_rfl) rfl)) ?_
    refine WT_take 3 rfl rfl (by kernel_rfl) (hXS _ hI) rfl (fun W hW => have hI := hSx W hW; (by exact rLd (v := .map _) rfl (by kernel_rfl) rfl (by exact hI.c1 rfl))) ?_
    refine WT_take 4 rfl rfl (by kernel_rfl) (hXS _ hI) rfl (fun W hW => have hI := hSx W hW; (by exact rFldN (off := 0) rfl (by kernel_rfl) rfl)) ?_
    refine WT_take 5 rfl rfl (by kernel_rfl) (hXS _ hI) rfl (fun W hW => have hI := hSx W hW; (by exact rLd (v := .int .i64 _) rfl (by kernel_rfl) rfl (by exact hI.c0 rfl))) ?_
    refine WT_take 6 rfl rfl (by kernel_rfl) (hXS _ hI) rfl (fun W hW => have hI := hSx W hW; (rLookN hbv (zv := .int .i64 0) rfl Tryz.underlying54 Tryz.underlying3 (by kernel_rfl) rfl rfl hI.g4)) ?_
    refine WT_take 7 rfl rfl (by kernel_rfl) (hXS _ hI) rfl (fun W hW => have hI := hSx W hW; (by exact rMoveT rfl rfl)) ?_
    refine WT_take 8 rfl rfl (by kernel_rfl) (hXS _ hI) rfl (fun W hW => have hI := hSx W hW; (rExtr rfl rfl rfl)) ?_
    refine WT_take 9 rfl rfl (by kernel_rfl) (hXS _ hI) rfl (fun W hW => have hI := hSx W hW; (rExtr rfl rfl rfl)) ?_
    refine WT_take 10 rfl rfl (by kernel_rfl) (hXS _ hI) rfl (fun W hW => have hI := hSx W hW; (by exact rAsgnI rfl rfl)) ?_
    refine WT_take 11 rfl rfl (by kernel_rfl) (hXS _ hI) rfl (fun W hW => have hI := hSx W hW; (by exact rAsgnB rfl rfl)) ?_
    refine WT_end (by kernel_rfl) ?_
    refine W_seq ?_
    refine W_seq ?_
    refine W_region ?_
    refine WL_val rfl rfl rfl (by exact rMoveB rfl rfl) ?_
    refine WL_val rfl rfl rfl (by exact rNotF rfl rfl) ?_
    refine WL_nil ?_
    refine W_cond true rfl ?_
    refine W_seq ?_
    refine W_region ?_
    refine WL_val rfl rfl rfl (rIface rfl Tryz.underlying49 rfl rfl) ?_
    refine WL_val rfl rfl rfl (by exact rAsgnE rfl rfl) ?_
    refine WL_nil ?_
    refine W_ret ?_
    exact ret1 6 (.inr rfl) rfl (SeerPost.none (endF_no hb) hI)
  | some n =>
  have hbv : mapV s.busy e0 = some (.int .i64 (n : Int)) := by unfold mapV; rw [hb]; rfl
  have hn := hbl n hb
  obtain ⟨bO, _, rfl, -, -, -, -, -, -⟩ := row_openB hI.g2 (by omega)
  obtain ⟨bG, _, rfl, -, -, -, -, -, -⟩ := row_openB hI.g3 (by omega)
  refine W_seq ?_
  refine W_draw (by kernel_rfl) ?_
  refine WA_inv (T := []) hI.drew ?_
  intro Sx hSx hXS
  replace hI := hI.drew
  refine WT_take 0 rfl rfl (by kernel_rfl) (hXS _ hI) rfl (fun W hW => have hI := hSx W hW; (by exact rMoveP rfl rfl)) ?_
  refine WT_take 1 rfl rfl (by kernel_rfl) (hXS _ hI) rfl (fun W hW => have hI := hSx W hW; (rNilChk rfl rfl)) ?_
  refine WT_take 2 rfl rfl (by kernel_rfl) (hXS _ hI) rfl (fun W hW => have hI := hSx W hW; (by exact rFldN (off := 1) rfl (by kernel_rfl) rfl)) ?_
  refine WT_take 3 rfl rfl (by kernel_rfl) (hXS _ hI) rfl (fun W hW => have hI := hSx W hW; (by exact rLd (v := .map _) rfl (by kernel_rfl) rfl (by exact hI.c1 rfl))) ?_
  refine WT_take 4 rfl rfl (by kernel_rfl) (hXS _ hI) rfl (fun W hW => have hI := hSx W hW; (by exact rFldN (off := 0) rfl (by kernel_rfl) rfl)) ?_
  refine WT_take 5 rfl rfl (by kernel_rfl) (hXS _ hI) rfl (fun W hW => have hI := hSx W hW; (by exact rLd (v := .int .i64 _) rfl (by kernel_rfl) rfl (by exact hI.c0 rfl))) ?_
  refine WT_take 6 rfl rfl (by kernel_rfl) (hXS _ hI) rfl (fun W hW => have hI := hSx W hW; (rLookY hbv (zv := .int .i64 0) rfl Tryz.underlying54 Tryz.underlying3 (by kernel_rfl) rfl rfl hI.g4)) ?_
  refine WT_take 7 rfl rfl (by kernel_rfl) (hXS _ hI) rfl (fun W hW => have hI := hSx W hW; (by exact rMoveT rfl rfl)) ?_
  refine WT_take 8 rfl rfl (by kernel_rfl) (hXS _ hI) rfl (fun W hW => have hI := hSx W hW; (rExtr rfl rfl rfl)) ?_
  refine WT_take 9 rfl rfl (by kernel_rfl) (hXS _ hI) rfl (fun W hW => have hI := hSx W hW; (rExtr rfl rfl rfl)) ?_
  refine WT_take 10 rfl rfl (by kernel_rfl) (hXS _ hI) rfl (fun W hW => have hI := hSx W hW; (by exact rAsgnI rfl rfl)) ?_
  refine WT_take 11 rfl rfl (by kernel_rfl) (hXS _ hI) rfl (fun W hW => have hI := hSx W hW; (by exact rAsgnB rfl rfl)) ?_
  refine WT_end (by kernel_rfl) ?_
  refine W_seq ?_
  refine W_seq ?_
  refine W_region ?_
  refine WL_val rfl rfl rfl (by exact rMoveB rfl rfl) ?_
  refine WL_val rfl rfl rfl (by exact rNotT rfl rfl) ?_
  refine WL_nil ?_
  refine W_cond false rfl ?_
  refine W_skip ?_
  refine W_seq ?_
  refine W_region ?_
  refine WL_val rfl rfl rfl (by exact rMoveP rfl rfl) ?_
  refine WL_val rfl rfl rfl (rNilChk rfl rfl) ?_
  refine WL_val rfl rfl rfl (by exact rFldN (off := 0) rfl (by kernel_rfl) rfl) ?_
  refine WL_val rfl rfl rfl (by exact rLd (v := .slice _ _ _) rfl (by kernel_rfl) rfl (by exact hI.c1 rfl)) ?_
  refine WL_val rfl rfl rfl (by exact rMoveI rfl rfl) ?_
  refine WL_val rfl rfl rfl (rIdx (sz := 8) rfl Tryz.underlying32 (by kernel_rfl) rfl rfl (by omega)) ?_
  refine WL_val rfl rfl rfl (by exact rAsgnP rfl rfl) ?_
  refine WL_nil ?_
  have hun : ¬ fitsOp (oAt s.ops n) ⟨e0, e1, e2, e3, e4, e5, e6⟩ → endF ⟨e0, e1, e2, e3, e4, e5, e6⟩ i s = none := fun hf => endF_un hb hf
  have hgo : fitsOp (oAt s.ops n) ⟨e0, e1, e2, e3, e4, e5, e6⟩ → endF ⟨e0, e1, e2, e3, e4, e5, e6⟩ i s = _ := fun hf => endF_go hb hf
  refine W_seq_cut (fun ρ w => fitsOp (oAt s.ops n) ⟨e0, e1, e2, e3, e4, e5, e6⟩ ∧ Has ρ [(0, .pointer (some ⟨sb, 0, none⟩)), (2, .int .i64 (i : Int)), (4, .pointer (some ⟨b4, 0, none⟩)), (7, .int .i64 (n : Int)), (9, .pointer (some ⟨bO, 0 + n * 8, none⟩))] ∧ Inv S w0 w [B b4 48 #[.int .i64 e0, .int .i64 e1, .int .i64 e2, .int .i64 e3, .int .i64 e4, .int .i64 e5, .int .i64 e6], B sb 57 (seeC (some ⟨bO, 0, none⟩) s.ops.length co b1 b2 (some ⟨bG, 0, none⟩) s.gone.length cg), OpsE (some ⟨bO, 0, none⟩) co s.ops, BoolE (some ⟨bG, 0, none⟩) cg s.gone, MapE b1 (mapV s.busy), MapE b2 (mapV s.lost)]) ?_ ?_
  · by_cases f1 : (oAt s.ops n).key = e2
    rotate_left
    · refine W_seq ?_
      refine W_draw (by kernel_rfl) ?_
      refine WA_inv (T := []) hI.drew ?_
      intro Sx hSx hXS
      replace hI := hI.drew
      refine WT_take 0 rfl rfl (by kernel_rfl) (hXS _ hI) rfl (fun W hW => have hI := hSx W hW; (by exact rMoveP rfl rfl)) ?_
      refine WT_take 1 rfl rfl (by kernel_rfl) (hXS _ hI) rfl (fun W hW => have hI := hSx W hW; (rNilChk rfl rfl)) ?_
      refine WT_take 2 rfl rfl (by kernel_rfl) (hXS _ hI) rfl (fun W hW => have hI := hSx W hW; (by exact rFld (off := 1) rfl (by kernel_rfl) rfl)) ?_
      refine WT_take 3 rfl rfl (by kernel_rfl) (hXS _ hI) rfl (fun W hW => have hI := hSx W hW; (by exact rLd (v := .int .i64 _) rfl (by kernel_rfl) rfl (by exact (row_op hI.g2 rfl hn rfl)))) ?_
      refine WT_take 4 rfl rfl (by kernel_rfl) (hXS _ hI) rfl (fun W hW => have hI := hSx W hW; (by exact rFldN (off := 2) rfl (by kernel_rfl) rfl)) ?_
      refine WT_take 5 rfl rfl (by kernel_rfl) (hXS _ hI) rfl (fun W hW => have hI := hSx W hW; (by exact rLd (v := .int .i64 _) rfl (by kernel_rfl) rfl (by exact hI.c0 rfl))) ?_
      refine WT_take 6 rfl rfl (by kernel_rfl) (hXS _ hI) rfl (fun W hW => have hI := hSx W hW; (by exact rNeqT rfl rfl rfl (by omega))) ?_
      refine WT_take 7 rfl rfl (by kernel_rfl) (hXS _ hI) rfl (fun W hW => have hI := hSx W hW; (by exact rMoveB rfl rfl)) ?_
      refine WT_skip 8 rfl rfl (by kernel_rfl) (hXS _ hI) rfl ?_
      refine WT_skip 9 rfl rfl (by kernel_rfl) (hXS _ hI) rfl ?_
      refine WT_skip 10 rfl rfl (by kernel_rfl) (hXS _ hI) rfl ?_
      refine WT_skip 11 rfl rfl (by kernel_rfl) (hXS _ hI) rfl ?_
      refine WT_skip 12 rfl rfl (by kernel_rfl) (hXS _ hI) rfl ?_
      refine WT_skip 13 rfl rfl (by kernel_rfl) (hXS _ hI) rfl ?_
      refine WT_skip 14 rfl rfl (by kernel_rfl) (hXS _ hI) rfl ?_
      refine WT_take 15 rfl rfl (by kernel_rfl) (hXS _ hI) rfl (fun W hW => have hI := hSx W hW; (by exact rPickTB rfl rfl rfl)) ?_
      refine WT_take 16 rfl rfl (by kernel_rfl) (hXS _ hI) rfl (fun W hW => have hI := hSx W hW; (by exact rMoveB rfl rfl)) ?_
      refine WT_skip 17 rfl rfl (by kernel_rfl) (hXS _ hI) rfl ?_
      refine WT_skip 18 rfl rfl (by kernel_rfl) (hXS _ hI) rfl ?_
      refine WT_skip 19 rfl rfl (by kernel_rfl) (hXS _ hI) rfl ?_
      refine WT_skip 20 rfl rfl (by kernel_rfl) (hXS _ hI) rfl ?_
      refine WT_skip 21 rfl rfl (by kernel_rfl) (hXS _ hI) rfl ?_
      refine WT_skip 22 rfl rfl (by kernel_rfl) (hXS _ hI) rfl ?_
      refine WT_skip 23 rfl rfl (by kernel_rfl) (hXS _ hI) rfl ?_
      refine WT_take 24 rfl rfl (by kernel_rfl) (hXS _ hI) rfl (fun W hW => have hI := hSx W hW; (by exact rPickTB rfl rfl rfl)) ?_
      refine WT_take 25 rfl rfl (by kernel_rfl) (hXS _ hI) rfl (fun W hW => have hI := hSx W hW; (by exact rMoveB rfl rfl)) ?_
      refine WT_skip 26 rfl rfl (by kernel_rfl) (hXS _ hI) rfl ?_
      refine WT_skip 27 rfl rfl (by kernel_rfl) (hXS _ hI) rfl ?_
      refine WT_skip 28 rfl rfl (by kernel_rfl) (hXS _ hI) rfl ?_
      refine WT_skip 29 rfl rfl (by kernel_rfl) (hXS _ hI) rfl ?_
      refine WT_skip 30 rfl rfl (by kernel_rfl) (hXS _ hI) rfl ?_
      refine WT_skip 31 rfl rfl (by kernel_rfl) (hXS _ hI) rfl ?_
      refine WT_skip 32 rfl rfl (by kernel_rfl) (hXS _ hI) rfl ?_
      refine WT_take 33 rfl rfl (by kernel_rfl) (hXS _ hI) rfl (fun W hW => have hI := hSx W hW; (by exact rPickTB rfl rfl rfl)) ?_
      refine WT_end (by kernel_rfl) ?_
      refine W_cond true rfl ?_
      refine W_seq ?_
      refine W_region ?_
      refine WL_val rfl rfl rfl (rIface rfl Tryz.underlying49 rfl rfl) ?_
      refine WL_val rfl rfl rfl (by exact rAsgnE rfl rfl) ?_
      refine WL_nil ?_
      refine W_ret ?_
      exact ret1 6 (.inr rfl) rfl (SeerPost.none (hun fun hf => f1 hf.1) hI)
    by_cases f2 : (oAt s.ops n).kind = e3
    rotate_left
    · refine W_seq ?_
      refine W_draw (by kernel_rfl) ?_
      refine WA_inv (T := []) hI.drew ?_
      intro Sx hSx hXS
      replace hI := hI.drew
      refine WT_take 0 rfl rfl (by kernel_rfl) (hXS _ hI) rfl (fun W hW => have hI := hSx W hW; (by exact rMoveP rfl rfl)) ?_
      refine WT_take 1 rfl rfl (by kernel_rfl) (hXS _ hI) rfl (fun W hW => have hI := hSx W hW; (rNilChk rfl rfl)) ?_
      refine WT_take 2 rfl rfl (by kernel_rfl) (hXS _ hI) rfl (fun W hW => have hI := hSx W hW; (by exact rFld (off := 1) rfl (by kernel_rfl) rfl)) ?_
      refine WT_take 3 rfl rfl (by kernel_rfl) (hXS _ hI) rfl (fun W hW => have hI := hSx W hW; (by exact rLd (v := .int .i64 _) rfl (by kernel_rfl) rfl (by exact (row_op hI.g2 rfl hn rfl)))) ?_
      refine WT_take 4 rfl rfl (by kernel_rfl) (hXS _ hI) rfl (fun W hW => have hI := hSx W hW; (by exact rFldN (off := 2) rfl (by kernel_rfl) rfl)) ?_
      refine WT_take 5 rfl rfl (by kernel_rfl) (hXS _ hI) rfl (fun W hW => have hI := hSx W hW; (by exact rLd (v := .int .i64 _) rfl (by kernel_rfl) rfl (by exact hI.c0 rfl))) ?_
      refine WT_take 6 rfl rfl (by kernel_rfl) (hXS _ hI) rfl (fun W hW => have hI := hSx W hW; (by exact rNeqF rfl rfl rfl (by omega))) ?_
      refine WT_take 7 rfl rfl (by kernel_rfl) (hXS _ hI) rfl (fun W hW => have hI := hSx W hW; (by exact rMoveB rfl rfl)) ?_
      refine WT_take 8 rfl rfl (by kernel_rfl) (hXS _ hI) rfl (fun W hW => have hI := hSx W hW; (by exact rMoveP rfl rfl)) ?_
      refine WT_take 9 rfl rfl (by kernel_rfl) (hXS _ hI) rfl (fun W hW => have hI := hSx W hW; (rNilChk rfl rfl)) ?_
      refine WT_take 10 rfl rfl (by kernel_rfl) (hXS _ hI) rfl (fun W hW => have hI := hSx W hW; (by exact rFld (off := 2) rfl (by kernel_rfl) rfl)) ?_
      refine WT_take 11 rfl rfl (by kernel_rfl) (hXS _ hI) rfl (fun W hW => have hI := hSx W hW; (by exact rLd (v := .int .i64 _) rfl (by kernel_rfl) rfl (by exact (row_op hI.g2 rfl hn rfl)))) ?_
      refine WT_take 12 rfl rfl (by kernel_rfl) (hXS _ hI) rfl (fun W hW => have hI := hSx W hW; (by exact rFldN (off := 3) rfl (by kernel_rfl) rfl)) ?_
      refine WT_take 13 rfl rfl (by kernel_rfl) (hXS _ hI) rfl (fun W hW => have hI := hSx W hW; (by exact rLd (v := .int .i64 _) rfl (by kernel_rfl) rfl (by exact hI.c0 rfl))) ?_
      refine WT_take 14 rfl rfl (by kernel_rfl) (hXS _ hI) rfl (fun W hW => have hI := hSx W hW; (by exact rNeqT rfl rfl rfl (by omega))) ?_
      refine WT_take 15 rfl rfl (by kernel_rfl) (hXS _ hI) rfl (fun W hW => have hI := hSx W hW; (by exact rPickFB rfl rfl rfl)) ?_
      refine WT_take 16 rfl rfl (by kernel_rfl) (hXS _ hI) rfl (fun W hW => have hI := hSx W hW; (by exact rMoveB rfl rfl)) ?_
      refine WT_skip 17 rfl rfl (by kernel_rfl) (hXS _ hI) rfl ?_
      refine WT_skip 18 rfl rfl (by kernel_rfl) (hXS _ hI) rfl ?_
      refine WT_skip 19 rfl rfl (by kernel_rfl) (hXS _ hI) rfl ?_
      refine WT_skip 20 rfl rfl (by kernel_rfl) (hXS _ hI) rfl ?_
      refine WT_skip 21 rfl rfl (by kernel_rfl) (hXS _ hI) rfl ?_
      refine WT_skip 22 rfl rfl (by kernel_rfl) (hXS _ hI) rfl ?_
      refine WT_skip 23 rfl rfl (by kernel_rfl) (hXS _ hI) rfl ?_
      refine WT_take 24 rfl rfl (by kernel_rfl) (hXS _ hI) rfl (fun W hW => have hI := hSx W hW; (by exact rPickTB rfl rfl rfl)) ?_
      refine WT_take 25 rfl rfl (by kernel_rfl) (hXS _ hI) rfl (fun W hW => have hI := hSx W hW; (by exact rMoveB rfl rfl)) ?_
      refine WT_skip 26 rfl rfl (by kernel_rfl) (hXS _ hI) rfl ?_
      refine WT_skip 27 rfl rfl (by kernel_rfl) (hXS _ hI) rfl ?_
      refine WT_skip 28 rfl rfl (by kernel_rfl) (hXS _ hI) rfl ?_
      refine WT_skip 29 rfl rfl (by kernel_rfl) (hXS _ hI) rfl ?_
      refine WT_skip 30 rfl rfl (by kernel_rfl) (hXS _ hI) rfl ?_
      refine WT_skip 31 rfl rfl (by kernel_rfl) (hXS _ hI) rfl ?_
      refine WT_skip 32 rfl rfl (by kernel_rfl) (hXS _ hI) rfl ?_
      refine WT_take 33 rfl rfl (by kernel_rfl) (hXS _ hI) rfl (fun W hW => have hI := hSx W hW; (by exact rPickTB rfl rfl rfl)) ?_
      refine WT_end (by kernel_rfl) ?_
      refine W_cond true rfl ?_
      refine W_seq ?_
      refine W_region ?_
      refine WL_val rfl rfl rfl (rIface rfl Tryz.underlying49 rfl rfl) ?_
      refine WL_val rfl rfl rfl (by exact rAsgnE rfl rfl) ?_
      refine WL_nil ?_
      refine W_ret ?_
      exact ret1 6 (.inr rfl) rfl (SeerPost.none (hun fun hf => f2 hf.2.1) hI)
    by_cases f3 : (oAt s.ops n).a = e4
    rotate_left
    · refine W_seq ?_
      refine W_draw (by kernel_rfl) ?_
      refine WA_inv (T := []) hI.drew ?_
      intro Sx hSx hXS
      replace hI := hI.drew
      refine WT_take 0 rfl rfl (by kernel_rfl) (hXS _ hI) rfl (fun W hW => have hI := hSx W hW; (by exact rMoveP rfl rfl)) ?_
      refine WT_take 1 rfl rfl (by kernel_rfl) (hXS _ hI) rfl (fun W hW => have hI := hSx W hW; (rNilChk rfl rfl)) ?_
      refine WT_take 2 rfl rfl (by kernel_rfl) (hXS _ hI) rfl (fun W hW => have hI := hSx W hW; (by exact rFld (off := 1) rfl (by kernel_rfl) rfl)) ?_
      refine WT_take 3 rfl rfl (by kernel_rfl) (hXS _ hI) rfl (fun W hW => have hI := hSx W hW; (by exact rLd (v := .int .i64 _) rfl (by kernel_rfl) rfl (by exact (row_op hI.g2 rfl hn rfl)))) ?_
      refine WT_take 4 rfl rfl (by kernel_rfl) (hXS _ hI) rfl (fun W hW => have hI := hSx W hW; (by exact rFldN (off := 2) rfl (by kernel_rfl) rfl)) ?_
      refine WT_take 5 rfl rfl (by kernel_rfl) (hXS _ hI) rfl (fun W hW => have hI := hSx W hW; (by exact rLd (v := .int .i64 _) rfl (by kernel_rfl) rfl (by exact hI.c0 rfl))) ?_
      refine WT_take 6 rfl rfl (by kernel_rfl) (hXS _ hI) rfl (fun W hW => have hI := hSx W hW; (by exact rNeqF rfl rfl rfl (by omega))) ?_
      refine WT_take 7 rfl rfl (by kernel_rfl) (hXS _ hI) rfl (fun W hW => have hI := hSx W hW; (by exact rMoveB rfl rfl)) ?_
      refine WT_take 8 rfl rfl (by kernel_rfl) (hXS _ hI) rfl (fun W hW => have hI := hSx W hW; (by exact rMoveP rfl rfl)) ?_
      refine WT_take 9 rfl rfl (by kernel_rfl) (hXS _ hI) rfl (fun W hW => have hI := hSx W hW; (rNilChk rfl rfl)) ?_
      refine WT_take 10 rfl rfl (by kernel_rfl) (hXS _ hI) rfl (fun W hW => have hI := hSx W hW; (by exact rFld (off := 2) rfl (by kernel_rfl) rfl)) ?_
      refine WT_take 11 rfl rfl (by kernel_rfl) (hXS _ hI) rfl (fun W hW => have hI := hSx W hW; (by exact rLd (v := .int .i64 _) rfl (by kernel_rfl) rfl (by exact (row_op hI.g2 rfl hn rfl)))) ?_
      refine WT_take 12 rfl rfl (by kernel_rfl) (hXS _ hI) rfl (fun W hW => have hI := hSx W hW; (by exact rFldN (off := 3) rfl (by kernel_rfl) rfl)) ?_
      refine WT_take 13 rfl rfl (by kernel_rfl) (hXS _ hI) rfl (fun W hW => have hI := hSx W hW; (by exact rLd (v := .int .i64 _) rfl (by kernel_rfl) rfl (by exact hI.c0 rfl))) ?_
      refine WT_take 14 rfl rfl (by kernel_rfl) (hXS _ hI) rfl (fun W hW => have hI := hSx W hW; (by exact rNeqF rfl rfl rfl (by omega))) ?_
      refine WT_take 15 rfl rfl (by kernel_rfl) (hXS _ hI) rfl (fun W hW => have hI := hSx W hW; (by exact rPickFB rfl rfl rfl)) ?_
      refine WT_take 16 rfl rfl (by kernel_rfl) (hXS _ hI) rfl (fun W hW => have hI := hSx W hW; (by exact rMoveB rfl rfl)) ?_
      refine WT_take 17 rfl rfl (by kernel_rfl) (hXS _ hI) rfl (fun W hW => have hI := hSx W hW; (by exact rMoveP rfl rfl)) ?_
      refine WT_take 18 rfl rfl (by kernel_rfl) (hXS _ hI) rfl (fun W hW => have hI := hSx W hW; (rNilChk rfl rfl)) ?_
      refine WT_take 19 rfl rfl (by kernel_rfl) (hXS _ hI) rfl (fun W hW => have hI := hSx W hW; (by exact rFld (off := 3) rfl (by kernel_rfl) rfl)) ?_
      refine WT_take 20 rfl rfl (by kernel_rfl) (hXS _ hI) rfl (fun W hW => have hI := hSx W hW; (by exact rLd (v := .int .i64 _) rfl (by kernel_rfl) rfl (by exact (row_op hI.g2 rfl hn rfl)))) ?_
      refine WT_take 21 rfl rfl (by kernel_rfl) (hXS _ hI) rfl (fun W hW => have hI := hSx W hW; (by exact rFldN (off := 4) rfl (by kernel_rfl) rfl)) ?_
      refine WT_take 22 rfl rfl (by kernel_rfl) (hXS _ hI) rfl (fun W hW => have hI := hSx W hW; (by exact rLd (v := .int .i64 _) rfl (by kernel_rfl) rfl (by exact hI.c0 rfl))) ?_
      refine WT_take 23 rfl rfl (by kernel_rfl) (hXS _ hI) rfl (fun W hW => have hI := hSx W hW; (by exact rNeqT rfl rfl rfl (by omega))) ?_
      refine WT_take 24 rfl rfl (by kernel_rfl) (hXS _ hI) rfl (fun W hW => have hI := hSx W hW; (by exact rPickFB rfl rfl rfl)) ?_
      refine WT_take 25 rfl rfl (by kernel_rfl) (hXS _ hI) rfl (fun W hW => have hI := hSx W hW; (by exact rMoveB rfl rfl)) ?_
      refine WT_skip 26 rfl rfl (by kernel_rfl) (hXS _ hI) rfl ?_
      refine WT_skip 27 rfl rfl (by kernel_rfl) (hXS _ hI) rfl ?_
      refine WT_skip 28 rfl rfl (by kernel_rfl) (hXS _ hI) rfl ?_
      refine WT_skip 29 rfl rfl (by kernel_rfl) (hXS _ hI) rfl ?_
      refine WT_skip 30 rfl rfl (by kernel_rfl) (hXS _ hI) rfl ?_
      refine WT_skip 31 rfl rfl (by kernel_rfl) (hXS _ hI) rfl ?_
      refine WT_skip 32 rfl rfl (by kernel_rfl) (hXS _ hI) rfl ?_
      refine WT_take 33 rfl rfl (by kernel_rfl) (hXS _ hI) rfl (fun W hW => have hI := hSx W hW; (by exact rPickTB rfl rfl rfl)) ?_
      refine WT_end (by kernel_rfl) ?_
      refine W_cond true rfl ?_
      refine W_seq ?_
      refine W_region ?_
      refine WL_val rfl rfl rfl (rIface rfl Tryz.underlying49 rfl rfl) ?_
      refine WL_val rfl rfl rfl (by exact rAsgnE rfl rfl) ?_
      refine WL_nil ?_
      refine W_ret ?_
      exact ret1 6 (.inr rfl) rfl (SeerPost.none (hun fun hf => f3 hf.2.2.1) hI)
    by_cases f4 : (oAt s.ops n).b = e5
    rotate_left
    · refine W_seq ?_
      refine W_draw (by kernel_rfl) ?_
      refine WA_inv (T := []) hI.drew ?_
      intro Sx hSx hXS
      replace hI := hI.drew
      refine WT_take 0 rfl rfl (by kernel_rfl) (hXS _ hI) rfl (fun W hW => have hI := hSx W hW; (by exact rMoveP rfl rfl)) ?_
      refine WT_take 1 rfl rfl (by kernel_rfl) (hXS _ hI) rfl (fun W hW => have hI := hSx W hW; (rNilChk rfl rfl)) ?_
      refine WT_take 2 rfl rfl (by kernel_rfl) (hXS _ hI) rfl (fun W hW => have hI := hSx W hW; (by exact rFld (off := 1) rfl (by kernel_rfl) rfl)) ?_
      refine WT_take 3 rfl rfl (by kernel_rfl) (hXS _ hI) rfl (fun W hW => have hI := hSx W hW; (by exact rLd (v := .int .i64 _) rfl (by kernel_rfl) rfl (by exact (row_op hI.g2 rfl hn rfl)))) ?_
      refine WT_take 4 rfl rfl (by kernel_rfl) (hXS _ hI) rfl (fun W hW => have hI := hSx W hW; (by exact rFldN (off := 2) rfl (by kernel_rfl) rfl)) ?_
      refine WT_take 5 rfl rfl (by kernel_rfl) (hXS _ hI) rfl (fun W hW => have hI := hSx W hW; (by exact rLd (v := .int .i64 _) rfl (by kernel_rfl) rfl (by exact hI.c0 rfl))) ?_
      refine WT_take 6 rfl rfl (by kernel_rfl) (hXS _ hI) rfl (fun W hW => have hI := hSx W hW; (by exact rNeqF rfl rfl rfl (by omega))) ?_
      refine WT_take 7 rfl rfl (by kernel_rfl) (hXS _ hI) rfl (fun W hW => have hI := hSx W hW; (by exact rMoveB rfl rfl)) ?_
      refine WT_take 8 rfl rfl (by kernel_rfl) (hXS _ hI) rfl (fun W hW => have hI := hSx W hW; (by exact rMoveP rfl rfl)) ?_
      refine WT_take 9 rfl rfl (by kernel_rfl) (hXS _ hI) rfl (fun W hW => have hI := hSx W hW; (rNilChk rfl rfl)) ?_
      refine WT_take 10 rfl rfl (by kernel_rfl) (hXS _ hI) rfl (fun W hW => have hI := hSx W hW; (by exact rFld (off := 2) rfl (by kernel_rfl) rfl)) ?_
      refine WT_take 11 rfl rfl (by kernel_rfl) (hXS _ hI) rfl (fun W hW => have hI := hSx W hW; (by exact rLd (v := .int .i64 _) rfl (by kernel_rfl) rfl (by exact (row_op hI.g2 rfl hn rfl)))) ?_
      refine WT_take 12 rfl rfl (by kernel_rfl) (hXS _ hI) rfl (fun W hW => have hI := hSx W hW; (by exact rFldN (off := 3) rfl (by kernel_rfl) rfl)) ?_
      refine WT_take 13 rfl rfl (by kernel_rfl) (hXS _ hI) rfl (fun W hW => have hI := hSx W hW; (by exact rLd (v := .int .i64 _) rfl (by kernel_rfl) rfl (by exact hI.c0 rfl))) ?_
      refine WT_take 14 rfl rfl (by kernel_rfl) (hXS _ hI) rfl (fun W hW => have hI := hSx W hW; (by exact rNeqF rfl rfl rfl (by omega))) ?_
      refine WT_take 15 rfl rfl (by kernel_rfl) (hXS _ hI) rfl (fun W hW => have hI := hSx W hW; (by exact rPickFB rfl rfl rfl)) ?_
      refine WT_take 16 rfl rfl (by kernel_rfl) (hXS _ hI) rfl (fun W hW => have hI := hSx W hW; (by exact rMoveB rfl rfl)) ?_
      refine WT_take 17 rfl rfl (by kernel_rfl) (hXS _ hI) rfl (fun W hW => have hI := hSx W hW; (by exact rMoveP rfl rfl)) ?_
      refine WT_take 18 rfl rfl (by kernel_rfl) (hXS _ hI) rfl (fun W hW => have hI := hSx W hW; (rNilChk rfl rfl)) ?_
      refine WT_take 19 rfl rfl (by kernel_rfl) (hXS _ hI) rfl (fun W hW => have hI := hSx W hW; (by exact rFld (off := 3) rfl (by kernel_rfl) rfl)) ?_
      refine WT_take 20 rfl rfl (by kernel_rfl) (hXS _ hI) rfl (fun W hW => have hI := hSx W hW; (by exact rLd (v := .int .i64 _) rfl (by kernel_rfl) rfl (by exact (row_op hI.g2 rfl hn rfl)))) ?_
      refine WT_take 21 rfl rfl (by kernel_rfl) (hXS _ hI) rfl (fun W hW => have hI := hSx W hW; (by exact rFldN (off := 4) rfl (by kernel_rfl) rfl)) ?_
      refine WT_take 22 rfl rfl (by kernel_rfl) (hXS _ hI) rfl (fun W hW => have hI := hSx W hW; (by exact rLd (v := .int .i64 _) rfl (by kernel_rfl) rfl (by exact hI.c0 rfl))) ?_
      refine WT_take 23 rfl rfl (by kernel_rfl) (hXS _ hI) rfl (fun W hW => have hI := hSx W hW; (by exact rNeqF rfl rfl rfl (by omega))) ?_
      refine WT_take 24 rfl rfl (by kernel_rfl) (hXS _ hI) rfl (fun W hW => have hI := hSx W hW; (by exact rPickFB rfl rfl rfl)) ?_
      refine WT_take 25 rfl rfl (by kernel_rfl) (hXS _ hI) rfl (fun W hW => have hI := hSx W hW; (by exact rMoveB rfl rfl)) ?_
      refine WT_take 26 rfl rfl (by kernel_rfl) (hXS _ hI) rfl (fun W hW => have hI := hSx W hW; (by exact rMoveP rfl rfl)) ?_
      refine WT_take 27 rfl rfl (by kernel_rfl) (hXS _ hI) rfl (fun W hW => have hI := hSx W hW; (rNilChk rfl rfl)) ?_
      refine WT_take 28 rfl rfl (by kernel_rfl) (hXS _ hI) rfl (fun W hW => have hI := hSx W hW; (by exact rFld (off := 4) rfl (by kernel_rfl) rfl)) ?_
      refine WT_take 29 rfl rfl (by kernel_rfl) (hXS _ hI) rfl (fun W hW => have hI := hSx W hW; (by exact rLd (v := .int .i64 _) rfl (by kernel_rfl) rfl (by exact (row_op hI.g2 rfl hn rfl)))) ?_
      refine WT_take 30 rfl rfl (by kernel_rfl) (hXS _ hI) rfl (fun W hW => have hI := hSx W hW; (by exact rFldN (off := 5) rfl (by kernel_rfl) rfl)) ?_
      refine WT_take 31 rfl rfl (by kernel_rfl) (hXS _ hI) rfl (fun W hW => have hI := hSx W hW; (by exact rLd (v := .int .i64 _) rfl (by kernel_rfl) rfl (by exact hI.c0 rfl))) ?_
      refine WT_take 32 rfl rfl (by kernel_rfl) (hXS _ hI) rfl (fun W hW => have hI := hSx W hW; (by exact rNeqT rfl rfl rfl (by omega))) ?_
      refine WT_take 33 rfl rfl (by kernel_rfl) (hXS _ hI) rfl (fun W hW => have hI := hSx W hW; (by exact rPickFB rfl rfl rfl)) ?_
      refine WT_end (by kernel_rfl) ?_
      refine W_cond true rfl ?_
      refine W_seq ?_
      refine W_region ?_
      refine WL_val rfl rfl rfl (rIface rfl Tryz.underlying49 rfl rfl) ?_
      refine WL_val rfl rfl rfl (by exact rAsgnE rfl rfl) ?_
      refine WL_nil ?_
      refine W_ret ?_
      exact ret1 6 (.inr rfl) rfl (SeerPost.none (hun fun hf => f4 hf.2.2.2) hI)
    refine W_seq ?_
    refine W_draw (by kernel_rfl) ?_
    refine WA_inv (T := []) hI.drew ?_
    intro Sx hSx hXS
    replace hI := hI.drew
    refine WT_take 0 rfl rfl (by kernel_rfl) (hXS _ hI) rfl (fun W hW => have hI := hSx W hW; (by exact rMoveP rfl rfl)) ?_
    refine WT_take 1 rfl rfl (by kernel_rfl) (hXS _ hI) rfl (fun W hW => have hI := hSx W hW; (rNilChk rfl rfl)) ?_
    refine WT_take 2 rfl rfl (by kernel_rfl) (hXS _ hI) rfl (fun W hW => have hI := hSx W hW; (by exact rFld (off := 1) rfl (by kernel_rfl) rfl)) ?_
    refine WT_take 3 rfl rfl (by kernel_rfl) (hXS _ hI) rfl (fun W hW => have hI := hSx W hW; (by exact rLd (v := .int .i64 _) rfl (by kernel_rfl) rfl (by exact (row_op hI.g2 rfl hn rfl)))) ?_
    refine WT_take 4 rfl rfl (by kernel_rfl) (hXS _ hI) rfl (fun W hW => have hI := hSx W hW; (by exact rFldN (off := 2) rfl (by kernel_rfl) rfl)) ?_
    refine WT_take 5 rfl rfl (by kernel_rfl) (hXS _ hI) rfl (fun W hW => have hI := hSx W hW; (by exact rLd (v := .int .i64 _) rfl (by kernel_rfl) rfl (by exact hI.c0 rfl))) ?_
    refine WT_take 6 rfl rfl (by kernel_rfl) (hXS _ hI) rfl (fun W hW => have hI := hSx W hW; (by exact rNeqF rfl rfl rfl (by omega))) ?_
    refine WT_take 7 rfl rfl (by kernel_rfl) (hXS _ hI) rfl (fun W hW => have hI := hSx W hW; (by exact rMoveB rfl rfl)) ?_
    refine WT_take 8 rfl rfl (by kernel_rfl) (hXS _ hI) rfl (fun W hW => have hI := hSx W hW; (by exact rMoveP rfl rfl)) ?_
    refine WT_take 9 rfl rfl (by kernel_rfl) (hXS _ hI) rfl (fun W hW => have hI := hSx W hW; (rNilChk rfl rfl)) ?_
    refine WT_take 10 rfl rfl (by kernel_rfl) (hXS _ hI) rfl (fun W hW => have hI := hSx W hW; (by exact rFld (off := 2) rfl (by kernel_rfl) rfl)) ?_
    refine WT_take 11 rfl rfl (by kernel_rfl) (hXS _ hI) rfl (fun W hW => have hI := hSx W hW; (by exact rLd (v := .int .i64 _) rfl (by kernel_rfl) rfl (by exact (row_op hI.g2 rfl hn rfl)))) ?_
    refine WT_take 12 rfl rfl (by kernel_rfl) (hXS _ hI) rfl (fun W hW => have hI := hSx W hW; (by exact rFldN (off := 3) rfl (by kernel_rfl) rfl)) ?_
    refine WT_take 13 rfl rfl (by kernel_rfl) (hXS _ hI) rfl (fun W hW => have hI := hSx W hW; (by exact rLd (v := .int .i64 _) rfl (by kernel_rfl) rfl (by exact hI.c0 rfl))) ?_
    refine WT_take 14 rfl rfl (by kernel_rfl) (hXS _ hI) rfl (fun W hW => have hI := hSx W hW; (by exact rNeqF rfl rfl rfl (by omega))) ?_
    refine WT_take 15 rfl rfl (by kernel_rfl) (hXS _ hI) rfl (fun W hW => have hI := hSx W hW; (by exact rPickFB rfl rfl rfl)) ?_
    refine WT_take 16 rfl rfl (by kernel_rfl) (hXS _ hI) rfl (fun W hW => have hI := hSx W hW; (by exact rMoveB rfl rfl)) ?_
    refine WT_take 17 rfl rfl (by kernel_rfl) (hXS _ hI) rfl (fun W hW => have hI := hSx W hW; (by exact rMoveP rfl rfl)) ?_
    refine WT_take 18 rfl rfl (by kernel_rfl) (hXS _ hI) rfl (fun W hW => have hI := hSx W hW; (rNilChk rfl rfl)) ?_
    refine WT_take 19 rfl rfl (by kernel_rfl) (hXS _ hI) rfl (fun W hW => have hI := hSx W hW; (by exact rFld (off := 3) rfl (by kernel_rfl) rfl)) ?_
    refine WT_take 20 rfl rfl (by kernel_rfl) (hXS _ hI) rfl (fun W hW => have hI := hSx W hW; (by exact rLd (v := .int .i64 _) rfl (by kernel_rfl) rfl (by exact (row_op hI.g2 rfl hn rfl)))) ?_
    refine WT_take 21 rfl rfl (by kernel_rfl) (hXS _ hI) rfl (fun W hW => have hI := hSx W hW; (by exact rFldN (off := 4) rfl (by kernel_rfl) rfl)) ?_
    refine WT_take 22 rfl rfl (by kernel_rfl) (hXS _ hI) rfl (fun W hW => have hI := hSx W hW; (by exact rLd (v := .int .i64 _) rfl (by kernel_rfl) rfl (by exact hI.c0 rfl))) ?_
    refine WT_take 23 rfl rfl (by kernel_rfl) (hXS _ hI) rfl (fun W hW => have hI := hSx W hW; (by exact rNeqF rfl rfl rfl (by omega))) ?_
    refine WT_take 24 rfl rfl (by kernel_rfl) (hXS _ hI) rfl (fun W hW => have hI := hSx W hW; (by exact rPickFB rfl rfl rfl)) ?_
    refine WT_take 25 rfl rfl (by kernel_rfl) (hXS _ hI) rfl (fun W hW => have hI := hSx W hW; (by exact rMoveB rfl rfl)) ?_
    refine WT_take 26 rfl rfl (by kernel_rfl) (hXS _ hI) rfl (fun W hW => have hI := hSx W hW; (by exact rMoveP rfl rfl)) ?_
    refine WT_take 27 rfl rfl (by kernel_rfl) (hXS _ hI) rfl (fun W hW => have hI := hSx W hW; (rNilChk rfl rfl)) ?_
    refine WT_take 28 rfl rfl (by kernel_rfl) (hXS _ hI) rfl (fun W hW => have hI := hSx W hW; (by exact rFld (off := 4) rfl (by kernel_rfl) rfl)) ?_
    refine WT_take 29 rfl rfl (by kernel_rfl) (hXS _ hI) rfl (fun W hW => have hI := hSx W hW; (by exact rLd (v := .int .i64 _) rfl (by kernel_rfl) rfl (by exact (row_op hI.g2 rfl hn rfl)))) ?_
    refine WT_take 30 rfl rfl (by kernel_rfl) (hXS _ hI) rfl (fun W hW => have hI := hSx W hW; (by exact rFldN (off := 5) rfl (by kernel_rfl) rfl)) ?_
    refine WT_take 31 rfl rfl (by kernel_rfl) (hXS _ hI) rfl (fun W hW => have hI := hSx W hW; (by exact rLd (v := .int .i64 _) rfl (by kernel_rfl) rfl (by exact hI.c0 rfl))) ?_
    refine WT_take 32 rfl rfl (by kernel_rfl) (hXS _ hI) rfl (fun W hW => have hI := hSx W hW; (by exact rNeqF rfl rfl rfl (by omega))) ?_
    refine WT_take 33 rfl rfl (by kernel_rfl) (hXS _ hI) rfl (fun W hW => have hI := hSx W hW; (by exact rPickFB rfl rfl rfl)) ?_
    refine WT_end (by kernel_rfl) ?_
    refine W_cond false rfl ?_
    refine W_skip ?_
    exact ⟨⟨f1, f2, f3, f4⟩, ⟨rfl, rfl, rfl, rfl, rfl, trivial⟩, hI⟩
  clear hI
  rintro ρ w ⟨hfit, hH, hI⟩
  obtain ⟨σ, rfl⟩ := hH.open
  have hgo := hgo hfit
  have olen : (if e1 = 2 then s.ops.set n (endOp (oAt s.ops n) ⟨e0, e1, e2, e3, e4, e5, e6⟩ i) else s.ops).length = s.ops.length := by split <;> simp
  have glen : (if e1 = 3 then s.gone.set n true else s.gone).length = s.gone.length := by split <;> simp
  refine W_seq_cut (fun ρ w => Has ρ [(0, .pointer (some ⟨sb, 0, none⟩)), (4, .pointer (some ⟨b4, 0, none⟩))] ∧ Inv S w0 w [B b4 48 #[.int .i64 e0, .int .i64 e1, .int .i64 e2, .int .i64 e3, .int .i64 e4, .int .i64 e5, .int .i64 e6], B sb 57 (seeC (some ⟨bO, 0, none⟩) s.ops.length co b1 b2 (some ⟨bG, 0, none⟩) s.gone.length cg), Row 0 62 8 (some ⟨bO, 0, none⟩) s.ops.length co ((if e1 = 2 then s.ops.set n (endOp (oAt s.ops n) ⟨e0, e1, e2, e3, e4, e5, e6⟩ i) else s.ops).flatMap opV), Row 0 4 1 (some ⟨bG, 0, none⟩) s.gone.length cg ((if e1 = 3 then s.gone.set n true else s.gone).map Value.bool), MapE b1 (mapV s.busy), MapE b2 (mapV (if e1 = 4 then updI s.lost e0 (some i) else s.lost))]) ?_ ?_
  · refine W_seq ?_
    refine W_region ?_
    refine WL_val rfl rfl rfl (by exact rFldN (off := 1) rfl (by kernel_rfl) rfl) ?_
    refine WL_val rfl rfl rfl (by exact rLd (v := .int .i64 _) rfl (by kernel_rfl) rfl (by exact hI.c0 rfl)) ?_
    refine WL_nil ?_
    refine W_block ?_
    by_cases t2 : e1 = 2
    · refine W_seq ?_
      refine W_region ?_
      refine WL_val rfl rfl rfl (by exact rEqlT rfl rfl rfl (by omega)) ?_
      refine WL_val rfl rfl rfl (by exact rAsgnB rfl rfl) ?_
      refine WL_nil ?_
      refine W_cond true rfl ?_
      refine W_draw (by kernel_rfl) ?_
      refine WA_inv (T := [10]) hI.d2.drew ?_
      intro Sx hSx hXS
      replace hI := hI.drew
      refine WT_take 0 rfl rfl (by kernel_rfl) (hXS _ hI.d2) rfl (fun W hW => have hI := hSx W hW; (by exact rMoveP rfl rfl)) ?_
      refine WT_take 1 rfl rfl (by kernel_rfl) (hXS _ hI.d2) rfl (fun W hW => have hI := hSx W hW; (by exact rMoveP rfl rfl)) ?_
      refine WT_take 2 rfl rfl (by kernel_rfl) (hXS _ hI.d2) rfl (fun W hW => have hI := hSx W hW; (by exact rMoveI rfl rfl)) ?_
      refine WT_take 3 rfl rfl (by kernel_rfl) (hXS _ hI.d2) rfl (fun W hW => have hI := hSx W hW; (by exact rFldN (off := 6) rfl (by kernel_rfl) rfl)) ?_
      refine WT_take 4 rfl rfl (by kernel_rfl) (hXS _ hI.d2) rfl (fun W hW => have hI := hSx W hW; (by exact rLd (v := .int .i64 _) rfl (by kernel_rfl) rfl (by exact hI.c0 rfl))) ?_
      refine WT_take 5 rfl rfl (by kernel_rfl) (hXS _ hI.d2) rfl (fun W hW => have hI := hSx W hW; (rNilChk rfl rfl)) ?_
      refine WT_take 6 rfl rfl (by kernel_rfl) (hXS _ hI.d2) rfl (fun W hW => have hI := hSx W hW; (by exact rFld (off := 7) rfl (by kernel_rfl) rfl)) ?_
      refine WT_one 7 rfl (by kernel_rfl) rfl ?_
      refine WL_stRow 2 rfl (u := .int .i64 (i : Int)) (j := 0 + n * 8 + 7) hI rfl rfl rfl rfl rfl rfl (by kernel_rfl) rfl (by rw [opsV_lenE]; omega) ?_
      clear hI; intro w hI
      simp only [List.set_cons_succ, List.set_cons_zero] at hI
      refine WL_nil ⟨hXS _ hI.d2, ?_⟩
      refine WT_take 8 rfl rfl (by kernel_rfl) (hXS _ hI.d2) rfl (fun W hW => have hI := hSx W hW; (rNilChk rfl rfl)) ?_
      refine WT_take 9 rfl rfl (by kernel_rfl) (hXS _ hI.d2) rfl (fun W hW => have hI := hSx W hW; (by exact rFld (off := 5) rfl (by kernel_rfl) rfl)) ?_
      refine WT_A (by kernel_rfl) ?_
      clear hXS hSx
      refine WA_one 10 rfl (by kernel_rfl) ?_
      refine WL_stRow 2 rfl (u := .int .i64 e6) (j := 0 + n * 8 + 5) hI rfl rfl rfl rfl rfl rfl (by kernel_rfl) rfl (by rw [List.length_set, opsV_lenE]; omega) ?_
      clear hI; intro w hI
      simp only [List.set_cons_succ, List.set_cons_zero] at hI
      refine WL_nil ?_
      refine WA_end (by kernel_rfl) ?_
      rw [flat_end hn ⟨e0, e1, e2, e3, e4, e5, e6⟩ i] at hI
      rw [if_pos t2, if_neg (by omega), if_neg (by omega)]
      exact ⟨⟨rfl, rfl, trivial⟩, hI⟩
    · rw [if_neg t2]
      refine W_seq ?_
      refine W_region ?_
      refine WL_val rfl rfl rfl (by exact rEqlF rfl rfl rfl (by omega)) ?_
      refine WL_val rfl rfl rfl (by exact rAsgnB rfl rfl) ?_
      refine WL_nil ?_
      refine W_cond false rfl ?_
      by_cases t3 : e1 = 3
      · rw [if_pos t3, if_neg (by omega)]
        refine W_seq ?_
        refine W_region ?_
        refine WL_val rfl rfl rfl (by exact rEqlT rfl rfl rfl (by omega)) ?_
        refine WL_val rfl rfl rfl (by exact rAsgnB rfl rfl) ?_
        refine WL_nil ?_
        refine W_cond true rfl ?_
        refine W_region ?_
        refine WL_val rfl rfl rfl (by exact rMoveP rfl rfl) ?_
        refine WL_val rfl rfl rfl (rNilChk rfl rfl) ?_
        refine WL_val rfl rfl rfl (by exact rFldN (off := 3) rfl (by kernel_rfl) rfl) ?_
        refine WL_val rfl rfl rfl (by exact rLd (v := .slice _ _ _) rfl (by kernel_rfl) rfl (by exact hI.c1 rfl)) ?_
        refine WL_val rfl rfl rfl (by exact rMoveI rfl rfl) ?_
        refine WL_val rfl rfl rfl (by exact rIdx0 rfl Tryz.underlying55 (by kernel_rfl) rfl rfl rfl (by omega)) ?_
        refine WL_stRow 3 rfl (u := .bool true) (j := n) hI rfl rfl rfl rfl rfl rfl (by kernel_rfl) rfl (by simp; omega) ?_
        clear hI; intro w hI
        simp only [List.set_cons_succ, List.set_cons_zero] at hI
        refine WL_nil ?_
        refine ⟨⟨rfl, rfl, trivial⟩, ?_⟩
        rw [List.map_set]
        exact hI
      · rw [if_neg t3]
        refine W_seq ?_
        refine W_region ?_
        refine WL_val rfl rfl rfl (by exact rEqlF rfl rfl rfl (by omega)) ?_
        refine WL_val rfl rfl rfl (by exact rAsgnB rfl rfl) ?_
        refine WL_nil ?_
        refine W_cond false rfl ?_
        by_cases t4 : e1 = 4
        · rw [if_pos t4]
          refine W_seq ?_
          refine W_region ?_
          refine WL_val rfl rfl rfl (by exact rEqlT rfl rfl rfl (by omega)) ?_
          refine WL_val rfl rfl rfl (by exact rAsgnB rfl rfl) ?_
          refine WL_nil ?_
          refine W_cond true rfl ?_
          refine W_draw (by kernel_rfl) ?_
          refine WA_inv (T := [7]) hI.drew ?_
          intro Sx hSx hXS
          replace hI := hI.drew
          refine WT_take 0 rfl rfl (by kernel_rfl) (hXS _ hI) rfl (fun W hW => have hI := hSx W hW; (by exact rMoveP rfl rfl)) ?_
          refine WT_take 1 rfl rfl (by kernel_rfl) (hXS _ hI) rfl (fun W hW => have hI := hSx W hW; (rNilChk rfl rfl)) ?_
          refine WT_take 2 rfl rfl (by kernel_rfl) (hXS _ hI) rfl (fun W hW => have hI := hSx W hW; (by exact rFldN (off := 2) rfl (by kernel_rfl) rfl)) ?_
          refine WT_take 3 rfl rfl (by kernel_rfl) (hXS _ hI) rfl (fun W hW => have hI := hSx W hW; (by exact rLd (v := .map _) rfl (by kernel_rfl) rfl (by exact hI.c1 rfl))) ?_
          refine WT_take 4 rfl rfl (by kernel_rfl) (hXS _ hI) rfl (fun W hW => have hI := hSx W hW; (by exact rFldN (off := 0) rfl (by kernel_rfl) rfl)) ?_
          refine WT_take 5 rfl rfl (by kernel_rfl) (hXS _ hI) rfl (fun W hW => have hI := hSx W hW; (by exact rLd (v := .int .i64 _) rfl (by kernel_rfl) rfl (by exact hI.c0 rfl))) ?_
          refine WT_take 6 rfl rfl (by kernel_rfl) (hXS _ hI) rfl (fun W hW => have hI := hSx W hW; (by exact rMoveI rfl rfl)) ?_
          refine WT_A (by kernel_rfl) ?_
          clear hXS hSx
          refine WA_one 7 rfl (by kernel_rfl) ?_
          refine WL_mapSet (v := .int .i64 (i : Int)) 5 rfl hI rfl rfl rfl Tryz.underlying54 Tryz.underlying3 rfl rfl rfl ?_
          clear hI; intro w hI
          simp only [List.set_cons_succ, List.set_cons_zero] at hI
          rw [mapV_upd] at hI
          refine WL_nil ?_
          refine WA_end (by kernel_rfl) ?_
          exact ⟨⟨rfl, rfl, trivial⟩, hI⟩
        · rw [if_neg t4]
          refine W_seq ?_
          refine W_region ?_
          refine WL_val rfl rfl rfl (by exact rEqlF rfl rfl rfl (by omega)) ?_
          refine WL_val rfl rfl rfl (by exact rAsgnB rfl rfl) ?_
          refine WL_nil ?_
          refine W_cond false rfl ?_
          refine W_skip ?_
          exact ⟨⟨rfl, rfl, trivial⟩, hI⟩
  clear hI
  rintro ρ w ⟨hH, hI⟩
  obtain ⟨σ, rfl⟩ := hH.open
  refine W_seq ?_
  refine W_draw (by kernel_rfl) ?_
  refine WA_inv (T := [6]) hI.drew ?_
  intro Sx hSx hXS
  replace hI := hI.drew
  refine WT_take 0 rfl rfl (by kernel_rfl) (hXS _ hI) rfl (fun W hW => have hI := hSx W hW; (by exact rMoveP rfl rfl)) ?_
  refine WT_take 1 rfl rfl (by kernel_rfl) (hXS _ hI) rfl (fun W hW => have hI := hSx W hW; (rNilChk rfl rfl)) ?_
  refine WT_take 2 rfl rfl (by kernel_rfl) (hXS _ hI) rfl (fun W hW => have hI := hSx W hW; (by exact rFldN (off := 1) rfl (by kernel_rfl) rfl)) ?_
  refine WT_take 3 rfl rfl (by kernel_rfl) (hXS _ hI) rfl (fun W hW => have hI := hSx W hW; (by exact rLd (v := .map _) rfl (by kernel_rfl) rfl (by exact hI.c1 rfl))) ?_
  refine WT_take 4 rfl rfl (by kernel_rfl) (hXS _ hI) rfl (fun W hW => have hI := hSx W hW; (by exact rFldN (off := 0) rfl (by kernel_rfl) rfl)) ?_
  refine WT_take 5 rfl rfl (by kernel_rfl) (hXS _ hI) rfl (fun W hW => have hI := hSx W hW; (by exact rLd (v := .int .i64 _) rfl (by kernel_rfl) rfl (by exact hI.c0 rfl))) ?_
  refine WT_A (by kernel_rfl) ?_
  clear hXS hSx
  refine WA_one 6 rfl (by kernel_rfl) ?_
  refine WL_mapDel 4 rfl hI rfl rfl rfl Tryz.underlying54 Tryz.underlying3 rfl rfl ?_
  clear hI; intro w hI
  simp only [List.set_cons_succ, List.set_cons_zero] at hI
  rw [mapV_del] at hI
  refine WL_nil ?_
  refine WA_end (by kernel_rfl) ?_
  refine W_seq ?_
  refine W_region ?_
  refine WL_val rfl rfl rfl (by exact rAsgnN rfl rfl) ?_
  refine WL_nil ?_
  refine W_ret ?_
  refine ret1 6 (.inr rfl) rfl (SeerPost.some (Ao' := some ⟨bO, 0, none⟩) (co' := co) (Ag' := some ⟨bG, 0, none⟩) (cg' := cg) hgo ?_)
  unfold prtS OpsE BoolE
  simp only [olen, glen]
  exact hI.d0
end Go.Proofs.YtglioflpblpmpaaGreatDoor
namespace Go.Proofs.YtglioflpblpmpaaGreatDoor
open Go Go.Extern
set_option linter.unusedVariables false
set_option linter.unusedSimpArgs false
/-- The handle of a type. -/
abbrev hdl (t : Nat) : Value := .pointer (some ⟨5, t, none⟩)
section
variable {P : Program} {ρ : Env} {o : Oper} {w w' : World} {x y z : Operand} {v : Value} {t t' : TypeId}
theorem rExt {f : FuncId} {bs : List Operand} {ts : Array TypeId} {vs : List Value} (ho : o.op = .call { callee := .value (.func f), args := bs.toArray, argTypes := ts }) (hv : bs.map (ev ρ) = vs) (hc : (callFunc f vs.toArray).run P w = .ok (.value v) w') : (execOp (ev ρ) o).run P w = .ok (.value v) w' := by
  simp [execOp, ho, resolve, ev, Deferred.ofValue, invoke, hv, hc]
theorem rExtI {name : String} {x : Operand} {bs : List Operand} {ts : Array TypeId} {vs : List Value} {u : Value} (ho : o.op = .call { callee := .invoke x name, args := bs.toArray, argTypes := ts }) (hx : ev ρ x = .iface t u) (hv : bs.map (ev ρ) = vs) (hc : (callMethod (.iface t u) name vs.toArray).run P w = .ok (.value v) w') : (execOp (ev ρ) o).run P w = .ok (.value v) w' := by
  simp [execOp, ho, resolve, invoke, hx, hv, Array.extract_append, hc]
end
section
variable {P : Program} {N : Nat} {ops : Array Oper} {Q : XPost} {rest : List Oper} {ρ : Env} {o : Oper} {w0 w : World} {S : Nat → Prop} {H : List Ent} {d t : Nat} {cs : Array Value}
theorem WL_xbox {v : Nat → Value} (hI : Inv S w0 w H) (hw : wantedR ops ρ o = true) (hd : o.dst = some d) (hN : Nat.blt d N = true) (hr : (execOp (ev ρ) o).run P w = .ok (.value (v w.heap.size)) (w.alloc (.cells cs t)))
    (h : ∀ g w', Inv S w0 w' (B g t cs :: H) → WL P N ops Q rest (upd ρ d (v g)) w') : WL P N ops Q (o :: rest) ρ w :=
  WL_eff hw hd hN hr (h _ _ (hI.box t cs))
end
theorem x_valueOfT (a : Addr) (w : World) : (callFunc 71 #[.iface 127 (.pointer (some a))]).run Tryz.prog w = .ok (.value (.agg #[hdl 127, .pointer (some ⟨w.heap.size, 0, none⟩), .int .u64 150])) (w.alloc (.cells #[.pointer (some a)] 127)) := by kernel_rfl
theorem x_type (a : Addr) (w : World) : (callFunc 72 #[.agg #[hdl 127, .pointer (some a), .int .u64 150]]).run Tryz.prog w = .ok (.value (.iface 160 (.agg #[hdl 127]))) w := by kernel_rfl
theorem x_kindP (w : World) : (callMethod (.iface 160 (.agg #[hdl 127])) "Kind" #[]).run Tryz.prog w = .ok (.value (.int .u8 22)) w := by kernel_rfl
theorem x_elemT (w : World) : (callMethod (.iface 160 (.agg #[hdl 127])) "Elem" #[]).run Tryz.prog w = .ok (.value (.iface 160 (.agg #[hdl 49]))) w := by kernel_rfl
theorem x_kindE (w : World) : (callMethod (.iface 160 (.agg #[hdl 49])) "Kind" #[]).run Tryz.prog w = .ok (.value (.int .u8 2)) w := by kernel_rfl
theorem x_impl (w : World) : (callMethod (.iface 160 (.agg #[hdl 49])) "Implements" #[.iface 160 (.agg #[hdl 27])]).run Tryz.prog w = .ok (.value (.bool true)) w := by kernel_rfl
theorem x_typeOf (v : Value) (w : World) : (callFunc 82 #[.iface 49 v]).run Tryz.prog w = .ok (.value (.iface 160 (.agg #[hdl 49]))) w := by kernel_rfl
theorem x_assign (w : World) : (callMethod (.iface 160 (.agg #[hdl 49])) "AssignableTo" #[.iface 160 (.agg #[hdl 49])]).run Tryz.prog w = .ok (.value (.bool true)) w := by kernel_rfl
theorem x_valueOfE (n : Int) (w : World) : (callFunc 71 #[.iface 49 (.int .i64 n)]).run Tryz.prog w = .ok (.value (.agg #[hdl 49, .pointer (some ⟨w.heap.size, 0, none⟩), .int .u64 130])) (w.alloc (.cells #[.int .i64 n] 49)) := by kernel_rfl
theorem x_noAs (p : Value) (w : World) : (Instr.typeAssert (.iface 100 p) 27 165 true).run Tryz.prog w = .ok (.tuple #[.nilIface, .bool false]) w := _root_.Go.run_typeAssert_lacksB Tryz.underlying165 (by kernel_rfl) (by kernel_rfl) p 27 w
theorem x_hasUn (p : Value) (w : World) : (Instr.typeAssert (.iface 100 p) 27 168 true).run Tryz.prog w = .ok (.tuple #[.iface 100 p, .bool true]) w := by kernel_rfl
theorem x_typeOfA (p : Value) (w : World) : (callFunc 82 #[.iface 100 p]).run Tryz.prog w = .ok (.value (.iface 160 (.agg #[hdl 100]))) w := by kernel_rfl
theorem x_noAssign (w : World) : (callMethod (.iface 160 (.agg #[hdl 100])) "AssignableTo" #[.iface 160 (.agg #[hdl 49])]).run Tryz.prog w = .ok (.value (.bool false)) w := by kernel_rfl
theorem x_unwrap (p : Value) (w : World) : (callMethod (.iface 100 p) "Unwrap" #[]).run Tryz.prog w = .ok (.enter 129 #[p]) w := by kernel_rfl
end Go.Proofs.YtglioflpblpmpaaGreatDoor
namespace Go.Proofs.YtglioflpblpmpaaGreatDoor
open Go Go.Extern
set_option linter.unusedVariables false
set_option linter.unusedSimpArgs false
theorem rlm (z : Sem Value) (f : TypeId → Addr → Nat → Nat → Sem Value) (v : Value) :
    ReflectliteValue.method z f #[v] = (do match ← ReflectliteValue.parts v with | none => z | some (t, a, fl) => f t a fl (fl % 32)) := rfl
theorem x_partsP (a : Addr) (w : World) : (ReflectliteValue.parts (.agg #[hdl 127, .pointer (some a), .int .u64 150])).run Tryz.prog w = .ok (some (127, a, 150)) w := by kernel_rfl
theorem x_isNil (a p : Addr) (W : World) (ha : W.cell? a = some (.pointer (some p))) :
    (callFunc 73 #[.agg #[hdl 127, .pointer (some a), .int .u64 150]]).run Tryz.prog W = .ok (.value (.bool false)) W := by
  rw [@run_callFunc_extern Tryz.prog 73 _ (ReflectliteValue.method (ReflectliteValue.valueError "reflectlite.Value.IsNil" 0) ReflectliteValue.isNil) Tryz.func73 (by kernel_rfl) (by kernel_rfl) (by kernel_rfl) (by kernel_rfl), rlm]
  simp only [Sem.run_bind, x_partsP, Result.andThen]
  simp [ReflectliteValue.isNil, loadVar, isAgg, underlying, Tryz.underlying127, ha, Result.andThen]
theorem x_elemOf (w : World) : (Rtype.elem? 127).run Tryz.prog w = .ok (some 49) w := by kernel_rfl
theorem x_mkE (p : Addr) (w : World) : (ReflectliteValue.mk 49 p ReflectliteValue.flagAddr).run Tryz.prog w = .ok (.agg #[hdl 49, .pointer (some p), .int .u64 386]) w := by kernel_rfl
theorem x_elemV (a p : Addr) (W : World) (ha : W.cell? a = some (.pointer (some p))) :
    (callFunc 83 #[.agg #[hdl 127, .pointer (some a), .int .u64 150]]).run Tryz.prog W = .ok (.value (.agg #[hdl 49, .pointer (some p), .int .u64 386])) W := by
  rw [@run_callFunc_extern Tryz.prog 83 _ (ReflectliteValue.method (ReflectliteValue.valueError "reflectlite.Value.Elem" 0) ReflectliteValue.elem) Tryz.func83 (by kernel_rfl) (by kernel_rfl) (by kernel_rfl) (by kernel_rfl), rlm]
  simp only [Sem.run_bind, x_partsP, Result.andThen]
  simp [ReflectliteValue.elem, loadVar, isAgg, underlying, Tryz.underlying127, ha, Result.andThen, x_elemOf, x_mkE]
theorem rls (v x : Value) : ReflectliteValue.set #[v, x] = (do
    let (some (dst, a, fl), some (src, b, _)) := (← ReflectliteValue.parts v, ← ReflectliteValue.parts x)
      | unsupported (.noEntry "extern/(internal/reflectlite.Value).Set.zeroValue")
    if fl / ReflectliteValue.flagAddr % 2 == 0 then unsupported (.noEntry "extern/(internal/reflectlite.Value).Set.unaddressable")
    let val ← loadVar src b
    if ← Rtype.directlyAssignable dst src then storeVar dst a val
    else if ← Rtype.implements dst src then
      if (← Rtype.kind src) == 20 then
        match val with
        | .nilIface => unsupported (.noEntry "extern/reflectlite: a nil value of one interface type handed on as a value of another")
        | _ => storeVar dst a val
      else storeVar dst a (.iface src val)
    else panicString ("reflectlite.Set: value of type " ++ (← Rtype.spelt src) ++ " is not assignable to type " ++ (← Rtype.spelt dst))
    pure (.tuple #[])) := rfl
theorem x_partsE (a : Addr) (w : World) : (ReflectliteValue.parts (.agg #[hdl 49, .pointer (some a), .int .u64 386])).run Tryz.prog w = .ok (some (49, a, 386)) w := by kernel_rfl
theorem x_partsF (a : Addr) (w : World) : (ReflectliteValue.parts (.agg #[hdl 49, .pointer (some a), .int .u64 130])).run Tryz.prog w = .ok (some (49, a, 130)) w := by kernel_rfl
theorem x_direct (w : World) : (Rtype.directlyAssignable 49 49).run Tryz.prog w = .ok true w := by kernel_rfl
theorem x_set (ta b : Addr) (n : Int) (old : Value) (W : World) (hb : W.cell? b = some (.int .i64 n)) (ht : W.cell? ta = some old) (hf : W.frozen? ta = false) :
    (callFunc 84 #[.agg #[hdl 49, .pointer (some ta), .int .u64 386], .agg #[hdl 49, .pointer (some b), .int .u64 130]]).run Tryz.prog W = .ok (.value (.tuple #[])) (W.setCell ta (.int .i64 n)) := by
  rw [@run_callFunc_extern Tryz.prog 84 _ ReflectliteValue.set Tryz.func84 (by kernel_rfl) (by kernel_rfl) (by kernel_rfl) (by kernel_rfl), rls]
  simp only [Sem.run_bind, x_partsE, x_partsF, Result.andThen]
  simp [ReflectliteValue.flagAddr, loadVar, isAgg, underlying, Tryz.underlying49, hb, Result.andThen, x_direct, storeVar, Value.cells, storeCells, Addr.add]
  rw [_root_.Go.run_store Tryz.prog W ta _ _ (by rfl)]
  simp [ht, hf]
theorem rTA {P : Program} {ρ : Env} {o : Oper} {w : World} {x : Operand} {s d : TypeId} {c : Bool} {u r : Value} (ho : o.op = .typeAssert x s d c) (hx : ev ρ x = u) (hr : (Instr.typeAssert u s d c).run P w = .ok r w) : Runs P ρ o w r := by
  simp [Runs, execOp, ho, hx, hr]
/-- An error of this program: a number, or a number at a place. -/
abbrev patT : Nat := 100
def AtP (w : World) (b o : Nat) (n : Int) : Prop := w.cell? ⟨b, o, none⟩ = some (.int .i64 n)
theorem AtP.cell {w : World} {b o : Nat} {n : Int} (h : AtP w b o n) : w.cell? ⟨b, o, none⟩ = some (.int .i64 n) := h
theorem AtP.keep {w w' : World} {b o : Nat} {n : Int} (_ : AtP w b o n) (h : w'.cell? ⟨b, o, none⟩ = some (.int .i64 n)) : AtP w' b o n := h
def IsE (w : World) (v : Value) (n : Int) : Prop := v = .iface 49 (.int .i64 n) ∨ ∃ b o : Nat, v = .iface patT (.pointer (some ⟨b, o, none⟩)) ∧ AtP w b o n
theorem unwrap_any (b o : Nat) (n : Int) (w0 : World) (h : w0.cell? ⟨b, o, none⟩ = some (.int .i64 n)) : Calls Tryz.prog 129 #[.pointer (some ⟨b, o, none⟩)] w0 fun en w' => en = .returned (.iface 49 (.int .i64 n)) ∧ Pure w0 w' := by
  have hI := Inv.start (fun _ => False) w0
  refine calls_of_W (N := Tryz.f129.ntmps) Tryz.func129 rfl rfl rfl ?_
  refine W_seq ?_
  refine W_region ?_
  refine WL_val rfl rfl rfl (by exact rAsgnN rfl rfl) ?_
  refine WL_nil ?_
  refine W_seq ?_
  refine W_region ?_
  refine WL_val rfl rfl rfl (by exact rMoveP rfl rfl) ?_
  refine WL_val rfl rfl rfl (rNilChk rfl rfl) ?_
  refine WL_val rfl rfl rfl (by exact rFld0 rfl (by kernel_rfl) rfl) ?_
  refine WL_val rfl rfl rfl (by exact rLd (v := .int .i64 _) rfl (by kernel_rfl) rfl (by exact hI.oldp h)) ?_
  refine WL_val rfl rfl rfl (rIface rfl Tryz.underlying49 rfl rfl) ?_
  refine WL_val rfl rfl rfl (by exact rAsgnE rfl rfl) ?_
  refine WL_nil ?_
  refine W_ret ?_
  exact ret1 2 (.inr rfl) rfl ⟨rfl, hI.pu⟩
def eμ (v : Value) : Nat := match v with
  | .iface t _ => if t = patT then 1 else 0
  | _ => 0
set_option maxHeartbeats 2000000 in
theorem as1_any (e : Value) (n : Int) (old : Value) (tb a : Nat) (w0 : World) (he : IsE w0 e n) (hB : Blk w0 tb 49 #[old]) (ha : w0.cell? ⟨a, 0, none⟩ = some (.pointer (some ⟨tb, 0, none⟩))) (hne : ∀ b o, e = .iface patT (.pointer (some ⟨b, o, none⟩)) → b ≠ tb) (hat : a ≠ tb) :
    Calls Tryz.prog 74 #[e, .iface 127 (.pointer (some ⟨tb, 0, none⟩)), .agg #[hdl 127, .pointer (some ⟨a, 0, none⟩), .int .u64 150], .iface 160 (.agg #[hdl 49])] w0
      fun en w' => en = .returned (.bool true) ∧ Inv (fun k => k = tb) w0 w' [B tb 49 #[.int .i64 n]] := by
  have hI := Inv.own1 hB
  refine calls_of_W (N := Tryz.f74.ntmps) Tryz.func74 rfl rfl rfl ?_
  refine W_seq ?_
  refine W_region ?_
  refine WL_box (u := .agg _) (vs := _) hI rfl rfl rfl rfl rfl rfl ?_
  clear hI; rintro b6 w - - hI
  refine WL_val rfl rfl rfl (by exact rAsgnB rfl rfl) ?_
  refine WL_nil ?_
  refine W_block ?_
  refine W_loop (fun ρ w => ∃ e, IsE w0 e n ∧ (∀ b o, e = .iface patT (.pointer (some ⟨b, o, none⟩)) → b ≠ tb) ∧ Has ρ [(0, e), (1, .iface 127 (.pointer (some ⟨tb, 0, none⟩))), (3, .iface 160 (.agg #[hdl 49])), (6, .pointer (some ⟨b6, 0, none⟩))] ∧ Inv (fun k => k = tb) w0 w [B b6 139 #[hdl 127, .pointer (some ⟨a, 0, none⟩), .int .u64 150], B tb 49 #[old]]) (fun ρ _ => eμ (ρ 0))
    ⟨e, he, hne, ⟨rfl, rfl, rfl, rfl, trivial⟩, hI⟩ ?_
  clear hI he hne e
  rintro ρ w ⟨e, he, hne, hH, hI⟩
  obtain ⟨σ, rfl⟩ := hH.open
  refine W_block ?_
  rcases he with rfl | ⟨bb, oo, rfl, hc⟩
  · refine W_seq ?_
    refine W_seq ?_
    refine W_region ?_
    refine WL_val rfl rfl rfl (by exact rMoveE rfl rfl) ?_
    refine WL_val rfl rfl rfl (rExt rfl rfl (x_typeOf _ _)) ?_
    refine WL_val rfl rfl rfl (by exact rMoveE rfl rfl) ?_
    refine WL_val rfl rfl rfl (rExtI rfl rfl rfl (x_assign _)) ?_
    refine WL_nil ?_
    refine W_cond true rfl ?_
    refine W_seq ?_
    refine W_region ?_
    refine WL_val rfl rfl rfl (by exact rLdB (n := 3) rfl (by kernel_rfl) (by kernel_rfl) rfl rfl hI.g0) ?_
    refine WL_val rfl rfl rfl (rExt rfl rfl (x_elemV _ _ _ (hI.old ha hat))) ?_
    refine WL_val rfl rfl rfl (by exact rMoveE rfl rfl) ?_
    refine WL_xbox (v := fun g => .agg #[hdl 49, .pointer (some ⟨g, 0, none⟩), .int .u64 130]) hI rfl rfl rfl (rExt rfl rfl (x_valueOfE _ _)) ?_
    clear hI; intro bv w hI
    refine WL_eff rfl rfl rfl (rExt rfl rfl (x_set _ _ n old _ (hI.c0 rfl) (hI.c2 rfl) (hI.f2 0))) ?_
    replace hI := hI.s2 0 (.int .i64 n)
    generalize World.setCell _ _ _ = w at hI ⊢
    refine WL_nil ?_
    refine W_seq ?_
    refine W_region ?_
    refine WL_val rfl rfl rfl (by exact rAsgnB rfl rfl) ?_
    refine WL_nil ?_
    refine W_ret ?_
    exact ret1 8 (.inr rfl) rfl ⟨rfl, hI.d0.d0⟩
  · refine W_seq ?_
    refine W_seq ?_
    refine W_region ?_
    refine WL_val rfl rfl rfl (by exact rMoveE rfl rfl) ?_
    refine WL_val rfl rfl rfl (rExt rfl rfl (x_typeOfA _ _)) ?_
    refine WL_val rfl rfl rfl (by exact rMoveE rfl rfl) ?_
    refine WL_val rfl rfl rfl (rExtI rfl rfl rfl (x_noAssign _)) ?_
    refine WL_nil ?_
    refine W_cond false rfl ?_
    refine W_skip ?_
    refine W_seq ?_
    refine W_seq ?_
    refine W_region ?_
    refine WL_val rfl rfl rfl (by exact rMoveE rfl rfl) ?_
    refine WL_val rfl rfl rfl (rTA rfl rfl (x_noAs _ _)) ?_
    refine WL_val rfl rfl rfl (by exact rMoveT rfl rfl) ?_
    refine WL_val rfl rfl rfl (rExtr rfl rfl rfl) ?_
    refine WL_val rfl rfl rfl (rExtr rfl rfl rfl) ?_
    refine WL_val rfl rfl rfl (by exact rAsgnN rfl rfl) ?_
    refine WL_val rfl rfl rfl (by exact rAsgnB rfl rfl) ?_
    refine WL_nil ?_
    refine W_seq ?_
    refine W_region ?_
    refine WL_val rfl rfl rfl (by exact rMoveB rfl rfl) ?_
    refine WL_val rfl rfl rfl (by exact rMoveB rfl rfl) ?_
    refine WL_skip rfl rfl rfl ?_
    refine WL_skip rfl rfl rfl ?_
    refine WL_skip rfl rfl rfl ?_
    refine WL_val rfl rfl rfl (by exact rPickFB rfl rfl rfl) ?_
    refine WL_nil ?_
    refine W_cond false rfl ?_
    refine W_skip ?_
    refine W_seq ?_
    refine W_region ?_
    refine WL_val rfl rfl rfl (by exact rMoveE rfl rfl) ?_
    refine WL_nil ?_
    refine W_block ?_
    refine W_seq ?_
    refine W_region ?_
    refine WL_val rfl rfl rfl (rTA rfl rfl (x_hasUn _ _)) ?_
    refine WL_val rfl rfl rfl (rExtr rfl rfl rfl) ?_
    refine WL_val rfl rfl rfl (rExtr rfl rfl rfl) ?_
    refine WL_nil ?_
    refine W_cond true rfl ?_
    refine W_seq ?_
    refine W_region ?_
    refine WL_val rfl rfl rfl (by exact rAsgnE rfl rfl) ?_
    refine WL_nil ?_
    refine W_seq ?_
    refine W_region ?_
    refine WL_val rfl rfl rfl (by exact rMoveE rfl rfl) ?_
    refine WL_call rfl rfl rfl (rCallI (f := 129) (vs := []) rfl rfl rfl (fun _ => x_unwrap _ _)) ?_
    refine (unwrap_any bb oo n _ (hI.old hc.cell (hne bb oo rfl))).mono ?_
    rintro e w1 ⟨rfl, hp⟩
    refine ⟨_, rfl, ?_⟩
    replace hI := hI.pure hp
    refine WL_val rfl rfl rfl (by exact rAsgnE rfl rfl) ?_
    refine WL_nil ?_
    refine W_seq ?_
    refine W_region ?_
    refine WL_val rfl rfl rfl (by exact rMoveE rfl rfl) ?_
    refine WL_val rfl rfl rfl (by exact rIfaceEq rfl Tryz.underlying27 rfl rfl) ?_
    refine WL_nil ?_
    refine W_cond false rfl ?_
    refine W_skip ?_
    exact ⟨⟨_, .inl rfl, fun b o h => (by injection h with h; exact absurd h (by decide)), ⟨rfl, rfl, rfl, rfl, trivial⟩, hI⟩, by show 0 < 1; omega⟩
set_option maxHeartbeats 2000000 in
/-- errors.As at the address of an api.Errno. hg: what the package variable errors.errorType holds. -/
theorem as0_any (e : Value) (n : Int) (old : Value) (tb : Nat) (w0 : World) (he : IsE w0 e n) (hB : Blk w0 tb 49 #[old]) (hg : w0.cell? ⟨0, 0, none⟩ = some (.iface 160 (.agg #[hdl 27]))) (hne : ∀ b o, e = .iface patT (.pointer (some ⟨b, o, none⟩)) → b ≠ tb) (h0 : 0 ≠ tb) :
    Calls Tryz.prog 55 #[e, .iface 127 (.pointer (some ⟨tb, 0, none⟩))] w0 fun en w' => en = .returned (.bool true) ∧ Inv (fun k => k = tb) w0 w' [B tb 49 #[.int .i64 n]] := by
  have hI := Inv.own1 hB
  have he' : e ≠ .nilIface ∧ ∃ t u, e = .iface t u := by
    rcases he with rfl | ⟨b, o, rfl, _⟩ <;> exact ⟨by simp, _, _, rfl⟩
  obtain ⟨_, t, u, rfl⟩ := he'
  refine calls_of_W (N := Tryz.f55.ntmps) Tryz.func55 rfl rfl rfl ?_
  refine W_seq ?_
  refine W_region ?_
  refine WL_val rfl rfl rfl (by exact rAsgnB rfl rfl) ?_
  refine WL_nil ?_
  refine W_seq ?_
  refine W_seq ?_
  refine W_region ?_
  refine WL_val rfl rfl rfl (by exact rMoveE rfl rfl) ?_
  refine WL_val rfl rfl rfl (by exact rIfaceEq rfl Tryz.underlying27 rfl rfl) ?_
  refine WL_nil ?_
  refine W_cond false rfl ?_
  refine W_skip ?_
  refine W_seq ?_
  refine W_seq ?_
  refine W_region ?_
  refine WL_val rfl rfl rfl (by exact rMoveE rfl rfl) ?_
  refine WL_val rfl rfl rfl (by exact rIfaceEq rfl Tryz.underlying20 rfl rfl) ?_
  refine WL_nil ?_
  refine W_cond false rfl ?_
  refine W_skip ?_
  refine W_seq ?_
  refine W_region ?_
  refine WL_val rfl rfl rfl (by exact rMoveE rfl rfl) ?_
  refine WL_xbox (v := fun g => .agg #[hdl 127, .pointer (some ⟨g, 0, none⟩), .int .u64 150]) hI rfl rfl rfl (rExt rfl rfl (x_valueOfT _ _)) ?_
  clear hI; intro bv w hI
  refine WL_alloc (u := .agg #[.pointer none, .pointer none, .int .u64 0]) (vs := #[.pointer none, .pointer none, .int .u64 0]) hI rfl rfl rfl rfl (by kernel_rfl) rfl ?_
  clear hI; rintro b5 w - - hI
  refine WL_stw0 (u := .agg _) (vs := _) (n := 3) hI rfl rfl rfl rfl rfl rfl (by kernel_rfl) (by rfl) (by rfl) (by rfl) ?_
  clear hI; intro w hI
  refine WL_nil ?_
  refine W_seq ?_
  refine W_region ?_
  refine WL_val rfl rfl rfl (by exact rLdB (n := 3) rfl (by kernel_rfl) (by kernel_rfl) rfl rfl hI.g0) ?_
  refine WL_val rfl rfl rfl (rExt rfl rfl (x_type _ _)) ?_
  refine WL_val rfl rfl rfl (by exact rAsgnE rfl rfl) ?_
  refine WL_nil ?_
  refine W_seq ?_
  refine W_seq ?_
  refine W_region ?_
  refine WL_val rfl rfl rfl (by exact rMoveE rfl rfl) ?_
  refine WL_val rfl rfl rfl (rExtI rfl rfl rfl (x_kindP _)) ?_
  refine WL_val rfl rfl rfl (by exact rNeqF rfl rfl rfl (by omega)) ?_
  refine WL_val rfl rfl rfl (by exact rMoveB rfl rfl) ?_
  refine WL_val rfl rfl rfl (by exact rLdB (n := 3) rfl (by kernel_rfl) (by kernel_rfl) rfl rfl hI.g0) ?_
  refine WL_val rfl rfl rfl (rExt rfl rfl (x_isNil _ _ _ (hI.c1 rfl))) ?_
  refine WL_val rfl rfl rfl (by exact rPickFB rfl rfl rfl) ?_
  refine WL_nil ?_
  refine W_cond false rfl ?_
  refine W_skip ?_
  refine W_seq ?_
  refine W_region ?_
  refine WL_val rfl rfl rfl (by exact rMoveE rfl rfl) ?_
  refine WL_val rfl rfl rfl (rExtI rfl rfl rfl (x_elemT _)) ?_
  refine WL_val rfl rfl rfl (by exact rAsgnE rfl rfl) ?_
  refine WL_nil ?_
  refine W_seq ?_
  refine W_seq ?_
  refine W_region ?_
  refine WL_val rfl rfl rfl (by exact rMoveE rfl rfl) ?_
  refine WL_val rfl rfl rfl (rExtI rfl rfl rfl (x_kindE _)) ?_
  refine WL_val rfl rfl rfl (by exact rNeqT rfl rfl rfl (by omega)) ?_
  refine WL_val rfl rfl rfl (by exact rMoveB rfl rfl) ?_
  refine WL_val rfl rfl rfl (by exact rMoveE rfl rfl) ?_
  refine WL_val rfl rfl rfl (rLd rfl (by kernel_rfl) rfl (hI.old hg h0)) ?_
  refine WL_val rfl rfl rfl (rExtI rfl rfl rfl (x_impl _)) ?_
  refine WL_val rfl rfl rfl (by exact rNotT rfl rfl) ?_
  refine WL_val rfl rfl rfl (by exact rPickTB rfl rfl rfl) ?_
  refine WL_nil ?_
  refine W_cond false rfl ?_
  refine W_skip ?_
  refine W_seq ?_
  refine W_region ?_
  refine WL_val rfl rfl rfl (by exact rMoveE rfl rfl) ?_
  refine WL_val rfl rfl rfl (by exact rMoveE rfl rfl) ?_
  refine WL_val rfl rfl rfl (by exact rLdB (n := 3) rfl (by kernel_rfl) (by kernel_rfl) rfl rfl hI.g0) ?_
  refine WL_val rfl rfl rfl (by exact rMoveE rfl rfl) ?_
  refine WL_call rfl rfl rfl (rCall (vs := [_, _, .agg _, _]) rfl Tryz.func74 rfl rfl rfl) ?_
  refine (as1_any (.iface t u) n old tb bv _ ?_ hI.g2 (hI.c1 rfl) hne ?_).mono ?_
  · rcases he with he | ⟨b, o, he, hc⟩
    · exact .inl he
    · exact .inr ⟨b, o, he, hc.keep (hI.old hc.cell (hne b o he))⟩
  · exact fun e => hI.disj (i := 1) (j := 2) rfl rfl (by decide) bv rfl e
  rintro e w1 ⟨rfl, hJ⟩
  refine ⟨_, rfl, ?_⟩
  have hI' : Inv (fun k => k = tb) w0 w1 [B tb 49 #[.int .i64 n]] := ⟨hI.chg.trans' hJ.chg (fun k _ hk => hk), hJ.ok, fun e he k hk => by rcases List.mem_singleton.1 he with rfl; exact .inl hk, hJ.apart⟩
  clear hI
  have hI := hI'
  refine WL_val rfl rfl rfl (by exact rAsgnB rfl rfl) ?_
  refine WL_nil ?_
  refine W_ret ?_
  exact ret1 4 (.inr rfl) rfl ⟨rfl, hI⟩
theorem IsE.pure {w w' : World} {e : Value} {n : Int} (h : IsE w e n) (hp : Pure w w') : IsE w' e n := by
  rcases h with h | ⟨b, o, h, hc⟩
  · exact .inl h
  · exact .inr ⟨b, o, h, hc.keep ((Inv.start (fun _ => False) w |>.pure hp).oldp hc.cell)⟩
set_option maxHeartbeats 2000000 in
theorem tell_any (e : Value) (n : Int) (w0 : World) (he : IsE w0 e n) (hg : w0.cell? ⟨0, 0, none⟩ = some (.iface 160 (.agg #[hdl 27]))) :
    Calls Tryz.prog 35 #[e] w0 fun en w' => en = .returned (.int .i64 n) ∧ Pure w0 w' := by
  have hI := Inv.start (fun _ => False) w0
  have he' : ∃ t u, e = .iface t u := by
    rcases he with rfl | ⟨b, o, rfl, _⟩ <;> exact ⟨_, _, rfl⟩
  obtain ⟨t, u, rfl⟩ := he'
  refine calls_of_W (N := Tryz.f35.ntmps) Tryz.func35 rfl rfl rfl ?_
  refine W_seq ?_
  refine W_region ?_
  refine WL_val rfl rfl rfl (by exact rAsgnI rfl rfl) ?_
  refine WL_nil ?_
  refine W_seq ?_
  refine W_seq ?_
  refine W_region ?_
  refine WL_val rfl rfl rfl (by exact rMoveE rfl rfl) ?_
  refine WL_val rfl rfl rfl (by exact rIfaceEq rfl Tryz.underlying27 rfl rfl) ?_
  refine WL_nil ?_
  refine W_cond false rfl ?_
  refine W_skip ?_
  refine W_seq ?_
  refine W_region ?_
  refine WL_alloc (u := .int .i64 0) (vs := #[.int .i64 0]) hI rfl rfl rfl rfl (by kernel_rfl) rfl ?_
  clear hI; rintro b3 w - - hI
  refine WL_nil ?_
  have hnew : w0.heap.size ≤ b3 := (hI.own _ (List.mem_singleton.2 rfl) b3 rfl).resolve_left (fun h => h)
  have hlt0 : 0 < w0.heap.size := World.block_lt_of_cell? w0 _ hg
  refine W_seq ?_
  refine W_seq ?_
  refine W_region ?_
  refine WL_val rfl rfl rfl (by exact rMoveE rfl rfl) ?_
  refine WL_val rfl rfl rfl (rIface rfl Tryz.underlying127 rfl rfl) ?_
  refine WL_call rfl rfl rfl (rCall (vs := [_, _]) rfl Tryz.func55 rfl rfl rfl) ?_
  refine (as0_any (.iface t u) n _ b3 _ (he.pure hI.pu) hI.g0 (hI.oldp hg) ?_ (by omega)).mono ?_
  · intro b o h hb
    rcases he with he | ⟨b', o', he, hc⟩
    · rw [he] at h
      injection h with h
      exact absurd h (by decide)
    · rw [he] at h
      injection h with _ h
      injection h with h
      injection h with h
      injection h with h _
      have := World.block_lt_of_cell? w0 _ hc.cell
      simp only at this
      omega
  rintro e w1 ⟨rfl, hJ⟩
  refine ⟨_, rfl, ?_⟩
  have hI' : Inv (fun _ => False) w0 w1 [B b3 49 #[.int .i64 n]] := ⟨hI.chg.trans' hJ.chg (fun k hk e => by subst e; omega), hJ.ok, fun e he k hk => by rcases List.mem_singleton.1 he with rfl; have : k = b3 := hk; exact .inr (by omega), hJ.apart⟩
  clear hI
  have hI := hI'
  refine WL_nil ?_
  refine W_cond true rfl ?_
  refine W_seq ?_
  refine W_region ?_
  refine WL_val rfl rfl rfl (by exact rLd (v := .int .i64 _) rfl (by kernel_rfl) rfl (by exact hI.c0 rfl)) ?_
  refine WL_val rfl rfl rfl (by exact rAsgnI rfl rfl) ?_
  refine WL_nil ?_
  refine W_ret ?_
  exact ret1 2 (.inr rfl) rfl ⟨rfl, hI.pu⟩
end Go.Proofs.YtglioflpblpmpaaGreatDoor
namespace Go.Proofs.YtglioflpblpmpaaGreatDoor
open Go.RowKit
set_option linter.unusedVariables false
set_option linter.unusedSimpArgs false
abbrev GlobOk (w : World) : Prop := w.cell? ⟨0, 0, none⟩ = some (.iface 160 (.agg #[hdl 27]))
theorem at_any (z : Int) (i : Int) (w0 : World) (hg : GlobOk w0) : Calls Tryz.prog 18 #[.iface 49 (.int .i64 z), .int .i64 i] w0 fun en w' => (∃ b, en = .returned (.iface 100 (.pointer (some ⟨b, 0, none⟩)))) ∧ Pure w0 w' := by
  have hI := Inv.start (fun _ => False) w0
  refine calls_of_W (N := Tryz.f18.ntmps) Tryz.func18 rfl rfl rfl ?_
  refine W_seq ?_
  refine W_region ?_
  refine WL_val rfl rfl rfl (by exact rAsgnN rfl rfl) ?_
  refine WL_nil ?_
  refine W_seq ?_
  refine W_region ?_
  refine WL_val rfl rfl rfl (by exact rMoveE rfl rfl) ?_
  refine WL_call rfl rfl rfl (rCall (vs := [_]) rfl Tryz.func35 rfl rfl rfl) ?_
  refine (tell_any _ z _ (.inl rfl) (hI.oldp hg)).mono ?_
  rintro e w1 ⟨rfl, hp⟩
  refine ⟨_, rfl, ?_⟩
  replace hI := hI.pure hp
  refine WL_val rfl rfl rfl (by exact rMoveI rfl rfl) ?_
  refine WL_val rfl rfl rfl (rBuild (qs := [(0, .int .i64 _), (1, .int .i64 _)]) (vs := [_, _]) [.int .i64 0, .int .i64 0] [0, 1] rfl rfl rfl (fun _ => by kernel_rfl)) ?_
  refine WL_box (u := .agg _) (vs := #[_, _]) hI rfl rfl rfl rfl rfl rfl ?_
  clear hI; rintro b9 w - - hI
  refine WL_val rfl rfl rfl (rIface rfl Tryz.underlying100 rfl rfl) ?_
  refine WL_val rfl rfl rfl (by exact rAsgnE rfl rfl) ?_
  refine WL_nil ?_
  refine W_ret ?_
  exact ret1 4 (.inr rfl) rfl ⟨⟨_, rfl⟩, hI.pu⟩
def EvsR (w : World) (D : Nat → Prop) (v : Value) (l : List Ev) : Prop := Rd w D 7 v l.length (l.flatMap evL)
def evAt (l : List Ev) (k : Nat) : Ev := l.getD k ⟨0, 0, 0, 0, 0, 0, 0⟩
theorem evAt_get {l : List Ev} {k : Nat} (hk : k < l.length) : l[k]? = some (evAt l k) := by unfold evAt; rw [List.getD_eq_getElem?_getD, List.getElem?_eq_getElem hk]; rfl
theorem EvsR.pure {w w' : World} {D : Nat → Prop} {v : Value} {l : List Ev} (h : EvsR w D v l) (hp : Pure w w') : EvsR w' D v l := Rd.pure h hp
theorem EvsR.at {w : World} {D : Nat → Prop} {A : Option Addr} {n c : Nat} {l : List Ev} (h : EvsR w D (.slice A n c) l) {k : Nat} (hk : k < l.length) : ∃ b o, A = some ⟨b, o, none⟩ ∧ ∀ (j : Nat) (u : Value), (evL (evAt l k))[j]? = some u → w.cell? ⟨b, o + k * 7 + j, none⟩ = some u := by
  obtain ⟨A1, c1, hv, hnc, hcm, hlen, hcell⟩ := h
  injection hv with e1 e2 e3
  subst e1 e3
  obtain ⟨b, o, hbo, _, hcl⟩ := hcell (by omega)
  refine ⟨b, o, hbo, fun j u hj => ?_⟩
  have hj8 : j < 7 := by have := (List.getElem?_eq_some_iff.1 hj).1; simpa [evL] using this
  rw [Nat.add_assoc]
  refine hcl _ u ?_
  rw [flatN (f := evL) (fun a => rfl) l k _ (evAt_get hk) j hj8]
  exact hj
theorem EvsR.len {w : World} {D : Nat → Prop} {A : Option Addr} {n c : Nat} {l : List Ev} (h : EvsR w D (.slice A n c) l) : n = l.length ∧ n ≤ c ∧ c ≤ 9223372036854775807 := by
  obtain ⟨A', c', he, h1, h2⟩ := Rd.form h
  injection he with _ e2 e3
  subst e2 e3
  exact ⟨rfl, h1, h2⟩
def EvPost (r : Option (List Op8)) (w0 : World) (en : Ending) (w' : World) : Prop := match r with
  | none => Pure w0 w' ∧ ∃ t v, en = .returned (.tuple #[.slice none 0 0, .iface t v])
  | some out => ∃ A' c', en = .returned (.tuple #[.slice A' out.length c', .nilIface]) ∧ Inv (fun _ => False) w0 w' [OpsE A' c' out]
theorem EvPost.no {r : Option (List Op8)} {w0 w' : World} {t : TypeId} {v : Value} (h : r = none) (hp : Pure w0 w') : EvPost r w0 (.returned (.tuple #[.slice none 0 0, .iface t v])) w' := by subst h; exact ⟨hp, t, v, rfl⟩
theorem EvPost.yes {r : Option (List Op8)} {out : List Op8} {w0 w' : World} {A' : Option Addr} {c' : Nat} (h : r = some out) (hI : Inv (fun _ => False) w0 w' [OpsE A' c' out]) : EvPost r w0 (.returned (.tuple #[.slice A' out.length c', .nilIface])) w' := by subst h; exact ⟨A', c', rfl, hI⟩
theorem row_cell1 {w : World} {e b n c k : Nat} {xs : List Value} {u : Value} (h : w.ownsRow 0 e 1 (.slice (some ⟨b, 0, none⟩) n c) n xs) (hk : xs[k]? = some u) : w.cell? ⟨b, k, none⟩ = some u := by
  have hn : 0 < n := by
    have h1 := (List.getElem?_eq_some_iff.1 hk).1
    have h2 : xs.length = n * 1 := h.1
    omega
  have := row_cellS h hk hn
  rwa [Nat.zero_add] at this
theorem stepE_len {e : Ev} {i : Nat} {s s' : SeeS} (h : stepE e i s = some s') : s'.ops.length ≤ s.ops.length + 1 := by
  unfold stepE at h
  split at h
  rotate_left
  · cases h
  split at h
  · unfold beginF at h
    split at h
    · cases h
    · injection h with h; subst h; simp
  · unfold endF at h
    split at h
    · cases h
    · split at h
      · injection h with h
        subst h
        simp only
        split <;> simp
      · cases h
set_option maxHeartbeats 8000000 in
theorem evops_any (A : Option Addr) (n c : Nat) (l : List Ev) (D : Nat → Prop) (w0 : World) (h : EvsR w0 D (.slice A n c) l) (hg : GlobOk w0) : Calls Tryz.prog 8 #[.slice A n c] w0 (EvPost (evF l) w0) := by
  obtain ⟨hn, hc1, hc2⟩ := h.len
  subst hn
  have hI := Inv.start (fun _ => False) w0
  refine calls_of_W (N := Tryz.f8.ntmps) Tryz.func8 rfl rfl rfl ?_
  refine W_seq ?_
  refine W_region ?_
  refine WL_val rfl rfl rfl (by exact rAsgnS rfl rfl) ?_
  refine WL_val rfl rfl rfl (by exact rAsgnN rfl rfl) ?_
  refine WL_nil ?_
  by_cases h120 : l.length ≤ 120
  rotate_left
  · refine W_seq ?_
    refine W_seq ?_
    refine W_region ?_
    refine WL_val rfl rfl rfl (by exact rMoveS rfl rfl) ?_
    refine WL_val rfl rfl rfl (rLen rfl Tryz.underlying35 rfl) ?_
    refine WL_val rfl rfl rfl (by exact rGtrT rfl rfl rfl (by omega)) ?_
    refine WL_nil ?_
    refine W_cond true rfl ?_
    refine W_seq ?_
    refine W_region ?_
    refine WL_val rfl rfl rfl (rIface rfl Tryz.underlying49 rfl rfl) ?_
    refine WL_val rfl rfl rfl (by exact rAsgnS rfl rfl) ?_
    refine WL_val rfl rfl rfl (by exact rAsgnE rfl rfl) ?_
    refine WL_nil ?_
    refine W_ret ?_
    exact ret2 2 3 (.inr rfl) rfl (EvPost.no (by unfold evF; exact if_neg h120) hI.pu)
  have hev : evF l = (runE (l.drop 0) 0 initE).map outF := by unfold evF; exact if_pos h120
  refine W_seq ?_
  refine W_seq ?_
  refine W_region ?_
  refine WL_val rfl rfl rfl (by exact rMoveS rfl rfl) ?_
  refine WL_val rfl rfl rfl (rLen rfl Tryz.underlying35 rfl) ?_
  refine WL_val rfl rfl rfl (by exact rGtrF rfl rfl rfl (by omega)) ?_
  refine WL_nil ?_
  refine W_cond false rfl ?_
  refine W_skip ?_
  refine W_seq ?_
  refine W_region ?_
  refine WL_mkMap hI rfl rfl rfl rfl ?_
  clear hI; rintro b15 w hI
  refine WL_mkMap hI rfl rfl rfl rfl ?_
  clear hI; rintro b16 w hI
  refine WL_val rfl rfl rfl (rBuild (qs := [(1, .map _), (2, .map _)]) (vs := [_, _, _, _]) [.slice none 0 0, .map none, .map none, .slice none 0 0] [1, 2] rfl rfl rfl (fun _ => by kernel_rfl)) ?_
  refine WL_box (u := .agg _) (vs := #[_, _, _, _]) hI rfl rfl rfl rfl rfl rfl ?_
  clear hI; rintro b18 w - - hI
  refine WL_val rfl rfl rfl (by exact rAsgnP rfl rfl) ?_
  refine WL_nil ?_
  replace hI : Inv (fun _ => False) w0 w (prtS b18 none 0 b15 b16 none 0 initE) := by
    have h1 := (hI.sw1).fresh (e := BoolE none 0 []) (Pure.refl w) (Row.nil w 0 4 1) (fun k hk => by cases hk)
    have h2 := (h1.sw0).fresh (e := OpsE none 0 []) (Pure.refl w) (Row.nil w 0 62 8) (fun k hk => by cases hk)
    exact h2.sw0
  refine W_seq_cut (fun ρ w => ∃ (s : SeeS) (Ao : Option Addr) (co : Nat) (Ag : Option Addr) (cg : Nat), evF l = some (outF s) ∧ SeeOk l l.length s ∧ s.ops.length ≤ l.length ∧ Has ρ [(4, .pointer (some ⟨b18, 0, none⟩))] ∧ Inv (fun _ => False) w0 w (prtS b18 Ao co b15 b16 Ag cg s)) ?_ ?_
  · refine W_seq ?_
    refine W_region ?_
    refine WL_val rfl rfl rfl (by exact rMoveS rfl rfl) ?_
    refine WL_val rfl rfl rfl (rLen rfl Tryz.underlying35 rfl) ?_
    refine WL_val rfl rfl rfl (by exact rMoveI rfl rfl) ?_
    refine WL_nil ?_
    refine W_block ?_
    refine W_loopN (fun mu ρ w => ∃ (k : Nat) (s : SeeS) (Ao : Option Addr) (co : Nat) (Ag : Option Addr) (cg : Nat), mu = l.length - k ∧ k ≤ l.length ∧ evF l = (runE (l.drop k) k s).map outF ∧ SeeOk l k s ∧ s.ops.length ≤ k ∧ Has ρ [(21, .int .i64 (k : Int)), (20, .int .i64 (l.length : Int)), (19, .slice A l.length c), (4, .pointer (some ⟨b18, 0, none⟩))] ∧ Inv (fun _ => False) w0 w (prtS b18 Ao co b15 b16 Ag cg s)) l.length
      ⟨0, initE, none, 0, none, 0, rfl, by omega, hev, seeOk_init l, Nat.le_refl _, ⟨rfl, rfl, rfl, rfl, trivial⟩, hI⟩ ?_
    clear hI hev
    rintro mu ρ w ⟨k, s, Ao, co, Ag, cg, rfl, hk, hev, hok, hsl, hH, hI⟩
    obtain ⟨σ, rfl⟩ := hH.open
    by_cases hkl : k < l.length
    rotate_left
    · obtain rfl : k = l.length := by omega
      rw [List.drop_of_length_le (Nat.le_refl _)] at hev
      refine W_seq ?_
      refine W_region ?_
      refine WL_val rfl rfl rfl (by exact rLssF rfl rfl rfl (by omega)) ?_
      refine WL_nil ?_
      refine W_seq ?_
      refine W_cond false rfl ?_
      refine W_exit ?_
      exact ⟨s, Ao, co, Ag, cg, hev, hok, hsl, ⟨rfl, trivial⟩, hI⟩
    obtain ⟨bA, oA, rfl, hoc⟩ := (h.pure hI.pu).at hkl
    have hget := evAt_get hkl
    have hdrop : l.drop k = evAt l k :: l.drop (k + 1) := by
      rw [List.drop_eq_getElem_cons hkl]
      congr 1
      have := hget
      rw [List.getElem?_eq_getElem hkl] at this
      injection this
    rw [hdrop, runE] at hev
    have hstep := fun s' (hs : stepE (evAt l k) k s = some s') => seeOk_step hok hget hs
    have hbl := fun n (hb : s.busy (evAt l k).proc = some n) => (hok.busy _ n hb).1
    have hgl := hok.glen
    generalize hpk : evAt l k = pk at hoc hev hstep hbl
    obtain ⟨e0, e1, e2, e3, e4, e5, e6⟩ := pk
    refine W_seq ?_
    refine W_region ?_
    refine WL_val rfl rfl rfl (by exact rLssT rfl rfl rfl (by omega)) ?_
    refine WL_nil ?_
    refine W_seq ?_
    refine W_cond true rfl ?_
    refine W_skip ?_
    refine W_seq ?_
    refine W_block ?_
    refine W_seq ?_
    refine W_region ?_
    refine WL_val rfl rfl rfl (by exact rMoveI rfl rfl) ?_
    refine WL_val rfl rfl rfl (rIdx (sz := 7) rfl Tryz.underlying35 (by kernel_rfl) rfl rfl (by omega)) ?_
    refine WL_val rfl rfl rfl (by exact rLdA (n := 7) rfl (by kernel_rfl) (by kernel_rfl) rfl (by rfl) hoc) ?_
    refine WL_alloc (u := .agg #[.int .i64 0, .int .i64 0, .int .i64 0, .int .i64 0, .int .i64 0, .int .i64 0, .int .i64 0]) (vs := #[.int .i64 0, .int .i64 0, .int .i64 0, .int .i64 0, .int .i64 0, .int .i64 0, .int .i64 0]) hI rfl rfl rfl rfl (by kernel_rfl) rfl ?_
    clear hI; rintro b6 w - - hI
    refine WL_val rfl rfl rfl (by exact rAsgnI rfl rfl) ?_
    refine WL_stw0 (u := .agg _) (vs := #[_, _, _, _, _, _, _]) (n := 7) hI rfl rfl rfl rfl rfl rfl (by kernel_rfl) rfl rfl rfl ?_
    clear hI; intro w hI
    refine WL_nil ?_
    simp only [evL] at hI
    refine W_seq_cut (fun ρ w => ∃ v7, Has ρ [(7, v7), (21, .int .i64 (k : Int)), (20, .int .i64 (l.length : Int)), (19, .slice (some ⟨bA, oA, none⟩) l.length c), (4, .pointer (some ⟨b18, 0, none⟩)), (5, .int .i64 (k : Int)), (6, .pointer (some ⟨b6, 0, none⟩))] ∧ Inv (fun _ => False) w0 w (B b6 48 #[.int .i64 e0, .int .i64 e1, .int .i64 e2, .int .i64 e3, .int .i64 e4, .int .i64 e5, .int .i64 e6] :: prtS b18 Ao co b15 b16 Ag cg s) ∧ ((evOkB ⟨e0, e1, e2, e3, e4, e5, e6⟩ = true ∧ v7 = .nilIface) ∨ (evOkB ⟨e0, e1, e2, e3, e4, e5, e6⟩ = false ∧ ∃ z : Int, v7 = .iface 49 (.int .i64 z)))) ?_ ?_
    · refine W_region ?_
      refine WL_val rfl rfl rfl (by exact rLdB (n := 7) rfl (by kernel_rfl) (by kernel_rfl) rfl rfl hI.g0) ?_
      refine WL_call rfl rfl rfl (rCall (vs := [.agg _]) rfl Tryz.func15 rfl rfl rfl) ?_
      refine (check_any ⟨e0, e1, e2, e3, e4, e5, e6⟩ _).mono ?_
      rintro e w1 ⟨hp, hr⟩
      obtain ⟨v7, rfl⟩ : ∃ v, e = .returned v := by rcases hr with ⟨_, rfl⟩ | ⟨_, x, _, rfl⟩ <;> exact ⟨_, rfl⟩
      refine ⟨_, rfl, ?_⟩
      replace hI := hI.pure hp
      refine WL_val rfl rfl rfl (by exact rAsgn rfl) ?_
      refine WL_nil ?_
      refine ⟨v7, ⟨rfl, rfl, rfl, rfl, rfl, rfl, rfl, trivial⟩, hI, ?_⟩
      rcases hr with ⟨q1, q2⟩ | ⟨q1, x, ⟨z, rfl⟩, q2⟩
      · injection q2 with q2; exact .inl ⟨q1, q2⟩
      · injection q2 with q2; exact .inr ⟨q1, z, q2⟩
    clear hI
    rintro ρ w ⟨v7, hH, hI, hv⟩
    obtain ⟨σ, rfl⟩ := hH.open
    refine W_seq_cut (fun ρ w => ∃ v7, Has ρ [(7, v7), (21, .int .i64 (k : Int)), (20, .int .i64 (l.length : Int)), (19, .slice (some ⟨bA, oA, none⟩) l.length c), (4, .pointer (some ⟨b18, 0, none⟩)), (5, .int .i64 (k : Int))] ∧ ((stepE ⟨e0, e1, e2, e3, e4, e5, e6⟩ k s = none ∧ (∃ z : Int, v7 = .iface 49 (.int .i64 z)) ∧ Inv (fun _ => False) w0 w []) ∨ (∃ s', stepE ⟨e0, e1, e2, e3, e4, e5, e6⟩ k s = some s' ∧ v7 = .nilIface ∧ ∃ Ao co Ag cg, Inv (fun _ => False) w0 w (prtS b18 Ao co b15 b16 Ag cg s')))) ?_ ?_
    · refine W_block ?_
      rcases hv with ⟨hv, rfl⟩ | ⟨hv, z, rfl⟩
      rotate_left
      · refine W_seq ?_
        refine W_region ?_
        refine WL_val rfl rfl rfl (by exact rMoveE rfl rfl) ?_
        refine WL_val rfl rfl rfl (by exact rIfaceNe rfl Tryz.underlying27 rfl rfl) ?_
        refine WL_val rfl rfl rfl (by exact rAsgnB rfl rfl) ?_
        refine WL_nil ?_
        refine W_cond true rfl ?_
        refine W_skip ?_
        exact ⟨_, ⟨rfl, rfl, rfl, rfl, rfl, rfl, trivial⟩, .inl ⟨by unfold stepE; rw [hv]; rfl, ⟨z, rfl⟩, hI.none⟩⟩
      refine W_seq ?_
      refine W_region ?_
      refine WL_val rfl rfl rfl (by exact rMoveN rfl rfl) ?_
      refine WL_val rfl rfl rfl (by exact rNilNe rfl Tryz.underlying27 rfl) ?_
      refine WL_val rfl rfl rfl (by exact rAsgnB rfl rfl) ?_
      refine WL_nil ?_
      refine W_cond false rfl ?_
      replace hI : Inv (fun _ => False) w0 w (prtS b18 Ao co b15 b16 Ag cg s ++ [B b6 48 #[.int .i64 e0, .int .i64 e1, .int .i64 e2, .int .i64 e3, .int .i64 e4, .int .i64 e5, .int .i64 e6]]) := hI.perm (List.perm_append_comm (l₁ := [_]))
      by_cases t1 : e1 = 1
      · have hse : stepE ⟨e0, e1, e2, e3, e4, e5, e6⟩ k s = beginF ⟨e0, e1, e2, e3, e4, e5, e6⟩ k s := by unfold stepE; rw [if_pos hv]; exact if_pos t1
        refine W_seq ?_
        refine W_region ?_
        refine WL_val rfl rfl rfl (by exact rFldN (off := 1) rfl (by kernel_rfl) rfl) ?_
        refine WL_val rfl rfl rfl (by exact rLd (v := .int .i64 _) rfl (by kernel_rfl) rfl (by exact (hI.c5 rfl))) ?_
        refine WL_val rfl rfl rfl (by exact rEqlT rfl rfl rfl (by omega)) ?_
        refine WL_val rfl rfl rfl (by exact rAsgnB rfl rfl) ?_
        refine WL_nil ?_
        refine W_cond true rfl ?_
        refine W_region ?_
        refine WL_val rfl rfl rfl (by exact rMoveP rfl rfl) ?_
        refine WL_val rfl rfl rfl (by exact rLdB (n := 7) rfl (by kernel_rfl) (by kernel_rfl) rfl rfl hI.g5) ?_
        refine WL_val rfl rfl rfl (by exact rMoveI rfl rfl) ?_
        refine WL_call rfl rfl rfl (rCall (vs := [.pointer _, .agg _, .int .i64 _]) rfl Tryz.func16 rfl rfl rfl) ?_
        refine (begin_one e0 e1 e2 e3 e4 e5 e6 k b18 b15 b16 Ao co Ag cg s _ (by omega) hgl hI.from).mono ?_
        rintro e w1 hP
        rw [hse]
        unfold SeerPost at hP
        generalize beginF ⟨e0, e1, e2, e3, e4, e5, e6⟩ k s = r at hP ⊢
        obtain ⟨v, rfl, hQ⟩ : ∃ v, e = .returned v ∧ ((r = none ∧ (∃ z : Int, v = .iface 49 (.int .i64 z)) ∧ Inv (fun _ => False) w0 w1 []) ∨ ∃ s', r = some s' ∧ v = .nilIface ∧ ∃ Ao co Ag cg, Inv (fun _ => False) w0 w1 (prtS b18 Ao co b15 b16 Ag cg s')) := by
          cases r with
          | none => obtain ⟨q1, z, rfl⟩ := hP; exact ⟨_, rfl, .inl ⟨rfl, ⟨z, rfl⟩, (hI.turnL q1).none⟩⟩
          | some s' => obtain ⟨rfl, A1, c1, A2, c2, q1⟩ := hP; exact ⟨_, rfl, .inr ⟨s', rfl, rfl, A1, c1, A2, c2, (hI.turnL q1).d5⟩⟩
        refine ⟨_, rfl, ?_⟩
        refine WL_val rfl rfl rfl (by exact rAsgn rfl) ?_
        refine WL_nil ?_
        exact ⟨_, ⟨rfl, rfl, rfl, rfl, rfl, rfl, trivial⟩, hQ⟩
      · have hse : stepE ⟨e0, e1, e2, e3, e4, e5, e6⟩ k s = endF ⟨e0, e1, e2, e3, e4, e5, e6⟩ k s := by unfold stepE; rw [if_pos hv]; exact if_neg t1
        refine W_seq ?_
        refine W_region ?_
        refine WL_val rfl rfl rfl (by exact rFldN (off := 1) rfl (by kernel_rfl) rfl) ?_
        refine WL_val rfl rfl rfl (by exact rLd (v := .int .i64 _) rfl (by kernel_rfl) rfl (by exact (hI.c5 rfl))) ?_
        refine WL_val rfl rfl rfl (by exact rEqlF rfl rfl rfl (by omega)) ?_
        refine WL_val rfl rfl rfl (by exact rAsgnB rfl rfl) ?_
        refine WL_nil ?_
        refine W_cond false rfl ?_
        refine W_region ?_
        refine WL_val rfl rfl rfl (by exact rMoveP rfl rfl) ?_
        refine WL_val rfl rfl rfl (by exact rLdB (n := 7) rfl (by kernel_rfl) (by kernel_rfl) rfl rfl hI.g5) ?_
        refine WL_val rfl rfl rfl (by exact rMoveI rfl rfl) ?_
        refine WL_call rfl rfl rfl (rCall (vs := [.pointer _, .agg _, .int .i64 _]) rfl Tryz.func17 rfl rfl rfl) ?_
        refine (end_one e0 e1 e2 e3 e4 e5 e6 k b18 b15 b16 Ao co Ag cg s _ (by omega) hgl hbl hI.from).mono ?_
        rintro e w1 hP
        rw [hse]
        unfold SeerPost at hP
        generalize endF ⟨e0, e1, e2, e3, e4, e5, e6⟩ k s = r at hP ⊢
        obtain ⟨v, rfl, hQ⟩ : ∃ v, e = .returned v ∧ ((r = none ∧ (∃ z : Int, v = .iface 49 (.int .i64 z)) ∧ Inv (fun _ => False) w0 w1 []) ∨ ∃ s', r = some s' ∧ v = .nilIface ∧ ∃ Ao co Ag cg, Inv (fun _ => False) w0 w1 (prtS b18 Ao co b15 b16 Ag cg s')) := by
          cases r with
          | none => obtain ⟨q1, z, rfl⟩ := hP; exact ⟨_, rfl, .inl ⟨rfl, ⟨z, rfl⟩, (hI.turnL q1).none⟩⟩
          | some s' => obtain ⟨rfl, A1, c1, A2, c2, q1⟩ := hP; exact ⟨_, rfl, .inr ⟨s', rfl, rfl, A1, c1, A2, c2, (hI.turnL q1).d5⟩⟩
        refine ⟨_, rfl, ?_⟩
        refine WL_val rfl rfl rfl (by exact rAsgn rfl) ?_
        refine WL_nil ?_
        exact ⟨_, ⟨rfl, rfl, rfl, rfl, rfl, rfl, trivial⟩, hQ⟩
    clear hI hv
    rintro ρ w ⟨v7, hH, hP⟩
    obtain ⟨σ, rfl⟩ := hH.open
    rcases hP with ⟨hs, ⟨z, rfl⟩, hI⟩ | ⟨s', hs, rfl, Ao', co', Ag', cg', hI⟩
    · refine W_seq ?_
      refine W_region ?_
      refine WL_val rfl rfl rfl (by exact rMoveE rfl rfl) ?_
      refine WL_val rfl rfl rfl (by exact rIfaceNe rfl Tryz.underlying27 rfl rfl) ?_
      refine WL_nil ?_
      refine W_cond true rfl ?_
      refine W_seq ?_
      refine W_region ?_
      refine WL_val rfl rfl rfl (by exact rMoveE rfl rfl) ?_
      refine WL_val rfl rfl rfl (by exact rMoveI rfl rfl) ?_
      refine WL_call rfl rfl rfl (rCall (vs := [_, .int .i64 _]) rfl Tryz.func18 rfl rfl rfl) ?_
      refine (at_any z k _ (hI.oldp hg)).mono ?_
      rintro e w1 ⟨⟨b, rfl⟩, hp⟩
      refine ⟨_, rfl, ?_⟩
      replace hI := hI.pure hp
      refine WL_val rfl rfl rfl (by exact rAsgnS rfl rfl) ?_
      refine WL_val rfl rfl rfl (by exact rAsgnE rfl rfl) ?_
      refine WL_nil ?_
      refine W_ret ?_
      exact ret2 2 3 (.inr rfl) rfl (EvPost.no (by rw [hev, hs]; rfl) hI.pu)
    · rw [hs] at hev
      have hok' := hstep s' hs
      have hl' : s'.ops.length ≤ k + 1 := by
        have := stepE_len hs
        omega
      refine W_seq ?_
      refine W_region ?_
      refine WL_val rfl rfl rfl (by exact rMoveN rfl rfl) ?_
      refine WL_val rfl rfl rfl (by exact rNilNe rfl Tryz.underlying27 rfl) ?_
      refine WL_nil ?_
      refine W_cond false rfl ?_
      refine W_skip ?_
      refine W_region ?_
      refine WL_val rfl rfl rfl (by exact rInc rfl rfl rfl (by omega)) ?_
      refine WL_val rfl rfl rfl (by exact rMoveI rfl rfl) ?_
      refine WL_nil ?_
      exact ⟨l.length - (k + 1), by omega, k + 1, s', Ao', co', Ag', cg', rfl, by omega, hev, hok', hl', ⟨rfl, rfl, rfl, rfl, trivial⟩, hI⟩
  clear hI hev
  rintro ρ w ⟨s, Ao, co, Ag, cg, hev, hok, hsl, hH, hI⟩
  obtain ⟨σ, rfl⟩ := hH.open
  refine W_seq ?_
  refine W_region ?_
  refine WL_val rfl rfl rfl (by exact rAsgnS rfl rfl) ?_
  refine WL_nil ?_
  refine W_seq_cut (fun ρ w => ∃ (A8 : Option Addr) (c8 : Nat), Has ρ [(8, .slice A8 (outF s).length c8)] ∧ Inv (fun _ => False) w0 w [OpsE A8 c8 (outF s)]) ?_ ?_
  · replace hI : Inv (fun _ => False) w0 w (OpsE none 0 ((keptF s 0).map (oAt s.ops)) :: prtS b18 Ao co b15 b16 Ag cg s) := hI.fresh (Pure.refl w) (Row.nil w 0 62 8) (fun k hk => by cases hk)
    refine W_seq ?_
    refine W_region ?_
    refine WL_val rfl rfl rfl (by exact rMoveP rfl rfl) ?_
    refine WL_val rfl rfl rfl (rNilChk rfl rfl) ?_
    refine WL_val rfl rfl rfl (by exact rFldN (off := 0) rfl (by kernel_rfl) rfl) ?_
    refine WL_val rfl rfl rfl (by exact rLd (v := .slice _ _ _) rfl (by kernel_rfl) rfl (by exact hI.c1 rfl)) ?_
    refine WL_val rfl rfl rfl (rLen rfl Tryz.underlying32 rfl) ?_
    refine WL_val rfl rfl rfl (by exact rMoveI rfl rfl) ?_
    refine WL_nil ?_
    refine W_block ?_
    refine W_loopN (fun mu ρ w => ∃ (k : Nat) (A8 : Option Addr) (c8 : Nat), mu = s.ops.length - k ∧ k ≤ s.ops.length ∧ Has ρ [(54, .int .i64 (k : Int)), (53, .int .i64 (s.ops.length : Int)), (52, .slice Ao s.ops.length co), (4, .pointer (some ⟨b18, 0, none⟩)), (8, .slice A8 ((keptF s k).map (oAt s.ops)).length c8)] ∧ Inv (fun _ => False) w0 w (OpsE A8 c8 ((keptF s k).map (oAt s.ops)) :: prtS b18 Ao co b15 b16 Ag cg s)) s.ops.length
      ⟨0, _, _, rfl, by omega, ⟨rfl, rfl, rfl, rfl, rfl, trivial⟩, hI⟩ ?_
    clear hI
    rintro mu ρ w ⟨k, A8, c8, rfl, hk, hH, hI⟩
    obtain ⟨σ, rfl⟩ := hH.open
    by_cases hkl : k < s.ops.length
    rotate_left
    · obtain rfl : k = s.ops.length := by omega
      refine W_seq ?_
      refine W_region ?_
      refine WL_val rfl rfl rfl (by exact rLssF rfl rfl rfl (by omega)) ?_
      refine WL_nil ?_
      refine W_seq ?_
      refine W_cond false rfl ?_
      refine W_exit ?_
      refine ⟨A8, c8, ⟨rfl, trivial⟩, hI.d5.d4.d3.d2.d1⟩
    have hglen := hok.glen
    obtain ⟨bO, _, rfl, -, -, -, -, -, -⟩ := row_openB hI.g2 (by omega)
    obtain ⟨bG, _, rfl, -, -, -, -, -, -⟩ := row_openB hI.g3 (by omega)
    have hkc : ((keptF s k).map (oAt s.ops)).length ≤ 120 := by
      have : (keptF s k).length ≤ (List.range k).length := List.length_filter_le ..
      simp at this ⊢
      omega
    have hgc : (s.gone.map Value.bool)[k]? = some (.bool (goneAt s k)) := by
      unfold goneAt
      rw [List.getElem?_map, List.getD_eq_getElem?_getD, List.getElem?_eq_getElem (show k < s.gone.length by omega)]
      rfl
    have hoc : ∀ (j : Nat) (u : Value), (opV (oAt s.ops k))[j]? = some u → w.cell? ⟨bO, 0 + k * 8 + j, none⟩ = some u := fun j u hj => row_op hI.g2 rfl hkl hj
    refine W_seq ?_
    refine W_region ?_
    refine WL_val rfl rfl rfl (by exact rLssT rfl rfl rfl (by omega)) ?_
    refine WL_nil ?_
    refine W_seq ?_
    refine W_cond true rfl ?_
    refine W_skip ?_
    refine W_seq ?_
    refine W_block ?_
    refine W_seq ?_
    refine W_region ?_
    refine WL_val rfl rfl rfl (by exact rMoveI rfl rfl) ?_
    refine WL_val rfl rfl rfl (rIdx (sz := 8) rfl Tryz.underlying32 (by kernel_rfl) rfl rfl (by omega)) ?_
    refine WL_val rfl rfl rfl (by exact rLdA (n := 8) rfl (by kernel_rfl) (by kernel_rfl) rfl (by rfl) hoc) ?_
    refine WL_alloc (u := .agg #[.int .i64 0, .int .i64 0, .int .i64 0, .int .i64 0, .int .i64 0, .int .i64 0, .int .i64 0, .int .i64 0]) (vs := #[.int .i64 0, .int .i64 0, .int .i64 0, .int .i64 0, .int .i64 0, .int .i64 0, .int .i64 0, .int .i64 0]) hI rfl rfl rfl rfl (by kernel_rfl) rfl ?_
    clear hI; rintro b10 w - - hI
    refine WL_val rfl rfl rfl (by exact rAsgnI rfl rfl) ?_
    refine WL_stw0 (u := .agg _) (vs := #[_, _, _, _, _, _, _, _]) (n := 8) hI rfl rfl rfl rfl rfl rfl (by kernel_rfl) rfl rfl rfl ?_
    clear hI; intro w hI
    refine WL_nil ?_
    have hks := keptF_succ s k
    change keptF s (k + 1) = keptF s k ++ (if goneAt s k = true then [] else [k]) at hks
    cases hg1 : goneAt s k with
    | true =>
      rw [hg1] at hgc hks
      refine W_seq ?_
      refine W_region ?_
      refine WL_val rfl rfl rfl (by exact rMoveP rfl rfl) ?_
      refine WL_val rfl rfl rfl (rNilChk rfl rfl) ?_
      refine WL_val rfl rfl rfl (by exact rFldN (off := 3) rfl (by kernel_rfl) rfl) ?_
      refine WL_val rfl rfl rfl (by exact rLd (v := .slice _ _ _) rfl (by kernel_rfl) rfl (by exact hI.c2 rfl)) ?_
      refine WL_val rfl rfl rfl (by exact rMoveI rfl rfl) ?_
      refine WL_val rfl rfl rfl (by exact rIdx0 rfl Tryz.underlying55 (by kernel_rfl) rfl rfl rfl (by omega)) ?_
      refine WL_val rfl rfl rfl (by exact rLd (v := .bool _) rfl (by kernel_rfl) rfl (by exact (row_cell1 hI.g4 hgc))) ?_
      refine WL_val rfl rfl rfl (by exact rNotT rfl rfl) ?_
      refine WL_nil ?_
      refine W_cond false rfl ?_
      refine W_skip ?_
      replace hI := hI.d0
      refine W_region ?_
      refine WL_val rfl rfl rfl (by exact rInc rfl rfl rfl (by omega)) ?_
      refine WL_val rfl rfl rfl (by exact rMoveI rfl rfl) ?_
      refine WL_nil ?_
      refine ⟨s.ops.length - (k + 1), by omega, k + 1, A8, c8, rfl, by omega, ?_, ?_⟩
      · rw [hks]; simp only [if_true, List.append_nil]; exact ⟨rfl, rfl, rfl, rfl, rfl, trivial⟩
      · rw [hks]; simp only [if_true, List.append_nil]; exact hI
    | false =>
      rw [hg1] at hgc hks
      refine W_seq ?_
      refine W_region ?_
      refine WL_val rfl rfl rfl (by exact rMoveP rfl rfl) ?_
      refine WL_val rfl rfl rfl (rNilChk rfl rfl) ?_
      refine WL_val rfl rfl rfl (by exact rFldN (off := 3) rfl (by kernel_rfl) rfl) ?_
      refine WL_val rfl rfl rfl (by exact rLd (v := .slice _ _ _) rfl (by kernel_rfl) rfl (by exact hI.c2 rfl)) ?_
      refine WL_val rfl rfl rfl (by exact rMoveI rfl rfl) ?_
      refine WL_val rfl rfl rfl (by exact rIdx0 rfl Tryz.underlying55 (by kernel_rfl) rfl rfl rfl (by omega)) ?_
      refine WL_val rfl rfl rfl (by exact rLd (v := .bool _) rfl (by kernel_rfl) rfl (by exact (row_cell1 hI.g4 hgc))) ?_
      refine WL_val rfl rfl rfl (by exact rNotF rfl rfl) ?_
      refine WL_nil ?_
      refine W_cond true rfl ?_
      refine W_region ?_
      refine WL_val rfl rfl rfl (by exact rMoveS rfl rfl) ?_
      refine WL_val rfl rfl rfl (by exact rLdB (n := 8) rfl (by kernel_rfl) (by kernel_rfl) rfl rfl hI.g0) ?_
      refine WL_lit (vs := [_, _, _, _, _, _, _, _]) (qs := [(0, .agg #[_, _, _, _, _, _, _, _])]) [.int .i64 0, .int .i64 0, .int .i64 0, .int .i64 0, .int .i64 0, .int .i64 0, .int .i64 0, .int .i64 0] [0] hI rfl rfl rfl rfl rfl rfl Tryz.underlying32 (fun _ => by kernel_rfl) ?_
      clear hI; rintro b69 w - - hI
      refine WL_app2 (z := .agg #[.int .i64 0, .int .i64 0, .int .i64 0, .int .i64 0, .int .i64 0, .int .i64 0, .int .i64 0, .int .i64 0]) (by_ := 64) hI rfl rfl rfl rfl rfl rfl Tryz.underlying32 (by kernel_rfl) rfl (by omega) (by rfl) hI.lit0 (by rfl) (by omega) (by omega) (by exact Nat.zero_le _) ?_
      clear hI; rintro A70 c70 w hA70 hc70 hI
      replace hI := hI.d0
      refine WL_val rfl rfl rfl (by exact rAsgnS rfl rfl) ?_
      refine WL_nil ?_
      replace hI : Inv (fun _ => False) w0 w (Row 0 62 8 A70 (((keptF s k).map (oAt s.ops)).length + 1) c70 (((keptF s k).map (oAt s.ops)).flatMap opV ++ opV (oAt s.ops k)) :: prtS b18 (some ⟨bO, 0, none⟩) co b15 b16 (some ⟨bG, 0, none⟩) cg s) := hI.d0
      have hks : (keptF s (k + 1)).map (oAt s.ops) = (keptF s k).map (oAt s.ops) ++ [oAt s.ops k] := by rw [hks]; simp
      refine W_region ?_
      refine WL_val rfl rfl rfl (by exact rInc rfl rfl rfl (by omega)) ?_
      refine WL_val rfl rfl rfl (by exact rMoveI rfl rfl) ?_
      refine WL_nil ?_
      refine ⟨s.ops.length - (k + 1), by omega, k + 1, A70, c70, rfl, by omega, ?_, ?_⟩
      · rw [hks, List.length_append]; exact ⟨rfl, rfl, rfl, rfl, rfl, trivial⟩
      · rw [hks]
        unfold OpsE
        rw [List.length_append, List.flatMap_append, List.flatMap_cons, List.flatMap_nil, List.append_nil]
        exact hI
  clear hI
  rintro ρ w ⟨A8, c8, hH, hI⟩
  obtain ⟨σ, rfl⟩ := hH.open
  refine W_seq ?_
  refine W_region ?_
  refine WL_val rfl rfl rfl (by exact rMoveS rfl rfl) ?_
  refine WL_val rfl rfl rfl (by exact rAsgnS rfl rfl) ?_
  refine WL_val rfl rfl rfl (by exact rAsgnN rfl rfl) ?_
  refine WL_nil ?_
  refine W_ret ?_
  exact ret2 2 3 (.inr rfl) rfl (EvPost.yes hev hI)
end Go.Proofs.YtglioflpblpmpaaGreatDoor
