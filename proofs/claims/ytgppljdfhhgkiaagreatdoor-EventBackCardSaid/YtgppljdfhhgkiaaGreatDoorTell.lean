/- errors.As at a target of api.Errno; api.Tell. -/
import Derived.Test.YtgppljdfhhgkiaaGreatDoorTella
namespace Go.Proofs.YtgppljdfhhgkiaaGreatDoor
open Go Go.Extern
set_option linter.unusedVariables false
set_option linter.unusedSimpArgs false
theorem rlm (z : Sem Value) (f : TypeId → Addr → Nat → Nat → Sem Value) (v : Value) :
    ReflectliteValue.method z f #[v] = (do match ← ReflectliteValue.parts v with | none => z | some (t, a, fl) => f t a fl (fl % 32)) := rfl
theorem x_partsP (a : Addr) (w : World) : (ReflectliteValue.parts (.agg #[hdl 80, .pointer (some a), .int .u64 150])).run Tryz.prog w = .ok (some (80, a, 150)) w := by kernel_rfl
theorem x_isNil (a p : Addr) (W : World) (ha : W.cell? a = some (.pointer (some p))) :
    (callFunc 42 #[.agg #[hdl 80, .pointer (some a), .int .u64 150]]).run Tryz.prog W = .ok (.value (.bool false)) W := by
  rw [@run_callFunc_extern Tryz.prog 42 _ (ReflectliteValue.method (ReflectliteValue.valueError "reflectlite.Value.IsNil" 0) ReflectliteValue.isNil) Tryz.func42 (by kernel_rfl) (by kernel_rfl) (by kernel_rfl) (by kernel_rfl), rlm]
  simp only [Sem.run_bind, x_partsP, Result.andThen]
  simp [ReflectliteValue.isNil, loadVar, isAgg, underlying, Tryz.underlying80, ha, Result.andThen]
theorem x_elemOf (w : World) : (Rtype.elem? 80).run Tryz.prog w = .ok (some 33) w := by kernel_rfl
theorem x_mkE (p : Addr) (w : World) : (ReflectliteValue.mk 33 p ReflectliteValue.flagAddr).run Tryz.prog w = .ok (.agg #[hdl 33, .pointer (some p), .int .u64 386]) w := by kernel_rfl
theorem x_elemV (a p : Addr) (W : World) (ha : W.cell? a = some (.pointer (some p))) :
    (callFunc 60 #[.agg #[hdl 80, .pointer (some a), .int .u64 150]]).run Tryz.prog W = .ok (.value (.agg #[hdl 33, .pointer (some p), .int .u64 386])) W := by
  rw [@run_callFunc_extern Tryz.prog 60 _ (ReflectliteValue.method (ReflectliteValue.valueError "reflectlite.Value.Elem" 0) ReflectliteValue.elem) Tryz.func60 (by kernel_rfl) (by kernel_rfl) (by kernel_rfl) (by kernel_rfl), rlm]
  simp only [Sem.run_bind, x_partsP, Result.andThen]
  simp [ReflectliteValue.elem, loadVar, isAgg, underlying, Tryz.underlying80, ha, Result.andThen, x_elemOf, x_mkE]
theorem rls (v x : Value) : ReflectliteValue.set #[v, x] = (do
    let (some (dst, a, fl), some (src, b, _)) := (← ReflectliteValue.parts v, ← ReflectliteValue.parts x)
      | unsupported (.noEntry "extern/(internal/reflectlite.Value).Set.zeroValue")
    if fl / ReflectliteValue.flagAddr % 2 == 0 then unsupported (.noEntry "extern/(internal/reflectlite.Value).Set.unaddressable")
    let val ← loadVar src b
    if ← Rtype.directlyAssignable dst src then storeVar dst a val
    else if ← Rtype.implements dst src then
      if (← Rtype.kind src) == 20 then
        match val with
        | .nilIface => unsupported (.noEntry "extern/reflectlite: a nil value of one interface type handed on as a value of another")
        | _ => storeVar dst a val
      else storeVar dst a (.iface src val)
    else panicString ("reflectlite.Set: value of type " ++ (← Rtype.spelt src) ++ " is not assignable to type " ++ (← Rtype.spelt dst))
    pure (.tuple #[])) := rfl
theorem x_partsE (a : Addr) (w : World) : (ReflectliteValue.parts (.agg #[hdl 33, .pointer (some a), .int .u64 386])).run Tryz.prog w = .ok (some (33, a, 386)) w := by kernel_rfl
theorem x_partsF (a : Addr) (w : World) : (ReflectliteValue.parts (.agg #[hdl 33, .pointer (some a), .int .u64 130])).run Tryz.prog w = .ok (some (33, a, 130)) w := by kernel_rfl
theorem x_direct (w : World) : (Rtype.directlyAssignable 33 33).run Tryz.prog w = .ok true w := by kernel_rfl
theorem x_set (ta b : Addr) (n : Int) (old : Value) (W : World) (hb : W.cell? b = some (.int .i64 n)) (ht : W.cell? ta = some old) (hf : W.frozen? ta = false) :
    (callFunc 61 #[.agg #[hdl 33, .pointer (some ta), .int .u64 386], .agg #[hdl 33, .pointer (some b), .int .u64 130]]).run Tryz.prog W = .ok (.value (.tuple #[])) (W.setCell ta (.int .i64 n)) := by
  rw [@run_callFunc_extern Tryz.prog 61 _ ReflectliteValue.set Tryz.func61 (by kernel_rfl) (by kernel_rfl) (by kernel_rfl) (by kernel_rfl), rls]
  simp only [Sem.run_bind, x_partsE, x_partsF, Result.andThen]
  simp [ReflectliteValue.flagAddr, loadVar, isAgg, underlying, Tryz.underlying33, hb, Result.andThen, x_direct, storeVar, Value.cells, storeCells, Addr.add]
  rw [_root_.Go.run_store Tryz.prog W ta _ _ (by rfl)]
  simp [ht, hf]
theorem rTA {P : Program} {ρ : Env} {o : Oper} {w : World} {x : Operand} {s d : TypeId} {c : Bool} {u r : Value} (ho : o.op = .typeAssert x s d c) (hx : ev ρ x = u) (hr : (Instr.typeAssert u s d c).run P w = .ok r w) : Runs P ρ o w r := by
  simp [Runs, execOp, ho, hx, hr]
/-- An error of this program: a number, or a number at a place. -/
abbrev patT : Nat := 59
def AtP (w : World) (b o : Nat) (n : Int) : Prop := w.cell? ⟨b, o, none⟩ = some (.int .i64 n)
theorem AtP.cell {w : World} {b o : Nat} {n : Int} (h : AtP w b o n) : w.cell? ⟨b, o, none⟩ = some (.int .i64 n) := h
theorem AtP.keep {w w' : World} {b o : Nat} {n : Int} (_ : AtP w b o n) (h : w'.cell? ⟨b, o, none⟩ = some (.int .i64 n)) : AtP w' b o n := h
def IsE (w : World) (v : Value) (n : Int) : Prop := v = .iface 33 (.int .i64 n) ∨ ∃ b o : Nat, v = .iface patT (.pointer (some ⟨b, o, none⟩)) ∧ AtP w b o n
theorem unwrap_any (b o : Nat) (n : Int) (w0 : World) (h : w0.cell? ⟨b, o, none⟩ = some (.int .i64 n)) : Calls Tryz.prog 105 #[.pointer (some ⟨b, o, none⟩)] w0 fun en w' => en = .returned (.iface 33 (.int .i64 n)) ∧ Pure w0 w' := by
  have hI := Inv.start (fun _ => False) w0
  refine calls_of_W (N := Tryz.f105.ntmps) Tryz.func105 rfl rfl rfl ?_
  refine W_seq ?_
  refine W_region ?_
  refine WL_val rfl rfl rfl (by first | exact rAsgnN rfl rfl | exact rAsgnE rfl rfl | exact rAsgn rfl) ?_
  refine WL_nil ?_
  refine W_seq ?_
  refine W_region ?_
  refine WL_val rfl rfl rfl (by first | exact rMoveP rfl rfl | exact rMove rfl) ?_
  refine WL_val rfl rfl rfl (rNilChk rfl rfl) ?_
  refine WL_val rfl rfl rfl (by first | exact rFldN (off := 0) rfl (by kernel_rfl) rfl | exact rFld0 rfl (by kernel_rfl) rfl) ?_
  refine WL_val rfl rfl rfl (by first | exact rLd (v := .int .i64 _) rfl (by kernel_rfl) rfl (by first | exact hI.c0 rfl | exact hI.c1 rfl | exact hI.c2 rfl | exact hI.c3 rfl | exact hI.c4 rfl | exact hI.c5 rfl | exact hI.oldp h | exact h) | exact rLd rfl (by kernel_rfl) rfl (by first | exact hI.c0 rfl | exact hI.c1 rfl | exact hI.c2 rfl | exact hI.c3 rfl | exact hI.c4 rfl | exact hI.c5 rfl | exact hI.oldp h | exact h)) ?_
  refine WL_val rfl rfl rfl (rIface rfl Tryz.underlying33 rfl rfl) ?_
  refine WL_val rfl rfl rfl (by first | exact rAsgnN rfl rfl | exact rAsgnE rfl rfl | exact rAsgn rfl) ?_
  refine WL_nil ?_
  refine W_ret ?_
  exact ret1 2 (.inr rfl) rfl ⟨rfl, hI.pu⟩
def eμ (v : Value) : Nat := match v with
  | .iface t _ => if t = patT then 1 else 0
  | _ => 0
set_option maxHeartbeats 2000000 in
theorem as1_any (e : Value) (n : Int) (old : Value) (tb a : Nat) (w0 : World) (he : IsE w0 e n) (hB : Blk w0 tb 33 #[old]) (ha : w0.cell? ⟨a, 0, none⟩ = some (.pointer (some ⟨tb, 0, none⟩))) (hne : ∀ b o, e = .iface patT (.pointer (some ⟨b, o, none⟩)) → b ≠ tb) (hat : a ≠ tb) :
    Calls Tryz.prog 43 #[e, .iface 80 (.pointer (some ⟨tb, 0, none⟩)), .agg #[hdl 80, .pointer (some ⟨a, 0, none⟩), .int .u64 150], .iface 131 (.agg #[hdl 33])] w0
      fun en w' => en = .returned (.bool true) ∧ Inv (fun k => k = tb) w0 w' [B tb 33 #[.int .i64 n]] := by
  have hI := Inv.own1 hB
  refine calls_of_W (N := Tryz.f43.ntmps) Tryz.func43 rfl rfl rfl ?_
  refine W_seq ?_
  refine W_region ?_
  refine WL_box (u := .agg _) (vs := _) hI rfl rfl rfl rfl rfl rfl ?_
  clear hI; rintro b6 w - - hI
  refine WL_val rfl rfl rfl (by first | exact rAsgnB rfl rfl | exact rAsgn rfl) ?_
  refine WL_nil ?_
  refine W_block ?_
  refine W_loop (fun ρ w => ∃ e, IsE w0 e n ∧ (∀ b o, e = .iface patT (.pointer (some ⟨b, o, none⟩)) → b ≠ tb) ∧ Has ρ [(0, e), (1, .iface 80 (.pointer (some ⟨tb, 0, none⟩))), (3, .iface 131 (.agg #[hdl 33])), (6, .pointer (some ⟨b6, 0, none⟩))] ∧ Inv (fun k => k = tb) w0 w [B b6 96 #[hdl 80, .pointer (some ⟨a, 0, none⟩), .int .u64 150], B tb 33 #[old]]) (fun ρ _ => eμ (ρ 0))
    ⟨e, he, hne, ⟨rfl, rfl, rfl, rfl, trivial⟩, hI⟩ ?_
  clear hI he hne e
  rintro ρ w ⟨e, he, hne, hH, hI⟩
  obtain ⟨σ, rfl⟩ := hH.open
  refine W_block ?_
  rcases he with rfl | ⟨bb, oo, rfl, hc⟩
  · refine W_seq ?_
    refine W_seq ?_
    refine W_region ?_
    refine WL_val rfl rfl rfl (by first | exact rMoveN rfl rfl | exact rMoveE rfl rfl | exact rMove rfl) ?_
    refine WL_val rfl rfl rfl (rExt rfl rfl (x_typeOf _ _)) ?_
    refine WL_val rfl rfl rfl (by first | exact rMoveN rfl rfl | exact rMoveE rfl rfl | exact rMove rfl) ?_
    refine WL_val rfl rfl rfl (rExtI rfl rfl rfl (x_assign _)) ?_
    refine WL_nil ?_
    refine W_cond true rfl ?_
    refine W_seq ?_
    refine W_region ?_
    refine WL_val rfl rfl rfl (by first | exact rLdB (n := 3) rfl (by kernel_rfl) (by kernel_rfl) rfl rfl hI.g0 | exact rLdB (n := 3) rfl (by kernel_rfl) (by kernel_rfl) rfl rfl hI.g1 | exact rLdB (n := 3) rfl (by kernel_rfl) (by kernel_rfl) rfl rfl hI.g2 | exact rLdB (n := 3) rfl (by kernel_rfl) (by kernel_rfl) rfl rfl hI.g3 | exact rLdB (n := 3) rfl (by kernel_rfl) (by kernel_rfl) rfl rfl hI.g4 | exact rLdB (n := 3) rfl (by kernel_rfl) (by kernel_rfl) rfl rfl hI.g5 | exact rLd3 rfl (by kernel_rfl) (by kernel_rfl) rfl (by first | exact hI.c0 rfl | exact hI.c1 rfl | exact hI.c2 rfl | exact hI.c3 rfl | exact hI.c4 rfl | exact hI.c5 rfl) (by first | exact hI.c0 rfl | exact hI.c1 rfl | exact hI.c2 rfl | exact hI.c3 rfl | exact hI.c4 rfl | exact hI.c5 rfl) (by first | exact hI.c0 rfl | exact hI.c1 rfl | exact hI.c2 rfl | exact hI.c3 rfl | exact hI.c4 rfl | exact hI.c5 rfl)) ?_
    refine WL_val rfl rfl rfl (rExt rfl rfl (x_elemV _ _ _ (hI.old ha hat))) ?_
    refine WL_val rfl rfl rfl (by first | exact rMoveN rfl rfl | exact rMoveE rfl rfl | exact rMove rfl) ?_
    refine WL_xbox (v := fun g => .agg #[hdl 33, .pointer (some ⟨g, 0, none⟩), .int .u64 130]) hI rfl rfl rfl (rExt rfl rfl (x_valueOfE _ _)) ?_
    clear hI; intro bv w hI
    refine WL_eff rfl rfl rfl (rExt rfl rfl (x_set _ _ n old _ (hI.c0 rfl) (hI.c2 rfl) (hI.f2 0))) ?_
    replace hI := hI.s2 0 (.int .i64 n)
    generalize World.setCell _ _ _ = w at hI ⊢
    refine WL_nil ?_
    refine W_seq ?_
    refine W_region ?_
    refine WL_val rfl rfl rfl (by first | exact rAsgnB rfl rfl | exact rAsgn rfl) ?_
    refine WL_nil ?_
    refine W_ret ?_
    exact ret1 8 (.inr rfl) rfl ⟨rfl, hI.d0.d0⟩
  · refine W_seq ?_
    refine W_seq ?_
    refine W_region ?_
    refine WL_val rfl rfl rfl (by first | exact rMoveN rfl rfl | exact rMoveE rfl rfl | exact rMove rfl) ?_
    refine WL_val rfl rfl rfl (rExt rfl rfl (x_typeOfA _ _)) ?_
    refine WL_val rfl rfl rfl (by first | exact rMoveN rfl rfl | exact rMoveE rfl rfl | exact rMove rfl) ?_
    refine WL_val rfl rfl rfl (rExtI rfl rfl rfl (x_noAssign _)) ?_
    refine WL_nil ?_
    refine W_cond false rfl ?_
    refine W_skip ?_
    refine W_seq ?_
    refine W_seq ?_
    refine W_region ?_
    refine WL_val rfl rfl rfl (by first | exact rMoveN rfl rfl | exact rMoveE rfl rfl | exact rMove rfl) ?_
    refine WL_val rfl rfl rfl (rTA rfl rfl (x_noAs _ _)) ?_
    refine WL_val rfl rfl rfl (by first | exact rMoveT rfl rfl | exact rMove rfl) ?_
    refine WL_val rfl rfl rfl (rExtr rfl rfl rfl) ?_
    refine WL_val rfl rfl rfl (rExtr rfl rfl rfl) ?_
    refine WL_val rfl rfl rfl (by first | exact rAsgnN rfl rfl | exact rAsgnE rfl rfl | exact rAsgn rfl) ?_
    refine WL_val rfl rfl rfl (by first | exact rAsgnB rfl rfl | exact rAsgn rfl) ?_
    refine WL_nil ?_
    refine W_seq ?_
    refine W_region ?_
    refine WL_val rfl rfl rfl (by first | exact rMoveB rfl rfl | exact rMove rfl) ?_
    refine WL_val rfl rfl rfl (by first | exact rMoveB rfl rfl | exact rMove rfl) ?_
    first | refine WL_val rfl rfl rfl (by first | exact rMoveN rfl rfl | exact rMoveE rfl rfl | exact rMove rfl) ?_ | refine WL_skip rfl rfl rfl ?_
    first | refine WL_val rfl rfl rfl (by first | exact rMoveN rfl rfl | exact rMoveE rfl rfl | exact rMove rfl) ?_ | refine WL_skip rfl rfl rfl ?_
    refine WL_skip rfl rfl rfl ?_
    refine WL_val rfl rfl rfl (by first | exact rPickTB rfl rfl rfl | exact rPickFB rfl rfl rfl | exact rPickB rfl rfl rfl rfl) ?_
    refine WL_nil ?_
    refine W_cond false rfl ?_
    refine W_skip ?_
    refine W_seq ?_
    refine W_region ?_
    refine WL_val rfl rfl rfl (by first | exact rMoveN rfl rfl | exact rMoveE rfl rfl | exact rMove rfl) ?_
    refine WL_nil ?_
    refine W_block ?_
    refine W_seq ?_
    refine W_region ?_
    refine WL_val rfl rfl rfl (rTA rfl rfl (x_hasUn _ _)) ?_
    refine WL_val rfl rfl rfl (rExtr rfl rfl rfl) ?_
    refine WL_val rfl rfl rfl (rExtr rfl rfl rfl) ?_
    refine WL_nil ?_
    refine W_cond true rfl ?_
    refine W_seq ?_
    refine W_region ?_
    refine WL_val rfl rfl rfl (by first | exact rAsgnN rfl rfl | exact rAsgnE rfl rfl | exact rAsgn rfl) ?_
    refine WL_nil ?_
    refine W_seq ?_
    refine W_region ?_
    refine WL_val rfl rfl rfl (by first | exact rMoveN rfl rfl | exact rMoveE rfl rfl | exact rMove rfl) ?_
    refine WL_call rfl rfl rfl (rCallI (f := 105) (vs := []) rfl rfl rfl (fun _ => x_unwrap _ _)) ?_
    refine (unwrap_any bb oo n _ (hI.old hc.cell (hne bb oo rfl))).mono ?_
    rintro e w1 ⟨rfl, hp⟩
    refine ⟨_, rfl, ?_⟩
    replace hI := hI.pure hp
    refine WL_val rfl rfl rfl (by first | exact rAsgnN rfl rfl | exact rAsgnE rfl rfl | exact rAsgn rfl) ?_
    refine WL_nil ?_
    refine W_seq ?_
    refine W_region ?_
    refine WL_val rfl rfl rfl (by first | exact rMoveN rfl rfl | exact rMoveE rfl rfl | exact rMove rfl) ?_
    refine WL_val rfl rfl rfl (by first | exact rIfaceEq rfl Tryz.underlying24 rfl rfl | exact rNilEq rfl Tryz.underlying24 rfl) ?_
    refine WL_nil ?_
    refine W_cond false rfl ?_
    refine W_skip ?_
    exact ⟨⟨_, .inl rfl, fun b o h => (by injection h with h; exact absurd h (by decide)), ⟨rfl, rfl, rfl, rfl, trivial⟩, hI⟩, by show 0 < 1; omega⟩
set_option maxHeartbeats 2000000 in
/-- errors.As at the address of an api.Errno. hg: what the package variable errors.errorType holds. -/
theorem as0_any (e : Value) (n : Int) (old : Value) (tb : Nat) (w0 : World) (he : IsE w0 e n) (hB : Blk w0 tb 33 #[old]) (hg : w0.cell? ⟨2, 0, none⟩ = some (.iface 131 (.agg #[hdl 24]))) (hne : ∀ b o, e = .iface patT (.pointer (some ⟨b, o, none⟩)) → b ≠ tb) (h0 : 2 ≠ tb) :
    Calls Tryz.prog 32 #[e, .iface 80 (.pointer (some ⟨tb, 0, none⟩))] w0 fun en w' => en = .returned (.bool true) ∧ Inv (fun k => k = tb) w0 w' [B tb 33 #[.int .i64 n]] := by
  have hI := Inv.own1 hB
  have he' : e ≠ .nilIface ∧ ∃ t u, e = .iface t u := by
    rcases he with rfl | ⟨b, o, rfl, _⟩ <;> exact ⟨by simp, _, _, rfl⟩
  obtain ⟨_, t, u, rfl⟩ := he'
  refine calls_of_W (N := Tryz.f32.ntmps) Tryz.func32 rfl rfl rfl ?_
  refine W_seq ?_
  refine W_region ?_
  refine WL_val rfl rfl rfl (by first | exact rAsgnB rfl rfl | exact rAsgn rfl) ?_
  refine WL_nil ?_
  refine W_seq ?_
  refine W_seq ?_
  refine W_region ?_
  refine WL_val rfl rfl rfl (by first | exact rMoveN rfl rfl | exact rMoveE rfl rfl | exact rMove rfl) ?_
  refine WL_val rfl rfl rfl (by first | exact rIfaceEq rfl Tryz.underlying24 rfl rfl | exact rNilEq rfl Tryz.underlying24 rfl) ?_
  refine WL_nil ?_
  refine W_cond false rfl ?_
  refine W_skip ?_
  refine W_seq ?_
  refine W_seq ?_
  refine W_region ?_
  refine WL_val rfl rfl rfl (by first | exact rMoveN rfl rfl | exact rMoveE rfl rfl | exact rMove rfl) ?_
  refine WL_val rfl rfl rfl (by first | exact rIfaceEq rfl Tryz.underlying20 rfl rfl | exact rNilEq rfl Tryz.underlying20 rfl) ?_
  refine WL_nil ?_
  refine W_cond false rfl ?_
  refine W_skip ?_
  refine W_seq ?_
  refine W_region ?_
  refine WL_val rfl rfl rfl (by first | exact rMoveN rfl rfl | exact rMoveE rfl rfl | exact rMove rfl) ?_
  refine WL_xbox (v := fun g => .agg #[hdl 80, .pointer (some ⟨g, 0, none⟩), .int .u64 150]) hI rfl rfl rfl (rExt rfl rfl (x_valueOfT _ _)) ?_
  clear hI; intro bv w hI
  refine WL_alloc (u := .agg #[.pointer none, .pointer none, .int .u64 0]) (vs := #[.pointer none, .pointer none, .int .u64 0]) hI rfl rfl rfl rfl (by kernel_rfl) rfl ?_
  clear hI; rintro b5 w - - hI
  first | refine WL_stw0 (u := .agg _) (vs := _) (n := 3) hI rfl rfl rfl rfl rfl rfl (by kernel_rfl) (by first | rfl | (simp only [i64s, Value.cells, List.size_toArray, List.length_map]; omega)) (by first | rfl | (simp only [i64s, Value.cells, List.size_toArray, List.length_map]; omega)) (by first | rfl | simp [i64s, Value.cells, Value.oneCell']) ?_ | refine WL_stw1 (u := .agg _) (vs := _) (n := 3) hI rfl rfl rfl rfl rfl rfl (by kernel_rfl) (by first | rfl | (simp only [i64s, Value.cells, List.size_toArray, List.length_map]; omega)) (by first | rfl | (simp only [i64s, Value.cells, List.size_toArray, List.length_map]; omega)) (by first | rfl | simp [i64s, Value.cells, Value.oneCell']) ?_ | refine WL_stw2 (u := .agg _) (vs := _) (n := 3) hI rfl rfl rfl rfl rfl rfl (by kernel_rfl) (by first | rfl | (simp only [i64s, Value.cells, List.size_toArray, List.length_map]; omega)) (by first | rfl | (simp only [i64s, Value.cells, List.size_toArray, List.length_map]; omega)) (by first | rfl | simp [i64s, Value.cells, Value.oneCell']) ?_ | refine WL_stw3 (u := .agg _) (vs := _) (n := 3) hI rfl rfl rfl rfl rfl rfl (by kernel_rfl) (by first | rfl | (simp only [i64s, Value.cells, List.size_toArray, List.length_map]; omega)) (by first | rfl | (simp only [i64s, Value.cells, List.size_toArray, List.length_map]; omega)) (by first | rfl | simp [i64s, Value.cells, Value.oneCell']) ?_ | refine WL_stw4 (u := .agg _) (vs := _) (n := 3) hI rfl rfl rfl rfl rfl rfl (by kernel_rfl) (by first | rfl | (simp only [i64s, Value.cells, List.size_toArray, List.length_map]; omega)) (by first | rfl | (simp only [i64s, Value.cells, List.size_toArray, List.length_map]; omega)) (by first | rfl | simp [i64s, Value.cells, Value.oneCell']) ?_ | refine WL_stw5 (u := .agg _) (vs := _) (n := 3) hI rfl rfl rfl rfl rfl rfl (by kernel_rfl) (by first | rfl | (simp only [i64s, Value.cells, List.size_toArray, List.length_map]; omega)) (by first | rfl | (simp only [i64s, Value.cells, List.size_toArray, List.length_map]; omega)) (by first | rfl | simp [i64s, Value.cells, Value.oneCell']) ?_
  clear hI; intro w hI
  refine WL_nil ?_
  refine W_seq ?_
  refine W_region ?_
  refine WL_val rfl rfl rfl (by first | exact rLdB (n := 3) rfl (by kernel_rfl) (by kernel_rfl) rfl rfl hI.g0 | exact rLdB (n := 3) rfl (by kernel_rfl) (by kernel_rfl) rfl rfl hI.g1 | exact rLdB (n := 3) rfl (by kernel_rfl) (by kernel_rfl) rfl rfl hI.g2 | exact rLdB (n := 3) rfl (by kernel_rfl) (by kernel_rfl) rfl rfl hI.g3 | exact rLdB (n := 3) rfl (by kernel_rfl) (by kernel_rfl) rfl rfl hI.g4 | exact rLdB (n := 3) rfl (by kernel_rfl) (by kernel_rfl) rfl rfl hI.g5 | exact rLd3 rfl (by kernel_rfl) (by kernel_rfl) rfl (by first | exact hI.c0 rfl | exact hI.c1 rfl | exact hI.c2 rfl | exact hI.c3 rfl | exact hI.c4 rfl | exact hI.c5 rfl) (by first | exact hI.c0 rfl | exact hI.c1 rfl | exact hI.c2 rfl | exact hI.c3 rfl | exact hI.c4 rfl | exact hI.c5 rfl) (by first | exact hI.c0 rfl | exact hI.c1 rfl | exact hI.c2 rfl | exact hI.c3 rfl | exact hI.c4 rfl | exact hI.c5 rfl)) ?_
  refine WL_val rfl rfl rfl (rExt rfl rfl (x_type _ _)) ?_
  refine WL_val rfl rfl rfl (by first | exact rAsgnN rfl rfl | exact rAsgnE rfl rfl | exact rAsgn rfl) ?_
  refine WL_nil ?_
  refine W_seq ?_
  refine W_seq ?_
  refine W_region ?_
  refine WL_val rfl rfl rfl (by first | exact rMoveN rfl rfl | exact rMoveE rfl rfl | exact rMove rfl) ?_
  refine WL_val rfl rfl rfl (rExtI rfl rfl rfl (x_kindP _)) ?_
  refine WL_val rfl rfl rfl (by first | exact rNeqT rfl rfl rfl (by omega) | exact rNeqF rfl rfl rfl (by omega) | exact rNeq rfl rfl rfl) ?_
  refine WL_val rfl rfl rfl (by first | exact rMoveB rfl rfl | exact rMove rfl) ?_
  first | refine WL_val rfl rfl rfl (by first | exact rLdB (n := 3) rfl (by kernel_rfl) (by kernel_rfl) rfl rfl hI.g0 | exact rLdB (n := 3) rfl (by kernel_rfl) (by kernel_rfl) rfl rfl hI.g1 | exact rLdB (n := 3) rfl (by kernel_rfl) (by kernel_rfl) rfl rfl hI.g2 | exact rLdB (n := 3) rfl (by kernel_rfl) (by kernel_rfl) rfl rfl hI.g3 | exact rLdB (n := 3) rfl (by kernel_rfl) (by kernel_rfl) rfl rfl hI.g4 | exact rLdB (n := 3) rfl (by kernel_rfl) (by kernel_rfl) rfl rfl hI.g5 | exact rLd3 rfl (by kernel_rfl) (by kernel_rfl) rfl (by first | exact hI.c0 rfl | exact hI.c1 rfl | exact hI.c2 rfl | exact hI.c3 rfl | exact hI.c4 rfl | exact hI.c5 rfl) (by first | exact hI.c0 rfl | exact hI.c1 rfl | exact hI.c2 rfl | exact hI.c3 rfl | exact hI.c4 rfl | exact hI.c5 rfl) (by first | exact hI.c0 rfl | exact hI.c1 rfl | exact hI.c2 rfl | exact hI.c3 rfl | exact hI.c4 rfl | exact hI.c5 rfl)) ?_ | refine WL_skip rfl rfl rfl ?_
  first | refine WL_val rfl rfl rfl (rExt rfl rfl (x_isNil _ _ _ (hI.c1 rfl))) ?_ | refine WL_skip rfl rfl rfl ?_
  refine WL_val rfl rfl rfl (by first | exact rPickTB rfl rfl rfl | exact rPickFB rfl rfl rfl | exact rPickB rfl rfl rfl rfl) ?_
  refine WL_nil ?_
  refine W_cond false rfl ?_
  refine W_skip ?_
  refine W_seq ?_
  refine W_region ?_
  refine WL_val rfl rfl rfl (by first | exact rMoveN rfl rfl | exact rMoveE rfl rfl | exact rMove rfl) ?_
  refine WL_val rfl rfl rfl (rExtI rfl rfl rfl (x_elemT _)) ?_
  refine WL_val rfl rfl rfl (by first | exact rAsgnN rfl rfl | exact rAsgnE rfl rfl | exact rAsgn rfl) ?_
  refine WL_nil ?_
  refine W_seq ?_
  refine W_seq ?_
  refine W_region ?_
  refine WL_val rfl rfl rfl (by first | exact rMoveN rfl rfl | exact rMoveE rfl rfl | exact rMove rfl) ?_
  refine WL_val rfl rfl rfl (rExtI rfl rfl rfl (x_kindE _)) ?_
  refine WL_val rfl rfl rfl (by first | exact rNeqT rfl rfl rfl (by omega) | exact rNeqF rfl rfl rfl (by omega) | exact rNeq rfl rfl rfl) ?_
  refine WL_val rfl rfl rfl (by first | exact rMoveB rfl rfl | exact rMove rfl) ?_
  first | refine WL_val rfl rfl rfl (by first | exact rMoveN rfl rfl | exact rMoveE rfl rfl | exact rMove rfl) ?_ | refine WL_skip rfl rfl rfl ?_
  first | refine WL_val rfl rfl rfl (rLd rfl (by kernel_rfl) rfl (hI.old hg h0)) ?_ | refine WL_skip rfl rfl rfl ?_
  first | refine WL_val rfl rfl rfl (rExtI rfl rfl rfl (x_impl _)) ?_ | refine WL_skip rfl rfl rfl ?_
  first | refine WL_val rfl rfl rfl (by first | exact rNotT rfl rfl | exact rNotF rfl rfl | exact rNot rfl rfl) ?_ | refine WL_skip rfl rfl rfl ?_
  refine WL_val rfl rfl rfl (by first | exact rPickTB rfl rfl rfl | exact rPickFB rfl rfl rfl | exact rPickB rfl rfl rfl rfl) ?_
  refine WL_nil ?_
  refine W_cond false rfl ?_
  refine W_skip ?_
  refine W_seq ?_
  refine W_region ?_
  refine WL_val rfl rfl rfl (by first | exact rMoveN rfl rfl | exact rMoveE rfl rfl | exact rMove rfl) ?_
  refine WL_val rfl rfl rfl (by first | exact rMoveN rfl rfl | exact rMoveE rfl rfl | exact rMove rfl) ?_
  refine WL_val rfl rfl rfl (by first | exact rLdB (n := 3) rfl (by kernel_rfl) (by kernel_rfl) rfl rfl hI.g0 | exact rLdB (n := 3) rfl (by kernel_rfl) (by kernel_rfl) rfl rfl hI.g1 | exact rLdB (n := 3) rfl (by kernel_rfl) (by kernel_rfl) rfl rfl hI.g2 | exact rLdB (n := 3) rfl (by kernel_rfl) (by kernel_rfl) rfl rfl hI.g3 | exact rLdB (n := 3) rfl (by kernel_rfl) (by kernel_rfl) rfl rfl hI.g4 | exact rLdB (n := 3) rfl (by kernel_rfl) (by kernel_rfl) rfl rfl hI.g5 | exact rLd3 rfl (by kernel_rfl) (by kernel_rfl) rfl (by first | exact hI.c0 rfl | exact hI.c1 rfl | exact hI.c2 rfl | exact hI.c3 rfl | exact hI.c4 rfl | exact hI.c5 rfl) (by first | exact hI.c0 rfl | exact hI.c1 rfl | exact hI.c2 rfl | exact hI.c3 rfl | exact hI.c4 rfl | exact hI.c5 rfl) (by first | exact hI.c0 rfl | exact hI.c1 rfl | exact hI.c2 rfl | exact hI.c3 rfl | exact hI.c4 rfl | exact hI.c5 rfl)) ?_
  refine WL_val rfl rfl rfl (by first | exact rMoveN rfl rfl | exact rMoveE rfl rfl | exact rMove rfl) ?_
  refine WL_call rfl rfl rfl (rCall (vs := [_, _, .agg _, _]) rfl Tryz.func43 rfl rfl rfl) ?_
  refine (as1_any (.iface t u) n old tb bv _ ?_ hI.g2 (hI.c1 rfl) hne ?_).mono ?_
  · rcases he with he | ⟨b, o, he, hc⟩
    · exact .inl he
    · exact .inr ⟨b, o, he, hc.keep (hI.old hc.cell (hne b o he))⟩
  · exact fun e => hI.disj (i := 1) (j := 2) rfl rfl (by decide) bv rfl e
  rintro e w1 ⟨rfl, hJ⟩
  refine ⟨_, rfl, ?_⟩
  have hI' : Inv (fun k => k = tb) w0 w1 [B tb 33 #[.int .i64 n]] := ⟨hI.chg.trans' hJ.chg (fun k _ hk => hk), hJ.ok, fun e he k hk => by rcases List.mem_singleton.1 he with rfl; exact .inl hk, hJ.apart⟩
  clear hI
  have hI := hI'
  refine WL_val rfl rfl rfl (by first | exact rAsgnB rfl rfl | exact rAsgn rfl) ?_
  refine WL_nil ?_
  refine W_ret ?_
  exact ret1 4 (.inr rfl) rfl ⟨rfl, hI⟩
theorem IsE.pure {w w' : World} {e : Value} {n : Int} (h : IsE w e n) (hp : Pure w w') : IsE w' e n := by
  rcases h with h | ⟨b, o, h, hc⟩
  · exact .inl h
  · exact .inr ⟨b, o, h, hc.keep ((Inv.start (fun _ => False) w |>.pure hp).oldp hc.cell)⟩
theorem tell_nil (w0 : World) : Calls Tryz.prog 19 #[.nilIface] w0 fun en w' => en = .returned (.int .i64 0) ∧ Pure w0 w' := by
  have hI := Inv.start (fun _ => False) w0
  refine calls_of_W (N := Tryz.f19.ntmps) Tryz.func19 rfl rfl rfl ?_
  refine W_seq ?_
  refine W_region ?_
  refine WL_val rfl rfl rfl (by first | exact rAsgnI rfl rfl | exact rAsgn rfl) ?_
  refine WL_nil ?_
  refine W_seq ?_
  refine W_seq ?_
  refine W_region ?_
  refine WL_val rfl rfl rfl (by first | exact rMoveN rfl rfl | exact rMoveE rfl rfl | exact rMove rfl) ?_
  refine WL_val rfl rfl rfl (by first | exact rIfaceEq rfl Tryz.underlying24 rfl rfl | exact rNilEq rfl Tryz.underlying24 rfl) ?_
  refine WL_nil ?_
  refine W_cond true rfl ?_
  refine W_seq ?_
  refine W_region ?_
  refine WL_val rfl rfl rfl (by first | exact rAsgnI rfl rfl | exact rAsgn rfl) ?_
  refine WL_nil ?_
  refine W_ret ?_
  exact ret1 2 (.inr rfl) rfl ⟨rfl, hI.pu⟩
set_option maxHeartbeats 2000000 in
theorem tell_any (e : Value) (n : Int) (w0 : World) (he : IsE w0 e n) (hg : w0.cell? ⟨2, 0, none⟩ = some (.iface 131 (.agg #[hdl 24]))) :
    Calls Tryz.prog 19 #[e] w0 fun en w' => en = .returned (.int .i64 n) ∧ Pure w0 w' := by
  have hI := Inv.start (fun _ => False) w0
  have he' : ∃ t u, e = .iface t u := by
    rcases he with rfl | ⟨b, o, rfl, _⟩ <;> exact ⟨_, _, rfl⟩
  obtain ⟨t, u, rfl⟩ := he'
  refine calls_of_W (N := Tryz.f19.ntmps) Tryz.func19 rfl rfl rfl ?_
  refine W_seq ?_
  refine W_region ?_
  refine WL_val rfl rfl rfl (by first | exact rAsgnI rfl rfl | exact rAsgn rfl) ?_
  refine WL_nil ?_
  refine W_seq ?_
  refine W_seq ?_
  refine W_region ?_
  refine WL_val rfl rfl rfl (by first | exact rMoveN rfl rfl | exact rMoveE rfl rfl | exact rMove rfl) ?_
  refine WL_val rfl rfl rfl (by first | exact rIfaceEq rfl Tryz.underlying24 rfl rfl | exact rNilEq rfl Tryz.underlying24 rfl) ?_
  refine WL_nil ?_
  refine W_cond false rfl ?_
  refine W_skip ?_
  refine W_seq ?_
  refine W_region ?_
  refine WL_alloc (u := .int .i64 0) (vs := #[.int .i64 0]) hI rfl rfl rfl rfl (by kernel_rfl) rfl ?_
  clear hI; rintro b3 w - - hI
  refine WL_nil ?_
  have hnew : w0.heap.size ≤ b3 := (hI.own _ (List.mem_singleton.2 rfl) b3 rfl).resolve_left (fun h => h)
  have hlt0 : 2 < w0.heap.size := World.block_lt_of_cell? w0 _ hg
  refine W_seq ?_
  refine W_seq ?_
  refine W_region ?_
  refine WL_val rfl rfl rfl (by first | exact rMoveN rfl rfl | exact rMoveE rfl rfl | exact rMove rfl) ?_
  refine WL_val rfl rfl rfl (rIface rfl Tryz.underlying80 rfl rfl) ?_
  refine WL_call rfl rfl rfl (rCall (vs := [_, _]) rfl Tryz.func32 rfl rfl rfl) ?_
  refine (as0_any (.iface t u) n _ b3 _ (he.pure hI.pu) hI.g0 (hI.oldp hg) ?_ (by omega)).mono ?_
  · intro b o h hb
    rcases he with he | ⟨b', o', he, hc⟩
    · rw [he] at h
      injection h with h
      exact absurd h (by decide)
    · rw [he] at h
      injection h with _ h
      injection h with h
      injection h with h
      injection h with h _
      have := World.block_lt_of_cell? w0 _ hc.cell
      simp only at this
      omega
  rintro e w1 ⟨rfl, hJ⟩
  refine ⟨_, rfl, ?_⟩
  have hI' : Inv (fun _ => False) w0 w1 [B b3 33 #[.int .i64 n]] := ⟨hI.chg.trans' hJ.chg (fun k hk e => by subst e; omega), hJ.ok, fun e he k hk => by rcases List.mem_singleton.1 he with rfl; have : k = b3 := hk; exact .inr (by omega), hJ.apart⟩
  clear hI
  have hI := hI'
  refine WL_nil ?_
  refine W_cond true rfl ?_
  refine W_seq ?_
  refine W_region ?_
  refine WL_val rfl rfl rfl (by first | exact rLd (v := .int .i64 _) rfl (by kernel_rfl) rfl (by first | exact hI.c0 rfl | exact hI.c1 rfl | exact hI.c2 rfl | exact hI.c3 rfl | exact hI.c4 rfl | exact hI.c5 rfl) | exact rLd rfl (by kernel_rfl) rfl (by first | exact hI.c0 rfl | exact hI.c1 rfl | exact hI.c2 rfl | exact hI.c3 rfl | exact hI.c4 rfl | exact hI.c5 rfl)) ?_
  refine WL_val rfl rfl rfl (by first | exact rAsgnI rfl rfl | exact rAsgn rfl) ?_
  refine WL_nil ?_
  refine W_ret ?_
  exact ret1 2 (.inr rfl) rfl ⟨rfl, hI.pu⟩
end Go.Proofs.YtgppljdfhhgkiaaGreatDoor
