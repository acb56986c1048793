/- Part of the proof that a desk answers in pieces. -/
import Derived.Test.YtnckdmogdehnoaaGreatDoorPA
import Derived.Test.YtnckdmogdehnoaaGreatDoorSxA
import Derived.Test.YtnckdmogdehnoaaGreatDoorProg
import Derived.Laws.Externs
import Derived.Stop.Asserts
set_option maxHeartbeats 2000000
set_option linter.unusedVariables false
set_option linter.unusedSimpArgs false
namespace Go.Proofs.YtnckdmogdehnoaaGreatDoor
open Tryz
open Go Go.Extern
variable {n : Int} {w : World}
abbrev hdl (t : Nat) : Value := .pointer (some ⟨13, t, none⟩)
section
variable {P : Program} {ρ : Env} {o : Oper} {w w' : World} {x y z : Operand} {v : Value} {t t' : TypeId}
theorem rExt {f : FuncId} {bs : List Operand} {ts : Array TypeId} {vs : List Value} (ho : o.op = .call { callee := .value (.func f), args := bs.toArray, argTypes := ts }) (hv : bs.map (ev ρ) = vs) (hc : (callFunc f vs.toArray).run P w = .ok (.value v) w') : (execOp (ev ρ) o).run P w = .ok (.value v) w' := by
 simp [execOp, ho, resolve, ev, Deferred.ofValue, invoke, hv, hc]
theorem rExtI {name : String} {bs : List Operand} {ts : Array TypeId} {vs : List Value} {u : Value} (ho : o.op = .call { callee := .invoke x name, args := bs.toArray, argTypes := ts }) (hx : ev ρ x = .iface t u) (hv : bs.map (ev ρ) = vs) (hc : (callMethod (.iface t u) name vs.toArray).run P w = .ok (.value v) w') : (execOp (ev ρ) o).run P w = .ok (.value v) w' := by
 simp [execOp, ho, resolve, invoke, hx, hv, Array.extract_append, hc]
end
section
variable {P : Program} {N : Nat} {ops : Array Oper} {Q : XPost} {rest : List Oper} {ρ : Env} {o : Oper} {w0 w : World} {S : Nat → Prop} {H : List Ent} {d t : Nat} {cs : Array Value}
theorem WL_xbox {v : Nat → Value} (hI : Inv S w0 w H) (hw : wantedR ops ρ o = true) (hd : o.dst = some d) (hN : Nat.blt d N = true) (hr : (execOp (ev ρ) o).run P w = .ok (.value (v w.heap.size)) (w.alloc (.cells cs t)))
  (h : ∀ g w', Inv S w0 w' (B g t cs :: H) → WL P N ops Q rest (upd ρ d (v g)) w') : WL P N ops Q (o :: rest) ρ w :=
 WL_eff hw hd hN hr (h _ _ (hI.box t cs))
end
theorem x_valueOfT (a : Addr) (w : World) : (callFunc 49 #[.iface 64 (.pointer (some a))]).run prog w = .ok (.value (.agg #[hdl 64, .pointer (some ⟨w.heap.size, 0, none⟩), .int .u64 150])) (w.alloc (.cells #[.pointer (some a)] 64)) := by kernel_rfl
theorem x_type (a : Addr) (w : World) : (callFunc 50 #[.agg #[hdl 64, .pointer (some a), .int .u64 150]]).run prog w = .ok (.value (.iface 132 (.agg #[hdl 64]))) w := by kernel_rfl
theorem x_kindP (w : World) : (callMethod (.iface 132 (.agg #[hdl 64])) "Kind" #[]).run prog w = .ok (.value (.int .u8 22)) w := by kernel_rfl
theorem x_elemT (w : World) : (callMethod (.iface 132 (.agg #[hdl 64])) "Elem" #[]).run prog w = .ok (.value (.iface 132 (.agg #[hdl 49]))) w := by kernel_rfl
theorem x_kindE (w : World) : (callMethod (.iface 132 (.agg #[hdl 49])) "Kind" #[]).run prog w = .ok (.value (.int .u8 2)) w := by kernel_rfl
theorem x_impl (w : World) : (callMethod (.iface 132 (.agg #[hdl 49])) "Implements" #[.iface 132 (.agg #[hdl 37])]).run prog w = .ok (.value (.bool true)) w := by kernel_rfl
theorem x_typeOf (v : Value) (w : World) : (callFunc 82 #[.iface 49 v]).run prog w = .ok (.value (.iface 132 (.agg #[hdl 49]))) w := by kernel_rfl
theorem x_assign (w : World) : (callMethod (.iface 132 (.agg #[hdl 49])) "AssignableTo" #[.iface 132 (.agg #[hdl 49])]).run prog w = .ok (.value (.bool true)) w := by kernel_rfl
theorem x_valueOfE (n : Int) (w : World) : (callFunc 49 #[.iface 49 (.int .i64 n)]).run prog w = .ok (.value (.agg #[hdl 49, .pointer (some ⟨w.heap.size, 0, none⟩), .int .u64 130])) (w.alloc (.cells #[.int .i64 n] 49)) := by kernel_rfl
theorem x_noAs (p : Value) (w : World) : (Instr.typeAssert (.iface 199 p) 37 137 true).run prog w = .ok (.tuple #[.nilIface, .bool false]) w := _root_.Go.run_typeAssert_lacksB underlying137 (by kernel_rfl) (by kernel_rfl) p 37 w
theorem x_hasUn (p : Value) (w : World) : (Instr.typeAssert (.iface 199 p) 37 140 true).run prog w = .ok (.tuple #[.iface 199 p, .bool true]) w := by kernel_rfl
theorem x_typeOfA (p : Value) (w : World) : (callFunc 82 #[.iface 199 p]).run prog w = .ok (.value (.iface 132 (.agg #[hdl 199]))) w := by kernel_rfl
theorem x_noAssign (w : World) : (callMethod (.iface 132 (.agg #[hdl 199])) "AssignableTo" #[.iface 132 (.agg #[hdl 49])]).run prog w = .ok (.value (.bool false)) w := by kernel_rfl
theorem x_unwrap (p : Value) (w : World) : (callMethod (.iface 199 p) "Unwrap" #[]).run prog w = .ok (.enter 256 #[p]) w := by kernel_rfl
theorem rlm (z : Sem Value) (f : TypeId → Addr → Nat → Nat → Sem Value) (v : Value) :
  ReflectliteValue.method z f #[v] = (do match ← ReflectliteValue.parts v with | none => z | some (t, a, fl) => f t a fl (fl % 32)) := rfl
theorem x_partsP (a : Addr) (w : World) : (ReflectliteValue.parts (.agg #[hdl 64, .pointer (some a), .int .u64 150])).run prog w = .ok (some (64, a, 150)) w := by kernel_rfl
theorem x_isNil (a p : Addr) (W : World) (ha : W.cell? a = some (.pointer (some p))) :
  (callFunc 51 #[.agg #[hdl 64, .pointer (some a), .int .u64 150]]).run prog W = .ok (.value (.bool false)) W := by
 rw [@run_callFunc_extern prog 51 _ (ReflectliteValue.method (ReflectliteValue.valueError "reflectlite.Value.IsNil" 0) ReflectliteValue.isNil) func51 (by kernel_rfl) (by kernel_rfl) (by kernel_rfl) (by kernel_rfl), rlm]
 simp only [Sem.run_bind, x_partsP, Result.andThen]
 simp [ReflectliteValue.isNil, loadVar, isAgg, underlying, underlying64, ha, Result.andThen]
theorem x_elemOf (w : World) : (Rtype.elem? 64).run prog w = .ok (some 49) w := by kernel_rfl
theorem x_mkE (p : Addr) (w : World) : (ReflectliteValue.mk 49 p ReflectliteValue.flagAddr).run prog w = .ok (.agg #[hdl 49, .pointer (some p), .int .u64 386]) w := by kernel_rfl
theorem x_elemV (a p : Addr) (W : World) (ha : W.cell? a = some (.pointer (some p))) :
  (callFunc 83 #[.agg #[hdl 64, .pointer (some a), .int .u64 150]]).run prog W = .ok (.value (.agg #[hdl 49, .pointer (some p), .int .u64 386])) W := by
 rw [@run_callFunc_extern prog 83 _ (ReflectliteValue.method (ReflectliteValue.valueError "reflectlite.Value.Elem" 0) ReflectliteValue.elem) func83 (by kernel_rfl) (by kernel_rfl) (by kernel_rfl) (by kernel_rfl), rlm]
 simp only [Sem.run_bind, x_partsP, Result.andThen]
 simp [ReflectliteValue.elem, loadVar, isAgg, underlying, underlying64, ha, Result.andThen, x_elemOf, x_mkE]
theorem rls (v x : Value) : ReflectliteValue.set #[v, x] = (do
  let (some (dst, a, fl), some (src, b, _)) := (← ReflectliteValue.parts v, ← ReflectliteValue.parts x)
   | unsupported (.noEntry "extern/(internal/reflectlite.Value).Set.zeroValue")
  if fl / ReflectliteValue.flagAddr % 2 == 0 then unsupported (.noEntry "extern/(internal/reflectlite.Value).Set.unaddressable")
  let val ← loadVar src b
  if ← Rtype.directlyAssignable dst src then storeVar dst a val
  else if ← Rtype.implements dst src then
   if (← Rtype.kind src) == 20 then
    match val with
    | .nilIface => unsupported (.noEntry "extern/reflectlite: a nil value of one interface type handed on as a value of another")
    | _ => storeVar dst a val
   else storeVar dst a (.iface src val)
  else panicString ("reflectlite.Set: value of type " ++ (← Rtype.spelt src) ++ " is not assignable to type " ++ (← Rtype.spelt dst))
  pure (.tuple #[])) := rfl
theorem x_partsE (a : Addr) (w : World) : (ReflectliteValue.parts (.agg #[hdl 49, .pointer (some a), .int .u64 386])).run prog w = .ok (some (49, a, 386)) w := by kernel_rfl
theorem x_partsF (a : Addr) (w : World) : (ReflectliteValue.parts (.agg #[hdl 49, .pointer (some a), .int .u64 130])).run prog w = .ok (some (49, a, 130)) w := by kernel_rfl
theorem x_direct (w : World) : (Rtype.directlyAssignable 49 49).run prog w = .ok true w := by kernel_rfl
theorem x_set (ta b : Addr) (n : Int) (old : Value) (W : World) (hb : W.cell? b = some (.int .i64 n)) (ht : W.cell? ta = some old) (hf : W.frozen? ta = false) :
  (callFunc 84 #[.agg #[hdl 49, .pointer (some ta), .int .u64 386], .agg #[hdl 49, .pointer (some b), .int .u64 130]]).run prog W = .ok (.value (.tuple #[])) (W.setCell ta (.int .i64 n)) := by
 rw [@run_callFunc_extern prog 84 _ ReflectliteValue.set func84 (by kernel_rfl) (by kernel_rfl) (by kernel_rfl) (by kernel_rfl), rls]
 simp only [Sem.run_bind, x_partsE, x_partsF, Result.andThen]
 simp [ReflectliteValue.flagAddr, loadVar, isAgg, underlying, yy49, hb, Result.andThen, x_direct, storeVar, Value.cells, storeCells, Addr.add]
 rw [_root_.Go.run_store prog W ta _ _ (by rfl)]
 simp [ht, hf]
theorem rTA {P : Program} {ρ : Env} {o : Oper} {x : Operand} {s d : TypeId} {c : Bool} {u r : Value} (ho : o.op = .typeAssert x s d c) (hx : ev ρ x = u) (hr : (Instr.typeAssert u s d c).run P w = .ok r w) : Runs P ρ o w r := by
 simp [Runs, execOp, ho, hx, hr]
abbrev patT : Nat := 199
def AtP (w : World) (b o : Nat) (n : Int) : Prop := w.cell? ⟨b, o, none⟩ = some (.int .i64 n)
theorem AtP.cell {b o : Nat} (h : AtP w b o n) : w.cell? ⟨b, o, none⟩ = some (.int .i64 n) := h
theorem AtP.keep {w' : World} {b o : Nat} (_ : AtP w b o n) (h : w'.cell? ⟨b, o, none⟩ = some (.int .i64 n)) : AtP w' b o n := h
def IsE (w : World) (v : Value) (n : Int) : Prop := v = .iface 49 (.int .i64 n) ∨ ∃ b o : Nat, v = .iface patT (.pointer (some ⟨b, o, none⟩)) ∧ AtP w b o n
theorem unwrap_any (b o : Nat) (n : Int) (w0 : World) (h : w0.cell? ⟨b, o, none⟩ = some (.int .i64 n)) : Cq 256 #[.pointer (some ⟨b, o, none⟩)] w0 fun en w' => en = .returned (.iface 49 (.int .i64 n)) ∧ Pure w0 w' := by
 have hI := Inv.start (fun _ => False) w0
 exact Vm func256 Z (Wq (Vw Z (Wn (Wq (T1 Z (Tj Z (Wv Z (by exact rFld0 rfl (by kernel_rfl) rfl) (V6 (Y _) Z (hI.oldp h) (T0 Z yy49 Z (Vt Z (Wn (WR (r1_ 2 Z ⟨Z, hI.pu⟩)))))))))))))
def eμ (v : Value) : Nat := match v with
 | .iface t _ => if t = patT then 1 else 0
 | _ => 0
theorem as1_any (e : Value) (n : Int) (old : Value) (tb a : Nat) (w0 : World) (he : IsE w0 e n) (hB : Blk w0 tb 49 #[old]) (ha : w0.cell? ⟨a, 0, none⟩ = some (.pointer (some ⟨tb, 0, none⟩))) (hne : ∀ b o, e = .iface patT (.pointer (some ⟨b, o, none⟩)) → b ≠ tb) (hat : a ≠ tb) :
  Cq 52 #[e, .iface 64 (.pointer (some ⟨tb, 0, none⟩)), .agg #[hdl 64, .pointer (some ⟨a, 0, none⟩), .int .u64 150], .iface 132 (.agg #[hdl 49])] w0
   fun en w' => en = .returned (.bool true) ∧ Inv (fun k => k = tb) w0 w' [B tb 49 #[.int .i64 n]] := by
 have hI := Inv.own1 hB
 refine Vm func52 Z ?_
 refine Wq (Tq (.agg _) _ hI Z ?_)
 rintro b6 w - - hI
 refine Vc Z (Wn (Wb ?_))
 refine W_loop (fun ρ w => ∃ e, IsE w0 e n ∧ (∀ b o, e = .iface patT (.pointer (some ⟨b, o, none⟩)) → b ≠ tb) ∧ Has ρ [(0, e), (1, .iface 64 (.pointer (some ⟨tb, 0, none⟩))), (3, .iface 132 (.agg #[hdl 49])), (6, .pointer (some ⟨b6, 0, none⟩))] ∧ Inv (fun k => k = tb) w0 w [B b6 76 #[hdl 64, .pointer (some ⟨a, 0, none⟩), .int .u64 150], B tb 49 #[old]]) (fun ρ _ => eμ (ρ 0))
  ⟨e, he, hne, ⟨rfl, rfl, rfl, rfl, trivial⟩, hI⟩ ?_
 clear hI he hne e
 rintro ρ w ⟨e, he, hne, hH, hI⟩
 obtain ⟨σ, rfl⟩ := hH.open
 refine Wb ?_
 rcases he with rfl | ⟨bb, oo, rfl, hc⟩
 ·refine Ws (Wq (Vy Z ?_))
  refine Wv Z (rExt Z Z (x_typeOf _ _)) ?_
  refine Vy Z ?_
  refine Wv Z (rExtI Z Z Z (x_assign _)) ?_
  refine Wn (Wc true Z (Wq (Tt 3 Z hI.g0 ?_)))
  refine Wv Z (rExt Z Z (x_elemV _ _ _ (hI.old ha hat))) ?_
  refine Vy Z ?_
  refine WL_xbox (v := fun g => .agg #[hdl 49, .pointer (some ⟨g, 0, none⟩), .int .u64 130]) hI Z Z Z (rExt Z Z (x_valueOfE _ _)) ?_
  intro bv w hI
  refine WL_eff Z Z Z (rExt Z Z (x_set _ _ n old _ (hI.c0 Z) (hI.c2 Z) (hI.f2 0))) ?_
  have hI := hI.s2 0 (.int .i64 n)
  generalize World.setCell _ _ _ = w at hI ⊢
  refine Wn (Wq (Vc Z (Wn ?_)))
  exact WR (r1_ 8 Z ⟨Z, hI.d0.d0⟩)
 refine Ws (Wq (Vy Z ?_))
 refine Wv Z (rExt Z Z (x_typeOfA _ _)) ?_
 refine Vy Z ?_
 refine Wv Z (rExtI Z Z Z (x_noAssign _)) ?_
 refine Wn (Wc false Z (Wk (Ws (Wq (Vy Z ?_)))))
 refine Wv Z (rTA Z Z (x_noAs _ _)) ?_
 refine T4 Z (Vj Z (Vj Z (Vw Z (Vc Z (Wn (Wq (V7 Z (V7 Z (V5 Z (V5 Z (V5 Z (Vi Z ?_))))))))))))
 refine Wn (Wc false Z (Wk (Wq (Vy Z (Wn (Wb (Ws (Wr ?_))))))))
 refine Wv Z (rTA Z Z (x_hasUn _ _)) ?_
 refine Vj Z (Vj Z (Wn (Wc true Z (Wq (Vt Z (Wn (Wq (Vy Z ?_))))))))
 refine WL_call Z Z Z (rCallI (f := 256) (vs := []) Z Z Z (fun _ => x_unwrap _ _)) ?_
 refine (unwrap_any bb oo n _ (hI.old hc.cell (hne bb oo Z))).mono (okP hI fun w1 hp hI => ?_)
 refine Vt Z (Wn (Wq (Vy Z ?_)))
 refine Wv Z (by exact rIfaceEq rfl yy37 rfl rfl) ?_
 refine Wn (Wc false Z (Wk ?_))
 exact ⟨⟨_, .inl Z, fun b o h => (by injection h with h; exact absurd h (by decide)), g4_, hI⟩, by show 0 < 1; omega⟩
theorem as0_any (e : Value) (n : Int) (old : Value) (tb : Nat) (w0 : World) (he : IsE w0 e n) (hB : Blk w0 tb 49 #[old]) (hg : w0.cell? ⟨0, 0, none⟩ = some (.iface 132 (.agg #[hdl 37]))) (hne : ∀ b o, e = .iface patT (.pointer (some ⟨b, o, none⟩)) → b ≠ tb) (h0 : 0 ≠ tb) :
  Cq 26 #[e, .iface 64 (.pointer (some ⟨tb, 0, none⟩))] w0 fun en w' => en = .returned (.bool true) ∧ Inv (fun k => k = tb) w0 w' [B tb 49 #[.int .i64 n]] := by
 have hI := Inv.own1 hB
 have he' : e ≠ .nilIface ∧ ∃ t u, e = .iface t u := by
  rcases he with rfl | ⟨b, o, rfl, _⟩ <;> exact ⟨by simp, _, _, rfl⟩
 obtain ⟨_, t, u, rfl⟩ := he'
 refine Vm func26 Z ?_
 refine Wq (Vc Z (Wn (Ws (Wq (Vy Z ?_)))))
 refine Wv Z (by exact rIfaceEq rfl yy37 rfl rfl) ?_
 refine Wn (Wc false Z (Wk (Ws (Wq (Vy Z ?_)))))
 refine Wv Z (by exact rIfaceEq rfl underlying20 rfl rfl) ?_
 refine Wn (Wc false Z (Wk (Wq (Vy Z ?_))))
 refine WL_xbox (v := fun g => .agg #[hdl 64, .pointer (some ⟨g, 0, none⟩), .int .u64 150]) hI Z Z Z (rExt Z Z (x_valueOfT _ _)) ?_
 intro bv w hI
 refine Vz (.agg #[.pointer none, .pointer none, .int .u64 0]) (#[.pointer none, .pointer none, .int .u64 0]) hI Z ?_
 rintro b5 w - - hI
 refine WL_stw0 (u := .agg _) (vs := _) (n := 3) hI Z Z Z Z Z Z (by kernel_rfl) (by rfl) (by rfl) (by rfl) ?_
 intro w hI
 refine Wn (Wq (Tt 3 Z hI.g0 ?_))
 refine Wv Z (rExt Z Z (x_type _ _)) ?_
 refine Vt Z (Wn (Ws (Wq (Vy Z ?_))))
 refine Wv Z (rExtI Z Z Z (x_kindP _)) ?_
 refine Ty Z (V7 Z (Tt 3 Z hI.g0 ?_))
 refine Wv Z (rExt Z Z (x_isNil _ _ _ (hI.c1 Z))) ?_
 refine Vi Z (Wn (Wc false Z (Wk (Wq (Vy Z ?_)))))
 refine Wv Z (rExtI Z Z Z (x_elemT _)) ?_
 refine Vt Z (Wn (Ws (Wq (Vy Z ?_))))
 refine Wv Z (rExtI Z Z Z (x_kindE _)) ?_
 refine Tn Z (V7 Z (Vy Z ?_))
 refine Wv Z (rLd Z (by kernel_rfl) Z (hI.old hg h0)) ?_
 refine Wv Z (rExtI Z Z Z (x_impl _)) ?_
 refine Tf Z (Vk Z (Wn (Wc false Z (Wk (Wq (Vy Z (Vy Z (Tt 3 Z hI.g0 (Vy Z (Vd [_, _, .agg _, _] Z func52 Z ?_))))))))))
 refine (as1_any (.iface t u) n old tb bv _ ?_ hI.g2 (hI.c1 Z) hne ?_).mono ?_
 ·rcases he with he | ⟨b, o, he, hc⟩
  ·exact .inl he
  exact .inr ⟨b, o, he, hc.keep (hI.old hc.cell (hne b o he))⟩
 ·exact fun e => hI.disj (i := 1) (j := 2) Z Z (by decide) bv Z e
 rintro e w1 ⟨rfl, hJ⟩
 refine rV ?_
 have hI' : Inv (fun k => k = tb) w0 w1 [B tb 49 #[.int .i64 n]] := ⟨hI.chg.trans' hJ.chg (fun k _ hk => hk), hJ.ok, fun e he k hk => by rcases List.mem_singleton.1 he with rfl; exact .inl hk, hJ.apart⟩
 clear hI
 have hI := hI'
 refine Vc Z (Wn ?_)
 exact WR (r1_ 4 Z ⟨Z, hI⟩)
theorem IsE.pure {w' : World} {e : Value} (h : IsE w e n) (hp : Pure w w') : IsE w' e n := by
 rcases h with h | ⟨b, o, h, hc⟩
 ·exact .inl h
 exact .inr ⟨b, o, h, hc.keep ((Inv.start (fun _ => False) w |>.pure hp).oldp hc.cell)⟩
theorem tell_any (e : Value) (n : Int) (w0 : World) (he : IsE w0 e n) (hg : w0.cell? ⟨0, 0, none⟩ = some (.iface 132 (.agg #[hdl 37]))) :
  Cq 17 #[e] w0 fun en w' => en = .returned (.int .i64 n) ∧ Pure w0 w' := by
 have hI := Inv.start (fun _ => False) w0
 have he' : ∃ t u, e = .iface t u := by
  rcases he with rfl | ⟨b, o, rfl, _⟩ <;> exact ⟨_, _, rfl⟩
 obtain ⟨t, u, rfl⟩ := he'
 refine Vm func17 Z (Wq (Vb Z (Wn (Ws (Wq (Vy Z (Wv Z (by exact rIfaceEq rfl yy37 rfl rfl) (Yf Z (Wk (Wq (Vz (Y 0) (#[Y 0]) hI Z ?_)))))))))))
 rintro b3 w - - hI
 refine Wn ?_
 have hnew : w0.heap.size ≤ b3 := (hI.own _ (List.mem_singleton.2 rfl) b3 rfl).resolve_left (fun h => h)
 have hlt0 : 0 < w0.heap.size := World.block_lt_of_cell? w0 _ hg
 refine Ws (Wq (Vy Z (T0 Z underlying64 Z (Vd [_, _] Z func26 Z ((as0_any (.iface t u) n _ b3 _ (he.pure hI.pu) hI.g0 (hI.oldp hg) ?_ (by omega)).mono ?_)))))
 ·intro b o h hb
  rcases he with he | ⟨b', o', he, hc⟩
  ·rw [he] at h
   injection h with h
   exact absurd h (by decide)
  rw [he] at h
  injection h with _ h
  injection h with h
  injection h with h
  injection h with h _
  have := World.block_lt_of_cell? w0 _ hc.cell
  simp only at this
  omega
 rintro e w1 ⟨rfl, hJ⟩
 refine rV ?_
 have hI' : Inv NF w0 w1 [B b3 49 #[.int .i64 n]] := ⟨hI.chg.trans' hJ.chg (fun k hk e => by subst e; omega), hJ.ok, fun e he k hk => by rcases List.mem_singleton.1 he with rfl; have : k = b3 := hk; exact .inr (by omega), hJ.apart⟩
 clear hI
 have hI := hI'
 exact Yt Z (Wq (Yc hI Z Z (Vb Z (Wn (WR (r1_ 2 Z ⟨Z, hI.pu⟩))))))
open Go.RowKit
def ErrE (e : Value) (n : Int) : Ent := ⟨fun k => ∃ o : Nat, e = .iface patT (.pointer (some ⟨k, o, none⟩)), fun w => IsE w e n⟩
theorem IsE.blk {e : Value} (h : IsE w e n) : ∀ k o : Nat, e = .iface patT (.pointer (some ⟨k, o, none⟩)) → k < w.heap.size := by
 rintro k o rfl
 rcases h with h | ⟨b, o', h, hc⟩
 ·injection h with h; exact absurd h (by decide)
 injection h with _ h
 injection h with h
 injection h with h
 injection h with h _
 subst h
 exact World.block_lt_of_cell? w _ hc
theorem ErrE.ok {e : Value} (h : IsE w e n) : (ErrE e n).ok w := by
 refine Ent.mk_ok h (fun k hk => ?_) (fun S w1 w2 hc hS h1 => ?_)
 ·obtain ⟨o, he⟩ := hk
  exact h.blk k o he
 rcases h1 with h1 | ⟨b, o, h1, hcell⟩
 ·exact .inl h1
 exact .inr ⟨b, o, h1, (World.cell?_of_block (hc.block b (World.block_lt_of_cell? w1 _ hcell) (hS b ⟨o, h1⟩))).trans hcell⟩
theorem Inv.err {S : Nat → Prop} {w0 : World} {H : List Ent} (hI : Inv S w0 w H) (z : Int) : Inv S w0 w (ErrE (.iface 49 (.int .i64 z)) z :: H) :=
 hI.fresh (Pure.refl w) (ErrE.ok (.inl rfl)) (fun k hk => by obtain ⟨o, h⟩ := hk; injection h with h; exact absurd h (by decide))
theorem Inv.errAt {S : Nat → Prop} {w0 : World} {H : List Ent} {b : Nat} {z i : Int} (hI : Inv S w0 w (B b 201 #[.int .i64 z, .int .i64 i] :: H)) : Inv S w0 w (ErrE (.iface patT (.pointer (some ⟨b, 0, none⟩))) z :: H) :=
 hI.u0 (e' := ErrE (.iface patT (.pointer (some ⟨b, 0, none⟩))) z) (Chg.refl _ _) (ErrE.ok (.inr ⟨b, 0, rfl, hI.c0 rfl⟩)) (fun k hk => .inl (by
  obtain ⟨o, h⟩ := hk
  injection h with _ h
  injection h with h
  injection h with h
  injection h with h _
  exact h.symm))
abbrev GlobE (w : World) : Prop := w.cell? ⟨0, 0, none⟩ = some (.iface 132 (.agg #[hdl 37]))
theorem atN_any (z : Int) (i : Int) (w0 : World) (hg : GlobE w0) : Cq 102 #[.iface 49 (.int .i64 z), .int .i64 i] w0 fun en w' => ∃ e, en = .returned e ∧ Inv NF w0 w' [ErrE e z] := by
 have hI := Inv.start (fun _ => False) w0
 refine Vm func102 Z (Wq (Vw Z (Wn (Wq (Vy Z (Vd [_] Z func17 Z ((tell_any _ z _ (.inl Z) (hI.oldp hg)).mono (okP hI fun w1 hp hI => V0 Z (Tc [(0, Y _), (1, Y _)] [_, _] Z [Y 0, Y 0] [0, 1] Z (fun _ => by kernel_rfl) (Tq (.agg _) (#[_, _]) hI rfl ?_))))))))))
 rintro b9 w - - hI
 exact T0 Z underlying199 Z (Vt Z (Wn (WR (r1_ 4 Z ⟨_, Z, hI.errAt⟩))))
abbrev GlobOk (w : World) : Prop := w.cell? ⟨0, 0, none⟩ = some (.iface 132 (.agg #[hdl 37]))
end Go.Proofs.YtnckdmogdehnoaaGreatDoor
