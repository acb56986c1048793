/-
  LocalOrders: for every input the law returns true, and each argument reads afterwards as it read before; errors.errorType holds what the program's text lays (the card ties it).
-/
import Derived.Test.YtkkmokodaejheaaDoorCards
import Derived.Test.YtkkmokodaejheaaDoorTie
import Derived.Test.YtkkmokodaejheaaDoorPLaidL
import Derived.SevenTiedAt
import Derived.Test.YtkkmokodaejheaaDoorPLvw
import Derived.WalkKit
import Derived.ProofKit
import Derived.OpenShut
import Derived.ShutString
import Derived.ChangeOld
import Derived.Below
namespace Go.Proofs.YtkkmokodaejheaaDoor.localOrders
open Go.ChangeShapes Go.WideShapes Go.ChangeAt Go.RowKit
open Go.ChangeMaps (open_string shut_string)
set_option linter.unusedVariables false
set_option linter.unusedSimpArgs false

theorem own : ownKnob Tryd.prog.godebug = none := by kernel_rfl
theorem laidOut : laidOutB Tryd.prog = true := by kernel_rfl

set_option maxRecDepth 4000 in
/-- The walk: the law returns true and writes nothing that was there. -/
theorem walk {H : Type} {enc : TypeId × Value → H} {base : Nat} (w : World) (hsh : w.ShapedOpen Tryd.prog) (hglob : laidMetH Tryd.prog MS w) (a0 : Int) (w0 : (Lit.int .i64 a0).wf = true) (v1 : Value) (p1 : List MemPlace) {d1 : DataW H} (o1 : Value.okWide Tryd.prog w .any base 22 v1) (h1 : DataW.Trod enc Tryd.prog w 0 (fun _ => true) true 22 v1 d1 p1) (lt1 : ∀ x ∈ p1, x.block < w.heap.size) :
    ∃ M last o w' t', runNT Tryd.prog (M + 1) (Go.Conc.solo (Go.Conc.G (Frame.enter Tryd.prog 4 #[.int .i64 a0, v1] .normal) []) w) #[] = (.ended o w', t') ∧ runN Tryd.prog M (Go.Conc.solo (Go.Conc.G (Frame.enter Tryd.prog 4 #[.int .i64 a0, v1] .normal) []) w) = .next last ∧
      step Tryd.prog last = .ended o w' ∧ Go.Conc.Good Tryd.prog (fun v w' => v = .bool true ∧ Below w.heap.size w w') last o w' t' := by
  obtain ⟨A, c, l, rfl, hS⟩ := Xi h1 (by obtain ⟨A, n, c, rfl⟩ := okWide_slice Tryd.underlying22 o1; rfl)
  obtain ⟨M, last, o', w', t', e1, e2, e3, e4⟩ := U1 (o := a0) (XL hS o1 hsh (LY hglob))
  exact ⟨M, last, o', w', t', e1, e2, e3, e4.mono fun v hp => ⟨hp.1, hp.2.below⟩⟩

set_option maxRecDepth 100000 in
theorem lifted (os : Os) (started : os.Started) (H : Type) (enc : TypeId × Value → H) :
    ReturnsInLeavingWide {} Tryd.checked os 4 .any (fun w args => (Rows.localOrdersSpec.pre enc Tryd.prog Tryd.f4 [] false w args ∧ laidMetH Tryd.prog MS w) ∧ sizedMet enc Tryd.prog Tryd.f4 (OpenSpec.ofChange Rows.localOrdersSpec) false w args)
      (Rows.localOrdersSpec.post enc Tryd.prog Tryd.f4 false true false false) := by
  refine Gb (C := Tryd.checked) (X := fun w _ => laidMetH Tryd.prog MS w) (fun _ _ _ hh h => h.of_heap hh) own started Tryd.func4
    (ChangeSpec.witness_at (enc := enc) (C := Tryd.checked) (os := os) (X := fun w _ => laidMetH Tryd.prog MS w) false (Jr os) #[.int .i64 0, .slice none 0 0] 8 rfl (by kernel_rfl) (by kernel_rfl) (by kernel_rfl) (by kernel_rfl) (by kernel_rfl) (LW os _)) ?_
  intro W base args ds gs before hsh0 hval0 hW _ hsz0 hL _
  have hval : ∀ (j : Nat) t v, Tryd.f4.params[j]? = some t → args[j]? = some v → Value.okWide Tryd.prog W .any base t v := hval0
  have hW' := hW
  obtain ⟨p, q, hA0, hV, rfl, hfz, hnd⟩ := hW
  have hA : DataW.TrodAll enc Tryd.prog W 0 (fun _ => true) true Tryd.f4.params.toList args.toList ds p := hA0
  rw [Tryd.params4] at hA hval
  obtain ⟨v0, vs0, d0, ds0, p0, q0, hargs, rfl, rfl, h0, r0⟩ := trodAll_cons hA
  obtain ⟨v1, vs1, d1, ds1, p1, q1, rfl, rfl, rfl, h1, r1⟩ := trodAll_cons r0
  obtain ⟨rfl, rfl, rfl⟩ := trodAll_nil r1
  obtain rfl : args = #[v0, v1] := by cases args; simp_all
  obtain ⟨rfl, rfl⟩ := trodVars_none hV
  have k0 := h0
  have lt0 : ∀ x ∈ p0, x.block < W.heap.size := by obtain ⟨m, hm⟩ := k0; exact DataW.trod_lt m _ _ _ hm
  have k1 := h1
  have lt1 : ∀ x ∈ p1, x.block < W.heap.size := by obtain ⟨m, hm⟩ := k1; exact DataW.trod_lt m _ _ _ hm
  obtain ⟨a0, rfl, _, _, w0⟩ := open_int Tryd.underlying3 (hval 0 3 v0 rfl rfl) h0
  obtain ⟨M, last, o, w', t', g1, g2, g3, g4⟩ := walk (H := H) (enc := enc) (base := base) W hsh0 hL a0 w0 v1 _ (hval 1 22 v1 rfl rfl) h1 lt1
  refine ⟨M, last, o, w', t', g1, g2, g3, g4.mono fun v hp => ?_⟩
  obtain ⟨he, bel⟩ := hp
  subst he
  exact ⟨_, _, _, [], _, [], hW', trodAll_mk1 (shut_bool Tryd.underlying4 _), (trodAll_cons_mk (Below.trod laidOut (by kernel_rfl) (of_decide_eq_true (by kernel_rfl)) k0 bel lt0) (trodAll_cons_mk (Below.trod laidOut (by kernel_rfl) (of_decide_eq_true (by kernel_rfl)) k1 bel lt1) trodAll_mk0)), rfl, bel.frame _, fun h => by cases h⟩

theorem over : Rows.localOrdersRow.holds Tryd.pinned (OpenSpec.ofChange Rows.localOrdersSpec) :=
  OpenClaim.holds_of_wide_leaving 4 Tryd.f4 rfl rfl rfl rfl rfl rfl rfl ⟨rfl, rfl, rfl, rfl, rfl⟩ rfl rfl rfl rfl rfl (by kernel_rfl) Tryd.func4 (by kernel_rfl)
    (of_decide_eq_true (by kernel_rfl)) (by unfold Func.isWrapper; first | (rw [if_pos (by decide +kernel)]; kernel_rfl) | (rw [if_neg (by decide +kernel)]; exact ⟨rfl, rfl⟩))
    (fun os started H enc _ => lifted os started H enc)

/-- No parameter wants a stand-in. -/
theorem plain (g : FuncId) (fn : Func) (hf : Tryd.pinned.checked.prog.funcNamed "testimony/testimonykeep.LocalOrders" = some g) (hfn : Tryd.pinned.checked.prog.funcs[g]? = some fn) :
    false = Tryd.pinned.checked.prog.looks [] ∧ ∀ (j : Nat) t, fn.params[j]? = some t → Tryd.pinned.checked.prog.wantsStandIn t = false := by
  obtain rfl : g = 4 := Option.some.inj ((show Tryd.prog.funcNamed "testimony/testimonykeep.LocalOrders" = some 4 by kernel_rfl).symm.trans hf) |>.symm
  obtain rfl : fn = Tryd.f4 := (Option.some.inj (Tryd.func4.symm.trans hfn)).symm
  refine ⟨by kernel_rfl, fun j t ht => ?_⟩
  have hB : (Tryd.f4.params.toList.all fun t => !Tryd.prog.wantsStandIn t) = true := by kernel_rfl
  have := List.all_eq_true.1 hB t (by simpa using Array.mem_of_getElem? ht)
  exact (show Tryd.prog.wantsStandIn t = false by simpa using this)
/-- The statement: the card. -/
theorem proved : Rows.LocalOrdersCardSaid :=
  J8 .later _ _ _ _ over (by kernel_rfl) localOrders_row_tie rfl ⟨rfl, rfl⟩ (by kernel_rfl) rfl plain (by kernel_rfl)
#print axioms proved
end Go.Proofs.YtkkmokodaejheaaDoor.localOrders
