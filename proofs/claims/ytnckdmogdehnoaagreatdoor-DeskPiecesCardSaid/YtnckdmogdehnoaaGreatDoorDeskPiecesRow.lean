/-
  DeskPieces: for every input the law returns true, and each argument reads afterwards as it read before; errors.errorType holds what the program's text lays (the card ties it).
-/
import Derived.Test.YtnckdmogdehnoaaGreatDoorCards
import Derived.Test.YtnckdmogdehnoaaGreatDoorTie
import Derived.Test.YtnckdmogdehnoaaGreatDoorPLaidD
import Derived.SevenTiedAt
import Derived.Test.YtnckdmogdehnoaaGreatDoorPDeskPieces
import Derived.Test.YtnckdmogdehnoaaGreatDoorFacts
import Derived.WalkKit
import Derived.ProofKit
import Derived.OpenShut
import Derived.ShutString
import Derived.ChangeOld
import Derived.Below
namespace Go.Proofs.YtnckdmogdehnoaaGreatDoor.deskPieces
open Go.ChangeShapes Go.WideShapes Go.ChangeAt Go.RowKit
open Go.ChangeMaps (open_string shut_string)
set_option linter.unusedVariables false
set_option linter.unusedSimpArgs false

theorem own : ownKnob Tryz.prog.godebug = none := by kernel_rfl
theorem laidOut : laidOutB Tryz.prog = true := by kernel_rfl

set_option maxRecDepth 4000 in
/-- The walk: the law returns true and writes nothing that was there. -/
theorem walk {H : Type} {enc : TypeId × Value → H} {base : Nat} (w : World) (hsh : w.ShapedOpen Tryz.prog) (hglob : laidMetH Tryz.prog laidL w) (v0 : Value) (p0 : List MemPlace) {d0 : DataW H} (o0 : Value.okWide Tryz.prog w .any base 9 v0) (h0 : DataW.Trod enc Tryz.prog w 0 (fun _ => true) true 9 v0 d0 p0) (lt0 : ∀ x ∈ p0, x.block < w.heap.size) (v1 : Value) (p1 : List MemPlace) {d1 : DataW H} (o1 : Value.okWide Tryz.prog w .any base 9 v1) (h1 : DataW.Trod enc Tryz.prog w 0 (fun _ => true) true 9 v1 d1 p1) (lt1 : ∀ x ∈ p1, x.block < w.heap.size) (hsz0 : ∀ z ∈ DataW.weights Tryz.prog 9 d0, z ≤ reachBytes) (hsz1 : ∀ z ∈ DataW.weights Tryz.prog 9 d1, z ≤ reachBytes) :
    Calls Tryz.prog 3 #[v0, v1] w fun e w' => e = .returned (.bool true) ∧ Below w.heap.size w w' := by
  obtain ⟨s0, rfl, rfl, -, -⟩ := open_string Tryz.underlying9 o0 h0
  obtain ⟨s1, rfl, rfl, -, -⟩ := open_string Tryz.underlying9 o1 h1
  have e0 : s0.data.toList.length ≤ reachBytes := hsz0 _ (by simp [DataW.weights])
  have e1 : s1.data.toList.length ≤ reachBytes := hsz1 _ (by simp [DataW.weights])
  unfold reachBytes at e0 e1
  exact (law_any s0.data.toList s1.data.toList w (txt_of_laid hglob) (MaxOk.of hsh) (knows_of_laid hglob) (by omega)).mono fun e w' h => h

set_option maxRecDepth 100000 in
theorem lifted (os : Os) (started : os.Started) (H : Type) (enc : TypeId × Value → H) :
    ReturnsInHanded {} Tryz.checked os 3 .any (fun w args => (Rows.deskPiecesSpec.pre enc Tryz.prog Tryz.f3 [] false w args ∧ laidMetH Tryz.prog laidL w) ∧ sizedMet enc Tryz.prog Tryz.f3 (OpenSpec.ofChange Rows.deskPiecesSpec) false w args)
      (Rows.deskPiecesSpec.post enc Tryz.prog Tryz.f3 false true false false) := by
  refine returnsInHanded_shp (C := Tryz.checked) (X := fun w _ => laidMetH Tryz.prog laidL w) (fun _ _ _ hh h => h.of_heap hh) own started (by kernel_rfl) Tryz.func3
    (witness_ref (enc := enc) (C := Tryz.checked) (os := os) (X := fun w _ => laidMetH Tryz.prog laidL w) false (laidWorld os) #[.string ByteArray.empty, .string ByteArray.empty] 8 rfl (by kernel_rfl) (by kernel_rfl) (by kernel_rfl) (by kernel_rfl) (by kernel_rfl) (laidWorld_met os _)) ?_
  intro W base args ds gs before hsh0 hval0 hW _ hsz0 hL _
  have hval : ∀ (j : Nat) t v, Tryz.f3.params[j]? = some t → args[j]? = some v → Value.okWide Tryz.prog W .any base t v := hval0
  have hW' := hW
  obtain ⟨p, q, hA0, hV, rfl, hfz, hnd⟩ := hW
  have hA : DataW.TrodAll enc Tryz.prog W 0 (fun _ => true) true Tryz.f3.params.toList args.toList ds p := hA0
  rw [Tryz.params3] at hA hval
  obtain ⟨v0, vs0, d0, ds0, p0, q0, hargs, rfl, rfl, h0, r0⟩ := trodAll_cons hA
  obtain ⟨v1, vs1, d1, ds1, p1, q1, rfl, rfl, rfl, h1, r1⟩ := trodAll_cons r0
  obtain ⟨rfl, rfl, rfl⟩ := trodAll_nil r1
  obtain rfl : args = #[v0, v1] := by cases args; simp_all
  obtain ⟨rfl, rfl⟩ := trodVars_none hV
  have k0 := h0
  have lt0 : ∀ x ∈ p0, x.block < W.heap.size := by obtain ⟨m, hm⟩ := k0; exact DataW.trod_lt m _ _ _ hm
  have k1 := h1
  have lt1 : ∀ x ∈ p1, x.block < W.heap.size := by obtain ⟨m, hm⟩ := k1; exact DataW.trod_lt m _ _ _ hm

  refine (walk (H := H) (enc := enc) (base := base) W hsh0 hL v0 _ (hval 0 9 v0 rfl rfl) h0 lt0 v1 _ (hval 1 9 v1 rfl rfl) h1 lt1 (fun z hz => of_decide_eq_true (List.all_eq_true.1 hsz0 z (DataW.weights_mem_each (j := 0) rfl rfl z hz))) (fun z hz => of_decide_eq_true (List.all_eq_true.1 hsz0 z (DataW.weights_mem_each (j := 1) rfl rfl z hz)))).mono fun e W' ⟨he, bel⟩ => ?_
  subst he
  exact ⟨_, rfl, _, _, _, [], _, [], hW', trodAll_mk1 (shut_bool Tryz.underlying4 _), (trodAll_cons_mk (Below.trod laidOut (by kernel_rfl) (of_decide_eq_true (by kernel_rfl)) k0 bel lt0) (trodAll_cons_mk (Below.trod laidOut (by kernel_rfl) (of_decide_eq_true (by kernel_rfl)) k1 bel lt1) trodAll_mk0)), rfl, bel.frame _, fun h => by cases h⟩

theorem over : Rows.deskPiecesRow.holds Tryz.pinned (OpenSpec.ofChange Rows.deskPiecesSpec) :=
  OpenClaim.holds_of_wide 3 Tryz.f3 rfl rfl rfl rfl rfl rfl rfl ⟨rfl, rfl, rfl, rfl, rfl⟩ rfl rfl rfl rfl rfl (by kernel_rfl) Tryz.func3 deskPieces_joined
    (of_decide_eq_true (by kernel_rfl)) (by unfold Func.isWrapper; first | (rw [if_pos (by decide +kernel)]; kernel_rfl) | (rw [if_neg (by decide +kernel)]; exact ⟨rfl, rfl⟩))
    (fun os started H enc _ => lifted os started H enc)

/-- No parameter wants a stand-in. -/
theorem plain (g : FuncId) (fn : Func) (hf : Tryz.pinned.checked.prog.funcNamed "testimony/testimonykeep.DeskPieces" = some g) (hfn : Tryz.pinned.checked.prog.funcs[g]? = some fn) :
    true = Tryz.pinned.checked.prog.looks [] ∧ ∀ (j : Nat) t, fn.params[j]? = some t → Tryz.pinned.checked.prog.wantsStandIn t = false := by
  obtain rfl : g = 3 := Option.some.inj ((show Tryz.prog.funcNamed "testimony/testimonykeep.DeskPieces" = some 3 by kernel_rfl).symm.trans hf) |>.symm
  obtain rfl : fn = Tryz.f3 := (Option.some.inj (Tryz.func3.symm.trans hfn)).symm
  refine ⟨by kernel_rfl, fun j t ht => ?_⟩
  have hB : (Tryz.f3.params.toList.all fun t => !Tryz.prog.wantsStandIn t) = true := by kernel_rfl
  have := List.all_eq_true.1 hB t (by simpa using Array.mem_of_getElem? ht)
  exact (show Tryz.prog.wantsStandIn t = false by simpa using this)
/-- The statement: the card. -/
theorem proved : Rows.DeskPiecesCardSaid :=
  Claim7.holds_tied_plain_at .later [] _ _ _ _ over (fun _ h => by cases h) (by kernel_rfl) (fun _ h => by cases h) deskPieces_row_tie rfl ⟨rfl, rfl⟩ (by kernel_rfl) rfl plain (by kernel_rfl)
#print axioms proved
end Go.Proofs.YtnckdmogdehnoaaGreatDoor.deskPieces
