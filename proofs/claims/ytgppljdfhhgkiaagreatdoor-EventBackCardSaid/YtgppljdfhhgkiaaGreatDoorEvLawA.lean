/- event.Ops as a function: plain. Nothing of the program. -/
import Derived.Test.YtgppljdfhhgkiaaGreatDoorModLaw2
import Derived.Test.YtgppljdfhhgkiaaGreatDoorRecLaw
namespace Go.Proofs.YtgppljdfhhgkiaaGreatDoor
set_option linter.unusedVariables false
set_option linter.unusedSimpArgs false
structure SeeS where
  ops : List Op8
  busy : Int → Option Nat
  lost : Int → Option Nat
  gone : List Bool
def updI (g : Int → Option Nat) (k : Int) (v : Option Nat) : Int → Option Nat := fun j => if j = k then v else g j
def newOp (e : Ev) (i : Nat) : Op8 := ⟨e.proc, e.key, e.kind, e.a, e.b, 0, i, -1⟩
def beginF (e : Ev) (i : Nat) (s : SeeS) : Option SeeS :=
  if s.busy e.proc ≠ none ∨ s.lost e.proc ≠ none then none else some ⟨s.ops ++ [newOp e i], updI s.busy e.proc (some s.ops.length), s.lost, s.gone ++ [false]⟩
def fitsOp (o : Op8) (e : Ev) : Prop := o.key = e.key ∧ o.kind = e.kind ∧ o.a = e.a ∧ o.b = e.b
instance (o : Op8) (e : Ev) : Decidable (fitsOp o e) := by unfold fitsOp; infer_instance
def endOp (o : Op8) (e : Ev) (i : Nat) : Op8 := { o with res := e.res, ret := i }
def endF (e : Ev) (i : Nat) (s : SeeS) : Option SeeS := match s.busy e.proc with
  | none => none
  | some n => if fitsOp (oAt s.ops n) e then some ⟨if e.ty = 2 then s.ops.set n (endOp (oAt s.ops n) e i) else s.ops, updI s.busy e.proc none, if e.ty = 4 then updI s.lost e.proc (some i) else s.lost, if e.ty = 3 then s.gone.set n true else s.gone⟩ else none
def stepE (e : Ev) (i : Nat) (s : SeeS) : Option SeeS := if evOkB e = true then (if e.ty = 1 then beginF e i s else endF e i s) else none
def runE : List Ev → Nat → SeeS → Option SeeS
  | [], _, s => some s
  | e :: r, i, s => (stepE e i s).bind (runE r (i + 1))
def initE : SeeS := ⟨[], fun _ => none, fun _ => none, []⟩
/-- The numbers of the ops that are told. -/
def keptF (s : SeeS) (k : Nat) : List Nat := (List.range k).filter fun n => !(s.gone.getD n false)
def outF (s : SeeS) : List Op8 := (keptF s s.ops.length).map (oAt s.ops)
def evF (l : List Ev) : Option (List Op8) := if l.length ≤ 120 then (runE l 0 initE).map outF else none
theorem keptF_succ (s : SeeS) (k : Nat) : keptF s (k + 1) = keptF s k ++ (if s.gone.getD k false = true then [] else [k]) := by
  unfold keptF
  rw [List.range_succ, List.filter_append]
  congr 1
  rw [List.filter_cons, List.filter_nil]
  cases s.gone.getD k false <;> rfl
theorem runE_app : ∀ (l r : List Ev) (i : Nat) (s : SeeS), runE (l ++ r) i s = (runE l i s).bind (runE r (i + l.length))
  | [], r, i, s => rfl
  | e :: l, r, i, s => by
    rw [List.cons_append, runE, runE]
    cases stepE e i s with
    | none => rfl
    | some s' =>
      simp only [Option.bind_some, List.length_cons]
      rw [runE_app l r (i + 1) s', show i + 1 + l.length = i + (l.length + 1) by omega]
theorem oAt_app_l {l r : List Op8} {k : Nat} (h : k < l.length) : oAt (l ++ r) k = oAt l k := by
  unfold oAt
  rw [List.getD_eq_getElem?_getD, List.getD_eq_getElem?_getD, List.getElem?_append_left h]
theorem oAt_app_r {l : List Op8} {x : Op8} : oAt (l ++ [x]) l.length = x := by
  unfold oAt
  rw [List.getD_eq_getElem?_getD, List.getElem?_append_right (Nat.le_refl _), Nat.sub_self]; rfl
theorem oAt_setE {l : List Op8} {k i : Nat} {x : Op8} (hk : k < l.length) : oAt (l.set k x) i = if k = i then x else oAt l i := by
  unfold oAt
  rw [List.getD_eq_getElem?_getD, List.getD_eq_getElem?_getD, List.getElem?_set]
  by_cases h : k = i
  · subst h; simp [hk]
  · rw [if_neg h, if_neg h]
end Go.Proofs.YtgppljdfhhgkiaaGreatDoor
