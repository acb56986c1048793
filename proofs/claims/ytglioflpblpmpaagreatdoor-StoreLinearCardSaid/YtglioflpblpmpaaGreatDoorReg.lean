/- Regions that draw their order: what only reads is taken first, in any order of the text; what writes comes when nothing else can. -/
import Derived.OrdersHeld
import Derived.StillTactics
import Derived.OwnWalk
namespace Go.Proofs.YtglioflpblpmpaaGreatDoor
open Go

section
variable {P : Program} {ops : Array Oper} {Q : Exit → Act → World → Prop} {md : Region.Mode} {S : World → Prop}

/-- In world W operation o, run in state a, leaves v and the world as it is. -/
def stillV (P : Program) (o : Oper) (a : Act) (W : World) (v : Value) : Prop :=
  match (execOp a.eval o).run P W with
  | .ok (.value v') w' => w' = W ∧ v' = v
  | .ok .skip w' => w' = W ∧ undef = v
  | .ok (.enter f args) w' => w' = W ∧ Calls P f args W (fun e w'' => e = .returned v ∧ w'' = W)
  | _ => False
def YieldsA (P : Program) (ops : Array Oper) (S : World → Prop) (o : Oper) (v : Value) (a : Act) : Prop :=
  (Region.wanted o (yielded ops a.tmps) = true ∧ ∀ W, S W → stillV P o a W v) ∨ (Region.wanted o (yielded ops a.tmps) = false ∧ v = undef)

theorem YieldsA.wpOp {i : Nat} {o : Oper} {v : Value} {a : Act} (hi : ops[i]? = some o) (hy : YieldsA P ops S o v a)
    {K : Act → World → Prop} {w : World} (hS : S w) (h : K (a.put o.dst v) w) : wpOp P ops Q i K a w := by
  unfold Go.wpOp
  simp only [hi]
  rcases hy with ⟨hw, hv⟩ | ⟨hw, rfl⟩
  · simp only [hw, if_true]
    refine .inl ?_
    have h1 := hv w hS
    unfold stillV at h1
    unfold Oper.wp
    generalize (execOp a.eval o).run P w = r at *
    cases r with
    | ok n w' =>
      cases n <;> simp only [Oper.upon] at h1 ⊢
      case value u => rw [h1.1, h1.2]; exact h
      case skip => rw [h1.1, h1.2]; exact h
      case enter f args =>
        rw [h1.1]
        refine h1.2.mono fun e w'' he => ?_
        rw [he.1, he.2]
        exact h
    | halt x w' => exact h1.elim
  · simp only [hw, Bool.false_eq_true, if_false]; exact h

theorem YieldsA.of_same {o : Oper} {v : Value} {a a' : Act} (hy : YieldsA P ops S o v a) (he : execOp a'.eval o = execOp a.eval o)
    (hw : Region.wanted o (yielded ops a'.tmps) = Region.wanted o (yielded ops a.tmps)) : YieldsA P ops S o v a' := by
  unfold YieldsA stillV at *
  rw [he, hw]
  exact hy

/-- What an operation leaves of the state. -/
theorem wpOp_shape {j : Nat} {oj : Oper} (hj : ops[j]? = some oj) {K : Act → World → Prop} {a : Act} {w : World} (h : wpOp P ops Q j K a w) :
    wpOp P ops Q j (fun a' w' => (∃ u ds, a' = ({ a with defers := ds } : Act).put oj.dst u) ∧ K a' w') a w := by
  unfold wpOp at *
  simp only [hj] at *
  split
  · rename_i hw
    simp only [hw, if_true] at h
    rcases h with h | h
    case inr => exact .inr h
    refine .inl ?_
    unfold Oper.wp at *
    generalize (execOp a.eval oj).run P w = r at *
    cases r with
    | ok n w' =>
      cases n <;> simp only [Oper.upon] at h ⊢
      case value u => exact ⟨⟨u, a.defers, rfl⟩, h⟩
      case skip => exact ⟨⟨undef, a.defers, rfl⟩, h⟩
      case defer d => exact ⟨⟨undef, d :: a.defers, rfl⟩, h⟩
      case enter f args =>
        refine Calls.mono h fun e w'' he => ?_
        cases e with
        | returned u => exact ⟨⟨u, a.defers, rfl⟩, he⟩
        | panicked c => exact he
        | outgrown => exact he
      case row row args => exact Rows.mono h fun u w'' he => ⟨⟨u, a.defers, rfl⟩, he⟩
    | halt x w' => cases x <;> simp only [Oper.upon] at h ⊢ <;> exact h
  · rename_i hw
    simp only [hw] at h
    exact ⟨⟨undef, a.defers, rfl⟩, h⟩

/-- Whatever order is picked from here on; and S holds behind every operation but the last one. -/
def wpAnyG (P : Program) (md : Region.Mode) (ops : Array Oper) (Q : Exit → Act → World → Prop) (S : World → Prop) : Nat → Array Bool → Act → World → Prop
  | 0, listed, a, w => Region.ready md ops listed = [] ∧ Q .normal a w
  | fuel + 1, listed, a, w =>
    (Region.ready md ops listed = [] → Q .normal a w) ∧
    ∀ i ∈ Region.ready md ops listed, wpOp P ops Q i (fun a' w' => (S w' ∨ Region.ready md ops (listed.setIfInBounds i true) = []) ∧ wpAnyG P md ops Q S fuel (listed.setIfInBounds i true) a' w') a w

/-- Edges lead back. -/
def backB (md : Region.Mode) (ops : Array Oper) : Bool := (List.range ops.size).all fun k => match ops[k]? with
  | some o => o.after.all fun e => !Region.binds md e || decide (e.on < k)
  | none => true
/-- Operation number l waits for number i. -/
def waitsB (md : Region.Mode) (ops : Array Oper) (l i : Nat) : Bool := match ops[l]? with
  | some o => o.after.any fun e => Region.binds md e && e.on == i
  | none => false

/-- All of ms are listed. -/
def listAll (listed : Array Bool) : List Nat → Array Bool
  | [] => listed
  | i :: ms => listAll (listed.setIfInBounds i true) ms
/-- Each of ms, one behind the other, may be taken first; the last operation waits for it; no two leave their values at one place; each leaves it at a place that there is. -/
def takeB (md : Region.Mode) (ops : Array Oper) (last size : Nat) (listed : Array Bool) : List Nat → Bool
  | [] => true
  | i :: ms => (Region.ready md ops listed).contains i && Region.free md ops listed i && waitsB md ops last i && (last != i) && !listed.getD last true &&
      (match (ops[i]?).bind (·.dst) with
        | some d => decide (d < size) && ms.all (fun j => (ops[j]?).bind (·.dst) != some d)
        | none => false) && takeB md ops last size (listed.setIfInBounds i true) ms
def subOps (ops : Array Oper) (ms : List Nat) : List Oper := ms.filterMap fun i => ops[i]?

/-- Is the operation wanted? By the list of the region's places alone. -/
def wantedD (ds : List (Option Tmp)) (o : Oper) (tmps : Array Value) : Bool := match o.guard with
  | none => true
  | some (j, want) => (match ((ds[j]?).bind id).bind (tmps[·]?) with
    | some (.bool b) => some b
    | _ => none) == some want
/-- As wpStill, the region given by its places alone. -/
def wpStillD (P : Program) (ds : List (Option Tmp)) (w : World) (Q : Act → Prop) : List Oper → Act → Prop
  | [], a => Q a
  | o :: rest, a => if wantedD ds o a.tmps then o.still P a w (wpStillD P ds w Q rest) else wpStillD P ds w Q rest (a.put o.dst undef)
/-- What is left to be shown behind an operation that comes alone. -/
def postG (P : Program) (md : Region.Mode) (ops : Array Oper) (Q : Exit → Act → World → Prop) (S : World → Prop) (fuel : Nat) (listed : Array Bool) : Exit → Act → World → Prop
  | .normal, a, w => (S w ∨ Region.ready md ops listed = []) ∧ wpAnyG P md ops Q S fuel listed a w
  | e, a, w => Q e a w

end
attribute [go_sem] wantedD
attribute [irreducible] wpStillD wpAnyG
end Go.Proofs.YtglioflpblpmpaaGreatDoor
