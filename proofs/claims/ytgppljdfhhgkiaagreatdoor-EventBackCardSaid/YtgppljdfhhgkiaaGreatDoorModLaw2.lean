/- Ops in an order: plain. -/
import Derived.Test.YtgppljdfhhgkiaaGreatDoorModLaw
namespace Go.Proofs.YtgppljdfhhgkiaaGreatDoor
set_option linter.unusedVariables false
set_option linter.unusedSimpArgs false
structure Op8 where
  proc : Int
  key : Int
  kind : Int
  a : Int
  b : Int
  res : Int
  call : Int
  ret : Int
deriving DecidableEq
def opV (o : Op8) : List Value := [.int .i64 o.proc, .int .i64 o.key, .int .i64 o.kind, .int .i64 o.a, .int .i64 o.b, .int .i64 o.res, .int .i64 o.call, .int .i64 o.ret]
def oAt (l : List Op8) (k : Nat) : Op8 := l.getD k ⟨0, 0, 0, 0, 0, 0, 0, 0⟩
abbrev Sts8 := Nat → Option (List Int)
def updS (g : Sts8) (k : Nat) (st : List Int) : Sts8 := fun j => if j = k then some st else g j
/-- Ops done in an order: the place of the first one that isn't told what it would be, or -1. -/
def runTo (o : Int) (ops : List Op8) : List Int → Nat → Sts8 → Int
  | [], _, _ => -1
  | i :: r, p, g =>
    if i < 0 ∨ (ops.length : Int) ≤ i then (p : Int) else
    match stepF o ((g (oAt ops i.toNat).key.toNat).getD (startF o)) (oAt ops i.toNat).kind (oAt ops i.toNat).a (oAt ops i.toNat).b with
    | none => (p : Int)
    | some (st', res) => if 0 ≤ (oAt ops i.toNat).ret ∧ res ≠ (oAt ops i.toNat).res then (p : Int) else runTo o ops r (p + 1) (updS g (oAt ops i.toNat).key.toNat st')
def runF (o : Int) (ops : List Op8) (order : List Int) : Int := runTo o ops order 0 (fun _ => none)
theorem stepF_len {o : Int} {st st' : List Int} {k a b r : Int} (h : stepF o st k a b = some (st', r)) : st'.length ≤ st.length + 1 := by
  unfold stepF at h
  split at h
  · cases h
  split at h
  · injection h with h; injection h with h1 _; subst h1; simp
  split at h
  · injection h with h; injection h with h1 _; subst h1; simp
  split at h
  · injection h with h
    have h1 : (setF st k a).1 = st' := by rw [h]
    subst h1
    have := posF_le st a
    unfold setF
    split
    · simp [insF]; omega
    · split
      · simp [delF]; omega
      · simp
  split at h
  · split at h
    · injection h with h; injection h with h1 _; subst h1; simp
    · cases h
  · injection h with h
    have h1 : (lineF o st k a).1 = st' := by rw [h]
    subst h1
    unfold lineF
    split
    · simp
    · split
      · simp
      · split
        · simp; omega
        · simp; omega
theorem startF_len (o : Int) : (startF o).length ≤ 1 := by
  unfold startF
  split <;> simp
end Go.Proofs.YtgppljdfhhgkiaaGreatDoor
