/- Registers on several nodes, by quorums, plainly (Attiya, Bar-Noy, Dolev): what each move does, and what holds of all that is reached. Nothing of the program's code. -/
import Derived.Test.YtglioflpblpmpaaRecLaw
namespace Go.Proofs.Ytglioflpblpmpaa
set_option linter.unusedVariables false
set_option linter.unusedSimpArgs false
structure SEnt where
  t : Nat
  c : Int
  v : Int
def SEnt.less (a b : SEnt) : Prop := a.t < b.t ∨ (a.t = b.t ∧ a.c < b.c)
instance (a b : SEnt) : Decidable (a.less b) := inferInstanceAs (Decidable (_ ∨ _))
def SEnt.le (a b : SEnt) : Prop := a.t < b.t ∨ (a.t = b.t ∧ a.c ≤ b.c)
theorem SEnt.le_refl (a : SEnt) : a.le a := .inr ⟨rfl, Int.le_refl _⟩
theorem SEnt.le_trans {a b c : SEnt} (h : a.le b) (k : b.le c) : a.le c := by
  unfold SEnt.le at *
  omega
theorem SEnt.less_le {a b c : SEnt} (h : a.less b) (k : b.le c) : a.less c := by
  unfold SEnt.le SEnt.less at *
  omega
theorem SEnt.le_less {a b c : SEnt} (h : a.le b) (k : b.less c) : a.less c := by
  unfold SEnt.le SEnt.less at *
  omega
theorem SEnt.less_imp {a b : SEnt} (h : a.less b) : a.le b := by
  unfold SEnt.le SEnt.less at *
  omega
theorem SEnt.le_of_not {a b : SEnt} (h : ¬ a.less b) : b.le a := by
  unfold SEnt.le SEnt.less at *
  omega
theorem SEnt.irrefl (a : SEnt) : ¬ a.less a := by
  unfold SEnt.less
  omega
structure SMsg where
  what : Nat
  client : Nat
  round : Nat
  key : Nat
  e : SEnt
structure SMail where
  src : Nat
  dst : Nat
  m : SMsg
structure SCl where
  busy : Bool
  gone : Bool
  began : Ev
  telling : Bool
  round : Nat
  counted : List Bool
  best : SEnt
structure SSt where
  n : Nat
  k : Nat
  ask : Nat
  tell : Nat
  back : Bool
  ent : Nat → Nat → SEnt
  cl : Nat → SCl
  mails : List SMail
  evs : List Ev
  sts : List SEnt
def keyC (s : SSt) (c : Nat) : Nat := (s.cl c).began.key.toNat
def setCl (s : SSt) (c : Nat) (x : SCl) : SSt := { s with cl := fun i => if i = c then x else s.cl i }
def pushM (ms : List SMail) (m : SMail) : List SMail := if ms.length < 500 then ms ++ [m] else ms
def sendM (s : SSt) (c what : Nat) (e : SEnt) (j : Nat) : SMail := ⟨s.n + c, j, ⟨what, c, (s.cl c).round + 1, keyC s c, e⟩⟩
def sendTo (s : SSt) (c what : Nat) (e : SEnt) (j : Nat) : List SMail := (List.range j).foldl (fun ms i => pushM ms (sendM s c what e i)) s.mails
def roundC (s : SSt) (c what : Nat) : SCl := { s.cl c with round := (s.cl c).round + 1, telling := decide (what = 2), counted := List.replicate s.n false }
def sendF (s : SSt) (c what : Nat) (e : SEnt) : SSt := { setCl s c (roundC s c what) with mails := sendTo s c what e s.n }
def obsF (s : SSt) (e : Ev) (st : SEnt) : SSt := { s with evs := s.evs ++ [e], sts := s.sts ++ [st] }
def evB (c key : Nat) (write : Bool) (value : Int) : Ev := ⟨c, 1, key, if write then 2 else 1, if write then value else 0, 0, 0⟩
def beginF (s : SSt) (c key : Nat) (write : Bool) (value : Int) : SSt :=
  let s1 := obsF s (evB c key write value) ⟨0, 0, 0⟩
  sendF (setCl s1 c { s1.cl c with busy := true, began := evB c key write value, best := ⟨0, -2, 0⟩ }) c 1 ⟨0, 0, 0⟩
def giveF (s : SSt) (c : Nat) : SSt :=
  let s1 := obsF s { (s.cl c).began with ty := 4 } ⟨0, 0, 0⟩
  setCl s1 c { s1.cl c with busy := false, gone := true }
def evD (x : SCl) : Ev := { x.began with ty := 2, res := if x.began.kind = 1 then x.best.v else x.began.res }
def doneS (s : SSt) (c : Nat) : SSt :=
  let s1 := obsF s (evD (s.cl c)) ⟨(s.cl c).best.t, (s.cl c).best.c, 0⟩
  setCl s1 c { s1.cl c with busy := false }
def setEnt (s : SSt) (j key : Nat) (e : SEnt) : SSt := { s with ent := fun a b => if a = j ∧ b = key then e else s.ent a b }
def ownN (s : SSt) (j : Nat) (m : SMsg) : SEnt := if m.what = 2 ∧ (s.ent j m.key).less m.e then m.e else s.ent j m.key
def nodeF (s : SSt) (j : Nat) (m : SMsg) : SSt := { setEnt s j m.key (ownN s j m) with mails := pushM s.mails ⟨j, s.n + m.client, { m with what := 3, e := ownN s j m }⟩ }
def countT (l : List Bool) : Nat := l.countP id
def heardC (x : SCl) (j : Nat) (m : SMsg) : SCl :=
  let x1 := { x with counted := x.counted.set j true }
  if x.telling then x1 else if x.best.less m.e then { x1 with best := m.e } else x1
def newC (x : SCl) (c : Nat) : SCl := if x.began.kind = 2 then { x with best := ⟨x.best.t + 1, c, x.began.a⟩ } else x
def hearF (s : SSt) (j : Nat) (m : SMsg) : SSt :=
  let x := s.cl m.client
  if x.busy = false ∨ m.round ≠ x.round ∨ x.counted.getD j false = true then s else
  let x1 := heardC x j m
  let s1 := setCl s m.client x1
  if x.telling then (if countT x1.counted = s.tell then doneS s1 m.client else s1)
  else if countT x1.counted < s.ask then s1
  else
    let x2 := newC x1 m.client
    let s2 := setCl s m.client x2
    if x.began.kind = 2 ∨ s.back = true then sendF s2 m.client 2 x2.best else doneS s2 m.client
def deliverF (s : SSt) (i : Nat) (m : SMail) : SSt :=
  let s1 := { s with mails := s.mails.eraseIdx i }
  if m.dst < s.n then nodeF s1 m.dst m.m else hearF s1 m.src m.m
def busyN (s : SSt) (j : Nat) : Nat := (List.range j).countP fun c => (s.cl c).busy
theorem busyN_succ (s : SSt) (j : Nat) : busyN s (j + 1) = busyN s j + if (s.cl j).busy = true then 1 else 0 := by
  unfold busyN
  rw [List.range_succ, List.countP_append, List.countP_cons, List.countP_nil]
  simp
theorem busyN_le (s : SSt) (j : Nat) : busyN s j ≤ j := by
  unfold busyN
  exact Nat.le_trans List.countP_le_length (by simp)
theorem mem_push {ms : List SMail} {m x : SMail} (h : x ∈ pushM ms m) : x ∈ ms ∨ x = m := by
  unfold pushM at h
  split at h
  · rcases List.mem_append.1 h with h | h
    · exact .inl h
    · exact .inr (List.mem_singleton.1 h)
  · exact .inl h
theorem mem_send {s : SSt} {c what : Nat} {e : SEnt} {x : SMail} : ∀ {j : Nat}, x ∈ sendTo s c what e j → x ∈ s.mails ∨ ∃ i, i < j ∧ x = sendM s c what e i
  | 0, h => .inl h
  | j + 1, h => by
    unfold sendTo at h
    rw [List.range_succ, List.foldl_append] at h
    rcases mem_push h with h | h
    · rcases mem_send h with h | ⟨i, hi, h⟩
      · exact .inl h
      · exact .inr ⟨i, by omega, h⟩
    · exact .inr ⟨j, by omega, h⟩
end Go.Proofs.Ytglioflpblpmpaa
