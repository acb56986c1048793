/- PkG: StoLaw, StoA, StoB, StoC, StoD, merged. -/
import Derived.Test.YtglioflpblpmpaaGreatDoorPkB
import Derived.Test.YtglioflpblpmpaaGreatDoorProg
import Derived.Test.YtglioflpblpmpaaGreatDoorBase
import Derived.Test.YtglioflpblpmpaaGreatDoorSxX
namespace Go.Proofs.YtglioflpblpmpaaGreatDoor
set_option linter.unusedVariables false
set_option linter.unusedSimpArgs false
structure SEnt where
  t : Nat
  c : Int
  v : Int
def SEnt.less (a b : SEnt) : Prop := a.t < b.t ∨ (a.t = b.t ∧ a.c < b.c)
instance (a b : SEnt) : Decidable (a.less b) := inferInstanceAs (Decidable (_ ∨ _))
def SEnt.le (a b : SEnt) : Prop := a.t < b.t ∨ (a.t = b.t ∧ a.c ≤ b.c)
theorem SEnt.le_refl (a : SEnt) : a.le a := .inr ⟨rfl, Int.le_refl _⟩
theorem SEnt.le_trans {a b c : SEnt} (h : a.le b) (k : b.le c) : a.le c := by
  unfold SEnt.le at *
  omega
theorem SEnt.le_less {a b c : SEnt} (h : a.le b) (k : b.less c) : a.less c := by
  unfold SEnt.le SEnt.less at *
  omega
theorem SEnt.less_imp {a b : SEnt} (h : a.less b) : a.le b := by
  unfold SEnt.le SEnt.less at *
  omega
theorem SEnt.le_of_not {a b : SEnt} (h : ¬ a.less b) : b.le a := by
  unfold SEnt.le SEnt.less at *
  omega
structure SMsg where
  what : Nat
  client : Nat
  round : Nat
  key : Nat
  e : SEnt
structure SMail where
  src : Nat
  dst : Nat
  m : SMsg
structure SCl where
  busy : Bool
  gone : Bool
  began : Ev
  telling : Bool
  round : Nat
  counted : List Bool
  best : SEnt
structure StS where
  n : Nat
  k : Nat
  ask : Nat
  tell : Nat
  back : Bool
  ent : Nat → Nat → SEnt
  cl : Nat → SCl
  mails : List SMail
  evs : List Ev
  sts : List SEnt
def keyC (s : StS) (c : Nat) : Nat := (s.cl c).began.key.toNat
def setCl (s : StS) (c : Nat) (x : SCl) : StS := { s with cl := fun i => if i = c then x else s.cl i }
def pushM (ms : List SMail) (m : SMail) : List SMail := if ms.length < 500 then ms ++ [m] else ms
def sendM (s : StS) (c what : Nat) (e : SEnt) (j : Nat) : SMail := ⟨s.n + c, j, ⟨what, c, (s.cl c).round + 1, keyC s c, e⟩⟩
def sendTo (s : StS) (c what : Nat) (e : SEnt) (j : Nat) : List SMail := (List.range j).foldl (fun ms i => pushM ms (sendM s c what e i)) s.mails
def roundC (s : StS) (c what : Nat) : SCl := { s.cl c with round := (s.cl c).round + 1, telling := decide (what = 2), counted := List.replicate s.n false }
def sendF (s : StS) (c what : Nat) (e : SEnt) : StS := { setCl s c (roundC s c what) with mails := sendTo s c what e s.n }
def obsF (s : StS) (e : Ev) (st : SEnt) : StS := { s with evs := s.evs ++ [e], sts := s.sts ++ [st] }
def evB (c key : Nat) (write : Bool) (value : Int) : Ev := ⟨c, 1, key, if write then 2 else 1, if write then value else 0, 0, 0⟩
def begS (s : StS) (c key : Nat) (write : Bool) (value : Int) : StS :=
  let s1 := obsF s (evB c key write value) ⟨0, 0, 0⟩
  sendF (setCl s1 c { s1.cl c with busy := true, began := evB c key write value, best := ⟨0, -2, 0⟩ }) c 1 ⟨0, 0, 0⟩
def giveF (s : StS) (c : Nat) : StS :=
  let s1 := obsF s { (s.cl c).began with ty := 4 } ⟨0, 0, 0⟩
  setCl s1 c { s1.cl c with busy := false, gone := true }
def evD (x : SCl) : Ev := { x.began with ty := 2, res := if x.began.kind = 1 then x.best.v else x.began.res }
def doneS (s : StS) (c : Nat) : StS :=
  let s1 := obsF s (evD (s.cl c)) ⟨(s.cl c).best.t, (s.cl c).best.c, 0⟩
  setCl s1 c { s1.cl c with busy := false }
def setEnt (s : StS) (j key : Nat) (e : SEnt) : StS := { s with ent := fun a b => if a = j ∧ b = key then e else s.ent a b }
def ownN (s : StS) (j : Nat) (m : SMsg) : SEnt := if m.what = 2 ∧ (s.ent j m.key).less m.e then m.e else s.ent j m.key
def nodeF (s : StS) (j : Nat) (m : SMsg) : StS := { setEnt s j m.key (ownN s j m) with mails := pushM s.mails ⟨j, s.n + m.client, { m with what := 3, e := ownN s j m }⟩ }
def countT (l : List Bool) : Nat := l.countP id
def heardC (x : SCl) (j : Nat) (m : SMsg) : SCl :=
  let x1 := { x with counted := x.counted.set j true }
  if x.telling then x1 else if x.best.less m.e then { x1 with best := m.e } else x1
def newC (x : SCl) (c : Nat) : SCl := if x.began.kind = 2 then { x with best := ⟨x.best.t + 1, c, x.began.a⟩ } else x
def hearF (s : StS) (j : Nat) (m : SMsg) : StS :=
  let x := s.cl m.client
  if x.busy = false ∨ m.round ≠ x.round ∨ x.counted.getD j false = true then s else
  let x1 := heardC x j m
  let s1 := setCl s m.client x1
  if x.telling then (if countT x1.counted = s.tell then doneS s1 m.client else s1)
  else if countT x1.counted < s.ask then s1
  else
    let x2 := newC x1 m.client
    let s2 := setCl s m.client x2
    if x.began.kind = 2 ∨ s.back = true then sendF s2 m.client 2 x2.best else doneS s2 m.client
def deliverF (s : StS) (i : Nat) (m : SMail) : StS :=
  let s1 := { s with mails := s.mails.eraseIdx i }
  if m.dst < s.n then nodeF s1 m.dst m.m else hearF s1 m.src m.m
def busyN (s : StS) (j : Nat) : Nat := (List.range j).countP fun c => (s.cl c).busy
theorem busyN_succ (s : StS) (j : Nat) : busyN s (j + 1) = busyN s j + if (s.cl j).busy = true then 1 else 0 := by
  unfold busyN
  rw [List.range_succ, List.countP_append, List.countP_cons, List.countP_nil]
  simp
theorem busyN_le (s : StS) (j : Nat) : busyN s j ≤ j := by
  unfold busyN
  exact Nat.le_trans List.countP_le_length (by simp)
theorem mem_push {ms : List SMail} {m x : SMail} (h : x ∈ pushM ms m) : x ∈ ms ∨ x = m := by
  unfold pushM at h
  split at h
  · rcases List.mem_append.1 h with h | h
    · exact .inl h
    · exact .inr (List.mem_singleton.1 h)
  · exact .inl h
theorem mem_send {s : StS} {c what : Nat} {e : SEnt} {x : SMail} : ∀ {j : Nat}, x ∈ sendTo s c what e j → x ∈ s.mails ∨ ∃ i, i < j ∧ x = sendM s c what e i
  | 0, h => .inl h
  | j + 1, h => by
    unfold sendTo at h
    rw [List.range_succ, List.foldl_append] at h
    rcases mem_push h with h | h
    · rcases mem_send h with h | ⟨i, hi, h⟩
      · exact .inl h
      · exact .inr ⟨i, by omega, h⟩
    · exact .inr ⟨j, by omega, h⟩
end Go.Proofs.YtglioflpblpmpaaGreatDoor
namespace Go.Proofs.YtglioflpblpmpaaGreatDoor
open Go.RowKit
set_option linter.unusedVariables false
set_option linter.unusedSimpArgs false
/-! ### Blocks of things of one size -/
def flatB (n : Nat) (f : Nat → List Value) : Array Value := ((List.range n).flatMap f).toArray
section
variable {n m : Nat} {f g : Nat → List Value}
theorem flatR_len (hm : ∀ i, (f i).length = m) : ((List.range n).flatMap f).length = n * m := by
  induction n with
  | zero => simp
  | succ n ih => rw [List.range_succ, List.flatMap_append, List.length_append, ih, Nat.succ_mul]; simp [hm]
theorem flatB_size (hm : ∀ i, (f i).length = m) : (flatB n f).size = n * m := by
  unfold flatB
  rw [List.size_toArray, flatR_len hm]
theorem flatB_at (hm : ∀ i, (f i).length = m) {i j : Nat} (hi : i < n) (hj : j < m) : (flatB n f)[i * m + j]? = (f i)[j]? := by
  unfold flatB
  rw [List.getElem?_toArray]
  exact flat_get hm (List.range n) i j i (by rw [List.getElem?_range hi]) hj
theorem flatB_get (hm : ∀ i, (f i).length = m) {i j : Nat} {v : Value} (hi : i < n) (hj : (f i)[j]? = some v) : (flatB n f)[i * m + j]? = some v := by
  have := (List.getElem?_eq_some_iff.1 hj).1
  rw [hm] at this
  rw [flatB_at hm hi this, hj]
theorem flatB_congr (h : ∀ i, i < n → f i = g i) : flatB n f = flatB n g := by
  unfold flatB
  congr 1
  have : ∀ l : List Nat, (∀ i ∈ l, i < n) → l.flatMap f = l.flatMap g := fun l => by
    induction l with
    | nil => intro _; rfl
    | cons a l ih => intro hl; rw [List.flatMap_cons, List.flatMap_cons, h a (hl a (by simp)), ih (fun i hi => hl i (by simp [hi]))]
  exact this _ (fun i hi => List.mem_range.1 hi)
theorem splice_at (vs : List Value) : ∀ (cs : Array Value) (o x : Nat), o + vs.length ≤ cs.size → (splice cs o vs)[x]? = if o ≤ x ∧ x < o + vs.length then vs[x - o]? else cs[x]? := by
  induction vs with
  | nil => intro cs o x _; rw [if_neg (fun h => by have h1 := h.1; have h2 := h.2; rw [List.length_nil] at h2; omega)]; rfl
  | cons v vs ih =>
    intro cs o x h
    rw [List.length_cons] at h
    rw [splice, ih _ _ _ (by rw [Array.size_setIfInBounds]; omega), List.length_cons]
    by_cases hx : x = o
    · subst hx
      rw [if_neg (by omega), if_pos (by omega), Array.getElem?_setIfInBounds]
      rw [if_pos rfl, if_pos (by omega), Nat.sub_self]
      rfl
    · by_cases h1 : o + 1 ≤ x ∧ x < o + 1 + vs.length
      · rw [if_pos h1, if_pos (by omega), show x - o = (x - (o + 1)) + 1 by omega, List.getElem?_cons_succ]
      · rw [if_neg h1, if_neg (by omega), Array.getElem?_setIfInBounds, if_neg (fun e => hx e.symm)]
/-- Some cells of the i-th thing are written. -/
theorem flatB_splice (hm : ∀ i, (f i).length = m) (hg : ∀ i, (g i).length = m) {i j : Nat} {vs : List Value} (hi : i < n) (hj : j + vs.length ≤ m) (hne : ∀ k, k ≠ i → g k = f k)
    (h : g i = (f i).take j ++ vs ++ (f i).drop (j + vs.length)) : splice (flatB n f) (i * m + j) vs = flatB n g := by
  have hin : i * m + m ≤ n * m := by
    rw [← Nat.succ_mul]; exact Nat.mul_le_mul_right _ hi
  apply Array.ext_getElem?
  intro x
  rw [splice_at _ _ _ _ (by rw [flatB_size hm]; omega)]
  by_cases hx : x < n * m
  · have hm0 : 0 < m := by
      rcases Nat.eq_zero_or_pos m with h0 | h0
      · subst h0; omega
      · exact h0
    obtain ⟨a, b, hab, hb⟩ : ∃ a b, x = a * m + b ∧ b < m := ⟨x / m, x % m, by rw [Nat.mul_comm]; exact (Nat.div_add_mod x m).symm, Nat.mod_lt _ hm0⟩
    subst hab
    have ha : a < n := by
      refine Nat.lt_of_not_le fun hn => ?_
      have : n * m ≤ a * m := Nat.mul_le_mul_right _ hn
      omega
    rw [flatB_at hg ha hb]
    by_cases hai : a = i
    · subst hai
      rw [h]
      by_cases hbj : j ≤ b ∧ b < j + vs.length
      · rw [if_pos (by omega), List.getElem?_append_left (by simp [hm]; omega), List.getElem?_append_right (by simp [hm]; omega)]
        simp only [List.length_take, hm]
        congr 1
        omega
      · rw [if_neg (by omega), flatB_at hm ha hb]
        by_cases hlt : b < j
        · rw [List.getElem?_append_left (by simp [hm]; omega), List.getElem?_append_left (by simp [hm]; omega), List.getElem?_take, if_pos hlt]
        · rw [List.getElem?_append_right (by simp [hm]; omega), List.getElem?_drop]
          simp only [List.length_append, List.length_take, hm]
          congr 1
          omega
    · rw [if_neg, flatB_at hm ha hb, hne a hai]
      intro hc
      rcases Nat.lt_or_gt_of_ne hai with h1 | h1
      · have : (a + 1) * m ≤ i * m := Nat.mul_le_mul_right _ h1
        rw [Nat.succ_mul] at this
        omega
      · have : (i + 1) * m ≤ a * m := Nat.mul_le_mul_right _ h1
        rw [Nat.succ_mul] at this
        omega
  · rw [if_neg (by omega), Array.getElem?_eq_none (by rw [flatB_size hm]; omega), Array.getElem?_eq_none (by rw [flatB_size hg]; omega)]
theorem flatB_set (hm : ∀ i, (f i).length = m) (hg : ∀ i, (g i).length = m) {i j : Nat} {v : Value} (hi : i < n) (hj : j < m) (hne : ∀ k, k ≠ i → g k = f k) (h : g i = (f i).take j ++ [v] ++ (f i).drop (j + 1)) :
    (flatB n f).setIfInBounds (i * m + j) v = flatB n g := flatB_splice hm hg (vs := [v]) hi hj hne h
end
/-! ### Values -/
def entL (e : SEnt) : List Value := [.int .i64 (e.t : Int), .int .i64 e.c, .int .i64 e.v]
def msgL (m : SMsg) : List Value := [.int .i64 (m.what : Int), .int .i64 (m.client : Int), .int .i64 (m.round : Int), .int .i64 (m.key : Int), .int .i64 (m.e.t : Int), .int .i64 m.e.c, .int .i64 m.e.v]
def mailL (m : SMail) : List Value := .int .i64 (m.src : Int) :: .int .i64 (m.dst : Int) :: msgL m.m
def stmL (e : SEnt) : List Value := [.int .i64 (e.t : Int), .int .i64 e.c]
def clL (x : SCl) (cv : Value) : List Value := [.bool x.busy, .bool x.gone, .int .i64 x.began.proc, .int .i64 x.began.ty, .int .i64 x.began.key, .int .i64 x.began.kind, .int .i64 x.began.a, .int .i64 x.began.b, .int .i64 x.began.res, .bool x.telling, .int .i64 (x.round : Int), cv, .int .i64 (x.best.t : Int), .int .i64 x.best.c, .int .i64 x.best.v]
def boolsV (l : List Bool) : List Value := l.map Value.bool
/-- Where a store lies. -/
structure StL where
  sb : Nat
  nb : Nat
  cb : Nat
  cw : Nat → Option Nat
  MA : Option Addr
  mc : Nat
  LA : Option Addr
  ln : Nat
  lc : Nat
  cut : Bool
  lv : List Value
  LD : Nat → Prop
  EA : Option Addr
  ec : Nat
  SA : Option Addr
  sc : Nat
def cntV (L : StL) (s : StS) (c : Nat) : Value := match L.cw c with
  | none => .slice none 0 0
  | some b => .slice (some ⟨b, 0, none⟩) s.n s.n
def cntE (L : StL) (s : StS) (c : Nat) : Ent := match L.cw c with
  | none => Ent.nil
  | some b => B b 4 (boolsV (s.cl c).counted).toArray
def clF (L : StL) (s : StS) (c : Nat) : List Value := clL (s.cl c) (cntV L s c)
theorem clF_len (L : StL) (s : StS) (c : Nat) : (clF L s c).length = 15 := rfl
def ndF (s : StS) (i : Nat) : List Value := entL (s.ent (i / 8) (i % 8))
theorem ndF_len (s : StS) (i : Nat) : (ndF s i).length = 3 := rfl
def stoC (L : StL) (s : StS) : Array Value := #[.int .i64 (s.n : Int), .int .i64 (s.k : Int), .int .i64 (s.ask : Int), .int .i64 (s.tell : Int), .bool s.back, .slice (some ⟨L.nb, 0, none⟩) s.n s.n, .slice (some ⟨L.cb, 0, none⟩) s.k s.k,
  .slice L.MA s.mails.length L.mc, .slice L.LA L.ln L.lc, .bool L.cut, .slice L.EA s.evs.length L.ec, .slice L.SA s.sts.length L.sc]
/-- The rows of the links: each of the values is a slice of bools in blocks of D. -/
def RowsE (vals : List Value) (D : Nat → Prop) : Ent := ⟨D, fun w => (∀ k, D k → k < w.heap.size) ∧ ∀ v ∈ vals, ∃ l, Bools w D v l ∧ l.length ≤ 1000⟩
theorem RowsE.ok {w : World} {vals : List Value} {D : Nat → Prop} (hD : ∀ k, D k → k < w.heap.size) (h : ∀ v ∈ vals, ∃ l, Bools w D v l ∧ l.length ≤ 1000) : (RowsE vals D).ok w :=
  Ent.mk_ok ⟨hD, h⟩ (fun k hk => hD k hk) (fun S w1 w2 hc hS h1 => ⟨fun k hk => Nat.lt_of_lt_of_le (h1.1 k hk) hc.size, fun v hv => by
    obtain ⟨l, hl, hb⟩ := h1.2 v hv
    exact ⟨l, Rd.chg hl hc (fun k hk => hS k hk), hb⟩⟩)
def spt (L : StL) (s : StS) : List Ent :=
  [B L.sb 73 (stoC L s), B L.nb 80 (flatB (s.n * 8) (ndF s)), B L.cb 84 (flatB s.k (clF L s)), Many s.k (cntE L s), Row 0 89 9 L.MA s.mails.length L.mc (s.mails.flatMap mailL),
    Row 0 55 1 L.LA L.ln L.lc L.lv, RowsE L.lv L.LD, Row 0 48 7 L.EA s.evs.length L.ec (s.evs.flatMap evL), Row 0 77 2 L.SA s.sts.length L.sc (s.sts.flatMap stmL)]
/-- What the walk leans on. M bounds times and rounds. -/
structure SOk (L : StL) (s : StS) (M : Nat) : Prop where
  n1 : 1 ≤ s.n ∧ s.n ≤ 7
  k1 : 1 ≤ s.k ∧ s.k ≤ 8
  ask : 1 ≤ s.ask ∧ s.ask ≤ s.n
  tell : 1 ≤ s.tell ∧ s.tell ≤ s.n
  mlen : s.mails.length ≤ 500
  elen : s.evs.length ≤ 120
  slen : s.sts.length = s.evs.length
  free : s.evs.length + busyN s s.k ≤ 120
  mok : ∀ m ∈ s.mails, m.m.client < s.k ∧ m.m.key < 8 ∧ m.m.round ≤ M ∧ m.m.e.t ≤ M ∧ m.m.what ≤ 3 ∧ ((m.dst < s.n ∧ m.src = s.n + m.m.client) ∨ (m.src < s.n ∧ m.dst = s.n + m.m.client))
  cok : ∀ c, c < s.k → (s.cl c).round ≤ M ∧ (s.cl c).best.t ≤ M ∧ ((s.cl c).busy = true → L.cw c ≠ none ∧ (s.cl c).counted.length = s.n ∧ 0 ≤ (s.cl c).began.key ∧ (s.cl c).began.key < 8)
  clen : ∀ c b, c < s.k → L.cw c = some b → (s.cl c).counted.length = s.n
  eok : ∀ j key, j < s.n → key < 8 → (s.ent j key).t ≤ M
/-! ### slices.Delete at mails -/
theorem infoMail : (Tryz.prog.info? 89).map (fun i => (i.zero, i.size, i.bytes)) = some (some (.agg #[.int .i64 0, .int .i64 0, .int .i64 0, .int .i64 0, .int .i64 0, .int .i64 0, .int .i64 0, .int .i64 0, .int .i64 0]), 9, 72) := by kernel_rfl
theorem zeroMail (w : World) : (zeroValue 89).run Tryz.prog w = .ok (.agg #[.int .i64 0, .int .i64 0, .int .i64 0, .int .i64 0, .int .i64 0, .int .i64 0, .int .i64 0, .int .i64 0, .int .i64 0]) w := by kernel_rfl
theorem delete_cells (cur : Array Value) (xs news zs : List Value) (n k size : Nat) (htake : cur.toList.take (n * size) = xs) (hlen : xs.length = n * size) (hk : k < n) (hnews : news = xs.drop ((k + 1) * size)) (hz : zs.length = size) (hcs : n * size ≤ cur.size) :
    (splice (splice cur (0 + k * size) news) ((k + (n - (k + 1))) * size) zs).toList.take ((n - 1) * size) = xs.take (k * size) ++ xs.drop ((k + 1) * size) := by
  have e1 : (k + (n - (k + 1))) = n - 1 := by omega
  have hnl : news.length = (n - (k + 1)) * size := by rw [hnews, List.length_drop, hlen, Nat.sub_mul]
  have e2 : k * size + (n - (k + 1)) * size = (n - 1) * size := by rw [← Nat.add_mul]; congr 1
  have e3 : (n - 1) * size + size = n * size := by
    have : n = (n - 1) + 1 := by omega
    conv => rhs; rw [this, Nat.add_mul, Nat.one_mul]
  have e4 : k * size ≤ n * size := Nat.mul_le_mul_right _ (by omega)
  rw [e1, splice_list _ _ _ (by rw [splice_size, hz]; omega), List.append_assoc, List.take_append_of_le_length (by rw [List.length_take, Array.length_toList, splice_size]; omega), List.take_take, Nat.min_self,
    splice_list _ _ _ (by rw [hnl]; omega), Nat.zero_add, List.take_append_of_le_length (by rw [List.length_append, List.length_take, Array.length_toList, hnl]; omega), List.take_of_length_le (by rw [List.length_append, List.length_take, Array.length_toList, hnl]; omega), hnews, ← htake, List.take_take, Nat.min_eq_left e4]
set_option maxHeartbeats 400000 in
set_option maxRecDepth 100000 in
theorem sdelete_any (base n k : Nat) (v : Value) (xs : List Value) (w : World) (h : w.ownsRow base 89 9 v n xs) (h1 : ∀ u ∈ xs, u.oneCell' = true) (hk : k < n) (hn : n ≤ 1000) :
    Calls Tryz.prog 43 #[v, .int .i64 k, .int .i64 ((k : Int) + 1)] w fun e w' => ∃ v', e = .returned v' ∧
      w'.ownsRow base 89 9 v' (n - 1) (cutAt 9 k xs) ∧ Chg (fun k => some k = v.ownBlock) w w' ∧ v'.ownBlock = v.ownBlock := by
  obtain ⟨i0, hi0, hz0, hz1, hz2⟩ := info_parts infoMail
  rcases h.2 with ⟨rfl, rfl⟩ | ⟨g, cap, cur, rfl, hbg, hg, hnc, hcm, hcs, htake⟩
  · omega
  have hlen := h.1
  simp only [maxLen] at hcm
  have hB : Blk w g 89 cur := hg
  obtain ⟨news, hnews⟩ : ∃ news, news = xs.drop ((k + 1) * 9) := ⟨_, rfl⟩
  have hnl : news.length = (n - (k + 1)) * 9 := by rw [hnews, List.length_drop, hlen]; omega
  have hget : ∀ j u, xs[j]? = some u → w.cell? ⟨g, j, none⟩ = some u := fun j u hj => by
    rw [hB.cell, ← Array.getElem?_toList]
    rw [← htake, List.getElem?_take] at hj
    split at hj
    · exact hj
    · cases hj
  obtain ⟨A, hA, hsrc⟩ : ∃ A : Addr, (if cap = k + 1 then some (⟨g, 0, none⟩ : Addr) else some ⟨g, (k + 1) * 9, none⟩) = some A ∧ Hid (∀ t u, news[t]? = some u → w.drew.cell? (A.add t) = some u) := by
    by_cases hc : cap = k + 1
    · refine ⟨_, by rw [if_pos hc], fun t u hu => ?_⟩
      have h0 : news.length = 0 := by rw [hnl]; omega
      rw [List.length_eq_zero_iff.1 h0] at hu
      simp at hu
    · refine ⟨_, by rw [if_neg hc], fun t u hu => ?_⟩
      rw [Addr.add_lit]
      rw [hnews, List.getElem?_drop] at hu
      exact hget _ u hu
  have s1 : Hid (news.length = (n - (k + 1)) * 9) := hnl
  have s2 : Hid (∀ u ∈ news, u.oneCell' = true) := fun u hu => h1 u (List.mem_of_mem_drop (hnews ▸ hu))
  have s3 : Hid (∀ t, t < news.length → (w.drew.cell? ⟨g, 0 + k * 9 + t, none⟩).isSome = true ∧ w.drew.frozen? ⟨g, 0 + k * 9 + t, none⟩ = false) := by
    intro t ht
    refine ⟨?_, hB.frozen _⟩
    show (w.cell? _).isSome = true
    rw [hB.cell, Array.getElem?_eq_getElem (by rw [hcs]; omega)]
    rfl
  obtain ⟨W1, hW1⟩ : ∃ W1, W1 = w.drew.setCells g (0 + k * 9) news := ⟨_, rfl⟩
  have hB1 : Blk W1 g 89 (splice cur (0 + k * 9) news) := by rw [hW1]; exact hB.drew.setCells _ _
  have hcl : ∀ ty, (Builtin.clear_ #[66] ty #[.slice (some ⟨g, (k + (n - (k + 1))) * 9, none⟩) (n - (k + (n - (k + 1)))) (cap - (k + (n - (k + 1))))]).run Tryz.prog W1 = .ok (.tuple #[]) (W1.setCells g ((k + (n - (k + 1))) * 9) (Builtin.zeroCells #[.int .i64 0, .int .i64 0, .int .i64 0, .int .i64 0, .int .i64 0, .int .i64 0, .int .i64 0, .int .i64 0, .int .i64 0] (n - (k + (n - (k + 1))))).toList) :=
    fun ty => run_clear_row W1 _ _ ty _ Tryz.underlying66 zeroMail (by simp [Value.cells, Value.oneCell']) g _ _ _ (by omega) (fun j hj => by
      rw [hB1.cell, Array.getElem?_eq_getElem (by rw [splice_size, hcs]; simp [Value.cells] at hj; omega)]; rfl) (fun j _ => hB1.frozen _)
  have HW := Lib.hid hW1
  have HB1 := Lib.hid hB1
  have hkc : k ≤ cap := by omega
  have hkc1 : k + 1 ≤ cap := by omega
  have e1 : IntKind.i64.wrap ((k : Int) + 1) = (k : Int) + 1 := by rw [IntKind.wrap_i64]; omega
  have hne : ((k : Int) == (k : Int) + 1) = false := by rw [beq_eq_false_iff_ne]; omega
  have HX := Lib.hid htake
  have HN := Lib.hid hnews
  have HL := Lib.hid hlen
  have HCS := Lib.hid hcs
  clear hget hB hB1 hW1 hnl hnews h h1 hg htake hlen hcs
  go_enter Tryz.func43, Tryz.ntmps43
  have hp0 : (0 : Int) ≤ (k : Int) + 1 := by omega
  have hp1 : (k : Int) + 1 ≤ (n : Int) := by omega
  have hp2 : ((k : Int) + 1).toNat = k + 1 := by omega
  have hp3 : (k : Int) ≤ (cap : Int) := by omega
  go_wp2_with fail
  go_region_law (refine step_append_room rfl (.tmp 22) (.tmp 25) 66 rfl 89 i0 9 Tryz.underlying66 hi0 hz1 g 0 k cap (by simp [Act.eval, Act.put]) A (n - (k + 1)) (cap - (k + 1)) news (by simp [Act.eval, Act.put]) s1.out hsrc.out s2.out (by omega) s3.out ?_; rw [← HW.out])
  go_wp2
  go_ret
  refine ⟨.slice (some ⟨g, 0, none⟩) (k + (n - (k + 1))) cap, rfl, ⟨?_, .inr ⟨g, cap, splice (splice cur (0 + k * 9) news) ((k + (n - (k + 1))) * 9) (Builtin.zeroCells #[.int .i64 0, .int .i64 0, .int .i64 0, .int .i64 0, .int .i64 0, .int .i64 0, .int .i64 0, .int .i64 0, .int .i64 0] (n - (k + (n - (k + 1))))).toList, by rw [show k + (n - (k + 1)) = n - 1 by omega], hbg, HB1.out.setCells _ _, by omega, by simp only [maxLen]; omega, ?_, ?_⟩⟩, ?_, rfl⟩
  · simp only [cutAt, List.length_append, List.length_take, List.length_drop, HL.out]; omega
  · rw [splice_size, splice_size]; exact HCS.out
  · exact delete_cells cur xs news _ n k 9 HX.out HL.out (by omega) HN.out (by simp [Builtin.zeroCells]; omega) (by rw [HCS.out]; omega)
  · have hS : (fun k => some k = (Value.slice (some ⟨g, 0, none⟩) n cap).ownBlock) g ∨ w.heap.size ≤ g := .inl rfl
    refine Chg.setCells hS _ _ ?_
    rw [HW.out]
    exact Chg.setCells hS _ _ (Chg.refl _ w).drew
end Go.Proofs.YtglioflpblpmpaaGreatDoor
namespace Go.Proofs.YtglioflpblpmpaaGreatDoor
open Go.RowKit
set_option linter.unusedVariables false
set_option linter.unusedSimpArgs false
/-! ### Parts at the end handed over to a call -/
def DLs (l : List Ent) : Nat → Prop := fun k => ∃ e ∈ l, e.D k
section
variable {S : Nat → Prop} {w0 w w' : World} {X l l' : List Ent}
theorem Inv.fromB (h : Inv S w0 w (X ++ l)) : Inv (DLs l) w w l :=
  ⟨Chg.refl _ w, fun e he => h.ok e (by simp [he]), fun e he k hk => .inl ⟨e, he, hk⟩, (List.pairwise_append.1 h.apart).2.1⟩
theorem Inv.callB (h : Inv S w0 w (X ++ l)) (h' : Inv (DLs l) w w' l') : Inv S w0 w' (X ++ l') := by
  obtain ⟨p1, p2, p3⟩ := List.pairwise_append.1 h.apart
  refine ⟨h.chg.trans' h'.chg fun k hk1 hk2 => ?_, fun x hx => ?_, fun x hx k hk => ?_, List.pairwise_append.2 ⟨p1, h'.apart, fun a ha b hb k h1 h2 => ?_⟩⟩
  · obtain ⟨e, he, hk2⟩ := hk2
    rcases h.own e (by simp [he]) k hk2 with h1 | h1
    · exact h1
    · omega
  · rcases List.mem_append.1 hx with hx | hx
    · exact (h.ok x (by simp [hx])).chg h'.chg (fun k hk hk2 => by obtain ⟨e, he, hk2⟩ := hk2; exact p3 x hx e he k hk hk2)
    · exact h'.ok x hx
  · rcases List.mem_append.1 hx with hx | hx
    · exact h.own x (by simp [hx]) k hk
    · rcases h'.own x hx k hk with ⟨e, he, h1⟩ | h1
      · exact h.own e (by simp [he]) k h1
      · exact .inr (Nat.le_trans h.chg.size h1)
  · rcases h'.own b hb k h2 with ⟨e, he, h3⟩ | h3
    · exact p3 a ha e he k h1 h3
    · have := (h.ok a (by simp [ha])).2.1 k h1
      omega
end
theorem mailL_len (m : SMail) : (mailL m).length = 9 := rfl
theorem mails_one (ms : List SMail) : ∀ u ∈ ms.flatMap mailL, u.oneCell' = true := fun u hu => by
  obtain ⟨m, _, h⟩ := List.mem_flatMap.1 hu
  simp only [mailL, msgL, List.mem_cons, List.not_mem_nil, or_false] at h
  rcases h with h | h | h | h | h | h | h | h | h <;> rw [h] <;> rfl
theorem mails_cut (ms : List SMail) (k : Nat) : cutAt 9 k (ms.flatMap mailL) = (ms.eraseIdx k).flatMap mailL := flat_cut mailL_len ms k
theorem mails_push (ms : List SMail) (m : SMail) : (ms ++ [m]).flatMap mailL = ms.flatMap mailL ++ mailL m := by simp
section
variable {w : World} {D : Nat → Prop}
theorem mail_cells {A : Option Addr} {c i : Nat} {ms : List SMail} {m : SMail} (h : Rd w D 9 (.slice A ms.length c) ms.length (ms.flatMap mailL)) (hm : ms[i]? = some m) : ∃ b o, A = some ⟨b, o, none⟩ ∧ D b ∧ ∀ j u, (mailL m)[j]? = some u → w.cell? ⟨b, o + i * 9 + j, none⟩ = some u := by
  have hi := (List.getElem?_eq_some_iff.1 hm).1
  obtain ⟨A', c', hv, h1, h2, h3, h4⟩ := h
  injection hv with ha _ _
  subst ha
  obtain ⟨b, o, rfl, hb, hc⟩ := h4 (by omega)
  refine ⟨b, o, rfl, hb, fun j u hj => ?_⟩
  have hj9 : j < 9 := by have := (List.getElem?_eq_some_iff.1 hj).1; rwa [mailL_len] at this
  rw [Nat.add_assoc]
  exact hc (i * 9 + j) u (by rw [flat_get mailL_len ms i j m hm hj9]; exact hj)
end
set_option maxHeartbeats 400000 in
theorem nhas_any (b : Nat) (i : Int) (A : Option Addr) (n c : Nat) (w0 : World) (hc : w0.cell? ⟨b, 7, none⟩ = some (.slice A n c)) :
    Calls Tryz.prog 63 #[.pointer (some ⟨b, 7, none⟩), .int .i64 i] w0 fun en w' => en = .returned (.bool (decide (0 ≤ i ∧ i < (n : Int)))) ∧ Pure w0 w' := by
  have hI := Inv.start (fun _ => False) w0
  refine calls_of_W (N := Tryz.f63.ntmps) Tryz.func63 rfl rfl rfl ?_
  refine W_seq ?_
  refine W_region ?_
  refine WL_val rfl rfl rfl (by exact rAsgnB rfl rfl) ?_
  refine WL_nil ?_
  by_cases h0 : i < 0
  · refine W_seq ?_
    refine W_region ?_
    refine WL_val rfl rfl rfl (by exact rMoveI rfl rfl) ?_
    refine WL_val rfl rfl rfl (by exact rGeqF rfl rfl rfl (by omega)) ?_
    refine WL_val rfl rfl rfl (by exact rMoveB rfl rfl) ?_
    refine WL_skip rfl rfl rfl ?_
    refine WL_skip rfl rfl rfl ?_
    refine WL_skip rfl rfl rfl ?_
    refine WL_skip rfl rfl rfl ?_
    refine WL_skip rfl rfl rfl ?_
    refine WL_skip rfl rfl rfl ?_
    refine WL_skip rfl rfl rfl ?_
    refine WL_val rfl rfl rfl (by exact rPickFB rfl rfl rfl) ?_
    refine WL_val rfl rfl rfl (by exact rAsgnB rfl rfl) ?_
    refine WL_nil ?_
    refine W_ret ?_
    refine ret1 4 (.inr rfl) rfl ⟨?_, hI.pu⟩
    rw [decide_eq_false (by omega)]; rfl
  · by_cases h1 : i < (n : Int)
    · refine W_seq ?_
      refine W_region ?_
      refine WL_val rfl rfl rfl (by exact rMoveI rfl rfl) ?_
      refine WL_val rfl rfl rfl (by exact rGeqT rfl rfl rfl (by omega)) ?_
      refine WL_val rfl rfl rfl (by exact rMoveB rfl rfl) ?_
      refine WL_val rfl rfl rfl (by exact rMoveI rfl rfl) ?_
      refine WL_val rfl rfl rfl (by exact rMoveP rfl rfl) ?_
      refine WL_val rfl rfl rfl (rNilChk rfl rfl) ?_
      refine WL_val rfl rfl rfl (by exact rFld0 rfl (by kernel_rfl) rfl) ?_
      refine WL_val rfl rfl rfl (by exact rLd (v := .slice _ _ _) rfl (by kernel_rfl) rfl (by exact hI.oldp hc)) ?_
      refine WL_val rfl rfl rfl (rLen rfl Tryz.underlying66 rfl) ?_
      refine WL_val rfl rfl rfl (by exact rLssT rfl rfl rfl (by omega)) ?_
      refine WL_val rfl rfl rfl (by exact rPickTB rfl rfl rfl) ?_
      refine WL_val rfl rfl rfl (by exact rAsgnB rfl rfl) ?_
      refine WL_nil ?_
      refine W_ret ?_
      refine ret1 4 (.inr rfl) rfl ⟨?_, hI.pu⟩
      rw [decide_eq_true (by omega)]; rfl
    · refine W_seq ?_
      refine W_region ?_
      refine WL_val rfl rfl rfl (by exact rMoveI rfl rfl) ?_
      refine WL_val rfl rfl rfl (by exact rGeqT rfl rfl rfl (by omega)) ?_
      refine WL_val rfl rfl rfl (by exact rMoveB rfl rfl) ?_
      refine WL_val rfl rfl rfl (by exact rMoveI rfl rfl) ?_
      refine WL_val rfl rfl rfl (by exact rMoveP rfl rfl) ?_
      refine WL_val rfl rfl rfl (rNilChk rfl rfl) ?_
      refine WL_val rfl rfl rfl (by exact rFld0 rfl (by kernel_rfl) rfl) ?_
      refine WL_val rfl rfl rfl (by exact rLd (v := .slice _ _ _) rfl (by kernel_rfl) rfl (by exact hI.oldp hc)) ?_
      refine WL_val rfl rfl rfl (rLen rfl Tryz.underlying66 rfl) ?_
      refine WL_val rfl rfl rfl (by exact rLssF rfl rfl rfl (by omega)) ?_
      refine WL_val rfl rfl rfl (by exact rPickTB rfl rfl rfl) ?_
      refine WL_val rfl rfl rfl (by exact rAsgnB rfl rfl) ?_
      refine WL_nil ?_
      refine W_ret ?_
      refine ret1 4 (.inr rfl) rfl ⟨?_, hI.pu⟩
      rw [decide_eq_false (by omega)]; rfl
def zero9 : Array Value := #[.int .i64 0, .int .i64 0, .int .i64 0, .int .i64 0, .int .i64 0, .int .i64 0, .int .i64 0, .int .i64 0, .int .i64 0]
set_option maxHeartbeats 1000000 in
theorem at_none (b : Nat) (i : Int) (A : Option Addr) (n c : Nat) (w0 : World) (hc : w0.cell? ⟨b, 7, none⟩ = some (.slice A n c)) (hi : ¬ (0 ≤ i ∧ i < (n : Int))) :
    Calls Tryz.prog 41 #[.pointer (some ⟨b, 7, none⟩), .int .i64 i] w0 fun en w' => en = .returned (.tuple #[.agg zero9, .bool false]) ∧ Pure w0 w' := by
  have hI := Inv.start (fun _ => False) w0
  refine calls_of_W (N := Tryz.f41.ntmps) Tryz.func41 rfl rfl rfl ?_
  refine W_seq ?_
  refine W_region ?_
  refine WL_alloc (u := .agg zero9) (vs := zero9) hI rfl rfl rfl rfl (by kernel_rfl) rfl ?_
  clear hI; rintro b4 w - - hI
  refine WL_val rfl rfl rfl (by exact rAsgnB rfl rfl) ?_
  refine WL_nil ?_
  refine W_seq ?_
  refine W_seq ?_
  refine W_region ?_
  refine WL_val rfl rfl rfl (by exact rMoveP rfl rfl) ?_
  refine WL_val rfl rfl rfl (by exact rMoveI rfl rfl) ?_
  refine WL_call rfl rfl rfl (rCall (vs := [.pointer _, .int .i64 _]) rfl Tryz.func63 rfl rfl rfl) ?_
  refine (nhas_any b i A n c _ (hI.oldp hc)).mono ?_
  rintro e w1 ⟨rfl, hp⟩
  rw [decide_eq_false hi]
  refine ⟨_, rfl, ?_⟩
  replace hI := hI.pure hp
  refine WL_val rfl rfl rfl (by exact rNotF rfl rfl) ?_
  refine WL_nil ?_
  refine W_cond true rfl ?_
  refine W_seq ?_
  refine W_region ?_
  refine WL_val rfl rfl rfl (show Runs _ _ _ _ (.agg zero9) from rBuild (qs := []) (vs := [.int .i64 0, .int .i64 0, .int .i64 0, .int .i64 0, .int .i64 0, .int .i64 0, .int .i64 0, .int .i64 0, .int .i64 0]) [.int .i64 0, .int .i64 0, .int .i64 0, .int .i64 0, .int .i64 0, .int .i64 0, .int .i64 0, .int .i64 0, .int .i64 0] [] rfl rfl rfl (fun _ => by kernel_rfl)) ?_
  refine WL_stw0 (u := .agg zero9) (vs := zero9) (n := 9) hI rfl rfl rfl rfl rfl rfl (by kernel_rfl) rfl rfl rfl ?_
  clear hI; intro w hI
  refine WL_val rfl rfl rfl (by exact rAsgnB rfl rfl) ?_
  refine WL_nil ?_
  refine W_ret ?_
  exact retC2 (n := 9) (.inr rfl) rfl rfl (by kernel_rfl) (by kernel_rfl) rfl hI.g0 ⟨rfl, hI.pu⟩
set_option maxHeartbeats 1000000 in
theorem at_some (b j : Nat) (A : Option Addr) (c : Nat) (ms : List SMail) (m : SMail) (D : Nat → Prop) (w0 : World) (hc : w0.cell? ⟨b, 7, none⟩ = some (.slice A ms.length c)) (hR : Rd w0 D 9 (.slice A ms.length c) ms.length (ms.flatMap mailL)) (hm : ms[j]? = some m) :
    Calls Tryz.prog 41 #[.pointer (some ⟨b, 7, none⟩), .int .i64 (j : Int)] w0 fun en w' => en = .returned (.tuple #[.agg (mailL m).toArray, .bool true]) ∧ Pure w0 w' := by
  have hI := Inv.start (fun _ => False) w0
  have hj := (List.getElem?_eq_some_iff.1 hm).1
  obtain ⟨g, o, rfl, _, hcell⟩ := mail_cells hR hm
  refine calls_of_W (N := Tryz.f41.ntmps) Tryz.func41 rfl rfl rfl ?_
  refine W_seq ?_
  refine W_region ?_
  refine WL_alloc (u := .agg zero9) (vs := zero9) hI rfl rfl rfl rfl (by kernel_rfl) rfl ?_
  clear hI; rintro b4 w - - hI
  refine WL_val rfl rfl rfl (by exact rAsgnB rfl rfl) ?_
  refine WL_nil ?_
  refine W_seq ?_
  refine W_seq ?_
  refine W_region ?_
  refine WL_val rfl rfl rfl (by exact rMoveP rfl rfl) ?_
  refine WL_val rfl rfl rfl (by exact rMoveI rfl rfl) ?_
  refine WL_call rfl rfl rfl (rCall (vs := [.pointer _, .int .i64 _]) rfl Tryz.func63 rfl rfl rfl) ?_
  refine (nhas_any b (j : Int) _ _ c _ (hI.oldp hc)).mono ?_
  rintro e w1 ⟨rfl, hp⟩
  rw [decide_eq_true (by omega)]
  refine ⟨_, rfl, ?_⟩
  replace hI := hI.pure hp
  refine WL_val rfl rfl rfl (by exact rNotT rfl rfl) ?_
  refine WL_nil ?_
  refine W_cond false rfl ?_
  refine W_skip ?_
  refine W_seq ?_
  refine W_region ?_
  refine WL_val rfl rfl rfl (by exact rMoveP rfl rfl) ?_
  refine WL_val rfl rfl rfl (rNilChk rfl rfl) ?_
  refine WL_val rfl rfl rfl (by exact rFld0 rfl (by kernel_rfl) rfl) ?_
  refine WL_val rfl rfl rfl (by exact rLd (v := .slice _ _ _) rfl (by kernel_rfl) rfl (by exact hI.oldp hc)) ?_
  refine WL_val rfl rfl rfl (by exact rMoveI rfl rfl) ?_
  refine WL_val rfl rfl rfl (rIdx (sz := 9) rfl Tryz.underlying66 (by kernel_rfl) rfl rfl (by omega)) ?_
  refine WL_val rfl rfl rfl (rLdA (n := 9) (l := mailL m) rfl (by kernel_rfl) (by kernel_rfl) rfl rfl (fun k u hk => hI.oldp (hcell k u hk))) ?_
  refine WL_stw0 (u := .agg (mailL m).toArray) (vs := (mailL m).toArray) (n := 9) hI rfl rfl rfl rfl rfl rfl (by kernel_rfl) rfl rfl rfl ?_
  clear hI; intro w hI
  refine WL_val rfl rfl rfl (by exact rAsgnB rfl rfl) ?_
  refine WL_nil ?_
  refine W_ret ?_
  exact retC2 (n := 9) (.inr rfl) rfl rfl (by kernel_rfl) (by kernel_rfl) rfl hI.g0 ⟨rfl, hI.pu⟩
set_option maxHeartbeats 1000000 in
theorem can_any (b f t : Nat) (cut : Bool) (A : Option Addr) (n c : Nat) (vals : List Value) (D D2 : Nat → Prop) (w0 : World) (h1 : w0.cell? ⟨b, 9, none⟩ = some (.bool cut)) (h2 : w0.cell? ⟨b, 8, none⟩ = some (.slice A n c)) (h3 : Rd w0 D2 1 (.slice A n c) n vals) (h4 : ∀ v ∈ vals, ∃ l, Bools w0 D v l) (hf : f < 1000) (ht : t < 1000) :
    Calls Tryz.prog 42 #[.pointer (some ⟨b, 7, none⟩), .int .i64 (f : Int), .int .i64 (t : Int)] w0 fun en w' => (∃ r, en = .returned (.bool r) ∧ (cut = false → r = true)) ∧ Pure w0 w' := by
  have hI := Inv.start (fun _ => False) w0
  refine calls_of_W (N := Tryz.f42.ntmps) Tryz.func42 rfl rfl rfl ?_
  refine W_seq ?_
  refine W_region ?_
  refine WL_val rfl rfl rfl (by exact rAsgnB rfl rfl) ?_
  refine WL_nil ?_
  cases cut with
  | false =>
    refine W_seq ?_
    refine W_seq ?_
    refine W_region ?_
    refine WL_val rfl rfl rfl (by exact rMoveP rfl rfl) ?_
    refine WL_val rfl rfl rfl (rNilChk rfl rfl) ?_
    refine WL_val rfl rfl rfl (by exact rFld (off := 2) rfl (by kernel_rfl) rfl) ?_
    refine WL_val rfl rfl rfl (by exact rLd (v := .bool _) rfl (by kernel_rfl) rfl (by exact hI.oldp h1)) ?_
    refine WL_val rfl rfl rfl (by exact rNotF rfl rfl) ?_
    refine WL_nil ?_
    refine W_cond true rfl ?_
    refine W_seq ?_
    refine W_region ?_
    refine WL_val rfl rfl rfl (by exact rAsgnB rfl rfl) ?_
    refine WL_nil ?_
    refine W_ret ?_
    exact ret1 6 (.inr rfl) rfl ⟨⟨_, rfl, fun _ => rfl⟩, hI.pu⟩
  | true =>
    refine W_seq ?_
    refine W_seq ?_
    refine W_region ?_
    refine WL_val rfl rfl rfl (by exact rMoveP rfl rfl) ?_
    refine WL_val rfl rfl rfl (rNilChk rfl rfl) ?_
    refine WL_val rfl rfl rfl (by exact rFld (off := 2) rfl (by kernel_rfl) rfl) ?_
    refine WL_val rfl rfl rfl (by exact rLd (v := .bool _) rfl (by kernel_rfl) rfl (by exact hI.oldp h1)) ?_
    refine WL_val rfl rfl rfl (by exact rNotT rfl rfl) ?_
    refine WL_nil ?_
    refine W_cond false rfl ?_
    refine W_skip ?_
    by_cases hfn : f < n
    rotate_left
    · refine W_seq ?_
      refine W_region ?_
      refine WL_val rfl rfl rfl (by exact rMoveI rfl rfl) ?_
      refine WL_val rfl rfl rfl (by exact rGeqT rfl rfl rfl (by omega)) ?_
      refine WL_val rfl rfl rfl (by exact rMoveB rfl rfl) ?_
      refine WL_val rfl rfl rfl (by exact rMoveI rfl rfl) ?_
      refine WL_val rfl rfl rfl (by exact rMoveP rfl rfl) ?_
      refine WL_val rfl rfl rfl (rNilChk rfl rfl) ?_
      refine WL_val rfl rfl rfl (by exact rFld (off := 1) rfl (by kernel_rfl) rfl) ?_
      refine WL_val rfl rfl rfl (by exact rLd (v := .slice _ _ _) rfl (by kernel_rfl) rfl (by exact hI.oldp h2)) ?_
      refine WL_val rfl rfl rfl (rLen rfl Tryz.underlying68 rfl) ?_
      refine WL_val rfl rfl rfl (by exact rLssF rfl rfl rfl (by omega)) ?_
      refine WL_val rfl rfl rfl (by exact rPickTB rfl rfl rfl) ?_
      refine WL_val rfl rfl rfl (by exact rMoveB rfl rfl) ?_
      refine WL_skip rfl rfl rfl ?_
      refine WL_skip rfl rfl rfl ?_
      refine WL_val rfl rfl rfl (by exact rPickFB rfl rfl rfl) ?_
      refine WL_val rfl rfl rfl (by exact rMoveB rfl rfl) ?_
      refine WL_skip rfl rfl rfl ?_
      refine WL_skip rfl rfl rfl ?_
      refine WL_skip rfl rfl rfl ?_
      refine WL_skip rfl rfl rfl ?_
      refine WL_skip rfl rfl rfl ?_
      refine WL_skip rfl rfl rfl ?_
      refine WL_skip rfl rfl rfl ?_
      refine WL_skip rfl rfl rfl ?_
      refine WL_skip rfl rfl rfl ?_
      refine WL_skip rfl rfl rfl ?_
      refine WL_val rfl rfl rfl (by exact rPickFB rfl rfl rfl) ?_
      refine WL_val rfl rfl rfl (by exact rMoveB rfl rfl) ?_
      refine WL_skip rfl rfl rfl ?_
      refine WL_skip rfl rfl rfl ?_
      refine WL_skip rfl rfl rfl ?_
      refine WL_skip rfl rfl rfl ?_
      refine WL_skip rfl rfl rfl ?_
      refine WL_skip rfl rfl rfl ?_
      refine WL_skip rfl rfl rfl ?_
      refine WL_skip rfl rfl rfl ?_
      refine WL_skip rfl rfl rfl ?_
      refine WL_skip rfl rfl rfl ?_
      refine WL_val rfl rfl rfl (by exact rPickFB rfl rfl rfl) ?_
      refine WL_val rfl rfl rfl (by exact rAsgnB rfl rfl) ?_
      refine WL_nil ?_
      refine W_ret ?_
      exact ret1 6 (.inr rfl) rfl ⟨⟨_, rfl, fun h => (by cases h)⟩, hI.pu⟩
    obtain ⟨A', c', hv, q1, q2, q3, q4⟩ := h3
    injection hv with ha _ _
    subst ha
    obtain ⟨g, o, rfl, _, hc⟩ := q4 (by omega)
    obtain ⟨v, hvv⟩ : ∃ v, vals[f]? = some v := ⟨_, List.getElem?_eq_getElem (by omega)⟩
    have hcv := hc f v hvv
    obtain ⟨l, hl⟩ := h4 v (List.mem_of_getElem? hvv)
    obtain ⟨RA, rc, rfl, r1, r2⟩ := Rd.form hl
    by_cases htl : t < l.length
    rotate_left
    · refine W_seq ?_
      refine W_region ?_
      refine WL_val rfl rfl rfl (by exact rMoveI rfl rfl) ?_
      refine WL_val rfl rfl rfl (by exact rGeqT rfl rfl rfl (by omega)) ?_
      refine WL_val rfl rfl rfl (by exact rMoveB rfl rfl) ?_
      refine WL_val rfl rfl rfl (by exact rMoveI rfl rfl) ?_
      refine WL_val rfl rfl rfl (by exact rMoveP rfl rfl) ?_
      refine WL_val rfl rfl rfl (rNilChk rfl rfl) ?_
      refine WL_val rfl rfl rfl (by exact rFld (off := 1) rfl (by kernel_rfl) rfl) ?_
      refine WL_val rfl rfl rfl (by exact rLd (v := .slice _ _ _) rfl (by kernel_rfl) rfl (by exact hI.oldp h2)) ?_
      refine WL_val rfl rfl rfl (rLen rfl Tryz.underlying68 rfl) ?_
      refine WL_val rfl rfl rfl (by exact rLssT rfl rfl rfl (by omega)) ?_
      refine WL_val rfl rfl rfl (by exact rPickTB rfl rfl rfl) ?_
      refine WL_val rfl rfl rfl (by exact rMoveB rfl rfl) ?_
      refine WL_val rfl rfl rfl (by exact rMoveI rfl rfl) ?_
      refine WL_val rfl rfl rfl (by exact rGeqT rfl rfl rfl (by omega)) ?_
      refine WL_val rfl rfl rfl (by exact rPickTB rfl rfl rfl) ?_
      refine WL_val rfl rfl rfl (by exact rMoveB rfl rfl) ?_
      refine WL_val rfl rfl rfl (by exact rMoveI rfl rfl) ?_
      refine WL_val rfl rfl rfl (by exact rMoveP rfl rfl) ?_
      refine WL_val rfl rfl rfl (rNilChk rfl rfl) ?_
      refine WL_val rfl rfl rfl (by exact rFld (off := 1) rfl (by kernel_rfl) rfl) ?_
      refine WL_val rfl rfl rfl (by exact rLd (v := .slice _ _ _) rfl (by kernel_rfl) rfl (by exact hI.oldp h2)) ?_
      refine WL_val rfl rfl rfl (by exact rMoveI rfl rfl) ?_
      refine WL_val rfl rfl rfl (by exact rIdx1 rfl Tryz.underlying68 (by kernel_rfl) rfl rfl (by omega)) ?_
      refine WL_val rfl rfl rfl (by exact rLd (v := .slice _ _ _) rfl (by kernel_rfl) rfl (by exact hI.oldp hcv)) ?_
      refine WL_val rfl rfl rfl (rLen rfl Tryz.underlying55 rfl) ?_
      refine WL_val rfl rfl rfl (by exact rLssF rfl rfl rfl (by omega)) ?_
      refine WL_val rfl rfl rfl (by exact rPickTB rfl rfl rfl) ?_
      refine WL_val rfl rfl rfl (by exact rMoveB rfl rfl) ?_
      refine WL_skip rfl rfl rfl ?_
      refine WL_skip rfl rfl rfl ?_
      refine WL_skip rfl rfl rfl ?_
      refine WL_skip rfl rfl rfl ?_
      refine WL_skip rfl rfl rfl ?_
      refine WL_skip rfl rfl rfl ?_
      refine WL_skip rfl rfl rfl ?_
      refine WL_skip rfl rfl rfl ?_
      refine WL_skip rfl rfl rfl ?_
      refine WL_skip rfl rfl rfl ?_
      refine WL_val rfl rfl rfl (by exact rPickFB rfl rfl rfl) ?_
      refine WL_val rfl rfl rfl (by exact rAsgnB rfl rfl) ?_
      refine WL_nil ?_
      refine W_ret ?_
      exact ret1 6 (.inr rfl) rfl ⟨⟨_, rfl, fun h => (by cases h)⟩, hI.pu⟩
    obtain ⟨A2, c2, hv2, p1, p2, p3, p4⟩ := hl
    injection hv2 with ha2 _ _
    subst ha2
    obtain ⟨g2, o2, rfl, _, hc2⟩ := p4 (by omega)
    have hcb := hc2 t (.bool l[t]) (by rw [List.getElem?_map, List.getElem?_eq_getElem htl]; rfl)
    refine W_seq ?_
    refine W_region ?_
    refine WL_val rfl rfl rfl (by exact rMoveI rfl rfl) ?_
    refine WL_val rfl rfl rfl (by exact rGeqT rfl rfl rfl (by omega)) ?_
    refine WL_val rfl rfl rfl (by exact rMoveB rfl rfl) ?_
    refine WL_val rfl rfl rfl (by exact rMoveI rfl rfl) ?_
    refine WL_val rfl rfl rfl (by exact rMoveP rfl rfl) ?_
    refine WL_val rfl rfl rfl (rNilChk rfl rfl) ?_
    refine WL_val rfl rfl rfl (by exact rFld (off := 1) rfl (by kernel_rfl) rfl) ?_
    refine WL_val rfl rfl rfl (by exact rLd (v := .slice _ _ _) rfl (by kernel_rfl) rfl (by exact hI.oldp h2)) ?_
    refine WL_val rfl rfl rfl (rLen rfl Tryz.underlying68 rfl) ?_
    refine WL_val rfl rfl rfl (by exact rLssT rfl rfl rfl (by omega)) ?_
    refine WL_val rfl rfl rfl (by exact rPickTB rfl rfl rfl) ?_
    refine WL_val rfl rfl rfl (by exact rMoveB rfl rfl) ?_
    refine WL_val rfl rfl rfl (by exact rMoveI rfl rfl) ?_
    refine WL_val rfl rfl rfl (by exact rGeqT rfl rfl rfl (by omega)) ?_
    refine WL_val rfl rfl rfl (by exact rPickTB rfl rfl rfl) ?_
    refine WL_val rfl rfl rfl (by exact rMoveB rfl rfl) ?_
    refine WL_val rfl rfl rfl (by exact rMoveI rfl rfl) ?_
    refine WL_val rfl rfl rfl (by exact rMoveP rfl rfl) ?_
    refine WL_val rfl rfl rfl (rNilChk rfl rfl) ?_
    refine WL_val rfl rfl rfl (by exact rFld (off := 1) rfl (by kernel_rfl) rfl) ?_
    refine WL_val rfl rfl rfl (by exact rLd (v := .slice _ _ _) rfl (by kernel_rfl) rfl (by exact hI.oldp h2)) ?_
    refine WL_val rfl rfl rfl (by exact rMoveI rfl rfl) ?_
    refine WL_val rfl rfl rfl (by exact rIdx1 rfl Tryz.underlying68 (by kernel_rfl) rfl rfl (by omega)) ?_
    refine WL_val rfl rfl rfl (by exact rLd (v := .slice _ _ _) rfl (by kernel_rfl) rfl (by exact hI.oldp hcv)) ?_
    refine WL_val rfl rfl rfl (rLen rfl Tryz.underlying55 rfl) ?_
    refine WL_val rfl rfl rfl (by exact rLssT rfl rfl rfl (by omega)) ?_
    refine WL_val rfl rfl rfl (by exact rPickTB rfl rfl rfl) ?_
    refine WL_val rfl rfl rfl (by exact rMoveB rfl rfl) ?_
    refine WL_val rfl rfl rfl (by exact rMoveP rfl rfl) ?_
    refine WL_val rfl rfl rfl (rNilChk rfl rfl) ?_
    refine WL_val rfl rfl rfl (by exact rFld (off := 1) rfl (by kernel_rfl) rfl) ?_
    refine WL_val rfl rfl rfl (by exact rLd (v := .slice _ _ _) rfl (by kernel_rfl) rfl (by exact hI.oldp h2)) ?_
    refine WL_val rfl rfl rfl (by exact rMoveI rfl rfl) ?_
    refine WL_val rfl rfl rfl (by exact rIdx1 rfl Tryz.underlying68 (by kernel_rfl) rfl rfl (by omega)) ?_
    refine WL_val rfl rfl rfl (by exact rLd (v := .slice _ _ _) rfl (by kernel_rfl) rfl (by exact hI.oldp hcv)) ?_
    refine WL_val rfl rfl rfl (by exact rMoveI rfl rfl) ?_
    refine WL_val rfl rfl rfl (by exact rIdx1 rfl Tryz.underlying55 (by kernel_rfl) rfl rfl (by omega)) ?_
    refine WL_val rfl rfl rfl (by exact rLd (v := .bool _) rfl (by kernel_rfl) rfl (by exact hI.oldp hcb)) ?_
    refine WL_val rfl rfl rfl (by exact rPickTB rfl rfl rfl) ?_
    refine WL_val rfl rfl rfl (by exact rAsgnB rfl rfl) ?_
    refine WL_nil ?_
    refine W_ret ?_
    exact ret1 6 (.inr rfl) rfl ⟨⟨_, rfl, fun h => (by cases h)⟩, hI.pu⟩
set_option maxHeartbeats 1000000 in
theorem send_any (L : StL) (s : StS) (m : SMail) (S : Nat → Prop) (w0 : World) (hI : Inv S w0 w0 (spt L s)) :
    Calls Tryz.prog 40 #[.pointer (some ⟨L.sb, 7, none⟩), .agg (mailL m).toArray] w0 fun en w' => (∃ v, en = .returned v) ∧ ∃ MA mc, Inv S w0 w' (spt { L with MA := MA, mc := mc } { s with mails := pushM s.mails m }) := by
  unfold spt at hI
  refine calls_of_W (N := Tryz.f40.ntmps) Tryz.func40 rfl rfl rfl ?_
  refine W_seq ?_
  refine W_region ?_
  refine WL_box (u := .agg (mailL m).toArray) (vs := (mailL m).toArray) hI rfl rfl rfl rfl rfl rfl ?_
  clear hI; rintro b3 w - - hI
  refine WL_val rfl rfl rfl (by exact rAsgnN rfl rfl) ?_
  refine WL_nil ?_
  by_cases h500 : s.mails.length < 500
  rotate_left
  · refine W_seq ?_
    refine W_seq ?_
    refine W_region ?_
    refine WL_val rfl rfl rfl (by exact rMoveP rfl rfl) ?_
    refine WL_val rfl rfl rfl (rNilChk rfl rfl) ?_
    refine WL_val rfl rfl rfl (by exact rFld0 rfl (by kernel_rfl) rfl) ?_
    refine WL_val rfl rfl rfl (by exact rLd (v := .slice _ _ _) rfl (by kernel_rfl) rfl (by exact hI.c1 rfl)) ?_
    refine WL_val rfl rfl rfl (rLen rfl Tryz.underlying66 rfl) ?_
    refine WL_val rfl rfl rfl (by exact rGeqT rfl rfl rfl (by omega)) ?_
    refine WL_nil ?_
    refine W_cond true rfl ?_
    refine W_seq ?_
    refine W_region ?_
    refine WL_val rfl rfl rfl (rIface rfl Tryz.underlying49 rfl rfl) ?_
    refine WL_val rfl rfl rfl (by exact rAsgnE rfl rfl) ?_
    refine WL_nil ?_
    refine W_ret ?_
    refine ret1 4 (.inr rfl) rfl ⟨⟨_, rfl⟩, L.MA, L.mc, ?_⟩
    have : pushM s.mails m = s.mails := if_neg h500
    rw [this]
    exact hI.d0
  · refine W_seq ?_
    refine W_seq ?_
    refine W_region ?_
    refine WL_val rfl rfl rfl (by exact rMoveP rfl rfl) ?_
    refine WL_val rfl rfl rfl (rNilChk rfl rfl) ?_
    refine WL_val rfl rfl rfl (by exact rFld0 rfl (by kernel_rfl) rfl) ?_
    refine WL_val rfl rfl rfl (by exact rLd (v := .slice _ _ _) rfl (by kernel_rfl) rfl (by exact hI.c1 rfl)) ?_
    refine WL_val rfl rfl rfl (rLen rfl Tryz.underlying66 rfl) ?_
    refine WL_val rfl rfl rfl (by exact rGeqF rfl rfl rfl (by omega)) ?_
    refine WL_nil ?_
    refine W_cond false rfl ?_
    refine W_skip ?_
    replace hI := hI.pull 5 rfl
    refine W_seq ?_
    refine W_draw (by kernel_rfl) ?_
    refine WA_inv (T := [10]) hI.d0.drew ?_
    intro Sx hSx hXS
    replace hI := hI.drew
    refine WT_take 0 rfl rfl (by kernel_rfl) (hXS _ hI.d0) rfl (fun W hW => have hI := hSx W hW; (by exact rMoveP rfl rfl)) ?_
    refine WT_take 1 rfl rfl (by kernel_rfl) (hXS _ hI.d0) rfl (fun W hW => have hI := hSx W hW; (by exact rMoveP rfl rfl)) ?_
    refine WT_take 2 rfl rfl (by kernel_rfl) (hXS _ hI.d0) rfl (fun W hW => have hI := hSx W hW; (rNilChk rfl rfl)) ?_
    refine WT_take 3 rfl rfl (by kernel_rfl) (hXS _ hI.d0) rfl (fun W hW => have hI := hSx W hW; (by exact rFld0 rfl (by kernel_rfl) rfl)) ?_
    refine WT_take 4 rfl rfl (by kernel_rfl) (hXS _ hI.d0) rfl (fun W hW => have hI := hSx W hW; (by exact rLd (v := .slice _ _ _) rfl (by kernel_rfl) rfl (by exact hI.c1 rfl))) ?_
    refine WT_take 5 rfl rfl (by kernel_rfl) (hXS _ hI.d0) rfl (fun W hW => have hI := hSx W hW; (rLdA (n := 9) (l := mailL m) rfl (by kernel_rfl) (by kernel_rfl) rfl rfl (fun k u hk => hI.cell 0 rfl (by rw [Nat.zero_add, List.getElem?_toArray]; exact hk)))) ?_
    refine WT_one 6 rfl (by kernel_rfl) rfl ?_
    refine WL_lit (vs := mailL m) (qs := [(0, .agg (mailL m).toArray)]) [.int .i64 0, .int .i64 0, .int .i64 0, .int .i64 0, .int .i64 0, .int .i64 0, .int .i64 0, .int .i64 0, .int .i64 0] [0] hI rfl rfl rfl rfl rfl rfl Tryz.underlying66 (fun _ => by kernel_rfl) ?_
    clear hI; rintro b18 w - - hI
    refine WL_nil ⟨hXS _ hI.d0.d0, ?_⟩
    refine WT_one 7 rfl (by kernel_rfl) rfl ?_
    refine WL_app1 (z := .agg #[.int .i64 0, .int .i64 0, .int .i64 0, .int .i64 0, .int .i64 0, .int .i64 0, .int .i64 0, .int .i64 0, .int .i64 0]) (by_ := 72) hI rfl rfl rfl rfl rfl rfl Tryz.underlying66 (by kernel_rfl) rfl (by omega) (by rfl) hI.lit0 (by rfl) (by omega) (by omega) (by exact Nat.zero_le _) ?_
    clear hI; rintro A19 c19 w hA19 hc19 hI
    replace hI := hI.d0
    refine WL_nil ⟨hXS _ hI.d0, ?_⟩
    refine WT_take 8 rfl rfl (by kernel_rfl) (hXS _ hI.d0) rfl (fun W hW => have hI := hSx W hW; (rNilChk rfl rfl)) ?_
    refine WT_take 9 rfl rfl (by kernel_rfl) (hXS _ hI.d0) rfl (fun W hW => have hI := hSx W hW; (by exact rFld0 rfl (by kernel_rfl) rfl)) ?_
    refine WT_A (by kernel_rfl) ?_
    clear hXS hSx
    refine WA_one 10 rfl (by kernel_rfl) ?_
    refine WL_st2 (u := .slice A19 (s.mails.length + 1) c19) (j := 7) hI rfl rfl rfl rfl rfl rfl (by kernel_rfl) rfl rfl rfl ?_
    clear hI; intro w hI
    refine WL_nil ?_
    refine WA_end (by kernel_rfl) ?_
    refine W_seq ?_
    refine W_region ?_
    refine WL_val rfl rfl rfl (by exact rAsgnN rfl rfl) ?_
    refine WL_nil ?_
    refine W_ret ?_
    refine ret1 4 (.inr rfl) rfl ⟨⟨_, rfl⟩, A19, c19, ?_⟩
    have : pushM s.mails m = s.mails ++ [m] := if_pos h500
    rw [this]
    have e1 : (s.mails ++ [m]).length = s.mails.length + 1 := by simp
    rw [← mails_push, ← e1] at hI
    exact (hI.d1).back 4
theorem mrow {L : StL} {s : StS} {S : Nat → Prop} {w0 w : World} {X : List Ent} (hI : Inv S w0 w (X ++ spt L s)) : Rd w (fun _ => True) 9 (.slice L.MA s.mails.length L.mc) s.mails.length (s.mails.flatMap mailL) :=
  Rd.of_own (hI.fromB.ok _ (List.mem_of_getElem? (i := 4) rfl)).1 (fun _ _ _ => trivial)
set_option maxHeartbeats 1000000 in
theorem delM_any (L : StL) (s : StS) (j : Nat) (m : SMail) (hm : s.mails[j]? = some m) (hml : s.mails.length ≤ 500) (S : Nat → Prop) (w0 : World) (hI : Inv S w0 w0 (spt L s)) :
    Calls Tryz.prog 43 #[.slice L.MA s.mails.length L.mc, .int .i64 (j : Int), .int .i64 ((j : Int) + 1)] w0 fun en w' => ∃ A c, en = .returned (.slice A (s.mails.eraseIdx j).length c) ∧ Inv S w0 w' ((spt L s).set 4 (Row 0 89 9 A (s.mails.eraseIdx j).length c ((s.mails.eraseIdx j).flatMap mailL))) := by
  have hj := (List.getElem?_eq_some_iff.1 hm).1
  have hown : w0.ownsRow 0 89 9 (.slice L.MA s.mails.length L.mc) s.mails.length (s.mails.flatMap mailL) := (hI.ok _ (List.mem_of_getElem? (i := 4) rfl)).1
  refine (sdelete_any 0 s.mails.length j _ _ w0 hown (mails_one _) hj (by omega)).mono ?_
  rintro e w' ⟨v', rfl, ho, hc, hb⟩
  have hlen : (s.mails.eraseIdx j).length = s.mails.length - 1 := by rw [List.length_eraseIdx, if_pos hj]
  rw [mails_cut, ← hlen] at ho
  obtain ⟨A, c, rfl⟩ : ∃ A c, v' = .slice A (s.mails.eraseIdx j).length c := by
    rcases ho.2 with ⟨hv, h0⟩ | ⟨g, cap, cur, hv, _⟩
    · exact ⟨none, 0, by rw [hv, h0]⟩
    · exact ⟨_, _, hv⟩
  rw [ownBlock_slice, ownBlock_slice] at hb
  refine ⟨A, c, rfl, hI.upd 4 rfl (hc.mono fun k _ hk => ?_) (Row.ok ho) fun k hk => .inl ?_⟩
  · show L.MA.map (·.block) = some k
    rw [← ownBlock_slice L.MA s.mails.length L.mc]; exact hk.symm
  · show L.MA.map (·.block) = some k
    rw [← hb]; exact hk
set_option maxHeartbeats 1000000 in
theorem ndrop_any (L : StL) (s : StS) (i : Int) (hml : s.mails.length ≤ 500) (S : Nat → Prop) (w0 : World) (hI : Inv S w0 w0 (spt L s)) :
    Calls Tryz.prog 46 #[.pointer (some ⟨L.sb, 7, none⟩), .int .i64 i] w0 fun en w' => (∃ v, en = .returned v) ∧ ∃ MA mc ms, (ms = s.mails ∨ ∃ j, j < s.mails.length ∧ ms = s.mails.eraseIdx j) ∧ Inv S w0 w' (spt { L with MA := MA, mc := mc } { s with mails := ms }) := by
  refine calls_of_W (N := Tryz.f46.ntmps) Tryz.func46 rfl rfl rfl ?_
  refine W_seq ?_
  refine W_region ?_
  refine WL_val rfl rfl rfl (by exact rAsgnN rfl rfl) ?_
  refine WL_nil ?_
  have hc : ∀ w, Inv S w0 w (spt L s) → w.cell? ⟨L.sb, 7, none⟩ = some (.slice L.MA s.mails.length L.mc) := fun w hI => hI.cell 0 rfl rfl
  by_cases hi : 0 ≤ i ∧ i < (s.mails.length : Int)
  rotate_left
  · refine W_seq ?_
    refine W_seq ?_
    refine W_region ?_
    refine WL_val rfl rfl rfl (by exact rMoveP rfl rfl) ?_
    refine WL_val rfl rfl rfl (by exact rMoveI rfl rfl) ?_
    refine WL_call rfl rfl rfl (rCall (vs := [.pointer _, .int .i64 _]) rfl Tryz.func63 rfl rfl rfl) ?_
    refine (nhas_any L.sb i _ _ _ _ (hc _ hI)).mono ?_
    rintro e w1 ⟨rfl, hp⟩
    rw [decide_eq_false hi]
    refine ⟨_, rfl, ?_⟩
    replace hI := hI.pure hp
    refine WL_val rfl rfl rfl (by exact rNotF rfl rfl) ?_
    refine WL_nil ?_
    refine W_cond true rfl ?_
    refine W_seq ?_
    refine W_region ?_
    refine WL_val rfl rfl rfl (rIface rfl Tryz.underlying49 rfl rfl) ?_
    refine WL_val rfl rfl rfl (by exact rAsgnE rfl rfl) ?_
    refine WL_nil ?_
    refine W_ret ?_
    exact ret1 4 (.inr rfl) rfl ⟨⟨_, rfl⟩, L.MA, L.mc, _, .inl rfl, hI⟩
  obtain ⟨j, rfl⟩ : ∃ j : Nat, i = (j : Int) := ⟨i.toNat, by omega⟩
  have hj : j < s.mails.length := by omega
  refine W_seq ?_
  refine W_seq ?_
  refine W_region ?_
  refine WL_val rfl rfl rfl (by exact rMoveP rfl rfl) ?_
  refine WL_val rfl rfl rfl (by exact rMoveI rfl rfl) ?_
  refine WL_call rfl rfl rfl (rCall (vs := [.pointer _, .int .i64 _]) rfl Tryz.func63 rfl rfl rfl) ?_
  refine (nhas_any L.sb (j : Int) _ _ _ _ (hc _ hI)).mono ?_
  rintro e w1 ⟨rfl, hp⟩
  rw [decide_eq_true hi]
  refine ⟨_, rfl, ?_⟩
  replace hI := hI.pure hp
  refine WL_val rfl rfl rfl (by exact rNotT rfl rfl) ?_
  refine WL_nil ?_
  refine W_cond false rfl ?_
  refine W_skip ?_
  refine W_seq ?_
  refine W_region ?_
  refine WL_val rfl rfl rfl (by exact rMoveP rfl rfl) ?_
  refine WL_val rfl rfl rfl (by exact rMoveP rfl rfl) ?_
  refine WL_val rfl rfl rfl (rNilChk rfl rfl) ?_
  refine WL_val rfl rfl rfl (by exact rFld0 rfl (by kernel_rfl) rfl) ?_
  refine WL_val rfl rfl rfl (by exact rLd (v := .slice _ _ _) rfl (by kernel_rfl) rfl (by exact (hc _ hI))) ?_
  refine WL_val rfl rfl rfl (by exact rMoveI rfl rfl) ?_
  refine WL_val rfl rfl rfl (by exact rMoveI rfl rfl) ?_
  refine WL_val rfl rfl rfl (by exact rInc rfl rfl rfl (by omega)) ?_
  refine WL_call rfl rfl rfl (rCall (vs := [.slice _ _ _, .int .i64 _, .int .i64 _]) rfl Tryz.func43 rfl rfl rfl) ?_
  refine (delM_any L s j _ (List.getElem?_eq_getElem hj) hml (DLs (spt L s)) _ (hI.fromB (X := []))).mono ?_
  rintro e w1 ⟨A, c, rfl, hJ⟩
  refine ⟨_, rfl, ?_⟩
  replace hI := hI.callB (X := []) hJ
  refine WL_val rfl rfl rfl (rNilChk rfl rfl) ?_
  refine WL_val rfl rfl rfl (by exact rFld0 rfl (by kernel_rfl) rfl) ?_
  refine WL_st0 (u := .slice A (s.mails.eraseIdx j).length c) (j := 7) hI rfl rfl rfl rfl rfl rfl (by kernel_rfl) rfl rfl rfl ?_
  clear hI; intro w hI
  refine WL_nil ?_
  refine W_seq ?_
  refine W_region ?_
  refine WL_val rfl rfl rfl (by exact rAsgnN rfl rfl) ?_
  refine WL_nil ?_
  refine W_ret ?_
  exact ret1 4 (.inr rfl) rfl ⟨⟨_, rfl⟩, A, c, _, .inr ⟨j, hj, rfl⟩, hI⟩
set_option maxHeartbeats 1000000 in
theorem ndouble_any (L : StL) (s : StS) (i : Int) (S : Nat → Prop) (w0 : World) (hI : Inv S w0 w0 (spt L s)) :
    Calls Tryz.prog 47 #[.pointer (some ⟨L.sb, 7, none⟩), .int .i64 i] w0 fun en w' => (∃ v, en = .returned v) ∧ ∃ MA mc ms, (ms = s.mails ∨ ∃ m, m ∈ s.mails ∧ ms = pushM s.mails m) ∧ Inv S w0 w' (spt { L with MA := MA, mc := mc } { s with mails := ms }) := by
  refine calls_of_W (N := Tryz.f47.ntmps) Tryz.func47 rfl rfl rfl ?_
  refine W_seq ?_
  refine W_region ?_
  refine WL_val rfl rfl rfl (by exact rAsgnN rfl rfl) ?_
  refine WL_nil ?_
  have hc : ∀ w, Inv S w0 w (spt L s) → w.cell? ⟨L.sb, 7, none⟩ = some (.slice L.MA s.mails.length L.mc) := fun w hI => hI.cell 0 rfl rfl
  by_cases hi : 0 ≤ i ∧ i < (s.mails.length : Int)
  rotate_left
  · refine W_seq ?_
    refine W_seq ?_
    refine W_region ?_
    refine WL_val rfl rfl rfl (by exact rMoveP rfl rfl) ?_
    refine WL_val rfl rfl rfl (by exact rMoveI rfl rfl) ?_
    refine WL_call rfl rfl rfl (rCall (vs := [.pointer _, .int .i64 _]) rfl Tryz.func63 rfl rfl rfl) ?_
    refine (nhas_any L.sb i _ _ _ _ (hc _ hI)).mono ?_
    rintro e w1 ⟨rfl, hp⟩
    rw [decide_eq_false hi]
    refine ⟨_, rfl, ?_⟩
    replace hI := hI.pure hp
    refine WL_val rfl rfl rfl (by exact rNotF rfl rfl) ?_
    refine WL_nil ?_
    refine W_cond true rfl ?_
    refine W_seq ?_
    refine W_region ?_
    refine WL_val rfl rfl rfl (rIface rfl Tryz.underlying49 rfl rfl) ?_
    refine WL_val rfl rfl rfl (by exact rAsgnE rfl rfl) ?_
    refine WL_nil ?_
    refine W_ret ?_
    exact ret1 4 (.inr rfl) rfl ⟨⟨_, rfl⟩, L.MA, L.mc, _, .inl rfl, hI⟩
  obtain ⟨j, rfl⟩ : ∃ j : Nat, i = (j : Int) := ⟨i.toNat, by omega⟩
  have hj : j < s.mails.length := by omega
  obtain ⟨m, hm⟩ : ∃ m, s.mails[j]? = some m := ⟨_, List.getElem?_eq_getElem hj⟩
  refine W_seq ?_
  refine W_seq ?_
  refine W_region ?_
  refine WL_val rfl rfl rfl (by exact rMoveP rfl rfl) ?_
  refine WL_val rfl rfl rfl (by exact rMoveI rfl rfl) ?_
  refine WL_call rfl rfl rfl (rCall (vs := [.pointer _, .int .i64 _]) rfl Tryz.func63 rfl rfl rfl) ?_
  refine (nhas_any L.sb (j : Int) _ _ _ _ (hc _ hI)).mono ?_
  rintro e w1 ⟨rfl, hp⟩
  rw [decide_eq_true hi]
  refine ⟨_, rfl, ?_⟩
  replace hI := hI.pure hp
  refine WL_val rfl rfl rfl (by exact rNotT rfl rfl) ?_
  refine WL_nil ?_
  refine W_cond false rfl ?_
  refine W_skip ?_
  obtain ⟨g, o, hMA, _, hcell⟩ := mail_cells (mrow (X := []) hI) hm
  have hc' := hc w1 hI
  rw [hMA] at hc'
  refine W_seq ?_
  refine W_region ?_
  refine WL_val rfl rfl rfl (by exact rMoveP rfl rfl) ?_
  refine WL_val rfl rfl rfl (by exact rMoveP rfl rfl) ?_
  refine WL_val rfl rfl rfl (rNilChk rfl rfl) ?_
  refine WL_val rfl rfl rfl (by exact rFld0 rfl (by kernel_rfl) rfl) ?_
  refine WL_val rfl rfl rfl (by exact rLd (v := .slice _ _ _) rfl (by kernel_rfl) rfl (by exact hc')) ?_
  refine WL_val rfl rfl rfl (by exact rMoveI rfl rfl) ?_
  refine WL_val rfl rfl rfl (rIdx (sz := 9) rfl Tryz.underlying66 (by kernel_rfl) rfl rfl (by omega)) ?_
  refine WL_val rfl rfl rfl (rLdA (n := 9) (l := mailL m) rfl (by kernel_rfl) (by kernel_rfl) rfl rfl (fun k u hk => hcell k u hk)) ?_
  refine WL_call rfl rfl rfl (rCall (vs := [.pointer _, .agg _]) rfl Tryz.func40 rfl rfl rfl) ?_
  refine (send_any L s m (DLs (spt L s)) _ (hI.fromB (X := []))).mono ?_
  rintro e w1 ⟨⟨v, rfl⟩, MA, mc, hJ⟩
  refine ⟨_, rfl, ?_⟩
  replace hI := hI.callB (X := []) hJ
  refine WL_val rfl rfl rfl (by exact rAsgn rfl) ?_
  refine WL_nil ?_
  refine W_ret ?_
  exact ret1 4 (.inr rfl) rfl ⟨⟨_, rfl⟩, MA, mc, _, .inr ⟨m, List.mem_of_getElem? hm, rfl⟩, hI⟩
set_option maxHeartbeats 1000000 in
/-- What Take gives: an error and nothing turned, or the i-th mail, which is out. -/
theorem take_any (L : StL) (s : StS) (i : Int) (hml : s.mails.length ≤ 500) (hmo : ∀ m ∈ s.mails, m.src < 1000 ∧ m.dst < 1000) (S : Nat → Prop) (w0 : World) (hI : Inv S w0 w0 (spt L s)) :
    Calls Tryz.prog 25 #[.pointer (some ⟨L.sb, 7, none⟩), .int .i64 i] w0 fun en w' =>
      (∃ n, en = .returned (.tuple #[.agg zero9, .iface 49 (.int .i64 n)]) ∧ (L.cut = false → ¬ (0 ≤ i ∧ i < (s.mails.length : Int))) ∧ Inv S w0 w' (spt L s)) ∨
      (∃ (j : Nat) (m : SMail) (MA : Option Addr) (mc : Nat), i = (j : Int) ∧ s.mails[j]? = some m ∧ en = .returned (.tuple #[.agg (mailL m).toArray, .nilIface]) ∧ Inv S w0 w' (spt { L with MA := MA, mc := mc } { s with mails := s.mails.eraseIdx j })) := by
  have hc : ∀ w X, Inv S w0 w (X ++ spt L s) → w.cell? ⟨L.sb, 7, none⟩ = some (.slice L.MA s.mails.length L.mc) := fun w X hI => hI.fromB.cell 0 rfl rfl
  refine calls_of_W (N := Tryz.f25.ntmps) Tryz.func25 rfl rfl rfl ?_
  refine W_seq ?_
  refine W_region ?_
  refine WL_alloc (u := .agg zero9) (vs := zero9) hI rfl rfl rfl rfl (by kernel_rfl) rfl ?_
  clear hI; rintro b4 w - - hI
  refine WL_val rfl rfl rfl (by exact rAsgnN rfl rfl) ?_
  refine WL_nil ?_
  by_cases hi : 0 ≤ i ∧ i < (s.mails.length : Int)
  rotate_left
  · refine W_seq ?_
    refine W_region ?_
    refine WL_val rfl rfl rfl (by exact rMoveP rfl rfl) ?_
    refine WL_val rfl rfl rfl (by exact rMoveI rfl rfl) ?_
    refine WL_call rfl rfl rfl (rCall (vs := [.pointer _, .int .i64 _]) rfl Tryz.func41 rfl rfl rfl) ?_
    refine (at_none L.sb i _ _ _ _ (hc _ [_] hI) hi).mono ?_
    rintro e w1 ⟨rfl, hp⟩
    refine ⟨_, rfl, ?_⟩
    replace hI := hI.pure hp
    refine WL_val rfl rfl rfl (by exact rMoveT rfl rfl) ?_
    refine WL_val rfl rfl rfl (rExtr rfl rfl rfl) ?_
    refine WL_val rfl rfl rfl (rExtr rfl rfl rfl) ?_
    refine WL_alloc (u := .agg zero9) (vs := zero9) hI rfl rfl rfl rfl (by kernel_rfl) rfl ?_
    clear hI; rintro b6 w - - hI
    refine WL_stw0 (u := .agg zero9) (vs := zero9) (n := 9) hI rfl rfl rfl rfl rfl rfl (by kernel_rfl) rfl rfl rfl ?_
    clear hI; intro w hI
    refine WL_val rfl rfl rfl (by exact rAsgnB rfl rfl) ?_
    refine WL_nil ?_
    refine W_seq ?_
    refine W_block ?_
    refine W_seq ?_
    refine W_region ?_
    refine WL_val rfl rfl rfl (by exact rMoveB rfl rfl) ?_
    refine WL_val rfl rfl rfl (by exact rNotF rfl rfl) ?_
    refine WL_val rfl rfl rfl (by exact rAsgnB rfl rfl) ?_
    refine WL_nil ?_
    refine W_cond true rfl ?_
    refine W_seq ?_
    refine W_region ?_
    refine WL_val rfl rfl rfl (show Runs _ _ _ _ (.agg zero9) from rBuild (qs := []) (vs := [.int .i64 0, .int .i64 0, .int .i64 0, .int .i64 0, .int .i64 0, .int .i64 0, .int .i64 0, .int .i64 0, .int .i64 0]) [.int .i64 0, .int .i64 0, .int .i64 0, .int .i64 0, .int .i64 0, .int .i64 0, .int .i64 0, .int .i64 0, .int .i64 0] [] rfl rfl rfl (fun _ => by kernel_rfl)) ?_
    refine WL_val rfl rfl rfl (rIface rfl Tryz.underlying49 rfl rfl) ?_
    refine WL_stw1 (u := .agg zero9) (vs := zero9) (n := 9) hI rfl rfl rfl rfl rfl rfl (by kernel_rfl) rfl rfl rfl ?_
    clear hI; intro w hI
    refine WL_val rfl rfl rfl (by exact rAsgnE rfl rfl) ?_
    refine WL_nil ?_
    refine W_ret ?_
    exact retC2 (n := 9) (.inr rfl) rfl rfl (by kernel_rfl) (by kernel_rfl) rfl hI.g1 (.inl ⟨_, rfl, fun _ => hi, hI.d0.d0⟩)
  obtain ⟨j, rfl⟩ : ∃ j : Nat, i = (j : Int) := ⟨i.toNat, by omega⟩
  have hj : j < s.mails.length := by omega
  obtain ⟨m, hm⟩ : ∃ m, s.mails[j]? = some m := ⟨_, List.getElem?_eq_getElem hj⟩
  have hmm := hmo m (List.mem_of_getElem? hm)
  refine W_seq ?_
  refine W_region ?_
  refine WL_val rfl rfl rfl (by exact rMoveP rfl rfl) ?_
  refine WL_val rfl rfl rfl (by exact rMoveI rfl rfl) ?_
  refine WL_call rfl rfl rfl (rCall (vs := [.pointer _, .int .i64 _]) rfl Tryz.func41 rfl rfl rfl) ?_
  refine (at_some L.sb j _ _ _ m _ _ (hc _ [_] hI) (mrow (X := [_]) hI) hm).mono ?_
  rintro e w1 ⟨rfl, hp⟩
  refine ⟨_, rfl, ?_⟩
  replace hI := hI.pure hp
  refine WL_val rfl rfl rfl (by exact rMoveT rfl rfl) ?_
  refine WL_val rfl rfl rfl (rExtr rfl rfl rfl) ?_
  refine WL_val rfl rfl rfl (rExtr rfl rfl rfl) ?_
  refine WL_alloc (u := .agg zero9) (vs := zero9) hI rfl rfl rfl rfl (by kernel_rfl) rfl ?_
  clear hI; rintro b6 w - - hI
  refine WL_stw0 (u := .agg (mailL m).toArray) (vs := (mailL m).toArray) (n := 9) hI rfl rfl rfl rfl rfl rfl (by kernel_rfl) rfl rfl rfl ?_
  clear hI; intro w hI
  refine WL_val rfl rfl rfl (by exact rAsgnB rfl rfl) ?_
  refine WL_nil ?_
  refine W_seq ?_
  refine W_block ?_
  refine W_seq ?_
  refine W_region ?_
  refine WL_val rfl rfl rfl (by exact rMoveB rfl rfl) ?_
  refine WL_val rfl rfl rfl (by exact rNotT rfl rfl) ?_
  refine WL_val rfl rfl rfl (by exact rAsgnB rfl rfl) ?_
  refine WL_nil ?_
  refine W_cond false rfl ?_
  have hcan : ∀ w, Inv S w0 w ([B b6 89 (mailL m).toArray, B b4 89 zero9] ++ spt L s) → Calls Tryz.prog 42 #[.pointer (some ⟨L.sb, 7, none⟩), .int .i64 (m.src : Int), .int .i64 (m.dst : Int)] w fun en w' => (∃ r, en = .returned (.bool r) ∧ (L.cut = false → r = true)) ∧ Pure w w' := fun w hI =>
    can_any L.sb m.src m.dst L.cut L.LA L.ln L.lc L.lv L.LD (fun _ => True) w (hI.fromB.cell 0 rfl rfl) (hI.fromB.cell 0 rfl rfl) (Rd.of_own (hI.fromB.ok _ (List.mem_of_getElem? (i := 5) rfl)).1 (fun _ _ _ => trivial)) (fun v hv => by obtain ⟨l, hl, _⟩ := (hI.fromB.ok _ (List.mem_of_getElem? (i := 6) rfl)).1.2 v hv; exact ⟨l, hl⟩) hmm.1 hmm.2
  refine W_seq ?_
  refine W_region ?_
  refine WL_val rfl rfl rfl (by exact rMoveP rfl rfl) ?_
  refine WL_val rfl rfl rfl (by exact rFldN (off := 0) rfl (by kernel_rfl) rfl) ?_
  refine WL_val rfl rfl rfl (by exact rLd (v := .int .i64 _) rfl (by kernel_rfl) rfl (by exact hI.c0 rfl)) ?_
  refine WL_val rfl rfl rfl (by exact rFldN (off := 1) rfl (by kernel_rfl) rfl) ?_
  refine WL_val rfl rfl rfl (by exact rLd (v := .int .i64 _) rfl (by kernel_rfl) rfl (by exact hI.c0 rfl)) ?_
  refine WL_call rfl rfl rfl (rCall (vs := [.pointer _, .int .i64 _, .int .i64 _]) rfl Tryz.func42 rfl rfl rfl) ?_
  refine (hcan _ hI).mono ?_
  rintro e w1 ⟨⟨r, rfl, hrc⟩, hp⟩
  refine ⟨_, rfl, ?_⟩
  replace hI := hI.pure hp
  refine WL_val rfl rfl rfl (by exact rNot rfl rfl) ?_
  refine WL_val rfl rfl rfl (by exact rAsgnB rfl rfl) ?_
  refine WL_nil ?_
  cases r with
  | false =>
    refine W_cond true rfl ?_
    refine W_seq ?_
    refine W_region ?_
    refine WL_val rfl rfl rfl (show Runs _ _ _ _ (.agg zero9) from rBuild (qs := []) (vs := [.int .i64 0, .int .i64 0, .int .i64 0, .int .i64 0, .int .i64 0, .int .i64 0, .int .i64 0, .int .i64 0, .int .i64 0]) [.int .i64 0, .int .i64 0, .int .i64 0, .int .i64 0, .int .i64 0, .int .i64 0, .int .i64 0, .int .i64 0, .int .i64 0] [] rfl rfl rfl (fun _ => by kernel_rfl)) ?_
    refine WL_val rfl rfl rfl (rIface rfl Tryz.underlying49 rfl rfl) ?_
    refine WL_stw1 (u := .agg zero9) (vs := zero9) (n := 9) hI rfl rfl rfl rfl rfl rfl (by kernel_rfl) rfl rfl rfl ?_
    clear hI; intro w hI
    refine WL_val rfl rfl rfl (by exact rAsgnE rfl rfl) ?_
    refine WL_nil ?_
    refine W_ret ?_
    exact retC2 (n := 9) (.inr rfl) rfl rfl (by kernel_rfl) (by kernel_rfl) rfl hI.g1 (.inl ⟨_, rfl, fun h => (by have := hrc h; cases this), hI.d0.d0⟩)
  | true =>
    refine W_cond false rfl ?_
    refine W_skip ?_
    have hc2 : ∀ w, Inv S w0 w ([B b6 89 (mailL m).toArray, B b4 89 zero9] ++ spt L s) → w.cell? ⟨L.sb, 7, none⟩ = some (.slice L.MA s.mails.length L.mc) := fun w hI => hc w _ hI
    refine W_seq ?_
    refine W_region ?_
    refine WL_val rfl rfl rfl (by exact rMoveP rfl rfl) ?_
    refine WL_val rfl rfl rfl (by exact rMoveP rfl rfl) ?_
    refine WL_val rfl rfl rfl (rNilChk rfl rfl) ?_
    refine WL_val rfl rfl rfl (by exact rFld0 rfl (by kernel_rfl) rfl) ?_
    refine WL_val rfl rfl rfl (by exact rLd (v := .slice _ _ _) rfl (by kernel_rfl) rfl (by exact (hc2 _ hI))) ?_
    refine WL_val rfl rfl rfl (by exact rMoveI rfl rfl) ?_
    refine WL_val rfl rfl rfl (by exact rMoveI rfl rfl) ?_
    refine WL_val rfl rfl rfl (by exact rInc rfl rfl rfl (by omega)) ?_
    refine WL_call rfl rfl rfl (rCall (vs := [.slice _ _ _, .int .i64 _, .int .i64 _]) rfl Tryz.func43 rfl rfl rfl) ?_
    refine (delM_any L s j m hm hml (DLs (spt L s)) _ (hI.fromB (X := [_, _]))).mono ?_
    rintro e w1 ⟨A, c, rfl, hJ⟩
    refine ⟨_, rfl, ?_⟩
    replace hI := hI.callB (X := [_, _]) hJ
    refine WL_val rfl rfl rfl (rNilChk rfl rfl) ?_
    refine WL_val rfl rfl rfl (by exact rFld0 rfl (by kernel_rfl) rfl) ?_
    refine WL_st2 (u := .slice A (s.mails.eraseIdx j).length c) (j := 7) hI rfl rfl rfl rfl rfl rfl (by kernel_rfl) rfl rfl rfl ?_
    clear hI; intro w hI
    refine WL_nil ?_
    refine W_seq ?_
    refine W_region ?_
    refine WL_val rfl rfl rfl (rLdA (n := 9) (l := mailL m) rfl (by kernel_rfl) (by kernel_rfl) rfl rfl (fun k u hk => hI.cell 0 rfl (by rw [Nat.zero_add, List.getElem?_toArray]; exact hk))) ?_
    refine WL_stw1 (u := .agg (mailL m).toArray) (vs := (mailL m).toArray) (n := 9) hI rfl rfl rfl rfl rfl rfl (by kernel_rfl) rfl rfl rfl ?_
    clear hI; intro w hI
    refine WL_val rfl rfl rfl (by exact rAsgnN rfl rfl) ?_
    refine WL_nil ?_
    refine W_ret ?_
    exact retC2 (n := 9) (.inr rfl) rfl rfl (by kernel_rfl) (by kernel_rfl) rfl hI.g1 (.inr ⟨j, m, A, c, rfl, hm, rfl, hI.d0.d0⟩)
end Go.Proofs.YtglioflpblpmpaaGreatDoor
namespace Go.Proofs.YtglioflpblpmpaaGreatDoor
open Go.RowKit
set_option linter.unusedVariables false
set_option linter.unusedSimpArgs false
theorem rAddNN {P : Program} {ρ : Env} {w : World} {o : Oper} {x y : Operand} {t t' : TypeId} {a b : Nat} (ho : o.op = .binOp .add t x y t') (hx : ev ρ x = .int .i64 (a : Int)) (hy : ev ρ y = .int .i64 (b : Int)) (h : a + b ≤ 9223372036854775807) : Runs P ρ o w (.int .i64 ((a + b : Nat) : Int)) := by
  have := rAdd (P := P) (w := w) ho hx hy (by omega)
  rw [show ((a + b : Nat) : Int) = (a : Int) + (b : Int) from Int.natCast_add a b]
  exact this
/-! ### One client's cells -/
def clX (k : Nat) (L : StL) (s : StS) (c : Nat) (x : SCl) (cv : Value) : Array Value := flatB k fun i => if i = c then clL x cv else clF L s i
structure ClAt (w : World) (b o : Nat) (x : SCl) (cv : Value) : Prop where
  c0 : w.cell? ⟨b, o, none⟩ = some (.bool x.busy)
  c1 : w.cell? ⟨b, o + 1, none⟩ = some (.bool x.gone)
  c2 : w.cell? ⟨b, o + 2, none⟩ = some (.int .i64 x.began.proc)
  c3 : w.cell? ⟨b, o + 3, none⟩ = some (.int .i64 x.began.ty)
  c4 : w.cell? ⟨b, o + 4, none⟩ = some (.int .i64 x.began.key)
  c5 : w.cell? ⟨b, o + 5, none⟩ = some (.int .i64 x.began.kind)
  c6 : w.cell? ⟨b, o + 6, none⟩ = some (.int .i64 x.began.a)
  c7 : w.cell? ⟨b, o + 7, none⟩ = some (.int .i64 x.began.b)
  c8 : w.cell? ⟨b, o + 8, none⟩ = some (.int .i64 x.began.res)
  c9 : w.cell? ⟨b, o + 9, none⟩ = some (.bool x.telling)
  c10 : w.cell? ⟨b, o + 10, none⟩ = some (.int .i64 (x.round : Int))
  c11 : w.cell? ⟨b, o + 11, none⟩ = some cv
  c12 : w.cell? ⟨b, o + 12, none⟩ = some (.int .i64 (x.best.t : Int))
  c13 : w.cell? ⟨b, o + 13, none⟩ = some (.int .i64 x.best.c)
  c14 : w.cell? ⟨b, o + 14, none⟩ = some (.int .i64 x.best.v)
theorem clAt_of {w : World} {b k i o : Nat} {t : TypeId} {f : Nat → List Value} {x : SCl} {cv : Value} (h : Blk w b t (flatB k f)) (hm : ∀ i, (f i).length = 15) (hi : i < k) (hf : f i = clL x cv) (ho : o = i * 15) : ClAt w b o x cv := by
  subst ho
  have g : ∀ (j : Nat) (v : Value), (clL x cv)[j]? = some v → w.cell? ⟨b, i * 15 + j, none⟩ = some v := fun j v hv => by
    rw [h.cell]; exact flatB_get hm hi (by rw [hf]; exact hv)
  exact ⟨g 0 _ rfl, g 1 _ rfl, g 2 _ rfl, g 3 _ rfl, g 4 _ rfl, g 5 _ rfl, g 6 _ rfl, g 7 _ rfl, g 8 _ rfl, g 9 _ rfl, g 10 _ rfl, g 11 _ rfl, g 12 _ rfl, g 13 _ rfl, g 14 _ rfl⟩
theorem ClAt.pure {w w' : World} {b o : Nat} {x : SCl} {cv : Value} (h : ClAt w b o x cv) (hp : Pure w w') : ClAt w' b o x cv := by
  have hI := (Inv.start (fun _ => False) w).pure hp
  exact ⟨hI.oldp h.c0, hI.oldp h.c1, hI.oldp h.c2, hI.oldp h.c3, hI.oldp h.c4, hI.oldp h.c5, hI.oldp h.c6, hI.oldp h.c7, hI.oldp h.c8, hI.oldp h.c9, hI.oldp h.c10, hI.oldp h.c11, hI.oldp h.c12, hI.oldp h.c13, hI.oldp h.c14⟩
section
variable {k c : Nat} {L : StL} {s : StS} {x x' : SCl} {cv cv' : Value}
theorem clX_fun (i : Nat) : (if i = c then clL x cv else clF L s i).length = 15 := by split <;> rfl
theorem clX_start : clX k L s c (s.cl c) (cntV L s c) = flatB k (clF L s) := flatB_congr fun i _ => by
  by_cases h : i = c
  · subst h; rw [if_pos rfl]; rfl
  · rw [if_neg h]
theorem clX_end {L' : StL} {s' : StS} (h : clL x cv = clF L' s' c) (h' : ∀ i, i < k → i ≠ c → clF L s i = clF L' s' i) : clX k L s c x cv = flatB k (clF L' s') := flatB_congr fun i hi => by
  by_cases hic : i = c
  · subst hic; rw [if_pos rfl]; exact h
  · rw [if_neg hic]; exact h' i hi hic
theorem clX_size : (clX k L s c x cv).size = k * 15 := flatB_size fun i => clX_fun i
theorem clX_lt (hc : c < k) {j : Nat} (hj : j < 15) : 0 + c * 15 + j < (clX k L s c x cv).size := by
  rw [clX_size]
  have := Nat.mul_le_mul_right 15 (Nat.succ_le_of_lt hc)
  rw [Nat.succ_mul] at this
  omega
theorem clX_blt (hc : c < k) {j : Nat} (hj : j < 15) : Nat.blt (0 + c * 15 + j) (clX k L s c x cv).size = true := by rw [Nat.blt_eq]; exact clX_lt hc hj
theorem clX_blt0 (hc : c < k) : Nat.blt (0 + c * 15) (clX k L s c x cv).size = true := clX_blt (j := 0) hc (by omega)
theorem clX_set (hc : c < k) (j : Nat) (hj : j < 15) {v : Value} (h : clL x' cv' = (clL x cv).take j ++ [v] ++ (clL x cv).drop (j + 1)) : (clX k L s c x cv).setIfInBounds (0 + c * 15 + j) v = clX k L s c x' cv' := by
  rw [Nat.zero_add]
  exact flatB_set (fun i => clX_fun i) (fun i => clX_fun i) hc hj (fun i hi => by rw [if_neg hi, if_neg hi]) (by rw [if_pos rfl, if_pos rfl]; exact h)
theorem clX_set0 (hc : c < k) {v : Value} (h : clL x' cv' = (clL x cv).take 0 ++ [v] ++ (clL x cv).drop 1) : (clX k L s c x cv).setIfInBounds (0 + c * 15) v = clX k L s c x' cv' := clX_set hc 0 (by omega) h
theorem clX_sp (hc : c < k) (j : Nat) {vs : List Value} (hj : j + vs.length ≤ 15) (h : clL x' cv' = (clL x cv).take j ++ vs ++ (clL x cv).drop (j + vs.length)) : splice (clX k L s c x cv) (0 + c * 15 + j) vs = clX k L s c x' cv' := by
  rw [Nat.zero_add]
  exact flatB_splice (fun i => clX_fun i) (fun i => clX_fun i) hc hj (fun i hi => by rw [if_neg hi, if_neg hi]) (by rw [if_pos rfl, if_pos rfl]; exact h)
theorem clX_at {S : Nat → Prop} {w0 w : World} {H : List Ent} {b : Nat} {t : TypeId} (i : Nat) (hi : H[i]? = some (B b t (clX k L s c x cv))) (hI : Inv S w0 w H) (hc : c < k) : ClAt w b (0 + c * 15) x cv :=
  clAt_of (hI.ok _ (List.mem_of_getElem? hi)).1 (fun i => clX_fun i) hc (if_pos rfl) (Nat.zero_add _)
theorem clF_at {S : Nat → Prop} {w0 w : World} {H : List Ent} {b : Nat} {t : TypeId} (i : Nat) (hi : H[i]? = some (B b t (flatB k (clF L s)))) (hI : Inv S w0 w H) (hc : c < k) : ClAt w b (0 + c * 15) (s.cl c) (cntV L s c) :=
  clAt_of (hI.ok _ (List.mem_of_getElem? hi)).1 (fun i => clF_len L s i) hc rfl (Nat.zero_add _)
end
set_option maxHeartbeats 1000000 in
theorem less_raw (t1 c1 t2 c2 : Int) (w0 : World) : Calls Tryz.prog 44 #[.agg #[.int .i64 t1, .int .i64 c1], .agg #[.int .i64 t2, .int .i64 c2]] w0 fun en w' => en = .returned (.bool (decide (t1 < t2 ∨ (t1 = t2 ∧ c1 < c2)))) ∧ Pure w0 w' := by
  have hI := Inv.start (fun _ => False) w0
  refine calls_of_W (N := Tryz.f44.ntmps) Tryz.func44 rfl rfl rfl ?_
  refine W_seq ?_
  refine W_region ?_
  refine WL_box (u := .agg _) (vs := #[_, _]) hI rfl rfl rfl rfl rfl rfl ?_
  clear hI; rintro b2 w - - hI
  refine WL_box (u := .agg _) (vs := #[_, _]) hI rfl rfl rfl rfl rfl rfl ?_
  clear hI; rintro b3 w - - hI
  refine WL_val rfl rfl rfl (by exact rAsgnB rfl rfl) ?_
  refine WL_nil ?_
  by_cases h1 : t1 < t2
  · refine W_seq ?_
    refine W_region ?_
    refine WL_val rfl rfl rfl (by exact rFldN (off := 0) rfl (by kernel_rfl) rfl) ?_
    refine WL_val rfl rfl rfl (by exact rLd (v := .int .i64 _) rfl (by kernel_rfl) rfl (by exact hI.c1 rfl)) ?_
    refine WL_val rfl rfl rfl (by exact rFldN (off := 0) rfl (by kernel_rfl) rfl) ?_
    refine WL_val rfl rfl rfl (by exact rLd (v := .int .i64 _) rfl (by kernel_rfl) rfl (by exact hI.c0 rfl)) ?_
    refine WL_val rfl rfl rfl (by exact rLssT rfl rfl rfl (by omega)) ?_
    refine WL_val rfl rfl rfl (by exact rMoveB rfl rfl) ?_
    refine WL_skip rfl rfl rfl ?_
    refine WL_skip rfl rfl rfl ?_
    refine WL_skip rfl rfl rfl ?_
    refine WL_skip rfl rfl rfl ?_
    refine WL_skip rfl rfl rfl ?_
    refine WL_skip rfl rfl rfl ?_
    refine WL_skip rfl rfl rfl ?_
    refine WL_skip rfl rfl rfl ?_
    refine WL_skip rfl rfl rfl ?_
    refine WL_skip rfl rfl rfl ?_
    refine WL_skip rfl rfl rfl ?_
    refine WL_skip rfl rfl rfl ?_
    refine WL_val rfl rfl rfl (by exact rPickTB rfl rfl rfl) ?_
    refine WL_val rfl rfl rfl (by exact rAsgnB rfl rfl) ?_
    refine WL_nil ?_
    refine W_ret ?_
    refine ret1 4 (.inr rfl) rfl ⟨?_, hI.pu⟩
    rw [decide_eq_true (by omega)]; rfl
  · by_cases h2 : t1 = t2
    · by_cases h3 : c1 < c2
      · refine W_seq ?_
        refine W_region ?_
        refine WL_val rfl rfl rfl (by exact rFldN (off := 0) rfl (by kernel_rfl) rfl) ?_
        refine WL_val rfl rfl rfl (by exact rLd (v := .int .i64 _) rfl (by kernel_rfl) rfl (by exact hI.c1 rfl)) ?_
        refine WL_val rfl rfl rfl (by exact rFldN (off := 0) rfl (by kernel_rfl) rfl) ?_
        refine WL_val rfl rfl rfl (by exact rLd (v := .int .i64 _) rfl (by kernel_rfl) rfl (by exact hI.c0 rfl)) ?_
        refine WL_val rfl rfl rfl (by exact rLssF rfl rfl rfl (by omega)) ?_
        refine WL_val rfl rfl rfl (by exact rMoveB rfl rfl) ?_
        refine WL_val rfl rfl rfl (by exact rFldN (off := 0) rfl (by kernel_rfl) rfl) ?_
        refine WL_val rfl rfl rfl (by exact rLd (v := .int .i64 _) rfl (by kernel_rfl) rfl (by exact hI.c1 rfl)) ?_
        refine WL_val rfl rfl rfl (by exact rFldN (off := 0) rfl (by kernel_rfl) rfl) ?_
        refine WL_val rfl rfl rfl (by exact rLd (v := .int .i64 _) rfl (by kernel_rfl) rfl (by exact hI.c0 rfl)) ?_
        refine WL_val rfl rfl rfl (by exact rEqlT rfl rfl rfl (by omega)) ?_
        refine WL_val rfl rfl rfl (by exact rMoveB rfl rfl) ?_
        refine WL_val rfl rfl rfl (by exact rFldN (off := 1) rfl (by kernel_rfl) rfl) ?_
        refine WL_val rfl rfl rfl (by exact rLd (v := .int .i64 _) rfl (by kernel_rfl) rfl (by exact hI.c1 rfl)) ?_
        refine WL_val rfl rfl rfl (by exact rFldN (off := 1) rfl (by kernel_rfl) rfl) ?_
        refine WL_val rfl rfl rfl (by exact rLd (v := .int .i64 _) rfl (by kernel_rfl) rfl (by exact hI.c0 rfl)) ?_
        refine WL_val rfl rfl rfl (by exact rLssT rfl rfl rfl (by omega)) ?_
        refine WL_val rfl rfl rfl (by exact rPickTB rfl rfl rfl) ?_
        refine WL_val rfl rfl rfl (by exact rPickFB rfl rfl rfl) ?_
        refine WL_val rfl rfl rfl (by exact rAsgnB rfl rfl) ?_
        refine WL_nil ?_
        refine W_ret ?_
        refine ret1 4 (.inr rfl) rfl ⟨?_, hI.pu⟩
        rw [decide_eq_true (by omega)]; rfl
      · refine W_seq ?_
        refine W_region ?_
        refine WL_val rfl rfl rfl (by exact rFldN (off := 0) rfl (by kernel_rfl) rfl) ?_
        refine WL_val rfl rfl rfl (by exact rLd (v := .int .i64 _) rfl (by kernel_rfl) rfl (by exact hI.c1 rfl)) ?_
        refine WL_val rfl rfl rfl (by exact rFldN (off := 0) rfl (by kernel_rfl) rfl) ?_
        refine WL_val rfl rfl rfl (by exact rLd (v := .int .i64 _) rfl (by kernel_rfl) rfl (by exact hI.c0 rfl)) ?_
        refine WL_val rfl rfl rfl (by exact rLssF rfl rfl rfl (by omega)) ?_
        refine WL_val rfl rfl rfl (by exact rMoveB rfl rfl) ?_
        refine WL_val rfl rfl rfl (by exact rFldN (off := 0) rfl (by kernel_rfl) rfl) ?_
        refine WL_val rfl rfl rfl (by exact rLd (v := .int .i64 _) rfl (by kernel_rfl) rfl (by exact hI.c1 rfl)) ?_
        refine WL_val rfl rfl rfl (by exact rFldN (off := 0) rfl (by kernel_rfl) rfl) ?_
        refine WL_val rfl rfl rfl (by exact rLd (v := .int .i64 _) rfl (by kernel_rfl) rfl (by exact hI.c0 rfl)) ?_
        refine WL_val rfl rfl rfl (by exact rEqlT rfl rfl rfl (by omega)) ?_
        refine WL_val rfl rfl rfl (by exact rMoveB rfl rfl) ?_
        refine WL_val rfl rfl rfl (by exact rFldN (off := 1) rfl (by kernel_rfl) rfl) ?_
        refine WL_val rfl rfl rfl (by exact rLd (v := .int .i64 _) rfl (by kernel_rfl) rfl (by exact hI.c1 rfl)) ?_
        refine WL_val rfl rfl rfl (by exact rFldN (off := 1) rfl (by kernel_rfl) rfl) ?_
        refine WL_val rfl rfl rfl (by exact rLd (v := .int .i64 _) rfl (by kernel_rfl) rfl (by exact hI.c0 rfl)) ?_
        refine WL_val rfl rfl rfl (by exact rLssF rfl rfl rfl (by omega)) ?_
        refine WL_val rfl rfl rfl (by exact rPickTB rfl rfl rfl) ?_
        refine WL_val rfl rfl rfl (by exact rPickFB rfl rfl rfl) ?_
        refine WL_val rfl rfl rfl (by exact rAsgnB rfl rfl) ?_
        refine WL_nil ?_
        refine W_ret ?_
        refine ret1 4 (.inr rfl) rfl ⟨?_, hI.pu⟩
        rw [decide_eq_false (by omega)]; rfl
    · refine W_seq ?_
      refine W_region ?_
      refine WL_val rfl rfl rfl (by exact rFldN (off := 0) rfl (by kernel_rfl) rfl) ?_
      refine WL_val rfl rfl rfl (by exact rLd (v := .int .i64 _) rfl (by kernel_rfl) rfl (by exact hI.c1 rfl)) ?_
      refine WL_val rfl rfl rfl (by exact rFldN (off := 0) rfl (by kernel_rfl) rfl) ?_
      refine WL_val rfl rfl rfl (by exact rLd (v := .int .i64 _) rfl (by kernel_rfl) rfl (by exact hI.c0 rfl)) ?_
      refine WL_val rfl rfl rfl (by exact rLssF rfl rfl rfl (by omega)) ?_
      refine WL_val rfl rfl rfl (by exact rMoveB rfl rfl) ?_
      refine WL_val rfl rfl rfl (by exact rFldN (off := 0) rfl (by kernel_rfl) rfl) ?_
      refine WL_val rfl rfl rfl (by exact rLd (v := .int .i64 _) rfl (by kernel_rfl) rfl (by exact hI.c1 rfl)) ?_
      refine WL_val rfl rfl rfl (by exact rFldN (off := 0) rfl (by kernel_rfl) rfl) ?_
      refine WL_val rfl rfl rfl (by exact rLd (v := .int .i64 _) rfl (by kernel_rfl) rfl (by exact hI.c0 rfl)) ?_
      refine WL_val rfl rfl rfl (by exact rEqlF rfl rfl rfl (by omega)) ?_
      refine WL_val rfl rfl rfl (by exact rMoveB rfl rfl) ?_
      refine WL_skip rfl rfl rfl ?_
      refine WL_skip rfl rfl rfl ?_
      refine WL_skip rfl rfl rfl ?_
      refine WL_skip rfl rfl rfl ?_
      refine WL_skip rfl rfl rfl ?_
      refine WL_val rfl rfl rfl (by exact rPickFB rfl rfl rfl) ?_
      refine WL_val rfl rfl rfl (by exact rPickFB rfl rfl rfl) ?_
      refine WL_val rfl rfl rfl (by exact rAsgnB rfl rfl) ?_
      refine WL_nil ?_
      refine W_ret ?_
      refine ret1 4 (.inr rfl) rfl ⟨?_, hI.pu⟩
      rw [decide_eq_false (by omega)]; rfl
theorem less_any (a b : SEnt) (w0 : World) : Calls Tryz.prog 44 #[.agg (stmL a).toArray, .agg (stmL b).toArray] w0 fun en w' => en = .returned (.bool (decide (a.less b))) ∧ Pure w0 w' := by
  refine (less_raw (a.t : Int) a.c (b.t : Int) b.c w0).mono ?_
  rintro e w' ⟨rfl, hp⟩
  refine ⟨?_, hp⟩
  congr 2
  refine decide_eq_decide.2 ?_
  unfold SEnt.less
  omega
set_option maxHeartbeats 1000000 in
theorem shas_any (b : Nat) (c : Int) (A : Option Addr) (n cc : Nat) (w0 : World) (hc : w0.cell? ⟨b, 6, none⟩ = some (.slice A n cc)) :
    Calls Tryz.prog 39 #[.pointer (some ⟨b, 0, none⟩), .int .i64 c] w0 fun en w' => en = .returned (.bool (decide (0 ≤ c ∧ c < (n : Int)))) ∧ Pure w0 w' := by
  have hI := Inv.start (fun _ => False) w0
  refine calls_of_W (N := Tryz.f39.ntmps) Tryz.func39 rfl rfl rfl ?_
  refine W_seq ?_
  refine W_region ?_
  refine WL_val rfl rfl rfl (by exact rAsgnB rfl rfl) ?_
  refine WL_nil ?_
  by_cases h0 : c < 0
  · refine W_seq ?_
    refine W_region ?_
    refine WL_val rfl rfl rfl (by exact rMoveP rfl rfl) ?_
    refine WL_val rfl rfl rfl (rPtrNe rfl Tryz.underlying30 rfl rfl) ?_
    refine WL_val rfl rfl rfl (by exact rMoveB rfl rfl) ?_
    refine WL_val rfl rfl rfl (by exact rMoveI rfl rfl) ?_
    refine WL_val rfl rfl rfl (by exact rGeqF rfl rfl rfl (by omega)) ?_
    refine WL_val rfl rfl rfl (by exact rPickTB rfl rfl rfl) ?_
    refine WL_val rfl rfl rfl (by exact rMoveB rfl rfl) ?_
    refine WL_skip rfl rfl rfl ?_
    refine WL_skip rfl rfl rfl ?_
    refine WL_skip rfl rfl rfl ?_
    refine WL_skip rfl rfl rfl ?_
    refine WL_skip rfl rfl rfl ?_
    refine WL_skip rfl rfl rfl ?_
    refine WL_skip rfl rfl rfl ?_
    refine WL_val rfl rfl rfl (by exact rPickFB rfl rfl rfl) ?_
    refine WL_val rfl rfl rfl (by exact rAsgnB rfl rfl) ?_
    refine WL_nil ?_
    refine W_ret ?_
    refine ret1 4 (.inr rfl) rfl ⟨?_, hI.pu⟩
    rw [decide_eq_false (by omega)]; rfl
  · by_cases h1 : c < (n : Int)
    · refine W_seq ?_
      refine W_region ?_
      refine WL_val rfl rfl rfl (by exact rMoveP rfl rfl) ?_
      refine WL_val rfl rfl rfl (rPtrNe rfl Tryz.underlying30 rfl rfl) ?_
      refine WL_val rfl rfl rfl (by exact rMoveB rfl rfl) ?_
      refine WL_val rfl rfl rfl (by exact rMoveI rfl rfl) ?_
      refine WL_val rfl rfl rfl (by exact rGeqT rfl rfl rfl (by omega)) ?_
      refine WL_val rfl rfl rfl (by exact rPickTB rfl rfl rfl) ?_
      refine WL_val rfl rfl rfl (by exact rMoveB rfl rfl) ?_
      refine WL_val rfl rfl rfl (by exact rMoveI rfl rfl) ?_
      refine WL_val rfl rfl rfl (by exact rMoveP rfl rfl) ?_
      refine WL_val rfl rfl rfl (rNilChk rfl rfl) ?_
      refine WL_val rfl rfl rfl (by exact rFldN (off := 6) rfl (by kernel_rfl) rfl) ?_
      refine WL_val rfl rfl rfl (by exact rLd (v := .slice _ _ _) rfl (by kernel_rfl) rfl (by exact hI.oldp hc)) ?_
      refine WL_val rfl rfl rfl (rLen rfl Tryz.underlying65 rfl) ?_
      refine WL_val rfl rfl rfl (by exact rLssT rfl rfl rfl (by omega)) ?_
      refine WL_val rfl rfl rfl (by exact rPickTB rfl rfl rfl) ?_
      refine WL_val rfl rfl rfl (by exact rAsgnB rfl rfl) ?_
      refine WL_nil ?_
      refine W_ret ?_
      refine ret1 4 (.inr rfl) rfl ⟨?_, hI.pu⟩
      rw [decide_eq_true (by omega)]; rfl
    · refine W_seq ?_
      refine W_region ?_
      refine WL_val rfl rfl rfl (by exact rMoveP rfl rfl) ?_
      refine WL_val rfl rfl rfl (rPtrNe rfl Tryz.underlying30 rfl rfl) ?_
      refine WL_val rfl rfl rfl (by exact rMoveB rfl rfl) ?_
      refine WL_val rfl rfl rfl (by exact rMoveI rfl rfl) ?_
      refine WL_val rfl rfl rfl (by exact rGeqT rfl rfl rfl (by omega)) ?_
      refine WL_val rfl rfl rfl (by exact rPickTB rfl rfl rfl) ?_
      refine WL_val rfl rfl rfl (by exact rMoveB rfl rfl) ?_
      refine WL_val rfl rfl rfl (by exact rMoveI rfl rfl) ?_
      refine WL_val rfl rfl rfl (by exact rMoveP rfl rfl) ?_
      refine WL_val rfl rfl rfl (rNilChk rfl rfl) ?_
      refine WL_val rfl rfl rfl (by exact rFldN (off := 6) rfl (by kernel_rfl) rfl) ?_
      refine WL_val rfl rfl rfl (by exact rLd (v := .slice _ _ _) rfl (by kernel_rfl) rfl (by exact hI.oldp hc)) ?_
      refine WL_val rfl rfl rfl (rLen rfl Tryz.underlying65 rfl) ?_
      refine WL_val rfl rfl rfl (by exact rLssF rfl rfl rfl (by omega)) ?_
      refine WL_val rfl rfl rfl (by exact rPickTB rfl rfl rfl) ?_
      refine WL_val rfl rfl rfl (by exact rAsgnB rfl rfl) ?_
      refine WL_nil ?_
      refine W_ret ?_
      refine ret1 4 (.inr rfl) rfl ⟨?_, hI.pu⟩
      rw [decide_eq_false (by omega)]; rfl
theorem evs_push (l : List Ev) (e : Ev) : (l ++ [e]).flatMap evL = l.flatMap evL ++ evL e := by simp
theorem sts_push (l : List SEnt) (e : SEnt) : (l ++ [e]).flatMap stmL = l.flatMap stmL ++ stmL e := by simp
set_option maxHeartbeats 1000000 in
theorem see_any (L : StL) (s : StS) (e : Ev) (st : SEnt) (S : Nat → Prop) (w0 : World) (hI : Inv S w0 w0 (spt L s)) (hl : s.evs.length ≤ 1000 ∧ s.sts.length ≤ 1000) :
    Calls Tryz.prog 23 #[.pointer (some ⟨L.sb, 0, none⟩), .agg (evL e).toArray, .agg (stmL st).toArray] w0 fun en w' => en = .returned (.tuple #[]) ∧ ∃ EA ec SA sc, Inv S w0 w' (spt { L with EA := EA, ec := ec, SA := SA, sc := sc } (obsF s e st)) := by
  unfold spt at hI
  refine calls_of_W (N := Tryz.f23.ntmps) Tryz.func23 rfl rfl rfl ?_
  refine W_seq ?_
  refine W_region ?_
  refine WL_box (u := .agg (evL e).toArray) (vs := (evL e).toArray) hI rfl rfl rfl rfl rfl rfl ?_
  clear hI; rintro b4 w - - hI
  refine WL_box (u := .agg (stmL st).toArray) (vs := (stmL st).toArray) hI rfl rfl rfl rfl rfl rfl ?_
  clear hI; rintro b5 w - - hI
  refine WL_nil ?_
  replace hI := (hI.pull 9 rfl).pull 10 rfl
  replace hI : Inv S w0 w [Row 0 77 2 L.SA s.sts.length L.sc (s.sts.flatMap stmL), Row 0 48 7 L.EA s.evs.length L.ec (s.evs.flatMap evL), B b5 77 (stmL st).toArray, B b4 48 (evL e).toArray, B L.sb 73 (stoC L s), B L.nb 80 (flatB (s.n * 8) (ndF s)), B L.cb 84 (flatB s.k (clF L s)), Many s.k (cntE L s), Row 0 89 9 L.MA s.mails.length L.mc (s.mails.flatMap mailL), Row 0 55 1 L.LA L.ln L.lc L.lv, RowsE L.lv L.LD] := hI
  refine W_draw (by kernel_rfl) ?_
  refine WA_T (fun _ => True) [] ?_
  refine WT_take 1 rfl rfl (by kernel_rfl) trivial rfl (fun W _ => (by exact rMoveP rfl rfl)) ?_
  refine WT_true ?_
  refine WA_inv (T := [18]) hI.d0.d0.drew ?_
  intro Sx hSx hXS
  replace hI := hI.drew
  refine WT_take 0 rfl rfl (by kernel_rfl) (hXS _ hI.d0.d0) rfl (fun W hW => have hI := hSx W hW; (by exact rMoveP rfl rfl)) ?_
  refine WT_take 2 rfl rfl (by kernel_rfl) (hXS _ hI.d0.d0) rfl (fun W hW => have hI := hSx W hW; (by exact rMoveP rfl rfl)) ?_
  refine WT_take 3 rfl rfl (by kernel_rfl) (hXS _ hI.d0.d0) rfl (fun W hW => have hI := hSx W hW; (rNilChk rfl rfl)) ?_
  refine WT_take 4 rfl rfl (by kernel_rfl) (hXS _ hI.d0.d0) rfl (fun W hW => have hI := hSx W hW; (by exact rFldN (off := 10) rfl (by kernel_rfl) rfl)) ?_
  refine WT_take 5 rfl rfl (by kernel_rfl) (hXS _ hI.d0.d0) rfl (fun W hW => have hI := hSx W hW; (by exact rLd (v := .slice _ _ _) rfl (by kernel_rfl) rfl (by exact hI.c2 rfl))) ?_
  refine WT_take 6 rfl rfl (by kernel_rfl) (hXS _ hI.d0.d0) rfl (fun W hW => have hI := hSx W hW; (rLdA (n := 7) (l := evL e) rfl (by kernel_rfl) (by kernel_rfl) rfl rfl (fun k u hk => hI.cell 1 rfl (by rw [Nat.zero_add, List.getElem?_toArray]; exact hk)))) ?_
  refine WT_take 9 rfl rfl (by kernel_rfl) (hXS _ hI.d0.d0) rfl (fun W hW => have hI := hSx W hW; (by exact rMoveP rfl rfl)) ?_
  refine WT_take 10 rfl rfl (by kernel_rfl) (hXS _ hI.d0.d0) rfl (fun W hW => have hI := hSx W hW; (rNilChk rfl rfl)) ?_
  refine WT_take 11 rfl rfl (by kernel_rfl) (hXS _ hI.d0.d0) rfl (fun W hW => have hI := hSx W hW; (by exact rFldN (off := 11) rfl (by kernel_rfl) rfl)) ?_
  refine WT_take 12 rfl rfl (by kernel_rfl) (hXS _ hI.d0.d0) rfl (fun W hW => have hI := hSx W hW; (by exact rLd (v := .slice _ _ _) rfl (by kernel_rfl) rfl (by exact hI.c2 rfl))) ?_
  refine WT_take 13 rfl rfl (by kernel_rfl) (hXS _ hI.d0.d0) rfl (fun W hW => have hI := hSx W hW; (rLdA (n := 2) (l := stmL st) rfl (by kernel_rfl) (by kernel_rfl) rfl rfl (fun k u hk => hI.cell 0 rfl (by rw [Nat.zero_add, List.getElem?_toArray]; exact hk)))) ?_
  refine WT_two 7 14 rfl rfl (by kernel_rfl) rfl rfl ?_ ?_
  · refine WL_lit (vs := evL e) (qs := [(0, .agg (evL e).toArray)]) [.int .i64 0, .int .i64 0, .int .i64 0, .int .i64 0, .int .i64 0, .int .i64 0, .int .i64 0] [0] hI rfl rfl rfl rfl rfl rfl Tryz.underlying35 (fun _ => by kernel_rfl) ?_
    clear hI; rintro b13 w - - hI
    refine WL_nil ⟨hXS _ hI.d0.d0.d0, ?_⟩
    refine WT_two 8 14 rfl rfl (by kernel_rfl) rfl rfl ?_ ?_
    · refine WL_app2 (z := .agg #[.int .i64 0, .int .i64 0, .int .i64 0, .int .i64 0, .int .i64 0, .int .i64 0, .int .i64 0]) (by_ := 56) (news := evL e) hI rfl rfl rfl rfl rfl rfl Tryz.underlying35 (by kernel_rfl) rfl (by omega) (by rfl) (by exact hI.lit0) rfl (by omega) (by omega) (Nat.zero_le _) ?_
      clear hI; rintro A14 c14 w _ hc14 hI
      refine WL_nil ⟨hXS _ hI.d0.d0.d0, ?_⟩
      refine WT_one 14 rfl (by kernel_rfl) rfl ?_
      refine WL_lit (vs := stmL st) (qs := [(0, .agg (stmL st).toArray)]) [.int .i64 0, .int .i64 0] [0] hI rfl rfl rfl rfl rfl rfl Tryz.underlying71 (fun _ => by kernel_rfl) ?_
      clear hI; rintro b20 w - - hI
      refine WL_nil ⟨hXS _ hI.d0.d0.d0.d0, ?_⟩
      refine WT_one 15 rfl (by kernel_rfl) rfl ?_
      refine WL_app2 (z := .agg #[.int .i64 0, .int .i64 0]) (by_ := 16) (news := stmL st) hI rfl rfl rfl rfl rfl rfl Tryz.underlying71 (by kernel_rfl) rfl (by omega) (by rfl) (by exact hI.lit0) rfl (by omega) (by omega) (Nat.zero_le _) ?_
      clear hI; rintro A21 c21 w _ hc21 hI
      refine WL_nil ⟨hXS _ hI.d0.d0.d0.d0, ?_⟩
      refine WT_take 16 rfl rfl (by kernel_rfl) (hXS _ hI.d0.d0.d0.d0) rfl (fun W hW => have hI := hSx W hW; (rNilChk rfl rfl)) ?_
      refine WT_take 17 rfl rfl (by kernel_rfl) (hXS _ hI.d0.d0.d0.d0) rfl (fun W hW => have hI := hSx W hW; (by exact rFldN (off := 10) rfl (by kernel_rfl) rfl)) ?_
      refine WT_A (by kernel_rfl) ?_
      clear hXS hSx
      refine WA_one 18 rfl (by kernel_rfl) ?_
      refine WL_st 6 rfl (u := .slice A14 (s.evs.length + 1) c14) (j := 10) hI rfl rfl rfl rfl rfl rfl (by kernel_rfl) rfl rfl rfl ?_
      clear hI; intro w hI
      refine WL_nil ?_
      refine WA_one 19 rfl (by kernel_rfl) ?_
      refine WL_val rfl rfl rfl (rNilChk rfl rfl) ?_
      refine WL_nil ?_
      refine WA_one 20 rfl (by kernel_rfl) ?_
      refine WL_val rfl rfl rfl (by exact rFldN (off := 11) rfl (by kernel_rfl) rfl) ?_
      refine WL_nil ?_
      refine WA_one 21 rfl (by kernel_rfl) ?_
      refine WL_st 6 rfl (u := .slice A21 (s.sts.length + 1) c21) (j := 11) hI rfl rfl rfl rfl rfl rfl (by kernel_rfl) rfl rfl rfl ?_
      clear hI; intro w hI
      refine WL_nil ?_
      refine WA_end (by kernel_rfl) ?_
      refine ret0 (.inl rfl) rfl ⟨rfl, A14, c14, A21, c21, ?_⟩
      have e1 : (s.evs ++ [e]).length = s.evs.length + 1 := by simp
      have e2 : (s.sts ++ [st]).length = s.sts.length + 1 := by simp
      rw [← evs_push, ← sts_push, ← e1, ← e2] at hI
      exact (((hI.d0.d0.erase 2).erase 2).back 8).back 7
    · refine WL_lit (vs := stmL st) (qs := [(0, .agg (stmL st).toArray)]) [.int .i64 0, .int .i64 0] [0] hI rfl rfl rfl rfl rfl rfl Tryz.underlying71 (fun _ => by kernel_rfl) ?_
      clear hI; rintro b20 w - - hI
      refine WL_nil ⟨hXS _ hI.d0.d0.d0.d0, ?_⟩
      refine WT_one 8 rfl (by kernel_rfl) rfl ?_
      refine WL_app3 (z := .agg #[.int .i64 0, .int .i64 0, .int .i64 0, .int .i64 0, .int .i64 0, .int .i64 0, .int .i64 0]) (by_ := 56) (news := evL e) hI rfl rfl rfl rfl rfl rfl Tryz.underlying35 (by kernel_rfl) rfl (by omega) (by rfl) (by exact hI.d0.lit0) rfl (by omega) (by omega) (Nat.zero_le _) ?_
      clear hI; rintro A14 c14 w _ hc14 hI
      refine WL_nil ⟨hXS _ hI.d0.d0.d0.d0, ?_⟩
      refine WT_one 15 rfl (by kernel_rfl) rfl ?_
      refine WL_app2 (z := .agg #[.int .i64 0, .int .i64 0]) (by_ := 16) (news := stmL st) hI rfl rfl rfl rfl rfl rfl Tryz.underlying71 (by kernel_rfl) rfl (by omega) (by rfl) (by exact hI.lit0) rfl (by omega) (by omega) (Nat.zero_le _) ?_
      clear hI; rintro A21 c21 w _ hc21 hI
      refine WL_nil ⟨hXS _ hI.d0.d0.d0.d0, ?_⟩
      refine WT_take 16 rfl rfl (by kernel_rfl) (hXS _ hI.d0.d0.d0.d0) rfl (fun W hW => have hI := hSx W hW; (rNilChk rfl rfl)) ?_
      refine WT_take 17 rfl rfl (by kernel_rfl) (hXS _ hI.d0.d0.d0.d0) rfl (fun W hW => have hI := hSx W hW; (by exact rFldN (off := 10) rfl (by kernel_rfl) rfl)) ?_
      refine WT_A (by kernel_rfl) ?_
      clear hXS hSx
      refine WA_one 18 rfl (by kernel_rfl) ?_
      refine WL_st 6 rfl (u := .slice A14 (s.evs.length + 1) c14) (j := 10) hI rfl rfl rfl rfl rfl rfl (by kernel_rfl) rfl rfl rfl ?_
      clear hI; intro w hI
      refine WL_nil ?_
      refine WA_one 19 rfl (by kernel_rfl) ?_
      refine WL_val rfl rfl rfl (rNilChk rfl rfl) ?_
      refine WL_nil ?_
      refine WA_one 20 rfl (by kernel_rfl) ?_
      refine WL_val rfl rfl rfl (by exact rFldN (off := 11) rfl (by kernel_rfl) rfl) ?_
      refine WL_nil ?_
      refine WA_one 21 rfl (by kernel_rfl) ?_
      refine WL_st 6 rfl (u := .slice A21 (s.sts.length + 1) c21) (j := 11) hI rfl rfl rfl rfl rfl rfl (by kernel_rfl) rfl rfl rfl ?_
      clear hI; intro w hI
      refine WL_nil ?_
      refine WA_end (by kernel_rfl) ?_
      refine ret0 (.inl rfl) rfl ⟨rfl, A14, c14, A21, c21, ?_⟩
      have e1 : (s.evs ++ [e]).length = s.evs.length + 1 := by simp
      have e2 : (s.sts ++ [st]).length = s.sts.length + 1 := by simp
      rw [← evs_push, ← sts_push, ← e1, ← e2] at hI
      exact (((hI.d0.d0.erase 2).erase 2).back 8).back 7
  · refine WL_lit (vs := stmL st) (qs := [(0, .agg (stmL st).toArray)]) [.int .i64 0, .int .i64 0] [0] hI rfl rfl rfl rfl rfl rfl Tryz.underlying71 (fun _ => by kernel_rfl) ?_
    clear hI; rintro b20 w - - hI
    refine WL_nil ⟨hXS _ hI.d0.d0.d0, ?_⟩
    refine WT_one 7 rfl (by kernel_rfl) rfl ?_
    refine WL_lit (vs := evL e) (qs := [(0, .agg (evL e).toArray)]) [.int .i64 0, .int .i64 0, .int .i64 0, .int .i64 0, .int .i64 0, .int .i64 0, .int .i64 0] [0] hI rfl rfl rfl rfl rfl rfl Tryz.underlying35 (fun _ => by kernel_rfl) ?_
    clear hI; rintro b13 w - - hI
    refine WL_nil ⟨hXS _ hI.d0.d0.d0.d0, ?_⟩
    refine WT_one 8 rfl (by kernel_rfl) rfl ?_
    refine WL_app3 (z := .agg #[.int .i64 0, .int .i64 0, .int .i64 0, .int .i64 0, .int .i64 0, .int .i64 0, .int .i64 0]) (by_ := 56) (news := evL e) hI rfl rfl rfl rfl rfl rfl Tryz.underlying35 (by kernel_rfl) rfl (by omega) (by rfl) (by exact hI.lit0) rfl (by omega) (by omega) (Nat.zero_le _) ?_
    clear hI; rintro A14 c14 w _ hc14 hI
    refine WL_nil ⟨hXS _ hI.d0.d0.d0.d0, ?_⟩
    refine WT_one 15 rfl (by kernel_rfl) rfl ?_
    refine WL_app2 (z := .agg #[.int .i64 0, .int .i64 0]) (by_ := 16) (news := stmL st) hI rfl rfl rfl rfl rfl rfl Tryz.underlying71 (by kernel_rfl) rfl (by omega) (by rfl) (by exact hI.d0.lit0) rfl (by omega) (by omega) (Nat.zero_le _) ?_
    clear hI; rintro A21 c21 w _ hc21 hI
    refine WL_nil ⟨hXS _ hI.d0.d0.d0.d0, ?_⟩
    refine WT_take 16 rfl rfl (by kernel_rfl) (hXS _ hI.d0.d0.d0.d0) rfl (fun W hW => have hI := hSx W hW; (rNilChk rfl rfl)) ?_
    refine WT_take 17 rfl rfl (by kernel_rfl) (hXS _ hI.d0.d0.d0.d0) rfl (fun W hW => have hI := hSx W hW; (by exact rFldN (off := 10) rfl (by kernel_rfl) rfl)) ?_
    refine WT_A (by kernel_rfl) ?_
    clear hXS hSx
    refine WA_one 18 rfl (by kernel_rfl) ?_
    refine WL_st 6 rfl (u := .slice A14 (s.evs.length + 1) c14) (j := 10) hI rfl rfl rfl rfl rfl rfl (by kernel_rfl) rfl rfl rfl ?_
    clear hI; intro w hI
    refine WL_nil ?_
    refine WA_one 19 rfl (by kernel_rfl) ?_
    refine WL_val rfl rfl rfl (rNilChk rfl rfl) ?_
    refine WL_nil ?_
    refine WA_one 20 rfl (by kernel_rfl) ?_
    refine WL_val rfl rfl rfl (by exact rFldN (off := 11) rfl (by kernel_rfl) rfl) ?_
    refine WL_nil ?_
    refine WA_one 21 rfl (by kernel_rfl) ?_
    refine WL_st 6 rfl (u := .slice A21 (s.sts.length + 1) c21) (j := 11) hI rfl rfl rfl rfl rfl rfl (by kernel_rfl) rfl rfl rfl ?_
    clear hI; intro w hI
    refine WL_nil ?_
    refine WA_end (by kernel_rfl) ?_
    refine ret0 (.inl rfl) rfl ⟨rfl, A14, c14, A21, c21, ?_⟩
    have e1 : (s.evs ++ [e]).length = s.evs.length + 1 := by simp
    have e2 : (s.sts ++ [st]).length = s.sts.length + 1 := by simp
    rw [← evs_push, ← sts_push, ← e1, ← e2] at hI
    exact (((hI.d0.d0.erase 2).erase 2).back 8).back 7
end Go.Proofs.YtglioflpblpmpaaGreatDoor
namespace Go.Proofs.YtglioflpblpmpaaGreatDoor
open Go.RowKit
set_option linter.unusedVariables false
set_option linter.unusedSimpArgs false
theorem sendTo_succ (s : StS) (c what : Nat) (e : SEnt) (j : Nat) : sendTo s c what e (j + 1) = pushM (sendTo s c what e j) (sendM s c what e j) := by
  unfold sendTo
  rw [List.range_succ, List.foldl_append]; rfl
theorem rep_bools (n : Nat) : rep (.bool false) n = (boolsV (List.replicate n false)).toArray := by
  apply Array.ext'
  simp [rep, boolsV]
/-- A new row for one client. -/
theorem Inv.cnew {S : Nat → Prop} {w0 w : World} {H : List Ent} {L L' : StL} {s s' : StS} {c b : Nat} (h : Inv S w0 w (B b 4 (boolsV (s'.cl c).counted).toArray :: Many s.k (cntE L s) :: H)) (hc : c < s.k) (hw : L'.cw c = some b)
    (ho : ∀ i, i < s.k → i ≠ c → cntE L s i = cntE L' s' i) : Inv S w0 w (Many s.k (cntE L' s') :: H) := by
  have h1 := (((h.sw0).many_out hc).d0).sw0
  refine (h1.many_in hc (if_pos rfl)).many_congr fun i hi => ?_
  by_cases hic : i = c
  · subst hic
    rw [if_pos rfl]
    unfold cntE
    rw [hw]
  · rw [if_neg hic, if_neg hic]
    exact ho i hi hic
set_option maxHeartbeats 600000 in
theorem ssend_any (L : StL) (s : StS) (c what : Nat) (e : SEnt) (hc : c < s.k) (hk8 : s.k ≤ 8) (hn : 1 ≤ s.n ∧ s.n ≤ 7) (hr : (s.cl c).round ≤ 1000000) (hk : 0 ≤ (s.cl c).began.key) (S : Nat → Prop) (w0 : World) (hI : Inv S w0 w0 (spt L s)) :
    Calls Tryz.prog 24 #[.pointer (some ⟨L.sb, 0, none⟩), .int .i64 (c : Int), .int .i64 (what : Int), .agg (entL e).toArray] w0 fun en w' => en = .returned (.tuple #[]) ∧ ∃ b MA mc, Inv S w0 w' (spt { L with cw := fun i => if i = c then some b else L.cw i, MA := MA, mc := mc } (sendF s c what e)) := by
  unfold spt at hI
  rw [← clX_start (c := c)] at hI
  refine calls_of_W (N := Tryz.f24.ntmps) Tryz.func24 rfl rfl rfl ?_
  refine W_seq ?_
  refine W_region ?_
  refine WL_box (u := .agg (entL e).toArray) (vs := (entL e).toArray) hI rfl rfl rfl rfl rfl rfl ?_
  clear hI; rintro b7 w - - hI
  refine WL_nil ?_
  obtain ⟨x, hx⟩ : ∃ x, s.cl c = x := ⟨_, rfl⟩
  rw [hx] at hI hr hk
  refine W_seq ?_
  refine W_region ?_
  refine WL_val rfl rfl rfl (by exact rMoveP rfl rfl) ?_
  refine WL_val rfl rfl rfl (rNilChk rfl rfl) ?_
  refine WL_val rfl rfl rfl (by exact rFldN (off := 6) rfl (by kernel_rfl) rfl) ?_
  refine WL_val rfl rfl rfl (by exact rLd (v := .slice _ _ _) rfl (by kernel_rfl) rfl (by exact hI.c1 rfl)) ?_
  refine WL_val rfl rfl rfl (by exact rMoveI rfl rfl) ?_
  refine WL_val rfl rfl rfl (rIdx (sz := 15) rfl Tryz.underlying65 (by kernel_rfl) rfl rfl (by omega)) ?_
  refine WL_val rfl rfl rfl (by exact rAsgnP rfl rfl) ?_
  refine WL_nil ?_
  refine W_seq ?_
  refine W_region ?_
  refine WL_val rfl rfl rfl (by exact rMoveP rfl rfl) ?_
  refine WL_val rfl rfl rfl (rNilChk rfl rfl) ?_
  refine WL_val rfl rfl rfl (by exact rFld (off := 10) rfl (by kernel_rfl) rfl) ?_
  refine WL_val rfl rfl rfl (by exact rLd (v := .int .i64 _) rfl (by kernel_rfl) rfl (by exact (clX_at 3 rfl hI hc).c10)) ?_
  refine WL_val rfl rfl rfl (by exact rInc rfl rfl rfl (by omega)) ?_
  refine WL_val rfl rfl rfl (rNilChk rfl rfl) ?_
  refine WL_val rfl rfl rfl (by exact rFld (off := 10) rfl (by kernel_rfl) rfl) ?_
  refine WL_st 3 rfl (u := .int .i64 ((x.round + 1 : Nat) : Int)) (j := 0 + c * 15 + 10) hI rfl rfl rfl rfl rfl rfl (by kernel_rfl) rfl (clX_blt hc (by omega)) (clX_set (x := x) (cv := cntV L s c) (cv' := cntV L s c) (x' := { x with round := x.round + 1 }) hc 10 (by omega) rfl) ?_
  clear hI; intro w hI
  refine WL_nil ?_
  refine W_seq ?_
  refine W_region ?_
  refine WL_val rfl rfl rfl (by exact rMoveP rfl rfl) ?_
  refine WL_val rfl rfl rfl (by exact rMoveI rfl rfl) ?_
  refine WL_val rfl rfl rfl (by exact rEql rfl rfl rfl) ?_
  refine WL_val rfl rfl rfl (rNilChk rfl rfl) ?_
  refine WL_val rfl rfl rfl (by exact rFld (off := 9) rfl (by kernel_rfl) rfl) ?_
  refine WL_st 3 rfl (u := .bool (decide ((what : Int) = 2))) (j := 0 + c * 15 + 9) hI rfl rfl rfl rfl rfl rfl (by kernel_rfl) rfl (clX_blt hc (by omega)) (clX_set (x := { x with round := x.round + 1 }) (cv := cntV L s c) (cv' := cntV L s c) (x' := { x with round := x.round + 1, telling := decide ((what : Int) = 2) }) hc 9 (by omega) rfl) ?_
  clear hI; intro w hI
  refine WL_nil ?_
  refine W_seq ?_
  refine W_region ?_
  refine WL_val rfl rfl rfl (by exact rMoveP rfl rfl) ?_
  refine WL_val rfl rfl rfl (by exact rMoveP rfl rfl) ?_
  refine WL_val rfl rfl rfl (rNilChk rfl rfl) ?_
  refine WL_val rfl rfl rfl (by exact rFldN (off := 0) rfl (by kernel_rfl) rfl) ?_
  refine WL_val rfl rfl rfl (by exact rFldN (off := 0) rfl (by kernel_rfl) rfl) ?_
  refine WL_val rfl rfl rfl (by exact rLd (v := .int .i64 _) rfl (by kernel_rfl) rfl (by exact hI.c1 rfl)) ?_
  refine WL_mk (by_ := 1) (z := .bool false) hI rfl rfl rfl rfl rfl rfl Tryz.underlying55 (by kernel_rfl) rfl (by omega) (by omega) ?_
  clear hI; rintro b35 w - - hI
  refine WL_val rfl rfl rfl (rNilChk rfl rfl) ?_
  refine WL_val rfl rfl rfl (by exact rFld (off := 11) rfl (by kernel_rfl) rfl) ?_
  refine WL_st 4 rfl (u := .slice (some ⟨b35, 0, none⟩) s.n s.n) (j := 0 + c * 15 + 11) hI rfl rfl rfl rfl rfl rfl (by kernel_rfl) rfl (clX_blt hc (by omega)) (clX_set (x := { x with round := x.round + 1, telling := decide ((what : Int) = 2) }) (cv := cntV L s c) (x' := { x with round := x.round + 1, telling := decide ((what : Int) = 2) }) (cv' := .slice (some ⟨b35, 0, none⟩) s.n s.n) hc 11 (by omega) rfl) ?_
  clear hI; intro w hI
  refine WL_nil ?_
  have hdt : decide ((what : Int) = 2) = decide (what = 2) := decide_eq_decide.2 (by omega)
  rw [hdt] at hI
  obtain ⟨s1, hs1⟩ : ∃ s1, setCl s c (roundC s c what) = s1 := ⟨_, rfl⟩
  obtain ⟨L1, hL1⟩ : ∃ L1 : StL, { L with cw := fun i => if i = c then some b35 else L.cw i } = L1 := ⟨_, rfl⟩
  have hcl1 : s1.cl c = roundC s c what := by rw [← hs1]; exact if_pos rfl
  have hcw1 : L1.cw c = some b35 := by rw [← hL1]; exact if_pos rfl
  have hclo : ∀ i, i ≠ c → s1.cl i = s.cl i := fun i hi => by rw [← hs1]; exact if_neg hi
  have hcwo : ∀ i, i ≠ c → L1.cw i = L.cw i := fun i hi => by rw [← hL1]; exact if_neg hi
  have hn1 : s1.n = s.n := by rw [← hs1]; rfl
  have hk1 : s1.k = s.k := by rw [← hs1]; rfl
  have hm1 : s1.mails = s.mails := by rw [← hs1]; rfl
  have hcv1 : cntV L1 s1 c = .slice (some ⟨b35, 0, none⟩) s.n s.n := by unfold cntV; rw [hcw1, hn1]
  have hF1 : clF L1 s1 c = clL { x with round := x.round + 1, telling := decide (what = 2) } (.slice (some ⟨b35, 0, none⟩) s.n s.n) := by
    unfold clF
    rw [hcl1, hcv1, ← hx]
    rfl
  have hend : clX s.k L s c { x with round := x.round + 1, telling := decide (what = 2) } (.slice (some ⟨b35, 0, none⟩) s.n s.n) = flatB s.k (clF L1 s1) := clX_end hF1.symm fun i hi hic => by
    unfold clF cntV
    rw [hclo i hic, hcwo i hic, hn1]
  replace hI : Inv S w0 w ([B b7 79 (entL e).toArray] ++ spt L1 s1) := by
    rw [rep_bools] at hI
    replace hI := (hI.pull 5 rfl).sw0
    have h2 : Inv S w0 w [B b35 4 (boolsV (s1.cl c).counted).toArray, Many s.k (cntE L s), B b7 79 (entL e).toArray, B L.sb 73 (stoC L s), B L.nb 80 (flatB (s.n * 8) (ndF s)), B L.cb 84 (flatB s.k (clF L1 s1)), Row 0 89 9 L.MA s.mails.length L.mc (s.mails.flatMap mailL),
        Row 0 55 1 L.LA L.ln L.lc L.lv, RowsE L.lv L.LD, Row 0 48 7 L.EA s.evs.length L.ec (s.evs.flatMap evL), Row 0 77 2 L.SA s.sts.length L.sc (s.sts.flatMap stmL)] := by
      rw [hcl1, ← hend]; exact hI
    have h3 := (h2.cnew (L' := L1) (s' := s1) hc hcw1 (fun i hi hic => by unfold cntE; rw [hclo i hic, hcwo i hic])).back 4
    clear hI h2 hend hF1 hcv1 hcl1 hclo hcw1 hcwo
    subst hs1 hL1
    exact h3
  have hr1 : (s1.cl c).round = (s.cl c).round + 1 := by rw [hcl1]; rfl
  have hk1c : (s1.cl c).began.key = ((keyC s c : Nat) : Int) := by rw [hcl1]; show (s.cl c).began.key = _; unfold keyC; rw [hx]; omega
  have hq : ∀ w MA mc ms, Inv S w0 w ([B b7 79 (entL e).toArray] ++ spt { L1 with MA := MA, mc := mc } { s1 with mails := ms }) → w.cell? ⟨L.cb, 0 + c * 15 + 10, none⟩ = some (.int .i64 (((s.cl c).round + 1 : Nat) : Int)) ∧ w.cell? ⟨L.cb, 0 + c * 15 + 4, none⟩ = some (.int .i64 ((keyC s c : Nat) : Int)) := fun w MA mc ms hI => by
    have h := clF_at (c := c) 3 rfl hI (by show c < s1.k; omega)
    have hcb : L1.cb = L.cb := by rw [← hL1]
    have h10 : w.cell? ⟨L1.cb, 0 + c * 15 + 10, none⟩ = some (.int .i64 ((s1.cl c).round : Int)) := h.c10
    have h4 : w.cell? ⟨L1.cb, 0 + c * 15 + 4, none⟩ = some (.int .i64 (s1.cl c).began.key) := h.c4
    rw [hcb] at h10 h4
    rw [hr1] at h10
    rw [hk1c] at h4
    exact ⟨h10, h4⟩
  have hn7 : s1.n ≤ 7 := by omega
  have hsb : L1.sb = L.sb := by rw [← hL1]
  have hz : sendTo s c what e 0 = s1.mails := by rw [hm1]; rfl
  clear hcl1 hcw1 hclo hcwo hn1 hk1 hm1 hcv1 hF1 hend hr1 hk1c hsb hdt
  subst hL1
  subst hs1
  refine W_seq ?_
  refine W_region ?_
  refine WL_val rfl rfl rfl (by exact rMoveP rfl rfl) ?_
  refine WL_val rfl rfl rfl (rNilChk rfl rfl) ?_
  refine WL_val rfl rfl rfl (by exact rFldN (off := 5) rfl (by kernel_rfl) rfl) ?_
  refine WL_val rfl rfl rfl (by exact rLd (v := .slice _ _ _) rfl (by kernel_rfl) rfl (by exact hI.c1 rfl)) ?_
  refine WL_val rfl rfl rfl (rLen rfl Tryz.underlying64 rfl) ?_
  refine WL_val rfl rfl rfl (by exact rMoveI rfl rfl) ?_
  refine WL_nil ?_
  refine W_block ?_
  refine W_loop (fun ρ w => ∃ (j : Nat) (MA : Option Addr) (mc : Nat), j ≤ s.n ∧ Has ρ [(43, .int .i64 (j : Int)), (42, .int .i64 (s.n : Int)), (0, .pointer (some ⟨L.sb, 0, none⟩)), (1, .int .i64 (c : Int)), (2, .int .i64 (what : Int)), (7, .pointer (some ⟨b7, 0, none⟩)), (8, .pointer (some ⟨L.cb, 0 + c * 15, none⟩))] ∧
    Inv S w0 w ([B b7 79 (entL e).toArray] ++ spt { L with cw := fun i => if i = c then some b35 else L.cw i, MA := MA, mc := mc } { setCl s c (roundC s c what) with mails := sendTo s c what e j })) (fun ρ _ => s.n - cnt (ρ 43))
    ⟨0, L.MA, L.mc, by omega, ⟨rfl, rfl, rfl, rfl, rfl, rfl, rfl, trivial⟩, hI⟩ ?_
  clear hI
  rintro ρ w ⟨j, MA, mc, hj, hH, hI⟩
  obtain ⟨σ, rfl⟩ := hH.open
  by_cases hjn : j < s.n
  rotate_left
  · obtain rfl : j = s.n := by omega
    refine W_seq ?_
    refine W_region ?_
    refine WL_val rfl rfl rfl (by exact rLssF rfl rfl rfl (by omega)) ?_
    refine WL_nil ?_
    refine W_seq ?_
    refine W_cond false rfl ?_
    refine W_exit ?_
    exact ret0 (.inl rfl) rfl ⟨rfl, b35, MA, mc, hI.d0⟩
  refine W_seq ?_
  refine W_region ?_
  refine WL_val rfl rfl rfl (by exact rLssT rfl rfl rfl (by omega)) ?_
  refine WL_nil ?_
  refine W_seq ?_
  refine W_cond true rfl ?_
  refine W_skip ?_
  refine W_seq ?_
  refine W_block ?_
  refine W_seq ?_
  refine W_region ?_
  refine WL_val rfl rfl rfl (by exact rMoveI rfl rfl) ?_
  refine WL_val rfl rfl rfl (by exact rAsgnI rfl rfl) ?_
  refine WL_nil ?_
  refine W_seq ?_
  refine W_draw (by kernel_rfl) ?_
  refine WA_inv (T := [14]) hI.drew ?_
  intro Sx hSx hXS
  replace hI := hI.drew
  refine WT_take 0 rfl rfl (by kernel_rfl) (hXS _ hI) rfl (fun W hW => have hI := hSx W hW; (by exact rMoveI rfl rfl)) ?_
  refine WT_take 1 rfl rfl (by kernel_rfl) (hXS _ hI) rfl (fun W hW => have hI := hSx W hW; (by exact rMoveI rfl rfl)) ?_
  refine WT_take 2 rfl rfl (by kernel_rfl) (hXS _ hI) rfl (fun W hW => have hI := hSx W hW; (by exact rMoveP rfl rfl)) ?_
  refine WT_take 3 rfl rfl (by kernel_rfl) (hXS _ hI) rfl (fun W hW => have hI := hSx W hW; (rNilChk rfl rfl)) ?_
  refine WT_take 4 rfl rfl (by kernel_rfl) (hXS _ hI) rfl (fun W hW => have hI := hSx W hW; (by exact rFld (off := 10) rfl (by kernel_rfl) rfl)) ?_
  refine WT_take 5 rfl rfl (by kernel_rfl) (hXS _ hI) rfl (fun W hW => have hI := hSx W hW; (rLd (v := .int .i64 _) rfl (by kernel_rfl) rfl (hq _ _ _ _ hI).1)) ?_
  refine WT_take 6 rfl rfl (by kernel_rfl) (hXS _ hI) rfl (fun W hW => have hI := hSx W hW; (by exact rMoveP rfl rfl)) ?_
  refine WT_take 7 rfl rfl (by kernel_rfl) (hXS _ hI) rfl (fun W hW => have hI := hSx W hW; (rNilChk rfl rfl)) ?_
  refine WT_take 8 rfl rfl (by kernel_rfl) (hXS _ hI) rfl (fun W hW => have hI := hSx W hW; (by exact rFld (off := 2) rfl (by kernel_rfl) rfl)) ?_
  refine WT_take 9 rfl rfl (by kernel_rfl) (hXS _ hI) rfl (fun W hW => have hI := hSx W hW; (by exact rFld (off := 2) rfl (by kernel_rfl) rfl)) ?_
  refine WT_take 10 rfl rfl (by kernel_rfl) (hXS _ hI) rfl (fun W hW => have hI := hSx W hW; (rLd (v := .int .i64 _) rfl (by kernel_rfl) rfl (hq _ _ _ _ hI).2)) ?_
  refine WT_take 11 rfl rfl (by kernel_rfl) (hXS _ hI) rfl (fun W hW => have hI := hSx W hW; (rLdA (n := 3) (l := entL e) rfl (by kernel_rfl) (by kernel_rfl) rfl rfl (fun k u hk => hI.cell 0 rfl (by rw [Nat.zero_add, List.getElem?_toArray]; exact hk)))) ?_
  refine WT_take 12 rfl rfl (by kernel_rfl) (hXS _ hI) rfl (fun W hW => have hI := hSx W hW; (rBuild (qs := [(0, .int .i64 _), (1, .int .i64 _), (2, .int .i64 _), (3, .int .i64 _), (4, .agg #[_, _, _])]) (vs := [_, _, _, _, _, _, _]) [.int .i64 0, .int .i64 0, .int .i64 0, .int .i64 0, .int .i64 0, .int .i64 0, .int .i64 0] [0, 1, 2, 3, 4] rfl rfl rfl (fun _ => by kernel_rfl))) ?_
  refine WT_one 13 rfl (by kernel_rfl) rfl ?_
  refine WL_alloc (u := .agg #[.int .i64 0, .int .i64 0, .int .i64 0, .int .i64 0, .int .i64 0, .int .i64 0, .int .i64 0]) (vs := #[.int .i64 0, .int .i64 0, .int .i64 0, .int .i64 0, .int .i64 0, .int .i64 0, .int .i64 0]) hI rfl rfl rfl rfl (by kernel_rfl) rfl ?_
  clear hI; rintro b10 w - - hI
  refine WL_nil ⟨hXS _ hI.d0, ?_⟩
  refine WT_A (by kernel_rfl) ?_
  clear hXS hSx
  refine WA_one 14 rfl (by kernel_rfl) ?_
  refine WL_stw0 (u := .agg (msgL (sendM s c what e j).m).toArray) (vs := (msgL (sendM s c what e j).m).toArray) (n := 7) hI rfl rfl rfl rfl rfl rfl (by kernel_rfl) rfl rfl rfl ?_
  clear hI; intro w hI
  refine WL_nil ?_
  refine WA_end (by kernel_rfl) ?_
  refine W_draw (by kernel_rfl) ?_
  refine WA_inv (T := [13]) hI.drew ?_
  intro Sx hSx hXS
  replace hI := hI.drew
  refine WT_take 0 rfl rfl (by kernel_rfl) (hXS _ hI) rfl (fun W hW => have hI := hSx W hW; (by exact rMoveP rfl rfl)) ?_
  refine WT_take 1 rfl rfl (by kernel_rfl) (hXS _ hI) rfl (fun W hW => have hI := hSx W hW; (rNilChk rfl rfl)) ?_
  refine WT_take 2 rfl rfl (by kernel_rfl) (hXS _ hI) rfl (fun W hW => have hI := hSx W hW; (by exact rFldN (off := 7) rfl (by kernel_rfl) rfl)) ?_
  refine WT_take 3 rfl rfl (by kernel_rfl) (hXS _ hI) rfl (fun W hW => have hI := hSx W hW; (by exact rMoveP rfl rfl)) ?_
  refine WT_take 4 rfl rfl (by kernel_rfl) (hXS _ hI) rfl (fun W hW => have hI := hSx W hW; (rNilChk rfl rfl)) ?_
  refine WT_take 5 rfl rfl (by kernel_rfl) (hXS _ hI) rfl (fun W hW => have hI := hSx W hW; (by exact rFldN (off := 0) rfl (by kernel_rfl) rfl)) ?_
  refine WT_take 6 rfl rfl (by kernel_rfl) (hXS _ hI) rfl (fun W hW => have hI := hSx W hW; (by exact rFldN (off := 0) rfl (by kernel_rfl) rfl)) ?_
  refine WT_take 7 rfl rfl (by kernel_rfl) (hXS _ hI) rfl (fun W hW => have hI := hSx W hW; (rLd (v := .int .i64 (s.n : Int)) rfl (by kernel_rfl) rfl (hI.c2 rfl))) ?_
  refine WT_take 8 rfl rfl (by kernel_rfl) (hXS _ hI) rfl (fun W hW => have hI := hSx W hW; (by exact rMoveI rfl rfl)) ?_
  refine WT_take 9 rfl rfl (by kernel_rfl) (hXS _ hI) rfl (fun W hW => have hI := hSx W hW; (rAddNN rfl rfl rfl (by omega))) ?_
  refine WT_take 10 rfl rfl (by kernel_rfl) (hXS _ hI) rfl (fun W hW => have hI := hSx W hW; (by exact rMoveI rfl rfl)) ?_
  refine WT_take 11 rfl rfl (by kernel_rfl) (hXS _ hI) rfl (fun W hW => have hI := hSx W hW; (rLdA (n := 7) (l := msgL (sendM s c what e j).m) rfl (by kernel_rfl) (by kernel_rfl) rfl rfl (fun k u hk => hI.cell 0 rfl (by rw [Nat.zero_add, List.getElem?_toArray]; exact hk)))) ?_
  refine WT_take 12 rfl rfl (by kernel_rfl) (hXS _ hI) rfl (fun W hW => have hI := hSx W hW; (rBuild (qs := [(0, .int .i64 ((s.n + c : Nat) : Int)), (1, .int .i64 (j : Int)), (2, .agg (msgL (sendM s c what e j).m).toArray)]) (vs := mailL (sendM s c what e j)) [.int .i64 0, .int .i64 0, .int .i64 0, .int .i64 0, .int .i64 0, .int .i64 0, .int .i64 0, .int .i64 0, .int .i64 0] [0, 1, 2] rfl rfl rfl (fun _ => by kernel_rfl))) ?_
  refine WT_A (by kernel_rfl) ?_
  clear hXS hSx
  refine WA_one 13 rfl (by kernel_rfl) ?_
  refine WL_call rfl rfl rfl (rCall (vs := [.pointer _, .agg _]) rfl Tryz.func40 rfl rfl rfl) ?_
  refine (send_any { L with cw := fun i => if i = c then some b35 else L.cw i, MA := MA, mc := mc } { setCl s c (roundC s c what) with mails := sendTo s c what e j } (sendM s c what e j) (DLs _) _ (hI.fromB (X := [_, _]))).mono ?_
  rintro en w1 ⟨⟨v, rfl⟩, MA', mc', hJ⟩
  refine ⟨_, rfl, ?_⟩
  replace hI := hI.callB (X := [_, _]) hJ
  refine WL_nil ?_
  refine WA_end (by kernel_rfl) ?_
  refine W_region ?_
  refine WL_val rfl rfl rfl (by exact rInc rfl rfl rfl (by omega)) ?_
  refine WL_val rfl rfl rfl (by exact rMoveI rfl rfl) ?_
  refine WL_nil ?_
  refine ⟨⟨j + 1, MA', mc', by omega, ⟨rfl, rfl, rfl, rfl, rfl, rfl, rfl, trivial⟩, ?_⟩, by show s.n - ((j + 1 : Nat) : Int).toNat < s.n - (j : Int).toNat; omega⟩
  rw [sendTo_succ]
  replace hI := hI.erase 0
  exact hI
end Go.Proofs.YtglioflpblpmpaaGreatDoor
