/- Part of the proof that a desk answers in pieces. -/
import Derived.Test.YtnckdmogdehnoaaGreatDoorPReg
set_option linter.unusedVariables false
set_option linter.unusedSimpArgs false
namespace Go.Proofs.YtnckdmogdehnoaaGreatDoor
variable {a o : Int} {st' : List Int} {i : Nat} {dn : Nat → Bool}
def knowsF (o k : Int) : Bool := (o == 1 && (k == 1 || k == 2 || k == 3)) || (o == 2 && (k == 4 || k == 5)) || (o == 3 && (k == 6 || k == 7 || k == 8)) || (o == 4 && (k == 9 || k == 10)) || (o == 5 && (k == 9 || k == 10)) || (o == 6 && (k == 11 || k == 12))
def singleF (o : Int) : Bool := o == 1 || o == 2 || o == 6
def startF (o : Int) : List Int := if singleF o then [0] else []
def oneF (b : Bool) : Int := if b then 1 else 0
def posF (l : List Int) (a : Int) : Nat := (l.filter (· < a)).length
def insF (l : List Int) (a : Int) : List Int := l.take (posF l a) ++ a :: l.drop (posF l a)
def delF (l : List Int) (a : Int) : List Int := l.take (posF l a) ++ l.drop (posF l a + 1)
def regF (n k a b : Int) : Int × Int := if k = 1 then (n, n) else if k = 2 then (a, 0) else if n = a then (b, 1) else (n, 0)
def setF (l : List Int) (k a : Int) : List Int × Int := if k = 6 ∧ a ∉ l then (insF l a, 1) else if k = 7 ∧ a ∈ l then (delF l a, 1) else (l, oneF (decide (k = 8 ∧ a ∈ l)))
def lineF (o : Int) (l : List Int) (k a : Int) : List Int × Int := if k = 9 then (l ++ [a], 0) else if l = [] then (l, -1) else if o = 4 then (l.drop 1, l.getD 0 0) else (l.take (l.length - 1), l.getD (l.length - 1) 0)
def stepF (o : Int) (st : List Int) (k a b : Int) : Option (List Int × Int) :=
 if knowsF o k = false ∨ (singleF o = true ∧ st.length ≠ 1) then none else
 if o = 1 then some ([(regF (st.getD 0 0) k a b).1], (regF (st.getD 0 0) k a b).2) else
 if o = 2 then some ([if k = 4 then IntKind.i64.wrap (st.getD 0 0 + a) else st.getD 0 0], if k = 4 then IntKind.i64.wrap (st.getD 0 0 + a) else st.getD 0 0) else
 if o = 3 then some (setF st k a) else
 if o = 6 then (if st.getD 0 0 = oneF (k == 12) then some ([oneF (k == 11)], 0) else none) else
 some (lineF o st k a)
def okSt (o : Int) (st : List Int) : Prop := o = 3 → st.Pairwise (· < ·)
theorem okSt_start (o : Int) : okSt o (startF o) := by
 intro h
 subst h
 simp [startF, singleF]
theorem posF_le (l : List Int) (a : Int) : posF l a ≤ l.length := List.length_filter_le ..
theorem posF_split : ∀ (l : List Int) (a : Int), l.Pairwise (· < ·) → (∀ x ∈ l.take (posF l a), x < a) ∧ (∀ x ∈ l.drop (posF l a), a ≤ x)
 | [], a, _ => by simp
 | x :: l, a, h => by
  have hp := List.pairwise_cons.1 h
  by_cases hx : x < a
  ·have e : posF (x :: l) a = posF l a + 1 := by simp [posF, hx]
   obtain ⟨h1, h2⟩ := posF_split l a hp.2
   rw [e, List.take_succ_cons, List.drop_succ_cons]
   refine ⟨fun y hy => ?_, h2⟩
   rcases List.mem_cons.1 hy with rfl | hy
   ·exact hx
   exact h1 y hy
  have e : posF (x :: l) a = 0 := by
   unfold posF
   rw [List.length_eq_zero_iff, List.filter_eq_nil_iff]
   intro y hy
   rcases List.mem_cons.1 hy with rfl | hy
   ·simpa using hx
   have := hp.1 y hy
   simp; omega
  rw [e, List.take_zero, List.drop_zero]
  refine ⟨fun y hy => by simp at hy, fun y hy => ?_⟩
  rcases List.mem_cons.1 hy with rfl | hy
  ·omega
  have := hp.1 y hy; omega
theorem insF_sorted {l : List Int} (h : l.Pairwise (· < ·)) (hn : a ∉ l) : (insF l a).Pairwise (· < ·) := by
 obtain ⟨h1, h2⟩ := posF_split l a h
 unfold insF
 have hs : (l.take (posF l a) ++ l.drop (posF l a)).Pairwise (· < ·) := by rw [List.take_append_drop]; exact h
 obtain ⟨p1, p2, p3⟩ := List.pairwise_append.1 hs
 refine List.pairwise_append.2 ⟨p1, List.pairwise_cons.2 ⟨fun x hx => ?_, p2⟩, fun x hx y hy => ?_⟩
 ·have e1 := h2 x hx
  have e2 : a ≠ x := fun e => hn (e ▸ List.mem_of_mem_drop hx)
  omega
 rcases List.mem_cons.1 hy with rfl | hy
 ·exact h1 x hx
 exact p3 x hx y hy
theorem delF_sorted {l : List Int} (h : l.Pairwise (· < ·)) : (delF l a).Pairwise (· < ·) := by
 unfold delF
 have : (l.take (posF l a) ++ l.drop (posF l a + 1)).Sublist l := by
  have e : l = l.take (posF l a) ++ l.drop (posF l a) := (List.take_append_drop ..).symm
  have hs : (l.drop (posF l a + 1)).Sublist (l.drop (posF l a)) := by
   rw [← List.drop_drop]
   exact List.drop_sublist ..
  conv => rhs; rw [e]
  exact (List.Sublist.refl _).append hs
 exact h.sublist this
theorem stepF_ok {st : List Int} {k b r : Int} (h : stepF o st k a b = some (st', r)) (hs : okSt o st) : okSt o st' := by
 intro ho
 subst ho
 have hst := hs rfl
 unfold stepF at h
 simp [singleF] at h
 obtain ⟨_, h⟩ := h
 unfold setF at h
 split at h
 ·rename_i hk
  injection h with h1 _
  subst h1
  exact insF_sorted hst hk.2
 split at h
 ·injection h with h1 _
  subst h1
  exact delF_sorted hst
 injection h with h1 _
 subst h1
 exact hst
structure Op8 where
 proc : Int
 key : Int
 kind : Int
 a : Int
 b : Int
 res : Int
 call : Int
 ret : Int
deriving DecidableEq
variable {l : List Op8}
def opV (o : Op8) : List Value := [.int .i64 o.proc, .int .i64 o.key, .int .i64 o.kind, .int .i64 o.a, .int .i64 o.b, .int .i64 o.res, .int .i64 o.call, .int .i64 o.ret]
def oAt (l : List Op8) (k : Nat) : Op8 := l.getD k ⟨0, 0, 0, 0, 0, 0, 0, 0⟩
theorem stepF_len {st : List Int} {k b r : Int} (h : stepF o st k a b = some (st', r)) : st'.length ≤ st.length + 1 := by
 unfold stepF at h
 split at h
 ·cases h
 split at h
 ·injection h with h; injection h with h1 _; subst h1; simp
 split at h
 ·injection h with h; injection h with h1 _; subst h1; simp
 split at h
 ·injection h with h
  have h1 : (setF st k a).1 = st' := by rw [h]
  subst h1
  have := posF_le st a
  unfold setF
  split
  ·simp [insF]; omega
  split
  ·simp [delF]; omega
  simp
 split at h
 ·split at h
  ·injection h with h; injection h with h1 _; subst h1; simp
  cases h
 injection h with h
 have h1 : (lineF o st k a).1 = st' := by rw [h]
 subst h1
 unfold lineF
 split
 ·simp
 split
 ·simp
 split
 ·simp; omega
 simp; omega
theorem startF_len (o : Int) : (startF o).length ≤ 1 := by
 unfold startF
 split <;> simp
def dig36 (d : Nat) : Nat := if d < 10 then 48 + d else 87 + d
def digs36 : Nat → Nat → List Nat → List Nat
 | 0, u, acc => dig36 (u % 36) :: acc
 | f + 1, u, acc => if u < 36 then dig36 u :: acc else digs36 f (u / 36) (dig36 (u % 36) :: acc)
def okC (c : Nat) : Prop := c ≠ 32 ∧ c ≠ 124 ∧ c < 256
theorem okC_dig {d : Nat} (h : d < 36) : okC (dig36 d) ∧ dig36 d ≠ 45 := by
 unfold okC dig36
 split <;> omega
theorem okC_digs : ∀ (f u : Nat) (acc : List Nat), (∀ c ∈ acc, okC c ∧ c ≠ 45) → ∀ c ∈ digs36 f u acc, okC c ∧ c ≠ 45
 | 0, u, acc, h => by
  intro c hc
  rcases List.mem_cons.1 hc with rfl | hc
  ·exact okC_dig (Nat.mod_lt _ (by omega))
  exact h c hc
 | f + 1, u, acc, h => by
  rw [digs36]
  split
  ·rename_i h1
   intro c hc
   rcases List.mem_cons.1 hc with rfl | hc
   ·exact okC_dig h1
   exact h c hc
  refine okC_digs f _ _ fun c hc => ?_
  rcases List.mem_cons.1 hc with rfl | hc
  ·exact okC_dig (Nat.mod_lt _ (by omega))
  exact h c hc
def dig (u : Nat) : List Nat := digs36 13 u []
def itoa36 (n : Int) : List Nat := if n < 0 then 45 :: dig n.natAbs else dig n.natAbs
def i64B (n : Int) : Prop := -9223372036854775808 ≤ n ∧ n ≤ 9223372036854775807
theorem dig_ok (u : Nat) : ∀ c ∈ dig u, okC c ∧ c ≠ 45 := okC_digs 13 u [] (by simp)
theorem itoa_ok (n : Int) : ∀ c ∈ itoa36 n, okC c := by
 intro c hc
 unfold itoa36 at hc
 split at hc
 ·rcases List.mem_cons.1 hc with rfl | hc
  ·exact ⟨by decide, by decide, by decide⟩
  exact (dig_ok _ c hc).1
 exact (dig_ok _ c hc).1
def encL (l : List Int) : List Nat := l.flatMap (fun n => 32 :: itoa36 n) ++ [124]
def encS (sts : Nat → List Int) (ks : List Nat) : List Nat := ks.flatMap fun k => encL (sts k)
def bitF (b : Bool) : Nat := if b then 49 else 48
def keyF (n : Nat) (dn : Nat → Bool) (sts : Nat → List Int) : List Nat := (List.range n).map (fun i => bitF (dn i)) ++ encS sts (List.range 8)
theorem encL_small (l : List Int) : ∀ c ∈ encL l, c < 256 := by
 intro c hc
 rcases List.mem_append.1 hc with hc | hc
 ·obtain ⟨n, _, hc⟩ := List.mem_flatMap.1 hc
  rcases List.mem_cons.1 hc with rfl | hc
  ·decide
  exact (itoa_ok n c hc).2.2
 have : c = 124 := by simpa using hc
 omega
theorem keyF_small (n : Nat) (dn : Nat → Bool) (sts : Nat → List Int) : ∀ c ∈ keyF n dn sts, c < 256 := by
 intro c hc
 rcases List.mem_append.1 hc with hc | hc
 ·obtain ⟨i, _, rfl⟩ := List.mem_map.1 hc
  unfold bitF
  split <;> decide
 obtain ⟨k, _, hc⟩ := List.mem_flatMap.1 hc
 exact encL_small _ c hc
def strB (l : List Nat) : ByteArray := ⟨(l.map UInt8.ofNat).toArray⟩
theorem strB_inj {l l' : List Nat} (h1 : ∀ c ∈ l, c < 256) (h2 : ∀ c ∈ l', c < 256) (h : strB l = strB l') : l = l' := by
 unfold strB at h
 injection h with h
 have h := congrArg Array.toList h
 simp only at h
 have g : ∀ l : List Nat, (∀ c ∈ l, c < 256) → (l.map UInt8.ofNat).map UInt8.toNat = l := by
  intro l hl
  rw [List.map_map]
  conv => rhs; rw [← List.map_id l]
  refine List.map_congr_left fun c hc => ?_
  simp [Function.comp]
  have := hl c hc
  omega
 rw [← g l h1, ← g l' h2, h]
structure SSt where
 dn : Nat → Bool
 sts : Nat → List Int
 ord : List Int
 ent : List (List Nat)
def dnSet (dn : Nat → Bool) (i : Nat) (b : Bool) : Nat → Bool := fun x => if x = i then b else dn x
def stSet (sts : Nat → List Int) (k : Nat) (st : List Int) : Nat → List Int := fun j => if j = k then st else sts j
def allF (l : List Op8) (dn : Nat → Bool) : Bool := (List.range l.length).all fun i => !decide (0 ≤ (oAt l i).ret) || dn i
def nextF (l : List Op8) (ab : Op8 → Op8 → Bool) (dn : Nat → Bool) (i : Nat) : Bool := !dn i && (List.range l.length).all fun k => k == i || dn k || !ab (oAt l k) (oAt l i)
def keyN (l : List Op8) (i : Nat) : Nat := (oAt l i).key.toNat
def goF (o : Int) (l : List Op8) (sts : Nat → List Int) (i : Nat) : Option (List Int) := match stepF o (sts (keyN l i)) (oAt l i).kind (oAt l i).a (oAt l i).b with
 | none => none
 | some (st', r) => if (oAt l i).ret ≠ -1 ∧ r ≠ (oAt l i).res then none else some st'
def stepS (l : List Op8) (s : SSt) (i : Nat) (st' : List Int) : SSt := ⟨dnSet s.dn i true, stSet s.sts (keyN l i) st', s.ord ++ [(i : Int)], s.ent⟩
def loopF (o : Int) (l : List Op8) (ab : Op8 → Op8 → Bool) (rec : SSt → Int × SSt) : List Nat → SSt → Int × SSt
 | [], s => (2, s)
 | i :: r, s => match nextF l ab s.dn i with
  | false => loopF o l ab rec r s
  | true => match goF o l s.sts i with
   | none => loopF o l ab rec r s
   | some st' => if (rec (stepS l s i st')).1 = 2 then loopF o l ab rec r ⟨s.dn, s.sts, s.ord, (rec (stepS l s i st')).2.ent⟩ else rec (stepS l s i st')
section
variable {o : Int} {l : List Op8} {ab : Op8 → Op8 → Bool} {rec : SSt → Int × SSt} {i : Nat} {r : List Nat} {s : SSt} {st' : List Int}
theorem loopF_skip (h : nextF l ab s.dn i = false) : loopF o l ab rec (i :: r) s = loopF o l ab rec r s := by rw [loopF, h]
theorem loopF_no (h : nextF l ab s.dn i = true) (hg : goF o l s.sts i = none) : loopF o l ab rec (i :: r) s = loopF o l ab rec r s := by rw [loopF, h, hg]
theorem loopF_on (h : nextF l ab s.dn i = true) (hg : goF o l s.sts i = some st') (h2 : (rec (stepS l s i st')).1 = 2) : loopF o l ab rec (i :: r) s = loopF o l ab rec r ⟨s.dn, s.sts, s.ord, (rec (stepS l s i st')).2.ent⟩ := by rw [loopF, h, hg]; exact if_pos h2
theorem loopF_hit (h : nextF l ab s.dn i = true) (hg : goF o l s.sts i = some st') (h2 : (rec (stepS l s i st')).1 ≠ 2) : loopF o l ab rec (i :: r) s = rec (stepS l s i st') := by rw [loopF, h, hg]; exact if_neg h2
end
def putE (l : List Op8) (s : SSt) : SSt := ⟨s.dn, s.sts, s.ord, s.ent ++ [keyF l.length s.dn s.sts]⟩
def enterF (o : Int) (l : List Op8) (ab : Op8 → Op8 → Bool) (bud : Nat) : Nat → SSt → Int × SSt
 | 0, s => (2, s)
 | f + 1, s => match allF l s.dn with
  | true => (1, s)
  | false => if keyF l.length s.dn s.sts ∈ s.ent then (2, s) else if s.ent.length = bud then (3, s) else loopF o l ab (enterF o l ab bud f) (List.range l.length) (putE l s)
section
variable {o : Int} {l : List Op8} {ab : Op8 → Op8 → Bool} {bud f : Nat} {s : SSt}
theorem enterF_all (h : allF l s.dn = true) : enterF o l ab bud (f + 1) s = (1, s) := by rw [enterF, h]
theorem enterF_old (h : allF l s.dn = false) (hk : keyF l.length s.dn s.sts ∈ s.ent) : enterF o l ab bud (f + 1) s = (2, s) := by rw [enterF, h]; exact if_pos hk
theorem enterF_over (h : allF l s.dn = false) (hk : keyF l.length s.dn s.sts ∉ s.ent) (hb : s.ent.length = bud) : enterF o l ab bud (f + 1) s = (3, s) := by rw [enterF, h]; exact (if_neg hk).trans (if_pos hb)
theorem enterF_go (h : allF l s.dn = false) (hk : keyF l.length s.dn s.sts ∉ s.ent) (hb : s.ent.length ≠ bud) : enterF o l ab bud (f + 1) s = loopF o l ab (enterF o l ab bud f) (List.range l.length) (putE l s) := by rw [enterF, h]; exact (if_neg hk).trans (if_neg hb)
end
def startS (o : Int) : SSt := ⟨fun _ => false, fun k => if k < 8 then startF o else [], [], []⟩
def verdF (o : Int) (l : List Op8) (ab : Op8 → Op8 → Bool) (bud : Nat) : Int × SSt := enterF o l ab bud (l.length + 1) (startS o)
def cntD (n : Nat) (dn : Nat → Bool) : Nat := (List.range n).countP dn
def undn (n : Nat) (dn : Nat → Bool) : Nat := (List.range n).countP fun i => !dn i
theorem cnt_undn (n : Nat) (dn : Nat → Bool) : cntD n dn + undn n dn = n := by
 unfold cntD undn
 induction n with
 | zero => rfl
 | succ n ih =>
  rw [List.range_succ, List.countP_append, List.countP_append]
  cases h : dn n <;> simp [h] at ih ⊢ <;> omega
theorem cntD_far {n : Nat} {b : Bool} (h : n ≤ i) : cntD n (dnSet dn i b) = cntD n dn := by
 unfold cntD
 refine List.countP_congr fun x hx => ?_
 have := List.mem_range.1 hx
 unfold dnSet
 rw [if_neg (by omega)]
theorem cntD_set : ∀ {n i : Nat} {dn : Nat → Bool}, i < n → dn i = false → cntD n (dnSet dn i true) = cntD n dn + 1
 | 0, _, _, h, _ => by omega
 | n + 1, i, dn, h, hd => by
  unfold cntD
  rw [List.range_succ, List.countP_append, List.countP_append]
  by_cases hi : i = n
  ·subst hi
   have := cntD_far (n := i) (i := i) (dn := dn) (b := true) (Nat.le_refl _)
   unfold cntD at this
   rw [this]
   simp [dnSet, hd]
  have := cntD_set (n := n) (i := i) (dn := dn) (by omega) hd
  unfold cntD at this
  rw [this]
  have e : dnSet dn i true n = dn n := by unfold dnSet; rw [if_neg (Ne.symm hi)]
  simp [e]
  omega
theorem undn_set {n : Nat} (h : i < n) (hd : dn i = false) : undn n (dnSet dn i true) + 1 = undn n dn := by
 have h1 := cnt_undn n dn
 have h2 := cnt_undn n (dnSet dn i true)
 have h3 := cntD_set h hd
 omega
theorem next_dn {ab : Op8 → Op8 → Bool} (h : nextF l ab dn i = true) : dn i = false := by
 unfold nextF at h
 simp at h
 exact h.1
section
variable {o : Int} {l : List Op8} {ab : Op8 → Op8 → Bool}
theorem loop_len {rec : SSt → Int × SSt} {B : Nat} (hrec : ∀ s, s.ent.length ≤ B → (rec s).2.ent.length ≤ B) : ∀ (r : List Nat) (s : SSt), s.ent.length ≤ B → (loopF o l ab rec r s).2.ent.length ≤ B
 | [], s, h => h
 | i :: r, s, h => by
  unfold loopF
  split
  ·exact loop_len hrec r s h
  split
  ·exact loop_len hrec r s h
  split
  ·exact loop_len hrec r _ (hrec _ h)
  exact hrec _ h
theorem enter_len {bud : Nat} : ∀ (f : Nat) (s : SSt), s.ent.length ≤ bud → (enterF o l ab bud f s).2.ent.length ≤ bud
 | 0, s, h => h
 | f + 1, s, h => by
  unfold enterF
  split
  ·exact h
  split
  ·exact h
  split
  ·exact h
  refine loop_len (enter_len f) _ _ ?_
  simp [putE]
  omega
theorem undn_start (n : Nat) : undn n (fun _ => false) = n := by simp [undn]
end
structure ArgsOk (l : List Op8) : Prop where
 key : ∀ i, i < l.length → 0 ≤ (oAt l i).key ∧ (oAt l i).key < 8
 a : ∀ i, i < l.length → i64B (oAt l i).a
 b : ∀ i, i < l.length → i64B (oAt l i).b
 ret : ∀ i, i < l.length → (oAt l i).ret = -1 ∨ 0 ≤ (oAt l i).ret
theorem ArgsOk.keyN (h : ArgsOk l) (hi : i < l.length) : keyN l i < 8 := by
 have := h.key i hi
 unfold Go.Proofs.YtnckdmogdehnoaaGreatDoor.keyN
 omega
structure GoodS (o : Int) (n : Nat) (dn : Nat → Bool) (sts : Nat → List Int) : Prop where
 dnOut : ∀ i, n ≤ i → dn i = false
 stOut : ∀ k, 8 ≤ k → sts k = []
 i64 : ∀ k, ∀ x ∈ sts k, i64B x
 ok : ∀ k, okSt o (sts k)
 len : ∀ k, (sts k).length ≤ cntD n dn + 1
theorem wrap_i64B (z : Int) : i64B (IntKind.i64.wrap z) := by
 unfold i64B
 simp [IntKind.wrap, IntKind.signed, IntKind.bits]
 split <;> omega
theorem stepF_i64 {st : List Int} {k b r : Int} (h : stepF o st k a b = some (st', r)) (hs : ∀ x ∈ st, i64B x) (ha : i64B a) (hb : i64B b) : ∀ x ∈ st', i64B x := by
 have h0 : i64B (st.getD 0 0) := by
  cases st with
  | nil => exact ⟨by decide, by decide⟩
  | cons x st => exact hs x (by simp)
 have hone : ∀ b : Bool, i64B (oneF b) := fun b => by cases b <;> exact ⟨by decide, by decide⟩
 unfold stepF at h
 split at h
 ·cases h
 split at h
 ·injection h with h; injection h with h1 _; subst h1
  intro x hx
  rw [List.mem_singleton.1 hx]
  unfold regF
  split
  ·exact h0
  split
  ·exact ha
  split
  ·exact hb
  exact h0
 split at h
 ·injection h with h; injection h with h1 _; subst h1
  intro x hx
  rw [List.mem_singleton.1 hx]
  split
  ·exact wrap_i64B _
  exact h0
 split at h
 ·injection h with h
  have h1 : (setF st k a).1 = st' := by rw [h]
  subst h1
  unfold setF
  intro x hx
  split at hx
  ·simp only [insF, List.mem_append, List.mem_cons] at hx
   rcases hx with hx | rfl | hx
   ·exact hs x (List.mem_of_mem_take hx)
   ·exact ha
   exact hs x (List.mem_of_mem_drop hx)
  split at hx
  ·simp only [delF, List.mem_append] at hx
   rcases hx with hx | hx
   ·exact hs x (List.mem_of_mem_take hx)
   exact hs x (List.mem_of_mem_drop hx)
  exact hs x hx
 split at h
 ·split at h
  ·injection h with h; injection h with h1 _; subst h1
   intro x hx
   rw [List.mem_singleton.1 hx]
   exact hone _
  cases h
 injection h with h
 have h1 : (lineF o st k a).1 = st' := by rw [h]
 subst h1
 unfold lineF
 intro x hx
 split at hx
 ·rcases List.mem_append.1 hx with hx | hx
  ·exact hs x hx
  rw [List.mem_singleton.1 hx]; exact ha
 split at hx
 ·exact hs x hx
 split at hx
 ·exact hs x (List.mem_of_mem_drop hx)
 exact hs x (List.mem_of_mem_take hx)
theorem goF_step {sts : Nat → List Int} (h : goF o l sts i = some st') : ∃ r, stepF o (sts (keyN l i)) (oAt l i).kind (oAt l i).a (oAt l i).b = some (st', r) ∧ ¬ ((oAt l i).ret ≠ -1 ∧ r ≠ (oAt l i).res) := by
 unfold goF at h
 split at h
 ·cases h
 rename_i s' r hs
 split at h
 ·cases h
 rename_i hn
 injection h with h
 subst h
 exact ⟨r, hs, hn⟩
theorem GoodS.step {sts : Nat → List Int} (h : GoodS o l.length dn sts) (hA : ArgsOk l) (hi : i < l.length) (hd : dn i = false) (hg : goF o l sts i = some st') : GoodS o l.length (dnSet dn i true) (stSet sts (keyN l i) st') := by
 obtain ⟨r, hs, _⟩ := goF_step hg
 have hc := cntD_set hi hd
 have hk := hA.keyN hi
 refine ⟨fun j hj => ?_, fun k hk' => ?_, fun k => ?_, fun k => ?_, fun k => ?_⟩
 ·unfold dnSet; rw [if_neg (by omega)]; exact h.dnOut j hj
 ·unfold stSet; rw [if_neg (by omega)]; exact h.stOut k hk'
 ·unfold stSet; split
  ·exact stepF_i64 hs (h.i64 _) (hA.a i hi) (hA.b i hi)
  exact h.i64 k
 ·unfold stSet; split
  ·exact stepF_ok hs (h.ok _)
  exact h.ok k
 rw [hc]; unfold stSet; split
 ·have := stepF_len hs
  have := h.len (keyN l i)
  omega
 have := h.len k
 omega
theorem goodS_start (o : Int) (n : Nat) : GoodS o n (startS o).dn (startS o).sts := by
 refine ⟨fun _ _ => Z, fun k hk => if_neg (by omega), fun k x hx => ?_, fun k => ?_, fun k => ?_⟩
 ·simp only [startS] at hx
  split at hx
  ·unfold startF at hx
   split at hx
   ·rw [List.mem_singleton.1 hx]; exact ⟨by decide, by decide⟩
   cases hx
  cases hx
 ·simp only [startS]
  split
  ·exact okSt_start o
  intro _; exact .nil
 simp only [startS]
 split
 ·have := startF_len o; omega
 simp
section
variable (o : Int) (l : List Op8) (ab : Op8 → Op8 → Bool)
end
section
variable {o : Int} {l : List Op8} {ab : Op8 → Op8 → Bool}
def RunL (o : Int) (l : List Op8) : List Int → (Nat → List Int) → (Nat → List Int) → Prop
 | [], a, b => a = b
 | i :: r, a, b => ∃ st', goF o l a i.toNat = some st' ∧ RunL o l r (stSet a (keyN l i.toNat) st') b
theorem RunL_snoc {i : Int} {st' : List Int} : ∀ (r : List Int) (a b : Nat → List Int), RunL o l r a b → goF o l b i.toNat = some st' → RunL o l (r ++ [i]) a (stSet b (keyN l i.toNat) st')
 | [], a, b, h, hg => by
  have h : a = b := h
  subst h
  exact ⟨st', hg, Z⟩
 | j :: r, a, b, h, hg => by
  obtain ⟨s1, h1, h2⟩ := h
  exact ⟨s1, h1, RunL_snoc r _ b h2 hg⟩
structure Reach (o : Int) (l : List Op8) (ab : Op8 → Op8 → Bool) (dn : Nat → Bool) (sts : Nat → List Int) (ord : List Int) : Prop where
 dnE : ∀ i, dn i = ord.contains ((i : Nat) : Int)
 rng : ∀ i ∈ ord, 0 ≤ i ∧ i < l.length
 nodup : ord.Nodup
 run : RunL o l ord (startS o).sts sts
 ahead : ord.Pairwise fun a b => ab (oAt l b.toNat) (oAt l a.toNat) = false
 left : ∀ a ∈ ord, ∀ k, k < l.length → dn k = false → ab (oAt l k) (oAt l a.toNat) = false
theorem Reach.start : Reach o l ab (fun _ => false) (startS o).sts [] := ⟨fun i => by simp, by simp, by simp, rfl, .nil, by simp⟩
theorem Reach.step {sts : Nat → List Int} {ord : List Int} (h : Reach o l ab dn sts ord) (hi : i < l.length) (hn : nextF l ab dn i = true) (hg : goF o l sts i = some st') : Reach o l ab (dnSet dn i true) (stSet sts (keyN l i) st') (ord ++ [(i : Int)]) := by
 have hd := next_dn hn
 have hnx : ∀ k, k < l.length → k ≠ i → dn k = false → ab (oAt l k) (oAt l i) = false := by
  intro k hk hki hdk
  unfold nextF at hn
  simp only [Bool.and_eq_true, List.all_eq_true, List.mem_range] at hn
  have := hn.2 k hk
  simp [hki, hdk] at this
  exact this
 have hni : ((i : Nat) : Int) ∉ ord := fun hm => by
  have := h.dnE i
  rw [hd] at this
  simp [hm] at this
 refine ⟨fun j => ?_, fun j hj => ?_, ?_, ?_, ?_, fun a ha k hk hdk => ?_⟩
 ·unfold dnSet
  by_cases hj : j = i
  ·subst hj; simp
  rw [if_neg hj, h.dnE j]
  rw [Bool.eq_iff_iff]
  simp
  omega
 ·rcases List.mem_append.1 hj with hj | hj
  ·exact h.rng j hj
  rw [List.mem_singleton.1 hj]; omega
 ·rw [List.nodup_append]
  refine ⟨h.nodup, by simp, fun a ha b hb => ?_⟩
  rw [List.mem_singleton.1 hb]
  intro e
  exact hni (e ▸ ha)
 ·exact RunL_snoc (i := (i : Int)) ord _ _ h.run (by simpa using hg)
 ·rw [List.pairwise_append]
  refine ⟨h.ahead, by simp, fun a ha b hb => ?_⟩
  rw [List.mem_singleton.1 hb, Int.toNat_natCast]
  exact h.left a ha i hi hd
 have hki : k ≠ i := fun e => by subst e; simp [dnSet] at hdk
 have hdk' : dn k = false := by unfold dnSet at hdk; rwa [if_neg hki] at hdk
 rcases List.mem_append.1 ha with ha | ha
 ·exact h.left a ha k hk hdk'
 rw [List.mem_singleton.1 ha, Int.toNat_natCast]
 exact hnx k hk hki hdk'
theorem loop_sound {rec : SSt → Int × SSt} (hrec : ∀ s, Reach o l ab s.dn s.sts s.ord → (rec s).1 = 1 → allF l (rec s).2.dn = true ∧ Reach o l ab (rec s).2.dn (rec s).2.sts (rec s).2.ord) :
  ∀ (r : List Nat) (s : SSt), (∀ i ∈ r, i < l.length) → Reach o l ab s.dn s.sts s.ord → (loopF o l ab rec r s).1 = 1 → allF l (loopF o l ab rec r s).2.dn = true ∧ Reach o l ab (loopF o l ab rec r s).2.dn (loopF o l ab rec r s).2.sts (loopF o l ab rec r s).2.ord
 | [], s, _, _, h => absurd h (by simp [loopF])
 | i :: r, s, hr, hR, h => by
  have hr' : ∀ j ∈ r, j < l.length := fun j hj => hr j (by simp [hj])
  cases hx : nextF l ab s.dn i with
  | false =>
   rw [loopF_skip hx] at h ⊢
   exact loop_sound hrec r s hr' hR h
  | true =>
   cases hg0 : goF o l s.sts i with
   | none =>
    rw [loopF_no hx hg0] at h ⊢
    exact loop_sound hrec r s hr' hR h
   | some st1 =>
    by_cases hc2 : (rec (stepS l s i st1)).1 = 2
    ·rw [loopF_on hx hg0 hc2] at h ⊢
     exact loop_sound hrec r ⟨s.dn, s.sts, s.ord, (rec (stepS l s i st1)).2.ent⟩ hr' hR h
    rw [loopF_hit hx hg0 hc2] at h ⊢
    exact hrec (stepS l s i st1) (hR.step (hr i (by simp)) hx hg0) h
theorem enter_sound {bud : Nat} : ∀ (f : Nat) (s : SSt), Reach o l ab s.dn s.sts s.ord → (enterF o l ab bud f s).1 = 1 → allF l (enterF o l ab bud f s).2.dn = true ∧ Reach o l ab (enterF o l ab bud f s).2.dn (enterF o l ab bud f s).2.sts (enterF o l ab bud f s).2.ord
 | 0, s, _, h => absurd h (by simp [enterF])
 | f + 1, s, hR, h => by
  cases ha : allF l s.dn with
  | true => rw [enterF_all ha]; exact ⟨ha, hR⟩
  | false =>
   by_cases hk : keyF l.length s.dn s.sts ∈ s.ent
   ·rw [enterF_old ha hk] at h; exact absurd h (by simp)
   by_cases hb : s.ent.length = bud
   ·rw [enterF_over ha hk hb] at h; exact absurd h (by simp)
   rw [enterF_go ha hk hb] at h ⊢
   exact loop_sound (enter_sound f) _ (putE l s) (fun i hi => List.mem_range.1 hi) hR h
theorem verd_sound {bud : Nat} (h : (verdF o l ab bud).1 = 1) : allF l (verdF o l ab bud).2.dn = true ∧ Reach o l ab (verdF o l ab bud).2.dn (verdF o l ab bud).2.sts (verdF o l ab bud).2.ord := enter_sound _ _ Reach.start h
end
end Go.Proofs.YtnckdmogdehnoaaGreatDoor
